-- written by a program of this session, on the lines of the kit's print
import Derived.Test.YtidlbifgfciikaaQFnBucketsx0
import Derived.Test.YtidlbifgfciikaaQFnBucketsx1
import Derived.Test.YtidlbifgfciikaaQFnBucketsx2
import Derived.Test.YtidlbifgfciikaaQFnBucketsx4
import Derived.Test.YtidlbifgfciikaaQFnBucketsx5
namespace Go.Proofs.Ytidlbifgfciikaa.QFnBuckets
open Go.RowKit Go.Proofs.YtidlbifgfciikaaW.PrintWords Go.Proofs.YtidlbifgfciikaaW.PrintLast Go.Proofs.YtidlbifgfciikaaW.PrintMore
attribute [local go_sem] max2_int min2_int max_two min_two max_three min_three max_four min_four   -- for this text's walks alone
set_option linter.unusedVariables false
set_option linter.unusedSimpArgs false

attribute [local go_sem high] eqA25
abbrev T : Bool := true
abbrev F : Bool := false
theorem s1_ {P : Prop} (h : P := by first | rfl | (simp; done) | (simp [*]; done)) : P := h
theorem s2_ {P : Prop} (h : P := by kernel_rfl) : P := h
theorem p1_ {P : Prop} (h : P := by simp only [Act.put, List.setIfInBounds_toArray, List.set_cons_zero, List.set_cons_succ, i64_w, i32_w]; rfl) : P := h
theorem b1_ {P Q : Prop} (q : Q) (h : Q → P := by intro q_; (with_reducible repeat (first | refine blk_drewN ?_ _ | refine blk_drew ?_ | refine blk_alloc ?_ _)); exact q_) : P := h q
theorem b2_ {P Q : Prop} (q : Q) (h : Q → P := by intro q_; (with_reducible repeat (first | apply Kd.R_alloc | apply Kd.R_drewN | apply Kd.R_drew)); exact q_) : P := h q
/-! ### laws_FnBuckets: function 8 -/
mutual
def laws_FnBuckets.j0 : Nat → List Int → List Bool → Int → List Bool → List Bool → Bool → Int → Int → Int → Int → Option (Bool)
  | 0, _, _, _, _, _, _, _, _, _, _ => none
  | k + 1, x6, x8, x10, x12, x15, x100, x188000, x188001, x188002, x188003 => if x100 = true then (some false) else (laws_FnBuckets.l0 k x6 x8 x10 x12 x15 0 x188000 x188001 x188002 x188003)
def laws_FnBuckets.l0 : Nat → List Int → List Bool → Int → List Bool → List Bool → Int → Int → Int → Int → Int → Option (Bool)
  | 0, _, _, _, _, _, _, _, _, _, _ => none
  | k + 1, x6, x8, x10, x12, x15, x17, x188000, x188001, x188002, x188003 => if x17 < (x6.length : Int) then (if x17 < x10 then (if 0 ≤ x17 then (if x17 < (x12.length : Int) then (if x17 < (x8.length : Int) then (if ((rdOf false x12 x17) != (rdOf false x8 x17)) = true then (laws_FnBuckets.j2 k x6 x8 x10 x12 x15 x17 true x188000 x188001 x188002 x188003) else (if x17 ≥ x10 then (if 0 ≤ (wrap64 (x17 - x10)) then (if (wrap64 (x17 - x10)) < (x15.length : Int) then (laws_FnBuckets.j2 k x6 x8 x10 x12 x15 x17 ((rdOf false x15 (wrap64 (x17 - x10))) != (rdOf false x8 x17)) x188000 x188001 x188002 x188003) else (none)) else (none)) else (laws_FnBuckets.j2 k x6 x8 x10 x12 x15 x17 false x188000 x188001 x188002 x188003))) else (none)) else (none)) else (none)) else (if x17 ≥ x10 then (if 0 ≤ (wrap64 (x17 - x10)) then (if (wrap64 (x17 - x10)) < (x15.length : Int) then (if 0 ≤ x17 then (if x17 < (x8.length : Int) then (laws_FnBuckets.j2 k x6 x8 x10 x12 x15 x17 ((rdOf false x15 (wrap64 (x17 - x10))) != (rdOf false x8 x17)) x188000 x188001 x188002 x188003) else (none)) else (none)) else (none)) else (none)) else (laws_FnBuckets.j2 k x6 x8 x10 x12 x15 x17 false x188000 x188001 x188002 x188003))) else (some true)
def laws_FnBuckets.j2 : Nat → List Int → List Bool → Int → List Bool → List Bool → Int → Bool → Int → Int → Int → Int → Option (Bool)
  | 0, _, _, _, _, _, _, _, _, _, _, _ => none
  | k + 1, x6, x8, x10, x12, x15, x17, x138, x188000, x188001, x188002, x188003 => if x138 = true then (some false) else (laws_FnBuckets.l1 k x6 x8 x10 x12 x15 x17 0 x17 x188000 x188001 x188002 x188003)
def laws_FnBuckets.l1 : Nat → List Int → List Bool → Int → List Bool → List Bool → Int → Int → Int → Int → Int → Int → Int → Option (Bool)
  | 0, _, _, _, _, _, _, _, _, _, _, _, _ => none
  | k + 1, x6, x8, x10, x12, x15, x17, x18, x19, x188000, x188001, x188002, x188003 => if x19 < (x6.length : Int) then (if 0 ≤ x19 then (if x19 < (x8.length : Int) then (if rdOf false x8 x19 = true then (if 0 ≤ x17 then (if x17 < (x6.length : Int) then (if x188001 = 0 then (none) else (if (wrap64 (x18 + 1)) > (wrap64 (x188000 + (wrap64 (Int.tdiv (wrap64 ((rd x6 x19) - (rd x6 x17))) x188001)))) then (some false) else (laws_FnBuckets.l1 k x6 x8 x10 x12 x15 x17 (wrap64 (x18 + 1)) (wrap64 (x19 + 1)) x188000 x188001 x188002 x188003))) else (none)) else (none)) else (if 0 ≤ x17 then (if x17 < (x6.length : Int) then (if x188001 = 0 then (none) else (if x18 > (wrap64 (x188000 + (wrap64 (Int.tdiv (wrap64 ((rd x6 x19) - (rd x6 x17))) x188001)))) then (some false) else (laws_FnBuckets.l1 k x6 x8 x10 x12 x15 x17 x18 (wrap64 (x19 + 1)) x188000 x188001 x188002 x188003))) else (none)) else (none))) else (none)) else (none)) else (laws_FnBuckets.l0 k x6 x8 x10 x12 x15 (wrap64 (x17 + 1)) x188000 x188001 x188002 x188003)
end
def laws_FnBuckets.f (k : Nat) (l0 : List Int) (l1 : List Int) : Option (Bool) := (laws_r8Long.f l0 l1).bind fun t182 => (if t182 = true then (some true) else ((spec_R8Bucket.f l0).bind fun bt183 => ((spec_R8Times.f k l1 bt183.2.2.2).bind fun t188 => ((impl_RunBucket.f k bt183.1 bt183.2.1 bt183.2.2.1 bt183.2.2.2 t188).bind fun bt191 => ((laws_r8At.f l1 40 (wrap64 ((t188.length : Int) + 1))).bind fun t200 => (if 0 ≤ t200 then (if t200 ≤ (t188.length : Int) then ((impl_RunBucket.f k bt183.1 bt183.2.1 bt183.2.2.1 bt183.2.2.2 (t188.take (t200 : Int).toNat)).bind fun bt205 => ((impl_RunBucket.f k bt205.1 bt205.2.1 bt205.2.2.1 bt205.2.2.2.1 (t188.drop (t200 : Int).toNat)).bind fun bt218 => (if bt191.2.2.2.2.2 = true then (if bt205.2.2.2.2.2 = true then (if bt218.2.2.2.2.2 = true then (if (!(bt191.1 == bt218.1) || (!(bt191.2.1 == bt218.2.1) || (!(bt191.2.2.1 == bt218.2.2.1) || (!(bt191.2.2.2.1 == bt218.2.2.2.1))))) = true then (laws_FnBuckets.j0 k t188 bt191.2.2.2.2.1 t200 bt205.2.2.2.2.1 bt218.2.2.2.2.1 true bt183.1 bt183.2.1 bt183.2.2.1 bt183.2.2.2) else (if (bt191.2.2.2.2.1.length : Int) = (t188.length : Int) then (if (bt205.2.2.2.2.1.length : Int) = t200 then (if (bt218.2.2.2.2.1.length : Int) = (wrap64 ((t188.length : Int) - t200)) then ((impl_ValidBucket.f bt191.1 bt191.2.1 bt191.2.2.1 bt191.2.2.2.1).bind fun t227 => (laws_FnBuckets.j0 k t188 bt191.2.2.2.2.1 t200 bt205.2.2.2.2.1 bt218.2.2.2.2.1 (!t227) bt183.1 bt183.2.1 bt183.2.2.1 bt183.2.2.2)) else (laws_FnBuckets.j0 k t188 bt191.2.2.2.2.1 t200 bt205.2.2.2.2.1 bt218.2.2.2.2.1 true bt183.1 bt183.2.1 bt183.2.2.1 bt183.2.2.2)) else (laws_FnBuckets.j0 k t188 bt191.2.2.2.2.1 t200 bt205.2.2.2.2.1 bt218.2.2.2.2.1 true bt183.1 bt183.2.1 bt183.2.2.1 bt183.2.2.2)) else (laws_FnBuckets.j0 k t188 bt191.2.2.2.2.1 t200 bt205.2.2.2.2.1 bt218.2.2.2.2.1 true bt183.1 bt183.2.1 bt183.2.2.1 bt183.2.2.2))) else (laws_FnBuckets.j0 k t188 bt191.2.2.2.2.1 t200 bt205.2.2.2.2.1 bt218.2.2.2.2.1 true bt183.1 bt183.2.1 bt183.2.2.1 bt183.2.2.2)) else (laws_FnBuckets.j0 k t188 bt191.2.2.2.2.1 t200 bt205.2.2.2.2.1 bt218.2.2.2.2.1 true bt183.1 bt183.2.1 bt183.2.2.1 bt183.2.2.2)) else (laws_FnBuckets.j0 k t188 bt191.2.2.2.2.1 t200 bt205.2.2.2.2.1 bt218.2.2.2.2.1 true bt183.1 bt183.2.1 bt183.2.2.1 bt183.2.2.2)))) else (none)) else (none)))))))
theorem laws_FnBuckets.mono_l : ∀ k, (∀ y0 y1 y2 y3 y4 y5 y6 y7 y8 y9, LeO (laws_FnBuckets.j0 k y0 y1 y2 y3 y4 y5 y6 y7 y8 y9) (laws_FnBuckets.j0 (k + 1) y0 y1 y2 y3 y4 y5 y6 y7 y8 y9)) ∧ (∀ y0 y1 y2 y3 y4 y5 y6 y7 y8 y9, LeO (laws_FnBuckets.l0 k y0 y1 y2 y3 y4 y5 y6 y7 y8 y9) (laws_FnBuckets.l0 (k + 1) y0 y1 y2 y3 y4 y5 y6 y7 y8 y9)) ∧ (∀ y0 y1 y2 y3 y4 y5 y6 y7 y8 y9 y10, LeO (laws_FnBuckets.j2 k y0 y1 y2 y3 y4 y5 y6 y7 y8 y9 y10) (laws_FnBuckets.j2 (k + 1) y0 y1 y2 y3 y4 y5 y6 y7 y8 y9 y10)) ∧ (∀ y0 y1 y2 y3 y4 y5 y6 y7 y8 y9 y10 y11, LeO (laws_FnBuckets.l1 k y0 y1 y2 y3 y4 y5 y6 y7 y8 y9 y10 y11) (laws_FnBuckets.l1 (k + 1) y0 y1 y2 y3 y4 y5 y6 y7 y8 y9 y10 y11))
  | 0 => ⟨fun _ _ _ _ _ _ _ _ _ _ r h => by simp [laws_FnBuckets.j0] at h, fun _ _ _ _ _ _ _ _ _ _ r h => by simp [laws_FnBuckets.l0] at h, fun _ _ _ _ _ _ _ _ _ _ _ r h => by simp [laws_FnBuckets.j2] at h, fun _ _ _ _ _ _ _ _ _ _ _ _ r h => by simp [laws_FnBuckets.l1] at h⟩
  | k + 1 => by
    obtain ⟨ih0, ih1, ih2, ih3⟩ := laws_FnBuckets.mono_l k
    refine ⟨?_, ?_, ?_, ?_⟩
    · intro y0 y1 y2 y3 y4 y5 y6 y7 y8 y9
      unfold laws_FnBuckets.j0
      repeat' first
      | (with_reducible exact ih0 _ _ _ _ _ _ _ _ _ _)
      | (with_reducible exact ih1 _ _ _ _ _ _ _ _ _ _)
      | (with_reducible exact ih2 _ _ _ _ _ _ _ _ _ _ _)
      | (with_reducible exact ih3 _ _ _ _ _ _ _ _ _ _ _ _)
      | (with_reducible exact impl_RunBucket.mono _ _ _ _ _ _)
      | (with_reducible exact spec_R8Times.mono _ _ _)
      | (with_reducible exact LeO.refl _)
      | (with_reducible exact LeO.none _)
      | (with_reducible refine LeO.ite ?_ ?_)
      | (with_reducible refine LeO.bind ?_ (fun _ => ?_))
      | exact ih0 _ _ _ _ _ _ _ _ _ _
      | exact ih1 _ _ _ _ _ _ _ _ _ _
      | exact ih2 _ _ _ _ _ _ _ _ _ _ _
      | exact ih3 _ _ _ _ _ _ _ _ _ _ _ _
      | exact impl_RunBucket.mono _ _ _ _ _ _
      | exact spec_R8Times.mono _ _ _
      | exact LeO.none _
      | refine LeO.ite ?_ ?_
      | refine LeO.bind ?_ (fun _ => ?_)
    · intro y0 y1 y2 y3 y4 y5 y6 y7 y8 y9
      unfold laws_FnBuckets.l0
      repeat' first
      | (with_reducible exact ih0 _ _ _ _ _ _ _ _ _ _)
      | (with_reducible exact ih1 _ _ _ _ _ _ _ _ _ _)
      | (with_reducible exact ih2 _ _ _ _ _ _ _ _ _ _ _)
      | (with_reducible exact ih3 _ _ _ _ _ _ _ _ _ _ _ _)
      | (with_reducible exact impl_RunBucket.mono _ _ _ _ _ _)
      | (with_reducible exact spec_R8Times.mono _ _ _)
      | (with_reducible exact LeO.refl _)
      | (with_reducible exact LeO.none _)
      | (with_reducible refine LeO.ite ?_ ?_)
      | (with_reducible refine LeO.bind ?_ (fun _ => ?_))
      | exact ih0 _ _ _ _ _ _ _ _ _ _
      | exact ih1 _ _ _ _ _ _ _ _ _ _
      | exact ih2 _ _ _ _ _ _ _ _ _ _ _
      | exact ih3 _ _ _ _ _ _ _ _ _ _ _ _
      | exact impl_RunBucket.mono _ _ _ _ _ _
      | exact spec_R8Times.mono _ _ _
      | exact LeO.none _
      | refine LeO.ite ?_ ?_
      | refine LeO.bind ?_ (fun _ => ?_)
    · intro y0 y1 y2 y3 y4 y5 y6 y7 y8 y9 y10
      unfold laws_FnBuckets.j2
      repeat' first
      | (with_reducible exact ih0 _ _ _ _ _ _ _ _ _ _)
      | (with_reducible exact ih1 _ _ _ _ _ _ _ _ _ _)
      | (with_reducible exact ih2 _ _ _ _ _ _ _ _ _ _ _)
      | (with_reducible exact ih3 _ _ _ _ _ _ _ _ _ _ _ _)
      | (with_reducible exact impl_RunBucket.mono _ _ _ _ _ _)
      | (with_reducible exact spec_R8Times.mono _ _ _)
      | (with_reducible exact LeO.refl _)
      | (with_reducible exact LeO.none _)
      | (with_reducible refine LeO.ite ?_ ?_)
      | (with_reducible refine LeO.bind ?_ (fun _ => ?_))
      | exact ih0 _ _ _ _ _ _ _ _ _ _
      | exact ih1 _ _ _ _ _ _ _ _ _ _
      | exact ih2 _ _ _ _ _ _ _ _ _ _ _
      | exact ih3 _ _ _ _ _ _ _ _ _ _ _ _
      | exact impl_RunBucket.mono _ _ _ _ _ _
      | exact spec_R8Times.mono _ _ _
      | exact LeO.none _
      | refine LeO.ite ?_ ?_
      | refine LeO.bind ?_ (fun _ => ?_)
    · intro y0 y1 y2 y3 y4 y5 y6 y7 y8 y9 y10 y11
      unfold laws_FnBuckets.l1
      repeat' first
      | (with_reducible exact ih0 _ _ _ _ _ _ _ _ _ _)
      | (with_reducible exact ih1 _ _ _ _ _ _ _ _ _ _)
      | (with_reducible exact ih2 _ _ _ _ _ _ _ _ _ _ _)
      | (with_reducible exact ih3 _ _ _ _ _ _ _ _ _ _ _ _)
      | (with_reducible exact impl_RunBucket.mono _ _ _ _ _ _)
      | (with_reducible exact spec_R8Times.mono _ _ _)
      | (with_reducible exact LeO.refl _)
      | (with_reducible exact LeO.none _)
      | (with_reducible refine LeO.ite ?_ ?_)
      | (with_reducible refine LeO.bind ?_ (fun _ => ?_))
      | exact ih0 _ _ _ _ _ _ _ _ _ _
      | exact ih1 _ _ _ _ _ _ _ _ _ _
      | exact ih2 _ _ _ _ _ _ _ _ _ _ _
      | exact ih3 _ _ _ _ _ _ _ _ _ _ _ _
      | exact impl_RunBucket.mono _ _ _ _ _ _
      | exact spec_R8Times.mono _ _ _
      | exact LeO.none _
      | refine LeO.ite ?_ ?_
      | refine LeO.bind ?_ (fun _ => ?_)
theorem laws_FnBuckets.mono : ∀ a0 a1 k, LeO (laws_FnBuckets.f k a0 a1) (laws_FnBuckets.f (k + 1) a0 a1) := by
  intro a0 a1 k
  obtain ⟨ih0, ih1, ih2, ih3⟩ := laws_FnBuckets.mono_l k
  unfold laws_FnBuckets.f
  repeat' first
      | (with_reducible exact ih0 _ _ _ _ _ _ _ _ _ _)
      | (with_reducible exact ih1 _ _ _ _ _ _ _ _ _ _)
      | (with_reducible exact ih2 _ _ _ _ _ _ _ _ _ _ _)
      | (with_reducible exact ih3 _ _ _ _ _ _ _ _ _ _ _ _)
      | (with_reducible exact impl_RunBucket.mono _ _ _ _ _ _)
      | (with_reducible exact spec_R8Times.mono _ _ _)
      | (with_reducible exact LeO.refl _)
      | (with_reducible exact LeO.none _)
      | (with_reducible refine LeO.ite ?_ ?_)
      | (with_reducible refine LeO.bind ?_ (fun _ => ?_))
      | exact ih0 _ _ _ _ _ _ _ _ _ _
      | exact ih1 _ _ _ _ _ _ _ _ _ _
      | exact ih2 _ _ _ _ _ _ _ _ _ _ _
      | exact ih3 _ _ _ _ _ _ _ _ _ _ _ _
      | exact impl_RunBucket.mono _ _ _ _ _ _
      | exact spec_R8Times.mono _ _ _
      | exact LeO.none _
      | refine LeO.ite ?_ ?_
      | refine LeO.bind ?_ (fun _ => ?_)
def laws_FnBuckets.T7 : Bool × List (List Nat × List Nat) := (true, [([], []), ([], []), ([], []), ([1, 2], [1, 2]), ([0, 3], [0, 3]), ([4], [4]), ([5], [5]), ([5], [5]), ([5], [5]), ([], []), ([9, 6, 4, 0, 1, 2, 3, 4, 5, 6, 9], [6, 9]), ([7, 10, 0, 1, 2, 3, 4, 5, 6, 7, 9, 10], [7]), ([8, 11, 0, 1, 2, 3, 4, 5, 6, 7, 8, 9, 10, 11], [8])])
def laws_FnBuckets.B7 : List Nat := [0, 0, 0, 6, 15, 31, 63, 63, 63, 0, 639, 1791, 4095]
theorem laws_FnBuckets.tab7 : rtab .any (opsOf Try.f8 7) = laws_FnBuckets.T7 := by kernel_rfl
theorem laws_FnBuckets.bits7 : waitsOk laws_FnBuckets.T7.2 laws_FnBuckets.B7 = true := by kernel_rfl
def laws_FnBuckets.T8 : Bool × List (List Nat × List Nat) := (true, [([], []), ([], []), ([], []), ([1, 2], [1, 2]), ([0, 3], [0, 3]), ([4], [4]), ([5], [5]), ([5], [5]), ([5], [5]), ([], []), ([9, 6, 4, 0, 1, 2, 3, 4, 5, 6, 9], [6, 9]), ([7, 10, 0, 1, 2, 3, 4, 5, 6, 7, 9, 10], [7]), ([8, 11, 0, 1, 2, 3, 4, 5, 6, 7, 8, 9, 10, 11], [8])])
def laws_FnBuckets.B8 : List Nat := [0, 0, 0, 6, 15, 31, 63, 63, 63, 0, 639, 1791, 4095]
theorem laws_FnBuckets.tab8 : rtab .any (opsOf Try.f8 8) = laws_FnBuckets.T8 := by kernel_rfl
theorem laws_FnBuckets.bits8 : waitsOk laws_FnBuckets.T8.2 laws_FnBuckets.B8 = true := by kernel_rfl
def laws_FnBuckets.T14 : Bool × List (List Nat × List Nat) := (true, [([], []), ([], []), ([0, 1], [0, 1]), ([2], [2]), ([3], [3]), ([3], [3]), ([4, 5, 3], [3, 4, 5]), ([6, 3], [3, 6]), ([3], [3]), ([3], [3]), ([8, 9, 3], [3, 8, 9]), ([10, 3], [3, 10]), ([7, 11, 3], [3, 7, 11]), ([3, 12], [3, 12]), ([13, 3], [13]), ([14], [14]), ([14], [14]), ([15, 16, 14], [14, 15, 16]), ([17, 14, 14], [14, 17]), ([18], [18]), ([18], [18]), ([18], [18]), ([20, 21, 18], [18, 20, 21]), ([19, 22, 18], [18, 19, 22]), ([23, 18], [18, 23]), ([18], [18]), ([18], [18]), ([25, 26, 18], [18, 25, 26]), ([27, 18], [18, 27]), ([24, 28, 18], [18, 24, 28]), ([18, 29, 14], [14, 18, 29]), ([14, 30], [14, 30])])
def laws_FnBuckets.B14 : List Nat := [0, 0, 3, 7, 15, 15, 63, 127, 15, 15, 783, 1807, 4095, 8191, 16383, 32767, 32767, 131071, 262143, 524287, 524287, 524287, 3670015, 8388607, 16777215, 524287, 524287, 101187583, 235405311, 536870911, 1073741823, 2147483647]
theorem laws_FnBuckets.tab14 : rtab .any (opsOf Try.f8 14) = laws_FnBuckets.T14 := by kernel_rfl
theorem laws_FnBuckets.bits14 : waitsOk laws_FnBuckets.T14.2 laws_FnBuckets.B14 = true := by kernel_rfl
def laws_FnBuckets.T22 : Bool × List (List Nat × List Nat) := (true, [([], []), ([], []), ([1], [1]), ([], []), ([], []), ([3, 4], [3, 4]), ([5], [5]), ([], []), ([], []), ([7, 8], [7, 8]), ([9], [9]), ([6, 10], [6, 10]), ([], []), ([12], [12]), ([11, 13], [11, 13]), ([2, 14], [2, 14]), ([0, 15], [0, 15])])
def laws_FnBuckets.B22 : List Nat := [0, 0, 2, 0, 0, 24, 56, 0, 0, 384, 896, 2040, 0, 4096, 16376, 32766, 65535]
theorem laws_FnBuckets.tab22 : rtab .any (opsOf Try.f8 22) = laws_FnBuckets.T22 := by kernel_rfl
theorem laws_FnBuckets.bits22 : waitsOk laws_FnBuckets.T22.2 laws_FnBuckets.B22 = true := by kernel_rfl
set_option maxHeartbeats 8000000 in
set_option maxRecDepth 100000 in
theorem laws_FnBuckets.calls (k : Nat) (A0 : Option Addr) (c0 : Nat) (l0 : List Int) (A1 : Option Addr) (c1 : Nat) (l1 : List Int) (r : Bool) (w : World) (hr0 : Kd.C (Kd.int .u8) w A0 l0.length l0) (hc0 : l0.length ≤ c0) (hr1 : Kd.C (Kd.int .u8) w A1 l1.length l1) (hc1 : l1.length ≤ c1) (h : laws_FnBuckets.f k l0 l1 = some r) :
    Calls Try.prog 8 #[.slice A0 l0.length c0, .slice A1 l1.length c1] w fun e w' => e = .returned (.bool r) ∧ Below w.heap.size w w' := by
 have hu25 := Try.underlying25
 have HR0 := Aside0.mk hr0
 have HC0 := Aside0.mk hc0
 clear hr0 hc0
 have HR1 := Aside0.mk hr1
 have HC1 := Aside0.mk hc1
 clear hr1 hc1
 have HB := Aside0.mk (Below.refl w.heap.size w)
 have H : ((laws_r8Long.f l0 l1).bind fun t182 => (if t182 = true then (some true) else ((spec_R8Bucket.f l0).bind fun bt183 => ((spec_R8Times.f k l1 bt183.2.2.2).bind fun t188 => ((impl_RunBucket.f k bt183.1 bt183.2.1 bt183.2.2.1 bt183.2.2.2 t188).bind fun bt191 => ((laws_r8At.f l1 40 (wrap64 ((t188.length : Int) + 1))).bind fun t200 => (if 0 ≤ t200 then (if t200 ≤ (t188.length : Int) then ((impl_RunBucket.f k bt183.1 bt183.2.1 bt183.2.2.1 bt183.2.2.2 (t188.take (t200 : Int).toNat)).bind fun bt205 => ((impl_RunBucket.f k bt205.1 bt205.2.1 bt205.2.2.1 bt205.2.2.2.1 (t188.drop (t200 : Int).toNat)).bind fun bt218 => (if bt191.2.2.2.2.2 = true then (if bt205.2.2.2.2.2 = true then (if bt218.2.2.2.2.2 = true then (if (!(bt191.1 == bt218.1) || (!(bt191.2.1 == bt218.2.1) || (!(bt191.2.2.1 == bt218.2.2.1) || (!(bt191.2.2.2.1 == bt218.2.2.2.1))))) = true then (laws_FnBuckets.j0 k t188 bt191.2.2.2.2.1 t200 bt205.2.2.2.2.1 bt218.2.2.2.2.1 true bt183.1 bt183.2.1 bt183.2.2.1 bt183.2.2.2) else (if (bt191.2.2.2.2.1.length : Int) = (t188.length : Int) then (if (bt205.2.2.2.2.1.length : Int) = t200 then (if (bt218.2.2.2.2.1.length : Int) = (wrap64 ((t188.length : Int) - t200)) then ((impl_ValidBucket.f bt191.1 bt191.2.1 bt191.2.2.1 bt191.2.2.2.1).bind fun t227 => (laws_FnBuckets.j0 k t188 bt191.2.2.2.2.1 t200 bt205.2.2.2.2.1 bt218.2.2.2.2.1 (!t227) bt183.1 bt183.2.1 bt183.2.2.1 bt183.2.2.2)) else (laws_FnBuckets.j0 k t188 bt191.2.2.2.2.1 t200 bt205.2.2.2.2.1 bt218.2.2.2.2.1 true bt183.1 bt183.2.1 bt183.2.2.1 bt183.2.2.2)) else (laws_FnBuckets.j0 k t188 bt191.2.2.2.2.1 t200 bt205.2.2.2.2.1 bt218.2.2.2.2.1 true bt183.1 bt183.2.1 bt183.2.2.1 bt183.2.2.2)) else (laws_FnBuckets.j0 k t188 bt191.2.2.2.2.1 t200 bt205.2.2.2.2.1 bt218.2.2.2.2.1 true bt183.1 bt183.2.1 bt183.2.2.1 bt183.2.2.2))) else (laws_FnBuckets.j0 k t188 bt191.2.2.2.2.1 t200 bt205.2.2.2.2.1 bt218.2.2.2.2.1 true bt183.1 bt183.2.1 bt183.2.2.1 bt183.2.2.2)) else (laws_FnBuckets.j0 k t188 bt191.2.2.2.2.1 t200 bt205.2.2.2.2.1 bt218.2.2.2.2.1 true bt183.1 bt183.2.1 bt183.2.2.1 bt183.2.2.2)) else (laws_FnBuckets.j0 k t188 bt191.2.2.2.2.1 t200 bt205.2.2.2.2.1 bt218.2.2.2.2.1 true bt183.1 bt183.2.1 bt183.2.2.1 bt183.2.2.2)))) else (none)) else (none)))))))) = some r := h
 clear h
 replace H := Option.bind_eq_some_iff.mp H
 obtain ⟨t182, A30, H⟩ := H
 replace H : (if t182 = true then (some true) else ((spec_R8Bucket.f l0).bind fun bt183 => ((spec_R8Times.f k l1 bt183.2.2.2).bind fun t188 => ((impl_RunBucket.f k bt183.1 bt183.2.1 bt183.2.2.1 bt183.2.2.2 t188).bind fun bt191 => ((laws_r8At.f l1 40 (wrap64 ((t188.length : Int) + 1))).bind fun t200 => (if 0 ≤ t200 then (if t200 ≤ (t188.length : Int) then ((impl_RunBucket.f k bt183.1 bt183.2.1 bt183.2.2.1 bt183.2.2.2 (t188.take (t200 : Int).toNat)).bind fun bt205 => ((impl_RunBucket.f k bt205.1 bt205.2.1 bt205.2.2.1 bt205.2.2.2.1 (t188.drop (t200 : Int).toNat)).bind fun bt218 => (if bt191.2.2.2.2.2 = true then (if bt205.2.2.2.2.2 = true then (if bt218.2.2.2.2.2 = true then (if (!(bt191.1 == bt218.1) || (!(bt191.2.1 == bt218.2.1) || (!(bt191.2.2.1 == bt218.2.2.1) || (!(bt191.2.2.2.1 == bt218.2.2.2.1))))) = true then (laws_FnBuckets.j0 k t188 bt191.2.2.2.2.1 t200 bt205.2.2.2.2.1 bt218.2.2.2.2.1 true bt183.1 bt183.2.1 bt183.2.2.1 bt183.2.2.2) else (if (bt191.2.2.2.2.1.length : Int) = (t188.length : Int) then (if (bt205.2.2.2.2.1.length : Int) = t200 then (if (bt218.2.2.2.2.1.length : Int) = (wrap64 ((t188.length : Int) - t200)) then ((impl_ValidBucket.f bt191.1 bt191.2.1 bt191.2.2.1 bt191.2.2.2.1).bind fun t227 => (laws_FnBuckets.j0 k t188 bt191.2.2.2.2.1 t200 bt205.2.2.2.2.1 bt218.2.2.2.2.1 (!t227) bt183.1 bt183.2.1 bt183.2.2.1 bt183.2.2.2)) else (laws_FnBuckets.j0 k t188 bt191.2.2.2.2.1 t200 bt205.2.2.2.2.1 bt218.2.2.2.2.1 true bt183.1 bt183.2.1 bt183.2.2.1 bt183.2.2.2)) else (laws_FnBuckets.j0 k t188 bt191.2.2.2.2.1 t200 bt205.2.2.2.2.1 bt218.2.2.2.2.1 true bt183.1 bt183.2.1 bt183.2.2.1 bt183.2.2.2)) else (laws_FnBuckets.j0 k t188 bt191.2.2.2.2.1 t200 bt205.2.2.2.2.1 bt218.2.2.2.2.1 true bt183.1 bt183.2.1 bt183.2.2.1 bt183.2.2.2))) else (laws_FnBuckets.j0 k t188 bt191.2.2.2.2.1 t200 bt205.2.2.2.2.1 bt218.2.2.2.2.1 true bt183.1 bt183.2.1 bt183.2.2.1 bt183.2.2.2)) else (laws_FnBuckets.j0 k t188 bt191.2.2.2.2.1 t200 bt205.2.2.2.2.1 bt218.2.2.2.2.1 true bt183.1 bt183.2.1 bt183.2.2.1 bt183.2.2.2)) else (laws_FnBuckets.j0 k t188 bt191.2.2.2.2.1 t200 bt205.2.2.2.2.1 bt218.2.2.2.2.1 true bt183.1 bt183.2.1 bt183.2.2.1 bt183.2.2.2)))) else (none)) else (none))))))) = some r := H
 have A3 := Aside0.mk A30
 clear A30
 by_cases c4 : t182 = true
 {
 subst c4
 have H1 : (some true) = some r := by rw [if_pos rfl] at H; exact H
 clear H
 have H := H1
 clear H1
 obtain rfl := Option.some.inj H
 go_enter Try.func8, Try.ntmps8
 go_wp2_with (first | ((with_reducible refine gate_callee (f := 27) rfl ?_); refine goesL_ (some 22) rfl rfl Try.func27 s2_ rfl #[.slice A0 l0.length c0, .slice A1 l1.length c1] rfl (by (try simp only [List.map_toArray, List.map_cons, List.map_nil]); first | done | rfl | (simp only [List.length_drop, List.length_take]; rfl)) ?_; (with_reducible refine (laws_r8Long.calls _ _ l0 _ _ l1 true _ ?side1 ?side2 ?side3 ?side4 A3.out).mono ?_); (case side1 => repeat (first | exact HR0.out | (with_reducible refine Kd.C_alloc ?_ _) | (with_reducible refine Kd.C_drewN ?_ _) | (with_reducible refine Kd.C_drew ?_))); (case side2 => exact HC0.out); (case side3 => repeat (first | exact HR1.out | (with_reducible refine Kd.C_alloc ?_ _) | (with_reducible refine Kd.C_drewN ?_ _) | (with_reducible refine Kd.C_drew ?_))); (case side4 => exact HC1.out); rintro e w' ⟨rfl, ⟨nd, rfl⟩⟩; refine ⟨_, rfl, ?_⟩))
 go_ret
 exact ⟨by first | rfl | (simp [errW_none, errW_some] <;> rfl) | (simp [*, errW_none, errW_some] <;> rfl), by repeat (first | (with_reducible first | exact HB.out | apply below_alloc | apply pw_below_drewN | apply below_drew1) | exact HB.out)⟩}
 {
 replace c4 := Bool.eq_false_iff.mpr c4
 subst c4
 have H1 : ((spec_R8Bucket.f l0).bind fun bt183 => ((spec_R8Times.f k l1 bt183.2.2.2).bind fun t188 => ((impl_RunBucket.f k bt183.1 bt183.2.1 bt183.2.2.1 bt183.2.2.2 t188).bind fun bt191 => ((laws_r8At.f l1 40 (wrap64 ((t188.length : Int) + 1))).bind fun t200 => (if 0 ≤ t200 then (if t200 ≤ (t188.length : Int) then ((impl_RunBucket.f k bt183.1 bt183.2.1 bt183.2.2.1 bt183.2.2.2 (t188.take (t200 : Int).toNat)).bind fun bt205 => ((impl_RunBucket.f k bt205.1 bt205.2.1 bt205.2.2.1 bt205.2.2.2.1 (t188.drop (t200 : Int).toNat)).bind fun bt218 => (if bt191.2.2.2.2.2 = true then (if bt205.2.2.2.2.2 = true then (if bt218.2.2.2.2.2 = true then (if (!(bt191.1 == bt218.1) || (!(bt191.2.1 == bt218.2.1) || (!(bt191.2.2.1 == bt218.2.2.1) || (!(bt191.2.2.2.1 == bt218.2.2.2.1))))) = true then (laws_FnBuckets.j0 k t188 bt191.2.2.2.2.1 t200 bt205.2.2.2.2.1 bt218.2.2.2.2.1 true bt183.1 bt183.2.1 bt183.2.2.1 bt183.2.2.2) else (if (bt191.2.2.2.2.1.length : Int) = (t188.length : Int) then (if (bt205.2.2.2.2.1.length : Int) = t200 then (if (bt218.2.2.2.2.1.length : Int) = (wrap64 ((t188.length : Int) - t200)) then ((impl_ValidBucket.f bt191.1 bt191.2.1 bt191.2.2.1 bt191.2.2.2.1).bind fun t227 => (laws_FnBuckets.j0 k t188 bt191.2.2.2.2.1 t200 bt205.2.2.2.2.1 bt218.2.2.2.2.1 (!t227) bt183.1 bt183.2.1 bt183.2.2.1 bt183.2.2.2)) else (laws_FnBuckets.j0 k t188 bt191.2.2.2.2.1 t200 bt205.2.2.2.2.1 bt218.2.2.2.2.1 true bt183.1 bt183.2.1 bt183.2.2.1 bt183.2.2.2)) else (laws_FnBuckets.j0 k t188 bt191.2.2.2.2.1 t200 bt205.2.2.2.2.1 bt218.2.2.2.2.1 true bt183.1 bt183.2.1 bt183.2.2.1 bt183.2.2.2)) else (laws_FnBuckets.j0 k t188 bt191.2.2.2.2.1 t200 bt205.2.2.2.2.1 bt218.2.2.2.2.1 true bt183.1 bt183.2.1 bt183.2.2.1 bt183.2.2.2))) else (laws_FnBuckets.j0 k t188 bt191.2.2.2.2.1 t200 bt205.2.2.2.2.1 bt218.2.2.2.2.1 true bt183.1 bt183.2.1 bt183.2.2.1 bt183.2.2.2)) else (laws_FnBuckets.j0 k t188 bt191.2.2.2.2.1 t200 bt205.2.2.2.2.1 bt218.2.2.2.2.1 true bt183.1 bt183.2.1 bt183.2.2.1 bt183.2.2.2)) else (laws_FnBuckets.j0 k t188 bt191.2.2.2.2.1 t200 bt205.2.2.2.2.1 bt218.2.2.2.2.1 true bt183.1 bt183.2.1 bt183.2.2.1 bt183.2.2.2)))) else (none)) else (none)))))) = some r := by rw [if_neg (show ¬ (false = true) by decide)] at H; exact H
 clear H
 have H := H1
 clear H1
 replace H := Option.bind_eq_some_iff.mp H
 obtain ⟨⟨t183, t184, t185, t186⟩, A50, H⟩ := H
 replace H : ((spec_R8Times.f k l1 t186).bind fun t188 => ((impl_RunBucket.f k t183 t184 t185 t186 t188).bind fun bt191 => ((laws_r8At.f l1 40 (wrap64 ((t188.length : Int) + 1))).bind fun t200 => (if 0 ≤ t200 then (if t200 ≤ (t188.length : Int) then ((impl_RunBucket.f k t183 t184 t185 t186 (t188.take (t200 : Int).toNat)).bind fun bt205 => ((impl_RunBucket.f k bt205.1 bt205.2.1 bt205.2.2.1 bt205.2.2.2.1 (t188.drop (t200 : Int).toNat)).bind fun bt218 => (if bt191.2.2.2.2.2 = true then (if bt205.2.2.2.2.2 = true then (if bt218.2.2.2.2.2 = true then (if (!(bt191.1 == bt218.1) || (!(bt191.2.1 == bt218.2.1) || (!(bt191.2.2.1 == bt218.2.2.1) || (!(bt191.2.2.2.1 == bt218.2.2.2.1))))) = true then (laws_FnBuckets.j0 k t188 bt191.2.2.2.2.1 t200 bt205.2.2.2.2.1 bt218.2.2.2.2.1 true t183 t184 t185 t186) else (if (bt191.2.2.2.2.1.length : Int) = (t188.length : Int) then (if (bt205.2.2.2.2.1.length : Int) = t200 then (if (bt218.2.2.2.2.1.length : Int) = (wrap64 ((t188.length : Int) - t200)) then ((impl_ValidBucket.f bt191.1 bt191.2.1 bt191.2.2.1 bt191.2.2.2.1).bind fun t227 => (laws_FnBuckets.j0 k t188 bt191.2.2.2.2.1 t200 bt205.2.2.2.2.1 bt218.2.2.2.2.1 (!t227) t183 t184 t185 t186)) else (laws_FnBuckets.j0 k t188 bt191.2.2.2.2.1 t200 bt205.2.2.2.2.1 bt218.2.2.2.2.1 true t183 t184 t185 t186)) else (laws_FnBuckets.j0 k t188 bt191.2.2.2.2.1 t200 bt205.2.2.2.2.1 bt218.2.2.2.2.1 true t183 t184 t185 t186)) else (laws_FnBuckets.j0 k t188 bt191.2.2.2.2.1 t200 bt205.2.2.2.2.1 bt218.2.2.2.2.1 true t183 t184 t185 t186))) else (laws_FnBuckets.j0 k t188 bt191.2.2.2.2.1 t200 bt205.2.2.2.2.1 bt218.2.2.2.2.1 true t183 t184 t185 t186)) else (laws_FnBuckets.j0 k t188 bt191.2.2.2.2.1 t200 bt205.2.2.2.2.1 bt218.2.2.2.2.1 true t183 t184 t185 t186)) else (laws_FnBuckets.j0 k t188 bt191.2.2.2.2.1 t200 bt205.2.2.2.2.1 bt218.2.2.2.2.1 true t183 t184 t185 t186)))) else (none)) else (none))))) = some r := H
 have A5 := Aside0.mk A50
 clear A50
 replace H := Option.bind_eq_some_iff.mp H
 obtain ⟨t188, A60, H⟩ := H
 replace H : ((impl_RunBucket.f k t183 t184 t185 t186 t188).bind fun bt191 => ((laws_r8At.f l1 40 (wrap64 ((t188.length : Int) + 1))).bind fun t200 => (if 0 ≤ t200 then (if t200 ≤ (t188.length : Int) then ((impl_RunBucket.f k t183 t184 t185 t186 (t188.take (t200 : Int).toNat)).bind fun bt205 => ((impl_RunBucket.f k bt205.1 bt205.2.1 bt205.2.2.1 bt205.2.2.2.1 (t188.drop (t200 : Int).toNat)).bind fun bt218 => (if bt191.2.2.2.2.2 = true then (if bt205.2.2.2.2.2 = true then (if bt218.2.2.2.2.2 = true then (if (!(bt191.1 == bt218.1) || (!(bt191.2.1 == bt218.2.1) || (!(bt191.2.2.1 == bt218.2.2.1) || (!(bt191.2.2.2.1 == bt218.2.2.2.1))))) = true then (laws_FnBuckets.j0 k t188 bt191.2.2.2.2.1 t200 bt205.2.2.2.2.1 bt218.2.2.2.2.1 true t183 t184 t185 t186) else (if (bt191.2.2.2.2.1.length : Int) = (t188.length : Int) then (if (bt205.2.2.2.2.1.length : Int) = t200 then (if (bt218.2.2.2.2.1.length : Int) = (wrap64 ((t188.length : Int) - t200)) then ((impl_ValidBucket.f bt191.1 bt191.2.1 bt191.2.2.1 bt191.2.2.2.1).bind fun t227 => (laws_FnBuckets.j0 k t188 bt191.2.2.2.2.1 t200 bt205.2.2.2.2.1 bt218.2.2.2.2.1 (!t227) t183 t184 t185 t186)) else (laws_FnBuckets.j0 k t188 bt191.2.2.2.2.1 t200 bt205.2.2.2.2.1 bt218.2.2.2.2.1 true t183 t184 t185 t186)) else (laws_FnBuckets.j0 k t188 bt191.2.2.2.2.1 t200 bt205.2.2.2.2.1 bt218.2.2.2.2.1 true t183 t184 t185 t186)) else (laws_FnBuckets.j0 k t188 bt191.2.2.2.2.1 t200 bt205.2.2.2.2.1 bt218.2.2.2.2.1 true t183 t184 t185 t186))) else (laws_FnBuckets.j0 k t188 bt191.2.2.2.2.1 t200 bt205.2.2.2.2.1 bt218.2.2.2.2.1 true t183 t184 t185 t186)) else (laws_FnBuckets.j0 k t188 bt191.2.2.2.2.1 t200 bt205.2.2.2.2.1 bt218.2.2.2.2.1 true t183 t184 t185 t186)) else (laws_FnBuckets.j0 k t188 bt191.2.2.2.2.1 t200 bt205.2.2.2.2.1 bt218.2.2.2.2.1 true t183 t184 t185 t186)))) else (none)) else (none)))) = some r := H
 have A6 := Aside0.mk A60
 clear A60
 replace H := Option.bind_eq_some_iff.mp H
 obtain ⟨⟨t191, t192, t193, t194, t195, t198⟩, A70, H⟩ := H
 replace H : ((laws_r8At.f l1 40 (wrap64 ((t188.length : Int) + 1))).bind fun t200 => (if 0 ≤ t200 then (if t200 ≤ (t188.length : Int) then ((impl_RunBucket.f k t183 t184 t185 t186 (t188.take (t200 : Int).toNat)).bind fun bt205 => ((impl_RunBucket.f k bt205.1 bt205.2.1 bt205.2.2.1 bt205.2.2.2.1 (t188.drop (t200 : Int).toNat)).bind fun bt218 => (if t198 = true then (if bt205.2.2.2.2.2 = true then (if bt218.2.2.2.2.2 = true then (if (!(t191 == bt218.1) || (!(t192 == bt218.2.1) || (!(t193 == bt218.2.2.1) || (!(t194 == bt218.2.2.2.1))))) = true then (laws_FnBuckets.j0 k t188 t195 t200 bt205.2.2.2.2.1 bt218.2.2.2.2.1 true t183 t184 t185 t186) else (if (t195.length : Int) = (t188.length : Int) then (if (bt205.2.2.2.2.1.length : Int) = t200 then (if (bt218.2.2.2.2.1.length : Int) = (wrap64 ((t188.length : Int) - t200)) then ((impl_ValidBucket.f t191 t192 t193 t194).bind fun t227 => (laws_FnBuckets.j0 k t188 t195 t200 bt205.2.2.2.2.1 bt218.2.2.2.2.1 (!t227) t183 t184 t185 t186)) else (laws_FnBuckets.j0 k t188 t195 t200 bt205.2.2.2.2.1 bt218.2.2.2.2.1 true t183 t184 t185 t186)) else (laws_FnBuckets.j0 k t188 t195 t200 bt205.2.2.2.2.1 bt218.2.2.2.2.1 true t183 t184 t185 t186)) else (laws_FnBuckets.j0 k t188 t195 t200 bt205.2.2.2.2.1 bt218.2.2.2.2.1 true t183 t184 t185 t186))) else (laws_FnBuckets.j0 k t188 t195 t200 bt205.2.2.2.2.1 bt218.2.2.2.2.1 true t183 t184 t185 t186)) else (laws_FnBuckets.j0 k t188 t195 t200 bt205.2.2.2.2.1 bt218.2.2.2.2.1 true t183 t184 t185 t186)) else (laws_FnBuckets.j0 k t188 t195 t200 bt205.2.2.2.2.1 bt218.2.2.2.2.1 true t183 t184 t185 t186)))) else (none)) else (none))) = some r := H
 have A7 := Aside0.mk A70
 clear A70
 replace H := Option.bind_eq_some_iff.mp H
 obtain ⟨t200, A80, H⟩ := H
 replace H : (if 0 ≤ t200 then (if t200 ≤ (t188.length : Int) then ((impl_RunBucket.f k t183 t184 t185 t186 (t188.take (t200 : Int).toNat)).bind fun bt205 => ((impl_RunBucket.f k bt205.1 bt205.2.1 bt205.2.2.1 bt205.2.2.2.1 (t188.drop (t200 : Int).toNat)).bind fun bt218 => (if t198 = true then (if bt205.2.2.2.2.2 = true then (if bt218.2.2.2.2.2 = true then (if (!(t191 == bt218.1) || (!(t192 == bt218.2.1) || (!(t193 == bt218.2.2.1) || (!(t194 == bt218.2.2.2.1))))) = true then (laws_FnBuckets.j0 k t188 t195 t200 bt205.2.2.2.2.1 bt218.2.2.2.2.1 true t183 t184 t185 t186) else (if (t195.length : Int) = (t188.length : Int) then (if (bt205.2.2.2.2.1.length : Int) = t200 then (if (bt218.2.2.2.2.1.length : Int) = (wrap64 ((t188.length : Int) - t200)) then ((impl_ValidBucket.f t191 t192 t193 t194).bind fun t227 => (laws_FnBuckets.j0 k t188 t195 t200 bt205.2.2.2.2.1 bt218.2.2.2.2.1 (!t227) t183 t184 t185 t186)) else (laws_FnBuckets.j0 k t188 t195 t200 bt205.2.2.2.2.1 bt218.2.2.2.2.1 true t183 t184 t185 t186)) else (laws_FnBuckets.j0 k t188 t195 t200 bt205.2.2.2.2.1 bt218.2.2.2.2.1 true t183 t184 t185 t186)) else (laws_FnBuckets.j0 k t188 t195 t200 bt205.2.2.2.2.1 bt218.2.2.2.2.1 true t183 t184 t185 t186))) else (laws_FnBuckets.j0 k t188 t195 t200 bt205.2.2.2.2.1 bt218.2.2.2.2.1 true t183 t184 t185 t186)) else (laws_FnBuckets.j0 k t188 t195 t200 bt205.2.2.2.2.1 bt218.2.2.2.2.1 true t183 t184 t185 t186)) else (laws_FnBuckets.j0 k t188 t195 t200 bt205.2.2.2.2.1 bt218.2.2.2.2.1 true t183 t184 t185 t186)))) else (none)) else (none)) = some r := H
 have A8 := Aside0.mk A80
 clear A80
 by_cases c9 : 0 ≤ t200
 {
 rw [if_pos c9] at H
 have c9b0 := eq_true c9
 have c9b1 : decide (0 ≤ t200) = true := decide_eq_true c9
 clear c9
 by_cases c10 : t200 ≤ (t188.length : Int)
 {
 rw [if_pos c10] at H
 have c10b0 := eq_true c10
 have c10b1 : decide (t200 ≤ (t188.length : Int)) = true := decide_eq_true c10
 clear c10
 obtain ⟨y201, hy201⟩ : ∃ y_ : List Int, y_ = (t188.take (t200 : Int).toNat) := ⟨_, rfl⟩
 replace H : ((impl_RunBucket.f k t183 t184 t185 t186 y201).bind fun bt205 => ((impl_RunBucket.f k bt205.1 bt205.2.1 bt205.2.2.1 bt205.2.2.2.1 (t188.drop (t200 : Int).toNat)).bind fun bt218 => (if t198 = true then (if bt205.2.2.2.2.2 = true then (if bt218.2.2.2.2.2 = true then (if (!(t191 == bt218.1) || (!(t192 == bt218.2.1) || (!(t193 == bt218.2.2.1) || (!(t194 == bt218.2.2.2.1))))) = true then (laws_FnBuckets.j0 k t188 t195 t200 bt205.2.2.2.2.1 bt218.2.2.2.2.1 true t183 t184 t185 t186) else (if (t195.length : Int) = (t188.length : Int) then (if (bt205.2.2.2.2.1.length : Int) = t200 then (if (bt218.2.2.2.2.1.length : Int) = (wrap64 ((t188.length : Int) - t200)) then ((impl_ValidBucket.f t191 t192 t193 t194).bind fun t227 => (laws_FnBuckets.j0 k t188 t195 t200 bt205.2.2.2.2.1 bt218.2.2.2.2.1 (!t227) t183 t184 t185 t186)) else (laws_FnBuckets.j0 k t188 t195 t200 bt205.2.2.2.2.1 bt218.2.2.2.2.1 true t183 t184 t185 t186)) else (laws_FnBuckets.j0 k t188 t195 t200 bt205.2.2.2.2.1 bt218.2.2.2.2.1 true t183 t184 t185 t186)) else (laws_FnBuckets.j0 k t188 t195 t200 bt205.2.2.2.2.1 bt218.2.2.2.2.1 true t183 t184 t185 t186))) else (laws_FnBuckets.j0 k t188 t195 t200 bt205.2.2.2.2.1 bt218.2.2.2.2.1 true t183 t184 t185 t186)) else (laws_FnBuckets.j0 k t188 t195 t200 bt205.2.2.2.2.1 bt218.2.2.2.2.1 true t183 t184 t185 t186)) else (laws_FnBuckets.j0 k t188 t195 t200 bt205.2.2.2.2.1 bt218.2.2.2.2.1 true t183 t184 t185 t186)))) = some r := by first | (rw [hy201]; with_reducible exact H) | (have H2_ := (Option.bind_some _ _).symm.trans H; rw [hy201]; with_reducible exact H2_) | (have H2_ := (Option.bind_some _ _).symm.trans H; with_reducible exact H2_) | with_reducible exact H | (rw [hy201]; exact H) | exact H
 have Ny201 := Aside0.mk hy201
 clear hy201
 replace H := Option.bind_eq_some_iff.mp H
 obtain ⟨⟨t205, t206, t207, t208, t209, t212⟩, A110, H⟩ := H
 replace H : ((impl_RunBucket.f k t205 t206 t207 t208 (t188.drop (t200 : Int).toNat)).bind fun bt218 => (if t198 = true then (if t212 = true then (if bt218.2.2.2.2.2 = true then (if (!(t191 == bt218.1) || (!(t192 == bt218.2.1) || (!(t193 == bt218.2.2.1) || (!(t194 == bt218.2.2.2.1))))) = true then (laws_FnBuckets.j0 k t188 t195 t200 t209 bt218.2.2.2.2.1 true t183 t184 t185 t186) else (if (t195.length : Int) = (t188.length : Int) then (if (t209.length : Int) = t200 then (if (bt218.2.2.2.2.1.length : Int) = (wrap64 ((t188.length : Int) - t200)) then ((impl_ValidBucket.f t191 t192 t193 t194).bind fun t227 => (laws_FnBuckets.j0 k t188 t195 t200 t209 bt218.2.2.2.2.1 (!t227) t183 t184 t185 t186)) else (laws_FnBuckets.j0 k t188 t195 t200 t209 bt218.2.2.2.2.1 true t183 t184 t185 t186)) else (laws_FnBuckets.j0 k t188 t195 t200 t209 bt218.2.2.2.2.1 true t183 t184 t185 t186)) else (laws_FnBuckets.j0 k t188 t195 t200 t209 bt218.2.2.2.2.1 true t183 t184 t185 t186))) else (laws_FnBuckets.j0 k t188 t195 t200 t209 bt218.2.2.2.2.1 true t183 t184 t185 t186)) else (laws_FnBuckets.j0 k t188 t195 t200 t209 bt218.2.2.2.2.1 true t183 t184 t185 t186)) else (laws_FnBuckets.j0 k t188 t195 t200 t209 bt218.2.2.2.2.1 true t183 t184 t185 t186))) = some r := H
 have A11 := Aside0.mk A110
 clear A110
 have c12b0 := eq_true (of_decide_eq_true (by first | (with_reducible assumption) | assumption) : 0 ≤ t200)
 have c13b0 := eq_true (of_decide_eq_true (by first | (with_reducible assumption) | assumption) : t200 ≤ (t188.length : Int))
 obtain ⟨y214, hy214⟩ : ∃ y_ : List Int, y_ = (t188.drop (t200 : Int).toNat) := ⟨_, rfl⟩
 replace H : ((impl_RunBucket.f k t205 t206 t207 t208 y214).bind fun bt218 => (if t198 = true then (if t212 = true then (if bt218.2.2.2.2.2 = true then (if (!(t191 == bt218.1) || (!(t192 == bt218.2.1) || (!(t193 == bt218.2.2.1) || (!(t194 == bt218.2.2.2.1))))) = true then (laws_FnBuckets.j0 k t188 t195 t200 t209 bt218.2.2.2.2.1 true t183 t184 t185 t186) else (if (t195.length : Int) = (t188.length : Int) then (if (t209.length : Int) = t200 then (if (bt218.2.2.2.2.1.length : Int) = (wrap64 ((t188.length : Int) - t200)) then ((impl_ValidBucket.f t191 t192 t193 t194).bind fun t227 => (laws_FnBuckets.j0 k t188 t195 t200 t209 bt218.2.2.2.2.1 (!t227) t183 t184 t185 t186)) else (laws_FnBuckets.j0 k t188 t195 t200 t209 bt218.2.2.2.2.1 true t183 t184 t185 t186)) else (laws_FnBuckets.j0 k t188 t195 t200 t209 bt218.2.2.2.2.1 true t183 t184 t185 t186)) else (laws_FnBuckets.j0 k t188 t195 t200 t209 bt218.2.2.2.2.1 true t183 t184 t185 t186))) else (laws_FnBuckets.j0 k t188 t195 t200 t209 bt218.2.2.2.2.1 true t183 t184 t185 t186)) else (laws_FnBuckets.j0 k t188 t195 t200 t209 bt218.2.2.2.2.1 true t183 t184 t185 t186)) else (laws_FnBuckets.j0 k t188 t195 t200 t209 bt218.2.2.2.2.1 true t183 t184 t185 t186))) = some r := by first | (rw [hy214]; with_reducible exact H) | (have H2_ := (Option.bind_some _ _).symm.trans H; rw [hy214]; with_reducible exact H2_) | (have H2_ := (Option.bind_some _ _).symm.trans H; with_reducible exact H2_) | with_reducible exact H | (rw [hy214]; exact H) | exact H
 have Ny214 := Aside0.mk hy214
 clear hy214
 replace H := Option.bind_eq_some_iff.mp H
 obtain ⟨⟨t218, t219, t220, t221, t222, t225⟩, A140, H⟩ := H
 replace H : (if t198 = true then (if t212 = true then (if t225 = true then (if (!(t191 == t218) || (!(t192 == t219) || (!(t193 == t220) || (!(t194 == t221))))) = true then (laws_FnBuckets.j0 k t188 t195 t200 t209 t222 true t183 t184 t185 t186) else (if (t195.length : Int) = (t188.length : Int) then (if (t209.length : Int) = t200 then (if (t222.length : Int) = (wrap64 ((t188.length : Int) - t200)) then ((impl_ValidBucket.f t191 t192 t193 t194).bind fun t227 => (laws_FnBuckets.j0 k t188 t195 t200 t209 t222 (!t227) t183 t184 t185 t186)) else (laws_FnBuckets.j0 k t188 t195 t200 t209 t222 true t183 t184 t185 t186)) else (laws_FnBuckets.j0 k t188 t195 t200 t209 t222 true t183 t184 t185 t186)) else (laws_FnBuckets.j0 k t188 t195 t200 t209 t222 true t183 t184 t185 t186))) else (laws_FnBuckets.j0 k t188 t195 t200 t209 t222 true t183 t184 t185 t186)) else (laws_FnBuckets.j0 k t188 t195 t200 t209 t222 true t183 t184 t185 t186)) else (laws_FnBuckets.j0 k t188 t195 t200 t209 t222 true t183 t184 t185 t186)) = some r := H
 have A14 := Aside0.mk A140
 clear A140
 have HC15 := Aside0.mk H
 clear H
 go_enter Try.func8, Try.ntmps8
 try go_wp2_with (first | ((with_reducible refine gate_callee (f := 27) rfl ?_); refine goesL_ (some 22) rfl rfl Try.func27 s2_ rfl #[.slice A0 l0.length c0, .slice A1 l1.length c1] rfl (by (try simp only [List.map_toArray, List.map_cons, List.map_nil]); first | done | rfl | (simp only [List.length_drop, List.length_take]; rfl)) ?_; (with_reducible refine (laws_r8Long.calls _ _ l0 _ _ l1 false _ ?side1 ?side2 ?side3 ?side4 A3.out).mono ?_); (case side1 => repeat (first | exact HR0.out | (with_reducible refine Kd.C_alloc ?_ _) | (with_reducible refine Kd.C_drewN ?_ _) | (with_reducible refine Kd.C_drew ?_))); (case side2 => exact HC0.out); (case side3 => repeat (first | exact HR1.out | (with_reducible refine Kd.C_alloc ?_ _) | (with_reducible refine Kd.C_drewN ?_ _) | (with_reducible refine Kd.C_drew ?_))); (case side4 => exact HC1.out); rintro e w' ⟨rfl, ⟨nd, rfl⟩⟩; refine ⟨_, rfl, ?_⟩) | ((with_reducible refine gate_callee (f := 28) rfl ?_); refine goesL_ (some 24) rfl rfl Try.func28 s2_ rfl #[.slice A0 l0.length c0] rfl (by (try simp only [List.map_toArray, List.map_cons, List.map_nil]); first | done | rfl | (simp only [List.length_drop, List.length_take]; rfl)) ?_; (with_reducible refine (spec_R8Bucket.calls _ _ l0 t183 t184 t185 t186 _ ?side1 ?side2 A5.out).mono ?_); (case side1 => repeat (first | exact HR0.out | (with_reducible refine Kd.C_alloc ?_ _) | (with_reducible refine Kd.C_drewN ?_ _) | (with_reducible refine Kd.C_drew ?_))); (case side2 => exact HC0.out); rintro e w16 ⟨rfl, hb⟩; refine ⟨_, rfl, ?_⟩; have n0_ := Aside0.mk (below_step (by repeat (first | (with_reducible first | exact HB.out | apply below_alloc | apply pw_below_drewN | apply below_drew1) | exact HB.out)) hb); clear HB; have HB := n0_; clear n0_; (try clear hb); (try clear hb2); (try clear hk); (try clear hi)) | ((with_reducible refine gate_dst (N := 5) rfl ?_); (try (refine gate_guard (by rfl) ?_; dsimp only)); refine box_event ?hg (N := 5) ?hd (cs := #[.int .i64 0, .int .i64 0, .int .i64 0, .int .i64 0]) (t := 25) ?hr ?_; (case hd => rfl); (case hg => rfl); (case hr => first | (go_simp; done) | (go_simp; rfl)); intro gb187 hg w17 hbox hb; have n0_ := Aside0.mk (below_step (by repeat (first | (with_reducible first | exact HB.out | apply below_alloc | apply pw_below_drewN | apply below_drew1) | exact HB.out)) hb); have n1_ := Aside0.mk (hbox); have n2_ := Aside0.mk ((by rw [hg]; exact (below_size (by repeat (first | (with_reducible first | exact HB.out | apply below_alloc | apply pw_below_drewN | apply below_drew1) | exact HB.out))) : w.heap.size ≤ gb187)); have n3_ := Aside0.mk ((by rw [hg]; exact (below_size (by repeat (first | (with_reducible first | exact HB.out | apply below_alloc | apply pw_below_drewN | apply below_drew1) | exact HB.out))) : w.heap.size ≤ gb187)); clear HB; have HB := n0_; have BK187 := n1_; have GW187 := n2_; have GE187 := n3_; clear n0_ n1_ n2_ n3_; clear hb hbox hg; have hcz18_0 : w17.cell? ⟨gb187, 0, none⟩ = some (.int .i64 0) := (blk_cell BK187.out 0).trans rfl; have hcz18_1 : w17.cell? ⟨gb187, 1, none⟩ = some (.int .i64 0) := (blk_cell BK187.out 1).trans rfl; have hcz18_2 : w17.cell? ⟨gb187, 2, none⟩ = some (.int .i64 0) := (blk_cell BK187.out 2).trans rfl; have hcz18_3 : w17.cell? ⟨gb187, 3, none⟩ = some (.int .i64 0) := (blk_cell BK187.out 3).trans rfl; have hfz18_0 := blk_frozen BK187.out 0; have hfz18_1 := blk_frozen BK187.out 1; have hfz18_2 := blk_frozen BK187.out 2; have hfz18_3 := blk_frozen BK187.out 3) | ((with_reducible refine gate_callee (f := 29) rfl ?_); refine goesL_ (some 28) rfl rfl Try.func29 s2_ rfl #[.slice A1 l1.length c1, .int .i64 t186] rfl (by (try simp only [List.map_toArray, List.map_cons, List.map_nil]); first | done | rfl | (simp only [List.length_drop, List.length_take]; rfl)) ?_; (with_reducible refine (spec_R8Times.calls k _ _ l1 t186 t188 _ ?side1 ?side2 A6.out).mono ?_); (case side1 => exact Kd.C_below HR1.out (by repeat (first | (with_reducible first | exact HB.out | apply below_alloc | apply pw_below_drewN | apply below_drew1 | refine below_set ?_ GE187.out) | exact HB.out))); (case side2 => exact HC1.out); rintro e w19 ⟨v189, rfl, ho0, hb⟩; refine ⟨_, rfl, ?_⟩; have n0_ := Aside0.mk (Kd.R_lower ho0 (below_size (by repeat (first | (with_reducible first | exact HB.out | apply below_alloc | apply pw_below_drewN | apply below_drew1 | refine below_set ?_ GE187.out) | exact HB.out)))); have n1_ := Aside0.mk (blk_below (g := gb187) (o := .cells #[.int .i64 t183, .int .i64 t184, .int .i64 t185, .int .i64 t186] 25 (0, 0)) (by (with_reducible repeat (first | refine blk_drewN ?_ _ | refine blk_drew ?_ | refine blk_alloc ?_ _)); refine blk_put (cs := #[.int .i64 t183, .int .i64 t184, .int .i64 t185, .int .i64 0]) ?_ 3 _ rfl; (with_reducible repeat (first | refine blk_drewN ?_ _ | refine blk_drew ?_ | refine blk_alloc ?_ _)); refine blk_put (cs := #[.int .i64 t183, .int .i64 t184, .int .i64 0, .int .i64 0]) ?_ 2 _ rfl; (with_reducible repeat (first | refine blk_drewN ?_ _ | refine blk_drew ?_ | refine blk_alloc ?_ _)); refine blk_put (cs := #[.int .i64 t183, .int .i64 0, .int .i64 0, .int .i64 0]) ?_ 1 _ rfl; (with_reducible repeat (first | refine blk_drewN ?_ _ | refine blk_drew ?_ | refine blk_alloc ?_ _)); refine blk_put (cs := #[.int .i64 0, .int .i64 0, .int .i64 0, .int .i64 0]) ?_ 0 _ rfl; (with_reducible repeat (first | refine blk_drewN ?_ _ | refine blk_drew ?_ | refine blk_alloc ?_ _)); exact BK187.out) hb); have n2_ := Aside0.mk (below_step (by repeat (first | (with_reducible first | exact HB.out | apply below_alloc | apply pw_below_drewN | apply below_drew1 | refine below_set ?_ GE187.out) | exact HB.out)) hb); clear BK187; clear HB; have HO190 := n0_; have BK187 := n1_; have HB := n2_; clear n0_ n1_ n2_; (try clear hb); (try clear hb2); (try clear hk); (try clear hi); (try clear ho0); have hcz20_0 : w19.cell? ⟨gb187, 0, none⟩ = some (.int .i64 t183) := (blk_cell BK187.out 0).trans rfl; have hcz20_1 : w19.cell? ⟨gb187, 1, none⟩ = some (.int .i64 t184) := (blk_cell BK187.out 1).trans rfl; have hcz20_2 : w19.cell? ⟨gb187, 2, none⟩ = some (.int .i64 t185) := (blk_cell BK187.out 2).trans rfl; have hcz20_3 : w19.cell? ⟨gb187, 3, none⟩ = some (.int .i64 t186) := (blk_cell BK187.out 3).trans rfl; have hfz20_0 := blk_frozen BK187.out 0; have hfz20_1 := blk_frozen BK187.out 1; have hfz20_2 := blk_frozen BK187.out 2; have hfz20_3 := blk_frozen BK187.out 3; obtain ⟨Ao21, co21, eo21⟩ := Kd.R_slice HO190.out; subst eo21) | ((with_reducible refine gate_callee (f := 30) rfl ?_); refine goesL_ (some 32) rfl rfl Try.func30 s2_ rfl #[.agg #[.int .i64 t183, .int .i64 t184, .int .i64 t185, .int .i64 t186], .slice Ao21 t188.length co21] rfl (by (try simp only [List.map_toArray, List.map_cons, List.map_nil]); first | done | rfl | (simp only [List.length_drop, List.length_take]; rfl)) ?_; (with_reducible refine (impl_RunBucket.calls k t183 t184 t185 t186 _ _ t188 t191 t192 t193 t194 t195 t198 _ ?side1 ?side2 A7.out).mono ?_); (case side1 => repeat (first | exact (Kd.R_reads' HO190.out).2.2 | (with_reducible refine Kd.C_alloc ?_ _) | (with_reducible refine Kd.C_drewN ?_ _) | (with_reducible refine Kd.C_drew ?_))); (case side2 => exact (Kd.R_reads' HO190.out).2.1); rintro e w22 ⟨v196, rfl, ho0, hb⟩; refine ⟨_, rfl, ?_⟩; have n0_ := Aside0.mk (Kd.R_below (b2_ HO190.out) hb); have n1_ := Aside0.mk (Kd.R_lower ho0 (below_size (by repeat (first | (with_reducible first | exact HB.out | apply below_alloc | apply pw_below_drewN | apply below_drew1 | refine below_set ?_ GE187.out) | exact HB.out)))); have n2_ := Aside0.mk (blk_below (g := gb187) (o := .cells #[.int .i64 t183, .int .i64 t184, .int .i64 t185, .int .i64 t186] 25 (0, 0)) (b1_ BK187.out) hb); have n3_ := Aside0.mk (below_step (by repeat (first | (with_reducible first | exact HB.out | apply below_alloc | apply pw_below_drewN | apply below_drew1 | refine below_set ?_ GE187.out) | exact HB.out)) hb); clear HO190; clear BK187; clear HB; have HO190 := n0_; have HO197 := n1_; have BK187 := n2_; have HB := n3_; clear n0_ n1_ n2_ n3_; (try clear hb); (try clear hb2); (try clear hk); (try clear hi); (try clear ho0)) | ((with_reducible refine gate_dst (N := 7) rfl ?_); (try (refine gate_guard (by rfl) ?_; dsimp only)); refine box_event ?hg (N := 7) ?hd (cs := #[.int .i64 0, .int .i64 0, .int .i64 0, .int .i64 0]) (t := 25) ?hr ?_; (case hd => rfl); (case hg => rfl); (case hr => first | (go_simp; done) | (go_simp; rfl)); intro gb199 hg w23 hbox hb; have n0_ := Aside0.mk (Kd.R_below (b2_ HO190.out) hb); have n1_ := Aside0.mk (Kd.R_below (b2_ HO197.out) hb); have n2_ := Aside0.mk (blk_below (g := gb187) (o := .cells #[.int .i64 t183, .int .i64 t184, .int .i64 t185, .int .i64 t186] 25 (0, 0)) (b1_ BK187.out) hb); have n3_ := Aside0.mk (below_step (by repeat (first | (with_reducible first | exact HB.out | apply below_alloc | apply pw_below_drewN | apply below_drew1 | refine below_set ?_ GE187.out) | exact HB.out)) hb); have n4_ := Aside0.mk (hbox); have n5_ := Aside0.mk ((by rw [hg]; exact (below_size (by repeat (first | (with_reducible first | exact HB.out | apply below_alloc | apply pw_below_drewN | apply below_drew1 | refine below_set ?_ GE187.out) | exact HB.out))) : w.heap.size ≤ gb199)); have n6_ := Aside0.mk ((by rw [hg]; exact (below_size (by repeat (first | (with_reducible first | exact HB.out | apply below_alloc | apply pw_below_drewN | apply below_drew1 | refine below_set ?_ GE187.out) | exact HB.out))) : w.heap.size ≤ gb199)); have n7_ := Aside0.mk ((by rw [hg]; exact Nat.ne_of_lt (blk_lt (g := gb187) (o := .cells #[.int .i64 t183, .int .i64 t184, .int .i64 t185, .int .i64 t186] 25 (0, 0)) (b1_ BK187.out)) : gb187 ≠ gb199)); have n8_ := Aside0.mk ((by rw [hg]; exact Nat.ne_of_gt (blk_lt (g := gb187) (o := .cells #[.int .i64 t183, .int .i64 t184, .int .i64 t185, .int .i64 t186] 25 (0, 0)) (b1_ BK187.out)) : gb199 ≠ gb187)); clear HO190; clear HO197; clear BK187; clear HB; have HO190 := n0_; have HO197 := n1_; have BK187 := n2_; have HB := n3_; have BK199 := n4_; have GW199 := n5_; have GE199 := n6_; have NB187_199 := n7_; have NB199_187 := n8_; clear n0_ n1_ n2_ n3_ n4_ n5_ n6_ n7_ n8_; clear hb hbox hg; have hnb24 := NB199_187.out; have hnc24 := NB187_199.out; have hcz25_0 : w23.cell? ⟨gb199, 0, none⟩ = some (.int .i64 0) := (blk_cell BK199.out 0).trans rfl; have hcz25_1 : w23.cell? ⟨gb199, 1, none⟩ = some (.int .i64 0) := (blk_cell BK199.out 1).trans rfl; have hcz25_2 : w23.cell? ⟨gb199, 2, none⟩ = some (.int .i64 0) := (blk_cell BK199.out 2).trans rfl; have hcz25_3 : w23.cell? ⟨gb199, 3, none⟩ = some (.int .i64 0) := (blk_cell BK199.out 3).trans rfl; have hfz25_0 := blk_frozen BK199.out 0; have hfz25_1 := blk_frozen BK199.out 1; have hfz25_2 := blk_frozen BK199.out 2; have hfz25_3 := blk_frozen BK199.out 3) | ((with_reducible refine gate_callee (f := 31) rfl ?_); refine goesL_ (some 40) rfl rfl Try.func31 s2_ rfl #[.slice A1 l1.length c1, .int .i64 40, .int .i64 (wrap64 ((t188.length : Int) + 1))] rfl (by (try simp only [List.map_toArray, List.map_cons, List.map_nil]); first | done | rfl | (simp only [List.length_drop, List.length_take]; rfl)) ?_; (with_reducible refine (laws_r8At.calls _ _ l1 40 (wrap64 ((t188.length : Int) + 1)) t200 _ ?side1 ?side2 A8.out).mono ?_); (case side1 => exact Kd.C_below HR1.out (by repeat (first | (with_reducible first | exact HB.out | apply below_alloc | apply pw_below_drewN | apply below_drew1 | refine below_set ?_ GE187.out | refine below_set ?_ GE199.out) | exact HB.out))); (case side2 => exact HC1.out); rintro e w' ⟨rfl, ⟨nd, rfl⟩⟩; refine ⟨_, rfl, ?_⟩))
 have n0_ : Aside0 (Kd.R (Kd.int .i64) 2 ((((w23.setCell ⟨gb199, 0, none⟩ (.int .i64 t191)).setCell ⟨gb199, 1, none⟩ (.int .i64 t192)).setCell ⟨gb199, 2, none⟩ (.int .i64 t193)).setCell ⟨gb199, 3, none⟩ (.int .i64 t194)) w.heap.size (fun _ => True) (.slice Ao21 t188.length co21) t188) := ⟨by (with_reducible repeat (first | apply Kd.R_alloc | apply Kd.R_drewN | apply Kd.R_drew)); exact Kd.R_mono (Kd.R_far (p := ⟨gb199, 3, none⟩) (Kd.R_far (p := ⟨gb199, 2, none⟩) (Kd.R_far (p := ⟨gb199, 1, none⟩) (Kd.R_far (p := ⟨gb199, 0, none⟩) (Kd.R_types HO190.out BK199.out (by decide)) (fun _ hk => hk.2) (.int .i64 t191)) (fun _ hk => hk.2) (.int .i64 t192)) (fun _ hk => hk.2) (.int .i64 t193)) (fun _ hk => hk.2) (.int .i64 t194)) (fun _ hk => trivial)⟩
 have n1_ : Aside0 (Kd.R Kd.bool 4 ((((w23.setCell ⟨gb199, 0, none⟩ (.int .i64 t191)).setCell ⟨gb199, 1, none⟩ (.int .i64 t192)).setCell ⟨gb199, 2, none⟩ (.int .i64 t193)).setCell ⟨gb199, 3, none⟩ (.int .i64 t194)) w.heap.size (fun _ => True) v196 t195) := ⟨by (with_reducible repeat (first | apply Kd.R_alloc | apply Kd.R_drewN | apply Kd.R_drew)); exact Kd.R_mono (Kd.R_far (p := ⟨gb199, 3, none⟩) (Kd.R_far (p := ⟨gb199, 2, none⟩) (Kd.R_far (p := ⟨gb199, 1, none⟩) (Kd.R_far (p := ⟨gb199, 0, none⟩) (Kd.R_types HO197.out BK199.out (by decide)) (fun _ hk => hk.2) (.int .i64 t191)) (fun _ hk => hk.2) (.int .i64 t192)) (fun _ hk => hk.2) (.int .i64 t193)) (fun _ hk => hk.2) (.int .i64 t194)) (fun _ hk => trivial)⟩
 have n2_ : Aside0 (((((w23.setCell ⟨gb199, 0, none⟩ (.int .i64 t191)).setCell ⟨gb199, 1, none⟩ (.int .i64 t192)).setCell ⟨gb199, 2, none⟩ (.int .i64 t193)).setCell ⟨gb199, 3, none⟩ (.int .i64 t194)).heap[gb187]? = some (.cells #[.int .i64 t183, .int .i64 t184, .int .i64 t185, .int .i64 t186] 25 (0, 0))) := ⟨by (with_reducible repeat (first | refine blk_drewN ?_ _ | refine blk_drew ?_ | refine blk_alloc ?_ _)); refine blk_far ?_ NB187_199.out _; (with_reducible repeat (first | refine blk_drewN ?_ _ | refine blk_drew ?_ | refine blk_alloc ?_ _)); refine blk_far ?_ NB187_199.out _; (with_reducible repeat (first | refine blk_drewN ?_ _ | refine blk_drew ?_ | refine blk_alloc ?_ _)); refine blk_far ?_ NB187_199.out _; (with_reducible repeat (first | refine blk_drewN ?_ _ | refine blk_drew ?_ | refine blk_alloc ?_ _)); refine blk_far ?_ NB187_199.out _; (with_reducible repeat (first | refine blk_drewN ?_ _ | refine blk_drew ?_ | refine blk_alloc ?_ _)); exact BK187.out⟩
 have n3_ : Aside0 (((((w23.setCell ⟨gb199, 0, none⟩ (.int .i64 t191)).setCell ⟨gb199, 1, none⟩ (.int .i64 t192)).setCell ⟨gb199, 2, none⟩ (.int .i64 t193)).setCell ⟨gb199, 3, none⟩ (.int .i64 t194)).heap[gb199]? = some (.cells #[.int .i64 t191, .int .i64 t192, .int .i64 t193, .int .i64 t194] 25 (0, 0))) := ⟨by (with_reducible repeat (first | refine blk_drewN ?_ _ | refine blk_drew ?_ | refine blk_alloc ?_ _)); refine blk_put (cs := #[.int .i64 t191, .int .i64 t192, .int .i64 t193, .int .i64 0]) ?_ 3 _ rfl; (with_reducible repeat (first | refine blk_drewN ?_ _ | refine blk_drew ?_ | refine blk_alloc ?_ _)); refine blk_put (cs := #[.int .i64 t191, .int .i64 t192, .int .i64 0, .int .i64 0]) ?_ 2 _ rfl; (with_reducible repeat (first | refine blk_drewN ?_ _ | refine blk_drew ?_ | refine blk_alloc ?_ _)); refine blk_put (cs := #[.int .i64 t191, .int .i64 0, .int .i64 0, .int .i64 0]) ?_ 1 _ rfl; (with_reducible repeat (first | refine blk_drewN ?_ _ | refine blk_drew ?_ | refine blk_alloc ?_ _)); refine blk_put (cs := #[.int .i64 0, .int .i64 0, .int .i64 0, .int .i64 0]) ?_ 0 _ rfl; (with_reducible repeat (first | refine blk_drewN ?_ _ | refine blk_drew ?_ | refine blk_alloc ?_ _)); exact BK199.out⟩
 have n4_ : Aside0 (Below w.heap.size w ((((w23.setCell ⟨gb199, 0, none⟩ (.int .i64 t191)).setCell ⟨gb199, 1, none⟩ (.int .i64 t192)).setCell ⟨gb199, 2, none⟩ (.int .i64 t193)).setCell ⟨gb199, 3, none⟩ (.int .i64 t194))) := ⟨by repeat (first | (with_reducible first | exact HB.out | apply below_alloc | apply pw_below_drewN | apply below_drew1 | refine below_set ?_ GE187.out | refine below_set ?_ GE199.out) | exact HB.out)⟩
 (try clear HO190)
 (try clear HO197)
 (try clear BK187)
 (try clear BK199)
 (try clear HB)
 generalize ((((w23.setCell ⟨gb199, 0, none⟩ (.int .i64 t191)).setCell ⟨gb199, 1, none⟩ (.int .i64 t192)).setCell ⟨gb199, 2, none⟩ (.int .i64 t193)).setCell ⟨gb199, 3, none⟩ (.int .i64 t194)) = w26 at n0_ n1_ n2_ n3_ n4_ ⊢
 have HO190 := n0_
 have HO197 := n1_
 have BK187 := n2_
 have BK199 := n3_
 have HB := n4_
 clear n0_ n1_ n2_ n3_ n4_
 (try (rw [drewN_self w26]; generalize hq_ : World.drewN w26 _ = w26; have n0_ : Aside0 (Kd.R (Kd.int .i64) 2 w26 w.heap.size (fun _ => True) (.slice Ao21 t188.length co21) t188) := ⟨by rw [← hq_]; exact (b2_ HO190.out)⟩; have n1_ : Aside0 (Kd.R Kd.bool 4 w26 w.heap.size (fun _ => True) v196 t195) := ⟨by rw [← hq_]; exact (b2_ HO197.out)⟩; have n2_ : Aside0 (w26.heap[gb187]? = some (.cells #[.int .i64 t183, .int .i64 t184, .int .i64 t185, .int .i64 t186] 25 (0, 0))) := ⟨by rw [← hq_]; exact (b1_ BK187.out)⟩; have n3_ : Aside0 (w26.heap[gb199]? = some (.cells #[.int .i64 t191, .int .i64 t192, .int .i64 t193, .int .i64 t194] 25 (0, 0))) := ⟨by rw [← hq_]; exact (b1_ BK199.out)⟩; have n4_ : Aside0 (Below w.heap.size w w26) := ⟨by rw [← hq_]; exact (by repeat (first | (with_reducible first | exact HB.out | apply below_alloc | apply pw_below_drewN | apply below_drew1 | refine below_set ?_ GE187.out | refine below_set ?_ GE199.out) | exact HB.out))⟩; clear HO190 HO197 BK187 BK199 HB hq_; have HO190 := n0_; have HO197 := n1_; have BK187 := n2_; have BK199 := n3_; have HB := n4_; clear n0_ n1_ n2_ n3_ n4_))
 have n0_ := Aside0.mk (Kd.R_drew HO190.out)
 have n1_ := Aside0.mk (Kd.R_drew HO197.out)
 have n2_ := Aside0.mk (blk_drew BK187.out)
 have n3_ := Aside0.mk (blk_drew BK199.out)
 have n4_ := Aside0.mk (below_drew1 HB.out)
 clear HO190
 clear HO197
 clear BK187
 clear BK199
 clear HB
 have HO190 := n0_
 have HO197 := n1_
 have BK187 := n2_
 have BK199 := n3_
 have HB := n4_
 clear n0_ n1_ n2_ n3_ n4_
 have q28 : (t200 : Int) ≤ ((t188.length : Int) : Int) := of_decide_eq_true (by first | (with_reducible assumption) | assumption)
 obtain ⟨i028, hi028, _, hsz28, _⟩ := info_parts info2
 have hroom28 : t188.length ≤ co21 := (Kd.R_reads' HO190.out).2.1
 have hC28 : Kd.C (Kd.int .i64) _ Ao21 t188.length t188 := (Kd.R_reads' HO190.out).2.2
 have hcut28 := cut_to (P := Try.prog) 42 2 .i64 Try.underlying42 hi028 Ao21 t188.length co21 t200 (of_decide_eq_true (by first | (with_reducible assumption) | assumption)) q28 hroom28
 have hr28 := Kd.C_take (m := (t200 : Int).toNat) hC28 (by omega)
 have hy28 : y201.length = (t200 : Int).toNat := (by rw [Ny201.out, List.length_take]; omega)
 rw [← Ny201.out] at hr28
 rw [← hy28] at hcut28
 have HR204 := Aside0.mk hr28
 have HC204 := Aside0.mk (show y201.length ≤ co21 from by omega)
 clear hr28 hC28 hroom28 hi028 hsz28
 have KY28 := Aside0.mk hy28
 clear hy28
 have KL28 := Aside0.mk (show (t200 : Int).toNat ≤ t188.length from by omega)
 replace q28 := eq_true q28
 refine start_ (n := 13) (S := fun w' => w'.cell? ⟨gb187, 0, none⟩ = some (.int .i64 t183) ∧ w'.cell? ⟨gb187, 1, none⟩ = some (.int .i64 t184) ∧ w'.cell? ⟨gb187, 2, none⟩ = some (.int .i64 t185) ∧ w'.cell? ⟨gb187, 3, none⟩ = some (.int .i64 t186)) (ds := []) #[F,F,F,F,F,F,F,F,F,F,F,F,F] s2_ rfl rfl ⟨(blk_cell BK187.out 0).trans rfl, (blk_cell BK187.out 1).trans rfl, (blk_cell BK187.out 2).trans rfl, (blk_cell BK187.out 3).trans rfl⟩ (fun hHeld => ?_); refine with_tabW laws_FnBuckets.tab7 laws_FnBuckets.bits7 (fun HT_ HW_ => ?_)
 generalize w26.drew = w27 at HO190 HO197 BK187 BK199 HB HR204 hHeld ⊢
 refine pure_ (i := 1) (N := some 43) (v := ?_) (a' := ?_) #[F,T,F,F,F,F,F,F,F,F,F,F,F] rfl rfl (any_of HT_.out s2_) (fun _ _ _ h => h) (Or.inl ⟨by rfl, ?_⟩) ?_ ?_
 rotate_left
 {
 intro w'
 go_simp
 with_reducible rfl}
 rotate_left
 · exact p1_
 refine pure_ (i := 2) (N := some 44) (v := ?_) (a' := ?_) #[F,T,T,F,F,F,F,F,F,F,F,F,F] rfl rfl (any_of HT_.out s2_) (fun _ _ _ h => h) (Or.inl ⟨by rfl, ?_⟩) ?_ ?_
 rotate_left
 {
 intro w'
 go_simp
 with_reducible rfl}
 rotate_left
 · exact p1_
 refine pure_ (i := 3) (N := some 45) (v := ?_) (a' := ?_) #[F,T,T,T,F,F,F,F,F,F,F,F,F] rfl rfl (any_of HT_.out s2_) (fun _ _ _ h => h) (Or.inl ⟨by rfl, ?_⟩) ?_ ?_
 rotate_left
 {
 intro w'
 go_simp
 with_reducible rfl}
 rotate_left
 · exact p1_
 refine take_ (i := 0) (N := some 42) (v := ?_) (a' := ?_) #[T,T,T,T,F,F,F,F,F,F,F,F,F] rfl rfl (take_ofW HT_.out HW_.out s2_) (fun _ _ _ h => h) (Or.inl ⟨by rfl, ?_⟩) hHeld ?_ ?_
 rotate_left
 {
 rintro w' ⟨s0, s1, s2, s3⟩
 go_simp
 with_reducible rfl}
 rotate_left
 · exact p1_
 refine join_ (σ := Value × Nat) 3 #[T,T,T,T,T,T,T,T,T,T,F,F,F] (fun s_ => [(46, .tuple #[.agg #[.int .i64 t205, .int .i64 t206, .int .i64 t207, .int .i64 t208], s_.1, .bool t212]), (11, .pointer (some ⟨s_.2, 0, none⟩)), (41, .tuple #[.agg #[.int .i64 t205, .int .i64 t206, .int .i64 t207, .int .i64 t208], s_.1, .bool t212]), (47, .agg #[.int .i64 t205, .int .i64 t206, .int .i64 t207, .int .i64 t208]), (48, s_.1), (49, .bool t212)]) (fun s_ w' => (w'.cell? ⟨gb187, 0, none⟩ = some (.int .i64 t183) ∧ w'.cell? ⟨gb187, 1, none⟩ = some (.int .i64 t184) ∧ w'.cell? ⟨gb187, 2, none⟩ = some (.int .i64 t185) ∧ w'.cell? ⟨gb187, 3, none⟩ = some (.int .i64 t186)) ∧ (Kd.R (Kd.int .i64) 2 w' w.heap.size (fun _ => True) (.slice Ao21 t188.length co21) t188) ∧ (Kd.R Kd.bool 4 w' w.heap.size (fun k_ => some k_ ≠ (s_.1 : Value).ownBlock) v196 t195) ∧ (Kd.R Kd.bool 4 w' w.heap.size (fun k_ => some k_ ≠ (v196 : Value).ownBlock) s_.1 t209) ∧ (w'.heap[gb187]? = some (.cells #[.int .i64 t183, .int .i64 t184, .int .i64 t185, .int .i64 t186] 25 (0, 0))) ∧ (w'.heap[gb199]? = some (.cells #[.int .i64 t191, .int .i64 t192, .int .i64 t193, .int .i64 t194] 25 (0, 0))) ∧ (w'.heap[s_.2]? = some (.cells #[.int .i64 0, .int .i64 0, .int .i64 0, .int .i64 0] 25 (0, 0))) ∧ (w.heap.size ≤ s_.2) ∧ (w.heap.size ≤ s_.2) ∧ (gb187 ≠ s_.2) ∧ (s_.2 ≠ gb187) ∧ (gb199 ≠ s_.2) ∧ (s_.2 ≠ gb199) ∧ (Below w.heap.size w w')) ?_ ?_
 rotate_left
 {
 intro hCont
 refine two_ (i := 4) (j := 9) (Ni := some 46) (Nj := some 11) #[T,T,T,T,T,F,F,F,F,F,F,F,F] #[T,T,T,T,F,F,F,F,F,T,F,F,F] rfl rfl rfl rfl (two_of HT_.out s2_) (by decide) (by decide) (fun K hK => ?_) (fun K hK => ?_)
 {
 skip
 refine goes_ Try.func30 s2_ rfl #[.agg #[.int .i64 t183, .int .i64 t184, .int .i64 t185, .int .i64 t186], .slice Ao21 y201.length co21] (by rfl) rfl rfl (by (try simp only [List.map_toArray, List.map_cons, List.map_nil]); first | done | rfl | (simp only [List.length_drop, List.length_take]; rfl)) ?_
 with_reducible refine (impl_RunBucket.calls k t183 t184 t185 t186 _ _ y201 t205 t206 t207 t208 t209 t212 _ ?side1 ?side2 A11.out).mono ?_
 (case side1 => repeat (first | exact (by repeat (first | (with_reducible exact HR204.out) | (with_reducible refine Kd.C_alloc ?_ _) | (with_reducible refine Kd.C_drewN ?_ _) | (with_reducible refine Kd.C_drew ?_) | exact HR204.out)) | (with_reducible refine Kd.C_alloc ?_ _) | (with_reducible refine Kd.C_drewN ?_ _) | (with_reducible refine Kd.C_drew ?_)))
 (case side2 => exact HC204.out)
 rintro e w29 ⟨v210, rfl, ho0, hb⟩
 refine ⟨_, rfl, ?_⟩
 have n0_ := Aside0.mk (Kd.R_below (b2_ HO190.out) hb)
 have n1_ := Aside0.mk (Kd.R_elder' (b2_ HO197.out) (Kd.R_base ho0) hb)
 have n2_ := Aside0.mk (Kd.R_lower (Kd.R_new' ho0 (Kd.R_lt (b2_ HO197.out))) (below_size (by repeat (first | (with_reducible first | exact HB.out | apply below_alloc | apply pw_below_drewN | apply below_drew1 | refine below_set ?_ GE187.out | refine below_set ?_ GE199.out) | exact HB.out))))
 have n3_ := Aside0.mk (blk_below (g := gb187) (o := .cells #[.int .i64 t183, .int .i64 t184, .int .i64 t185, .int .i64 t186] 25 (0, 0)) (b1_ BK187.out) hb)
 have n4_ := Aside0.mk (blk_below (g := gb199) (o := .cells #[.int .i64 t191, .int .i64 t192, .int .i64 t193, .int .i64 t194] 25 (0, 0)) (b1_ BK199.out) hb)
 have n5_ := Aside0.mk (Kd.C_below (by repeat (first | (with_reducible exact HR204.out) | (with_reducible refine Kd.C_alloc ?_ _) | (with_reducible refine Kd.C_drewN ?_ _) | (with_reducible refine Kd.C_drew ?_) | exact HR204.out)) hb)
 have n6_ := Aside0.mk (below_step (by repeat (first | (with_reducible first | exact HB.out | apply below_alloc | apply pw_below_drewN | apply below_drew1 | refine below_set ?_ GE187.out | refine below_set ?_ GE199.out) | exact HB.out)) hb)
 clear HO190
 clear HO197
 clear BK187
 clear BK199
 clear HR204
 clear HB
 have HO190 := n0_
 have HO197 := n1_
 have HO211 := n2_
 have BK187 := n3_
 have BK199 := n4_
 have HR204 := n5_
 have HB := n6_
 clear n0_ n1_ n2_ n3_ n4_ n5_ n6_
 (try clear hb)
 (try clear hb2)
 (try clear hk)
 (try clear hi)
 (try clear ho0)
 refine hK.out _ _ ⟨(blk_cell BK187.out 0).trans rfl, (blk_cell BK187.out 1).trans rfl, (blk_cell BK187.out 2).trans rfl, (blk_cell BK187.out 3).trans rfl⟩ (fun hHeld => ?_)
 clear hK K
 refine norm_ (a' := ?_) ?_ ?_
 rotate_left
 {
 show Act.put _ (some 46) _ = _
 simp only [Act.put, List.setIfInBounds_toArray, List.set_cons_zero, List.set_cons_succ, i64_w, i32_w]
 rfl}
 refine pure_ (i := 5) (N := some 41) (v := ?_) (a' := ?_) #[T,T,T,T,T,T,F,F,F,F,F,F,F] rfl rfl (any_of HT_.out s2_) (fun _ _ _ h => h) (Or.inl ⟨by rfl, ?_⟩) ?_ ?_
 rotate_left
 {
 intro w'
 go_simp
 with_reducible rfl}
 rotate_left
 · exact p1_
 refine pure_ (i := 6) (N := some 47) (v := ?_) (a' := ?_) #[T,T,T,T,T,T,T,F,F,F,F,F,F] rfl rfl (any_of HT_.out s2_) (fun _ _ _ h => h) (Or.inl ⟨by rfl, ?_⟩) ?_ ?_
 rotate_left
 {
 intro w'
 go_simp
 with_reducible rfl}
 rotate_left
 · exact p1_
 refine pure_ (i := 7) (N := some 48) (v := ?_) (a' := ?_) #[T,T,T,T,T,T,T,T,F,F,F,F,F] rfl rfl (any_of HT_.out s2_) (fun _ _ _ h => h) (Or.inl ⟨by rfl, ?_⟩) ?_ ?_
 rotate_left
 {
 intro w'
 go_simp
 with_reducible rfl}
 rotate_left
 · exact p1_
 refine pure_ (i := 8) (N := some 49) (v := ?_) (a' := ?_) #[T,T,T,T,T,T,T,T,T,F,F,F,F] rfl rfl (any_of HT_.out s2_) (fun _ _ _ h => h) (Or.inl ⟨by rfl, ?_⟩) ?_ ?_
 rotate_left
 {
 intro w'
 go_simp
 with_reducible rfl}
 rotate_left
 · exact p1_
 refine one_ (i := 9) (N := some 11) #[T,T,T,T,T,T,T,T,T,T,F,F,F] rfl rfl (one_of HT_.out s2_) (by decide) (fun K hK => ?_)
 refine box_step ?hg (N := 11) ?hd (cs := #[.int .i64 0, .int .i64 0, .int .i64 0, .int .i64 0]) (t := 25) ?hr ?_; (case hd => rfl); (case hg => rfl); (case hr => first | (go_simp; done) | (go_simp; rfl))
 intro gb213 hg w30 hbox hb
 have n0_ := Aside0.mk (Kd.R_below (b2_ HO190.out) hb)
 have n1_ := Aside0.mk (Kd.R_below (b2_ HO197.out) hb)
 have n2_ := Aside0.mk (Kd.R_below (b2_ HO211.out) hb)
 have n3_ := Aside0.mk (blk_below (g := gb187) (o := .cells #[.int .i64 t183, .int .i64 t184, .int .i64 t185, .int .i64 t186] 25 (0, 0)) (b1_ BK187.out) hb)
 have n4_ := Aside0.mk (blk_below (g := gb199) (o := .cells #[.int .i64 t191, .int .i64 t192, .int .i64 t193, .int .i64 t194] 25 (0, 0)) (b1_ BK199.out) hb)
 have n5_ := Aside0.mk (Kd.C_below (by repeat (first | (with_reducible exact HR204.out) | (with_reducible refine Kd.C_alloc ?_ _) | (with_reducible refine Kd.C_drewN ?_ _) | (with_reducible refine Kd.C_drew ?_) | exact HR204.out)) hb)
 have n6_ := Aside0.mk (below_step (by repeat (first | (with_reducible first | exact HB.out | apply below_alloc | apply pw_below_drewN | apply below_drew1 | refine below_set ?_ GE187.out | refine below_set ?_ GE199.out) | exact HB.out)) hb)
 have n7_ := Aside0.mk (hbox)
 have n8_ := Aside0.mk ((by rw [hg]; exact (below_size (by repeat (first | (with_reducible first | exact HB.out | apply below_alloc | apply pw_below_drewN | apply below_drew1 | refine below_set ?_ GE187.out | refine below_set ?_ GE199.out) | exact HB.out))) : w.heap.size ≤ gb213))
 have n9_ := Aside0.mk ((by rw [hg]; exact (below_size (by repeat (first | (with_reducible first | exact HB.out | apply below_alloc | apply pw_below_drewN | apply below_drew1 | refine below_set ?_ GE187.out | refine below_set ?_ GE199.out) | exact HB.out))) : w.heap.size ≤ gb213))
 have n10_ := Aside0.mk ((by rw [hg]; exact Nat.ne_of_lt (blk_lt (g := gb187) (o := .cells #[.int .i64 t183, .int .i64 t184, .int .i64 t185, .int .i64 t186] 25 (0, 0)) (b1_ BK187.out)) : gb187 ≠ gb213))
 have n11_ := Aside0.mk ((by rw [hg]; exact Nat.ne_of_gt (blk_lt (g := gb187) (o := .cells #[.int .i64 t183, .int .i64 t184, .int .i64 t185, .int .i64 t186] 25 (0, 0)) (b1_ BK187.out)) : gb213 ≠ gb187))
 have n12_ := Aside0.mk ((by rw [hg]; exact Nat.ne_of_lt (blk_lt (g := gb199) (o := .cells #[.int .i64 t191, .int .i64 t192, .int .i64 t193, .int .i64 t194] 25 (0, 0)) (b1_ BK199.out)) : gb199 ≠ gb213))
 have n13_ := Aside0.mk ((by rw [hg]; exact Nat.ne_of_gt (blk_lt (g := gb199) (o := .cells #[.int .i64 t191, .int .i64 t192, .int .i64 t193, .int .i64 t194] 25 (0, 0)) (b1_ BK199.out)) : gb213 ≠ gb199))
 clear HO190
 clear HO197
 clear HO211
 clear BK187
 clear BK199
 clear HR204
 clear HB
 have HO190 := n0_
 have HO197 := n1_
 have HO211 := n2_
 have BK187 := n3_
 have BK199 := n4_
 have HR204 := n5_
 have HB := n6_
 have BK213 := n7_
 have GW213 := n8_
 have GE213 := n9_
 have NB187_213 := n10_
 have NB213_187 := n11_
 have NB199_213 := n12_
 have NB213_199 := n13_
 clear n0_ n1_ n2_ n3_ n4_ n5_ n6_ n7_ n8_ n9_ n10_ n11_ n12_ n13_
 clear hb hbox hg
 refine hK.out _ _ ⟨(blk_cell BK187.out 0).trans rfl, (blk_cell BK187.out 1).trans rfl, (blk_cell BK187.out 2).trans rfl, (blk_cell BK187.out 3).trans rfl⟩ (fun hHeld => ?_)
 clear hK K
 refine norm_ (a' := ?_) ?_ ?_
 rotate_left
 {
 show Act.put _ (some 11) _ = _
 simp only [Act.put, List.setIfInBounds_toArray, List.set_cons_zero, List.set_cons_succ, i64_w, i32_w]
 rfl}
 exact norm_ (by simp only [putAll, Act.put, List.setIfInBounds_toArray, List.set_cons_zero, List.set_cons_succ]) (hCont (v210, gb213) _ ⟨hHeld, (b2_ HO190.out), (by (with_reducible repeat (first | apply Kd.R_alloc | apply Kd.R_drewN | apply Kd.R_drew)); exact Kd.R_mono HO197.out (fun _ hk => hk.2)), (by (with_reducible repeat (first | apply Kd.R_alloc | apply Kd.R_drewN | apply Kd.R_drew)); exact Kd.R_mono HO211.out (fun _ hk => hk.2)), (b1_ BK187.out), (b1_ BK199.out), (b1_ BK213.out), GW213.out, GE213.out, NB187_213.out, NB213_187.out, NB199_213.out, NB213_199.out, (by repeat (first | (with_reducible first | exact HB.out | apply below_alloc | apply pw_below_drewN | apply below_drew1 | refine below_set ?_ GE187.out | refine below_set ?_ GE199.out | refine below_set ?_ GE213.out) | exact HB.out))⟩)}
 {
 skip
 refine box_step ?hg (N := 11) ?hd (cs := #[.int .i64 0, .int .i64 0, .int .i64 0, .int .i64 0]) (t := 25) ?hr ?_; (case hd => rfl); (case hg => rfl); (case hr => first | (go_simp; done) | (go_simp; rfl))
 intro gb213 hg w29 hbox hb
 have n0_ := Aside0.mk (Kd.R_below (b2_ HO190.out) hb)
 have n1_ := Aside0.mk (Kd.R_below (b2_ HO197.out) hb)
 have n2_ := Aside0.mk (blk_below (g := gb187) (o := .cells #[.int .i64 t183, .int .i64 t184, .int .i64 t185, .int .i64 t186] 25 (0, 0)) (b1_ BK187.out) hb)
 have n3_ := Aside0.mk (blk_below (g := gb199) (o := .cells #[.int .i64 t191, .int .i64 t192, .int .i64 t193, .int .i64 t194] 25 (0, 0)) (b1_ BK199.out) hb)
 have n4_ := Aside0.mk (Kd.C_below (by repeat (first | (with_reducible exact HR204.out) | (with_reducible refine Kd.C_alloc ?_ _) | (with_reducible refine Kd.C_drewN ?_ _) | (with_reducible refine Kd.C_drew ?_) | exact HR204.out)) hb)
 have n5_ := Aside0.mk (below_step (by repeat (first | (with_reducible first | exact HB.out | apply below_alloc | apply pw_below_drewN | apply below_drew1 | refine below_set ?_ GE187.out | refine below_set ?_ GE199.out) | exact HB.out)) hb)
 have n6_ := Aside0.mk (hbox)
 have n7_ := Aside0.mk ((by rw [hg]; exact (below_size (by repeat (first | (with_reducible first | exact HB.out | apply below_alloc | apply pw_below_drewN | apply below_drew1 | refine below_set ?_ GE187.out | refine below_set ?_ GE199.out) | exact HB.out))) : w.heap.size ≤ gb213))
 have n8_ := Aside0.mk ((by rw [hg]; exact (below_size (by repeat (first | (with_reducible first | exact HB.out | apply below_alloc | apply pw_below_drewN | apply below_drew1 | refine below_set ?_ GE187.out | refine below_set ?_ GE199.out) | exact HB.out))) : w.heap.size ≤ gb213))
 have n9_ := Aside0.mk ((by rw [hg]; exact Nat.ne_of_lt (blk_lt (g := gb187) (o := .cells #[.int .i64 t183, .int .i64 t184, .int .i64 t185, .int .i64 t186] 25 (0, 0)) (b1_ BK187.out)) : gb187 ≠ gb213))
 have n10_ := Aside0.mk ((by rw [hg]; exact Nat.ne_of_gt (blk_lt (g := gb187) (o := .cells #[.int .i64 t183, .int .i64 t184, .int .i64 t185, .int .i64 t186] 25 (0, 0)) (b1_ BK187.out)) : gb213 ≠ gb187))
 have n11_ := Aside0.mk ((by rw [hg]; exact Nat.ne_of_lt (blk_lt (g := gb199) (o := .cells #[.int .i64 t191, .int .i64 t192, .int .i64 t193, .int .i64 t194] 25 (0, 0)) (b1_ BK199.out)) : gb199 ≠ gb213))
 have n12_ := Aside0.mk ((by rw [hg]; exact Nat.ne_of_gt (blk_lt (g := gb199) (o := .cells #[.int .i64 t191, .int .i64 t192, .int .i64 t193, .int .i64 t194] 25 (0, 0)) (b1_ BK199.out)) : gb213 ≠ gb199))
 clear HO190
 clear HO197
 clear BK187
 clear BK199
 clear HR204
 clear HB
 have HO190 := n0_
 have HO197 := n1_
 have BK187 := n2_
 have BK199 := n3_
 have HR204 := n4_
 have HB := n5_
 have BK213 := n6_
 have GW213 := n7_
 have GE213 := n8_
 have NB187_213 := n9_
 have NB213_187 := n10_
 have NB199_213 := n11_
 have NB213_199 := n12_
 clear n0_ n1_ n2_ n3_ n4_ n5_ n6_ n7_ n8_ n9_ n10_ n11_ n12_
 clear hb hbox hg
 refine hK.out _ _ ⟨(blk_cell BK187.out 0).trans rfl, (blk_cell BK187.out 1).trans rfl, (blk_cell BK187.out 2).trans rfl, (blk_cell BK187.out 3).trans rfl⟩ (fun hHeld => ?_)
 clear hK K
 refine norm_ (a' := ?_) ?_ ?_
 rotate_left
 {
 show Act.put _ (some 11) _ = _
 simp only [Act.put, List.setIfInBounds_toArray, List.set_cons_zero, List.set_cons_succ, i64_w, i32_w]
 rfl}
 refine one_ (i := 4) (N := some 46) #[T,T,T,T,T,F,F,F,F,T,F,F,F] rfl rfl (one_of HT_.out s2_) (by decide) (fun K hK => ?_)
 refine goes_ Try.func30 s2_ rfl #[.agg #[.int .i64 t183, .int .i64 t184, .int .i64 t185, .int .i64 t186], .slice Ao21 y201.length co21] (by rfl) rfl rfl (by (try simp only [List.map_toArray, List.map_cons, List.map_nil]); first | done | rfl | (simp only [List.length_drop, List.length_take]; rfl)) ?_
 with_reducible refine (impl_RunBucket.calls k t183 t184 t185 t186 _ _ y201 t205 t206 t207 t208 t209 t212 _ ?side1 ?side2 A11.out).mono ?_
 (case side1 => repeat (first | exact (by repeat (first | (with_reducible exact HR204.out) | (with_reducible refine Kd.C_alloc ?_ _) | (with_reducible refine Kd.C_drewN ?_ _) | (with_reducible refine Kd.C_drew ?_) | exact HR204.out)) | (with_reducible refine Kd.C_alloc ?_ _) | (with_reducible refine Kd.C_drewN ?_ _) | (with_reducible refine Kd.C_drew ?_)))
 (case side2 => exact HC204.out)
 rintro e w30 ⟨v210, rfl, ho0, hb⟩
 refine ⟨_, rfl, ?_⟩
 have n0_ := Aside0.mk (Kd.R_below (b2_ HO190.out) hb)
 have n1_ := Aside0.mk (Kd.R_elder' (b2_ HO197.out) (Kd.R_base ho0) hb)
 have n2_ := Aside0.mk (Kd.R_lower (Kd.R_new' ho0 (Kd.R_lt (b2_ HO197.out))) (below_size (by repeat (first | (with_reducible first | exact HB.out | apply below_alloc | apply pw_below_drewN | apply below_drew1 | refine below_set ?_ GE187.out | refine below_set ?_ GE199.out | refine below_set ?_ GE213.out) | exact HB.out))))
 have n3_ := Aside0.mk (blk_below (g := gb187) (o := .cells #[.int .i64 t183, .int .i64 t184, .int .i64 t185, .int .i64 t186] 25 (0, 0)) (b1_ BK187.out) hb)
 have n4_ := Aside0.mk (blk_below (g := gb199) (o := .cells #[.int .i64 t191, .int .i64 t192, .int .i64 t193, .int .i64 t194] 25 (0, 0)) (b1_ BK199.out) hb)
 have n5_ := Aside0.mk (Kd.C_below (by repeat (first | (with_reducible exact HR204.out) | (with_reducible refine Kd.C_alloc ?_ _) | (with_reducible refine Kd.C_drewN ?_ _) | (with_reducible refine Kd.C_drew ?_) | exact HR204.out)) hb)
 have n6_ := Aside0.mk (blk_below (g := gb213) (o := .cells #[.int .i64 0, .int .i64 0, .int .i64 0, .int .i64 0] 25 (0, 0)) (b1_ BK213.out) hb)
 have n7_ := Aside0.mk (below_step (by repeat (first | (with_reducible first | exact HB.out | apply below_alloc | apply pw_below_drewN | apply below_drew1 | refine below_set ?_ GE187.out | refine below_set ?_ GE199.out | refine below_set ?_ GE213.out) | exact HB.out)) hb)
 clear HO190
 clear HO197
 clear BK187
 clear BK199
 clear HR204
 clear BK213
 clear HB
 have HO190 := n0_
 have HO197 := n1_
 have HO211 := n2_
 have BK187 := n3_
 have BK199 := n4_
 have HR204 := n5_
 have BK213 := n6_
 have HB := n7_
 clear n0_ n1_ n2_ n3_ n4_ n5_ n6_ n7_
 (try clear hb)
 (try clear hb2)
 (try clear hk)
 (try clear hi)
 (try clear ho0)
 refine hK.out _ _ ⟨(blk_cell BK187.out 0).trans rfl, (blk_cell BK187.out 1).trans rfl, (blk_cell BK187.out 2).trans rfl, (blk_cell BK187.out 3).trans rfl⟩ (fun hHeld => ?_)
 clear hK K
 refine norm_ (a' := ?_) ?_ ?_
 rotate_left
 {
 show Act.put _ (some 46) _ = _
 simp only [Act.put, List.setIfInBounds_toArray, List.set_cons_zero, List.set_cons_succ, i64_w, i32_w]
 rfl}
 refine pure_ (i := 5) (N := some 41) (v := ?_) (a' := ?_) #[T,T,T,T,T,T,F,F,F,T,F,F,F] rfl rfl (any_of HT_.out s2_) (fun _ _ _ h => h) (Or.inl ⟨by rfl, ?_⟩) ?_ ?_
 rotate_left
 {
 intro w'
 go_simp
 with_reducible rfl}
 rotate_left
 · exact p1_
 refine pure_ (i := 6) (N := some 47) (v := ?_) (a' := ?_) #[T,T,T,T,T,T,T,F,F,T,F,F,F] rfl rfl (any_of HT_.out s2_) (fun _ _ _ h => h) (Or.inl ⟨by rfl, ?_⟩) ?_ ?_
 rotate_left
 {
 intro w'
 go_simp
 with_reducible rfl}
 rotate_left
 · exact p1_
 refine pure_ (i := 7) (N := some 48) (v := ?_) (a' := ?_) #[T,T,T,T,T,T,T,T,F,T,F,F,F] rfl rfl (any_of HT_.out s2_) (fun _ _ _ h => h) (Or.inl ⟨by rfl, ?_⟩) ?_ ?_
 rotate_left
 {
 intro w'
 go_simp
 with_reducible rfl}
 rotate_left
 · exact p1_
 refine pure_ (i := 8) (N := some 49) (v := ?_) (a' := ?_) #[T,T,T,T,T,T,T,T,T,T,F,F,F] rfl rfl (any_of HT_.out s2_) (fun _ _ _ h => h) (Or.inl ⟨by rfl, ?_⟩) ?_ ?_
 rotate_left
 {
 intro w'
 go_simp
 with_reducible rfl}
 rotate_left
 · exact p1_
 exact norm_ (by simp only [putAll, Act.put, List.setIfInBounds_toArray, List.set_cons_zero, List.set_cons_succ]) (hCont (v210, gb213) _ ⟨hHeld, (b2_ HO190.out), (by (with_reducible repeat (first | apply Kd.R_alloc | apply Kd.R_drewN | apply Kd.R_drew)); exact Kd.R_mono HO197.out (fun _ hk => hk.2)), (by (with_reducible repeat (first | apply Kd.R_alloc | apply Kd.R_drewN | apply Kd.R_drew)); exact Kd.R_mono HO211.out (fun _ hk => hk.2)), (b1_ BK187.out), (b1_ BK199.out), (b1_ BK213.out), GW213.out, GE213.out, NB187_213.out, NB213_187.out, NB199_213.out, NB213_199.out, (by repeat (first | (with_reducible first | exact HB.out | apply below_alloc | apply pw_below_drewN | apply below_drew1 | refine below_set ?_ GE187.out | refine below_set ?_ GE199.out | refine below_set ?_ GE213.out) | exact HB.out))⟩)}}
 rintro ⟨v210, gb213⟩ w31 ⟨hS_, h0_, h1_, h2_, h3_, h4_, h5_, h6_, h7_, h8_, h9_, h10_, h11_, h12_⟩
 have n0_ : Aside0 (Kd.R (Kd.int .i64) 2 w31 w.heap.size (fun _ => True) (.slice Ao21 t188.length co21) t188) := ⟨h0_⟩
 have n1_ : Aside0 (Kd.R Kd.bool 4 w31 w.heap.size (fun k_ => some k_ ≠ (v210 : Value).ownBlock) v196 t195) := ⟨h1_⟩
 have n2_ : Aside0 (Kd.R Kd.bool 4 w31 w.heap.size (fun k_ => some k_ ≠ (v196 : Value).ownBlock) v210 t209) := ⟨h2_⟩
 have n3_ : Aside0 (w31.heap[gb187]? = some (.cells #[.int .i64 t183, .int .i64 t184, .int .i64 t185, .int .i64 t186] 25 (0, 0))) := ⟨h3_⟩
 have n4_ : Aside0 (w31.heap[gb199]? = some (.cells #[.int .i64 t191, .int .i64 t192, .int .i64 t193, .int .i64 t194] 25 (0, 0))) := ⟨h4_⟩
 have n5_ : Aside0 (w31.heap[gb213]? = some (.cells #[.int .i64 0, .int .i64 0, .int .i64 0, .int .i64 0] 25 (0, 0))) := ⟨h5_⟩
 have n6_ : Aside0 (w.heap.size ≤ gb213) := ⟨h6_⟩
 have n7_ : Aside0 (w.heap.size ≤ gb213) := ⟨h7_⟩
 have n8_ : Aside0 (gb187 ≠ gb213) := ⟨h8_⟩
 have n9_ : Aside0 (gb213 ≠ gb187) := ⟨h9_⟩
 have n10_ : Aside0 (gb199 ≠ gb213) := ⟨h10_⟩
 have n11_ : Aside0 (gb213 ≠ gb199) := ⟨h11_⟩
 have n12_ : Aside0 (Below w.heap.size w w31) := ⟨h12_⟩
 clear HO190
 clear HO197
 clear BK187
 clear BK199
 clear HB
 clear h0_ h1_ h2_ h3_ h4_ h5_ h6_ h7_ h8_ h9_ h10_ h11_ h12_
 have HO190 := n0_
 have HO197 := n1_
 have HO211 := n2_
 have BK187 := n3_
 have BK199 := n4_
 have BK213 := n5_
 have GW213 := n6_
 have GE213 := n7_
 have NB187_213 := n8_
 have NB213_187 := n9_
 have NB199_213 := n10_
 have NB213_199 := n11_
 have HB := n12_
 clear n0_ n1_ n2_ n3_ n4_ n5_ n6_ n7_ n8_ n9_ n10_ n11_ n12_
 have hHeld : w31.cell? ⟨gb187, 0, none⟩ = some (.int .i64 t183) ∧ w31.cell? ⟨gb187, 1, none⟩ = some (.int .i64 t184) ∧ w31.cell? ⟨gb187, 2, none⟩ = some (.int .i64 t185) ∧ w31.cell? ⟨gb187, 3, none⟩ = some (.int .i64 t186) := hS_
 refine norm_ (a' := ?_) ?_ ?_
 rotate_left
 {
 simp only [putAll, Act.put, List.setIfInBounds_toArray, List.set_cons_zero, List.set_cons_succ]
 rfl}
 refine one_ (i := 10) (N := none) #[T,T,T,T,T,T,T,T,T,T,T,F,F] rfl rfl (one_of HT_.out s2_) (by decide) (fun K hK => ?_)
 have hs32 : w31.cell? ⟨gb213, 0, none⟩ = some (.int .i64 0) := (blk_cell BK213.out 0).trans rfl
 have hfs32 := blk_frozen BK213.out 0
 have hns32_0 := NB187_213.out
 have hns32_1 := NB199_213.out
 have hms32_0 := NB213_187.out
 have hms32_1 := NB213_199.out
 have hs33 : w31.cell? ⟨gb213, 1, none⟩ = some (.int .i64 0) := (blk_cell BK213.out 1).trans rfl
 have hfs33 := blk_frozen BK213.out 1
 have hns33_0 := NB187_213.out
 have hns33_1 := NB199_213.out
 have hms33_0 := NB213_187.out
 have hms33_1 := NB213_199.out
 have hs34 : w31.cell? ⟨gb213, 2, none⟩ = some (.int .i64 0) := (blk_cell BK213.out 2).trans rfl
 have hfs34 := blk_frozen BK213.out 2
 have hns34_0 := NB187_213.out
 have hns34_1 := NB199_213.out
 have hms34_0 := NB213_187.out
 have hms34_1 := NB213_199.out
 have hs35 : w31.cell? ⟨gb213, 3, none⟩ = some (.int .i64 0) := (blk_cell BK213.out 3).trans rfl
 have hfs35 := blk_frozen BK213.out 3
 have hns35_0 := NB187_213.out
 have hns35_1 := NB199_213.out
 have hms35_0 := NB213_187.out
 have hms35_1 := NB213_199.out
 refine skip_ (w1 := ?_) (by rfl) rfl ?_ ?_
 rotate_left
 {
 go_simp
 rfl}
 refine hK.out _ _ ⟨((cell_far (p := ⟨gb213, _, none⟩) NB187_213.out _).trans (((cell_far (p := ⟨gb213, _, none⟩) NB187_213.out _).trans (((cell_far (p := ⟨gb213, _, none⟩) NB187_213.out _).trans (((cell_far (p := ⟨gb213, _, none⟩) NB187_213.out _).trans (hHeld.1)))))))), ((cell_far (p := ⟨gb213, _, none⟩) NB187_213.out _).trans (((cell_far (p := ⟨gb213, _, none⟩) NB187_213.out _).trans (((cell_far (p := ⟨gb213, _, none⟩) NB187_213.out _).trans (((cell_far (p := ⟨gb213, _, none⟩) NB187_213.out _).trans (hHeld.2.1)))))))), ((cell_far (p := ⟨gb213, _, none⟩) NB187_213.out _).trans (((cell_far (p := ⟨gb213, _, none⟩) NB187_213.out _).trans (((cell_far (p := ⟨gb213, _, none⟩) NB187_213.out _).trans (((cell_far (p := ⟨gb213, _, none⟩) NB187_213.out _).trans (hHeld.2.2.1)))))))), ((cell_far (p := ⟨gb213, _, none⟩) NB187_213.out _).trans (((cell_far (p := ⟨gb213, _, none⟩) NB187_213.out _).trans (((cell_far (p := ⟨gb213, _, none⟩) NB187_213.out _).trans (((cell_far (p := ⟨gb213, _, none⟩) NB187_213.out _).trans (hHeld.2.2.2))))))))⟩ (fun hHeld => ?_)
 clear hK K
 refine pure_ (i := 11) (N := some 12) (v := ?_) (a' := ?_) #[T,T,T,T,T,T,T,T,T,T,T,T,F] rfl rfl (any_of HT_.out s2_) (fun _ _ _ h => h) (Or.inl ⟨by rfl, ?_⟩) ?_ ?_
 rotate_left
 {
 intro w'
 go_simp
 with_reducible rfl}
 rotate_left
 · exact p1_
 refine pure_ (i := 12) (N := some 13) (v := ?_) (a' := ?_) #[T,T,T,T,T,T,T,T,T,T,T,T,T] rfl rfl (any_of HT_.out s2_) (fun _ _ _ h => h) (Or.inl ⟨by rfl, ?_⟩) ?_ ?_
 rotate_left
 {
 intro w'
 go_simp
 with_reducible rfl}
 rotate_left
 · exact p1_
 refine done_ (done_of HT_.out s2_) ?_
 try go_wp2
 have n0_ : Aside0 (Kd.R (Kd.int .i64) 2 ((((w31.setCell ⟨gb213, 0, none⟩ (.int .i64 t205)).setCell ⟨gb213, 1, none⟩ (.int .i64 t206)).setCell ⟨gb213, 2, none⟩ (.int .i64 t207)).setCell ⟨gb213, 3, none⟩ (.int .i64 t208)) w.heap.size (fun _ => True) (.slice Ao21 t188.length co21) t188) := ⟨by (with_reducible repeat (first | apply Kd.R_alloc | apply Kd.R_drewN | apply Kd.R_drew)); exact Kd.R_mono (Kd.R_far (p := ⟨gb213, 3, none⟩) (Kd.R_far (p := ⟨gb213, 2, none⟩) (Kd.R_far (p := ⟨gb213, 1, none⟩) (Kd.R_far (p := ⟨gb213, 0, none⟩) (Kd.R_types HO190.out BK213.out (by decide)) (fun _ hk => hk.2) (.int .i64 t205)) (fun _ hk => hk.2) (.int .i64 t206)) (fun _ hk => hk.2) (.int .i64 t207)) (fun _ hk => hk.2) (.int .i64 t208)) (fun _ hk => trivial)⟩
 have n1_ : Aside0 (Kd.R Kd.bool 4 ((((w31.setCell ⟨gb213, 0, none⟩ (.int .i64 t205)).setCell ⟨gb213, 1, none⟩ (.int .i64 t206)).setCell ⟨gb213, 2, none⟩ (.int .i64 t207)).setCell ⟨gb213, 3, none⟩ (.int .i64 t208)) w.heap.size (fun k_ => some k_ ≠ (v210 : Value).ownBlock) v196 t195) := ⟨by (with_reducible repeat (first | apply Kd.R_alloc | apply Kd.R_drewN | apply Kd.R_drew)); exact Kd.R_mono (Kd.R_far (p := ⟨gb213, 3, none⟩) (Kd.R_far (p := ⟨gb213, 2, none⟩) (Kd.R_far (p := ⟨gb213, 1, none⟩) (Kd.R_far (p := ⟨gb213, 0, none⟩) (Kd.R_types HO197.out BK213.out (by decide)) (fun _ hk => hk.2) (.int .i64 t205)) (fun _ hk => hk.2) (.int .i64 t206)) (fun _ hk => hk.2) (.int .i64 t207)) (fun _ hk => hk.2) (.int .i64 t208)) (fun _ hk => hk.1)⟩
 have n2_ : Aside0 (Kd.R Kd.bool 4 ((((w31.setCell ⟨gb213, 0, none⟩ (.int .i64 t205)).setCell ⟨gb213, 1, none⟩ (.int .i64 t206)).setCell ⟨gb213, 2, none⟩ (.int .i64 t207)).setCell ⟨gb213, 3, none⟩ (.int .i64 t208)) w.heap.size (fun k_ => some k_ ≠ (v196 : Value).ownBlock) v210 t209) := ⟨by (with_reducible repeat (first | apply Kd.R_alloc | apply Kd.R_drewN | apply Kd.R_drew)); exact Kd.R_mono (Kd.R_far (p := ⟨gb213, 3, none⟩) (Kd.R_far (p := ⟨gb213, 2, none⟩) (Kd.R_far (p := ⟨gb213, 1, none⟩) (Kd.R_far (p := ⟨gb213, 0, none⟩) (Kd.R_types HO211.out BK213.out (by decide)) (fun _ hk => hk.2) (.int .i64 t205)) (fun _ hk => hk.2) (.int .i64 t206)) (fun _ hk => hk.2) (.int .i64 t207)) (fun _ hk => hk.2) (.int .i64 t208)) (fun _ hk => hk.1)⟩
 have n3_ : Aside0 (((((w31.setCell ⟨gb213, 0, none⟩ (.int .i64 t205)).setCell ⟨gb213, 1, none⟩ (.int .i64 t206)).setCell ⟨gb213, 2, none⟩ (.int .i64 t207)).setCell ⟨gb213, 3, none⟩ (.int .i64 t208)).heap[gb187]? = some (.cells #[.int .i64 t183, .int .i64 t184, .int .i64 t185, .int .i64 t186] 25 (0, 0))) := ⟨by (with_reducible repeat (first | refine blk_drewN ?_ _ | refine blk_drew ?_ | refine blk_alloc ?_ _)); refine blk_far ?_ NB187_213.out _; (with_reducible repeat (first | refine blk_drewN ?_ _ | refine blk_drew ?_ | refine blk_alloc ?_ _)); refine blk_far ?_ NB187_213.out _; (with_reducible repeat (first | refine blk_drewN ?_ _ | refine blk_drew ?_ | refine blk_alloc ?_ _)); refine blk_far ?_ NB187_213.out _; (with_reducible repeat (first | refine blk_drewN ?_ _ | refine blk_drew ?_ | refine blk_alloc ?_ _)); refine blk_far ?_ NB187_213.out _; (with_reducible repeat (first | refine blk_drewN ?_ _ | refine blk_drew ?_ | refine blk_alloc ?_ _)); exact BK187.out⟩
 have n4_ : Aside0 (((((w31.setCell ⟨gb213, 0, none⟩ (.int .i64 t205)).setCell ⟨gb213, 1, none⟩ (.int .i64 t206)).setCell ⟨gb213, 2, none⟩ (.int .i64 t207)).setCell ⟨gb213, 3, none⟩ (.int .i64 t208)).heap[gb199]? = some (.cells #[.int .i64 t191, .int .i64 t192, .int .i64 t193, .int .i64 t194] 25 (0, 0))) := ⟨by (with_reducible repeat (first | refine blk_drewN ?_ _ | refine blk_drew ?_ | refine blk_alloc ?_ _)); refine blk_far ?_ NB199_213.out _; (with_reducible repeat (first | refine blk_drewN ?_ _ | refine blk_drew ?_ | refine blk_alloc ?_ _)); refine blk_far ?_ NB199_213.out _; (with_reducible repeat (first | refine blk_drewN ?_ _ | refine blk_drew ?_ | refine blk_alloc ?_ _)); refine blk_far ?_ NB199_213.out _; (with_reducible repeat (first | refine blk_drewN ?_ _ | refine blk_drew ?_ | refine blk_alloc ?_ _)); refine blk_far ?_ NB199_213.out _; (with_reducible repeat (first | refine blk_drewN ?_ _ | refine blk_drew ?_ | refine blk_alloc ?_ _)); exact BK199.out⟩
 have n5_ : Aside0 (((((w31.setCell ⟨gb213, 0, none⟩ (.int .i64 t205)).setCell ⟨gb213, 1, none⟩ (.int .i64 t206)).setCell ⟨gb213, 2, none⟩ (.int .i64 t207)).setCell ⟨gb213, 3, none⟩ (.int .i64 t208)).heap[gb213]? = some (.cells #[.int .i64 t205, .int .i64 t206, .int .i64 t207, .int .i64 t208] 25 (0, 0))) := ⟨by (with_reducible repeat (first | refine blk_drewN ?_ _ | refine blk_drew ?_ | refine blk_alloc ?_ _)); refine blk_put (cs := #[.int .i64 t205, .int .i64 t206, .int .i64 t207, .int .i64 0]) ?_ 3 _ rfl; (with_reducible repeat (first | refine blk_drewN ?_ _ | refine blk_drew ?_ | refine blk_alloc ?_ _)); refine blk_put (cs := #[.int .i64 t205, .int .i64 t206, .int .i64 0, .int .i64 0]) ?_ 2 _ rfl; (with_reducible repeat (first | refine blk_drewN ?_ _ | refine blk_drew ?_ | refine blk_alloc ?_ _)); refine blk_put (cs := #[.int .i64 t205, .int .i64 0, .int .i64 0, .int .i64 0]) ?_ 1 _ rfl; (with_reducible repeat (first | refine blk_drewN ?_ _ | refine blk_drew ?_ | refine blk_alloc ?_ _)); refine blk_put (cs := #[.int .i64 0, .int .i64 0, .int .i64 0, .int .i64 0]) ?_ 0 _ rfl; (with_reducible repeat (first | refine blk_drewN ?_ _ | refine blk_drew ?_ | refine blk_alloc ?_ _)); exact BK213.out⟩
 have n6_ : Aside0 (Below w.heap.size w ((((w31.setCell ⟨gb213, 0, none⟩ (.int .i64 t205)).setCell ⟨gb213, 1, none⟩ (.int .i64 t206)).setCell ⟨gb213, 2, none⟩ (.int .i64 t207)).setCell ⟨gb213, 3, none⟩ (.int .i64 t208))) := ⟨by repeat (first | (with_reducible first | exact HB.out | apply below_alloc | apply pw_below_drewN | apply below_drew1 | refine below_set ?_ GE187.out | refine below_set ?_ GE199.out | refine below_set ?_ GE213.out) | exact HB.out)⟩
 (try clear HO190)
 (try clear HO197)
 (try clear HO211)
 (try clear BK187)
 (try clear BK199)
 (try clear BK213)
 (try clear HB)
 generalize ((((w31.setCell ⟨gb213, 0, none⟩ (.int .i64 t205)).setCell ⟨gb213, 1, none⟩ (.int .i64 t206)).setCell ⟨gb213, 2, none⟩ (.int .i64 t207)).setCell ⟨gb213, 3, none⟩ (.int .i64 t208)) = w36 at n0_ n1_ n2_ n3_ n4_ n5_ n6_ ⊢
 have HO190 := n0_
 have HO197 := n1_
 have HO211 := n2_
 have BK187 := n3_
 have BK199 := n4_
 have BK213 := n5_
 have HB := n6_
 clear n0_ n1_ n2_ n3_ n4_ n5_ n6_
 have n0_ := Aside0.mk (Kd.R_drew HO190.out)
 have n1_ := Aside0.mk (Kd.R_drew HO197.out)
 have n2_ := Aside0.mk (Kd.R_drew HO211.out)
 have n3_ := Aside0.mk (blk_drew BK187.out)
 have n4_ := Aside0.mk (blk_drew BK199.out)
 have n5_ := Aside0.mk (blk_drew BK213.out)
 have n6_ := Aside0.mk (below_drew1 HB.out)
 clear HO190
 clear HO197
 clear HO211
 clear BK187
 clear BK199
 clear BK213
 clear HB
 have HO190 := n0_
 have HO197 := n1_
 have HO211 := n2_
 have BK187 := n3_
 have BK199 := n4_
 have BK213 := n5_
 have HB := n6_
 clear n0_ n1_ n2_ n3_ n4_ n5_ n6_
 have q38 : (t200 : Int) ≤ ((t188.length : Int) : Int) := of_decide_eq_true (by first | (with_reducible assumption) | assumption)
 obtain ⟨i038, hi038, _, hsz38, _⟩ := info_parts info2
 have hroom38 : t188.length ≤ co21 := (Kd.R_reads' HO190.out).2.1
 have hC38 : Kd.C (Kd.int .i64) _ Ao21 t188.length t188 := (Kd.R_reads' HO190.out).2.2
 have q038 : (0 : Int) ≤ (t200 : Int) := of_decide_eq_true (by first | (with_reducible assumption) | assumption)
 have hcut38 := cut_from (P := Try.prog) 42 2 .i64 Try.underlying42 hi038 1 hsz38 Ao21 t188.length co21 t200 q038 q38
 have hr38 := Kd.C_drop (m := (t200 : Int).toNat) (c := co21) hC38 (by omega) hroom38
 obtain ⟨A38, hA38⟩ : ∃ A1, A1 = (if co21 = (t200 : Int).toNat then Ao21 else (Ao21 : Option Addr).map (·.add ((t200 : Int).toNat * 1))) := ⟨_, rfl⟩
 obtain ⟨c38, hc38⟩ : ∃ c1, c1 = co21 - (t200 : Int).toNat := ⟨_, rfl⟩
 have hy38 : y214.length = t188.length - (t200 : Int).toNat := (by rw [Ny214.out, List.length_drop] <;> omega)
 rw [show (t188).drop (t200 : Int).toNat = y214 from Ny214.out.symm] at hr38
 replace hr38 : Kd.C (Kd.int .i64) _ A38 y214.length y214 := (by rw [hA38]; exact hr38)
 rw [← hy38, ← hA38, ← hc38] at hcut38
 have HR217 := Aside0.mk hr38
 have HC217 := Aside0.mk (show y214.length ≤ c38 from by rw [hy38, hc38]; exact Nat.sub_le_sub_right hroom38 _)
 clear hr38 hC38 hroom38 hi038 hsz38 hc38
 have KY38 := Aside0.mk hy38
 have KA38 := Aside0.mk hA38
 clear hy38 hA38
 have KL38 := Aside0.mk (show (t200 : Int).toNat ≤ t188.length from by omega)
 replace q38 := eq_true q38
 refine start_ (n := 13) (S := fun w' => w'.cell? ⟨gb213, 0, none⟩ = some (.int .i64 t205) ∧ w'.cell? ⟨gb213, 1, none⟩ = some (.int .i64 t206) ∧ w'.cell? ⟨gb213, 2, none⟩ = some (.int .i64 t207) ∧ w'.cell? ⟨gb213, 3, none⟩ = some (.int .i64 t208)) (ds := []) #[F,F,F,F,F,F,F,F,F,F,F,F,F] s2_ rfl rfl ⟨(blk_cell BK213.out 0).trans rfl, (blk_cell BK213.out 1).trans rfl, (blk_cell BK213.out 2).trans rfl, (blk_cell BK213.out 3).trans rfl⟩ (fun hHeld => ?_); refine with_tabW laws_FnBuckets.tab8 laws_FnBuckets.bits8 (fun HT_ HW_ => ?_)
 generalize w36.drew = w37 at HO190 HO197 HO211 BK187 BK199 BK213 HB HR217 hHeld ⊢
 refine pure_ (i := 1) (N := some 52) (v := ?_) (a' := ?_) #[F,T,F,F,F,F,F,F,F,F,F,F,F] rfl rfl (any_of HT_.out s2_) (fun _ _ _ h => h) (Or.inl ⟨by rfl, ?_⟩) ?_ ?_
 rotate_left
 {
 intro w'
 go_simp
 with_reducible rfl}
 rotate_left
 · exact p1_
 refine pure_ (i := 2) (N := some 53) (v := ?_) (a' := ?_) #[F,T,T,F,F,F,F,F,F,F,F,F,F] rfl rfl (any_of HT_.out s2_) (fun _ _ _ h => h) (Or.inl ⟨by rfl, ?_⟩) ?_ ?_
 rotate_left
 {
 intro w'
 go_simp
 with_reducible rfl}
 rotate_left
 · exact p1_
 refine pure_ (i := 3) (N := some 54) (v := ?_) (a' := ?_) #[F,T,T,T,F,F,F,F,F,F,F,F,F] rfl rfl (any_of HT_.out s2_) (fun _ _ _ h => h) (Or.inl ⟨by rfl, ?_⟩) ?_ ?_
 rotate_left
 {
 intro w'
 go_simp
 with_reducible rfl}
 rotate_left
 · exact p1_
 refine take_ (i := 0) (N := some 51) (v := ?_) (a' := ?_) #[T,T,T,T,F,F,F,F,F,F,F,F,F] rfl rfl (take_ofW HT_.out HW_.out s2_) (fun _ _ _ h => h) (Or.inl ⟨by rfl, ?_⟩) hHeld ?_ ?_
 rotate_left
 {
 rintro w' ⟨s0, s1, s2, s3⟩
 go_simp
 with_reducible rfl}
 rotate_left
 · exact p1_
 refine join_ (σ := Value × Nat) 3 #[T,T,T,T,T,T,T,T,T,T,F,F,F] (fun s_ => [(55, .tuple #[.agg #[.int .i64 t218, .int .i64 t219, .int .i64 t220, .int .i64 t221], s_.1, .bool t225]), (14, .pointer (some ⟨s_.2, 0, none⟩)), (50, .tuple #[.agg #[.int .i64 t218, .int .i64 t219, .int .i64 t220, .int .i64 t221], s_.1, .bool t225]), (56, .agg #[.int .i64 t218, .int .i64 t219, .int .i64 t220, .int .i64 t221]), (57, s_.1), (58, .bool t225)]) (fun s_ w' => (w'.cell? ⟨gb213, 0, none⟩ = some (.int .i64 t205) ∧ w'.cell? ⟨gb213, 1, none⟩ = some (.int .i64 t206) ∧ w'.cell? ⟨gb213, 2, none⟩ = some (.int .i64 t207) ∧ w'.cell? ⟨gb213, 3, none⟩ = some (.int .i64 t208)) ∧ (Kd.R (Kd.int .i64) 2 w' w.heap.size (fun _ => True) (.slice Ao21 t188.length co21) t188) ∧ (Kd.R Kd.bool 4 w' w.heap.size (fun k_ => some k_ ≠ (v210 : Value).ownBlock ∧ some k_ ≠ (s_.1 : Value).ownBlock) v196 t195) ∧ (Kd.R Kd.bool 4 w' w.heap.size (fun k_ => some k_ ≠ (v196 : Value).ownBlock ∧ some k_ ≠ (s_.1 : Value).ownBlock) v210 t209) ∧ (Kd.R Kd.bool 4 w' w.heap.size (fun k_ => some k_ ≠ (v196 : Value).ownBlock ∧ some k_ ≠ (v210 : Value).ownBlock) s_.1 t222) ∧ (w'.heap[gb187]? = some (.cells #[.int .i64 t183, .int .i64 t184, .int .i64 t185, .int .i64 t186] 25 (0, 0))) ∧ (w'.heap[gb199]? = some (.cells #[.int .i64 t191, .int .i64 t192, .int .i64 t193, .int .i64 t194] 25 (0, 0))) ∧ (w'.heap[gb213]? = some (.cells #[.int .i64 t205, .int .i64 t206, .int .i64 t207, .int .i64 t208] 25 (0, 0))) ∧ (w'.heap[s_.2]? = some (.cells #[.int .i64 0, .int .i64 0, .int .i64 0, .int .i64 0] 25 (0, 0))) ∧ (w.heap.size ≤ s_.2) ∧ (w.heap.size ≤ s_.2) ∧ (gb187 ≠ s_.2) ∧ (s_.2 ≠ gb187) ∧ (gb199 ≠ s_.2) ∧ (s_.2 ≠ gb199) ∧ (gb213 ≠ s_.2) ∧ (s_.2 ≠ gb213) ∧ (Below w.heap.size w w')) ?_ ?_
 rotate_left
 {
 intro hCont
 refine two_ (i := 4) (j := 9) (Ni := some 55) (Nj := some 14) #[T,T,T,T,T,F,F,F,F,F,F,F,F] #[T,T,T,T,F,F,F,F,F,T,F,F,F] rfl rfl rfl rfl (two_of HT_.out s2_) (by decide) (by decide) (fun K hK => ?_) (fun K hK => ?_)
 {
 skip
 refine goes_ Try.func30 s2_ rfl #[.agg #[.int .i64 t205, .int .i64 t206, .int .i64 t207, .int .i64 t208], .slice A38 y214.length c38] (by rfl) rfl rfl (by (try simp only [List.map_toArray, List.map_cons, List.map_nil]); first | done | rfl | (simp only [List.length_drop, List.length_take]; rfl)) ?_
 with_reducible refine (impl_RunBucket.calls k t205 t206 t207 t208 _ _ y214 t218 t219 t220 t221 t222 t225 _ ?side1 ?side2 A14.out).mono ?_
 (case side1 => repeat (first | exact (by repeat (first | (with_reducible exact HR217.out) | (with_reducible refine Kd.C_alloc ?_ _) | (with_reducible refine Kd.C_drewN ?_ _) | (with_reducible refine Kd.C_drew ?_) | exact HR217.out)) | (with_reducible refine Kd.C_alloc ?_ _) | (with_reducible refine Kd.C_drewN ?_ _) | (with_reducible refine Kd.C_drew ?_)))
 (case side2 => exact HC217.out)
 rintro e w39 ⟨v223, rfl, ho0, hb⟩
 refine ⟨_, rfl, ?_⟩
 have n0_ := Aside0.mk (Kd.R_below (b2_ HO190.out) hb)
 have n1_ := Aside0.mk (Kd.R_elder' (b2_ HO197.out) (Kd.R_base ho0) hb)
 have n2_ := Aside0.mk (Kd.R_elder' (b2_ HO211.out) (Kd.R_base ho0) hb)
 have n3_ := Aside0.mk (Kd.R_lower (Kd.R_new' (Kd.R_new' ho0 (Kd.R_lt (b2_ HO197.out))) (Kd.R_lt (b2_ HO211.out))) (below_size (by repeat (first | (with_reducible first | exact HB.out | apply below_alloc | apply pw_below_drewN | apply below_drew1 | refine below_set ?_ GE187.out | refine below_set ?_ GE199.out | refine below_set ?_ GE213.out) | exact HB.out))))
 have n4_ := Aside0.mk (blk_below (g := gb187) (o := .cells #[.int .i64 t183, .int .i64 t184, .int .i64 t185, .int .i64 t186] 25 (0, 0)) (b1_ BK187.out) hb)
 have n5_ := Aside0.mk (blk_below (g := gb199) (o := .cells #[.int .i64 t191, .int .i64 t192, .int .i64 t193, .int .i64 t194] 25 (0, 0)) (b1_ BK199.out) hb)
 have n6_ := Aside0.mk (blk_below (g := gb213) (o := .cells #[.int .i64 t205, .int .i64 t206, .int .i64 t207, .int .i64 t208] 25 (0, 0)) (b1_ BK213.out) hb)
 have n7_ := Aside0.mk (Kd.C_below (by repeat (first | (with_reducible exact HR217.out) | (with_reducible refine Kd.C_alloc ?_ _) | (with_reducible refine Kd.C_drewN ?_ _) | (with_reducible refine Kd.C_drew ?_) | exact HR217.out)) hb)
 have n8_ := Aside0.mk (below_step (by repeat (first | (with_reducible first | exact HB.out | apply below_alloc | apply pw_below_drewN | apply below_drew1 | refine below_set ?_ GE187.out | refine below_set ?_ GE199.out | refine below_set ?_ GE213.out) | exact HB.out)) hb)
 clear HO190
 clear HO197
 clear HO211
 clear BK187
 clear BK199
 clear BK213
 clear HR217
 clear HB
 have HO190 := n0_
 have HO197 := n1_
 have HO211 := n2_
 have HO224 := n3_
 have BK187 := n4_
 have BK199 := n5_
 have BK213 := n6_
 have HR217 := n7_
 have HB := n8_
 clear n0_ n1_ n2_ n3_ n4_ n5_ n6_ n7_ n8_
 (try clear hb)
 (try clear hb2)
 (try clear hk)
 (try clear hi)
 (try clear ho0)
 refine hK.out _ _ ⟨(blk_cell BK213.out 0).trans rfl, (blk_cell BK213.out 1).trans rfl, (blk_cell BK213.out 2).trans rfl, (blk_cell BK213.out 3).trans rfl⟩ (fun hHeld => ?_)
 clear hK K
 refine norm_ (a' := ?_) ?_ ?_
 rotate_left
 {
 show Act.put _ (some 55) _ = _
 simp only [Act.put, List.setIfInBounds_toArray, List.set_cons_zero, List.set_cons_succ, i64_w, i32_w]
 rfl}
 refine pure_ (i := 5) (N := some 50) (v := ?_) (a' := ?_) #[T,T,T,T,T,T,F,F,F,F,F,F,F] rfl rfl (any_of HT_.out s2_) (fun _ _ _ h => h) (Or.inl ⟨by rfl, ?_⟩) ?_ ?_
 rotate_left
 {
 intro w'
 go_simp
 with_reducible rfl}
 rotate_left
 · exact p1_
 refine pure_ (i := 6) (N := some 56) (v := ?_) (a' := ?_) #[T,T,T,T,T,T,T,F,F,F,F,F,F] rfl rfl (any_of HT_.out s2_) (fun _ _ _ h => h) (Or.inl ⟨by rfl, ?_⟩) ?_ ?_
 rotate_left
 {
 intro w'
 go_simp
 with_reducible rfl}
 rotate_left
 · exact p1_
 refine pure_ (i := 7) (N := some 57) (v := ?_) (a' := ?_) #[T,T,T,T,T,T,T,T,F,F,F,F,F] rfl rfl (any_of HT_.out s2_) (fun _ _ _ h => h) (Or.inl ⟨by rfl, ?_⟩) ?_ ?_
 rotate_left
 {
 intro w'
 go_simp
 with_reducible rfl}
 rotate_left
 · exact p1_
 refine pure_ (i := 8) (N := some 58) (v := ?_) (a' := ?_) #[T,T,T,T,T,T,T,T,T,F,F,F,F] rfl rfl (any_of HT_.out s2_) (fun _ _ _ h => h) (Or.inl ⟨by rfl, ?_⟩) ?_ ?_
 rotate_left
 {
 intro w'
 go_simp
 with_reducible rfl}
 rotate_left
 · exact p1_
 refine one_ (i := 9) (N := some 14) #[T,T,T,T,T,T,T,T,T,T,F,F,F] rfl rfl (one_of HT_.out s2_) (by decide) (fun K hK => ?_)
 refine box_step ?hg (N := 14) ?hd (cs := #[.int .i64 0, .int .i64 0, .int .i64 0, .int .i64 0]) (t := 25) ?hr ?_; (case hd => rfl); (case hg => rfl); (case hr => first | (go_simp; done) | (go_simp; rfl))
 intro gb226 hg w40 hbox hb
 have n0_ := Aside0.mk (Kd.R_below (b2_ HO190.out) hb)
 have n1_ := Aside0.mk (Kd.R_below (b2_ HO197.out) hb)
 have n2_ := Aside0.mk (Kd.R_below (b2_ HO211.out) hb)
 have n3_ := Aside0.mk (Kd.R_below (b2_ HO224.out) hb)
 have n4_ := Aside0.mk (blk_below (g := gb187) (o := .cells #[.int .i64 t183, .int .i64 t184, .int .i64 t185, .int .i64 t186] 25 (0, 0)) (b1_ BK187.out) hb)
 have n5_ := Aside0.mk (blk_below (g := gb199) (o := .cells #[.int .i64 t191, .int .i64 t192, .int .i64 t193, .int .i64 t194] 25 (0, 0)) (b1_ BK199.out) hb)
 have n6_ := Aside0.mk (blk_below (g := gb213) (o := .cells #[.int .i64 t205, .int .i64 t206, .int .i64 t207, .int .i64 t208] 25 (0, 0)) (b1_ BK213.out) hb)
 have n7_ := Aside0.mk (Kd.C_below (by repeat (first | (with_reducible exact HR217.out) | (with_reducible refine Kd.C_alloc ?_ _) | (with_reducible refine Kd.C_drewN ?_ _) | (with_reducible refine Kd.C_drew ?_) | exact HR217.out)) hb)
 have n8_ := Aside0.mk (below_step (by repeat (first | (with_reducible first | exact HB.out | apply below_alloc | apply pw_below_drewN | apply below_drew1 | refine below_set ?_ GE187.out | refine below_set ?_ GE199.out | refine below_set ?_ GE213.out) | exact HB.out)) hb)
 have n9_ := Aside0.mk (hbox)
 have n10_ := Aside0.mk ((by rw [hg]; exact (below_size (by repeat (first | (with_reducible first | exact HB.out | apply below_alloc | apply pw_below_drewN | apply below_drew1 | refine below_set ?_ GE187.out | refine below_set ?_ GE199.out | refine below_set ?_ GE213.out) | exact HB.out))) : w.heap.size ≤ gb226))
 have n11_ := Aside0.mk ((by rw [hg]; exact (below_size (by repeat (first | (with_reducible first | exact HB.out | apply below_alloc | apply pw_below_drewN | apply below_drew1 | refine below_set ?_ GE187.out | refine below_set ?_ GE199.out | refine below_set ?_ GE213.out) | exact HB.out))) : w.heap.size ≤ gb226))
 have n12_ := Aside0.mk ((by rw [hg]; exact Nat.ne_of_lt (blk_lt (g := gb187) (o := .cells #[.int .i64 t183, .int .i64 t184, .int .i64 t185, .int .i64 t186] 25 (0, 0)) (b1_ BK187.out)) : gb187 ≠ gb226))
 have n13_ := Aside0.mk ((by rw [hg]; exact Nat.ne_of_gt (blk_lt (g := gb187) (o := .cells #[.int .i64 t183, .int .i64 t184, .int .i64 t185, .int .i64 t186] 25 (0, 0)) (b1_ BK187.out)) : gb226 ≠ gb187))
 have n14_ := Aside0.mk ((by rw [hg]; exact Nat.ne_of_lt (blk_lt (g := gb199) (o := .cells #[.int .i64 t191, .int .i64 t192, .int .i64 t193, .int .i64 t194] 25 (0, 0)) (b1_ BK199.out)) : gb199 ≠ gb226))
 have n15_ := Aside0.mk ((by rw [hg]; exact Nat.ne_of_gt (blk_lt (g := gb199) (o := .cells #[.int .i64 t191, .int .i64 t192, .int .i64 t193, .int .i64 t194] 25 (0, 0)) (b1_ BK199.out)) : gb226 ≠ gb199))
 have n16_ := Aside0.mk ((by rw [hg]; exact Nat.ne_of_lt (blk_lt (g := gb213) (o := .cells #[.int .i64 t205, .int .i64 t206, .int .i64 t207, .int .i64 t208] 25 (0, 0)) (b1_ BK213.out)) : gb213 ≠ gb226))
 have n17_ := Aside0.mk ((by rw [hg]; exact Nat.ne_of_gt (blk_lt (g := gb213) (o := .cells #[.int .i64 t205, .int .i64 t206, .int .i64 t207, .int .i64 t208] 25 (0, 0)) (b1_ BK213.out)) : gb226 ≠ gb213))
 clear HO190
 clear HO197
 clear HO211
 clear HO224
 clear BK187
 clear BK199
 clear BK213
 clear HR217
 clear HB
 have HO190 := n0_
 have HO197 := n1_
 have HO211 := n2_
 have HO224 := n3_
 have BK187 := n4_
 have BK199 := n5_
 have BK213 := n6_
 have HR217 := n7_
 have HB := n8_
 have BK226 := n9_
 have GW226 := n10_
 have GE226 := n11_
 have NB187_226 := n12_
 have NB226_187 := n13_
 have NB199_226 := n14_
 have NB226_199 := n15_
 have NB213_226 := n16_
 have NB226_213 := n17_
 clear n0_ n1_ n2_ n3_ n4_ n5_ n6_ n7_ n8_ n9_ n10_ n11_ n12_ n13_ n14_ n15_ n16_ n17_
 clear hb hbox hg
 refine hK.out _ _ ⟨(blk_cell BK213.out 0).trans rfl, (blk_cell BK213.out 1).trans rfl, (blk_cell BK213.out 2).trans rfl, (blk_cell BK213.out 3).trans rfl⟩ (fun hHeld => ?_)
 clear hK K
 refine norm_ (a' := ?_) ?_ ?_
 rotate_left
 {
 show Act.put _ (some 14) _ = _
 simp only [Act.put, List.setIfInBounds_toArray, List.set_cons_zero, List.set_cons_succ, i64_w, i32_w]
 rfl}
 exact norm_ (by simp only [putAll, Act.put, List.setIfInBounds_toArray, List.set_cons_zero, List.set_cons_succ]) (hCont (v223, gb226) _ ⟨hHeld, (b2_ HO190.out), (b2_ HO197.out), (b2_ HO211.out), (by (with_reducible repeat (first | apply Kd.R_alloc | apply Kd.R_drewN | apply Kd.R_drew)); exact Kd.R_mono HO224.out (fun _ hk => ⟨hk.1.2, hk.2⟩)), (b1_ BK187.out), (b1_ BK199.out), (b1_ BK213.out), (b1_ BK226.out), GW226.out, GE226.out, NB187_226.out, NB226_187.out, NB199_226.out, NB226_199.out, NB213_226.out, NB226_213.out, (by repeat (first | (with_reducible first | exact HB.out | apply below_alloc | apply pw_below_drewN | apply below_drew1 | refine below_set ?_ GE187.out | refine below_set ?_ GE199.out | refine below_set ?_ GE213.out | refine below_set ?_ GE226.out) | exact HB.out))⟩)}
 {
 skip
 refine box_step ?hg (N := 14) ?hd (cs := #[.int .i64 0, .int .i64 0, .int .i64 0, .int .i64 0]) (t := 25) ?hr ?_; (case hd => rfl); (case hg => rfl); (case hr => first | (go_simp; done) | (go_simp; rfl))
 intro gb226 hg w39 hbox hb
 have n0_ := Aside0.mk (Kd.R_below (b2_ HO190.out) hb)
 have n1_ := Aside0.mk (Kd.R_below (b2_ HO197.out) hb)
 have n2_ := Aside0.mk (Kd.R_below (b2_ HO211.out) hb)
 have n3_ := Aside0.mk (blk_below (g := gb187) (o := .cells #[.int .i64 t183, .int .i64 t184, .int .i64 t185, .int .i64 t186] 25 (0, 0)) (b1_ BK187.out) hb)
 have n4_ := Aside0.mk (blk_below (g := gb199) (o := .cells #[.int .i64 t191, .int .i64 t192, .int .i64 t193, .int .i64 t194] 25 (0, 0)) (b1_ BK199.out) hb)
 have n5_ := Aside0.mk (blk_below (g := gb213) (o := .cells #[.int .i64 t205, .int .i64 t206, .int .i64 t207, .int .i64 t208] 25 (0, 0)) (b1_ BK213.out) hb)
 have n6_ := Aside0.mk (Kd.C_below (by repeat (first | (with_reducible exact HR217.out) | (with_reducible refine Kd.C_alloc ?_ _) | (with_reducible refine Kd.C_drewN ?_ _) | (with_reducible refine Kd.C_drew ?_) | exact HR217.out)) hb)
 have n7_ := Aside0.mk (below_step (by repeat (first | (with_reducible first | exact HB.out | apply below_alloc | apply pw_below_drewN | apply below_drew1 | refine below_set ?_ GE187.out | refine below_set ?_ GE199.out | refine below_set ?_ GE213.out) | exact HB.out)) hb)
 have n8_ := Aside0.mk (hbox)
 have n9_ := Aside0.mk ((by rw [hg]; exact (below_size (by repeat (first | (with_reducible first | exact HB.out | apply below_alloc | apply pw_below_drewN | apply below_drew1 | refine below_set ?_ GE187.out | refine below_set ?_ GE199.out | refine below_set ?_ GE213.out) | exact HB.out))) : w.heap.size ≤ gb226))
 have n10_ := Aside0.mk ((by rw [hg]; exact (below_size (by repeat (first | (with_reducible first | exact HB.out | apply below_alloc | apply pw_below_drewN | apply below_drew1 | refine below_set ?_ GE187.out | refine below_set ?_ GE199.out | refine below_set ?_ GE213.out) | exact HB.out))) : w.heap.size ≤ gb226))
 have n11_ := Aside0.mk ((by rw [hg]; exact Nat.ne_of_lt (blk_lt (g := gb187) (o := .cells #[.int .i64 t183, .int .i64 t184, .int .i64 t185, .int .i64 t186] 25 (0, 0)) (b1_ BK187.out)) : gb187 ≠ gb226))
 have n12_ := Aside0.mk ((by rw [hg]; exact Nat.ne_of_gt (blk_lt (g := gb187) (o := .cells #[.int .i64 t183, .int .i64 t184, .int .i64 t185, .int .i64 t186] 25 (0, 0)) (b1_ BK187.out)) : gb226 ≠ gb187))
 have n13_ := Aside0.mk ((by rw [hg]; exact Nat.ne_of_lt (blk_lt (g := gb199) (o := .cells #[.int .i64 t191, .int .i64 t192, .int .i64 t193, .int .i64 t194] 25 (0, 0)) (b1_ BK199.out)) : gb199 ≠ gb226))
 have n14_ := Aside0.mk ((by rw [hg]; exact Nat.ne_of_gt (blk_lt (g := gb199) (o := .cells #[.int .i64 t191, .int .i64 t192, .int .i64 t193, .int .i64 t194] 25 (0, 0)) (b1_ BK199.out)) : gb226 ≠ gb199))
 have n15_ := Aside0.mk ((by rw [hg]; exact Nat.ne_of_lt (blk_lt (g := gb213) (o := .cells #[.int .i64 t205, .int .i64 t206, .int .i64 t207, .int .i64 t208] 25 (0, 0)) (b1_ BK213.out)) : gb213 ≠ gb226))
 have n16_ := Aside0.mk ((by rw [hg]; exact Nat.ne_of_gt (blk_lt (g := gb213) (o := .cells #[.int .i64 t205, .int .i64 t206, .int .i64 t207, .int .i64 t208] 25 (0, 0)) (b1_ BK213.out)) : gb226 ≠ gb213))
 clear HO190
 clear HO197
 clear HO211
 clear BK187
 clear BK199
 clear BK213
 clear HR217
 clear HB
 have HO190 := n0_
 have HO197 := n1_
 have HO211 := n2_
 have BK187 := n3_
 have BK199 := n4_
 have BK213 := n5_
 have HR217 := n6_
 have HB := n7_
 have BK226 := n8_
 have GW226 := n9_
 have GE226 := n10_
 have NB187_226 := n11_
 have NB226_187 := n12_
 have NB199_226 := n13_
 have NB226_199 := n14_
 have NB213_226 := n15_
 have NB226_213 := n16_
 clear n0_ n1_ n2_ n3_ n4_ n5_ n6_ n7_ n8_ n9_ n10_ n11_ n12_ n13_ n14_ n15_ n16_
 clear hb hbox hg
 refine hK.out _ _ ⟨(blk_cell BK213.out 0).trans rfl, (blk_cell BK213.out 1).trans rfl, (blk_cell BK213.out 2).trans rfl, (blk_cell BK213.out 3).trans rfl⟩ (fun hHeld => ?_)
 clear hK K
 refine norm_ (a' := ?_) ?_ ?_
 rotate_left
 {
 show Act.put _ (some 14) _ = _
 simp only [Act.put, List.setIfInBounds_toArray, List.set_cons_zero, List.set_cons_succ, i64_w, i32_w]
 rfl}
 refine one_ (i := 4) (N := some 55) #[T,T,T,T,T,F,F,F,F,T,F,F,F] rfl rfl (one_of HT_.out s2_) (by decide) (fun K hK => ?_)
 refine goes_ Try.func30 s2_ rfl #[.agg #[.int .i64 t205, .int .i64 t206, .int .i64 t207, .int .i64 t208], .slice A38 y214.length c38] (by rfl) rfl rfl (by (try simp only [List.map_toArray, List.map_cons, List.map_nil]); first | done | rfl | (simp only [List.length_drop, List.length_take]; rfl)) ?_
 with_reducible refine (impl_RunBucket.calls k t205 t206 t207 t208 _ _ y214 t218 t219 t220 t221 t222 t225 _ ?side1 ?side2 A14.out).mono ?_
 (case side1 => repeat (first | exact (by repeat (first | (with_reducible exact HR217.out) | (with_reducible refine Kd.C_alloc ?_ _) | (with_reducible refine Kd.C_drewN ?_ _) | (with_reducible refine Kd.C_drew ?_) | exact HR217.out)) | (with_reducible refine Kd.C_alloc ?_ _) | (with_reducible refine Kd.C_drewN ?_ _) | (with_reducible refine Kd.C_drew ?_)))
 (case side2 => exact HC217.out)
 rintro e w40 ⟨v223, rfl, ho0, hb⟩
 refine ⟨_, rfl, ?_⟩
 have n0_ := Aside0.mk (Kd.R_below (b2_ HO190.out) hb)
 have n1_ := Aside0.mk (Kd.R_elder' (b2_ HO197.out) (Kd.R_base ho0) hb)
 have n2_ := Aside0.mk (Kd.R_elder' (b2_ HO211.out) (Kd.R_base ho0) hb)
 have n3_ := Aside0.mk (Kd.R_lower (Kd.R_new' (Kd.R_new' ho0 (Kd.R_lt (b2_ HO197.out))) (Kd.R_lt (b2_ HO211.out))) (below_size (by repeat (first | (with_reducible first | exact HB.out | apply below_alloc | apply pw_below_drewN | apply below_drew1 | refine below_set ?_ GE187.out | refine below_set ?_ GE199.out | refine below_set ?_ GE213.out | refine below_set ?_ GE226.out) | exact HB.out))))
 have n4_ := Aside0.mk (blk_below (g := gb187) (o := .cells #[.int .i64 t183, .int .i64 t184, .int .i64 t185, .int .i64 t186] 25 (0, 0)) (b1_ BK187.out) hb)
 have n5_ := Aside0.mk (blk_below (g := gb199) (o := .cells #[.int .i64 t191, .int .i64 t192, .int .i64 t193, .int .i64 t194] 25 (0, 0)) (b1_ BK199.out) hb)
 have n6_ := Aside0.mk (blk_below (g := gb213) (o := .cells #[.int .i64 t205, .int .i64 t206, .int .i64 t207, .int .i64 t208] 25 (0, 0)) (b1_ BK213.out) hb)
 have n7_ := Aside0.mk (Kd.C_below (by repeat (first | (with_reducible exact HR217.out) | (with_reducible refine Kd.C_alloc ?_ _) | (with_reducible refine Kd.C_drewN ?_ _) | (with_reducible refine Kd.C_drew ?_) | exact HR217.out)) hb)
 have n8_ := Aside0.mk (blk_below (g := gb226) (o := .cells #[.int .i64 0, .int .i64 0, .int .i64 0, .int .i64 0] 25 (0, 0)) (b1_ BK226.out) hb)
 have n9_ := Aside0.mk (below_step (by repeat (first | (with_reducible first | exact HB.out | apply below_alloc | apply pw_below_drewN | apply below_drew1 | refine below_set ?_ GE187.out | refine below_set ?_ GE199.out | refine below_set ?_ GE213.out | refine below_set ?_ GE226.out) | exact HB.out)) hb)
 clear HO190
 clear HO197
 clear HO211
 clear BK187
 clear BK199
 clear BK213
 clear HR217
 clear BK226
 clear HB
 have HO190 := n0_
 have HO197 := n1_
 have HO211 := n2_
 have HO224 := n3_
 have BK187 := n4_
 have BK199 := n5_
 have BK213 := n6_
 have HR217 := n7_
 have BK226 := n8_
 have HB := n9_
 clear n0_ n1_ n2_ n3_ n4_ n5_ n6_ n7_ n8_ n9_
 (try clear hb)
 (try clear hb2)
 (try clear hk)
 (try clear hi)
 (try clear ho0)
 refine hK.out _ _ ⟨(blk_cell BK213.out 0).trans rfl, (blk_cell BK213.out 1).trans rfl, (blk_cell BK213.out 2).trans rfl, (blk_cell BK213.out 3).trans rfl⟩ (fun hHeld => ?_)
 clear hK K
 refine norm_ (a' := ?_) ?_ ?_
 rotate_left
 {
 show Act.put _ (some 55) _ = _
 simp only [Act.put, List.setIfInBounds_toArray, List.set_cons_zero, List.set_cons_succ, i64_w, i32_w]
 rfl}
 refine pure_ (i := 5) (N := some 50) (v := ?_) (a' := ?_) #[T,T,T,T,T,T,F,F,F,T,F,F,F] rfl rfl (any_of HT_.out s2_) (fun _ _ _ h => h) (Or.inl ⟨by rfl, ?_⟩) ?_ ?_
 rotate_left
 {
 intro w'
 go_simp
 with_reducible rfl}
 rotate_left
 · exact p1_
 refine pure_ (i := 6) (N := some 56) (v := ?_) (a' := ?_) #[T,T,T,T,T,T,T,F,F,T,F,F,F] rfl rfl (any_of HT_.out s2_) (fun _ _ _ h => h) (Or.inl ⟨by rfl, ?_⟩) ?_ ?_
 rotate_left
 {
 intro w'
 go_simp
 with_reducible rfl}
 rotate_left
 · exact p1_
 refine pure_ (i := 7) (N := some 57) (v := ?_) (a' := ?_) #[T,T,T,T,T,T,T,T,F,T,F,F,F] rfl rfl (any_of HT_.out s2_) (fun _ _ _ h => h) (Or.inl ⟨by rfl, ?_⟩) ?_ ?_
 rotate_left
 {
 intro w'
 go_simp
 with_reducible rfl}
 rotate_left
 · exact p1_
 refine pure_ (i := 8) (N := some 58) (v := ?_) (a' := ?_) #[T,T,T,T,T,T,T,T,T,T,F,F,F] rfl rfl (any_of HT_.out s2_) (fun _ _ _ h => h) (Or.inl ⟨by rfl, ?_⟩) ?_ ?_
 rotate_left
 {
 intro w'
 go_simp
 with_reducible rfl}
 rotate_left
 · exact p1_
 exact norm_ (by simp only [putAll, Act.put, List.setIfInBounds_toArray, List.set_cons_zero, List.set_cons_succ]) (hCont (v223, gb226) _ ⟨hHeld, (b2_ HO190.out), (b2_ HO197.out), (b2_ HO211.out), (by (with_reducible repeat (first | apply Kd.R_alloc | apply Kd.R_drewN | apply Kd.R_drew)); exact Kd.R_mono HO224.out (fun _ hk => ⟨hk.1.2, hk.2⟩)), (b1_ BK187.out), (b1_ BK199.out), (b1_ BK213.out), (b1_ BK226.out), GW226.out, GE226.out, NB187_226.out, NB226_187.out, NB199_226.out, NB226_199.out, NB213_226.out, NB226_213.out, (by repeat (first | (with_reducible first | exact HB.out | apply below_alloc | apply pw_below_drewN | apply below_drew1 | refine below_set ?_ GE187.out | refine below_set ?_ GE199.out | refine below_set ?_ GE213.out | refine below_set ?_ GE226.out) | exact HB.out))⟩)}}
 rintro ⟨v223, gb226⟩ w41 ⟨hS_, h0_, h1_, h2_, h3_, h4_, h5_, h6_, h7_, h8_, h9_, h10_, h11_, h12_, h13_, h14_, h15_, h16_⟩
 have n0_ : Aside0 (Kd.R (Kd.int .i64) 2 w41 w.heap.size (fun _ => True) (.slice Ao21 t188.length co21) t188) := ⟨h0_⟩
 have n1_ : Aside0 (Kd.R Kd.bool 4 w41 w.heap.size (fun k_ => some k_ ≠ (v210 : Value).ownBlock ∧ some k_ ≠ (v223 : Value).ownBlock) v196 t195) := ⟨h1_⟩
 have n2_ : Aside0 (Kd.R Kd.bool 4 w41 w.heap.size (fun k_ => some k_ ≠ (v196 : Value).ownBlock ∧ some k_ ≠ (v223 : Value).ownBlock) v210 t209) := ⟨h2_⟩
 have n3_ : Aside0 (Kd.R Kd.bool 4 w41 w.heap.size (fun k_ => some k_ ≠ (v196 : Value).ownBlock ∧ some k_ ≠ (v210 : Value).ownBlock) v223 t222) := ⟨h3_⟩
 have n4_ : Aside0 (w41.heap[gb187]? = some (.cells #[.int .i64 t183, .int .i64 t184, .int .i64 t185, .int .i64 t186] 25 (0, 0))) := ⟨h4_⟩
 have n5_ : Aside0 (w41.heap[gb199]? = some (.cells #[.int .i64 t191, .int .i64 t192, .int .i64 t193, .int .i64 t194] 25 (0, 0))) := ⟨h5_⟩
 have n6_ : Aside0 (w41.heap[gb213]? = some (.cells #[.int .i64 t205, .int .i64 t206, .int .i64 t207, .int .i64 t208] 25 (0, 0))) := ⟨h6_⟩
 have n7_ : Aside0 (w41.heap[gb226]? = some (.cells #[.int .i64 0, .int .i64 0, .int .i64 0, .int .i64 0] 25 (0, 0))) := ⟨h7_⟩
 have n8_ : Aside0 (w.heap.size ≤ gb226) := ⟨h8_⟩
 have n9_ : Aside0 (w.heap.size ≤ gb226) := ⟨h9_⟩
 have n10_ : Aside0 (gb187 ≠ gb226) := ⟨h10_⟩
 have n11_ : Aside0 (gb226 ≠ gb187) := ⟨h11_⟩
 have n12_ : Aside0 (gb199 ≠ gb226) := ⟨h12_⟩
 have n13_ : Aside0 (gb226 ≠ gb199) := ⟨h13_⟩
 have n14_ : Aside0 (gb213 ≠ gb226) := ⟨h14_⟩
 have n15_ : Aside0 (gb226 ≠ gb213) := ⟨h15_⟩
 have n16_ : Aside0 (Below w.heap.size w w41) := ⟨h16_⟩
 clear HO190
 clear HO197
 clear HO211
 clear BK187
 clear BK199
 clear BK213
 clear HB
 clear h0_ h1_ h2_ h3_ h4_ h5_ h6_ h7_ h8_ h9_ h10_ h11_ h12_ h13_ h14_ h15_ h16_
 have HO190 := n0_
 have HO197 := n1_
 have HO211 := n2_
 have HO224 := n3_
 have BK187 := n4_
 have BK199 := n5_
 have BK213 := n6_
 have BK226 := n7_
 have GW226 := n8_
 have GE226 := n9_
 have NB187_226 := n10_
 have NB226_187 := n11_
 have NB199_226 := n12_
 have NB226_199 := n13_
 have NB213_226 := n14_
 have NB226_213 := n15_
 have HB := n16_
 clear n0_ n1_ n2_ n3_ n4_ n5_ n6_ n7_ n8_ n9_ n10_ n11_ n12_ n13_ n14_ n15_ n16_
 have hHeld : w41.cell? ⟨gb213, 0, none⟩ = some (.int .i64 t205) ∧ w41.cell? ⟨gb213, 1, none⟩ = some (.int .i64 t206) ∧ w41.cell? ⟨gb213, 2, none⟩ = some (.int .i64 t207) ∧ w41.cell? ⟨gb213, 3, none⟩ = some (.int .i64 t208) := hS_
 refine norm_ (a' := ?_) ?_ ?_
 rotate_left
 {
 simp only [putAll, Act.put, List.setIfInBounds_toArray, List.set_cons_zero, List.set_cons_succ]
 rfl}
 refine one_ (i := 10) (N := none) #[T,T,T,T,T,T,T,T,T,T,T,F,F] rfl rfl (one_of HT_.out s2_) (by decide) (fun K hK => ?_)
 have hs42 : w41.cell? ⟨gb226, 0, none⟩ = some (.int .i64 0) := (blk_cell BK226.out 0).trans rfl
 have hfs42 := blk_frozen BK226.out 0
 have hns42_0 := NB187_226.out
 have hns42_1 := NB199_226.out
 have hns42_2 := NB213_226.out
 have hms42_0 := NB226_187.out
 have hms42_1 := NB226_199.out
 have hms42_2 := NB226_213.out
 have hs43 : w41.cell? ⟨gb226, 1, none⟩ = some (.int .i64 0) := (blk_cell BK226.out 1).trans rfl
 have hfs43 := blk_frozen BK226.out 1
 have hns43_0 := NB187_226.out
 have hns43_1 := NB199_226.out
 have hns43_2 := NB213_226.out
 have hms43_0 := NB226_187.out
 have hms43_1 := NB226_199.out
 have hms43_2 := NB226_213.out
 have hs44 : w41.cell? ⟨gb226, 2, none⟩ = some (.int .i64 0) := (blk_cell BK226.out 2).trans rfl
 have hfs44 := blk_frozen BK226.out 2
 have hns44_0 := NB187_226.out
 have hns44_1 := NB199_226.out
 have hns44_2 := NB213_226.out
 have hms44_0 := NB226_187.out
 have hms44_1 := NB226_199.out
 have hms44_2 := NB226_213.out
 have hs45 : w41.cell? ⟨gb226, 3, none⟩ = some (.int .i64 0) := (blk_cell BK226.out 3).trans rfl
 have hfs45 := blk_frozen BK226.out 3
 have hns45_0 := NB187_226.out
 have hns45_1 := NB199_226.out
 have hns45_2 := NB213_226.out
 have hms45_0 := NB226_187.out
 have hms45_1 := NB226_199.out
 have hms45_2 := NB226_213.out
 refine skip_ (w1 := ?_) (by rfl) rfl ?_ ?_
 rotate_left
 {
 go_simp
 rfl}
 refine hK.out _ _ ⟨((cell_far (p := ⟨gb226, _, none⟩) NB213_226.out _).trans (((cell_far (p := ⟨gb226, _, none⟩) NB213_226.out _).trans (((cell_far (p := ⟨gb226, _, none⟩) NB213_226.out _).trans (((cell_far (p := ⟨gb226, _, none⟩) NB213_226.out _).trans (hHeld.1)))))))), ((cell_far (p := ⟨gb226, _, none⟩) NB213_226.out _).trans (((cell_far (p := ⟨gb226, _, none⟩) NB213_226.out _).trans (((cell_far (p := ⟨gb226, _, none⟩) NB213_226.out _).trans (((cell_far (p := ⟨gb226, _, none⟩) NB213_226.out _).trans (hHeld.2.1)))))))), ((cell_far (p := ⟨gb226, _, none⟩) NB213_226.out _).trans (((cell_far (p := ⟨gb226, _, none⟩) NB213_226.out _).trans (((cell_far (p := ⟨gb226, _, none⟩) NB213_226.out _).trans (((cell_far (p := ⟨gb226, _, none⟩) NB213_226.out _).trans (hHeld.2.2.1)))))))), ((cell_far (p := ⟨gb226, _, none⟩) NB213_226.out _).trans (((cell_far (p := ⟨gb226, _, none⟩) NB213_226.out _).trans (((cell_far (p := ⟨gb226, _, none⟩) NB213_226.out _).trans (((cell_far (p := ⟨gb226, _, none⟩) NB213_226.out _).trans (hHeld.2.2.2))))))))⟩ (fun hHeld => ?_)
 clear hK K
 refine pure_ (i := 11) (N := some 15) (v := ?_) (a' := ?_) #[T,T,T,T,T,T,T,T,T,T,T,T,F] rfl rfl (any_of HT_.out s2_) (fun _ _ _ h => h) (Or.inl ⟨by rfl, ?_⟩) ?_ ?_
 rotate_left
 {
 intro w'
 go_simp
 with_reducible rfl}
 rotate_left
 · exact p1_
 refine pure_ (i := 12) (N := some 16) (v := ?_) (a' := ?_) #[T,T,T,T,T,T,T,T,T,T,T,T,T] rfl rfl (any_of HT_.out s2_) (fun _ _ _ h => h) (Or.inl ⟨by rfl, ?_⟩) ?_ ?_
 rotate_left
 {
 intro w'
 go_simp
 with_reducible rfl}
 rotate_left
 · exact p1_
 refine done_ (done_of HT_.out s2_) ?_
 go_upto_region 9 with (fail)
 go_cut [100] (fun v100 wc => ∃ (kq : Nat) (x100_14 : Bool), v100 = .bool x100_14 ∧ Aside0 (laws_FnBuckets.j0 kq t188 t195 t200 t209 t222 x100_14 t183 t184 t185 t186 = some r) ∧ Aside0 (kq ≤ k) ∧ Aside0 (Kd.R (Kd.int .i64) 2 wc w.heap.size (fun _ => True) (.slice Ao21 t188.length co21) t188) ∧ Aside0 (Kd.R Kd.bool 4 wc w.heap.size (fun k_ => some k_ ≠ (v210 : Value).ownBlock ∧ some k_ ≠ (v223 : Value).ownBlock) v196 t195) ∧ Aside0 (Kd.R Kd.bool 4 wc w.heap.size (fun k_ => some k_ ≠ (v196 : Value).ownBlock ∧ some k_ ≠ (v223 : Value).ownBlock) v210 t209) ∧ Aside0 (Kd.R Kd.bool 4 wc w.heap.size (fun k_ => some k_ ≠ (v196 : Value).ownBlock ∧ some k_ ≠ (v210 : Value).ownBlock) v223 t222) ∧ Aside0 (wc.heap[gb187]? = some (.cells #[.int .i64 t183, .int .i64 t184, .int .i64 t185, .int .i64 t186] 25 (0, 0))) ∧ Aside0 (wc.heap[gb199]? = some (.cells #[.int .i64 t191, .int .i64 t192, .int .i64 t193, .int .i64 t194] 25 (0, 0))) ∧ Aside0 (wc.heap[gb213]? = some (.cells #[.int .i64 t205, .int .i64 t206, .int .i64 t207, .int .i64 t208] 25 (0, 0))) ∧ Aside0 (wc.heap[gb226]? = some (.cells #[.int .i64 t218, .int .i64 t219, .int .i64 t220, .int .i64 t221] 25 (0, 0))) ∧ Aside0 (Below w.heap.size w wc))
 case first =>
  skip
  {
 have H := HC15.out
 clear HC15
 by_cases c46 : t198 = true
 {
 subst c46
 have H1 : (if t212 = true then (if t225 = true then (if (!(t191 == t218) || (!(t192 == t219) || (!(t193 == t220) || (!(t194 == t221))))) = true then (laws_FnBuckets.j0 k t188 t195 t200 t209 t222 true t183 t184 t185 t186) else (if (t195.length : Int) = (t188.length : Int) then (if (t209.length : Int) = t200 then (if (t222.length : Int) = (wrap64 ((t188.length : Int) - t200)) then ((impl_ValidBucket.f t191 t192 t193 t194).bind fun t227 => (laws_FnBuckets.j0 k t188 t195 t200 t209 t222 (!t227) t183 t184 t185 t186)) else (laws_FnBuckets.j0 k t188 t195 t200 t209 t222 true t183 t184 t185 t186)) else (laws_FnBuckets.j0 k t188 t195 t200 t209 t222 true t183 t184 t185 t186)) else (laws_FnBuckets.j0 k t188 t195 t200 t209 t222 true t183 t184 t185 t186))) else (laws_FnBuckets.j0 k t188 t195 t200 t209 t222 true t183 t184 t185 t186)) else (laws_FnBuckets.j0 k t188 t195 t200 t209 t222 true t183 t184 t185 t186)) = some r := by rw [if_pos rfl] at H; exact H
 clear H
 have H := H1
 clear H1
 by_cases c47 : t212 = true
 {
 subst c47
 have H1 : (if t225 = true then (if (!(t191 == t218) || (!(t192 == t219) || (!(t193 == t220) || (!(t194 == t221))))) = true then (laws_FnBuckets.j0 k t188 t195 t200 t209 t222 true t183 t184 t185 t186) else (if (t195.length : Int) = (t188.length : Int) then (if (t209.length : Int) = t200 then (if (t222.length : Int) = (wrap64 ((t188.length : Int) - t200)) then ((impl_ValidBucket.f t191 t192 t193 t194).bind fun t227 => (laws_FnBuckets.j0 k t188 t195 t200 t209 t222 (!t227) t183 t184 t185 t186)) else (laws_FnBuckets.j0 k t188 t195 t200 t209 t222 true t183 t184 t185 t186)) else (laws_FnBuckets.j0 k t188 t195 t200 t209 t222 true t183 t184 t185 t186)) else (laws_FnBuckets.j0 k t188 t195 t200 t209 t222 true t183 t184 t185 t186))) else (laws_FnBuckets.j0 k t188 t195 t200 t209 t222 true t183 t184 t185 t186)) = some r := by rw [if_pos rfl] at H; exact H
 clear H
 have H := H1
 clear H1
 by_cases c48 : t225 = true
 {
 subst c48
 have H1 : (if (!(t191 == t218) || (!(t192 == t219) || (!(t193 == t220) || (!(t194 == t221))))) = true then (laws_FnBuckets.j0 k t188 t195 t200 t209 t222 true t183 t184 t185 t186) else (if (t195.length : Int) = (t188.length : Int) then (if (t209.length : Int) = t200 then (if (t222.length : Int) = (wrap64 ((t188.length : Int) - t200)) then ((impl_ValidBucket.f t191 t192 t193 t194).bind fun t227 => (laws_FnBuckets.j0 k t188 t195 t200 t209 t222 (!t227) t183 t184 t185 t186)) else (laws_FnBuckets.j0 k t188 t195 t200 t209 t222 true t183 t184 t185 t186)) else (laws_FnBuckets.j0 k t188 t195 t200 t209 t222 true t183 t184 t185 t186)) else (laws_FnBuckets.j0 k t188 t195 t200 t209 t222 true t183 t184 t185 t186))) = some r := by rw [if_pos rfl] at H; exact H
 clear H
 have H := H1
 clear H1
 by_cases c49 : (!(t191 == t218) || (!(t192 == t219) || (!(t193 == t220) || (!(t194 == t221))))) = true
 {
 rw [if_pos c49] at H
 have c49b0 : (!(t191 == t218) || (!(t192 == t219) || (!(t193 == t220) || (!(t194 == t221))))) = true := c49
 clear c49
 (first | rw [c49b0] | (simp only [i64_w, i32_w]; rw [c49b0]) | skip)
 have H' := Aside0.mk H
 clear H
 have hnb50 := NB199_187.out
 have hnc50 := NB187_199.out
 have hnb51 := NB199_213.out
 have hnc51 := NB213_199.out
 have hnb52 := NB199_226.out
 have hnc52 := NB226_199.out
 have hcz53_0 : w41.cell? ⟨gb199, 0, none⟩ = some (.int .i64 t191) := (blk_cell BK199.out 0).trans rfl
 have hcz53_1 : w41.cell? ⟨gb199, 1, none⟩ = some (.int .i64 t192) := (blk_cell BK199.out 1).trans rfl
 have hcz53_2 : w41.cell? ⟨gb199, 2, none⟩ = some (.int .i64 t193) := (blk_cell BK199.out 2).trans rfl
 have hcz53_3 : w41.cell? ⟨gb199, 3, none⟩ = some (.int .i64 t194) := (blk_cell BK199.out 3).trans rfl
 have hfz53_0 := blk_frozen BK199.out 0
 have hfz53_1 := blk_frozen BK199.out 1
 have hfz53_2 := blk_frozen BK199.out 2
 have hfz53_3 := blk_frozen BK199.out 3
 have hnb54 := NB226_187.out
 have hnc54 := NB187_226.out
 have hnb55 := NB226_213.out
 have hnc55 := NB213_226.out
 have hcz56_0 : w41.cell? ⟨gb226, 0, none⟩ = some (.int .i64 0) := (blk_cell BK226.out 0).trans rfl
 have hcz56_1 : w41.cell? ⟨gb226, 1, none⟩ = some (.int .i64 0) := (blk_cell BK226.out 1).trans rfl
 have hcz56_2 : w41.cell? ⟨gb226, 2, none⟩ = some (.int .i64 0) := (blk_cell BK226.out 2).trans rfl
 have hcz56_3 : w41.cell? ⟨gb226, 3, none⟩ = some (.int .i64 0) := (blk_cell BK226.out 3).trans rfl
 have hfz56_0 := blk_frozen BK226.out 0
 have hfz56_1 := blk_frozen BK226.out 1
 have hfz56_2 := blk_frozen BK226.out 2
 have hfz56_3 := blk_frozen BK226.out 3
 go_wp2
 go_meet
 case rel => exact ⟨_, (true), s1_, H', ⟨by first | omega | exact Nat.le_refl _⟩, ⟨by (with_reducible repeat (first | apply Kd.R_alloc | apply Kd.R_drewN | apply Kd.R_drew)); exact Kd.R_mono (Kd.R_far (p := ⟨gb226, 3, none⟩) (Kd.R_far (p := ⟨gb226, 2, none⟩) (Kd.R_far (p := ⟨gb226, 1, none⟩) (Kd.R_far (p := ⟨gb226, 0, none⟩) (Kd.R_types HO190.out BK226.out (by decide)) (fun _ hk => hk.2) (.int .i64 t218)) (fun _ hk => hk.2) (.int .i64 t219)) (fun _ hk => hk.2) (.int .i64 t220)) (fun _ hk => hk.2) (.int .i64 t221)) (fun _ hk => trivial)⟩, ⟨by (with_reducible repeat (first | apply Kd.R_alloc | apply Kd.R_drewN | apply Kd.R_drew)); exact Kd.R_mono (Kd.R_far (p := ⟨gb226, 3, none⟩) (Kd.R_far (p := ⟨gb226, 2, none⟩) (Kd.R_far (p := ⟨gb226, 1, none⟩) (Kd.R_far (p := ⟨gb226, 0, none⟩) (Kd.R_types HO197.out BK226.out (by decide)) (fun _ hk => hk.2) (.int .i64 t218)) (fun _ hk => hk.2) (.int .i64 t219)) (fun _ hk => hk.2) (.int .i64 t220)) (fun _ hk => hk.2) (.int .i64 t221)) (fun _ hk => ⟨hk.1.1, hk.1.2⟩)⟩, ⟨by (with_reducible repeat (first | apply Kd.R_alloc | apply Kd.R_drewN | apply Kd.R_drew)); exact Kd.R_mono (Kd.R_far (p := ⟨gb226, 3, none⟩) (Kd.R_far (p := ⟨gb226, 2, none⟩) (Kd.R_far (p := ⟨gb226, 1, none⟩) (Kd.R_far (p := ⟨gb226, 0, none⟩) (Kd.R_types HO211.out BK226.out (by decide)) (fun _ hk => hk.2) (.int .i64 t218)) (fun _ hk => hk.2) (.int .i64 t219)) (fun _ hk => hk.2) (.int .i64 t220)) (fun _ hk => hk.2) (.int .i64 t221)) (fun _ hk => ⟨hk.1.1, hk.1.2⟩)⟩, ⟨by (with_reducible repeat (first | apply Kd.R_alloc | apply Kd.R_drewN | apply Kd.R_drew)); exact Kd.R_mono (Kd.R_far (p := ⟨gb226, 3, none⟩) (Kd.R_far (p := ⟨gb226, 2, none⟩) (Kd.R_far (p := ⟨gb226, 1, none⟩) (Kd.R_far (p := ⟨gb226, 0, none⟩) (Kd.R_types HO224.out BK226.out (by decide)) (fun _ hk => hk.2) (.int .i64 t218)) (fun _ hk => hk.2) (.int .i64 t219)) (fun _ hk => hk.2) (.int .i64 t220)) (fun _ hk => hk.2) (.int .i64 t221)) (fun _ hk => ⟨hk.1.1, hk.1.2⟩)⟩, ⟨by (with_reducible repeat (first | refine blk_drewN ?_ _ | refine blk_drew ?_ | refine blk_alloc ?_ _)); refine blk_far ?_ NB187_226.out _; (with_reducible repeat (first | refine blk_drewN ?_ _ | refine blk_drew ?_ | refine blk_alloc ?_ _)); refine blk_far ?_ NB187_226.out _; (with_reducible repeat (first | refine blk_drewN ?_ _ | refine blk_drew ?_ | refine blk_alloc ?_ _)); refine blk_far ?_ NB187_226.out _; (with_reducible repeat (first | refine blk_drewN ?_ _ | refine blk_drew ?_ | refine blk_alloc ?_ _)); refine blk_far ?_ NB187_226.out _; (with_reducible repeat (first | refine blk_drewN ?_ _ | refine blk_drew ?_ | refine blk_alloc ?_ _)); exact BK187.out⟩, ⟨by (with_reducible repeat (first | refine blk_drewN ?_ _ | refine blk_drew ?_ | refine blk_alloc ?_ _)); refine blk_far ?_ NB199_226.out _; (with_reducible repeat (first | refine blk_drewN ?_ _ | refine blk_drew ?_ | refine blk_alloc ?_ _)); refine blk_far ?_ NB199_226.out _; (with_reducible repeat (first | refine blk_drewN ?_ _ | refine blk_drew ?_ | refine blk_alloc ?_ _)); refine blk_far ?_ NB199_226.out _; (with_reducible repeat (first | refine blk_drewN ?_ _ | refine blk_drew ?_ | refine blk_alloc ?_ _)); refine blk_far ?_ NB199_226.out _; (with_reducible repeat (first | refine blk_drewN ?_ _ | refine blk_drew ?_ | refine blk_alloc ?_ _)); exact BK199.out⟩, ⟨by (with_reducible repeat (first | refine blk_drewN ?_ _ | refine blk_drew ?_ | refine blk_alloc ?_ _)); refine blk_far ?_ NB213_226.out _; (with_reducible repeat (first | refine blk_drewN ?_ _ | refine blk_drew ?_ | refine blk_alloc ?_ _)); refine blk_far ?_ NB213_226.out _; (with_reducible repeat (first | refine blk_drewN ?_ _ | refine blk_drew ?_ | refine blk_alloc ?_ _)); refine blk_far ?_ NB213_226.out _; (with_reducible repeat (first | refine blk_drewN ?_ _ | refine blk_drew ?_ | refine blk_alloc ?_ _)); refine blk_far ?_ NB213_226.out _; (with_reducible repeat (first | refine blk_drewN ?_ _ | refine blk_drew ?_ | refine blk_alloc ?_ _)); exact BK213.out⟩, ⟨by (with_reducible repeat (first | refine blk_drewN ?_ _ | refine blk_drew ?_ | refine blk_alloc ?_ _)); refine blk_put (cs := #[.int .i64 t218, .int .i64 t219, .int .i64 t220, .int .i64 0]) ?_ 3 _ rfl; (with_reducible repeat (first | refine blk_drewN ?_ _ | refine blk_drew ?_ | refine blk_alloc ?_ _)); refine blk_put (cs := #[.int .i64 t218, .int .i64 t219, .int .i64 0, .int .i64 0]) ?_ 2 _ rfl; (with_reducible repeat (first | refine blk_drewN ?_ _ | refine blk_drew ?_ | refine blk_alloc ?_ _)); refine blk_put (cs := #[.int .i64 t218, .int .i64 0, .int .i64 0, .int .i64 0]) ?_ 1 _ rfl; (with_reducible repeat (first | refine blk_drewN ?_ _ | refine blk_drew ?_ | refine blk_alloc ?_ _)); refine blk_put (cs := #[.int .i64 0, .int .i64 0, .int .i64 0, .int .i64 0]) ?_ 0 _ rfl; (with_reducible repeat (first | refine blk_drewN ?_ _ | refine blk_drew ?_ | refine blk_alloc ?_ _)); exact BK226.out⟩, ⟨by repeat (first | (with_reducible first | exact HB.out | apply below_alloc | apply pw_below_drewN | apply below_drew1 | refine below_set ?_ GE187.out | refine below_set ?_ GE199.out | refine below_set ?_ GE213.out | refine below_set ?_ GE226.out) | exact HB.out)⟩⟩}
 {
 rw [if_neg c49] at H
 have c49b0 : (!(t191 == t218) || (!(t192 == t219) || (!(t193 == t220) || (!(t194 == t221))))) = false := by simpa using c49
 clear c49
 (first | rw [c49b0] | (simp only [i64_w, i32_w]; rw [c49b0]) | skip)
 by_cases c57 : (t195.length : Int) = (t188.length : Int)
 {
 rw [if_pos c57] at H
 have c57b0 : ((t195.length : Int) == (t188.length : Int)) = true := beq_iff_eq.mpr c57
 have c57b1 : ((t195.length : Int) != (t188.length : Int)) = false := bne_eq_false_iff_eq.mpr c57
 have c57b2 : (t195.length == t188.length) = true := by first | simpa using c57 | (simp at c57 ⊢; omega)
 clear c57
 by_cases c58 : (t209.length : Int) = t200
 {
 rw [if_pos c58] at H
 have c58b0 : ((t209.length : Int) == t200) = true := beq_iff_eq.mpr c58
 have c58b1 : ((t209.length : Int) != t200) = false := bne_eq_false_iff_eq.mpr c58
 clear c58
 by_cases c59 : (t222.length : Int) = (wrap64 ((t188.length : Int) - t200))
 {
 rw [if_pos c59] at H
 have c59b0 : ((t222.length : Int) == (wrap64 ((t188.length : Int) - t200))) = true := beq_iff_eq.mpr c59
 have c59b1 : ((t222.length : Int) != (wrap64 ((t188.length : Int) - t200))) = false := bne_eq_false_iff_eq.mpr c59
 clear c59
 replace H := Option.bind_eq_some_iff.mp H
 obtain ⟨t227, A600, H⟩ := H
 replace H : (laws_FnBuckets.j0 k t188 t195 t200 t209 t222 (!t227) t183 t184 t185 t186) = some r := H
 have A60 := Aside0.mk A600
 clear A600
 have H' := Aside0.mk H
 clear H
 have hnb61 := NB199_187.out
 have hnc61 := NB187_199.out
 have hnb62 := NB199_213.out
 have hnc62 := NB213_199.out
 have hnb63 := NB199_226.out
 have hnc63 := NB226_199.out
 have hcz64_0 : w41.cell? ⟨gb199, 0, none⟩ = some (.int .i64 t191) := (blk_cell BK199.out 0).trans rfl
 have hcz64_1 : w41.cell? ⟨gb199, 1, none⟩ = some (.int .i64 t192) := (blk_cell BK199.out 1).trans rfl
 have hcz64_2 : w41.cell? ⟨gb199, 2, none⟩ = some (.int .i64 t193) := (blk_cell BK199.out 2).trans rfl
 have hcz64_3 : w41.cell? ⟨gb199, 3, none⟩ = some (.int .i64 t194) := (blk_cell BK199.out 3).trans rfl
 have hfz64_0 := blk_frozen BK199.out 0
 have hfz64_1 := blk_frozen BK199.out 1
 have hfz64_2 := blk_frozen BK199.out 2
 have hfz64_3 := blk_frozen BK199.out 3
 have hnb65 := NB226_187.out
 have hnc65 := NB187_226.out
 have hnb66 := NB226_213.out
 have hnc66 := NB213_226.out
 have hcz67_0 : w41.cell? ⟨gb226, 0, none⟩ = some (.int .i64 0) := (blk_cell BK226.out 0).trans rfl
 have hcz67_1 : w41.cell? ⟨gb226, 1, none⟩ = some (.int .i64 0) := (blk_cell BK226.out 1).trans rfl
 have hcz67_2 : w41.cell? ⟨gb226, 2, none⟩ = some (.int .i64 0) := (blk_cell BK226.out 2).trans rfl
 have hcz67_3 : w41.cell? ⟨gb226, 3, none⟩ = some (.int .i64 0) := (blk_cell BK226.out 3).trans rfl
 have hfz67_0 := blk_frozen BK226.out 0
 have hfz67_1 := blk_frozen BK226.out 1
 have hfz67_2 := blk_frozen BK226.out 2
 have hfz67_3 := blk_frozen BK226.out 3
 obtain ⟨Ao68, co68, eo68⟩ := Kd.R_slice HO197.out
 subst eo68
 obtain ⟨Ao69, co69, eo69⟩ := Kd.R_slice HO211.out
 subst eo69
 obtain ⟨Ao70, co70, eo70⟩ := Kd.R_slice HO224.out
 subst eo70
 go_wp2_with (first | (go_at_call 17; (with_reducible refine (impl_ValidBucket.calls t191 t192 t193 t194 t227 _ A60.out).mono ?_); rintro e w71 ⟨rfl, hb⟩; have n0_ := Aside0.mk (Kd.R_below (by (with_reducible repeat (first | apply Kd.R_alloc | apply Kd.R_drewN | apply Kd.R_drew)); exact (Kd.R_mono (Kd.R_far (p := ⟨gb226, 3, none⟩) (Kd.R_far (p := ⟨gb226, 2, none⟩) (Kd.R_far (p := ⟨gb226, 1, none⟩) (Kd.R_far (p := ⟨gb226, 0, none⟩) (Kd.R_types HO190.out BK226.out (by decide)) (fun _ hk => hk.2) (.int .i64 t218)) (fun _ hk => hk.2) (.int .i64 t219)) (fun _ hk => hk.2) (.int .i64 t220)) (fun _ hk => hk.2) (.int .i64 t221)) (fun _ h_ => h_.1))) hb); have n1_ := Aside0.mk (Kd.R_below (by (with_reducible repeat (first | apply Kd.R_alloc | apply Kd.R_drewN | apply Kd.R_drew)); exact (Kd.R_mono (Kd.R_far (p := ⟨gb226, 3, none⟩) (Kd.R_far (p := ⟨gb226, 2, none⟩) (Kd.R_far (p := ⟨gb226, 1, none⟩) (Kd.R_far (p := ⟨gb226, 0, none⟩) (Kd.R_types HO197.out BK226.out (by decide)) (fun _ hk => hk.2) (.int .i64 t218)) (fun _ hk => hk.2) (.int .i64 t219)) (fun _ hk => hk.2) (.int .i64 t220)) (fun _ hk => hk.2) (.int .i64 t221)) (fun _ h_ => h_.1))) hb); have n2_ := Aside0.mk (Kd.R_below (by (with_reducible repeat (first | apply Kd.R_alloc | apply Kd.R_drewN | apply Kd.R_drew)); exact (Kd.R_mono (Kd.R_far (p := ⟨gb226, 3, none⟩) (Kd.R_far (p := ⟨gb226, 2, none⟩) (Kd.R_far (p := ⟨gb226, 1, none⟩) (Kd.R_far (p := ⟨gb226, 0, none⟩) (Kd.R_types HO211.out BK226.out (by decide)) (fun _ hk => hk.2) (.int .i64 t218)) (fun _ hk => hk.2) (.int .i64 t219)) (fun _ hk => hk.2) (.int .i64 t220)) (fun _ hk => hk.2) (.int .i64 t221)) (fun _ h_ => h_.1))) hb); have n3_ := Aside0.mk (Kd.R_below (by (with_reducible repeat (first | apply Kd.R_alloc | apply Kd.R_drewN | apply Kd.R_drew)); exact (Kd.R_mono (Kd.R_far (p := ⟨gb226, 3, none⟩) (Kd.R_far (p := ⟨gb226, 2, none⟩) (Kd.R_far (p := ⟨gb226, 1, none⟩) (Kd.R_far (p := ⟨gb226, 0, none⟩) (Kd.R_types HO224.out BK226.out (by decide)) (fun _ hk => hk.2) (.int .i64 t218)) (fun _ hk => hk.2) (.int .i64 t219)) (fun _ hk => hk.2) (.int .i64 t220)) (fun _ hk => hk.2) (.int .i64 t221)) (fun _ h_ => h_.1))) hb); have n4_ := Aside0.mk (blk_below (g := gb187) (o := .cells #[.int .i64 t183, .int .i64 t184, .int .i64 t185, .int .i64 t186] 25 (0, 0)) (by (with_reducible repeat (first | refine blk_drewN ?_ _ | refine blk_drew ?_ | refine blk_alloc ?_ _)); refine blk_far ?_ NB187_226.out _; (with_reducible repeat (first | refine blk_drewN ?_ _ | refine blk_drew ?_ | refine blk_alloc ?_ _)); refine blk_far ?_ NB187_226.out _; (with_reducible repeat (first | refine blk_drewN ?_ _ | refine blk_drew ?_ | refine blk_alloc ?_ _)); refine blk_far ?_ NB187_226.out _; (with_reducible repeat (first | refine blk_drewN ?_ _ | refine blk_drew ?_ | refine blk_alloc ?_ _)); refine blk_far ?_ NB187_226.out _; (with_reducible repeat (first | refine blk_drewN ?_ _ | refine blk_drew ?_ | refine blk_alloc ?_ _)); exact BK187.out) hb); have n5_ := Aside0.mk (blk_below (g := gb199) (o := .cells #[.int .i64 t191, .int .i64 t192, .int .i64 t193, .int .i64 t194] 25 (0, 0)) (by (with_reducible repeat (first | refine blk_drewN ?_ _ | refine blk_drew ?_ | refine blk_alloc ?_ _)); refine blk_far ?_ NB199_226.out _; (with_reducible repeat (first | refine blk_drewN ?_ _ | refine blk_drew ?_ | refine blk_alloc ?_ _)); refine blk_far ?_ NB199_226.out _; (with_reducible repeat (first | refine blk_drewN ?_ _ | refine blk_drew ?_ | refine blk_alloc ?_ _)); refine blk_far ?_ NB199_226.out _; (with_reducible repeat (first | refine blk_drewN ?_ _ | refine blk_drew ?_ | refine blk_alloc ?_ _)); refine blk_far ?_ NB199_226.out _; (with_reducible repeat (first | refine blk_drewN ?_ _ | refine blk_drew ?_ | refine blk_alloc ?_ _)); exact BK199.out) hb); have n6_ := Aside0.mk (blk_below (g := gb213) (o := .cells #[.int .i64 t205, .int .i64 t206, .int .i64 t207, .int .i64 t208] 25 (0, 0)) (by (with_reducible repeat (first | refine blk_drewN ?_ _ | refine blk_drew ?_ | refine blk_alloc ?_ _)); refine blk_far ?_ NB213_226.out _; (with_reducible repeat (first | refine blk_drewN ?_ _ | refine blk_drew ?_ | refine blk_alloc ?_ _)); refine blk_far ?_ NB213_226.out _; (with_reducible repeat (first | refine blk_drewN ?_ _ | refine blk_drew ?_ | refine blk_alloc ?_ _)); refine blk_far ?_ NB213_226.out _; (with_reducible repeat (first | refine blk_drewN ?_ _ | refine blk_drew ?_ | refine blk_alloc ?_ _)); refine blk_far ?_ NB213_226.out _; (with_reducible repeat (first | refine blk_drewN ?_ _ | refine blk_drew ?_ | refine blk_alloc ?_ _)); exact BK213.out) hb); have n7_ := Aside0.mk (blk_below (g := gb226) (o := .cells #[.int .i64 t218, .int .i64 t219, .int .i64 t220, .int .i64 t221] 25 (0, 0)) (by (with_reducible repeat (first | refine blk_drewN ?_ _ | refine blk_drew ?_ | refine blk_alloc ?_ _)); refine blk_put (cs := #[.int .i64 t218, .int .i64 t219, .int .i64 t220, .int .i64 0]) ?_ 3 _ rfl; (with_reducible repeat (first | refine blk_drewN ?_ _ | refine blk_drew ?_ | refine blk_alloc ?_ _)); refine blk_put (cs := #[.int .i64 t218, .int .i64 t219, .int .i64 0, .int .i64 0]) ?_ 2 _ rfl; (with_reducible repeat (first | refine blk_drewN ?_ _ | refine blk_drew ?_ | refine blk_alloc ?_ _)); refine blk_put (cs := #[.int .i64 t218, .int .i64 0, .int .i64 0, .int .i64 0]) ?_ 1 _ rfl; (with_reducible repeat (first | refine blk_drewN ?_ _ | refine blk_drew ?_ | refine blk_alloc ?_ _)); refine blk_put (cs := #[.int .i64 0, .int .i64 0, .int .i64 0, .int .i64 0]) ?_ 0 _ rfl; (with_reducible repeat (first | refine blk_drewN ?_ _ | refine blk_drew ?_ | refine blk_alloc ?_ _)); exact BK226.out) hb); have n8_ := Aside0.mk (below_step (by repeat (first | (with_reducible first | exact HB.out | apply below_alloc | apply pw_below_drewN | apply below_drew1 | refine below_set ?_ GE187.out | refine below_set ?_ GE199.out | refine below_set ?_ GE213.out | refine below_set ?_ GE226.out) | exact HB.out)) hb); clear HO190; clear HO197; clear HO211; clear HO224; clear BK187; clear BK199; clear BK213; clear BK226; clear HB; have HO190 := n0_; have HO197 := n1_; have HO211 := n2_; have HO224 := n3_; have BK187 := n4_; have BK199 := n5_; have BK213 := n6_; have BK226 := n7_; have HB := n8_; clear n0_ n1_ n2_ n3_ n4_ n5_ n6_ n7_ n8_; (try clear hb); (try clear hb2); (try clear hk); (try clear hi)))
 go_meet
 case rel => exact ⟨_, (!t227), s1_, H', ⟨by first | omega | exact Nat.le_refl _⟩, ⟨b2_ HO190.out⟩, ⟨b2_ HO197.out⟩, ⟨b2_ HO211.out⟩, ⟨b2_ HO224.out⟩, ⟨b1_ BK187.out⟩, ⟨b1_ BK199.out⟩, ⟨b1_ BK213.out⟩, ⟨b1_ BK226.out⟩, ⟨by repeat (first | (with_reducible first | exact HB.out | apply below_alloc | apply pw_below_drewN | apply below_drew1 | refine below_set ?_ GE187.out | refine below_set ?_ GE199.out | refine below_set ?_ GE213.out | refine below_set ?_ GE226.out) | exact HB.out)⟩⟩}
 {
 rw [if_neg c59] at H
 have c59b0 : ((t222.length : Int) == (wrap64 ((t188.length : Int) - t200))) = false := beq_eq_false_iff_ne.mpr c59
 have c59b1 : ((t222.length : Int) != (wrap64 ((t188.length : Int) - t200))) = true := bne_iff_ne.mpr c59
 have H' := Aside0.mk H
 clear H
 have hnb72 := NB199_187.out
 have hnc72 := NB187_199.out
 have hnb73 := NB199_213.out
 have hnc73 := NB213_199.out
 have hnb74 := NB199_226.out
 have hnc74 := NB226_199.out
 have hcz75_0 : w41.cell? ⟨gb199, 0, none⟩ = some (.int .i64 t191) := (blk_cell BK199.out 0).trans rfl
 have hcz75_1 : w41.cell? ⟨gb199, 1, none⟩ = some (.int .i64 t192) := (blk_cell BK199.out 1).trans rfl
 have hcz75_2 : w41.cell? ⟨gb199, 2, none⟩ = some (.int .i64 t193) := (blk_cell BK199.out 2).trans rfl
 have hcz75_3 : w41.cell? ⟨gb199, 3, none⟩ = some (.int .i64 t194) := (blk_cell BK199.out 3).trans rfl
 have hfz75_0 := blk_frozen BK199.out 0
 have hfz75_1 := blk_frozen BK199.out 1
 have hfz75_2 := blk_frozen BK199.out 2
 have hfz75_3 := blk_frozen BK199.out 3
 have hnb76 := NB226_187.out
 have hnc76 := NB187_226.out
 have hnb77 := NB226_213.out
 have hnc77 := NB213_226.out
 have hcz78_0 : w41.cell? ⟨gb226, 0, none⟩ = some (.int .i64 0) := (blk_cell BK226.out 0).trans rfl
 have hcz78_1 : w41.cell? ⟨gb226, 1, none⟩ = some (.int .i64 0) := (blk_cell BK226.out 1).trans rfl
 have hcz78_2 : w41.cell? ⟨gb226, 2, none⟩ = some (.int .i64 0) := (blk_cell BK226.out 2).trans rfl
 have hcz78_3 : w41.cell? ⟨gb226, 3, none⟩ = some (.int .i64 0) := (blk_cell BK226.out 3).trans rfl
 have hfz78_0 := blk_frozen BK226.out 0
 have hfz78_1 := blk_frozen BK226.out 1
 have hfz78_2 := blk_frozen BK226.out 2
 have hfz78_3 := blk_frozen BK226.out 3
 obtain ⟨Ao79, co79, eo79⟩ := Kd.R_slice HO197.out
 subst eo79
 obtain ⟨Ao80, co80, eo80⟩ := Kd.R_slice HO211.out
 subst eo80
 obtain ⟨Ao81, co81, eo81⟩ := Kd.R_slice HO224.out
 subst eo81
 go_wp2
 go_meet
 case rel => exact ⟨_, (true), s1_, H', ⟨by first | omega | exact Nat.le_refl _⟩, ⟨by (with_reducible repeat (first | apply Kd.R_alloc | apply Kd.R_drewN | apply Kd.R_drew)); exact Kd.R_mono (Kd.R_far (p := ⟨gb226, 3, none⟩) (Kd.R_far (p := ⟨gb226, 2, none⟩) (Kd.R_far (p := ⟨gb226, 1, none⟩) (Kd.R_far (p := ⟨gb226, 0, none⟩) (Kd.R_types HO190.out BK226.out (by decide)) (fun _ hk => hk.2) (.int .i64 t218)) (fun _ hk => hk.2) (.int .i64 t219)) (fun _ hk => hk.2) (.int .i64 t220)) (fun _ hk => hk.2) (.int .i64 t221)) (fun _ hk => trivial)⟩, ⟨by (with_reducible repeat (first | apply Kd.R_alloc | apply Kd.R_drewN | apply Kd.R_drew)); exact Kd.R_mono (Kd.R_far (p := ⟨gb226, 3, none⟩) (Kd.R_far (p := ⟨gb226, 2, none⟩) (Kd.R_far (p := ⟨gb226, 1, none⟩) (Kd.R_far (p := ⟨gb226, 0, none⟩) (Kd.R_types HO197.out BK226.out (by decide)) (fun _ hk => hk.2) (.int .i64 t218)) (fun _ hk => hk.2) (.int .i64 t219)) (fun _ hk => hk.2) (.int .i64 t220)) (fun _ hk => hk.2) (.int .i64 t221)) (fun _ hk => ⟨hk.1.1, hk.1.2⟩)⟩, ⟨by (with_reducible repeat (first | apply Kd.R_alloc | apply Kd.R_drewN | apply Kd.R_drew)); exact Kd.R_mono (Kd.R_far (p := ⟨gb226, 3, none⟩) (Kd.R_far (p := ⟨gb226, 2, none⟩) (Kd.R_far (p := ⟨gb226, 1, none⟩) (Kd.R_far (p := ⟨gb226, 0, none⟩) (Kd.R_types HO211.out BK226.out (by decide)) (fun _ hk => hk.2) (.int .i64 t218)) (fun _ hk => hk.2) (.int .i64 t219)) (fun _ hk => hk.2) (.int .i64 t220)) (fun _ hk => hk.2) (.int .i64 t221)) (fun _ hk => ⟨hk.1.1, hk.1.2⟩)⟩, ⟨by (with_reducible repeat (first | apply Kd.R_alloc | apply Kd.R_drewN | apply Kd.R_drew)); exact Kd.R_mono (Kd.R_far (p := ⟨gb226, 3, none⟩) (Kd.R_far (p := ⟨gb226, 2, none⟩) (Kd.R_far (p := ⟨gb226, 1, none⟩) (Kd.R_far (p := ⟨gb226, 0, none⟩) (Kd.R_types HO224.out BK226.out (by decide)) (fun _ hk => hk.2) (.int .i64 t218)) (fun _ hk => hk.2) (.int .i64 t219)) (fun _ hk => hk.2) (.int .i64 t220)) (fun _ hk => hk.2) (.int .i64 t221)) (fun _ hk => ⟨hk.1.1, hk.1.2⟩)⟩, ⟨by (with_reducible repeat (first | refine blk_drewN ?_ _ | refine blk_drew ?_ | refine blk_alloc ?_ _)); refine blk_far ?_ NB187_226.out _; (with_reducible repeat (first | refine blk_drewN ?_ _ | refine blk_drew ?_ | refine blk_alloc ?_ _)); refine blk_far ?_ NB187_226.out _; (with_reducible repeat (first | refine blk_drewN ?_ _ | refine blk_drew ?_ | refine blk_alloc ?_ _)); refine blk_far ?_ NB187_226.out _; (with_reducible repeat (first | refine blk_drewN ?_ _ | refine blk_drew ?_ | refine blk_alloc ?_ _)); refine blk_far ?_ NB187_226.out _; (with_reducible repeat (first | refine blk_drewN ?_ _ | refine blk_drew ?_ | refine blk_alloc ?_ _)); exact BK187.out⟩, ⟨by (with_reducible repeat (first | refine blk_drewN ?_ _ | refine blk_drew ?_ | refine blk_alloc ?_ _)); refine blk_far ?_ NB199_226.out _; (with_reducible repeat (first | refine blk_drewN ?_ _ | refine blk_drew ?_ | refine blk_alloc ?_ _)); refine blk_far ?_ NB199_226.out _; (with_reducible repeat (first | refine blk_drewN ?_ _ | refine blk_drew ?_ | refine blk_alloc ?_ _)); refine blk_far ?_ NB199_226.out _; (with_reducible repeat (first | refine blk_drewN ?_ _ | refine blk_drew ?_ | refine blk_alloc ?_ _)); refine blk_far ?_ NB199_226.out _; (with_reducible repeat (first | refine blk_drewN ?_ _ | refine blk_drew ?_ | refine blk_alloc ?_ _)); exact BK199.out⟩, ⟨by (with_reducible repeat (first | refine blk_drewN ?_ _ | refine blk_drew ?_ | refine blk_alloc ?_ _)); refine blk_far ?_ NB213_226.out _; (with_reducible repeat (first | refine blk_drewN ?_ _ | refine blk_drew ?_ | refine blk_alloc ?_ _)); refine blk_far ?_ NB213_226.out _; (with_reducible repeat (first | refine blk_drewN ?_ _ | refine blk_drew ?_ | refine blk_alloc ?_ _)); refine blk_far ?_ NB213_226.out _; (with_reducible repeat (first | refine blk_drewN ?_ _ | refine blk_drew ?_ | refine blk_alloc ?_ _)); refine blk_far ?_ NB213_226.out _; (with_reducible repeat (first | refine blk_drewN ?_ _ | refine blk_drew ?_ | refine blk_alloc ?_ _)); exact BK213.out⟩, ⟨by (with_reducible repeat (first | refine blk_drewN ?_ _ | refine blk_drew ?_ | refine blk_alloc ?_ _)); refine blk_put (cs := #[.int .i64 t218, .int .i64 t219, .int .i64 t220, .int .i64 0]) ?_ 3 _ rfl; (with_reducible repeat (first | refine blk_drewN ?_ _ | refine blk_drew ?_ | refine blk_alloc ?_ _)); refine blk_put (cs := #[.int .i64 t218, .int .i64 t219, .int .i64 0, .int .i64 0]) ?_ 2 _ rfl; (with_reducible repeat (first | refine blk_drewN ?_ _ | refine blk_drew ?_ | refine blk_alloc ?_ _)); refine blk_put (cs := #[.int .i64 t218, .int .i64 0, .int .i64 0, .int .i64 0]) ?_ 1 _ rfl; (with_reducible repeat (first | refine blk_drewN ?_ _ | refine blk_drew ?_ | refine blk_alloc ?_ _)); refine blk_put (cs := #[.int .i64 0, .int .i64 0, .int .i64 0, .int .i64 0]) ?_ 0 _ rfl; (with_reducible repeat (first | refine blk_drewN ?_ _ | refine blk_drew ?_ | refine blk_alloc ?_ _)); exact BK226.out⟩, ⟨by repeat (first | (with_reducible first | exact HB.out | apply below_alloc | apply pw_below_drewN | apply below_drew1 | refine below_set ?_ GE187.out | refine below_set ?_ GE199.out | refine below_set ?_ GE213.out | refine below_set ?_ GE226.out) | exact HB.out)⟩⟩}}
 {
 rw [if_neg c58] at H
 have c58b0 : ((t209.length : Int) == t200) = false := beq_eq_false_iff_ne.mpr c58
 have c58b1 : ((t209.length : Int) != t200) = true := bne_iff_ne.mpr c58
 have H' := Aside0.mk H
 clear H
 have hnb82 := NB199_187.out
 have hnc82 := NB187_199.out
 have hnb83 := NB199_213.out
 have hnc83 := NB213_199.out
 have hnb84 := NB199_226.out
 have hnc84 := NB226_199.out
 have hcz85_0 : w41.cell? ⟨gb199, 0, none⟩ = some (.int .i64 t191) := (blk_cell BK199.out 0).trans rfl
 have hcz85_1 : w41.cell? ⟨gb199, 1, none⟩ = some (.int .i64 t192) := (blk_cell BK199.out 1).trans rfl
 have hcz85_2 : w41.cell? ⟨gb199, 2, none⟩ = some (.int .i64 t193) := (blk_cell BK199.out 2).trans rfl
 have hcz85_3 : w41.cell? ⟨gb199, 3, none⟩ = some (.int .i64 t194) := (blk_cell BK199.out 3).trans rfl
 have hfz85_0 := blk_frozen BK199.out 0
 have hfz85_1 := blk_frozen BK199.out 1
 have hfz85_2 := blk_frozen BK199.out 2
 have hfz85_3 := blk_frozen BK199.out 3
 have hnb86 := NB226_187.out
 have hnc86 := NB187_226.out
 have hnb87 := NB226_213.out
 have hnc87 := NB213_226.out
 have hcz88_0 : w41.cell? ⟨gb226, 0, none⟩ = some (.int .i64 0) := (blk_cell BK226.out 0).trans rfl
 have hcz88_1 : w41.cell? ⟨gb226, 1, none⟩ = some (.int .i64 0) := (blk_cell BK226.out 1).trans rfl
 have hcz88_2 : w41.cell? ⟨gb226, 2, none⟩ = some (.int .i64 0) := (blk_cell BK226.out 2).trans rfl
 have hcz88_3 : w41.cell? ⟨gb226, 3, none⟩ = some (.int .i64 0) := (blk_cell BK226.out 3).trans rfl
 have hfz88_0 := blk_frozen BK226.out 0
 have hfz88_1 := blk_frozen BK226.out 1
 have hfz88_2 := blk_frozen BK226.out 2
 have hfz88_3 := blk_frozen BK226.out 3
 obtain ⟨Ao89, co89, eo89⟩ := Kd.R_slice HO197.out
 subst eo89
 obtain ⟨Ao90, co90, eo90⟩ := Kd.R_slice HO211.out
 subst eo90
 go_wp2
 go_meet
 case rel => exact ⟨_, (true), s1_, H', ⟨by first | omega | exact Nat.le_refl _⟩, ⟨by (with_reducible repeat (first | apply Kd.R_alloc | apply Kd.R_drewN | apply Kd.R_drew)); exact Kd.R_mono (Kd.R_far (p := ⟨gb226, 3, none⟩) (Kd.R_far (p := ⟨gb226, 2, none⟩) (Kd.R_far (p := ⟨gb226, 1, none⟩) (Kd.R_far (p := ⟨gb226, 0, none⟩) (Kd.R_types HO190.out BK226.out (by decide)) (fun _ hk => hk.2) (.int .i64 t218)) (fun _ hk => hk.2) (.int .i64 t219)) (fun _ hk => hk.2) (.int .i64 t220)) (fun _ hk => hk.2) (.int .i64 t221)) (fun _ hk => trivial)⟩, ⟨by (with_reducible repeat (first | apply Kd.R_alloc | apply Kd.R_drewN | apply Kd.R_drew)); exact Kd.R_mono (Kd.R_far (p := ⟨gb226, 3, none⟩) (Kd.R_far (p := ⟨gb226, 2, none⟩) (Kd.R_far (p := ⟨gb226, 1, none⟩) (Kd.R_far (p := ⟨gb226, 0, none⟩) (Kd.R_types HO197.out BK226.out (by decide)) (fun _ hk => hk.2) (.int .i64 t218)) (fun _ hk => hk.2) (.int .i64 t219)) (fun _ hk => hk.2) (.int .i64 t220)) (fun _ hk => hk.2) (.int .i64 t221)) (fun _ hk => ⟨hk.1.1, hk.1.2⟩)⟩, ⟨by (with_reducible repeat (first | apply Kd.R_alloc | apply Kd.R_drewN | apply Kd.R_drew)); exact Kd.R_mono (Kd.R_far (p := ⟨gb226, 3, none⟩) (Kd.R_far (p := ⟨gb226, 2, none⟩) (Kd.R_far (p := ⟨gb226, 1, none⟩) (Kd.R_far (p := ⟨gb226, 0, none⟩) (Kd.R_types HO211.out BK226.out (by decide)) (fun _ hk => hk.2) (.int .i64 t218)) (fun _ hk => hk.2) (.int .i64 t219)) (fun _ hk => hk.2) (.int .i64 t220)) (fun _ hk => hk.2) (.int .i64 t221)) (fun _ hk => ⟨hk.1.1, hk.1.2⟩)⟩, ⟨by (with_reducible repeat (first | apply Kd.R_alloc | apply Kd.R_drewN | apply Kd.R_drew)); exact Kd.R_mono (Kd.R_far (p := ⟨gb226, 3, none⟩) (Kd.R_far (p := ⟨gb226, 2, none⟩) (Kd.R_far (p := ⟨gb226, 1, none⟩) (Kd.R_far (p := ⟨gb226, 0, none⟩) (Kd.R_types HO224.out BK226.out (by decide)) (fun _ hk => hk.2) (.int .i64 t218)) (fun _ hk => hk.2) (.int .i64 t219)) (fun _ hk => hk.2) (.int .i64 t220)) (fun _ hk => hk.2) (.int .i64 t221)) (fun _ hk => ⟨hk.1.1, hk.1.2⟩)⟩, ⟨by (with_reducible repeat (first | refine blk_drewN ?_ _ | refine blk_drew ?_ | refine blk_alloc ?_ _)); refine blk_far ?_ NB187_226.out _; (with_reducible repeat (first | refine blk_drewN ?_ _ | refine blk_drew ?_ | refine blk_alloc ?_ _)); refine blk_far ?_ NB187_226.out _; (with_reducible repeat (first | refine blk_drewN ?_ _ | refine blk_drew ?_ | refine blk_alloc ?_ _)); refine blk_far ?_ NB187_226.out _; (with_reducible repeat (first | refine blk_drewN ?_ _ | refine blk_drew ?_ | refine blk_alloc ?_ _)); refine blk_far ?_ NB187_226.out _; (with_reducible repeat (first | refine blk_drewN ?_ _ | refine blk_drew ?_ | refine blk_alloc ?_ _)); exact BK187.out⟩, ⟨by (with_reducible repeat (first | refine blk_drewN ?_ _ | refine blk_drew ?_ | refine blk_alloc ?_ _)); refine blk_far ?_ NB199_226.out _; (with_reducible repeat (first | refine blk_drewN ?_ _ | refine blk_drew ?_ | refine blk_alloc ?_ _)); refine blk_far ?_ NB199_226.out _; (with_reducible repeat (first | refine blk_drewN ?_ _ | refine blk_drew ?_ | refine blk_alloc ?_ _)); refine blk_far ?_ NB199_226.out _; (with_reducible repeat (first | refine blk_drewN ?_ _ | refine blk_drew ?_ | refine blk_alloc ?_ _)); refine blk_far ?_ NB199_226.out _; (with_reducible repeat (first | refine blk_drewN ?_ _ | refine blk_drew ?_ | refine blk_alloc ?_ _)); exact BK199.out⟩, ⟨by (with_reducible repeat (first | refine blk_drewN ?_ _ | refine blk_drew ?_ | refine blk_alloc ?_ _)); refine blk_far ?_ NB213_226.out _; (with_reducible repeat (first | refine blk_drewN ?_ _ | refine blk_drew ?_ | refine blk_alloc ?_ _)); refine blk_far ?_ NB213_226.out _; (with_reducible repeat (first | refine blk_drewN ?_ _ | refine blk_drew ?_ | refine blk_alloc ?_ _)); refine blk_far ?_ NB213_226.out _; (with_reducible repeat (first | refine blk_drewN ?_ _ | refine blk_drew ?_ | refine blk_alloc ?_ _)); refine blk_far ?_ NB213_226.out _; (with_reducible repeat (first | refine blk_drewN ?_ _ | refine blk_drew ?_ | refine blk_alloc ?_ _)); exact BK213.out⟩, ⟨by (with_reducible repeat (first | refine blk_drewN ?_ _ | refine blk_drew ?_ | refine blk_alloc ?_ _)); refine blk_put (cs := #[.int .i64 t218, .int .i64 t219, .int .i64 t220, .int .i64 0]) ?_ 3 _ rfl; (with_reducible repeat (first | refine blk_drewN ?_ _ | refine blk_drew ?_ | refine blk_alloc ?_ _)); refine blk_put (cs := #[.int .i64 t218, .int .i64 t219, .int .i64 0, .int .i64 0]) ?_ 2 _ rfl; (with_reducible repeat (first | refine blk_drewN ?_ _ | refine blk_drew ?_ | refine blk_alloc ?_ _)); refine blk_put (cs := #[.int .i64 t218, .int .i64 0, .int .i64 0, .int .i64 0]) ?_ 1 _ rfl; (with_reducible repeat (first | refine blk_drewN ?_ _ | refine blk_drew ?_ | refine blk_alloc ?_ _)); refine blk_put (cs := #[.int .i64 0, .int .i64 0, .int .i64 0, .int .i64 0]) ?_ 0 _ rfl; (with_reducible repeat (first | refine blk_drewN ?_ _ | refine blk_drew ?_ | refine blk_alloc ?_ _)); exact BK226.out⟩, ⟨by repeat (first | (with_reducible first | exact HB.out | apply below_alloc | apply pw_below_drewN | apply below_drew1 | refine below_set ?_ GE187.out | refine below_set ?_ GE199.out | refine below_set ?_ GE213.out | refine below_set ?_ GE226.out) | exact HB.out)⟩⟩}}
 {
 rw [if_neg c57] at H
 have c57b0 : ((t195.length : Int) == (t188.length : Int)) = false := beq_eq_false_iff_ne.mpr c57
 have c57b1 : ((t195.length : Int) != (t188.length : Int)) = true := bne_iff_ne.mpr c57
 have c57b2 : (t195.length == t188.length) = false := by first | simpa using c57 | (simp at c57 ⊢; omega)
 have H' := Aside0.mk H
 clear H
 have hnb91 := NB199_187.out
 have hnc91 := NB187_199.out
 have hnb92 := NB199_213.out
 have hnc92 := NB213_199.out
 have hnb93 := NB199_226.out
 have hnc93 := NB226_199.out
 have hcz94_0 : w41.cell? ⟨gb199, 0, none⟩ = some (.int .i64 t191) := (blk_cell BK199.out 0).trans rfl
 have hcz94_1 : w41.cell? ⟨gb199, 1, none⟩ = some (.int .i64 t192) := (blk_cell BK199.out 1).trans rfl
 have hcz94_2 : w41.cell? ⟨gb199, 2, none⟩ = some (.int .i64 t193) := (blk_cell BK199.out 2).trans rfl
 have hcz94_3 : w41.cell? ⟨gb199, 3, none⟩ = some (.int .i64 t194) := (blk_cell BK199.out 3).trans rfl
 have hfz94_0 := blk_frozen BK199.out 0
 have hfz94_1 := blk_frozen BK199.out 1
 have hfz94_2 := blk_frozen BK199.out 2
 have hfz94_3 := blk_frozen BK199.out 3
 have hnb95 := NB226_187.out
 have hnc95 := NB187_226.out
 have hnb96 := NB226_213.out
 have hnc96 := NB213_226.out
 have hcz97_0 : w41.cell? ⟨gb226, 0, none⟩ = some (.int .i64 0) := (blk_cell BK226.out 0).trans rfl
 have hcz97_1 : w41.cell? ⟨gb226, 1, none⟩ = some (.int .i64 0) := (blk_cell BK226.out 1).trans rfl
 have hcz97_2 : w41.cell? ⟨gb226, 2, none⟩ = some (.int .i64 0) := (blk_cell BK226.out 2).trans rfl
 have hcz97_3 : w41.cell? ⟨gb226, 3, none⟩ = some (.int .i64 0) := (blk_cell BK226.out 3).trans rfl
 have hfz97_0 := blk_frozen BK226.out 0
 have hfz97_1 := blk_frozen BK226.out 1
 have hfz97_2 := blk_frozen BK226.out 2
 have hfz97_3 := blk_frozen BK226.out 3
 obtain ⟨Ao98, co98, eo98⟩ := Kd.R_slice HO197.out
 subst eo98
 go_wp2
 go_meet
 case rel => exact ⟨_, (true), s1_, H', ⟨by first | omega | exact Nat.le_refl _⟩, ⟨by (with_reducible repeat (first | apply Kd.R_alloc | apply Kd.R_drewN | apply Kd.R_drew)); exact Kd.R_mono (Kd.R_far (p := ⟨gb226, 3, none⟩) (Kd.R_far (p := ⟨gb226, 2, none⟩) (Kd.R_far (p := ⟨gb226, 1, none⟩) (Kd.R_far (p := ⟨gb226, 0, none⟩) (Kd.R_types HO190.out BK226.out (by decide)) (fun _ hk => hk.2) (.int .i64 t218)) (fun _ hk => hk.2) (.int .i64 t219)) (fun _ hk => hk.2) (.int .i64 t220)) (fun _ hk => hk.2) (.int .i64 t221)) (fun _ hk => trivial)⟩, ⟨by (with_reducible repeat (first | apply Kd.R_alloc | apply Kd.R_drewN | apply Kd.R_drew)); exact Kd.R_mono (Kd.R_far (p := ⟨gb226, 3, none⟩) (Kd.R_far (p := ⟨gb226, 2, none⟩) (Kd.R_far (p := ⟨gb226, 1, none⟩) (Kd.R_far (p := ⟨gb226, 0, none⟩) (Kd.R_types HO197.out BK226.out (by decide)) (fun _ hk => hk.2) (.int .i64 t218)) (fun _ hk => hk.2) (.int .i64 t219)) (fun _ hk => hk.2) (.int .i64 t220)) (fun _ hk => hk.2) (.int .i64 t221)) (fun _ hk => ⟨hk.1.1, hk.1.2⟩)⟩, ⟨by (with_reducible repeat (first | apply Kd.R_alloc | apply Kd.R_drewN | apply Kd.R_drew)); exact Kd.R_mono (Kd.R_far (p := ⟨gb226, 3, none⟩) (Kd.R_far (p := ⟨gb226, 2, none⟩) (Kd.R_far (p := ⟨gb226, 1, none⟩) (Kd.R_far (p := ⟨gb226, 0, none⟩) (Kd.R_types HO211.out BK226.out (by decide)) (fun _ hk => hk.2) (.int .i64 t218)) (fun _ hk => hk.2) (.int .i64 t219)) (fun _ hk => hk.2) (.int .i64 t220)) (fun _ hk => hk.2) (.int .i64 t221)) (fun _ hk => ⟨hk.1.1, hk.1.2⟩)⟩, ⟨by (with_reducible repeat (first | apply Kd.R_alloc | apply Kd.R_drewN | apply Kd.R_drew)); exact Kd.R_mono (Kd.R_far (p := ⟨gb226, 3, none⟩) (Kd.R_far (p := ⟨gb226, 2, none⟩) (Kd.R_far (p := ⟨gb226, 1, none⟩) (Kd.R_far (p := ⟨gb226, 0, none⟩) (Kd.R_types HO224.out BK226.out (by decide)) (fun _ hk => hk.2) (.int .i64 t218)) (fun _ hk => hk.2) (.int .i64 t219)) (fun _ hk => hk.2) (.int .i64 t220)) (fun _ hk => hk.2) (.int .i64 t221)) (fun _ hk => ⟨hk.1.1, hk.1.2⟩)⟩, ⟨by (with_reducible repeat (first | refine blk_drewN ?_ _ | refine blk_drew ?_ | refine blk_alloc ?_ _)); refine blk_far ?_ NB187_226.out _; (with_reducible repeat (first | refine blk_drewN ?_ _ | refine blk_drew ?_ | refine blk_alloc ?_ _)); refine blk_far ?_ NB187_226.out _; (with_reducible repeat (first | refine blk_drewN ?_ _ | refine blk_drew ?_ | refine blk_alloc ?_ _)); refine blk_far ?_ NB187_226.out _; (with_reducible repeat (first | refine blk_drewN ?_ _ | refine blk_drew ?_ | refine blk_alloc ?_ _)); refine blk_far ?_ NB187_226.out _; (with_reducible repeat (first | refine blk_drewN ?_ _ | refine blk_drew ?_ | refine blk_alloc ?_ _)); exact BK187.out⟩, ⟨by (with_reducible repeat (first | refine blk_drewN ?_ _ | refine blk_drew ?_ | refine blk_alloc ?_ _)); refine blk_far ?_ NB199_226.out _; (with_reducible repeat (first | refine blk_drewN ?_ _ | refine blk_drew ?_ | refine blk_alloc ?_ _)); refine blk_far ?_ NB199_226.out _; (with_reducible repeat (first | refine blk_drewN ?_ _ | refine blk_drew ?_ | refine blk_alloc ?_ _)); refine blk_far ?_ NB199_226.out _; (with_reducible repeat (first | refine blk_drewN ?_ _ | refine blk_drew ?_ | refine blk_alloc ?_ _)); refine blk_far ?_ NB199_226.out _; (with_reducible repeat (first | refine blk_drewN ?_ _ | refine blk_drew ?_ | refine blk_alloc ?_ _)); exact BK199.out⟩, ⟨by (with_reducible repeat (first | refine blk_drewN ?_ _ | refine blk_drew ?_ | refine blk_alloc ?_ _)); refine blk_far ?_ NB213_226.out _; (with_reducible repeat (first | refine blk_drewN ?_ _ | refine blk_drew ?_ | refine blk_alloc ?_ _)); refine blk_far ?_ NB213_226.out _; (with_reducible repeat (first | refine blk_drewN ?_ _ | refine blk_drew ?_ | refine blk_alloc ?_ _)); refine blk_far ?_ NB213_226.out _; (with_reducible repeat (first | refine blk_drewN ?_ _ | refine blk_drew ?_ | refine blk_alloc ?_ _)); refine blk_far ?_ NB213_226.out _; (with_reducible repeat (first | refine blk_drewN ?_ _ | refine blk_drew ?_ | refine blk_alloc ?_ _)); exact BK213.out⟩, ⟨by (with_reducible repeat (first | refine blk_drewN ?_ _ | refine blk_drew ?_ | refine blk_alloc ?_ _)); refine blk_put (cs := #[.int .i64 t218, .int .i64 t219, .int .i64 t220, .int .i64 0]) ?_ 3 _ rfl; (with_reducible repeat (first | refine blk_drewN ?_ _ | refine blk_drew ?_ | refine blk_alloc ?_ _)); refine blk_put (cs := #[.int .i64 t218, .int .i64 t219, .int .i64 0, .int .i64 0]) ?_ 2 _ rfl; (with_reducible repeat (first | refine blk_drewN ?_ _ | refine blk_drew ?_ | refine blk_alloc ?_ _)); refine blk_put (cs := #[.int .i64 t218, .int .i64 0, .int .i64 0, .int .i64 0]) ?_ 1 _ rfl; (with_reducible repeat (first | refine blk_drewN ?_ _ | refine blk_drew ?_ | refine blk_alloc ?_ _)); refine blk_put (cs := #[.int .i64 0, .int .i64 0, .int .i64 0, .int .i64 0]) ?_ 0 _ rfl; (with_reducible repeat (first | refine blk_drewN ?_ _ | refine blk_drew ?_ | refine blk_alloc ?_ _)); exact BK226.out⟩, ⟨by repeat (first | (with_reducible first | exact HB.out | apply below_alloc | apply pw_below_drewN | apply below_drew1 | refine below_set ?_ GE187.out | refine below_set ?_ GE199.out | refine below_set ?_ GE213.out | refine below_set ?_ GE226.out) | exact HB.out)⟩⟩}}}
 {
 replace c48 := Bool.eq_false_iff.mpr c48
 subst c48
 have H1 : (laws_FnBuckets.j0 k t188 t195 t200 t209 t222 true t183 t184 t185 t186) = some r := by rw [if_neg (show ¬ (false = true) by decide)] at H; exact H
 clear H
 have H := H1
 clear H1
 have H' := Aside0.mk H
 clear H
 go_wp2
 go_meet
 case rel => exact ⟨_, (true), s1_, H', ⟨by first | omega | exact Nat.le_refl _⟩, ⟨by (with_reducible repeat (first | apply Kd.R_alloc | apply Kd.R_drewN | apply Kd.R_drew)); exact Kd.R_mono (Kd.R_far (p := ⟨gb226, 3, none⟩) (Kd.R_far (p := ⟨gb226, 2, none⟩) (Kd.R_far (p := ⟨gb226, 1, none⟩) (Kd.R_far (p := ⟨gb226, 0, none⟩) (Kd.R_types HO190.out BK226.out (by decide)) (fun _ hk => hk.2) (.int .i64 t218)) (fun _ hk => hk.2) (.int .i64 t219)) (fun _ hk => hk.2) (.int .i64 t220)) (fun _ hk => hk.2) (.int .i64 t221)) (fun _ hk => trivial)⟩, ⟨by (with_reducible repeat (first | apply Kd.R_alloc | apply Kd.R_drewN | apply Kd.R_drew)); exact Kd.R_mono (Kd.R_far (p := ⟨gb226, 3, none⟩) (Kd.R_far (p := ⟨gb226, 2, none⟩) (Kd.R_far (p := ⟨gb226, 1, none⟩) (Kd.R_far (p := ⟨gb226, 0, none⟩) (Kd.R_types HO197.out BK226.out (by decide)) (fun _ hk => hk.2) (.int .i64 t218)) (fun _ hk => hk.2) (.int .i64 t219)) (fun _ hk => hk.2) (.int .i64 t220)) (fun _ hk => hk.2) (.int .i64 t221)) (fun _ hk => ⟨hk.1.1, hk.1.2⟩)⟩, ⟨by (with_reducible repeat (first | apply Kd.R_alloc | apply Kd.R_drewN | apply Kd.R_drew)); exact Kd.R_mono (Kd.R_far (p := ⟨gb226, 3, none⟩) (Kd.R_far (p := ⟨gb226, 2, none⟩) (Kd.R_far (p := ⟨gb226, 1, none⟩) (Kd.R_far (p := ⟨gb226, 0, none⟩) (Kd.R_types HO211.out BK226.out (by decide)) (fun _ hk => hk.2) (.int .i64 t218)) (fun _ hk => hk.2) (.int .i64 t219)) (fun _ hk => hk.2) (.int .i64 t220)) (fun _ hk => hk.2) (.int .i64 t221)) (fun _ hk => ⟨hk.1.1, hk.1.2⟩)⟩, ⟨by (with_reducible repeat (first | apply Kd.R_alloc | apply Kd.R_drewN | apply Kd.R_drew)); exact Kd.R_mono (Kd.R_far (p := ⟨gb226, 3, none⟩) (Kd.R_far (p := ⟨gb226, 2, none⟩) (Kd.R_far (p := ⟨gb226, 1, none⟩) (Kd.R_far (p := ⟨gb226, 0, none⟩) (Kd.R_types HO224.out BK226.out (by decide)) (fun _ hk => hk.2) (.int .i64 t218)) (fun _ hk => hk.2) (.int .i64 t219)) (fun _ hk => hk.2) (.int .i64 t220)) (fun _ hk => hk.2) (.int .i64 t221)) (fun _ hk => ⟨hk.1.1, hk.1.2⟩)⟩, ⟨by (with_reducible repeat (first | refine blk_drewN ?_ _ | refine blk_drew ?_ | refine blk_alloc ?_ _)); refine blk_far ?_ NB187_226.out _; (with_reducible repeat (first | refine blk_drewN ?_ _ | refine blk_drew ?_ | refine blk_alloc ?_ _)); refine blk_far ?_ NB187_226.out _; (with_reducible repeat (first | refine blk_drewN ?_ _ | refine blk_drew ?_ | refine blk_alloc ?_ _)); refine blk_far ?_ NB187_226.out _; (with_reducible repeat (first | refine blk_drewN ?_ _ | refine blk_drew ?_ | refine blk_alloc ?_ _)); refine blk_far ?_ NB187_226.out _; (with_reducible repeat (first | refine blk_drewN ?_ _ | refine blk_drew ?_ | refine blk_alloc ?_ _)); exact BK187.out⟩, ⟨by (with_reducible repeat (first | refine blk_drewN ?_ _ | refine blk_drew ?_ | refine blk_alloc ?_ _)); refine blk_far ?_ NB199_226.out _; (with_reducible repeat (first | refine blk_drewN ?_ _ | refine blk_drew ?_ | refine blk_alloc ?_ _)); refine blk_far ?_ NB199_226.out _; (with_reducible repeat (first | refine blk_drewN ?_ _ | refine blk_drew ?_ | refine blk_alloc ?_ _)); refine blk_far ?_ NB199_226.out _; (with_reducible repeat (first | refine blk_drewN ?_ _ | refine blk_drew ?_ | refine blk_alloc ?_ _)); refine blk_far ?_ NB199_226.out _; (with_reducible repeat (first | refine blk_drewN ?_ _ | refine blk_drew ?_ | refine blk_alloc ?_ _)); exact BK199.out⟩, ⟨by (with_reducible repeat (first | refine blk_drewN ?_ _ | refine blk_drew ?_ | refine blk_alloc ?_ _)); refine blk_far ?_ NB213_226.out _; (with_reducible repeat (first | refine blk_drewN ?_ _ | refine blk_drew ?_ | refine blk_alloc ?_ _)); refine blk_far ?_ NB213_226.out _; (with_reducible repeat (first | refine blk_drewN ?_ _ | refine blk_drew ?_ | refine blk_alloc ?_ _)); refine blk_far ?_ NB213_226.out _; (with_reducible repeat (first | refine blk_drewN ?_ _ | refine blk_drew ?_ | refine blk_alloc ?_ _)); refine blk_far ?_ NB213_226.out _; (with_reducible repeat (first | refine blk_drewN ?_ _ | refine blk_drew ?_ | refine blk_alloc ?_ _)); exact BK213.out⟩, ⟨by (with_reducible repeat (first | refine blk_drewN ?_ _ | refine blk_drew ?_ | refine blk_alloc ?_ _)); refine blk_put (cs := #[.int .i64 t218, .int .i64 t219, .int .i64 t220, .int .i64 0]) ?_ 3 _ rfl; (with_reducible repeat (first | refine blk_drewN ?_ _ | refine blk_drew ?_ | refine blk_alloc ?_ _)); refine blk_put (cs := #[.int .i64 t218, .int .i64 t219, .int .i64 0, .int .i64 0]) ?_ 2 _ rfl; (with_reducible repeat (first | refine blk_drewN ?_ _ | refine blk_drew ?_ | refine blk_alloc ?_ _)); refine blk_put (cs := #[.int .i64 t218, .int .i64 0, .int .i64 0, .int .i64 0]) ?_ 1 _ rfl; (with_reducible repeat (first | refine blk_drewN ?_ _ | refine blk_drew ?_ | refine blk_alloc ?_ _)); refine blk_put (cs := #[.int .i64 0, .int .i64 0, .int .i64 0, .int .i64 0]) ?_ 0 _ rfl; (with_reducible repeat (first | refine blk_drewN ?_ _ | refine blk_drew ?_ | refine blk_alloc ?_ _)); exact BK226.out⟩, ⟨by repeat (first | (with_reducible first | exact HB.out | apply below_alloc | apply pw_below_drewN | apply below_drew1 | refine below_set ?_ GE187.out | refine below_set ?_ GE199.out | refine below_set ?_ GE213.out | refine below_set ?_ GE226.out) | exact HB.out)⟩⟩}}
 {
 replace c47 := Bool.eq_false_iff.mpr c47
 subst c47
 have H1 : (laws_FnBuckets.j0 k t188 t195 t200 t209 t222 true t183 t184 t185 t186) = some r := by rw [if_neg (show ¬ (false = true) by decide)] at H; exact H
 clear H
 have H := H1
 clear H1
 have H' := Aside0.mk H
 clear H
 go_wp2
 go_meet
 case rel => exact ⟨_, (true), s1_, H', ⟨by first | omega | exact Nat.le_refl _⟩, ⟨by (with_reducible repeat (first | apply Kd.R_alloc | apply Kd.R_drewN | apply Kd.R_drew)); exact Kd.R_mono (Kd.R_far (p := ⟨gb226, 3, none⟩) (Kd.R_far (p := ⟨gb226, 2, none⟩) (Kd.R_far (p := ⟨gb226, 1, none⟩) (Kd.R_far (p := ⟨gb226, 0, none⟩) (Kd.R_types HO190.out BK226.out (by decide)) (fun _ hk => hk.2) (.int .i64 t218)) (fun _ hk => hk.2) (.int .i64 t219)) (fun _ hk => hk.2) (.int .i64 t220)) (fun _ hk => hk.2) (.int .i64 t221)) (fun _ hk => trivial)⟩, ⟨by (with_reducible repeat (first | apply Kd.R_alloc | apply Kd.R_drewN | apply Kd.R_drew)); exact Kd.R_mono (Kd.R_far (p := ⟨gb226, 3, none⟩) (Kd.R_far (p := ⟨gb226, 2, none⟩) (Kd.R_far (p := ⟨gb226, 1, none⟩) (Kd.R_far (p := ⟨gb226, 0, none⟩) (Kd.R_types HO197.out BK226.out (by decide)) (fun _ hk => hk.2) (.int .i64 t218)) (fun _ hk => hk.2) (.int .i64 t219)) (fun _ hk => hk.2) (.int .i64 t220)) (fun _ hk => hk.2) (.int .i64 t221)) (fun _ hk => ⟨hk.1.1, hk.1.2⟩)⟩, ⟨by (with_reducible repeat (first | apply Kd.R_alloc | apply Kd.R_drewN | apply Kd.R_drew)); exact Kd.R_mono (Kd.R_far (p := ⟨gb226, 3, none⟩) (Kd.R_far (p := ⟨gb226, 2, none⟩) (Kd.R_far (p := ⟨gb226, 1, none⟩) (Kd.R_far (p := ⟨gb226, 0, none⟩) (Kd.R_types HO211.out BK226.out (by decide)) (fun _ hk => hk.2) (.int .i64 t218)) (fun _ hk => hk.2) (.int .i64 t219)) (fun _ hk => hk.2) (.int .i64 t220)) (fun _ hk => hk.2) (.int .i64 t221)) (fun _ hk => ⟨hk.1.1, hk.1.2⟩)⟩, ⟨by (with_reducible repeat (first | apply Kd.R_alloc | apply Kd.R_drewN | apply Kd.R_drew)); exact Kd.R_mono (Kd.R_far (p := ⟨gb226, 3, none⟩) (Kd.R_far (p := ⟨gb226, 2, none⟩) (Kd.R_far (p := ⟨gb226, 1, none⟩) (Kd.R_far (p := ⟨gb226, 0, none⟩) (Kd.R_types HO224.out BK226.out (by decide)) (fun _ hk => hk.2) (.int .i64 t218)) (fun _ hk => hk.2) (.int .i64 t219)) (fun _ hk => hk.2) (.int .i64 t220)) (fun _ hk => hk.2) (.int .i64 t221)) (fun _ hk => ⟨hk.1.1, hk.1.2⟩)⟩, ⟨by (with_reducible repeat (first | refine blk_drewN ?_ _ | refine blk_drew ?_ | refine blk_alloc ?_ _)); refine blk_far ?_ NB187_226.out _; (with_reducible repeat (first | refine blk_drewN ?_ _ | refine blk_drew ?_ | refine blk_alloc ?_ _)); refine blk_far ?_ NB187_226.out _; (with_reducible repeat (first | refine blk_drewN ?_ _ | refine blk_drew ?_ | refine blk_alloc ?_ _)); refine blk_far ?_ NB187_226.out _; (with_reducible repeat (first | refine blk_drewN ?_ _ | refine blk_drew ?_ | refine blk_alloc ?_ _)); refine blk_far ?_ NB187_226.out _; (with_reducible repeat (first | refine blk_drewN ?_ _ | refine blk_drew ?_ | refine blk_alloc ?_ _)); exact BK187.out⟩, ⟨by (with_reducible repeat (first | refine blk_drewN ?_ _ | refine blk_drew ?_ | refine blk_alloc ?_ _)); refine blk_far ?_ NB199_226.out _; (with_reducible repeat (first | refine blk_drewN ?_ _ | refine blk_drew ?_ | refine blk_alloc ?_ _)); refine blk_far ?_ NB199_226.out _; (with_reducible repeat (first | refine blk_drewN ?_ _ | refine blk_drew ?_ | refine blk_alloc ?_ _)); refine blk_far ?_ NB199_226.out _; (with_reducible repeat (first | refine blk_drewN ?_ _ | refine blk_drew ?_ | refine blk_alloc ?_ _)); refine blk_far ?_ NB199_226.out _; (with_reducible repeat (first | refine blk_drewN ?_ _ | refine blk_drew ?_ | refine blk_alloc ?_ _)); exact BK199.out⟩, ⟨by (with_reducible repeat (first | refine blk_drewN ?_ _ | refine blk_drew ?_ | refine blk_alloc ?_ _)); refine blk_far ?_ NB213_226.out _; (with_reducible repeat (first | refine blk_drewN ?_ _ | refine blk_drew ?_ | refine blk_alloc ?_ _)); refine blk_far ?_ NB213_226.out _; (with_reducible repeat (first | refine blk_drewN ?_ _ | refine blk_drew ?_ | refine blk_alloc ?_ _)); refine blk_far ?_ NB213_226.out _; (with_reducible repeat (first | refine blk_drewN ?_ _ | refine blk_drew ?_ | refine blk_alloc ?_ _)); refine blk_far ?_ NB213_226.out _; (with_reducible repeat (first | refine blk_drewN ?_ _ | refine blk_drew ?_ | refine blk_alloc ?_ _)); exact BK213.out⟩, ⟨by (with_reducible repeat (first | refine blk_drewN ?_ _ | refine blk_drew ?_ | refine blk_alloc ?_ _)); refine blk_put (cs := #[.int .i64 t218, .int .i64 t219, .int .i64 t220, .int .i64 0]) ?_ 3 _ rfl; (with_reducible repeat (first | refine blk_drewN ?_ _ | refine blk_drew ?_ | refine blk_alloc ?_ _)); refine blk_put (cs := #[.int .i64 t218, .int .i64 t219, .int .i64 0, .int .i64 0]) ?_ 2 _ rfl; (with_reducible repeat (first | refine blk_drewN ?_ _ | refine blk_drew ?_ | refine blk_alloc ?_ _)); refine blk_put (cs := #[.int .i64 t218, .int .i64 0, .int .i64 0, .int .i64 0]) ?_ 1 _ rfl; (with_reducible repeat (first | refine blk_drewN ?_ _ | refine blk_drew ?_ | refine blk_alloc ?_ _)); refine blk_put (cs := #[.int .i64 0, .int .i64 0, .int .i64 0, .int .i64 0]) ?_ 0 _ rfl; (with_reducible repeat (first | refine blk_drewN ?_ _ | refine blk_drew ?_ | refine blk_alloc ?_ _)); exact BK226.out⟩, ⟨by repeat (first | (with_reducible first | exact HB.out | apply below_alloc | apply pw_below_drewN | apply below_drew1 | refine below_set ?_ GE187.out | refine below_set ?_ GE199.out | refine below_set ?_ GE213.out | refine below_set ?_ GE226.out) | exact HB.out)⟩⟩}}
 {
 replace c46 := Bool.eq_false_iff.mpr c46
 subst c46
 have H1 : (laws_FnBuckets.j0 k t188 t195 t200 t209 t222 true t183 t184 t185 t186) = some r := by rw [if_neg (show ¬ (false = true) by decide)] at H; exact H
 clear H
 have H := H1
 clear H1
 have H' := Aside0.mk H
 clear H
 go_wp2
 go_meet
 case rel => exact ⟨_, (true), s1_, H', ⟨by first | omega | exact Nat.le_refl _⟩, ⟨by (with_reducible repeat (first | apply Kd.R_alloc | apply Kd.R_drewN | apply Kd.R_drew)); exact Kd.R_mono (Kd.R_far (p := ⟨gb226, 3, none⟩) (Kd.R_far (p := ⟨gb226, 2, none⟩) (Kd.R_far (p := ⟨gb226, 1, none⟩) (Kd.R_far (p := ⟨gb226, 0, none⟩) (Kd.R_types HO190.out BK226.out (by decide)) (fun _ hk => hk.2) (.int .i64 t218)) (fun _ hk => hk.2) (.int .i64 t219)) (fun _ hk => hk.2) (.int .i64 t220)) (fun _ hk => hk.2) (.int .i64 t221)) (fun _ hk => trivial)⟩, ⟨by (with_reducible repeat (first | apply Kd.R_alloc | apply Kd.R_drewN | apply Kd.R_drew)); exact Kd.R_mono (Kd.R_far (p := ⟨gb226, 3, none⟩) (Kd.R_far (p := ⟨gb226, 2, none⟩) (Kd.R_far (p := ⟨gb226, 1, none⟩) (Kd.R_far (p := ⟨gb226, 0, none⟩) (Kd.R_types HO197.out BK226.out (by decide)) (fun _ hk => hk.2) (.int .i64 t218)) (fun _ hk => hk.2) (.int .i64 t219)) (fun _ hk => hk.2) (.int .i64 t220)) (fun _ hk => hk.2) (.int .i64 t221)) (fun _ hk => ⟨hk.1.1, hk.1.2⟩)⟩, ⟨by (with_reducible repeat (first | apply Kd.R_alloc | apply Kd.R_drewN | apply Kd.R_drew)); exact Kd.R_mono (Kd.R_far (p := ⟨gb226, 3, none⟩) (Kd.R_far (p := ⟨gb226, 2, none⟩) (Kd.R_far (p := ⟨gb226, 1, none⟩) (Kd.R_far (p := ⟨gb226, 0, none⟩) (Kd.R_types HO211.out BK226.out (by decide)) (fun _ hk => hk.2) (.int .i64 t218)) (fun _ hk => hk.2) (.int .i64 t219)) (fun _ hk => hk.2) (.int .i64 t220)) (fun _ hk => hk.2) (.int .i64 t221)) (fun _ hk => ⟨hk.1.1, hk.1.2⟩)⟩, ⟨by (with_reducible repeat (first | apply Kd.R_alloc | apply Kd.R_drewN | apply Kd.R_drew)); exact Kd.R_mono (Kd.R_far (p := ⟨gb226, 3, none⟩) (Kd.R_far (p := ⟨gb226, 2, none⟩) (Kd.R_far (p := ⟨gb226, 1, none⟩) (Kd.R_far (p := ⟨gb226, 0, none⟩) (Kd.R_types HO224.out BK226.out (by decide)) (fun _ hk => hk.2) (.int .i64 t218)) (fun _ hk => hk.2) (.int .i64 t219)) (fun _ hk => hk.2) (.int .i64 t220)) (fun _ hk => hk.2) (.int .i64 t221)) (fun _ hk => ⟨hk.1.1, hk.1.2⟩)⟩, ⟨by (with_reducible repeat (first | refine blk_drewN ?_ _ | refine blk_drew ?_ | refine blk_alloc ?_ _)); refine blk_far ?_ NB187_226.out _; (with_reducible repeat (first | refine blk_drewN ?_ _ | refine blk_drew ?_ | refine blk_alloc ?_ _)); refine blk_far ?_ NB187_226.out _; (with_reducible repeat (first | refine blk_drewN ?_ _ | refine blk_drew ?_ | refine blk_alloc ?_ _)); refine blk_far ?_ NB187_226.out _; (with_reducible repeat (first | refine blk_drewN ?_ _ | refine blk_drew ?_ | refine blk_alloc ?_ _)); refine blk_far ?_ NB187_226.out _; (with_reducible repeat (first | refine blk_drewN ?_ _ | refine blk_drew ?_ | refine blk_alloc ?_ _)); exact BK187.out⟩, ⟨by (with_reducible repeat (first | refine blk_drewN ?_ _ | refine blk_drew ?_ | refine blk_alloc ?_ _)); refine blk_far ?_ NB199_226.out _; (with_reducible repeat (first | refine blk_drewN ?_ _ | refine blk_drew ?_ | refine blk_alloc ?_ _)); refine blk_far ?_ NB199_226.out _; (with_reducible repeat (first | refine blk_drewN ?_ _ | refine blk_drew ?_ | refine blk_alloc ?_ _)); refine blk_far ?_ NB199_226.out _; (with_reducible repeat (first | refine blk_drewN ?_ _ | refine blk_drew ?_ | refine blk_alloc ?_ _)); refine blk_far ?_ NB199_226.out _; (with_reducible repeat (first | refine blk_drewN ?_ _ | refine blk_drew ?_ | refine blk_alloc ?_ _)); exact BK199.out⟩, ⟨by (with_reducible repeat (first | refine blk_drewN ?_ _ | refine blk_drew ?_ | refine blk_alloc ?_ _)); refine blk_far ?_ NB213_226.out _; (with_reducible repeat (first | refine blk_drewN ?_ _ | refine blk_drew ?_ | refine blk_alloc ?_ _)); refine blk_far ?_ NB213_226.out _; (with_reducible repeat (first | refine blk_drewN ?_ _ | refine blk_drew ?_ | refine blk_alloc ?_ _)); refine blk_far ?_ NB213_226.out _; (with_reducible repeat (first | refine blk_drewN ?_ _ | refine blk_drew ?_ | refine blk_alloc ?_ _)); refine blk_far ?_ NB213_226.out _; (with_reducible repeat (first | refine blk_drewN ?_ _ | refine blk_drew ?_ | refine blk_alloc ?_ _)); exact BK213.out⟩, ⟨by (with_reducible repeat (first | refine blk_drewN ?_ _ | refine blk_drew ?_ | refine blk_alloc ?_ _)); refine blk_put (cs := #[.int .i64 t218, .int .i64 t219, .int .i64 t220, .int .i64 0]) ?_ 3 _ rfl; (with_reducible repeat (first | refine blk_drewN ?_ _ | refine blk_drew ?_ | refine blk_alloc ?_ _)); refine blk_put (cs := #[.int .i64 t218, .int .i64 t219, .int .i64 0, .int .i64 0]) ?_ 2 _ rfl; (with_reducible repeat (first | refine blk_drewN ?_ _ | refine blk_drew ?_ | refine blk_alloc ?_ _)); refine blk_put (cs := #[.int .i64 t218, .int .i64 0, .int .i64 0, .int .i64 0]) ?_ 1 _ rfl; (with_reducible repeat (first | refine blk_drewN ?_ _ | refine blk_drew ?_ | refine blk_alloc ?_ _)); refine blk_put (cs := #[.int .i64 0, .int .i64 0, .int .i64 0, .int .i64 0]) ?_ 0 _ rfl; (with_reducible repeat (first | refine blk_drewN ?_ _ | refine blk_drew ?_ | refine blk_alloc ?_ _)); exact BK226.out⟩, ⟨by repeat (first | (with_reducible first | exact HB.out | apply below_alloc | apply pw_below_drewN | apply below_drew1 | refine below_set ?_ GE187.out | refine below_set ?_ GE199.out | refine below_set ?_ GE213.out | refine below_set ?_ GE226.out) | exact HB.out)⟩⟩}}
 case rest =>
  skip
  {
 clear HC15
 try clear p2
 try clear c3
 try clear c4
 try clear c5
 try clear c6
 try clear p6
 try clear c7
 try clear c8
 try clear c9
 try clear c30
 try clear c38
 try clear c46
 try clear c47
 try clear c48
 try clear c49
 try clear c49b0
 try clear c50
 try clear c51
 try clear c52
 try clear c54
 try clear c55
 try clear c57
 try clear c57b0
 try clear c57b1
 try clear c57b2
 try clear c58
 try clear c58b0
 try clear c58b1
 try clear c59
 try clear c59b0
 try clear c59b1
 try clear c61
 try clear c62
 try clear c63
 try clear p64
 try clear c65
 try clear c66
 try clear c72
 try clear c73
 try clear c74
 try clear c76
 try clear c77
 try clear c82
 try clear c83
 try clear c84
 try clear c86
 try clear c87
 try clear c91
 try clear c92
 try clear c93
 try clear c95
 try clear c96
 try clear hcz53_0
 try clear hcz53_1
 try clear hcz53_2
 try clear hcz53_3
 try clear hcz56_0
 try clear hcz56_1
 try clear hcz56_2
 try clear hcz56_3
 try clear hcz64_0
 try clear hcz64_1
 try clear hcz64_2
 try clear hcz64_3
 try clear hcz67_0
 try clear hcz67_1
 try clear hcz67_2
 try clear hcz67_3
 try clear hcz75_0
 try clear hcz75_1
 try clear hcz75_2
 try clear hcz75_3
 try clear hcz78_0
 try clear hcz78_1
 try clear hcz78_2
 try clear hcz78_3
 try clear hcz85_0
 try clear hcz85_1
 try clear hcz85_2
 try clear hcz85_3
 try clear hcz88_0
 try clear hcz88_1
 try clear hcz88_2
 try clear hcz88_3
 try clear hcz94_0
 try clear hcz94_1
 try clear hcz94_2
 try clear hcz94_3
 try clear hcz97_0
 try clear hcz97_1
 try clear hcz97_2
 try clear hcz97_3
 try clear hfz53_0
 try clear hfz53_1
 try clear hfz53_2
 try clear hfz53_3
 try clear hfz56_0
 try clear hfz56_1
 try clear hfz56_2
 try clear hfz56_3
 try clear hfz64_0
 try clear hfz64_1
 try clear hfz64_2
 try clear hfz64_3
 try clear hfz67_0
 try clear hfz67_1
 try clear hfz67_2
 try clear hfz67_3
 try clear hfz75_0
 try clear hfz75_1
 try clear hfz75_2
 try clear hfz75_3
 try clear hfz78_0
 try clear hfz78_1
 try clear hfz78_2
 try clear hfz78_3
 try clear hfz85_0
 try clear hfz85_1
 try clear hfz85_2
 try clear hfz85_3
 try clear hfz88_0
 try clear hfz88_1
 try clear hfz88_2
 try clear hfz88_3
 try clear hfz94_0
 try clear hfz94_1
 try clear hfz94_2
 try clear hfz94_3
 try clear hfz97_0
 try clear hfz97_1
 try clear hfz97_2
 try clear hfz97_3
 obtain ⟨kq, x100_14, rfl, HA, HJ14, HO_6, HO_8, HO_12, HO_15, BK187, BK199, BK213, BK226, HB⟩ := hcut
 cases kq with
 | zero => exact absurd HA.out (by simp [laws_FnBuckets.j0])
 | succ kj14 =>
  skip
  {
 have H := HA.out
 clear HA
 simp only [laws_FnBuckets.j0] at H
 by_cases c99 : x100_14 = true
 {
 subst c99
 have H1 : (some false) = some r := by rw [if_pos rfl] at H; exact H
 clear H
 have H := H1
 clear H1
 obtain rfl := Option.some.inj H
 go_wp2
 go_ret
 exact ⟨by first | rfl | (simp [errW_none, errW_some] <;> rfl) | (simp [*, errW_none, errW_some] <;> rfl), by repeat (first | (with_reducible first | exact HB.out | apply below_alloc | apply pw_below_drewN | apply below_drew1 | refine below_set ?_ GE187.out | refine below_set ?_ GE199.out | refine below_set ?_ GE213.out | refine below_set ?_ GE226.out) | exact HB.out)⟩}
 {
 replace c99 := Bool.eq_false_iff.mpr c99
 subst c99
 have H1 : (laws_FnBuckets.l0 kj14 t188 t195 t200 t209 t222 0 t183 t184 t185 t186) = some r := by rw [if_neg (show ¬ (false = true) by decide)] at H; exact H
 clear H
 have H := H1
 clear H1
 have H' := Aside0.mk H
 clear H
 go_wp2
 go_loopg [17] kj14 (fun kq v17 w' => ∃ (x17_2 : Int), v17 = .int .i64 x17_2 ∧ Aside0 (laws_FnBuckets.l0 kq t188 t195 t200 t209 t222 x17_2 t183 t184 t185 t186 = some r) ∧ Aside0 (kq ≤ kj14) ∧ Aside0 (Kd.R (Kd.int .i64) 2 w' w.heap.size (fun _ => True) (.slice Ao21 t188.length co21) t188) ∧ Aside0 (Kd.R Kd.bool 4 w' w.heap.size (fun k_ => some k_ ≠ (v210 : Value).ownBlock ∧ some k_ ≠ (v223 : Value).ownBlock) v196 t195) ∧ Aside0 (Kd.R Kd.bool 4 w' w.heap.size (fun k_ => some k_ ≠ (v196 : Value).ownBlock ∧ some k_ ≠ (v223 : Value).ownBlock) v210 t209) ∧ Aside0 (Kd.R Kd.bool 4 w' w.heap.size (fun k_ => some k_ ≠ (v196 : Value).ownBlock ∧ some k_ ≠ (v210 : Value).ownBlock) v223 t222) ∧ Aside0 (w'.heap[gb187]? = some (.cells #[.int .i64 t183, .int .i64 t184, .int .i64 t185, .int .i64 t186] 25 (0, 0))) ∧ Aside0 (w'.heap[gb199]? = some (.cells #[.int .i64 t191, .int .i64 t192, .int .i64 t193, .int .i64 t194] 25 (0, 0))) ∧ Aside0 (w'.heap[gb213]? = some (.cells #[.int .i64 t205, .int .i64 t206, .int .i64 t207, .int .i64 t208] 25 (0, 0))) ∧ Aside0 (w'.heap[gb226]? = some (.cells #[.int .i64 t218, .int .i64 t219, .int .i64 t220, .int .i64 t221] 25 (0, 0))) ∧ Aside0 (Below w.heap.size w w'))
 case atStart => exact ⟨(0), s1_, H', ⟨Nat.le_refl _⟩, ⟨b2_ HO_6.out⟩, ⟨b2_ HO_8.out⟩, ⟨b2_ HO_12.out⟩, ⟨b2_ HO_15.out⟩, ⟨b1_ BK187.out⟩, ⟨b1_ BK199.out⟩, ⟨b1_ BK213.out⟩, ⟨b1_ BK226.out⟩, ⟨by repeat (first | (with_reducible first | exact HB.out | apply below_alloc | apply pw_below_drewN | apply below_drew1 | refine below_set ?_ GE187.out | refine below_set ?_ GE199.out | refine below_set ?_ GE213.out | refine below_set ?_ GE226.out) | exact HB.out)⟩⟩
 case round =>
  skip
  {
 clear H'
 try clear p2
 try clear c3
 try clear c4
 try clear c5
 try clear c6
 try clear p6
 try clear c7
 try clear c8
 try clear c9
 try clear c30
 try clear c38
 try clear c46
 try clear c47
 try clear c48
 try clear c49
 try clear c49b0
 try clear c50
 try clear c51
 try clear c52
 try clear c54
 try clear c55
 try clear c57
 try clear c57b0
 try clear c57b1
 try clear c57b2
 try clear c58
 try clear c58b0
 try clear c58b1
 try clear c59
 try clear c59b0
 try clear c59b1
 try clear c61
 try clear c62
 try clear c63
 try clear p64
 try clear c65
 try clear c66
 try clear c72
 try clear c73
 try clear c74
 try clear c76
 try clear c77
 try clear c82
 try clear c83
 try clear c84
 try clear c86
 try clear c87
 try clear c91
 try clear c92
 try clear c93
 try clear c95
 try clear c96
 try clear c99
 try clear hcz53_0
 try clear hcz53_1
 try clear hcz53_2
 try clear hcz53_3
 try clear hcz56_0
 try clear hcz56_1
 try clear hcz56_2
 try clear hcz56_3
 try clear hcz64_0
 try clear hcz64_1
 try clear hcz64_2
 try clear hcz64_3
 try clear hcz67_0
 try clear hcz67_1
 try clear hcz67_2
 try clear hcz67_3
 try clear hcz75_0
 try clear hcz75_1
 try clear hcz75_2
 try clear hcz75_3
 try clear hcz78_0
 try clear hcz78_1
 try clear hcz78_2
 try clear hcz78_3
 try clear hcz85_0
 try clear hcz85_1
 try clear hcz85_2
 try clear hcz85_3
 try clear hcz88_0
 try clear hcz88_1
 try clear hcz88_2
 try clear hcz88_3
 try clear hcz94_0
 try clear hcz94_1
 try clear hcz94_2
 try clear hcz94_3
 try clear hcz97_0
 try clear hcz97_1
 try clear hcz97_2
 try clear hcz97_3
 try clear hfz53_0
 try clear hfz53_1
 try clear hfz53_2
 try clear hfz53_3
 try clear hfz56_0
 try clear hfz56_1
 try clear hfz56_2
 try clear hfz56_3
 try clear hfz64_0
 try clear hfz64_1
 try clear hfz64_2
 try clear hfz64_3
 try clear hfz67_0
 try clear hfz67_1
 try clear hfz67_2
 try clear hfz67_3
 try clear hfz75_0
 try clear hfz75_1
 try clear hfz75_2
 try clear hfz75_3
 try clear hfz78_0
 try clear hfz78_1
 try clear hfz78_2
 try clear hfz78_3
 try clear hfz85_0
 try clear hfz85_1
 try clear hfz85_2
 try clear hfz85_3
 try clear hfz88_0
 try clear hfz88_1
 try clear hfz88_2
 try clear hfz88_3
 try clear hfz94_0
 try clear hfz94_1
 try clear hfz94_2
 try clear hfz94_3
 try clear hfz97_0
 try clear hfz97_1
 try clear hfz97_2
 try clear hfz97_3
 try clear p2
 try clear p6
 try clear p64
 obtain ⟨x17_2, rfl, HA, HK2, HO_6, HO_8, HO_12, HO_15, BK187, BK199, BK213, BK226, HB⟩ := hrel
 cases gk with
 | zero => exact absurd HA.out (by simp [laws_FnBuckets.l0])
 | succ k2 =>
  skip
  {
 have H := HA.out
 clear HA
 simp only [laws_FnBuckets.l0] at H
 by_cases c100 : x17_2 < (t188.length : Int)
 {
 rw [if_pos c100] at H
 have c100b0 : decide (x17_2 < (t188.length : Int)) = true := decide_eq_true c100
 clear c100
 have HC101 := Aside0.mk H
 clear H
 go_upto_region 14 with (fail)
 go_cut [138] (fun v138 wc => ∃ (kq : Nat) (x138_100 : Bool), v138 = .bool x138_100 ∧ Aside0 (laws_FnBuckets.j2 kq t188 t195 t200 t209 t222 x17_2 x138_100 t183 t184 t185 t186 = some r) ∧ Aside0 (kq ≤ k2) ∧ Aside0 (Kd.R (Kd.int .i64) 2 wc w.heap.size (fun _ => True) (.slice Ao21 t188.length co21) t188) ∧ Aside0 (Kd.R Kd.bool 4 wc w.heap.size (fun k_ => some k_ ≠ (v210 : Value).ownBlock ∧ some k_ ≠ (v223 : Value).ownBlock) v196 t195) ∧ Aside0 (Kd.R Kd.bool 4 wc w.heap.size (fun k_ => some k_ ≠ (v196 : Value).ownBlock ∧ some k_ ≠ (v223 : Value).ownBlock) v210 t209) ∧ Aside0 (Kd.R Kd.bool 4 wc w.heap.size (fun k_ => some k_ ≠ (v196 : Value).ownBlock ∧ some k_ ≠ (v210 : Value).ownBlock) v223 t222) ∧ Aside0 (wc.heap[gb187]? = some (.cells #[.int .i64 t183, .int .i64 t184, .int .i64 t185, .int .i64 t186] 25 (0, 0))) ∧ Aside0 (wc.heap[gb199]? = some (.cells #[.int .i64 t191, .int .i64 t192, .int .i64 t193, .int .i64 t194] 25 (0, 0))) ∧ Aside0 (wc.heap[gb213]? = some (.cells #[.int .i64 t205, .int .i64 t206, .int .i64 t207, .int .i64 t208] 25 (0, 0))) ∧ Aside0 (wc.heap[gb226]? = some (.cells #[.int .i64 t218, .int .i64 t219, .int .i64 t220, .int .i64 t221] 25 (0, 0))) ∧ Aside0 (Below w.heap.size w wc))
 case first =>
  skip
  {
 have H := HC101.out
 clear HC101
 by_cases c102 : x17_2 < t200
 {
 rw [if_pos c102] at H
 have c102b0 : decide (x17_2 < t200) = true := decide_eq_true c102
 clear c102
 (first | rw [c102b0] | (simp only [i64_w, i32_w]; rw [c102b0]) | skip)
 by_cases c103 : 0 ≤ x17_2
 {
 rw [if_pos c103] at H
 have c103b0 : decide (0 ≤ x17_2) = true := decide_eq_true c103
 clear c103
 by_cases c104 : x17_2 < (t209.length : Int)
 {
 rw [if_pos c104] at H
 have c104b0 : decide (x17_2 < (t209.length : Int)) = true := decide_eq_true c104
 clear c104
 by_cases c105 : x17_2 < (t195.length : Int)
 {
 rw [if_pos c105] at H
 have c105b0 : decide (x17_2 < (t195.length : Int)) = true := decide_eq_true c105
 clear c105
 by_cases c106 : ((rdOf false t209 x17_2) != (rdOf false t195 x17_2)) = true
 {
 rw [if_pos c106] at H
 have c106b0 : ((rdOf false t209 x17_2) != (rdOf false t195 x17_2)) = true := c106
 (try (have c106b1 : decide ((rdOf false t209 x17_2) = (rdOf false t195 x17_2)) = false := by simpa using c106))
 (try (have c106b2 : ((rdOf false t209 x17_2) == (rdOf false t195 x17_2)) = false := by simpa using c106))
 (try (have c106b3 : ¬ ((rdOf false t209 x17_2) = (rdOf false t195 x17_2)) := by simpa using c106))
 clear c106
 have H' := Aside0.mk H
 clear H
 try go_wp2
 have n0_ := Aside0.mk (Kd.R_drew HO_6.out)
 have n1_ := Aside0.mk (Kd.R_drew HO_8.out)
 have n2_ := Aside0.mk (Kd.R_drew HO_12.out)
 have n3_ := Aside0.mk (Kd.R_drew HO_15.out)
 have n4_ := Aside0.mk (blk_drew BK187.out)
 have n5_ := Aside0.mk (blk_drew BK199.out)
 have n6_ := Aside0.mk (blk_drew BK213.out)
 have n7_ := Aside0.mk (blk_drew BK226.out)
 have n8_ := Aside0.mk (below_drew1 HB.out)
 clear HO_6
 clear HO_8
 clear HO_12
 clear HO_15
 clear BK187
 clear BK199
 clear BK213
 clear BK226
 clear HB
 have HO_6 := n0_
 have HO_8 := n1_
 have HO_12 := n2_
 have HO_15 := n3_
 have BK187 := n4_
 have BK199 := n5_
 have BK213 := n6_
 have BK226 := n7_
 have HB := n8_
 clear n0_ n1_ n2_ n3_ n4_ n5_ n6_ n7_ n8_
 obtain ⟨Ao108, co108, eo108⟩ := Kd.R_slice HO_12.out
 (first | subst eo108 | (injection eo108 with f1_ f2_ f3_; have f4_ := f1_.symm; have f5_ := f3_.symm; clear f1_ f2_ f3_; subst f4_; subst f5_))
 have p228 : 0 ≤ (x17_2 : Int) := of_decide_eq_true (by first | (with_reducible assumption) | assumption)
 have q228 : x17_2 < (t209.length : Int) := of_decide_eq_true (by first | (with_reducible assumption) | assumption)
 obtain ⟨ad228, e228, hx228_0⟩ := Kd.at_bool (Kd.R_reads' HO_12.out).2.2 x17_2 p228 q228
 cases e228
 replace p228 := eq_true p228
 replace q228 := eq_true q228
 obtain ⟨Ao109, co109, eo109⟩ := Kd.R_slice HO_8.out
 (first | subst eo109 | (injection eo109 with f1_ f2_ f3_; have f4_ := f1_.symm; have f5_ := f3_.symm; clear f1_ f2_ f3_; subst f4_; subst f5_))
 have p229 : 0 ≤ (x17_2 : Int) := of_decide_eq_true (by first | (with_reducible assumption) | assumption)
 have q229 : x17_2 < (t195.length : Int) := of_decide_eq_true (by first | (with_reducible assumption) | assumption)
 obtain ⟨ad229, e229, hx229_0⟩ := Kd.at_bool (Kd.R_reads' HO_8.out).2.2 x17_2 p229 q229
 cases e229
 replace p229 := eq_true p229
 replace q229 := eq_true q229
 refine start_ (n := 32) (S := fun w' => w'.cell? (ad228.add (x17_2).toNat) = some (.bool (rdOf false t209 x17_2)) ∧ w'.cell? (ad229.add (x17_2).toNat) = some (.bool (rdOf false t195 x17_2))) (ds := []) #[F,F,F,F,F,F,F,F,F,F,F,F,F,F,F,F,F,F,F,F,F,F,F,F,F,F,F,F,F,F,F,F] s2_ rfl rfl ⟨hx228_0, hx229_0⟩ (fun hHeld => ?_); refine with_tabW laws_FnBuckets.tab14 laws_FnBuckets.bits14 (fun HT_ HW_ => ?_)
 generalize wr.drew = w107 at HO_6 HO_8 HO_12 HO_15 BK187 BK199 BK213 BK226 HB hx228_0 hx229_0 hHeld ⊢
 refine pure_ (i := 0) (N := some 107) (v := ?_) (a' := ?_) #[T,F,F,F,F,F,F,F,F,F,F,F,F,F,F,F,F,F,F,F,F,F,F,F,F,F,F,F,F,F,F,F] rfl rfl (any_of HT_.out s2_) (fun _ _ _ h => h) (Or.inl ⟨by rfl, ?_⟩) ?_ ?_
 rotate_left
 {
 intro w'
 go_simp
 with_reducible rfl}
 rotate_left
 · exact p1_
 refine pure_ (i := 1) (N := some 108) (v := ?_) (a' := ?_) #[T,T,F,F,F,F,F,F,F,F,F,F,F,F,F,F,F,F,F,F,F,F,F,F,F,F,F,F,F,F,F,F] rfl rfl (any_of HT_.out s2_) (fun _ _ _ h => h) (Or.inl ⟨by rfl, ?_⟩) ?_ ?_
 rotate_left
 {
 intro w'
 go_simp
 with_reducible rfl}
 rotate_left
 · exact p1_
 refine pure_ (i := 2) (N := some 109) (v := ?_) (a' := ?_) #[T,T,T,F,F,F,F,F,F,F,F,F,F,F,F,F,F,F,F,F,F,F,F,F,F,F,F,F,F,F,F,F] rfl rfl (any_of HT_.out s2_) (fun _ _ _ h => h) (Or.inl ⟨by rfl, ?_⟩) ?_ ?_
 rotate_left
 {
 intro w'
 go_simp
 with_reducible rfl}
 rotate_left
 · exact p1_
 refine pure_ (i := 3) (N := some 110) (v := ?_) (a' := ?_) #[T,T,T,T,F,F,F,F,F,F,F,F,F,F,F,F,F,F,F,F,F,F,F,F,F,F,F,F,F,F,F,F] rfl rfl (any_of HT_.out s2_) (fun _ _ _ h => h) (Or.inl ⟨by rfl, ?_⟩) ?_ ?_
 rotate_left
 {
 intro w'
 go_simp
 with_reducible rfl}
 rotate_left
 · exact p1_
 refine pure_ (i := 4) (N := some 111) (v := ?_) (a' := ?_) #[T,T,T,T,T,F,F,F,F,F,F,F,F,F,F,F,F,F,F,F,F,F,F,F,F,F,F,F,F,F,F,F] rfl rfl (any_of HT_.out s2_) (fun _ _ _ h => h) (Or.inl ⟨by rfl, ?_⟩) ?_ ?_
 rotate_left
 {
 intro w'
 go_simp
 with_reducible rfl}
 rotate_left
 · exact p1_
 refine pure_ (i := 5) (N := some 112) (v := ?_) (a' := ?_) #[T,T,T,T,T,T,F,F,F,F,F,F,F,F,F,F,F,F,F,F,F,F,F,F,F,F,F,F,F,F,F,F] rfl rfl (any_of HT_.out s2_) (fun _ _ _ h => h) (Or.inl ⟨by rfl, ?_⟩) ?_ ?_
 rotate_left
 {
 intro w'
 go_simp
 with_reducible rfl}
 rotate_left
 · exact p1_
 refine pure_ (i := 6) (N := some 113) (v := ?_) (a' := ?_) #[T,T,T,T,T,T,T,F,F,F,F,F,F,F,F,F,F,F,F,F,F,F,F,F,F,F,F,F,F,F,F,F] rfl rfl (any_of HT_.out s2_) (fun _ _ _ h => h) (Or.inl ⟨by rfl, ?_⟩) ?_ ?_
 rotate_left
 {
 intro w'
 go_simp
 with_reducible rfl}
 rotate_left
 · exact p1_
 refine pure_ (i := 8) (N := some 115) (v := ?_) (a' := ?_) #[T,T,T,T,T,T,T,F,T,F,F,F,F,F,F,F,F,F,F,F,F,F,F,F,F,F,F,F,F,F,F,F] rfl rfl (any_of HT_.out s2_) (fun _ _ _ h => h) (Or.inl ⟨by rfl, ?_⟩) ?_ ?_
 rotate_left
 {
 intro w'
 go_simp
 with_reducible rfl}
 rotate_left
 · exact p1_
 refine pure_ (i := 9) (N := some 116) (v := ?_) (a' := ?_) #[T,T,T,T,T,T,T,F,T,T,F,F,F,F,F,F,F,F,F,F,F,F,F,F,F,F,F,F,F,F,F,F] rfl rfl (any_of HT_.out s2_) (fun _ _ _ h => h) (Or.inl ⟨by rfl, ?_⟩) ?_ ?_
 rotate_left
 {
 intro w'
 go_simp
 with_reducible rfl}
 rotate_left
 · exact p1_
 refine pure_ (i := 10) (N := some 117) (v := ?_) (a' := ?_) #[T,T,T,T,T,T,T,F,T,T,T,F,F,F,F,F,F,F,F,F,F,F,F,F,F,F,F,F,F,F,F,F] rfl rfl (any_of HT_.out s2_) (fun _ _ _ h => h) (Or.inl ⟨by rfl, ?_⟩) ?_ ?_
 rotate_left
 {
 intro w'
 go_simp
 with_reducible rfl}
 rotate_left
 · exact p1_
 refine take_ (i := 7) (N := some 114) (v := ?_) (a' := ?_) #[T,T,T,T,T,T,T,T,T,T,T,F,F,F,F,F,F,F,F,F,F,F,F,F,F,F,F,F,F,F,F,F] rfl rfl (take_ofW HT_.out HW_.out s2_) (fun _ _ _ h => h) (Or.inl ⟨by rfl, ?_⟩) hHeld ?_ ?_
 rotate_left
 {
 rintro w' ⟨s0, s1⟩
 go_simp
 with_reducible rfl}
 rotate_left
 · exact p1_
 refine take_ (i := 11) (N := some 118) (v := ?_) (a' := ?_) #[T,T,T,T,T,T,T,T,T,T,T,T,F,F,F,F,F,F,F,F,F,F,F,F,F,F,F,F,F,F,F,F] rfl rfl (take_ofW HT_.out HW_.out s2_) (fun _ _ _ h => h) (Or.inl ⟨by rfl, ?_⟩) hHeld ?_ ?_
 rotate_left
 {
 rintro w' ⟨s0, s1⟩
 go_simp
 with_reducible rfl}
 rotate_left
 · exact p1_
 refine pure_ (i := 12) (N := some 119) (v := ?_) (a' := ?_) #[T,T,T,T,T,T,T,T,T,T,T,T,T,F,F,F,F,F,F,F,F,F,F,F,F,F,F,F,F,F,F,F] rfl rfl (any_of HT_.out s2_) (fun _ _ _ h => h) (Or.inl ⟨by rfl, ?_⟩) ?_ ?_
 rotate_left
 {
 intro w'
 go_simp
 with_reducible rfl}
 rotate_left
 · exact p1_
 refine pure_ (i := 13) (N := some 120) (v := ?_) (a' := ?_) #[T,T,T,T,T,T,T,T,T,T,T,T,T,T,F,F,F,F,F,F,F,F,F,F,F,F,F,F,F,F,F,F] rfl rfl (any_of HT_.out s2_) (fun _ _ _ h => h) (Or.inl ⟨by rfl, ?_⟩) ?_ ?_
 rotate_left
 {
 intro w'
 go_simp
 with_reducible rfl}
 rotate_left
 · exact p1_
 refine pure_ (i := 14) (N := some 121) (v := ?_) (a' := ?_) #[T,T,T,T,T,T,T,T,T,T,T,T,T,T,T,F,F,F,F,F,F,F,F,F,F,F,F,F,F,F,F,F] rfl rfl (any_of HT_.out s2_) (fun _ _ _ h => h) (Or.inl ⟨by rfl, ?_⟩) ?_ ?_
 rotate_left
 {
 intro w'
 go_simp
 with_reducible rfl}
 rotate_left
 · exact p1_
 refine pure_ (i := 15) (N := some 122) (v := undef) (a' := ?_) #[T,T,T,T,T,T,T,T,T,T,T,T,T,T,T,T,F,F,F,F,F,F,F,F,F,F,F,F,F,F,F,F] rfl rfl (any_of HT_.out s2_) (fun _ _ _ h => h) (Or.inr ⟨by rfl, rfl⟩) ?_ ?_
 rotate_left
 · exact p1_
 refine pure_ (i := 16) (N := some 123) (v := undef) (a' := ?_) #[T,T,T,T,T,T,T,T,T,T,T,T,T,T,T,T,T,F,F,F,F,F,F,F,F,F,F,F,F,F,F,F] rfl rfl (any_of HT_.out s2_) (fun _ _ _ h => h) (Or.inr ⟨by rfl, rfl⟩) ?_ ?_
 rotate_left
 · exact p1_
 refine pure_ (i := 17) (N := some 124) (v := undef) (a' := ?_) #[T,T,T,T,T,T,T,T,T,T,T,T,T,T,T,T,T,T,F,F,F,F,F,F,F,F,F,F,F,F,F,F] rfl rfl (any_of HT_.out s2_) (fun _ _ _ h => h) (Or.inr ⟨by rfl, rfl⟩) ?_ ?_
 rotate_left
 · exact p1_
 refine pure_ (i := 18) (N := some 125) (v := undef) (a' := ?_) #[T,T,T,T,T,T,T,T,T,T,T,T,T,T,T,T,T,T,T,F,F,F,F,F,F,F,F,F,F,F,F,F] rfl rfl (any_of HT_.out s2_) (fun _ _ _ h => h) (Or.inr ⟨by rfl, rfl⟩) ?_ ?_
 rotate_left
 · exact p1_
 refine pure_ (i := 19) (N := some 126) (v := undef) (a' := ?_) #[T,T,T,T,T,T,T,T,T,T,T,T,T,T,T,T,T,T,T,T,F,F,F,F,F,F,F,F,F,F,F,F] rfl rfl (any_of HT_.out s2_) (fun _ _ _ h => h) (Or.inr ⟨by rfl, rfl⟩) ?_ ?_
 rotate_left
 · exact p1_
 refine pure_ (i := 20) (N := some 127) (v := undef) (a' := ?_) #[T,T,T,T,T,T,T,T,T,T,T,T,T,T,T,T,T,T,T,T,T,F,F,F,F,F,F,F,F,F,F,F] rfl rfl (any_of HT_.out s2_) (fun _ _ _ h => h) (Or.inr ⟨by rfl, rfl⟩) ?_ ?_
 rotate_left
 · exact p1_
 refine pure_ (i := 21) (N := some 128) (v := undef) (a' := ?_) #[T,T,T,T,T,T,T,T,T,T,T,T,T,T,T,T,T,T,T,T,T,T,F,F,F,F,F,F,F,F,F,F] rfl rfl (any_of HT_.out s2_) (fun _ _ _ h => h) (Or.inr ⟨by rfl, rfl⟩) ?_ ?_
 rotate_left
 · exact p1_
 refine pure_ (i := 22) (N := some 129) (v := undef) (a' := ?_) #[T,T,T,T,T,T,T,T,T,T,T,T,T,T,T,T,T,T,T,T,T,T,T,F,F,F,F,F,F,F,F,F] rfl rfl (any_of HT_.out s2_) (fun _ _ _ h => h) (Or.inr ⟨by rfl, rfl⟩) ?_ ?_
 rotate_left
 · exact p1_
 refine pure_ (i := 23) (N := some 130) (v := undef) (a' := ?_) #[T,T,T,T,T,T,T,T,T,T,T,T,T,T,T,T,T,T,T,T,T,T,T,T,F,F,F,F,F,F,F,F] rfl rfl (any_of HT_.out s2_) (fun _ _ _ h => h) (Or.inr ⟨by rfl, rfl⟩) ?_ ?_
 rotate_left
 · exact p1_
 refine pure_ (i := 24) (N := some 131) (v := undef) (a' := ?_) #[T,T,T,T,T,T,T,T,T,T,T,T,T,T,T,T,T,T,T,T,T,T,T,T,T,F,F,F,F,F,F,F] rfl rfl (any_of HT_.out s2_) (fun _ _ _ h => h) (Or.inr ⟨by rfl, rfl⟩) ?_ ?_
 rotate_left
 · exact p1_
 refine pure_ (i := 25) (N := some 132) (v := undef) (a' := ?_) #[T,T,T,T,T,T,T,T,T,T,T,T,T,T,T,T,T,T,T,T,T,T,T,T,T,T,F,F,F,F,F,F] rfl rfl (any_of HT_.out s2_) (fun _ _ _ h => h) (Or.inr ⟨by rfl, rfl⟩) ?_ ?_
 rotate_left
 · exact p1_
 refine pure_ (i := 26) (N := some 133) (v := undef) (a' := ?_) #[T,T,T,T,T,T,T,T,T,T,T,T,T,T,T,T,T,T,T,T,T,T,T,T,T,T,T,F,F,F,F,F] rfl rfl (any_of HT_.out s2_) (fun _ _ _ h => h) (Or.inr ⟨by rfl, rfl⟩) ?_ ?_
 rotate_left
 · exact p1_
 refine pure_ (i := 27) (N := some 134) (v := undef) (a' := ?_) #[T,T,T,T,T,T,T,T,T,T,T,T,T,T,T,T,T,T,T,T,T,T,T,T,T,T,T,T,F,F,F,F] rfl rfl (any_of HT_.out s2_) (fun _ _ _ h => h) (Or.inr ⟨by rfl, rfl⟩) ?_ ?_
 rotate_left
 · exact p1_
 refine pure_ (i := 28) (N := some 135) (v := undef) (a' := ?_) #[T,T,T,T,T,T,T,T,T,T,T,T,T,T,T,T,T,T,T,T,T,T,T,T,T,T,T,T,T,F,F,F] rfl rfl (any_of HT_.out s2_) (fun _ _ _ h => h) (Or.inr ⟨by rfl, rfl⟩) ?_ ?_
 rotate_left
 · exact p1_
 refine pure_ (i := 29) (N := some 136) (v := undef) (a' := ?_) #[T,T,T,T,T,T,T,T,T,T,T,T,T,T,T,T,T,T,T,T,T,T,T,T,T,T,T,T,T,T,F,F] rfl rfl (any_of HT_.out s2_) (fun _ _ _ h => h) (Or.inr ⟨by rfl, rfl⟩) ?_ ?_
 rotate_left
 · exact p1_
 refine pure_ (i := 30) (N := some 137) (v := undef) (a' := ?_) #[T,T,T,T,T,T,T,T,T,T,T,T,T,T,T,T,T,T,T,T,T,T,T,T,T,T,T,T,T,T,T,F] rfl rfl (any_of HT_.out s2_) (fun _ _ _ h => h) (Or.inr ⟨by rfl, rfl⟩) ?_ ?_
 rotate_left
 · exact p1_
 refine pure_ (i := 31) (N := some 138) (v := ?_) (a' := ?_) #[T,T,T,T,T,T,T,T,T,T,T,T,T,T,T,T,T,T,T,T,T,T,T,T,T,T,T,T,T,T,T,T] rfl rfl (any_of HT_.out s2_) (fun _ _ _ h => h) (Or.inl ⟨by rfl, ?_⟩) ?_ ?_
 rotate_left
 {
 intro w'
 go_simp
 with_reducible rfl}
 rotate_left
 · exact p1_
 refine done_ (done_of HT_.out s2_) ?_
 try go_wp2
 go_meet
 case rel => exact ⟨_, (true), s1_, H', ⟨by have := HJ14.out; have := HK2.out; first | omega | exact Nat.le_refl _⟩, ⟨b2_ HO_6.out⟩, ⟨b2_ HO_8.out⟩, ⟨b2_ HO_12.out⟩, ⟨b2_ HO_15.out⟩, ⟨b1_ BK187.out⟩, ⟨b1_ BK199.out⟩, ⟨b1_ BK213.out⟩, ⟨b1_ BK226.out⟩, ⟨by repeat (first | (with_reducible first | exact HB.out | apply below_alloc | apply pw_below_drewN | apply below_drew1 | refine below_set ?_ GE187.out | refine below_set ?_ GE199.out | refine below_set ?_ GE213.out | refine below_set ?_ GE226.out) | exact HB.out)⟩⟩}
 {
 rw [if_neg c106] at H
 have c106b0 : ((rdOf false t209 x17_2) != (rdOf false t195 x17_2)) = false := by simpa using c106
 (try (have c106b1 : decide ((rdOf false t209 x17_2) = (rdOf false t195 x17_2)) = true := by simpa using c106))
 (try (have c106b2 : ((rdOf false t209 x17_2) == (rdOf false t195 x17_2)) = true := by simpa using c106))
 clear c106
 by_cases c110 : x17_2 ≥ t200
 {
 rw [if_pos c110] at H
 have c110b0 : decide (t200 ≤ x17_2) = true := decide_eq_true c110
 clear c110
 obtain ⟨ji111, hji111⟩ : ∃ j_ : Int, (wrap64 (x17_2 - t200)) = j_ := ⟨_, rfl⟩
 replace H : (if 0 ≤ (ji111) then (if (ji111) < (t222.length : Int) then (laws_FnBuckets.j2 k2 t188 t195 t200 t209 t222 x17_2 ((rdOf false t222 (ji111)) != (rdOf false t195 x17_2)) t183 t184 t185 t186) else (none)) else (none)) = some r := by first | (rw [hji111] at H; exact H) | (simp only [hji111] at H ⊢; exact H)
 have hji111w : (IntKind.i64.wrap (x17_2 - t200)) = ji111 := (i64_w _).trans hji111
 by_cases c112 : 0 ≤ (ji111)
 {
 rw [if_pos c112] at H
 have c112b0 : decide (0 ≤ (ji111)) = true := decide_eq_true c112
 clear c112
 by_cases c113 : (ji111) < (t222.length : Int)
 {
 rw [if_pos c113] at H
 have c113b0 : decide ((ji111) < (t222.length : Int)) = true := decide_eq_true c113
 clear c113
 have H' := Aside0.mk H
 clear H
 try go_wp2
 have n0_ := Aside0.mk (Kd.R_drew HO_6.out)
 have n1_ := Aside0.mk (Kd.R_drew HO_8.out)
 have n2_ := Aside0.mk (Kd.R_drew HO_12.out)
 have n3_ := Aside0.mk (Kd.R_drew HO_15.out)
 have n4_ := Aside0.mk (blk_drew BK187.out)
 have n5_ := Aside0.mk (blk_drew BK199.out)
 have n6_ := Aside0.mk (blk_drew BK213.out)
 have n7_ := Aside0.mk (blk_drew BK226.out)
 have n8_ := Aside0.mk (below_drew1 HB.out)
 clear HO_6
 clear HO_8
 clear HO_12
 clear HO_15
 clear BK187
 clear BK199
 clear BK213
 clear BK226
 clear HB
 have HO_6 := n0_
 have HO_8 := n1_
 have HO_12 := n2_
 have HO_15 := n3_
 have BK187 := n4_
 have BK199 := n5_
 have BK213 := n6_
 have BK226 := n7_
 have HB := n8_
 clear n0_ n1_ n2_ n3_ n4_ n5_ n6_ n7_ n8_
 obtain ⟨Ao115, co115, eo115⟩ := Kd.R_slice HO_12.out
 (first | subst eo115 | (injection eo115 with f1_ f2_ f3_; have f4_ := f1_.symm; have f5_ := f3_.symm; clear f1_ f2_ f3_; subst f4_; subst f5_))
 have p228 : 0 ≤ (x17_2 : Int) := of_decide_eq_true (by first | (with_reducible assumption) | assumption)
 have q228 : x17_2 < (t209.length : Int) := of_decide_eq_true (by first | (with_reducible assumption) | assumption)
 obtain ⟨ad228, e228, hx228_0⟩ := Kd.at_bool (Kd.R_reads' HO_12.out).2.2 x17_2 p228 q228
 cases e228
 replace p228 := eq_true p228
 replace q228 := eq_true q228
 obtain ⟨Ao116, co116, eo116⟩ := Kd.R_slice HO_8.out
 (first | subst eo116 | (injection eo116 with f1_ f2_ f3_; have f4_ := f1_.symm; have f5_ := f3_.symm; clear f1_ f2_ f3_; subst f4_; subst f5_))
 have p229 : 0 ≤ (x17_2 : Int) := of_decide_eq_true (by first | (with_reducible assumption) | assumption)
 have q229 : x17_2 < (t195.length : Int) := of_decide_eq_true (by first | (with_reducible assumption) | assumption)
 obtain ⟨ad229, e229, hx229_0⟩ := Kd.at_bool (Kd.R_reads' HO_8.out).2.2 x17_2 p229 q229
 cases e229
 replace p229 := eq_true p229
 replace q229 := eq_true q229
 obtain ⟨Ao117, co117, eo117⟩ := Kd.R_slice HO_15.out
 (first | subst eo117 | (injection eo117 with f1_ f2_ f3_; have f4_ := f1_.symm; have f5_ := f3_.symm; clear f1_ f2_ f3_; subst f4_; subst f5_))
 have p230 : 0 ≤ ((ji111) : Int) := of_decide_eq_true (by first | (with_reducible assumption) | assumption)
 have q230 : (ji111) < (t222.length : Int) := of_decide_eq_true (by first | (with_reducible assumption) | assumption)
 obtain ⟨ad230, e230, hx230_0⟩ := Kd.at_bool (Kd.R_reads' HO_15.out).2.2 (ji111) p230 q230
 cases e230
 replace p230 := eq_true p230
 replace q230 := eq_true q230
 have p231 : 0 ≤ (x17_2 : Int) := of_decide_eq_true (by first | (with_reducible assumption) | assumption)
 have q231 : x17_2 < (t195.length : Int) := of_decide_eq_true (by first | (with_reducible assumption) | assumption)
 obtain ⟨ad231, e231, hx231_0⟩ := Kd.at_bool (Kd.R_reads' HO_8.out).2.2 x17_2 p231 q231
 obtain rfl : ad229 = ad231 := (by injection e231)
 replace p231 := eq_true p231
 replace q231 := eq_true q231
 refine start_ (n := 32) (S := fun w' => w'.cell? (ad228.add (x17_2).toNat) = some (.bool (rdOf false t209 x17_2)) ∧ w'.cell? (ad229.add (x17_2).toNat) = some (.bool (rdOf false t195 x17_2)) ∧ w'.cell? (ad230.add ((ji111)).toNat) = some (.bool (rdOf false t222 (ji111))) ∧ w'.cell? (ad229.add (x17_2).toNat) = some (.bool (rdOf false t195 x17_2))) (ds := []) #[F,F,F,F,F,F,F,F,F,F,F,F,F,F,F,F,F,F,F,F,F,F,F,F,F,F,F,F,F,F,F,F] s2_ rfl rfl ⟨hx228_0, hx229_0, hx230_0, hx231_0⟩ (fun hHeld => ?_); refine with_tabW laws_FnBuckets.tab14 laws_FnBuckets.bits14 (fun HT_ HW_ => ?_)
 generalize wr.drew = w114 at HO_6 HO_8 HO_12 HO_15 BK187 BK199 BK213 BK226 HB hx228_0 hx229_0 hx230_0 hx231_0 hHeld ⊢
 refine pure_ (i := 0) (N := some 107) (v := ?_) (a' := ?_) #[T,F,F,F,F,F,F,F,F,F,F,F,F,F,F,F,F,F,F,F,F,F,F,F,F,F,F,F,F,F,F,F] rfl rfl (any_of HT_.out s2_) (fun _ _ _ h => h) (Or.inl ⟨by rfl, ?_⟩) ?_ ?_
 rotate_left
 {
 intro w'
 go_simp
 with_reducible rfl}
 rotate_left
 · exact p1_
 refine pure_ (i := 1) (N := some 108) (v := ?_) (a' := ?_) #[T,T,F,F,F,F,F,F,F,F,F,F,F,F,F,F,F,F,F,F,F,F,F,F,F,F,F,F,F,F,F,F] rfl rfl (any_of HT_.out s2_) (fun _ _ _ h => h) (Or.inl ⟨by rfl, ?_⟩) ?_ ?_
 rotate_left
 {
 intro w'
 go_simp
 with_reducible rfl}
 rotate_left
 · exact p1_
 refine pure_ (i := 2) (N := some 109) (v := ?_) (a' := ?_) #[T,T,T,F,F,F,F,F,F,F,F,F,F,F,F,F,F,F,F,F,F,F,F,F,F,F,F,F,F,F,F,F] rfl rfl (any_of HT_.out s2_) (fun _ _ _ h => h) (Or.inl ⟨by rfl, ?_⟩) ?_ ?_
 rotate_left
 {
 intro w'
 go_simp
 with_reducible rfl}
 rotate_left
 · exact p1_
 refine pure_ (i := 3) (N := some 110) (v := ?_) (a' := ?_) #[T,T,T,T,F,F,F,F,F,F,F,F,F,F,F,F,F,F,F,F,F,F,F,F,F,F,F,F,F,F,F,F] rfl rfl (any_of HT_.out s2_) (fun _ _ _ h => h) (Or.inl ⟨by rfl, ?_⟩) ?_ ?_
 rotate_left
 {
 intro w'
 go_simp
 with_reducible rfl}
 rotate_left
 · exact p1_
 refine pure_ (i := 4) (N := some 111) (v := ?_) (a' := ?_) #[T,T,T,T,T,F,F,F,F,F,F,F,F,F,F,F,F,F,F,F,F,F,F,F,F,F,F,F,F,F,F,F] rfl rfl (any_of HT_.out s2_) (fun _ _ _ h => h) (Or.inl ⟨by rfl, ?_⟩) ?_ ?_
 rotate_left
 {
 intro w'
 go_simp
 with_reducible rfl}
 rotate_left
 · exact p1_
 refine pure_ (i := 5) (N := some 112) (v := ?_) (a' := ?_) #[T,T,T,T,T,T,F,F,F,F,F,F,F,F,F,F,F,F,F,F,F,F,F,F,F,F,F,F,F,F,F,F] rfl rfl (any_of HT_.out s2_) (fun _ _ _ h => h) (Or.inl ⟨by rfl, ?_⟩) ?_ ?_
 rotate_left
 {
 intro w'
 go_simp
 with_reducible rfl}
 rotate_left
 · exact p1_
 refine pure_ (i := 6) (N := some 113) (v := ?_) (a' := ?_) #[T,T,T,T,T,T,T,F,F,F,F,F,F,F,F,F,F,F,F,F,F,F,F,F,F,F,F,F,F,F,F,F] rfl rfl (any_of HT_.out s2_) (fun _ _ _ h => h) (Or.inl ⟨by rfl, ?_⟩) ?_ ?_
 rotate_left
 {
 intro w'
 go_simp
 with_reducible rfl}
 rotate_left
 · exact p1_
 refine pure_ (i := 8) (N := some 115) (v := ?_) (a' := ?_) #[T,T,T,T,T,T,T,F,T,F,F,F,F,F,F,F,F,F,F,F,F,F,F,F,F,F,F,F,F,F,F,F] rfl rfl (any_of HT_.out s2_) (fun _ _ _ h => h) (Or.inl ⟨by rfl, ?_⟩) ?_ ?_
 rotate_left
 {
 intro w'
 go_simp
 with_reducible rfl}
 rotate_left
 · exact p1_
 refine pure_ (i := 9) (N := some 116) (v := ?_) (a' := ?_) #[T,T,T,T,T,T,T,F,T,T,F,F,F,F,F,F,F,F,F,F,F,F,F,F,F,F,F,F,F,F,F,F] rfl rfl (any_of HT_.out s2_) (fun _ _ _ h => h) (Or.inl ⟨by rfl, ?_⟩) ?_ ?_
 rotate_left
 {
 intro w'
 go_simp
 with_reducible rfl}
 rotate_left
 · exact p1_
 refine pure_ (i := 10) (N := some 117) (v := ?_) (a' := ?_) #[T,T,T,T,T,T,T,F,T,T,T,F,F,F,F,F,F,F,F,F,F,F,F,F,F,F,F,F,F,F,F,F] rfl rfl (any_of HT_.out s2_) (fun _ _ _ h => h) (Or.inl ⟨by rfl, ?_⟩) ?_ ?_
 rotate_left
 {
 intro w'
 go_simp
 with_reducible rfl}
 rotate_left
 · exact p1_
 refine take_ (i := 7) (N := some 114) (v := ?_) (a' := ?_) #[T,T,T,T,T,T,T,T,T,T,T,F,F,F,F,F,F,F,F,F,F,F,F,F,F,F,F,F,F,F,F,F] rfl rfl (take_ofW HT_.out HW_.out s2_) (fun _ _ _ h => h) (Or.inl ⟨by rfl, ?_⟩) hHeld ?_ ?_
 rotate_left
 {
 rintro w' ⟨s0, s1, s2, s3⟩
 go_simp
 with_reducible rfl}
 rotate_left
 · exact p1_
 refine take_ (i := 11) (N := some 118) (v := ?_) (a' := ?_) #[T,T,T,T,T,T,T,T,T,T,T,T,F,F,F,F,F,F,F,F,F,F,F,F,F,F,F,F,F,F,F,F] rfl rfl (take_ofW HT_.out HW_.out s2_) (fun _ _ _ h => h) (Or.inl ⟨by rfl, ?_⟩) hHeld ?_ ?_
 rotate_left
 {
 rintro w' ⟨s0, s1, s2, s3⟩
 go_simp
 with_reducible rfl}
 rotate_left
 · exact p1_
 refine pure_ (i := 12) (N := some 119) (v := ?_) (a' := ?_) #[T,T,T,T,T,T,T,T,T,T,T,T,T,F,F,F,F,F,F,F,F,F,F,F,F,F,F,F,F,F,F,F] rfl rfl (any_of HT_.out s2_) (fun _ _ _ h => h) (Or.inl ⟨by rfl, ?_⟩) ?_ ?_
 rotate_left
 {
 intro w'
 go_simp
 with_reducible rfl}
 rotate_left
 · exact p1_
 refine pure_ (i := 13) (N := some 120) (v := ?_) (a' := ?_) #[T,T,T,T,T,T,T,T,T,T,T,T,T,T,F,F,F,F,F,F,F,F,F,F,F,F,F,F,F,F,F,F] rfl rfl (any_of HT_.out s2_) (fun _ _ _ h => h) (Or.inl ⟨by rfl, ?_⟩) ?_ ?_
 rotate_left
 {
 intro w'
 go_simp
 with_reducible rfl}
 rotate_left
 · exact p1_
 refine pure_ (i := 14) (N := some 121) (v := ?_) (a' := ?_) #[T,T,T,T,T,T,T,T,T,T,T,T,T,T,T,F,F,F,F,F,F,F,F,F,F,F,F,F,F,F,F,F] rfl rfl (any_of HT_.out s2_) (fun _ _ _ h => h) (Or.inl ⟨by rfl, ?_⟩) ?_ ?_
 rotate_left
 {
 intro w'
 go_simp
 with_reducible rfl}
 rotate_left
 · exact p1_
 refine pure_ (i := 15) (N := some 122) (v := ?_) (a' := ?_) #[T,T,T,T,T,T,T,T,T,T,T,T,T,T,T,T,F,F,F,F,F,F,F,F,F,F,F,F,F,F,F,F] rfl rfl (any_of HT_.out s2_) (fun _ _ _ h => h) (Or.inl ⟨by rfl, ?_⟩) ?_ ?_
 rotate_left
 {
 intro w'
 go_simp
 with_reducible rfl}
 rotate_left
 · exact p1_
 refine pure_ (i := 16) (N := some 123) (v := ?_) (a' := ?_) #[T,T,T,T,T,T,T,T,T,T,T,T,T,T,T,T,T,F,F,F,F,F,F,F,F,F,F,F,F,F,F,F] rfl rfl (any_of HT_.out s2_) (fun _ _ _ h => h) (Or.inl ⟨by rfl, ?_⟩) ?_ ?_
 rotate_left
 {
 intro w'
 go_simp
 with_reducible rfl}
 rotate_left
 · exact p1_
 refine pure_ (i := 17) (N := some 124) (v := ?_) (a' := ?_) #[T,T,T,T,T,T,T,T,T,T,T,T,T,T,T,T,T,T,F,F,F,F,F,F,F,F,F,F,F,F,F,F] rfl rfl (any_of HT_.out s2_) (fun _ _ _ h => h) (Or.inl ⟨by rfl, ?_⟩) ?_ ?_
 rotate_left
 {
 intro w'
 go_simp
 with_reducible rfl}
 rotate_left
 · exact p1_
 refine pure_ (i := 18) (N := some 125) (v := ?_) (a' := ?_) #[T,T,T,T,T,T,T,T,T,T,T,T,T,T,T,T,T,T,T,F,F,F,F,F,F,F,F,F,F,F,F,F] rfl rfl (any_of HT_.out s2_) (fun _ _ _ h => h) (Or.inl ⟨by rfl, ?_⟩) ?_ ?_
 rotate_left
 {
 intro w'
 go_simp
 with_reducible rfl}
 rotate_left
 · exact p1_
 refine pure_ (i := 19) (N := some 126) (v := ?_) (a' := ?_) #[T,T,T,T,T,T,T,T,T,T,T,T,T,T,T,T,T,T,T,T,F,F,F,F,F,F,F,F,F,F,F,F] rfl rfl (any_of HT_.out s2_) (fun _ _ _ h => h) (Or.inl ⟨by rfl, ?_⟩) ?_ ?_
 rotate_left
 {
 intro w'
 go_simp
 with_reducible rfl}
 rotate_left
 · exact p1_
 refine pure_ (i := 20) (N := some 127) (v := ?_) (a' := ?_) #[T,T,T,T,T,T,T,T,T,T,T,T,T,T,T,T,T,T,T,T,T,F,F,F,F,F,F,F,F,F,F,F] rfl rfl (any_of HT_.out s2_) (fun _ _ _ h => h) (Or.inl ⟨by rfl, ?_⟩) ?_ ?_
 rotate_left
 {
 intro w'
 go_simp
 with_reducible rfl}
 rotate_left
 · exact p1_
 refine pure_ (i := 21) (N := some 128) (v := ?_) (a' := ?_) #[T,T,T,T,T,T,T,T,T,T,T,T,T,T,T,T,T,T,T,T,T,T,F,F,F,F,F,F,F,F,F,F] rfl rfl (any_of HT_.out s2_) (fun _ _ _ h => h) (Or.inl ⟨by rfl, ?_⟩) ?_ ?_
 rotate_left
 {
 intro w'
 go_simp
 with_reducible rfl}
 rotate_left
 · exact p1_
 refine pure_ (i := 22) (N := some 129) (v := ?_) (a' := ?_) #[T,T,T,T,T,T,T,T,T,T,T,T,T,T,T,T,T,T,T,T,T,T,T,F,F,F,F,F,F,F,F,F] rfl rfl (any_of HT_.out s2_) (fun _ _ _ h => h) (Or.inl ⟨by rfl, ?_⟩) ?_ ?_
 rotate_left
 {
 intro w'
 go_simp
 with_reducible rfl}
 rotate_left
 · exact p1_
 refine pure_ (i := 23) (N := some 130) (v := ?_) (a' := ?_) #[T,T,T,T,T,T,T,T,T,T,T,T,T,T,T,T,T,T,T,T,T,T,T,T,F,F,F,F,F,F,F,F] rfl rfl (any_of HT_.out s2_) (fun _ _ _ h => h) (Or.inl ⟨by rfl, ?_⟩) ?_ ?_
 rotate_left
 {
 intro w'
 go_simp
 with_reducible rfl}
 rotate_left
 · exact p1_
 refine pure_ (i := 25) (N := some 132) (v := ?_) (a' := ?_) #[T,T,T,T,T,T,T,T,T,T,T,T,T,T,T,T,T,T,T,T,T,T,T,T,F,T,F,F,F,F,F,F] rfl rfl (any_of HT_.out s2_) (fun _ _ _ h => h) (Or.inl ⟨by rfl, ?_⟩) ?_ ?_
 rotate_left
 {
 intro w'
 go_simp
 with_reducible rfl}
 rotate_left
 · exact p1_
 refine pure_ (i := 26) (N := some 133) (v := ?_) (a' := ?_) #[T,T,T,T,T,T,T,T,T,T,T,T,T,T,T,T,T,T,T,T,T,T,T,T,F,T,T,F,F,F,F,F] rfl rfl (any_of HT_.out s2_) (fun _ _ _ h => h) (Or.inl ⟨by rfl, ?_⟩) ?_ ?_
 rotate_left
 {
 intro w'
 go_simp
 with_reducible rfl}
 rotate_left
 · exact p1_
 refine pure_ (i := 27) (N := some 134) (v := ?_) (a' := ?_) #[T,T,T,T,T,T,T,T,T,T,T,T,T,T,T,T,T,T,T,T,T,T,T,T,F,T,T,T,F,F,F,F] rfl rfl (any_of HT_.out s2_) (fun _ _ _ h => h) (Or.inl ⟨by rfl, ?_⟩) ?_ ?_
 rotate_left
 {
 intro w'
 go_simp
 with_reducible rfl}
 rotate_left
 · exact p1_
 refine take_ (i := 24) (N := some 131) (v := ?_) (a' := ?_) #[T,T,T,T,T,T,T,T,T,T,T,T,T,T,T,T,T,T,T,T,T,T,T,T,T,T,T,T,F,F,F,F] rfl rfl (take_ofW HT_.out HW_.out s2_) (fun _ _ _ h => h) (Or.inl ⟨by rfl, ?_⟩) hHeld ?_ ?_
 rotate_left
 {
 rintro w' ⟨s0, s1, s2, s3⟩
 go_simp
 with_reducible rfl}
 rotate_left
 · exact p1_
 refine take_ (i := 28) (N := some 135) (v := ?_) (a' := ?_) #[T,T,T,T,T,T,T,T,T,T,T,T,T,T,T,T,T,T,T,T,T,T,T,T,T,T,T,T,T,F,F,F] rfl rfl (take_ofW HT_.out HW_.out s2_) (fun _ _ _ h => h) (Or.inl ⟨by rfl, ?_⟩) hHeld ?_ ?_
 rotate_left
 {
 rintro w' ⟨s0, s1, s2, s3⟩
 go_simp
 with_reducible rfl}
 rotate_left
 · exact p1_
 refine pure_ (i := 29) (N := some 136) (v := ?_) (a' := ?_) #[T,T,T,T,T,T,T,T,T,T,T,T,T,T,T,T,T,T,T,T,T,T,T,T,T,T,T,T,T,T,F,F] rfl rfl (any_of HT_.out s2_) (fun _ _ _ h => h) (Or.inl ⟨by rfl, ?_⟩) ?_ ?_
 rotate_left
 {
 intro w'
 go_simp
 with_reducible rfl}
 rotate_left
 · exact p1_
 refine pure_ (i := 30) (N := some 137) (v := ?_) (a' := ?_) #[T,T,T,T,T,T,T,T,T,T,T,T,T,T,T,T,T,T,T,T,T,T,T,T,T,T,T,T,T,T,T,F] rfl rfl (any_of HT_.out s2_) (fun _ _ _ h => h) (Or.inl ⟨by rfl, ?_⟩) ?_ ?_
 rotate_left
 {
 intro w'
 go_simp
 with_reducible rfl}
 rotate_left
 · exact p1_
 refine pure_ (i := 31) (N := some 138) (v := ?_) (a' := ?_) #[T,T,T,T,T,T,T,T,T,T,T,T,T,T,T,T,T,T,T,T,T,T,T,T,T,T,T,T,T,T,T,T] rfl rfl (any_of HT_.out s2_) (fun _ _ _ h => h) (Or.inl ⟨by rfl, ?_⟩) ?_ ?_
 rotate_left
 {
 intro w'
 go_simp
 with_reducible rfl}
 rotate_left
 · exact p1_
 refine done_ (done_of HT_.out s2_) ?_
 try go_wp2
 go_meet
 case rel => exact ⟨_, (((rdOf false t222 (ji111)) != (rdOf false t195 x17_2))), (by first | rfl | (simp; done) | (simp only [← hji111] <;> (first | rfl | simp)) | (simp [*]; done)), H', ⟨by have := HJ14.out; have := HK2.out; first | omega | exact Nat.le_refl _⟩, ⟨b2_ HO_6.out⟩, ⟨b2_ HO_8.out⟩, ⟨b2_ HO_12.out⟩, ⟨b2_ HO_15.out⟩, ⟨b1_ BK187.out⟩, ⟨b1_ BK199.out⟩, ⟨b1_ BK213.out⟩, ⟨b1_ BK226.out⟩, ⟨by repeat (first | (with_reducible first | exact HB.out | apply below_alloc | apply pw_below_drewN | apply below_drew1 | refine below_set ?_ GE187.out | refine below_set ?_ GE199.out | refine below_set ?_ GE213.out | refine below_set ?_ GE226.out) | exact HB.out)⟩⟩}
 {
 rw [if_neg c113] at H
 exact absurd H (by simp)}}
 {
 rw [if_neg c112] at H
 exact absurd H (by simp)}}
 {
 rw [if_neg c110] at H
 have c110b0 : decide (t200 ≤ x17_2) = false := decide_eq_false c110
 clear c110
 have H' := Aside0.mk H
 clear H
 try go_wp2
 have n0_ := Aside0.mk (Kd.R_drew HO_6.out)
 have n1_ := Aside0.mk (Kd.R_drew HO_8.out)
 have n2_ := Aside0.mk (Kd.R_drew HO_12.out)
 have n3_ := Aside0.mk (Kd.R_drew HO_15.out)
 have n4_ := Aside0.mk (blk_drew BK187.out)
 have n5_ := Aside0.mk (blk_drew BK199.out)
 have n6_ := Aside0.mk (blk_drew BK213.out)
 have n7_ := Aside0.mk (blk_drew BK226.out)
 have n8_ := Aside0.mk (below_drew1 HB.out)
 clear HO_6
 clear HO_8
 clear HO_12
 clear HO_15
 clear BK187
 clear BK199
 clear BK213
 clear BK226
 clear HB
 have HO_6 := n0_
 have HO_8 := n1_
 have HO_12 := n2_
 have HO_15 := n3_
 have BK187 := n4_
 have BK199 := n5_
 have BK213 := n6_
 have BK226 := n7_
 have HB := n8_
 clear n0_ n1_ n2_ n3_ n4_ n5_ n6_ n7_ n8_
 obtain ⟨Ao119, co119, eo119⟩ := Kd.R_slice HO_12.out
 (first | subst eo119 | (injection eo119 with f1_ f2_ f3_; have f4_ := f1_.symm; have f5_ := f3_.symm; clear f1_ f2_ f3_; subst f4_; subst f5_))
 have p228 : 0 ≤ (x17_2 : Int) := of_decide_eq_true (by first | (with_reducible assumption) | assumption)
 have q228 : x17_2 < (t209.length : Int) := of_decide_eq_true (by first | (with_reducible assumption) | assumption)
 obtain ⟨ad228, e228, hx228_0⟩ := Kd.at_bool (Kd.R_reads' HO_12.out).2.2 x17_2 p228 q228
 cases e228
 replace p228 := eq_true p228
 replace q228 := eq_true q228
 obtain ⟨Ao120, co120, eo120⟩ := Kd.R_slice HO_8.out
 (first | subst eo120 | (injection eo120 with f1_ f2_ f3_; have f4_ := f1_.symm; have f5_ := f3_.symm; clear f1_ f2_ f3_; subst f4_; subst f5_))
 have p229 : 0 ≤ (x17_2 : Int) := of_decide_eq_true (by first | (with_reducible assumption) | assumption)
 have q229 : x17_2 < (t195.length : Int) := of_decide_eq_true (by first | (with_reducible assumption) | assumption)
 obtain ⟨ad229, e229, hx229_0⟩ := Kd.at_bool (Kd.R_reads' HO_8.out).2.2 x17_2 p229 q229
 cases e229
 replace p229 := eq_true p229
 replace q229 := eq_true q229
 refine start_ (n := 32) (S := fun w' => w'.cell? (ad228.add (x17_2).toNat) = some (.bool (rdOf false t209 x17_2)) ∧ w'.cell? (ad229.add (x17_2).toNat) = some (.bool (rdOf false t195 x17_2))) (ds := []) #[F,F,F,F,F,F,F,F,F,F,F,F,F,F,F,F,F,F,F,F,F,F,F,F,F,F,F,F,F,F,F,F] s2_ rfl rfl ⟨hx228_0, hx229_0⟩ (fun hHeld => ?_); refine with_tabW laws_FnBuckets.tab14 laws_FnBuckets.bits14 (fun HT_ HW_ => ?_)
 generalize wr.drew = w118 at HO_6 HO_8 HO_12 HO_15 BK187 BK199 BK213 BK226 HB hx228_0 hx229_0 hHeld ⊢
 refine pure_ (i := 0) (N := some 107) (v := ?_) (a' := ?_) #[T,F,F,F,F,F,F,F,F,F,F,F,F,F,F,F,F,F,F,F,F,F,F,F,F,F,F,F,F,F,F,F] rfl rfl (any_of HT_.out s2_) (fun _ _ _ h => h) (Or.inl ⟨by rfl, ?_⟩) ?_ ?_
 rotate_left
 {
 intro w'
 go_simp
 with_reducible rfl}
 rotate_left
 · exact p1_
 refine pure_ (i := 1) (N := some 108) (v := ?_) (a' := ?_) #[T,T,F,F,F,F,F,F,F,F,F,F,F,F,F,F,F,F,F,F,F,F,F,F,F,F,F,F,F,F,F,F] rfl rfl (any_of HT_.out s2_) (fun _ _ _ h => h) (Or.inl ⟨by rfl, ?_⟩) ?_ ?_
 rotate_left
 {
 intro w'
 go_simp
 with_reducible rfl}
 rotate_left
 · exact p1_
 refine pure_ (i := 2) (N := some 109) (v := ?_) (a' := ?_) #[T,T,T,F,F,F,F,F,F,F,F,F,F,F,F,F,F,F,F,F,F,F,F,F,F,F,F,F,F,F,F,F] rfl rfl (any_of HT_.out s2_) (fun _ _ _ h => h) (Or.inl ⟨by rfl, ?_⟩) ?_ ?_
 rotate_left
 {
 intro w'
 go_simp
 with_reducible rfl}
 rotate_left
 · exact p1_
 refine pure_ (i := 3) (N := some 110) (v := ?_) (a' := ?_) #[T,T,T,T,F,F,F,F,F,F,F,F,F,F,F,F,F,F,F,F,F,F,F,F,F,F,F,F,F,F,F,F] rfl rfl (any_of HT_.out s2_) (fun _ _ _ h => h) (Or.inl ⟨by rfl, ?_⟩) ?_ ?_
 rotate_left
 {
 intro w'
 go_simp
 with_reducible rfl}
 rotate_left
 · exact p1_
 refine pure_ (i := 4) (N := some 111) (v := ?_) (a' := ?_) #[T,T,T,T,T,F,F,F,F,F,F,F,F,F,F,F,F,F,F,F,F,F,F,F,F,F,F,F,F,F,F,F] rfl rfl (any_of HT_.out s2_) (fun _ _ _ h => h) (Or.inl ⟨by rfl, ?_⟩) ?_ ?_
 rotate_left
 {
 intro w'
 go_simp
 with_reducible rfl}
 rotate_left
 · exact p1_
 refine pure_ (i := 5) (N := some 112) (v := ?_) (a' := ?_) #[T,T,T,T,T,T,F,F,F,F,F,F,F,F,F,F,F,F,F,F,F,F,F,F,F,F,F,F,F,F,F,F] rfl rfl (any_of HT_.out s2_) (fun _ _ _ h => h) (Or.inl ⟨by rfl, ?_⟩) ?_ ?_
 rotate_left
 {
 intro w'
 go_simp
 with_reducible rfl}
 rotate_left
 · exact p1_
 refine pure_ (i := 6) (N := some 113) (v := ?_) (a' := ?_) #[T,T,T,T,T,T,T,F,F,F,F,F,F,F,F,F,F,F,F,F,F,F,F,F,F,F,F,F,F,F,F,F] rfl rfl (any_of HT_.out s2_) (fun _ _ _ h => h) (Or.inl ⟨by rfl, ?_⟩) ?_ ?_
 rotate_left
 {
 intro w'
 go_simp
 with_reducible rfl}
 rotate_left
 · exact p1_
 refine pure_ (i := 8) (N := some 115) (v := ?_) (a' := ?_) #[T,T,T,T,T,T,T,F,T,F,F,F,F,F,F,F,F,F,F,F,F,F,F,F,F,F,F,F,F,F,F,F] rfl rfl (any_of HT_.out s2_) (fun _ _ _ h => h) (Or.inl ⟨by rfl, ?_⟩) ?_ ?_
 rotate_left
 {
 intro w'
 go_simp
 with_reducible rfl}
 rotate_left
 · exact p1_
 refine pure_ (i := 9) (N := some 116) (v := ?_) (a' := ?_) #[T,T,T,T,T,T,T,F,T,T,F,F,F,F,F,F,F,F,F,F,F,F,F,F,F,F,F,F,F,F,F,F] rfl rfl (any_of HT_.out s2_) (fun _ _ _ h => h) (Or.inl ⟨by rfl, ?_⟩) ?_ ?_
 rotate_left
 {
 intro w'
 go_simp
 with_reducible rfl}
 rotate_left
 · exact p1_
 refine pure_ (i := 10) (N := some 117) (v := ?_) (a' := ?_) #[T,T,T,T,T,T,T,F,T,T,T,F,F,F,F,F,F,F,F,F,F,F,F,F,F,F,F,F,F,F,F,F] rfl rfl (any_of HT_.out s2_) (fun _ _ _ h => h) (Or.inl ⟨by rfl, ?_⟩) ?_ ?_
 rotate_left
 {
 intro w'
 go_simp
 with_reducible rfl}
 rotate_left
 · exact p1_
 refine take_ (i := 7) (N := some 114) (v := ?_) (a' := ?_) #[T,T,T,T,T,T,T,T,T,T,T,F,F,F,F,F,F,F,F,F,F,F,F,F,F,F,F,F,F,F,F,F] rfl rfl (take_ofW HT_.out HW_.out s2_) (fun _ _ _ h => h) (Or.inl ⟨by rfl, ?_⟩) hHeld ?_ ?_
 rotate_left
 {
 rintro w' ⟨s0, s1⟩
 go_simp
 with_reducible rfl}
 rotate_left
 · exact p1_
 refine take_ (i := 11) (N := some 118) (v := ?_) (a' := ?_) #[T,T,T,T,T,T,T,T,T,T,T,T,F,F,F,F,F,F,F,F,F,F,F,F,F,F,F,F,F,F,F,F] rfl rfl (take_ofW HT_.out HW_.out s2_) (fun _ _ _ h => h) (Or.inl ⟨by rfl, ?_⟩) hHeld ?_ ?_
 rotate_left
 {
 rintro w' ⟨s0, s1⟩
 go_simp
 with_reducible rfl}
 rotate_left
 · exact p1_
 refine pure_ (i := 12) (N := some 119) (v := ?_) (a' := ?_) #[T,T,T,T,T,T,T,T,T,T,T,T,T,F,F,F,F,F,F,F,F,F,F,F,F,F,F,F,F,F,F,F] rfl rfl (any_of HT_.out s2_) (fun _ _ _ h => h) (Or.inl ⟨by rfl, ?_⟩) ?_ ?_
 rotate_left
 {
 intro w'
 go_simp
 with_reducible rfl}
 rotate_left
 · exact p1_
 refine pure_ (i := 13) (N := some 120) (v := ?_) (a' := ?_) #[T,T,T,T,T,T,T,T,T,T,T,T,T,T,F,F,F,F,F,F,F,F,F,F,F,F,F,F,F,F,F,F] rfl rfl (any_of HT_.out s2_) (fun _ _ _ h => h) (Or.inl ⟨by rfl, ?_⟩) ?_ ?_
 rotate_left
 {
 intro w'
 go_simp
 with_reducible rfl}
 rotate_left
 · exact p1_
 refine pure_ (i := 14) (N := some 121) (v := ?_) (a' := ?_) #[T,T,T,T,T,T,T,T,T,T,T,T,T,T,T,F,F,F,F,F,F,F,F,F,F,F,F,F,F,F,F,F] rfl rfl (any_of HT_.out s2_) (fun _ _ _ h => h) (Or.inl ⟨by rfl, ?_⟩) ?_ ?_
 rotate_left
 {
 intro w'
 go_simp
 with_reducible rfl}
 rotate_left
 · exact p1_
 refine pure_ (i := 15) (N := some 122) (v := ?_) (a' := ?_) #[T,T,T,T,T,T,T,T,T,T,T,T,T,T,T,T,F,F,F,F,F,F,F,F,F,F,F,F,F,F,F,F] rfl rfl (any_of HT_.out s2_) (fun _ _ _ h => h) (Or.inl ⟨by rfl, ?_⟩) ?_ ?_
 rotate_left
 {
 intro w'
 go_simp
 with_reducible rfl}
 rotate_left
 · exact p1_
 refine pure_ (i := 16) (N := some 123) (v := ?_) (a' := ?_) #[T,T,T,T,T,T,T,T,T,T,T,T,T,T,T,T,T,F,F,F,F,F,F,F,F,F,F,F,F,F,F,F] rfl rfl (any_of HT_.out s2_) (fun _ _ _ h => h) (Or.inl ⟨by rfl, ?_⟩) ?_ ?_
 rotate_left
 {
 intro w'
 go_simp
 with_reducible rfl}
 rotate_left
 · exact p1_
 refine pure_ (i := 17) (N := some 124) (v := ?_) (a' := ?_) #[T,T,T,T,T,T,T,T,T,T,T,T,T,T,T,T,T,T,F,F,F,F,F,F,F,F,F,F,F,F,F,F] rfl rfl (any_of HT_.out s2_) (fun _ _ _ h => h) (Or.inl ⟨by rfl, ?_⟩) ?_ ?_
 rotate_left
 {
 intro w'
 go_simp
 with_reducible rfl}
 rotate_left
 · exact p1_
 refine pure_ (i := 18) (N := some 125) (v := ?_) (a' := ?_) #[T,T,T,T,T,T,T,T,T,T,T,T,T,T,T,T,T,T,T,F,F,F,F,F,F,F,F,F,F,F,F,F] rfl rfl (any_of HT_.out s2_) (fun _ _ _ h => h) (Or.inl ⟨by rfl, ?_⟩) ?_ ?_
 rotate_left
 {
 intro w'
 go_simp
 with_reducible rfl}
 rotate_left
 · exact p1_
 refine pure_ (i := 19) (N := some 126) (v := undef) (a' := ?_) #[T,T,T,T,T,T,T,T,T,T,T,T,T,T,T,T,T,T,T,T,F,F,F,F,F,F,F,F,F,F,F,F] rfl rfl (any_of HT_.out s2_) (fun _ _ _ h => h) (Or.inr ⟨by rfl, rfl⟩) ?_ ?_
 rotate_left
 · exact p1_
 refine pure_ (i := 20) (N := some 127) (v := undef) (a' := ?_) #[T,T,T,T,T,T,T,T,T,T,T,T,T,T,T,T,T,T,T,T,T,F,F,F,F,F,F,F,F,F,F,F] rfl rfl (any_of HT_.out s2_) (fun _ _ _ h => h) (Or.inr ⟨by rfl, rfl⟩) ?_ ?_
 rotate_left
 · exact p1_
 refine pure_ (i := 21) (N := some 128) (v := undef) (a' := ?_) #[T,T,T,T,T,T,T,T,T,T,T,T,T,T,T,T,T,T,T,T,T,T,F,F,F,F,F,F,F,F,F,F] rfl rfl (any_of HT_.out s2_) (fun _ _ _ h => h) (Or.inr ⟨by rfl, rfl⟩) ?_ ?_
 rotate_left
 · exact p1_
 refine pure_ (i := 22) (N := some 129) (v := undef) (a' := ?_) #[T,T,T,T,T,T,T,T,T,T,T,T,T,T,T,T,T,T,T,T,T,T,T,F,F,F,F,F,F,F,F,F] rfl rfl (any_of HT_.out s2_) (fun _ _ _ h => h) (Or.inr ⟨by rfl, rfl⟩) ?_ ?_
 rotate_left
 · exact p1_
 refine pure_ (i := 23) (N := some 130) (v := undef) (a' := ?_) #[T,T,T,T,T,T,T,T,T,T,T,T,T,T,T,T,T,T,T,T,T,T,T,T,F,F,F,F,F,F,F,F] rfl rfl (any_of HT_.out s2_) (fun _ _ _ h => h) (Or.inr ⟨by rfl, rfl⟩) ?_ ?_
 rotate_left
 · exact p1_
 refine pure_ (i := 24) (N := some 131) (v := undef) (a' := ?_) #[T,T,T,T,T,T,T,T,T,T,T,T,T,T,T,T,T,T,T,T,T,T,T,T,T,F,F,F,F,F,F,F] rfl rfl (any_of HT_.out s2_) (fun _ _ _ h => h) (Or.inr ⟨by rfl, rfl⟩) ?_ ?_
 rotate_left
 · exact p1_
 refine pure_ (i := 25) (N := some 132) (v := undef) (a' := ?_) #[T,T,T,T,T,T,T,T,T,T,T,T,T,T,T,T,T,T,T,T,T,T,T,T,T,T,F,F,F,F,F,F] rfl rfl (any_of HT_.out s2_) (fun _ _ _ h => h) (Or.inr ⟨by rfl, rfl⟩) ?_ ?_
 rotate_left
 · exact p1_
 refine pure_ (i := 26) (N := some 133) (v := undef) (a' := ?_) #[T,T,T,T,T,T,T,T,T,T,T,T,T,T,T,T,T,T,T,T,T,T,T,T,T,T,T,F,F,F,F,F] rfl rfl (any_of HT_.out s2_) (fun _ _ _ h => h) (Or.inr ⟨by rfl, rfl⟩) ?_ ?_
 rotate_left
 · exact p1_
 refine pure_ (i := 27) (N := some 134) (v := undef) (a' := ?_) #[T,T,T,T,T,T,T,T,T,T,T,T,T,T,T,T,T,T,T,T,T,T,T,T,T,T,T,T,F,F,F,F] rfl rfl (any_of HT_.out s2_) (fun _ _ _ h => h) (Or.inr ⟨by rfl, rfl⟩) ?_ ?_
 rotate_left
 · exact p1_
 refine pure_ (i := 28) (N := some 135) (v := undef) (a' := ?_) #[T,T,T,T,T,T,T,T,T,T,T,T,T,T,T,T,T,T,T,T,T,T,T,T,T,T,T,T,T,F,F,F] rfl rfl (any_of HT_.out s2_) (fun _ _ _ h => h) (Or.inr ⟨by rfl, rfl⟩) ?_ ?_
 rotate_left
 · exact p1_
 refine pure_ (i := 29) (N := some 136) (v := undef) (a' := ?_) #[T,T,T,T,T,T,T,T,T,T,T,T,T,T,T,T,T,T,T,T,T,T,T,T,T,T,T,T,T,T,F,F] rfl rfl (any_of HT_.out s2_) (fun _ _ _ h => h) (Or.inr ⟨by rfl, rfl⟩) ?_ ?_
 rotate_left
 · exact p1_
 refine pure_ (i := 30) (N := some 137) (v := ?_) (a' := ?_) #[T,T,T,T,T,T,T,T,T,T,T,T,T,T,T,T,T,T,T,T,T,T,T,T,T,T,T,T,T,T,T,F] rfl rfl (any_of HT_.out s2_) (fun _ _ _ h => h) (Or.inl ⟨by rfl, ?_⟩) ?_ ?_
 rotate_left
 {
 intro w'
 go_simp
 with_reducible rfl}
 rotate_left
 · exact p1_
 refine pure_ (i := 31) (N := some 138) (v := ?_) (a' := ?_) #[T,T,T,T,T,T,T,T,T,T,T,T,T,T,T,T,T,T,T,T,T,T,T,T,T,T,T,T,T,T,T,T] rfl rfl (any_of HT_.out s2_) (fun _ _ _ h => h) (Or.inl ⟨by rfl, ?_⟩) ?_ ?_
 rotate_left
 {
 intro w'
 go_simp
 with_reducible rfl}
 rotate_left
 · exact p1_
 refine done_ (done_of HT_.out s2_) ?_
 try go_wp2
 go_meet
 case rel => exact ⟨_, (false), s1_, H', ⟨by have := HJ14.out; have := HK2.out; first | omega | exact Nat.le_refl _⟩, ⟨b2_ HO_6.out⟩, ⟨b2_ HO_8.out⟩, ⟨b2_ HO_12.out⟩, ⟨b2_ HO_15.out⟩, ⟨b1_ BK187.out⟩, ⟨b1_ BK199.out⟩, ⟨b1_ BK213.out⟩, ⟨b1_ BK226.out⟩, ⟨by repeat (first | (with_reducible first | exact HB.out | apply below_alloc | apply pw_below_drewN | apply below_drew1 | refine below_set ?_ GE187.out | refine below_set ?_ GE199.out | refine below_set ?_ GE213.out | refine below_set ?_ GE226.out) | exact HB.out)⟩⟩}}}
 {
 rw [if_neg c105] at H
 exact absurd H (by simp)}}
 {
 rw [if_neg c104] at H
 exact absurd H (by simp)}}
 {
 rw [if_neg c103] at H
 exact absurd H (by simp)}}
 {
 rw [if_neg c102] at H
 have c102b0 : decide (x17_2 < t200) = false := decide_eq_false c102
 clear c102
 (first | rw [c102b0] | (simp only [i64_w, i32_w]; rw [c102b0]) | skip)
 by_cases c121 : x17_2 ≥ t200
 {
 rw [if_pos c121] at H
 have c121b0 : decide (t200 ≤ x17_2) = true := decide_eq_true c121
 clear c121
 obtain ⟨ji122, hji122⟩ : ∃ j_ : Int, (wrap64 (x17_2 - t200)) = j_ := ⟨_, rfl⟩
 replace H : (if 0 ≤ (ji122) then (if (ji122) < (t222.length : Int) then (if 0 ≤ x17_2 then (if x17_2 < (t195.length : Int) then (laws_FnBuckets.j2 k2 t188 t195 t200 t209 t222 x17_2 ((rdOf false t222 (ji122)) != (rdOf false t195 x17_2)) t183 t184 t185 t186) else (none)) else (none)) else (none)) else (none)) = some r := by first | (rw [hji122] at H; exact H) | (simp only [hji122] at H ⊢; exact H)
 have hji122w : (IntKind.i64.wrap (x17_2 - t200)) = ji122 := (i64_w _).trans hji122
 by_cases c123 : 0 ≤ (ji122)
 {
 rw [if_pos c123] at H
 have c123b0 : decide (0 ≤ (ji122)) = true := decide_eq_true c123
 clear c123
 by_cases c124 : (ji122) < (t222.length : Int)
 {
 rw [if_pos c124] at H
 have c124b0 : decide ((ji122) < (t222.length : Int)) = true := decide_eq_true c124
 clear c124
 by_cases c125 : 0 ≤ x17_2
 {
 rw [if_pos c125] at H
 have c125b0 : decide (0 ≤ x17_2) = true := decide_eq_true c125
 clear c125
 by_cases c126 : x17_2 < (t195.length : Int)
 {
 rw [if_pos c126] at H
 have c126b0 : decide (x17_2 < (t195.length : Int)) = true := decide_eq_true c126
 clear c126
 have H' := Aside0.mk H
 clear H
 try go_wp2
 have n0_ := Aside0.mk (Kd.R_drew HO_6.out)
 have n1_ := Aside0.mk (Kd.R_drew HO_8.out)
 have n2_ := Aside0.mk (Kd.R_drew HO_12.out)
 have n3_ := Aside0.mk (Kd.R_drew HO_15.out)
 have n4_ := Aside0.mk (blk_drew BK187.out)
 have n5_ := Aside0.mk (blk_drew BK199.out)
 have n6_ := Aside0.mk (blk_drew BK213.out)
 have n7_ := Aside0.mk (blk_drew BK226.out)
 have n8_ := Aside0.mk (below_drew1 HB.out)
 clear HO_6
 clear HO_8
 clear HO_12
 clear HO_15
 clear BK187
 clear BK199
 clear BK213
 clear BK226
 clear HB
 have HO_6 := n0_
 have HO_8 := n1_
 have HO_12 := n2_
 have HO_15 := n3_
 have BK187 := n4_
 have BK199 := n5_
 have BK213 := n6_
 have BK226 := n7_
 have HB := n8_
 clear n0_ n1_ n2_ n3_ n4_ n5_ n6_ n7_ n8_
 obtain ⟨Ao128, co128, eo128⟩ := Kd.R_slice HO_15.out
 (first | subst eo128 | (injection eo128 with f1_ f2_ f3_; have f4_ := f1_.symm; have f5_ := f3_.symm; clear f1_ f2_ f3_; subst f4_; subst f5_))
 have p232 : 0 ≤ ((ji122) : Int) := of_decide_eq_true (by first | (with_reducible assumption) | assumption)
 have q232 : (ji122) < (t222.length : Int) := of_decide_eq_true (by first | (with_reducible assumption) | assumption)
 obtain ⟨ad232, e232, hx232_0⟩ := Kd.at_bool (Kd.R_reads' HO_15.out).2.2 (ji122) p232 q232
 cases e232
 replace p232 := eq_true p232
 replace q232 := eq_true q232
 obtain ⟨Ao129, co129, eo129⟩ := Kd.R_slice HO_8.out
 (first | subst eo129 | (injection eo129 with f1_ f2_ f3_; have f4_ := f1_.symm; have f5_ := f3_.symm; clear f1_ f2_ f3_; subst f4_; subst f5_))
 have p233 : 0 ≤ (x17_2 : Int) := of_decide_eq_true (by first | (with_reducible assumption) | assumption)
 have q233 : x17_2 < (t195.length : Int) := of_decide_eq_true (by first | (with_reducible assumption) | assumption)
 obtain ⟨ad233, e233, hx233_0⟩ := Kd.at_bool (Kd.R_reads' HO_8.out).2.2 x17_2 p233 q233
 cases e233
 replace p233 := eq_true p233
 replace q233 := eq_true q233
 refine start_ (n := 32) (S := fun w' => w'.cell? (ad232.add ((ji122)).toNat) = some (.bool (rdOf false t222 (ji122))) ∧ w'.cell? (ad233.add (x17_2).toNat) = some (.bool (rdOf false t195 x17_2))) (ds := []) #[F,F,F,F,F,F,F,F,F,F,F,F,F,F,F,F,F,F,F,F,F,F,F,F,F,F,F,F,F,F,F,F] s2_ rfl rfl ⟨hx232_0, hx233_0⟩ (fun hHeld => ?_); refine with_tabW laws_FnBuckets.tab14 laws_FnBuckets.bits14 (fun HT_ HW_ => ?_)
 generalize wr.drew = w127 at HO_6 HO_8 HO_12 HO_15 BK187 BK199 BK213 BK226 HB hx232_0 hx233_0 hHeld ⊢
 refine pure_ (i := 0) (N := some 107) (v := ?_) (a' := ?_) #[T,F,F,F,F,F,F,F,F,F,F,F,F,F,F,F,F,F,F,F,F,F,F,F,F,F,F,F,F,F,F,F] rfl rfl (any_of HT_.out s2_) (fun _ _ _ h => h) (Or.inl ⟨by rfl, ?_⟩) ?_ ?_
 rotate_left
 {
 intro w'
 go_simp
 with_reducible rfl}
 rotate_left
 · exact p1_
 refine pure_ (i := 1) (N := some 108) (v := ?_) (a' := ?_) #[T,T,F,F,F,F,F,F,F,F,F,F,F,F,F,F,F,F,F,F,F,F,F,F,F,F,F,F,F,F,F,F] rfl rfl (any_of HT_.out s2_) (fun _ _ _ h => h) (Or.inl ⟨by rfl, ?_⟩) ?_ ?_
 rotate_left
 {
 intro w'
 go_simp
 with_reducible rfl}
 rotate_left
 · exact p1_
 refine pure_ (i := 2) (N := some 109) (v := ?_) (a' := ?_) #[T,T,T,F,F,F,F,F,F,F,F,F,F,F,F,F,F,F,F,F,F,F,F,F,F,F,F,F,F,F,F,F] rfl rfl (any_of HT_.out s2_) (fun _ _ _ h => h) (Or.inl ⟨by rfl, ?_⟩) ?_ ?_
 rotate_left
 {
 intro w'
 go_simp
 with_reducible rfl}
 rotate_left
 · exact p1_
 refine pure_ (i := 3) (N := some 110) (v := ?_) (a' := ?_) #[T,T,T,T,F,F,F,F,F,F,F,F,F,F,F,F,F,F,F,F,F,F,F,F,F,F,F,F,F,F,F,F] rfl rfl (any_of HT_.out s2_) (fun _ _ _ h => h) (Or.inl ⟨by rfl, ?_⟩) ?_ ?_
 rotate_left
 {
 intro w'
 go_simp
 with_reducible rfl}
 rotate_left
 · exact p1_
 refine pure_ (i := 4) (N := some 111) (v := undef) (a' := ?_) #[T,T,T,T,T,F,F,F,F,F,F,F,F,F,F,F,F,F,F,F,F,F,F,F,F,F,F,F,F,F,F,F] rfl rfl (any_of HT_.out s2_) (fun _ _ _ h => h) (Or.inr ⟨by rfl, rfl⟩) ?_ ?_
 rotate_left
 · exact p1_
 refine pure_ (i := 5) (N := some 112) (v := undef) (a' := ?_) #[T,T,T,T,T,T,F,F,F,F,F,F,F,F,F,F,F,F,F,F,F,F,F,F,F,F,F,F,F,F,F,F] rfl rfl (any_of HT_.out s2_) (fun _ _ _ h => h) (Or.inr ⟨by rfl, rfl⟩) ?_ ?_
 rotate_left
 · exact p1_
 refine pure_ (i := 6) (N := some 113) (v := undef) (a' := ?_) #[T,T,T,T,T,T,T,F,F,F,F,F,F,F,F,F,F,F,F,F,F,F,F,F,F,F,F,F,F,F,F,F] rfl rfl (any_of HT_.out s2_) (fun _ _ _ h => h) (Or.inr ⟨by rfl, rfl⟩) ?_ ?_
 rotate_left
 · exact p1_
 refine pure_ (i := 7) (N := some 114) (v := undef) (a' := ?_) #[T,T,T,T,T,T,T,T,F,F,F,F,F,F,F,F,F,F,F,F,F,F,F,F,F,F,F,F,F,F,F,F] rfl rfl (any_of HT_.out s2_) (fun _ _ _ h => h) (Or.inr ⟨by rfl, rfl⟩) ?_ ?_
 rotate_left
 · exact p1_
 refine pure_ (i := 8) (N := some 115) (v := undef) (a' := ?_) #[T,T,T,T,T,T,T,T,T,F,F,F,F,F,F,F,F,F,F,F,F,F,F,F,F,F,F,F,F,F,F,F] rfl rfl (any_of HT_.out s2_) (fun _ _ _ h => h) (Or.inr ⟨by rfl, rfl⟩) ?_ ?_
 rotate_left
 · exact p1_
 refine pure_ (i := 9) (N := some 116) (v := undef) (a' := ?_) #[T,T,T,T,T,T,T,T,T,T,F,F,F,F,F,F,F,F,F,F,F,F,F,F,F,F,F,F,F,F,F,F] rfl rfl (any_of HT_.out s2_) (fun _ _ _ h => h) (Or.inr ⟨by rfl, rfl⟩) ?_ ?_
 rotate_left
 · exact p1_
 refine pure_ (i := 10) (N := some 117) (v := undef) (a' := ?_) #[T,T,T,T,T,T,T,T,T,T,T,F,F,F,F,F,F,F,F,F,F,F,F,F,F,F,F,F,F,F,F,F] rfl rfl (any_of HT_.out s2_) (fun _ _ _ h => h) (Or.inr ⟨by rfl, rfl⟩) ?_ ?_
 rotate_left
 · exact p1_
 refine pure_ (i := 11) (N := some 118) (v := undef) (a' := ?_) #[T,T,T,T,T,T,T,T,T,T,T,T,F,F,F,F,F,F,F,F,F,F,F,F,F,F,F,F,F,F,F,F] rfl rfl (any_of HT_.out s2_) (fun _ _ _ h => h) (Or.inr ⟨by rfl, rfl⟩) ?_ ?_
 rotate_left
 · exact p1_
 refine pure_ (i := 12) (N := some 119) (v := undef) (a' := ?_) #[T,T,T,T,T,T,T,T,T,T,T,T,T,F,F,F,F,F,F,F,F,F,F,F,F,F,F,F,F,F,F,F] rfl rfl (any_of HT_.out s2_) (fun _ _ _ h => h) (Or.inr ⟨by rfl, rfl⟩) ?_ ?_
 rotate_left
 · exact p1_
 refine pure_ (i := 13) (N := some 120) (v := ?_) (a' := ?_) #[T,T,T,T,T,T,T,T,T,T,T,T,T,T,F,F,F,F,F,F,F,F,F,F,F,F,F,F,F,F,F,F] rfl rfl (any_of HT_.out s2_) (fun _ _ _ h => h) (Or.inl ⟨by rfl, ?_⟩) ?_ ?_
 rotate_left
 {
 intro w'
 go_simp
 with_reducible rfl}
 rotate_left
 · exact p1_
 refine pure_ (i := 14) (N := some 121) (v := ?_) (a' := ?_) #[T,T,T,T,T,T,T,T,T,T,T,T,T,T,T,F,F,F,F,F,F,F,F,F,F,F,F,F,F,F,F,F] rfl rfl (any_of HT_.out s2_) (fun _ _ _ h => h) (Or.inl ⟨by rfl, ?_⟩) ?_ ?_
 rotate_left
 {
 intro w'
 go_simp
 with_reducible rfl}
 rotate_left
 · exact p1_
 refine pure_ (i := 15) (N := some 122) (v := ?_) (a' := ?_) #[T,T,T,T,T,T,T,T,T,T,T,T,T,T,T,T,F,F,F,F,F,F,F,F,F,F,F,F,F,F,F,F] rfl rfl (any_of HT_.out s2_) (fun _ _ _ h => h) (Or.inl ⟨by rfl, ?_⟩) ?_ ?_
 rotate_left
 {
 intro w'
 go_simp
 with_reducible rfl}
 rotate_left
 · exact p1_
 refine pure_ (i := 16) (N := some 123) (v := ?_) (a' := ?_) #[T,T,T,T,T,T,T,T,T,T,T,T,T,T,T,T,T,F,F,F,F,F,F,F,F,F,F,F,F,F,F,F] rfl rfl (any_of HT_.out s2_) (fun _ _ _ h => h) (Or.inl ⟨by rfl, ?_⟩) ?_ ?_
 rotate_left
 {
 intro w'
 go_simp
 with_reducible rfl}
 rotate_left
 · exact p1_
 refine pure_ (i := 17) (N := some 124) (v := ?_) (a' := ?_) #[T,T,T,T,T,T,T,T,T,T,T,T,T,T,T,T,T,T,F,F,F,F,F,F,F,F,F,F,F,F,F,F] rfl rfl (any_of HT_.out s2_) (fun _ _ _ h => h) (Or.inl ⟨by rfl, ?_⟩) ?_ ?_
 rotate_left
 {
 intro w'
 go_simp
 with_reducible rfl}
 rotate_left
 · exact p1_
 refine pure_ (i := 18) (N := some 125) (v := ?_) (a' := ?_) #[T,T,T,T,T,T,T,T,T,T,T,T,T,T,T,T,T,T,T,F,F,F,F,F,F,F,F,F,F,F,F,F] rfl rfl (any_of HT_.out s2_) (fun _ _ _ h => h) (Or.inl ⟨by rfl, ?_⟩) ?_ ?_
 rotate_left
 {
 intro w'
 go_simp
 with_reducible rfl}
 rotate_left
 · exact p1_
 refine pure_ (i := 19) (N := some 126) (v := ?_) (a' := ?_) #[T,T,T,T,T,T,T,T,T,T,T,T,T,T,T,T,T,T,T,T,F,F,F,F,F,F,F,F,F,F,F,F] rfl rfl (any_of HT_.out s2_) (fun _ _ _ h => h) (Or.inl ⟨by rfl, ?_⟩) ?_ ?_
 rotate_left
 {
 intro w'
 go_simp
 with_reducible rfl}
 rotate_left
 · exact p1_
 refine pure_ (i := 20) (N := some 127) (v := ?_) (a' := ?_) #[T,T,T,T,T,T,T,T,T,T,T,T,T,T,T,T,T,T,T,T,T,F,F,F,F,F,F,F,F,F,F,F] rfl rfl (any_of HT_.out s2_) (fun _ _ _ h => h) (Or.inl ⟨by rfl, ?_⟩) ?_ ?_
 rotate_left
 {
 intro w'
 go_simp
 with_reducible rfl}
 rotate_left
 · exact p1_
 refine pure_ (i := 21) (N := some 128) (v := ?_) (a' := ?_) #[T,T,T,T,T,T,T,T,T,T,T,T,T,T,T,T,T,T,T,T,T,T,F,F,F,F,F,F,F,F,F,F] rfl rfl (any_of HT_.out s2_) (fun _ _ _ h => h) (Or.inl ⟨by rfl, ?_⟩) ?_ ?_
 rotate_left
 {
 intro w'
 go_simp
 with_reducible rfl}
 rotate_left
 · exact p1_
 refine pure_ (i := 22) (N := some 129) (v := ?_) (a' := ?_) #[T,T,T,T,T,T,T,T,T,T,T,T,T,T,T,T,T,T,T,T,T,T,T,F,F,F,F,F,F,F,F,F] rfl rfl (any_of HT_.out s2_) (fun _ _ _ h => h) (Or.inl ⟨by rfl, ?_⟩) ?_ ?_
 rotate_left
 {
 intro w'
 go_simp
 with_reducible rfl}
 rotate_left
 · exact p1_
 refine pure_ (i := 23) (N := some 130) (v := ?_) (a' := ?_) #[T,T,T,T,T,T,T,T,T,T,T,T,T,T,T,T,T,T,T,T,T,T,T,T,F,F,F,F,F,F,F,F] rfl rfl (any_of HT_.out s2_) (fun _ _ _ h => h) (Or.inl ⟨by rfl, ?_⟩) ?_ ?_
 rotate_left
 {
 intro w'
 go_simp
 with_reducible rfl}
 rotate_left
 · exact p1_
 refine pure_ (i := 25) (N := some 132) (v := ?_) (a' := ?_) #[T,T,T,T,T,T,T,T,T,T,T,T,T,T,T,T,T,T,T,T,T,T,T,T,F,T,F,F,F,F,F,F] rfl rfl (any_of HT_.out s2_) (fun _ _ _ h => h) (Or.inl ⟨by rfl, ?_⟩) ?_ ?_
 rotate_left
 {
 intro w'
 go_simp
 with_reducible rfl}
 rotate_left
 · exact p1_
 refine pure_ (i := 26) (N := some 133) (v := ?_) (a' := ?_) #[T,T,T,T,T,T,T,T,T,T,T,T,T,T,T,T,T,T,T,T,T,T,T,T,F,T,T,F,F,F,F,F] rfl rfl (any_of HT_.out s2_) (fun _ _ _ h => h) (Or.inl ⟨by rfl, ?_⟩) ?_ ?_
 rotate_left
 {
 intro w'
 go_simp
 with_reducible rfl}
 rotate_left
 · exact p1_
 refine pure_ (i := 27) (N := some 134) (v := ?_) (a' := ?_) #[T,T,T,T,T,T,T,T,T,T,T,T,T,T,T,T,T,T,T,T,T,T,T,T,F,T,T,T,F,F,F,F] rfl rfl (any_of HT_.out s2_) (fun _ _ _ h => h) (Or.inl ⟨by rfl, ?_⟩) ?_ ?_
 rotate_left
 {
 intro w'
 go_simp
 with_reducible rfl}
 rotate_left
 · exact p1_
 refine take_ (i := 24) (N := some 131) (v := ?_) (a' := ?_) #[T,T,T,T,T,T,T,T,T,T,T,T,T,T,T,T,T,T,T,T,T,T,T,T,T,T,T,T,F,F,F,F] rfl rfl (take_ofW HT_.out HW_.out s2_) (fun _ _ _ h => h) (Or.inl ⟨by rfl, ?_⟩) hHeld ?_ ?_
 rotate_left
 {
 rintro w' ⟨s0, s1⟩
 go_simp
 with_reducible rfl}
 rotate_left
 · exact p1_
 refine take_ (i := 28) (N := some 135) (v := ?_) (a' := ?_) #[T,T,T,T,T,T,T,T,T,T,T,T,T,T,T,T,T,T,T,T,T,T,T,T,T,T,T,T,T,F,F,F] rfl rfl (take_ofW HT_.out HW_.out s2_) (fun _ _ _ h => h) (Or.inl ⟨by rfl, ?_⟩) hHeld ?_ ?_
 rotate_left
 {
 rintro w' ⟨s0, s1⟩
 go_simp
 with_reducible rfl}
 rotate_left
 · exact p1_
 refine pure_ (i := 29) (N := some 136) (v := ?_) (a' := ?_) #[T,T,T,T,T,T,T,T,T,T,T,T,T,T,T,T,T,T,T,T,T,T,T,T,T,T,T,T,T,T,F,F] rfl rfl (any_of HT_.out s2_) (fun _ _ _ h => h) (Or.inl ⟨by rfl, ?_⟩) ?_ ?_
 rotate_left
 {
 intro w'
 go_simp
 with_reducible rfl}
 rotate_left
 · exact p1_
 refine pure_ (i := 30) (N := some 137) (v := ?_) (a' := ?_) #[T,T,T,T,T,T,T,T,T,T,T,T,T,T,T,T,T,T,T,T,T,T,T,T,T,T,T,T,T,T,T,F] rfl rfl (any_of HT_.out s2_) (fun _ _ _ h => h) (Or.inl ⟨by rfl, ?_⟩) ?_ ?_
 rotate_left
 {
 intro w'
 go_simp
 with_reducible rfl}
 rotate_left
 · exact p1_
 refine pure_ (i := 31) (N := some 138) (v := ?_) (a' := ?_) #[T,T,T,T,T,T,T,T,T,T,T,T,T,T,T,T,T,T,T,T,T,T,T,T,T,T,T,T,T,T,T,T] rfl rfl (any_of HT_.out s2_) (fun _ _ _ h => h) (Or.inl ⟨by rfl, ?_⟩) ?_ ?_
 rotate_left
 {
 intro w'
 go_simp
 with_reducible rfl}
 rotate_left
 · exact p1_
 refine done_ (done_of HT_.out s2_) ?_
 try go_wp2
 go_meet
 case rel => exact ⟨_, (((rdOf false t222 (ji122)) != (rdOf false t195 x17_2))), (by first | rfl | (simp; done) | (simp only [← hji122] <;> (first | rfl | simp)) | (simp [*]; done)), H', ⟨by have := HJ14.out; have := HK2.out; first | omega | exact Nat.le_refl _⟩, ⟨b2_ HO_6.out⟩, ⟨b2_ HO_8.out⟩, ⟨b2_ HO_12.out⟩, ⟨b2_ HO_15.out⟩, ⟨b1_ BK187.out⟩, ⟨b1_ BK199.out⟩, ⟨b1_ BK213.out⟩, ⟨b1_ BK226.out⟩, ⟨by repeat (first | (with_reducible first | exact HB.out | apply below_alloc | apply pw_below_drewN | apply below_drew1 | refine below_set ?_ GE187.out | refine below_set ?_ GE199.out | refine below_set ?_ GE213.out | refine below_set ?_ GE226.out) | exact HB.out)⟩⟩}
 {
 rw [if_neg c126] at H
 exact absurd H (by simp)}}
 {
 rw [if_neg c125] at H
 exact absurd H (by simp)}}
 {
 rw [if_neg c124] at H
 exact absurd H (by simp)}}
 {
 rw [if_neg c123] at H
 exact absurd H (by simp)}}
 {
 rw [if_neg c121] at H
 have c121b0 : decide (t200 ≤ x17_2) = false := decide_eq_false c121
 clear c121
 have H' := Aside0.mk H
 clear H
 try go_wp2
 have n0_ := Aside0.mk (Kd.R_drew HO_6.out)
 have n1_ := Aside0.mk (Kd.R_drew HO_8.out)
 have n2_ := Aside0.mk (Kd.R_drew HO_12.out)
 have n3_ := Aside0.mk (Kd.R_drew HO_15.out)
 have n4_ := Aside0.mk (blk_drew BK187.out)
 have n5_ := Aside0.mk (blk_drew BK199.out)
 have n6_ := Aside0.mk (blk_drew BK213.out)
 have n7_ := Aside0.mk (blk_drew BK226.out)
 have n8_ := Aside0.mk (below_drew1 HB.out)
 clear HO_6
 clear HO_8
 clear HO_12
 clear HO_15
 clear BK187
 clear BK199
 clear BK213
 clear BK226
 clear HB
 have HO_6 := n0_
 have HO_8 := n1_
 have HO_12 := n2_
 have HO_15 := n3_
 have BK187 := n4_
 have BK199 := n5_
 have BK213 := n6_
 have BK226 := n7_
 have HB := n8_
 clear n0_ n1_ n2_ n3_ n4_ n5_ n6_ n7_ n8_
 refine start_ (n := 32) (S := fun w' => True) (ds := []) #[F,F,F,F,F,F,F,F,F,F,F,F,F,F,F,F,F,F,F,F,F,F,F,F,F,F,F,F,F,F,F,F] s2_ rfl rfl trivial (fun hHeld => ?_); refine with_tabW laws_FnBuckets.tab14 laws_FnBuckets.bits14 (fun HT_ HW_ => ?_)
 generalize wr.drew = w130 at HO_6 HO_8 HO_12 HO_15 BK187 BK199 BK213 BK226 HB hHeld ⊢
 refine pure_ (i := 0) (N := some 107) (v := ?_) (a' := ?_) #[T,F,F,F,F,F,F,F,F,F,F,F,F,F,F,F,F,F,F,F,F,F,F,F,F,F,F,F,F,F,F,F] rfl rfl (any_of HT_.out s2_) (fun _ _ _ h => h) (Or.inl ⟨by rfl, ?_⟩) ?_ ?_
 rotate_left
 {
 intro w'
 go_simp
 with_reducible rfl}
 rotate_left
 · exact p1_
 refine pure_ (i := 1) (N := some 108) (v := ?_) (a' := ?_) #[T,T,F,F,F,F,F,F,F,F,F,F,F,F,F,F,F,F,F,F,F,F,F,F,F,F,F,F,F,F,F,F] rfl rfl (any_of HT_.out s2_) (fun _ _ _ h => h) (Or.inl ⟨by rfl, ?_⟩) ?_ ?_
 rotate_left
 {
 intro w'
 go_simp
 with_reducible rfl}
 rotate_left
 · exact p1_
 refine pure_ (i := 2) (N := some 109) (v := ?_) (a' := ?_) #[T,T,T,F,F,F,F,F,F,F,F,F,F,F,F,F,F,F,F,F,F,F,F,F,F,F,F,F,F,F,F,F] rfl rfl (any_of HT_.out s2_) (fun _ _ _ h => h) (Or.inl ⟨by rfl, ?_⟩) ?_ ?_
 rotate_left
 {
 intro w'
 go_simp
 with_reducible rfl}
 rotate_left
 · exact p1_
 refine pure_ (i := 3) (N := some 110) (v := ?_) (a' := ?_) #[T,T,T,T,F,F,F,F,F,F,F,F,F,F,F,F,F,F,F,F,F,F,F,F,F,F,F,F,F,F,F,F] rfl rfl (any_of HT_.out s2_) (fun _ _ _ h => h) (Or.inl ⟨by rfl, ?_⟩) ?_ ?_
 rotate_left
 {
 intro w'
 go_simp
 with_reducible rfl}
 rotate_left
 · exact p1_
 refine pure_ (i := 4) (N := some 111) (v := undef) (a' := ?_) #[T,T,T,T,T,F,F,F,F,F,F,F,F,F,F,F,F,F,F,F,F,F,F,F,F,F,F,F,F,F,F,F] rfl rfl (any_of HT_.out s2_) (fun _ _ _ h => h) (Or.inr ⟨by rfl, rfl⟩) ?_ ?_
 rotate_left
 · exact p1_
 refine pure_ (i := 5) (N := some 112) (v := undef) (a' := ?_) #[T,T,T,T,T,T,F,F,F,F,F,F,F,F,F,F,F,F,F,F,F,F,F,F,F,F,F,F,F,F,F,F] rfl rfl (any_of HT_.out s2_) (fun _ _ _ h => h) (Or.inr ⟨by rfl, rfl⟩) ?_ ?_
 rotate_left
 · exact p1_
 refine pure_ (i := 6) (N := some 113) (v := undef) (a' := ?_) #[T,T,T,T,T,T,T,F,F,F,F,F,F,F,F,F,F,F,F,F,F,F,F,F,F,F,F,F,F,F,F,F] rfl rfl (any_of HT_.out s2_) (fun _ _ _ h => h) (Or.inr ⟨by rfl, rfl⟩) ?_ ?_
 rotate_left
 · exact p1_
 refine pure_ (i := 7) (N := some 114) (v := undef) (a' := ?_) #[T,T,T,T,T,T,T,T,F,F,F,F,F,F,F,F,F,F,F,F,F,F,F,F,F,F,F,F,F,F,F,F] rfl rfl (any_of HT_.out s2_) (fun _ _ _ h => h) (Or.inr ⟨by rfl, rfl⟩) ?_ ?_
 rotate_left
 · exact p1_
 refine pure_ (i := 8) (N := some 115) (v := undef) (a' := ?_) #[T,T,T,T,T,T,T,T,T,F,F,F,F,F,F,F,F,F,F,F,F,F,F,F,F,F,F,F,F,F,F,F] rfl rfl (any_of HT_.out s2_) (fun _ _ _ h => h) (Or.inr ⟨by rfl, rfl⟩) ?_ ?_
 rotate_left
 · exact p1_
 refine pure_ (i := 9) (N := some 116) (v := undef) (a' := ?_) #[T,T,T,T,T,T,T,T,T,T,F,F,F,F,F,F,F,F,F,F,F,F,F,F,F,F,F,F,F,F,F,F] rfl rfl (any_of HT_.out s2_) (fun _ _ _ h => h) (Or.inr ⟨by rfl, rfl⟩) ?_ ?_
 rotate_left
 · exact p1_
 refine pure_ (i := 10) (N := some 117) (v := undef) (a' := ?_) #[T,T,T,T,T,T,T,T,T,T,T,F,F,F,F,F,F,F,F,F,F,F,F,F,F,F,F,F,F,F,F,F] rfl rfl (any_of HT_.out s2_) (fun _ _ _ h => h) (Or.inr ⟨by rfl, rfl⟩) ?_ ?_
 rotate_left
 · exact p1_
 refine pure_ (i := 11) (N := some 118) (v := undef) (a' := ?_) #[T,T,T,T,T,T,T,T,T,T,T,T,F,F,F,F,F,F,F,F,F,F,F,F,F,F,F,F,F,F,F,F] rfl rfl (any_of HT_.out s2_) (fun _ _ _ h => h) (Or.inr ⟨by rfl, rfl⟩) ?_ ?_
 rotate_left
 · exact p1_
 refine pure_ (i := 12) (N := some 119) (v := undef) (a' := ?_) #[T,T,T,T,T,T,T,T,T,T,T,T,T,F,F,F,F,F,F,F,F,F,F,F,F,F,F,F,F,F,F,F] rfl rfl (any_of HT_.out s2_) (fun _ _ _ h => h) (Or.inr ⟨by rfl, rfl⟩) ?_ ?_
 rotate_left
 · exact p1_
 refine pure_ (i := 13) (N := some 120) (v := ?_) (a' := ?_) #[T,T,T,T,T,T,T,T,T,T,T,T,T,T,F,F,F,F,F,F,F,F,F,F,F,F,F,F,F,F,F,F] rfl rfl (any_of HT_.out s2_) (fun _ _ _ h => h) (Or.inl ⟨by rfl, ?_⟩) ?_ ?_
 rotate_left
 {
 intro w'
 go_simp
 with_reducible rfl}
 rotate_left
 · exact p1_
 refine pure_ (i := 14) (N := some 121) (v := ?_) (a' := ?_) #[T,T,T,T,T,T,T,T,T,T,T,T,T,T,T,F,F,F,F,F,F,F,F,F,F,F,F,F,F,F,F,F] rfl rfl (any_of HT_.out s2_) (fun _ _ _ h => h) (Or.inl ⟨by rfl, ?_⟩) ?_ ?_
 rotate_left
 {
 intro w'
 go_simp
 with_reducible rfl}
 rotate_left
 · exact p1_
 refine pure_ (i := 15) (N := some 122) (v := ?_) (a' := ?_) #[T,T,T,T,T,T,T,T,T,T,T,T,T,T,T,T,F,F,F,F,F,F,F,F,F,F,F,F,F,F,F,F] rfl rfl (any_of HT_.out s2_) (fun _ _ _ h => h) (Or.inl ⟨by rfl, ?_⟩) ?_ ?_
 rotate_left
 {
 intro w'
 go_simp
 with_reducible rfl}
 rotate_left
 · exact p1_
 refine pure_ (i := 16) (N := some 123) (v := ?_) (a' := ?_) #[T,T,T,T,T,T,T,T,T,T,T,T,T,T,T,T,T,F,F,F,F,F,F,F,F,F,F,F,F,F,F,F] rfl rfl (any_of HT_.out s2_) (fun _ _ _ h => h) (Or.inl ⟨by rfl, ?_⟩) ?_ ?_
 rotate_left
 {
 intro w'
 go_simp
 with_reducible rfl}
 rotate_left
 · exact p1_
 refine pure_ (i := 17) (N := some 124) (v := ?_) (a' := ?_) #[T,T,T,T,T,T,T,T,T,T,T,T,T,T,T,T,T,T,F,F,F,F,F,F,F,F,F,F,F,F,F,F] rfl rfl (any_of HT_.out s2_) (fun _ _ _ h => h) (Or.inl ⟨by rfl, ?_⟩) ?_ ?_
 rotate_left
 {
 intro w'
 go_simp
 with_reducible rfl}
 rotate_left
 · exact p1_
 refine pure_ (i := 18) (N := some 125) (v := ?_) (a' := ?_) #[T,T,T,T,T,T,T,T,T,T,T,T,T,T,T,T,T,T,T,F,F,F,F,F,F,F,F,F,F,F,F,F] rfl rfl (any_of HT_.out s2_) (fun _ _ _ h => h) (Or.inl ⟨by rfl, ?_⟩) ?_ ?_
 rotate_left
 {
 intro w'
 go_simp
 with_reducible rfl}
 rotate_left
 · exact p1_
 refine pure_ (i := 19) (N := some 126) (v := undef) (a' := ?_) #[T,T,T,T,T,T,T,T,T,T,T,T,T,T,T,T,T,T,T,T,F,F,F,F,F,F,F,F,F,F,F,F] rfl rfl (any_of HT_.out s2_) (fun _ _ _ h => h) (Or.inr ⟨by rfl, rfl⟩) ?_ ?_
 rotate_left
 · exact p1_
 refine pure_ (i := 20) (N := some 127) (v := undef) (a' := ?_) #[T,T,T,T,T,T,T,T,T,T,T,T,T,T,T,T,T,T,T,T,T,F,F,F,F,F,F,F,F,F,F,F] rfl rfl (any_of HT_.out s2_) (fun _ _ _ h => h) (Or.inr ⟨by rfl, rfl⟩) ?_ ?_
 rotate_left
 · exact p1_
 refine pure_ (i := 21) (N := some 128) (v := undef) (a' := ?_) #[T,T,T,T,T,T,T,T,T,T,T,T,T,T,T,T,T,T,T,T,T,T,F,F,F,F,F,F,F,F,F,F] rfl rfl (any_of HT_.out s2_) (fun _ _ _ h => h) (Or.inr ⟨by rfl, rfl⟩) ?_ ?_
 rotate_left
 · exact p1_
 refine pure_ (i := 22) (N := some 129) (v := undef) (a' := ?_) #[T,T,T,T,T,T,T,T,T,T,T,T,T,T,T,T,T,T,T,T,T,T,T,F,F,F,F,F,F,F,F,F] rfl rfl (any_of HT_.out s2_) (fun _ _ _ h => h) (Or.inr ⟨by rfl, rfl⟩) ?_ ?_
 rotate_left
 · exact p1_
 refine pure_ (i := 23) (N := some 130) (v := undef) (a' := ?_) #[T,T,T,T,T,T,T,T,T,T,T,T,T,T,T,T,T,T,T,T,T,T,T,T,F,F,F,F,F,F,F,F] rfl rfl (any_of HT_.out s2_) (fun _ _ _ h => h) (Or.inr ⟨by rfl, rfl⟩) ?_ ?_
 rotate_left
 · exact p1_
 refine pure_ (i := 24) (N := some 131) (v := undef) (a' := ?_) #[T,T,T,T,T,T,T,T,T,T,T,T,T,T,T,T,T,T,T,T,T,T,T,T,T,F,F,F,F,F,F,F] rfl rfl (any_of HT_.out s2_) (fun _ _ _ h => h) (Or.inr ⟨by rfl, rfl⟩) ?_ ?_
 rotate_left
 · exact p1_
 refine pure_ (i := 25) (N := some 132) (v := undef) (a' := ?_) #[T,T,T,T,T,T,T,T,T,T,T,T,T,T,T,T,T,T,T,T,T,T,T,T,T,T,F,F,F,F,F,F] rfl rfl (any_of HT_.out s2_) (fun _ _ _ h => h) (Or.inr ⟨by rfl, rfl⟩) ?_ ?_
 rotate_left
 · exact p1_
 refine pure_ (i := 26) (N := some 133) (v := undef) (a' := ?_) #[T,T,T,T,T,T,T,T,T,T,T,T,T,T,T,T,T,T,T,T,T,T,T,T,T,T,T,F,F,F,F,F] rfl rfl (any_of HT_.out s2_) (fun _ _ _ h => h) (Or.inr ⟨by rfl, rfl⟩) ?_ ?_
 rotate_left
 · exact p1_
 refine pure_ (i := 27) (N := some 134) (v := undef) (a' := ?_) #[T,T,T,T,T,T,T,T,T,T,T,T,T,T,T,T,T,T,T,T,T,T,T,T,T,T,T,T,F,F,F,F] rfl rfl (any_of HT_.out s2_) (fun _ _ _ h => h) (Or.inr ⟨by rfl, rfl⟩) ?_ ?_
 rotate_left
 · exact p1_
 refine pure_ (i := 28) (N := some 135) (v := undef) (a' := ?_) #[T,T,T,T,T,T,T,T,T,T,T,T,T,T,T,T,T,T,T,T,T,T,T,T,T,T,T,T,T,F,F,F] rfl rfl (any_of HT_.out s2_) (fun _ _ _ h => h) (Or.inr ⟨by rfl, rfl⟩) ?_ ?_
 rotate_left
 · exact p1_
 refine pure_ (i := 29) (N := some 136) (v := undef) (a' := ?_) #[T,T,T,T,T,T,T,T,T,T,T,T,T,T,T,T,T,T,T,T,T,T,T,T,T,T,T,T,T,T,F,F] rfl rfl (any_of HT_.out s2_) (fun _ _ _ h => h) (Or.inr ⟨by rfl, rfl⟩) ?_ ?_
 rotate_left
 · exact p1_
 refine pure_ (i := 30) (N := some 137) (v := ?_) (a' := ?_) #[T,T,T,T,T,T,T,T,T,T,T,T,T,T,T,T,T,T,T,T,T,T,T,T,T,T,T,T,T,T,T,F] rfl rfl (any_of HT_.out s2_) (fun _ _ _ h => h) (Or.inl ⟨by rfl, ?_⟩) ?_ ?_
 rotate_left
 {
 intro w'
 go_simp
 with_reducible rfl}
 rotate_left
 · exact p1_
 refine pure_ (i := 31) (N := some 138) (v := ?_) (a' := ?_) #[T,T,T,T,T,T,T,T,T,T,T,T,T,T,T,T,T,T,T,T,T,T,T,T,T,T,T,T,T,T,T,T] rfl rfl (any_of HT_.out s2_) (fun _ _ _ h => h) (Or.inl ⟨by rfl, ?_⟩) ?_ ?_
 rotate_left
 {
 intro w'
 go_simp
 with_reducible rfl}
 rotate_left
 · exact p1_
 refine done_ (done_of HT_.out s2_) ?_
 try go_wp2
 go_meet
 case rel => exact ⟨_, (false), s1_, H', ⟨by have := HJ14.out; have := HK2.out; first | omega | exact Nat.le_refl _⟩, ⟨b2_ HO_6.out⟩, ⟨b2_ HO_8.out⟩, ⟨b2_ HO_12.out⟩, ⟨b2_ HO_15.out⟩, ⟨b1_ BK187.out⟩, ⟨b1_ BK199.out⟩, ⟨b1_ BK213.out⟩, ⟨b1_ BK226.out⟩, ⟨by repeat (first | (with_reducible first | exact HB.out | apply below_alloc | apply pw_below_drewN | apply below_drew1 | refine below_set ?_ GE187.out | refine below_set ?_ GE199.out | refine below_set ?_ GE213.out | refine below_set ?_ GE226.out) | exact HB.out)⟩⟩}}}
 case rest =>
  skip
  {
 clear HC101
 try clear c1
 try clear p2
 try clear q2
 try clear hx2
 try clear p6
 try clear c10
 try clear c12
 try clear p23
 try clear q23
 try clear hx23
 try clear p64
 try clear c102
 try clear c102b0
 try clear c103
 try clear c104
 try clear c105
 try clear c121
 try clear c121b0
 try clear c123
 try clear c123b0
 try clear c124
 try clear c124b0
 try clear c125
 try clear c125b0
 try clear c126
 try clear c126b0
 try clear hx232_0
 try clear hx233_0
 try clear p232
 try clear p233
 try clear q232
 try clear q233
 obtain ⟨kq, x138_100, rfl, HA, HJ100, HO_6, HO_8, HO_12, HO_15, BK187, BK199, BK213, BK226, HB⟩ := hcut
 cases kq with
 | zero => exact absurd HA.out (by simp [laws_FnBuckets.j2])
 | succ kj100 =>
  skip
  {
 have H := HA.out
 clear HA
 simp only [laws_FnBuckets.j2] at H
 by_cases c131 : x138_100 = true
 {
 subst c131
 have H1 : (some false) = some r := by rw [if_pos rfl] at H; exact H
 clear H
 have H := H1
 clear H1
 obtain rfl := Option.some.inj H
 go_wp2
 go_ret
 exact ⟨by first | rfl | (simp [errW_none, errW_some] <;> rfl) | (simp [*, errW_none, errW_some] <;> rfl), by repeat (first | (with_reducible first | exact HB.out | apply below_alloc | apply pw_below_drewN | apply below_drew1 | refine below_set ?_ GE187.out | refine below_set ?_ GE199.out | refine below_set ?_ GE213.out | refine below_set ?_ GE226.out) | exact HB.out)⟩}
 {
 replace c131 := Bool.eq_false_iff.mpr c131
 subst c131
 have H1 : (laws_FnBuckets.l1 kj100 t188 t195 t200 t209 t222 x17_2 0 x17_2 t183 t184 t185 t186) = some r := by rw [if_neg (show ¬ (false = true) by decide)] at H; exact H
 clear H
 have H := H1
 clear H1
 have H' := Aside0.mk H
 clear H
 go_wp2
 go_loopg [18, 19] kj100 (fun kq v18 v19 w' => ∃ (x18_4 : Int) (x19_4 : Int), v18 = .int .i64 x18_4 ∧ v19 = .int .i64 x19_4 ∧ Aside0 (laws_FnBuckets.l1 kq t188 t195 t200 t209 t222 x17_2 x18_4 x19_4 t183 t184 t185 t186 = some r) ∧ Aside0 (kq ≤ kj100) ∧ Aside0 (Kd.R (Kd.int .i64) 2 w' w.heap.size (fun _ => True) (.slice Ao21 t188.length co21) t188) ∧ Aside0 (Kd.R Kd.bool 4 w' w.heap.size (fun k_ => some k_ ≠ (v210 : Value).ownBlock ∧ some k_ ≠ (v223 : Value).ownBlock) v196 t195) ∧ Aside0 (Kd.R Kd.bool 4 w' w.heap.size (fun k_ => some k_ ≠ (v196 : Value).ownBlock ∧ some k_ ≠ (v223 : Value).ownBlock) v210 t209) ∧ Aside0 (Kd.R Kd.bool 4 w' w.heap.size (fun k_ => some k_ ≠ (v196 : Value).ownBlock ∧ some k_ ≠ (v210 : Value).ownBlock) v223 t222) ∧ Aside0 (w'.heap[gb187]? = some (.cells #[.int .i64 t183, .int .i64 t184, .int .i64 t185, .int .i64 t186] 25 (0, 0))) ∧ Aside0 (w'.heap[gb199]? = some (.cells #[.int .i64 t191, .int .i64 t192, .int .i64 t193, .int .i64 t194] 25 (0, 0))) ∧ Aside0 (w'.heap[gb213]? = some (.cells #[.int .i64 t205, .int .i64 t206, .int .i64 t207, .int .i64 t208] 25 (0, 0))) ∧ Aside0 (w'.heap[gb226]? = some (.cells #[.int .i64 t218, .int .i64 t219, .int .i64 t220, .int .i64 t221] 25 (0, 0))) ∧ Aside0 (Below w.heap.size w w'))
 case atStart => exact ⟨(0), (x17_2), s1_, s1_, H', ⟨Nat.le_refl _⟩, ⟨b2_ HO_6.out⟩, ⟨b2_ HO_8.out⟩, ⟨b2_ HO_12.out⟩, ⟨b2_ HO_15.out⟩, ⟨b1_ BK187.out⟩, ⟨b1_ BK199.out⟩, ⟨b1_ BK213.out⟩, ⟨b1_ BK226.out⟩, ⟨by repeat (first | (with_reducible first | exact HB.out | apply below_alloc | apply pw_below_drewN | apply below_drew1 | refine below_set ?_ GE187.out | refine below_set ?_ GE199.out | refine below_set ?_ GE213.out | refine below_set ?_ GE226.out) | exact HB.out)⟩⟩
 case round =>
  skip
  {
 clear H'
 try clear c1
 try clear p2
 try clear q2
 try clear hx2
 try clear p6
 try clear c10
 try clear c12
 try clear c13
 try clear p23
 try clear q23
 try clear hx23
 try clear p64
 try clear c102
 try clear c102b0
 try clear c103
 try clear c104
 try clear c105
 try clear c121
 try clear c121b0
 try clear c123
 try clear c123b0
 try clear c124
 try clear c124b0
 try clear c125
 try clear c125b0
 try clear c126
 try clear c126b0
 try clear c131
 try clear hx232_0
 try clear hx233_0
 try clear p2
 try clear p23
 try clear p232
 try clear p233
 try clear p6
 try clear p64
 try clear q2
 try clear q23
 try clear q232
 try clear q233
 obtain ⟨x18_4, x19_4, rfl, rfl, HA, HK4, HO_6, HO_8, HO_12, HO_15, BK187, BK199, BK213, BK226, HB⟩ := hrel
 cases gk with
 | zero => exact absurd HA.out (by simp [laws_FnBuckets.l1])
 | succ k4 =>
  skip
  {
 have H := HA.out
 clear HA
 simp only [laws_FnBuckets.l1] at H
 by_cases c132 : x19_4 < (t188.length : Int)
 {
 rw [if_pos c132] at H
 have c132b0 : decide (x19_4 < (t188.length : Int)) = true := decide_eq_true c132
 clear c132
 by_cases c133 : 0 ≤ x19_4
 {
 rw [if_pos c133] at H
 have c133b0 : decide (0 ≤ x19_4) = true := decide_eq_true c133
 clear c133
 by_cases c134 : x19_4 < (t195.length : Int)
 {
 rw [if_pos c134] at H
 have c134b0 : decide (x19_4 < (t195.length : Int)) = true := decide_eq_true c134
 clear c134
 obtain ⟨bq135, hbq135⟩ : ∃ b_ : Bool, b_ = (rdOf false t195 x19_4) := ⟨_, rfl⟩
 replace H : (if bq135 = true then (if 0 ≤ x17_2 then (if x17_2 < (t188.length : Int) then (if t184 = 0 then (none) else (if (wrap64 (x18_4 + 1)) > (wrap64 (t183 + (wrap64 (Int.tdiv (wrap64 ((rd t188 x19_4) - (rd t188 x17_2))) t184)))) then (some false) else (laws_FnBuckets.l1 k4 t188 t195 t200 t209 t222 x17_2 (wrap64 (x18_4 + 1)) (wrap64 (x19_4 + 1)) t183 t184 t185 t186))) else (none)) else (none)) else (if 0 ≤ x17_2 then (if x17_2 < (t188.length : Int) then (if t184 = 0 then (none) else (if x18_4 > (wrap64 (t183 + (wrap64 (Int.tdiv (wrap64 ((rd t188 x19_4) - (rd t188 x17_2))) t184)))) then (some false) else (laws_FnBuckets.l1 k4 t188 t195 t200 t209 t222 x17_2 x18_4 (wrap64 (x19_4 + 1)) t183 t184 t185 t186))) else (none)) else (none))) = some r := by rw [← hbq135] at H; exact H
 have Nbq135 := Aside0.mk hbq135
 clear hbq135
 by_cases c136 : bq135 = true
 {
 subst c136
 have H1 : (if 0 ≤ x17_2 then (if x17_2 < (t188.length : Int) then (if t184 = 0 then (none) else (if (wrap64 (x18_4 + 1)) > (wrap64 (t183 + (wrap64 (Int.tdiv (wrap64 ((rd t188 x19_4) - (rd t188 x17_2))) t184)))) then (some false) else (laws_FnBuckets.l1 k4 t188 t195 t200 t209 t222 x17_2 (wrap64 (x18_4 + 1)) (wrap64 (x19_4 + 1)) t183 t184 t185 t186))) else (none)) else (none)) = some r := by rw [if_pos rfl] at H; exact H
 clear H
 have H := H1
 clear H1
 by_cases c137 : 0 ≤ x17_2
 {
 rw [if_pos c137] at H
 have c137b0 : decide (0 ≤ x17_2) = true := decide_eq_true c137
 clear c137
 by_cases c138 : x17_2 < (t188.length : Int)
 {
 rw [if_pos c138] at H
 have c138b0 : decide (x17_2 < (t188.length : Int)) = true := decide_eq_true c138
 clear c138
 by_cases c139 : t184 = 0
 {
 rw [if_pos c139] at H
 exact absurd H (by simp)}
 {
 rw [if_neg c139] at H
 have c139b0 : (t184 == 0) = false := beq_eq_false_iff_ne.mpr c139
 have c139b1 : (t184 != 0) = true := bne_iff_ne.mpr c139
 by_cases c140 : (wrap64 (x18_4 + 1)) > (wrap64 (t183 + (wrap64 (Int.tdiv (wrap64 ((rd t188 x19_4) - (rd t188 x17_2))) t184))))
 {
 rw [if_pos c140] at H
 have c140b0 : decide ((wrap64 (t183 + (wrap64 (Int.tdiv (wrap64 ((rd t188 x19_4) - (rd t188 x17_2))) t184)))) < (wrap64 (x18_4 + 1))) = true := decide_eq_true c140
 clear c140
 obtain rfl := Option.some.inj H
 obtain ⟨Ao141, co141, eo141⟩ := Kd.R_slice HO_8.out
 subst eo141
 have p234 : 0 ≤ (x19_4 : Int) := of_decide_eq_true (by first | (with_reducible assumption) | assumption)
 have q234 : x19_4 < (t195.length : Int) := of_decide_eq_true (by first | (with_reducible assumption) | assumption)
 obtain ⟨ad234, e234, hx234_0⟩ := Kd.at_bool (Kd.R_reads' HO_8.out).2.2 x19_4 p234 q234
 (try rw [← Nbq135.out] at hx234_0)
 cases e234
 replace p234 := eq_true p234
 replace q234 := eq_true q234
 try go_wp2
 have n0_ := Aside0.mk (Kd.R_drew HO_6.out)
 have n1_ := Aside0.mk (Kd.R_drew HO_8.out)
 have n2_ := Aside0.mk (Kd.R_drew HO_12.out)
 have n3_ := Aside0.mk (Kd.R_drew HO_15.out)
 have n4_ := Aside0.mk (blk_drew BK187.out)
 have n5_ := Aside0.mk (blk_drew BK199.out)
 have n6_ := Aside0.mk (blk_drew BK213.out)
 have n7_ := Aside0.mk (blk_drew BK226.out)
 have n8_ := Aside0.mk (below_drew1 HB.out)
 clear HO_6
 clear HO_8
 clear HO_12
 clear HO_15
 clear BK187
 clear BK199
 clear BK213
 clear BK226
 clear HB
 have HO_6 := n0_
 have HO_8 := n1_
 have HO_12 := n2_
 have HO_15 := n3_
 have BK187 := n4_
 have BK199 := n5_
 have BK213 := n6_
 have BK226 := n7_
 have HB := n8_
 clear n0_ n1_ n2_ n3_ n4_ n5_ n6_ n7_ n8_
 have p235 : 0 ≤ (x19_4 : Int) := of_decide_eq_true (by first | (with_reducible assumption) | assumption)
 have q235 : x19_4 < (t188.length : Int) := of_decide_eq_true (by first | (with_reducible assumption) | assumption)
 obtain ⟨ad235, e235, hx235_0⟩ := Kd.at_int (Kd.R_reads' HO_6.out).2.2 x19_4 p235 q235
 cases e235
 replace p235 := eq_true p235
 replace q235 := eq_true q235
 have p236 : 0 ≤ (x17_2 : Int) := of_decide_eq_true (by first | (with_reducible assumption) | assumption)
 have q236 : x17_2 < (t188.length : Int) := of_decide_eq_true (by first | (with_reducible assumption) | assumption)
 obtain ⟨ad236, e236, hx236_0⟩ := Kd.at_int (Kd.R_reads' HO_6.out).2.2 x17_2 p236 q236
 obtain rfl : ad235 = ad236 := (by injection e236)
 replace p236 := eq_true p236
 replace q236 := eq_true q236
 refine start_ (n := 17) (S := fun w' => w'.cell? ⟨gb187, 0, none⟩ = some (.int .i64 t183) ∧ w'.cell? ⟨gb187, 1, none⟩ = some (.int .i64 t184) ∧ w'.cell? ⟨gb187, 2, none⟩ = some (.int .i64 t185) ∧ w'.cell? ⟨gb187, 3, none⟩ = some (.int .i64 t186) ∧ w'.cell? (ad235.add (x19_4).toNat) = some (.int .i64 (rd t188 x19_4)) ∧ w'.cell? (ad235.add (x17_2).toNat) = some (.int .i64 (rd t188 x17_2))) (ds := []) #[F,F,F,F,F,F,F,F,F,F,F,F,F,F,F,F,F] s2_ rfl rfl ⟨(blk_cell BK187.out 0).trans rfl, (blk_cell BK187.out 1).trans rfl, (blk_cell BK187.out 2).trans rfl, (blk_cell BK187.out 3).trans rfl, hx235_0, hx236_0⟩ (fun hHeld => ?_); refine with_tabW laws_FnBuckets.tab22 laws_FnBuckets.bits22 (fun HT_ HW_ => ?_)
 generalize wr.drew = w142 at HO_6 HO_8 HO_12 HO_15 BK187 BK199 BK213 BK226 HB hx235_0 hx236_0 hHeld ⊢
 refine pure_ (i := 0) (N := some 152) (v := ?_) (a' := ?_) #[T,F,F,F,F,F,F,F,F,F,F,F,F,F,F,F,F] rfl rfl (any_of HT_.out s2_) (fun _ _ _ h => h) (Or.inl ⟨by rfl, ?_⟩) ?_ ?_
 rotate_left
 {
 intro w'
 go_simp
 with_reducible rfl}
 rotate_left
 · exact p1_
 refine pure_ (i := 1) (N := some 153) (v := ?_) (a' := ?_) #[T,T,F,F,F,F,F,F,F,F,F,F,F,F,F,F,F] rfl rfl (any_of HT_.out s2_) (fun _ _ _ h => h) (Or.inl ⟨by rfl, ?_⟩) ?_ ?_
 rotate_left
 {
 intro w'
 go_simp
 with_reducible rfl}
 rotate_left
 · exact p1_
 refine pure_ (i := 3) (N := some 155) (v := ?_) (a' := ?_) #[T,T,F,T,F,F,F,F,F,F,F,F,F,F,F,F,F] rfl rfl (any_of HT_.out s2_) (fun _ _ _ h => h) (Or.inl ⟨by rfl, ?_⟩) ?_ ?_
 rotate_left
 {
 intro w'
 go_simp
 with_reducible rfl}
 rotate_left
 · exact p1_
 refine pure_ (i := 4) (N := some 156) (v := ?_) (a' := ?_) #[T,T,F,T,T,F,F,F,F,F,F,F,F,F,F,F,F] rfl rfl (any_of HT_.out s2_) (fun _ _ _ h => h) (Or.inl ⟨by rfl, ?_⟩) ?_ ?_
 rotate_left
 {
 intro w'
 go_simp
 with_reducible rfl}
 rotate_left
 · exact p1_
 refine pure_ (i := 5) (N := some 157) (v := ?_) (a' := ?_) #[T,T,F,T,T,T,F,F,F,F,F,F,F,F,F,F,F] rfl rfl (any_of HT_.out s2_) (fun _ _ _ h => h) (Or.inl ⟨by rfl, ?_⟩) ?_ ?_
 rotate_left
 {
 intro w'
 go_simp
 with_reducible rfl}
 rotate_left
 · exact p1_
 refine pure_ (i := 7) (N := some 159) (v := ?_) (a' := ?_) #[T,T,F,T,T,T,F,T,F,F,F,F,F,F,F,F,F] rfl rfl (any_of HT_.out s2_) (fun _ _ _ h => h) (Or.inl ⟨by rfl, ?_⟩) ?_ ?_
 rotate_left
 {
 intro w'
 go_simp
 with_reducible rfl}
 rotate_left
 · exact p1_
 refine pure_ (i := 8) (N := some 160) (v := ?_) (a' := ?_) #[T,T,F,T,T,T,F,T,T,F,F,F,F,F,F,F,F] rfl rfl (any_of HT_.out s2_) (fun _ _ _ h => h) (Or.inl ⟨by rfl, ?_⟩) ?_ ?_
 rotate_left
 {
 intro w'
 go_simp
 with_reducible rfl}
 rotate_left
 · exact p1_
 refine pure_ (i := 9) (N := some 161) (v := ?_) (a' := ?_) #[T,T,F,T,T,T,F,T,T,T,F,F,F,F,F,F,F] rfl rfl (any_of HT_.out s2_) (fun _ _ _ h => h) (Or.inl ⟨by rfl, ?_⟩) ?_ ?_
 rotate_left
 {
 intro w'
 go_simp
 with_reducible rfl}
 rotate_left
 · exact p1_
 refine pure_ (i := 12) (N := some 164) (v := ?_) (a' := ?_) #[T,T,F,T,T,T,F,T,T,T,F,F,T,F,F,F,F] rfl rfl (any_of HT_.out s2_) (fun _ _ _ h => h) (Or.inl ⟨by rfl, ?_⟩) ?_ ?_
 rotate_left
 {
 intro w'
 go_simp
 with_reducible rfl}
 rotate_left
 · exact p1_
 refine take_ (i := 2) (N := some 154) (v := ?_) (a' := ?_) #[T,T,T,T,T,T,F,T,T,T,F,F,T,F,F,F,F] rfl rfl (take_ofW HT_.out HW_.out s2_) (fun _ _ _ h => h) (Or.inl ⟨by rfl, ?_⟩) hHeld ?_ ?_
 rotate_left
 {
 rintro w' ⟨s0, s1, s2, s3, s4, s5⟩
 go_simp
 with_reducible rfl}
 rotate_left
 · exact p1_
 refine take_ (i := 6) (N := some 158) (v := ?_) (a' := ?_) #[T,T,T,T,T,T,T,T,T,T,F,F,T,F,F,F,F] rfl rfl (take_ofW HT_.out HW_.out s2_) (fun _ _ _ h => h) (Or.inl ⟨by rfl, ?_⟩) hHeld ?_ ?_
 rotate_left
 {
 rintro w' ⟨s0, s1, s2, s3, s4, s5⟩
 go_simp
 with_reducible rfl}
 rotate_left
 · exact p1_
 refine take_ (i := 10) (N := some 162) (v := ?_) (a' := ?_) #[T,T,T,T,T,T,T,T,T,T,T,F,T,F,F,F,F] rfl rfl (take_ofW HT_.out HW_.out s2_) (fun _ _ _ h => h) (Or.inl ⟨by rfl, ?_⟩) hHeld ?_ ?_
 rotate_left
 {
 rintro w' ⟨s0, s1, s2, s3, s4, s5⟩
 go_simp
 with_reducible rfl}
 rotate_left
 · exact p1_
 refine pure_ (i := 11) (N := some 163) (v := ?_) (a' := ?_) #[T,T,T,T,T,T,T,T,T,T,T,T,T,F,F,F,F] rfl rfl (any_of HT_.out s2_) (fun _ _ _ h => h) (Or.inl ⟨by rfl, ?_⟩) ?_ ?_
 rotate_left
 {
 intro w'
 go_simp
 with_reducible rfl}
 rotate_left
 · exact p1_
 refine take_ (i := 13) (N := some 165) (v := ?_) (a' := ?_) #[T,T,T,T,T,T,T,T,T,T,T,T,T,T,F,F,F] rfl rfl (take_ofW HT_.out HW_.out s2_) (fun _ _ _ h => h) (Or.inl ⟨by rfl, ?_⟩) hHeld ?_ ?_
 rotate_left
 {
 rintro w' ⟨s0, s1, s2, s3, s4, s5⟩
 go_simp
 with_reducible rfl}
 rotate_left
 · exact p1_
 refine pure_ (i := 14) (N := some 166) (v := ?_) (a' := ?_) #[T,T,T,T,T,T,T,T,T,T,T,T,T,T,T,F,F] rfl rfl (any_of HT_.out s2_) (fun _ _ _ h => h) (Or.inl ⟨by rfl, ?_⟩) ?_ ?_
 rotate_left
 {
 intro w'
 go_simp
 with_reducible rfl}
 rotate_left
 · exact p1_
 refine pure_ (i := 15) (N := some 167) (v := ?_) (a' := ?_) #[T,T,T,T,T,T,T,T,T,T,T,T,T,T,T,T,F] rfl rfl (any_of HT_.out s2_) (fun _ _ _ h => h) (Or.inl ⟨by rfl, ?_⟩) ?_ ?_
 rotate_left
 {
 intro w'
 go_simp
 with_reducible rfl}
 rotate_left
 · exact p1_
 refine pure_ (i := 16) (N := some 168) (v := ?_) (a' := ?_) #[T,T,T,T,T,T,T,T,T,T,T,T,T,T,T,T,T] rfl rfl (any_of HT_.out s2_) (fun _ _ _ h => h) (Or.inl ⟨by rfl, ?_⟩) ?_ ?_
 rotate_left
 {
 intro w'
 go_simp
 with_reducible rfl}
 rotate_left
 · exact p1_
 refine done_ (done_of HT_.out s2_) ?_
 try go_wp2
 go_ret
 exact ⟨by first | rfl | (simp [errW_none, errW_some] <;> rfl) | (simp [*, errW_none, errW_some] <;> rfl), by repeat (first | (with_reducible first | exact HB.out | apply below_alloc | apply pw_below_drewN | apply below_drew1 | refine below_set ?_ GE187.out | refine below_set ?_ GE199.out | refine below_set ?_ GE213.out | refine below_set ?_ GE226.out) | exact HB.out)⟩}
 {
 rw [if_neg c140] at H
 have c140b0 : decide ((wrap64 (t183 + (wrap64 (Int.tdiv (wrap64 ((rd t188 x19_4) - (rd t188 x17_2))) t184)))) < (wrap64 (x18_4 + 1))) = false := decide_eq_false c140
 clear c140
 have H' := Aside0.mk H
 clear H
 obtain ⟨Ao143, co143, eo143⟩ := Kd.R_slice HO_8.out
 subst eo143
 have p234 : 0 ≤ (x19_4 : Int) := of_decide_eq_true (by first | (with_reducible assumption) | assumption)
 have q234 : x19_4 < (t195.length : Int) := of_decide_eq_true (by first | (with_reducible assumption) | assumption)
 obtain ⟨ad234, e234, hx234_0⟩ := Kd.at_bool (Kd.R_reads' HO_8.out).2.2 x19_4 p234 q234
 (try rw [← Nbq135.out] at hx234_0)
 cases e234
 replace p234 := eq_true p234
 replace q234 := eq_true q234
 try go_wp2
 have n0_ := Aside0.mk (Kd.R_drew HO_6.out)
 have n1_ := Aside0.mk (Kd.R_drew HO_8.out)
 have n2_ := Aside0.mk (Kd.R_drew HO_12.out)
 have n3_ := Aside0.mk (Kd.R_drew HO_15.out)
 have n4_ := Aside0.mk (blk_drew BK187.out)
 have n5_ := Aside0.mk (blk_drew BK199.out)
 have n6_ := Aside0.mk (blk_drew BK213.out)
 have n7_ := Aside0.mk (blk_drew BK226.out)
 have n8_ := Aside0.mk (below_drew1 HB.out)
 clear HO_6
 clear HO_8
 clear HO_12
 clear HO_15
 clear BK187
 clear BK199
 clear BK213
 clear BK226
 clear HB
 have HO_6 := n0_
 have HO_8 := n1_
 have HO_12 := n2_
 have HO_15 := n3_
 have BK187 := n4_
 have BK199 := n5_
 have BK213 := n6_
 have BK226 := n7_
 have HB := n8_
 clear n0_ n1_ n2_ n3_ n4_ n5_ n6_ n7_ n8_
 have p235 : 0 ≤ (x19_4 : Int) := of_decide_eq_true (by first | (with_reducible assumption) | assumption)
 have q235 : x19_4 < (t188.length : Int) := of_decide_eq_true (by first | (with_reducible assumption) | assumption)
 obtain ⟨ad235, e235, hx235_0⟩ := Kd.at_int (Kd.R_reads' HO_6.out).2.2 x19_4 p235 q235
 cases e235
 replace p235 := eq_true p235
 replace q235 := eq_true q235
 have p236 : 0 ≤ (x17_2 : Int) := of_decide_eq_true (by first | (with_reducible assumption) | assumption)
 have q236 : x17_2 < (t188.length : Int) := of_decide_eq_true (by first | (with_reducible assumption) | assumption)
 obtain ⟨ad236, e236, hx236_0⟩ := Kd.at_int (Kd.R_reads' HO_6.out).2.2 x17_2 p236 q236
 obtain rfl : ad235 = ad236 := (by injection e236)
 replace p236 := eq_true p236
 replace q236 := eq_true q236
 refine start_ (n := 17) (S := fun w' => w'.cell? ⟨gb187, 0, none⟩ = some (.int .i64 t183) ∧ w'.cell? ⟨gb187, 1, none⟩ = some (.int .i64 t184) ∧ w'.cell? ⟨gb187, 2, none⟩ = some (.int .i64 t185) ∧ w'.cell? ⟨gb187, 3, none⟩ = some (.int .i64 t186) ∧ w'.cell? (ad235.add (x19_4).toNat) = some (.int .i64 (rd t188 x19_4)) ∧ w'.cell? (ad235.add (x17_2).toNat) = some (.int .i64 (rd t188 x17_2))) (ds := []) #[F,F,F,F,F,F,F,F,F,F,F,F,F,F,F,F,F] s2_ rfl rfl ⟨(blk_cell BK187.out 0).trans rfl, (blk_cell BK187.out 1).trans rfl, (blk_cell BK187.out 2).trans rfl, (blk_cell BK187.out 3).trans rfl, hx235_0, hx236_0⟩ (fun hHeld => ?_); refine with_tabW laws_FnBuckets.tab22 laws_FnBuckets.bits22 (fun HT_ HW_ => ?_)
 generalize wr.drew = w144 at HO_6 HO_8 HO_12 HO_15 BK187 BK199 BK213 BK226 HB hx235_0 hx236_0 hHeld ⊢
 refine pure_ (i := 0) (N := some 152) (v := ?_) (a' := ?_) #[T,F,F,F,F,F,F,F,F,F,F,F,F,F,F,F,F] rfl rfl (any_of HT_.out s2_) (fun _ _ _ h => h) (Or.inl ⟨by rfl, ?_⟩) ?_ ?_
 rotate_left
 {
 intro w'
 go_simp
 with_reducible rfl}
 rotate_left
 · exact p1_
 refine pure_ (i := 1) (N := some 153) (v := ?_) (a' := ?_) #[T,T,F,F,F,F,F,F,F,F,F,F,F,F,F,F,F] rfl rfl (any_of HT_.out s2_) (fun _ _ _ h => h) (Or.inl ⟨by rfl, ?_⟩) ?_ ?_
 rotate_left
 {
 intro w'
 go_simp
 with_reducible rfl}
 rotate_left
 · exact p1_
 refine pure_ (i := 3) (N := some 155) (v := ?_) (a' := ?_) #[T,T,F,T,F,F,F,F,F,F,F,F,F,F,F,F,F] rfl rfl (any_of HT_.out s2_) (fun _ _ _ h => h) (Or.inl ⟨by rfl, ?_⟩) ?_ ?_
 rotate_left
 {
 intro w'
 go_simp
 with_reducible rfl}
 rotate_left
 · exact p1_
 refine pure_ (i := 4) (N := some 156) (v := ?_) (a' := ?_) #[T,T,F,T,T,F,F,F,F,F,F,F,F,F,F,F,F] rfl rfl (any_of HT_.out s2_) (fun _ _ _ h => h) (Or.inl ⟨by rfl, ?_⟩) ?_ ?_
 rotate_left
 {
 intro w'
 go_simp
 with_reducible rfl}
 rotate_left
 · exact p1_
 refine pure_ (i := 5) (N := some 157) (v := ?_) (a' := ?_) #[T,T,F,T,T,T,F,F,F,F,F,F,F,F,F,F,F] rfl rfl (any_of HT_.out s2_) (fun _ _ _ h => h) (Or.inl ⟨by rfl, ?_⟩) ?_ ?_
 rotate_left
 {
 intro w'
 go_simp
 with_reducible rfl}
 rotate_left
 · exact p1_
 refine pure_ (i := 7) (N := some 159) (v := ?_) (a' := ?_) #[T,T,F,T,T,T,F,T,F,F,F,F,F,F,F,F,F] rfl rfl (any_of HT_.out s2_) (fun _ _ _ h => h) (Or.inl ⟨by rfl, ?_⟩) ?_ ?_
 rotate_left
 {
 intro w'
 go_simp
 with_reducible rfl}
 rotate_left
 · exact p1_
 refine pure_ (i := 8) (N := some 160) (v := ?_) (a' := ?_) #[T,T,F,T,T,T,F,T,T,F,F,F,F,F,F,F,F] rfl rfl (any_of HT_.out s2_) (fun _ _ _ h => h) (Or.inl ⟨by rfl, ?_⟩) ?_ ?_
 rotate_left
 {
 intro w'
 go_simp
 with_reducible rfl}
 rotate_left
 · exact p1_
 refine pure_ (i := 9) (N := some 161) (v := ?_) (a' := ?_) #[T,T,F,T,T,T,F,T,T,T,F,F,F,F,F,F,F] rfl rfl (any_of HT_.out s2_) (fun _ _ _ h => h) (Or.inl ⟨by rfl, ?_⟩) ?_ ?_
 rotate_left
 {
 intro w'
 go_simp
 with_reducible rfl}
 rotate_left
 · exact p1_
 refine pure_ (i := 12) (N := some 164) (v := ?_) (a' := ?_) #[T,T,F,T,T,T,F,T,T,T,F,F,T,F,F,F,F] rfl rfl (any_of HT_.out s2_) (fun _ _ _ h => h) (Or.inl ⟨by rfl, ?_⟩) ?_ ?_
 rotate_left
 {
 intro w'
 go_simp
 with_reducible rfl}
 rotate_left
 · exact p1_
 refine take_ (i := 2) (N := some 154) (v := ?_) (a' := ?_) #[T,T,T,T,T,T,F,T,T,T,F,F,T,F,F,F,F] rfl rfl (take_ofW HT_.out HW_.out s2_) (fun _ _ _ h => h) (Or.inl ⟨by rfl, ?_⟩) hHeld ?_ ?_
 rotate_left
 {
 rintro w' ⟨s0, s1, s2, s3, s4, s5⟩
 go_simp
 with_reducible rfl}
 rotate_left
 · exact p1_
 refine take_ (i := 6) (N := some 158) (v := ?_) (a' := ?_) #[T,T,T,T,T,T,T,T,T,T,F,F,T,F,F,F,F] rfl rfl (take_ofW HT_.out HW_.out s2_) (fun _ _ _ h => h) (Or.inl ⟨by rfl, ?_⟩) hHeld ?_ ?_
 rotate_left
 {
 rintro w' ⟨s0, s1, s2, s3, s4, s5⟩
 go_simp
 with_reducible rfl}
 rotate_left
 · exact p1_
 refine take_ (i := 10) (N := some 162) (v := ?_) (a' := ?_) #[T,T,T,T,T,T,T,T,T,T,T,F,T,F,F,F,F] rfl rfl (take_ofW HT_.out HW_.out s2_) (fun _ _ _ h => h) (Or.inl ⟨by rfl, ?_⟩) hHeld ?_ ?_
 rotate_left
 {
 rintro w' ⟨s0, s1, s2, s3, s4, s5⟩
 go_simp
 with_reducible rfl}
 rotate_left
 · exact p1_
 refine pure_ (i := 11) (N := some 163) (v := ?_) (a' := ?_) #[T,T,T,T,T,T,T,T,T,T,T,T,T,F,F,F,F] rfl rfl (any_of HT_.out s2_) (fun _ _ _ h => h) (Or.inl ⟨by rfl, ?_⟩) ?_ ?_
 rotate_left
 {
 intro w'
 go_simp
 with_reducible rfl}
 rotate_left
 · exact p1_
 refine take_ (i := 13) (N := some 165) (v := ?_) (a' := ?_) #[T,T,T,T,T,T,T,T,T,T,T,T,T,T,F,F,F] rfl rfl (take_ofW HT_.out HW_.out s2_) (fun _ _ _ h => h) (Or.inl ⟨by rfl, ?_⟩) hHeld ?_ ?_
 rotate_left
 {
 rintro w' ⟨s0, s1, s2, s3, s4, s5⟩
 go_simp
 with_reducible rfl}
 rotate_left
 · exact p1_
 refine pure_ (i := 14) (N := some 166) (v := ?_) (a' := ?_) #[T,T,T,T,T,T,T,T,T,T,T,T,T,T,T,F,F] rfl rfl (any_of HT_.out s2_) (fun _ _ _ h => h) (Or.inl ⟨by rfl, ?_⟩) ?_ ?_
 rotate_left
 {
 intro w'
 go_simp
 with_reducible rfl}
 rotate_left
 · exact p1_
 refine pure_ (i := 15) (N := some 167) (v := ?_) (a' := ?_) #[T,T,T,T,T,T,T,T,T,T,T,T,T,T,T,T,F] rfl rfl (any_of HT_.out s2_) (fun _ _ _ h => h) (Or.inl ⟨by rfl, ?_⟩) ?_ ?_
 rotate_left
 {
 intro w'
 go_simp
 with_reducible rfl}
 rotate_left
 · exact p1_
 refine pure_ (i := 16) (N := some 168) (v := ?_) (a' := ?_) #[T,T,T,T,T,T,T,T,T,T,T,T,T,T,T,T,T] rfl rfl (any_of HT_.out s2_) (fun _ _ _ h => h) (Or.inl ⟨by rfl, ?_⟩) ?_ ?_
 rotate_left
 {
 intro w'
 go_simp
 with_reducible rfl}
 rotate_left
 · exact p1_
 refine done_ (done_of HT_.out s2_) ?_
 try go_wp2
 go_roundg k4
 case measure => have := HJ14.out; have := HK2.out; have := HJ100.out; have := HK4.out; omega
 case rel => exact ⟨(wrap64 (x18_4 + 1)), (wrap64 (x19_4 + 1)), s1_, s1_, H', ⟨by have := HJ14.out; have := HK2.out; have := HJ100.out; have := HK4.out; omega⟩, ⟨b2_ HO_6.out⟩, ⟨b2_ HO_8.out⟩, ⟨b2_ HO_12.out⟩, ⟨b2_ HO_15.out⟩, ⟨b1_ BK187.out⟩, ⟨b1_ BK199.out⟩, ⟨b1_ BK213.out⟩, ⟨b1_ BK226.out⟩, ⟨by repeat (first | (with_reducible first | exact HB.out | apply below_alloc | apply pw_below_drewN | apply below_drew1 | refine below_set ?_ GE187.out | refine below_set ?_ GE199.out | refine below_set ?_ GE213.out | refine below_set ?_ GE226.out) | exact HB.out)⟩⟩}}}
 {
 rw [if_neg c138] at H
 exact absurd H (by simp)}}
 {
 rw [if_neg c137] at H
 exact absurd H (by simp)}}
 {
 replace c136 := Bool.eq_false_iff.mpr c136
 subst c136
 have H1 : (if 0 ≤ x17_2 then (if x17_2 < (t188.length : Int) then (if t184 = 0 then (none) else (if x18_4 > (wrap64 (t183 + (wrap64 (Int.tdiv (wrap64 ((rd t188 x19_4) - (rd t188 x17_2))) t184)))) then (some false) else (laws_FnBuckets.l1 k4 t188 t195 t200 t209 t222 x17_2 x18_4 (wrap64 (x19_4 + 1)) t183 t184 t185 t186))) else (none)) else (none)) = some r := by rw [if_neg (show ¬ (false = true) by decide)] at H; exact H
 clear H
 have H := H1
 clear H1
 by_cases c145 : 0 ≤ x17_2
 {
 rw [if_pos c145] at H
 have c145b0 : decide (0 ≤ x17_2) = true := decide_eq_true c145
 clear c145
 by_cases c146 : x17_2 < (t188.length : Int)
 {
 rw [if_pos c146] at H
 have c146b0 : decide (x17_2 < (t188.length : Int)) = true := decide_eq_true c146
 clear c146
 by_cases c147 : t184 = 0
 {
 rw [if_pos c147] at H
 exact absurd H (by simp)}
 {
 rw [if_neg c147] at H
 have c147b0 : (t184 == 0) = false := beq_eq_false_iff_ne.mpr c147
 have c147b1 : (t184 != 0) = true := bne_iff_ne.mpr c147
 by_cases c148 : x18_4 > (wrap64 (t183 + (wrap64 (Int.tdiv (wrap64 ((rd t188 x19_4) - (rd t188 x17_2))) t184))))
 {
 rw [if_pos c148] at H
 have c148b0 : decide ((wrap64 (t183 + (wrap64 (Int.tdiv (wrap64 ((rd t188 x19_4) - (rd t188 x17_2))) t184)))) < x18_4) = true := decide_eq_true c148
 clear c148
 obtain rfl := Option.some.inj H
 obtain ⟨Ao149, co149, eo149⟩ := Kd.R_slice HO_8.out
 subst eo149
 have p234 : 0 ≤ (x19_4 : Int) := of_decide_eq_true (by first | (with_reducible assumption) | assumption)
 have q234 : x19_4 < (t195.length : Int) := of_decide_eq_true (by first | (with_reducible assumption) | assumption)
 obtain ⟨ad234, e234, hx234_0⟩ := Kd.at_bool (Kd.R_reads' HO_8.out).2.2 x19_4 p234 q234
 (try rw [← Nbq135.out] at hx234_0)
 cases e234
 replace p234 := eq_true p234
 replace q234 := eq_true q234
 try go_wp2
 have n0_ := Aside0.mk (Kd.R_drew HO_6.out)
 have n1_ := Aside0.mk (Kd.R_drew HO_8.out)
 have n2_ := Aside0.mk (Kd.R_drew HO_12.out)
 have n3_ := Aside0.mk (Kd.R_drew HO_15.out)
 have n4_ := Aside0.mk (blk_drew BK187.out)
 have n5_ := Aside0.mk (blk_drew BK199.out)
 have n6_ := Aside0.mk (blk_drew BK213.out)
 have n7_ := Aside0.mk (blk_drew BK226.out)
 have n8_ := Aside0.mk (below_drew1 HB.out)
 clear HO_6
 clear HO_8
 clear HO_12
 clear HO_15
 clear BK187
 clear BK199
 clear BK213
 clear BK226
 clear HB
 have HO_6 := n0_
 have HO_8 := n1_
 have HO_12 := n2_
 have HO_15 := n3_
 have BK187 := n4_
 have BK199 := n5_
 have BK213 := n6_
 have BK226 := n7_
 have HB := n8_
 clear n0_ n1_ n2_ n3_ n4_ n5_ n6_ n7_ n8_
 have p237 : 0 ≤ (x19_4 : Int) := of_decide_eq_true (by first | (with_reducible assumption) | assumption)
 have q237 : x19_4 < (t188.length : Int) := of_decide_eq_true (by first | (with_reducible assumption) | assumption)
 obtain ⟨ad237, e237, hx237_0⟩ := Kd.at_int (Kd.R_reads' HO_6.out).2.2 x19_4 p237 q237
 cases e237
 replace p237 := eq_true p237
 replace q237 := eq_true q237
 have p238 : 0 ≤ (x17_2 : Int) := of_decide_eq_true (by first | (with_reducible assumption) | assumption)
 have q238 : x17_2 < (t188.length : Int) := of_decide_eq_true (by first | (with_reducible assumption) | assumption)
 obtain ⟨ad238, e238, hx238_0⟩ := Kd.at_int (Kd.R_reads' HO_6.out).2.2 x17_2 p238 q238
 obtain rfl : ad237 = ad238 := (by injection e238)
 replace p238 := eq_true p238
 replace q238 := eq_true q238
 refine start_ (n := 17) (S := fun w' => w'.cell? ⟨gb187, 0, none⟩ = some (.int .i64 t183) ∧ w'.cell? ⟨gb187, 1, none⟩ = some (.int .i64 t184) ∧ w'.cell? ⟨gb187, 2, none⟩ = some (.int .i64 t185) ∧ w'.cell? ⟨gb187, 3, none⟩ = some (.int .i64 t186) ∧ w'.cell? (ad237.add (x19_4).toNat) = some (.int .i64 (rd t188 x19_4)) ∧ w'.cell? (ad237.add (x17_2).toNat) = some (.int .i64 (rd t188 x17_2))) (ds := []) #[F,F,F,F,F,F,F,F,F,F,F,F,F,F,F,F,F] s2_ rfl rfl ⟨(blk_cell BK187.out 0).trans rfl, (blk_cell BK187.out 1).trans rfl, (blk_cell BK187.out 2).trans rfl, (blk_cell BK187.out 3).trans rfl, hx237_0, hx238_0⟩ (fun hHeld => ?_); refine with_tabW laws_FnBuckets.tab22 laws_FnBuckets.bits22 (fun HT_ HW_ => ?_)
 generalize wr.drew = w150 at HO_6 HO_8 HO_12 HO_15 BK187 BK199 BK213 BK226 HB hx237_0 hx238_0 hHeld ⊢
 refine pure_ (i := 0) (N := some 152) (v := ?_) (a' := ?_) #[T,F,F,F,F,F,F,F,F,F,F,F,F,F,F,F,F] rfl rfl (any_of HT_.out s2_) (fun _ _ _ h => h) (Or.inl ⟨by rfl, ?_⟩) ?_ ?_
 rotate_left
 {
 intro w'
 go_simp
 with_reducible rfl}
 rotate_left
 · exact p1_
 refine pure_ (i := 1) (N := some 153) (v := ?_) (a' := ?_) #[T,T,F,F,F,F,F,F,F,F,F,F,F,F,F,F,F] rfl rfl (any_of HT_.out s2_) (fun _ _ _ h => h) (Or.inl ⟨by rfl, ?_⟩) ?_ ?_
 rotate_left
 {
 intro w'
 go_simp
 with_reducible rfl}
 rotate_left
 · exact p1_
 refine pure_ (i := 3) (N := some 155) (v := ?_) (a' := ?_) #[T,T,F,T,F,F,F,F,F,F,F,F,F,F,F,F,F] rfl rfl (any_of HT_.out s2_) (fun _ _ _ h => h) (Or.inl ⟨by rfl, ?_⟩) ?_ ?_
 rotate_left
 {
 intro w'
 go_simp
 with_reducible rfl}
 rotate_left
 · exact p1_
 refine pure_ (i := 4) (N := some 156) (v := ?_) (a' := ?_) #[T,T,F,T,T,F,F,F,F,F,F,F,F,F,F,F,F] rfl rfl (any_of HT_.out s2_) (fun _ _ _ h => h) (Or.inl ⟨by rfl, ?_⟩) ?_ ?_
 rotate_left
 {
 intro w'
 go_simp
 with_reducible rfl}
 rotate_left
 · exact p1_
 refine pure_ (i := 5) (N := some 157) (v := ?_) (a' := ?_) #[T,T,F,T,T,T,F,F,F,F,F,F,F,F,F,F,F] rfl rfl (any_of HT_.out s2_) (fun _ _ _ h => h) (Or.inl ⟨by rfl, ?_⟩) ?_ ?_
 rotate_left
 {
 intro w'
 go_simp
 with_reducible rfl}
 rotate_left
 · exact p1_
 refine pure_ (i := 7) (N := some 159) (v := ?_) (a' := ?_) #[T,T,F,T,T,T,F,T,F,F,F,F,F,F,F,F,F] rfl rfl (any_of HT_.out s2_) (fun _ _ _ h => h) (Or.inl ⟨by rfl, ?_⟩) ?_ ?_
 rotate_left
 {
 intro w'
 go_simp
 with_reducible rfl}
 rotate_left
 · exact p1_
 refine pure_ (i := 8) (N := some 160) (v := ?_) (a' := ?_) #[T,T,F,T,T,T,F,T,T,F,F,F,F,F,F,F,F] rfl rfl (any_of HT_.out s2_) (fun _ _ _ h => h) (Or.inl ⟨by rfl, ?_⟩) ?_ ?_
 rotate_left
 {
 intro w'
 go_simp
 with_reducible rfl}
 rotate_left
 · exact p1_
 refine pure_ (i := 9) (N := some 161) (v := ?_) (a' := ?_) #[T,T,F,T,T,T,F,T,T,T,F,F,F,F,F,F,F] rfl rfl (any_of HT_.out s2_) (fun _ _ _ h => h) (Or.inl ⟨by rfl, ?_⟩) ?_ ?_
 rotate_left
 {
 intro w'
 go_simp
 with_reducible rfl}
 rotate_left
 · exact p1_
 refine pure_ (i := 12) (N := some 164) (v := ?_) (a' := ?_) #[T,T,F,T,T,T,F,T,T,T,F,F,T,F,F,F,F] rfl rfl (any_of HT_.out s2_) (fun _ _ _ h => h) (Or.inl ⟨by rfl, ?_⟩) ?_ ?_
 rotate_left
 {
 intro w'
 go_simp
 with_reducible rfl}
 rotate_left
 · exact p1_
 refine take_ (i := 2) (N := some 154) (v := ?_) (a' := ?_) #[T,T,T,T,T,T,F,T,T,T,F,F,T,F,F,F,F] rfl rfl (take_ofW HT_.out HW_.out s2_) (fun _ _ _ h => h) (Or.inl ⟨by rfl, ?_⟩) hHeld ?_ ?_
 rotate_left
 {
 rintro w' ⟨s0, s1, s2, s3, s4, s5⟩
 go_simp
 with_reducible rfl}
 rotate_left
 · exact p1_
 refine take_ (i := 6) (N := some 158) (v := ?_) (a' := ?_) #[T,T,T,T,T,T,T,T,T,T,F,F,T,F,F,F,F] rfl rfl (take_ofW HT_.out HW_.out s2_) (fun _ _ _ h => h) (Or.inl ⟨by rfl, ?_⟩) hHeld ?_ ?_
 rotate_left
 {
 rintro w' ⟨s0, s1, s2, s3, s4, s5⟩
 go_simp
 with_reducible rfl}
 rotate_left
 · exact p1_
 refine take_ (i := 10) (N := some 162) (v := ?_) (a' := ?_) #[T,T,T,T,T,T,T,T,T,T,T,F,T,F,F,F,F] rfl rfl (take_ofW HT_.out HW_.out s2_) (fun _ _ _ h => h) (Or.inl ⟨by rfl, ?_⟩) hHeld ?_ ?_
 rotate_left
 {
 rintro w' ⟨s0, s1, s2, s3, s4, s5⟩
 go_simp
 with_reducible rfl}
 rotate_left
 · exact p1_
 refine pure_ (i := 11) (N := some 163) (v := ?_) (a' := ?_) #[T,T,T,T,T,T,T,T,T,T,T,T,T,F,F,F,F] rfl rfl (any_of HT_.out s2_) (fun _ _ _ h => h) (Or.inl ⟨by rfl, ?_⟩) ?_ ?_
 rotate_left
 {
 intro w'
 go_simp
 with_reducible rfl}
 rotate_left
 · exact p1_
 refine take_ (i := 13) (N := some 165) (v := ?_) (a' := ?_) #[T,T,T,T,T,T,T,T,T,T,T,T,T,T,F,F,F] rfl rfl (take_ofW HT_.out HW_.out s2_) (fun _ _ _ h => h) (Or.inl ⟨by rfl, ?_⟩) hHeld ?_ ?_
 rotate_left
 {
 rintro w' ⟨s0, s1, s2, s3, s4, s5⟩
 go_simp
 with_reducible rfl}
 rotate_left
 · exact p1_
 refine pure_ (i := 14) (N := some 166) (v := ?_) (a' := ?_) #[T,T,T,T,T,T,T,T,T,T,T,T,T,T,T,F,F] rfl rfl (any_of HT_.out s2_) (fun _ _ _ h => h) (Or.inl ⟨by rfl, ?_⟩) ?_ ?_
 rotate_left
 {
 intro w'
 go_simp
 with_reducible rfl}
 rotate_left
 · exact p1_
 refine pure_ (i := 15) (N := some 167) (v := ?_) (a' := ?_) #[T,T,T,T,T,T,T,T,T,T,T,T,T,T,T,T,F] rfl rfl (any_of HT_.out s2_) (fun _ _ _ h => h) (Or.inl ⟨by rfl, ?_⟩) ?_ ?_
 rotate_left
 {
 intro w'
 go_simp
 with_reducible rfl}
 rotate_left
 · exact p1_
 refine pure_ (i := 16) (N := some 168) (v := ?_) (a' := ?_) #[T,T,T,T,T,T,T,T,T,T,T,T,T,T,T,T,T] rfl rfl (any_of HT_.out s2_) (fun _ _ _ h => h) (Or.inl ⟨by rfl, ?_⟩) ?_ ?_
 rotate_left
 {
 intro w'
 go_simp
 with_reducible rfl}
 rotate_left
 · exact p1_
 refine done_ (done_of HT_.out s2_) ?_
 try go_wp2
 go_ret
 exact ⟨by first | rfl | (simp [errW_none, errW_some] <;> rfl) | (simp [*, errW_none, errW_some] <;> rfl), by repeat (first | (with_reducible first | exact HB.out | apply below_alloc | apply pw_below_drewN | apply below_drew1 | refine below_set ?_ GE187.out | refine below_set ?_ GE199.out | refine below_set ?_ GE213.out | refine below_set ?_ GE226.out) | exact HB.out)⟩}
 {
 rw [if_neg c148] at H
 have c148b0 : decide ((wrap64 (t183 + (wrap64 (Int.tdiv (wrap64 ((rd t188 x19_4) - (rd t188 x17_2))) t184)))) < x18_4) = false := decide_eq_false c148
 clear c148
 have H' := Aside0.mk H
 clear H
 obtain ⟨Ao151, co151, eo151⟩ := Kd.R_slice HO_8.out
 subst eo151
 have p234 : 0 ≤ (x19_4 : Int) := of_decide_eq_true (by first | (with_reducible assumption) | assumption)
 have q234 : x19_4 < (t195.length : Int) := of_decide_eq_true (by first | (with_reducible assumption) | assumption)
 obtain ⟨ad234, e234, hx234_0⟩ := Kd.at_bool (Kd.R_reads' HO_8.out).2.2 x19_4 p234 q234
 (try rw [← Nbq135.out] at hx234_0)
 cases e234
 replace p234 := eq_true p234
 replace q234 := eq_true q234
 try go_wp2
 have n0_ := Aside0.mk (Kd.R_drew HO_6.out)
 have n1_ := Aside0.mk (Kd.R_drew HO_8.out)
 have n2_ := Aside0.mk (Kd.R_drew HO_12.out)
 have n3_ := Aside0.mk (Kd.R_drew HO_15.out)
 have n4_ := Aside0.mk (blk_drew BK187.out)
 have n5_ := Aside0.mk (blk_drew BK199.out)
 have n6_ := Aside0.mk (blk_drew BK213.out)
 have n7_ := Aside0.mk (blk_drew BK226.out)
 have n8_ := Aside0.mk (below_drew1 HB.out)
 clear HO_6
 clear HO_8
 clear HO_12
 clear HO_15
 clear BK187
 clear BK199
 clear BK213
 clear BK226
 clear HB
 have HO_6 := n0_
 have HO_8 := n1_
 have HO_12 := n2_
 have HO_15 := n3_
 have BK187 := n4_
 have BK199 := n5_
 have BK213 := n6_
 have BK226 := n7_
 have HB := n8_
 clear n0_ n1_ n2_ n3_ n4_ n5_ n6_ n7_ n8_
 have p237 : 0 ≤ (x19_4 : Int) := of_decide_eq_true (by first | (with_reducible assumption) | assumption)
 have q237 : x19_4 < (t188.length : Int) := of_decide_eq_true (by first | (with_reducible assumption) | assumption)
 obtain ⟨ad237, e237, hx237_0⟩ := Kd.at_int (Kd.R_reads' HO_6.out).2.2 x19_4 p237 q237
 cases e237
 replace p237 := eq_true p237
 replace q237 := eq_true q237
 have p238 : 0 ≤ (x17_2 : Int) := of_decide_eq_true (by first | (with_reducible assumption) | assumption)
 have q238 : x17_2 < (t188.length : Int) := of_decide_eq_true (by first | (with_reducible assumption) | assumption)
 obtain ⟨ad238, e238, hx238_0⟩ := Kd.at_int (Kd.R_reads' HO_6.out).2.2 x17_2 p238 q238
 obtain rfl : ad237 = ad238 := (by injection e238)
 replace p238 := eq_true p238
 replace q238 := eq_true q238
 refine start_ (n := 17) (S := fun w' => w'.cell? ⟨gb187, 0, none⟩ = some (.int .i64 t183) ∧ w'.cell? ⟨gb187, 1, none⟩ = some (.int .i64 t184) ∧ w'.cell? ⟨gb187, 2, none⟩ = some (.int .i64 t185) ∧ w'.cell? ⟨gb187, 3, none⟩ = some (.int .i64 t186) ∧ w'.cell? (ad237.add (x19_4).toNat) = some (.int .i64 (rd t188 x19_4)) ∧ w'.cell? (ad237.add (x17_2).toNat) = some (.int .i64 (rd t188 x17_2))) (ds := []) #[F,F,F,F,F,F,F,F,F,F,F,F,F,F,F,F,F] s2_ rfl rfl ⟨(blk_cell BK187.out 0).trans rfl, (blk_cell BK187.out 1).trans rfl, (blk_cell BK187.out 2).trans rfl, (blk_cell BK187.out 3).trans rfl, hx237_0, hx238_0⟩ (fun hHeld => ?_); refine with_tabW laws_FnBuckets.tab22 laws_FnBuckets.bits22 (fun HT_ HW_ => ?_)
 generalize wr.drew = w152 at HO_6 HO_8 HO_12 HO_15 BK187 BK199 BK213 BK226 HB hx237_0 hx238_0 hHeld ⊢
 refine pure_ (i := 0) (N := some 152) (v := ?_) (a' := ?_) #[T,F,F,F,F,F,F,F,F,F,F,F,F,F,F,F,F] rfl rfl (any_of HT_.out s2_) (fun _ _ _ h => h) (Or.inl ⟨by rfl, ?_⟩) ?_ ?_
 rotate_left
 {
 intro w'
 go_simp
 with_reducible rfl}
 rotate_left
 · exact p1_
 refine pure_ (i := 1) (N := some 153) (v := ?_) (a' := ?_) #[T,T,F,F,F,F,F,F,F,F,F,F,F,F,F,F,F] rfl rfl (any_of HT_.out s2_) (fun _ _ _ h => h) (Or.inl ⟨by rfl, ?_⟩) ?_ ?_
 rotate_left
 {
 intro w'
 go_simp
 with_reducible rfl}
 rotate_left
 · exact p1_
 refine pure_ (i := 3) (N := some 155) (v := ?_) (a' := ?_) #[T,T,F,T,F,F,F,F,F,F,F,F,F,F,F,F,F] rfl rfl (any_of HT_.out s2_) (fun _ _ _ h => h) (Or.inl ⟨by rfl, ?_⟩) ?_ ?_
 rotate_left
 {
 intro w'
 go_simp
 with_reducible rfl}
 rotate_left
 · exact p1_
 refine pure_ (i := 4) (N := some 156) (v := ?_) (a' := ?_) #[T,T,F,T,T,F,F,F,F,F,F,F,F,F,F,F,F] rfl rfl (any_of HT_.out s2_) (fun _ _ _ h => h) (Or.inl ⟨by rfl, ?_⟩) ?_ ?_
 rotate_left
 {
 intro w'
 go_simp
 with_reducible rfl}
 rotate_left
 · exact p1_
 refine pure_ (i := 5) (N := some 157) (v := ?_) (a' := ?_) #[T,T,F,T,T,T,F,F,F,F,F,F,F,F,F,F,F] rfl rfl (any_of HT_.out s2_) (fun _ _ _ h => h) (Or.inl ⟨by rfl, ?_⟩) ?_ ?_
 rotate_left
 {
 intro w'
 go_simp
 with_reducible rfl}
 rotate_left
 · exact p1_
 refine pure_ (i := 7) (N := some 159) (v := ?_) (a' := ?_) #[T,T,F,T,T,T,F,T,F,F,F,F,F,F,F,F,F] rfl rfl (any_of HT_.out s2_) (fun _ _ _ h => h) (Or.inl ⟨by rfl, ?_⟩) ?_ ?_
 rotate_left
 {
 intro w'
 go_simp
 with_reducible rfl}
 rotate_left
 · exact p1_
 refine pure_ (i := 8) (N := some 160) (v := ?_) (a' := ?_) #[T,T,F,T,T,T,F,T,T,F,F,F,F,F,F,F,F] rfl rfl (any_of HT_.out s2_) (fun _ _ _ h => h) (Or.inl ⟨by rfl, ?_⟩) ?_ ?_
 rotate_left
 {
 intro w'
 go_simp
 with_reducible rfl}
 rotate_left
 · exact p1_
 refine pure_ (i := 9) (N := some 161) (v := ?_) (a' := ?_) #[T,T,F,T,T,T,F,T,T,T,F,F,F,F,F,F,F] rfl rfl (any_of HT_.out s2_) (fun _ _ _ h => h) (Or.inl ⟨by rfl, ?_⟩) ?_ ?_
 rotate_left
 {
 intro w'
 go_simp
 with_reducible rfl}
 rotate_left
 · exact p1_
 refine pure_ (i := 12) (N := some 164) (v := ?_) (a' := ?_) #[T,T,F,T,T,T,F,T,T,T,F,F,T,F,F,F,F] rfl rfl (any_of HT_.out s2_) (fun _ _ _ h => h) (Or.inl ⟨by rfl, ?_⟩) ?_ ?_
 rotate_left
 {
 intro w'
 go_simp
 with_reducible rfl}
 rotate_left
 · exact p1_
 refine take_ (i := 2) (N := some 154) (v := ?_) (a' := ?_) #[T,T,T,T,T,T,F,T,T,T,F,F,T,F,F,F,F] rfl rfl (take_ofW HT_.out HW_.out s2_) (fun _ _ _ h => h) (Or.inl ⟨by rfl, ?_⟩) hHeld ?_ ?_
 rotate_left
 {
 rintro w' ⟨s0, s1, s2, s3, s4, s5⟩
 go_simp
 with_reducible rfl}
 rotate_left
 · exact p1_
 refine take_ (i := 6) (N := some 158) (v := ?_) (a' := ?_) #[T,T,T,T,T,T,T,T,T,T,F,F,T,F,F,F,F] rfl rfl (take_ofW HT_.out HW_.out s2_) (fun _ _ _ h => h) (Or.inl ⟨by rfl, ?_⟩) hHeld ?_ ?_
 rotate_left
 {
 rintro w' ⟨s0, s1, s2, s3, s4, s5⟩
 go_simp
 with_reducible rfl}
 rotate_left
 · exact p1_
 refine take_ (i := 10) (N := some 162) (v := ?_) (a' := ?_) #[T,T,T,T,T,T,T,T,T,T,T,F,T,F,F,F,F] rfl rfl (take_ofW HT_.out HW_.out s2_) (fun _ _ _ h => h) (Or.inl ⟨by rfl, ?_⟩) hHeld ?_ ?_
 rotate_left
 {
 rintro w' ⟨s0, s1, s2, s3, s4, s5⟩
 go_simp
 with_reducible rfl}
 rotate_left
 · exact p1_
 refine pure_ (i := 11) (N := some 163) (v := ?_) (a' := ?_) #[T,T,T,T,T,T,T,T,T,T,T,T,T,F,F,F,F] rfl rfl (any_of HT_.out s2_) (fun _ _ _ h => h) (Or.inl ⟨by rfl, ?_⟩) ?_ ?_
 rotate_left
 {
 intro w'
 go_simp
 with_reducible rfl}
 rotate_left
 · exact p1_
 refine take_ (i := 13) (N := some 165) (v := ?_) (a' := ?_) #[T,T,T,T,T,T,T,T,T,T,T,T,T,T,F,F,F] rfl rfl (take_ofW HT_.out HW_.out s2_) (fun _ _ _ h => h) (Or.inl ⟨by rfl, ?_⟩) hHeld ?_ ?_
 rotate_left
 {
 rintro w' ⟨s0, s1, s2, s3, s4, s5⟩
 go_simp
 with_reducible rfl}
 rotate_left
 · exact p1_
 refine pure_ (i := 14) (N := some 166) (v := ?_) (a' := ?_) #[T,T,T,T,T,T,T,T,T,T,T,T,T,T,T,F,F] rfl rfl (any_of HT_.out s2_) (fun _ _ _ h => h) (Or.inl ⟨by rfl, ?_⟩) ?_ ?_
 rotate_left
 {
 intro w'
 go_simp
 with_reducible rfl}
 rotate_left
 · exact p1_
 refine pure_ (i := 15) (N := some 167) (v := ?_) (a' := ?_) #[T,T,T,T,T,T,T,T,T,T,T,T,T,T,T,T,F] rfl rfl (any_of HT_.out s2_) (fun _ _ _ h => h) (Or.inl ⟨by rfl, ?_⟩) ?_ ?_
 rotate_left
 {
 intro w'
 go_simp
 with_reducible rfl}
 rotate_left
 · exact p1_
 refine pure_ (i := 16) (N := some 168) (v := ?_) (a' := ?_) #[T,T,T,T,T,T,T,T,T,T,T,T,T,T,T,T,T] rfl rfl (any_of HT_.out s2_) (fun _ _ _ h => h) (Or.inl ⟨by rfl, ?_⟩) ?_ ?_
 rotate_left
 {
 intro w'
 go_simp
 with_reducible rfl}
 rotate_left
 · exact p1_
 refine done_ (done_of HT_.out s2_) ?_
 try go_wp2
 go_roundg k4
 case measure => have := HJ14.out; have := HK2.out; have := HJ100.out; have := HK4.out; omega
 case rel => exact ⟨(x18_4), (wrap64 (x19_4 + 1)), s1_, s1_, H', ⟨by have := HJ14.out; have := HK2.out; have := HJ100.out; have := HK4.out; omega⟩, ⟨b2_ HO_6.out⟩, ⟨b2_ HO_8.out⟩, ⟨b2_ HO_12.out⟩, ⟨b2_ HO_15.out⟩, ⟨b1_ BK187.out⟩, ⟨b1_ BK199.out⟩, ⟨b1_ BK213.out⟩, ⟨b1_ BK226.out⟩, ⟨by repeat (first | (with_reducible first | exact HB.out | apply below_alloc | apply pw_below_drewN | apply below_drew1 | refine below_set ?_ GE187.out | refine below_set ?_ GE199.out | refine below_set ?_ GE213.out | refine below_set ?_ GE226.out) | exact HB.out)⟩⟩}}}
 {
 rw [if_neg c146] at H
 exact absurd H (by simp)}}
 {
 rw [if_neg c145] at H
 exact absurd H (by simp)}}}
 {
 rw [if_neg c134] at H
 exact absurd H (by simp)}}
 {
 rw [if_neg c133] at H
 exact absurd H (by simp)}}
 {
 rw [if_neg c132] at H
 have c132b0 : decide (x19_4 < (t188.length : Int)) = false := decide_eq_false c132
 clear c132
 have H' := Aside0.mk H
 clear H
 go_wp2
 go_roundg k4
 case measure => have := HJ14.out; have := HK2.out; have := HJ100.out; have := HK4.out; omega
 case rel => exact ⟨(wrap64 (x17_2 + 1)), s1_, H', ⟨by have := HJ14.out; have := HK2.out; have := HJ100.out; have := HK4.out; omega⟩, ⟨b2_ HO_6.out⟩, ⟨b2_ HO_8.out⟩, ⟨b2_ HO_12.out⟩, ⟨b2_ HO_15.out⟩, ⟨b1_ BK187.out⟩, ⟨b1_ BK199.out⟩, ⟨b1_ BK213.out⟩, ⟨b1_ BK226.out⟩, ⟨by repeat (first | (with_reducible first | exact HB.out | apply below_alloc | apply pw_below_drewN | apply below_drew1 | refine below_set ?_ GE187.out | refine below_set ?_ GE199.out | refine below_set ?_ GE213.out | refine below_set ?_ GE226.out) | exact HB.out)⟩⟩}}}}}}}
 {
 rw [if_neg c100] at H
 have c100b0 : decide (x17_2 < (t188.length : Int)) = false := decide_eq_false c100
 clear c100
 obtain rfl := Option.some.inj H
 go_wp2
 go_ret
 exact ⟨by first | rfl | (simp [errW_none, errW_some] <;> rfl) | (simp [*, errW_none, errW_some] <;> rfl), by repeat (first | (with_reducible first | exact HB.out | apply below_alloc | apply pw_below_drewN | apply below_drew1 | refine below_set ?_ GE187.out | refine below_set ?_ GE199.out | refine below_set ?_ GE213.out | refine below_set ?_ GE226.out) | exact HB.out)⟩}}}}}}}
 {
 rw [if_neg c10] at H
 exact absurd H (by simp)}}
 {
 rw [if_neg c9] at H
 exact absurd H (by simp)}}

/-- THE ONE PURE STATEMENT of laws_FnBuckets: yours. -/
def laws_FnBuckets.Pure : Prop := ∀ (l0 : List Int) (l1 : List Int), l0.length ≤ maxLen → l0.length * 1 ≤ 140737488351232 → (∀ x ∈ l0, (Lit.int .u8 x).wf = true) → l1.length ≤ maxLen → l1.length * 1 ≤ 140737488351232 → (∀ x ∈ l1, (Lit.int .u8 x).wf = true) → ∃ k, laws_FnBuckets.f k l0 l1 = some true
theorem laws_FnBuckets.walk (P : laws_FnBuckets.Pure) (a0 : Option Addr) (len0 cap0 : Nat) (z0 : List Int) (a1 : Option Addr) (len1 cap1 : Nat) (z1 : List Int) (w : World) (w0 : (a0 = none ∧ len0 = 0 ∧ cap0 = 0 ∧ z0 = []) ∨ ∃ x, a0 = some x ∧ len0 ≤ cap0 ∧ cap0 ≤ maxLen ∧ z0.length = cap0 ∧ (∀ i, i < z0.length → w.cell? (x.add i) = some (.int .u8 (z0.getD i 0))) ∧ ∀ n ∈ z0, (Lit.int .u8 n).wf = true) (y0 : len0 * 1 ≤ 140737488351232) (w1 : (a1 = none ∧ len1 = 0 ∧ cap1 = 0 ∧ z1 = []) ∨ ∃ x, a1 = some x ∧ len1 ≤ cap1 ∧ cap1 ≤ maxLen ∧ z1.length = cap1 ∧ (∀ i, i < z1.length → w.cell? (x.add i) = some (.int .u8 (z1.getD i 0))) ∧ ∀ n ∈ z1, (Lit.int .u8 n).wf = true) (y1 : len1 * 1 ≤ 140737488351232) :
    Calls Try.prog 8 #[.slice a0 len0 cap0, .slice a1 len1 cap1] w fun e w' => e = .returned (.bool true) ∧ Below w.heap.size w w' := by
  obtain ⟨l0, rfl, hr0, hm0, hw0, hc0⟩ := ReadsInt.ofRowC w0
  obtain ⟨l1, rfl, hr1, hm1, hw1, hc1⟩ := ReadsInt.ofRowC w1
  obtain ⟨k, h⟩ := P l0 l1 hm0 y0 hw0 hm1 y1 hw1
  refine (laws_FnBuckets.calls k _ _ l0 _ _ l1 true w (Kd.C_of_reads (d := (0 : Int)) (h1 := fun _ => rfl) hr0) hc0 (Kd.C_of_reads (d := (0 : Int)) (h1 := fun _ => rfl) hr1) hc1 h).mono ?_
  rintro e w' ⟨rfl, hd⟩
  exact ⟨rfl, hd⟩

end Go.Proofs.Ytidlbifgfciikaa.QFnBuckets
