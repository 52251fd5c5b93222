-- written by a program of this session, on the lines of the kit's print
import Derived.Test.YtgfilednbllkmaaQFnExactJoinPresencex0
import Derived.Test.YtgfilednbllkmaaQFnExactJoinPresencex5
import Derived.Test.YtgfilednbllkmaaQFnExactJoinPresencex6
import Derived.Test.YtgfilednbllkmaaQFnExactJoinPresencex7
namespace Go.Proofs.Ytgfilednbllkmaa.QFnExactJoinPresence
open Go.RowKit Go.Proofs.YtgfilednbllkmaaW.PrintWords Go.Proofs.YtgfilednbllkmaaW.PrintLast Go.Proofs.YtgfilednbllkmaaW.PrintMore
attribute [local go_sem] max2_int min2_int max_two min_two max_three min_three max_four min_four   -- for this text's walks alone
set_option linter.unusedVariables false
set_option linter.unusedSimpArgs false

/-! ### spec_JoinPresence: function 36 -/
abbrev spec_JoinPresence.T : Bool := true
abbrev spec_JoinPresence.F : Bool := false
abbrev spec_JoinPresence.m0_ : Array Bool := #[F,F,F,F,F,F,F,F,F,F,F,F,F,F,F,F,F]
abbrev spec_JoinPresence.m1_ : Array Bool := #[T,F,F,F,F,F,F,F,F,F,F,F,F,F,F,F,F]
abbrev spec_JoinPresence.m2_ : Array Bool := #[T,F,T,F,F,F,F,F,F,F,F,F,F,F,F,F,F]
abbrev spec_JoinPresence.m3_ : Array Bool := #[T,F,T,F,T,F,F,F,F,F,F,F,F,F,F,F,F]
abbrev spec_JoinPresence.m4_ : Array Bool := #[T,F,T,F,T,F,F,F,T,F,F,F,F,F,F,F,F]
abbrev spec_JoinPresence.m5_ : Array Bool := #[T,F,T,F,T,F,F,F,T,F,T,F,F,F,F,F,F]
abbrev spec_JoinPresence.m6_ : Array Bool := #[T,T,T,F,T,F,F,F,T,F,T,F,F,F,F,F,F]
abbrev spec_JoinPresence.m7_ : Array Bool := #[T,T,T,T,T,F,F,F,T,F,T,F,F,F,F,F,F]
abbrev spec_JoinPresence.m8_ : Array Bool := #[T,T,T,T,T,T,F,F,T,F,T,F,F,F,F,F,F]
abbrev spec_JoinPresence.m9_ : Array Bool := #[T,T,T,T,T,T,T,F,T,F,T,F,F,F,F,F,F]
abbrev spec_JoinPresence.m10_ : Array Bool := #[T,T,T,T,T,T,T,T,T,F,T,F,F,F,F,F,F]
abbrev spec_JoinPresence.m11_ : Array Bool := #[T,T,T,T,T,T,T,T,T,T,T,F,F,F,F,F,F]
abbrev spec_JoinPresence.m12_ : Array Bool := #[T,T,T,T,T,T,T,T,T,T,T,T,F,F,F,F,F]
abbrev spec_JoinPresence.m13_ : Array Bool := #[T,T,T,T,T,T,T,T,T,T,T,T,T,F,F,F,F]
abbrev spec_JoinPresence.m14_ : Array Bool := #[T,T,T,T,T,T,T,T,T,T,T,T,T,T,F,F,F]
abbrev spec_JoinPresence.m15_ : Array Bool := #[T,T,T,T,T,T,T,T,T,T,T,T,T,T,T,F,F]
abbrev spec_JoinPresence.m16_ : Array Bool := #[T,T,T,T,T,T,T,T,T,T,T,T,T,T,T,T,F]
abbrev spec_JoinPresence.m17_ : Array Bool := #[T,T,T,T,T,T,T,T,T,T,T,T,T,T,T,T,T]
mutual
def spec_JoinPresence.j0 : Nat → Bool → List (S63) → List (S63) → List (S73) → List (S63) → List (S63) → List (S73) → Option ((List (S63)) × (List (S63)) × (List (S73)) × Bool)
  | 0, _, _, _, _, _, _, _ => none
  | k + 1, x15, x251000, x251001, x251002, x252000, x252001, x252002 => if x15 = true then (some (([] : List (S63)), ([] : List (S63)), ([] : List (S73)), false)) else ((spec_l05Own.f x251000 x251001 x251002).bind fun bt255 => (spec_JoinPresence.l0 k (x252000.length : Int) 0 x252000 x252001 x252002 bt255.1 bt255.2.1 bt255.2.2))
def spec_JoinPresence.l0 : Nat → Int → Int → List (S63) → List (S63) → List (S73) → List (S63) → List (S63) → List (S73) → Option ((List (S63)) × (List (S63)) × (List (S73)) × Bool)
  | 0, _, _, _, _, _, _, _, _ => none
  | k + 1, x20, x21, x252000, x252001, x252002, x265000, x265001, x265002 => if x21 < x20 then (if 0 ≤ x21 then (if x21 < (x252000.length : Int) then ((spec_l05Put.f k x265000 ((rd_T63 x252000 x21).f0) ((rd_T63 x252000 x21).f1)).bind fun t267 => (spec_JoinPresence.l0 k x20 (wrap64 (x21 + 1)) x252000 x252001 x252002 t267 x265001 x265002)) else (none)) else (none)) else (spec_JoinPresence.l1 k (x252001.length : Int) 0 x252000 x252001 x252002 x265000 x265001 x265002)
def spec_JoinPresence.l1 : Nat → Int → Int → List (S63) → List (S63) → List (S73) → List (S63) → List (S63) → List (S73) → Option ((List (S63)) × (List (S63)) × (List (S73)) × Bool)
  | 0, _, _, _, _, _, _, _, _ => none
  | k + 1, x43, x44, x252000, x252001, x252002, x265000, x265001, x265002 => if x44 < x43 then (if 0 ≤ x44 then (if x44 < (x252001.length : Int) then ((spec_l05Put.f k x265001 ((rd_T63 x252001 x44).f0) ((rd_T63 x252001 x44).f1)).bind fun t272 => (spec_JoinPresence.l1 k x43 (wrap64 (x44 + 1)) x252000 x252001 x252002 x265000 t272 x265002)) else (none)) else (none)) else (spec_JoinPresence.l2 k (x252002.length : Int) 0 x252000 x252001 x252002 x265000 x265001 x265002)
def spec_JoinPresence.l2 : Nat → Int → Int → List (S63) → List (S63) → List (S73) → List (S63) → List (S63) → List (S73) → Option ((List (S63)) × (List (S63)) × (List (S73)) × Bool)
  | 0, _, _, _, _, _, _, _, _ => none
  | k + 1, x66, x67, x252000, x252001, x252002, x265000, x265001, x265002 => if x67 < x66 then (if 0 ≤ x67 then (if x67 < (x252002.length : Int) then ((spec_l05Read.f k x265002 ((rd_T73 x252002 x67).f0) ((rd_T73 x252002 x67).f1)).bind fun t277 => (spec_JoinPresence.l2 k x66 (wrap64 (x67 + 1)) x252000 x252001 x252002 x265000 x265001 t277)) else (none)) else (none)) else ((spec_l05Give.f k x265000 x265001 x265002).bind fun bt280 => (some (bt280.1, bt280.2.1, bt280.2.2.1, bt280.2.2.2)))
end
def spec_JoinPresence.f (k : Nat) (l0_0 : List (S63)) (l0_1 : List (S63)) (l0_2 : List (S73)) (l1_0 : List (S63)) (l1_1 : List (S63)) (l1_2 : List (S73)) : Option ((List (S63)) × (List (S63)) × (List (S73)) × Bool) := (spec_l05Is.f k l0_0 l0_1 l0_2).bind fun t253 => (if t253 = true then ((spec_l05Is.f k l1_0 l1_1 l1_2).bind fun t254 => (spec_JoinPresence.j0 k (!t254) l0_0 l0_1 l0_2 l1_0 l1_1 l1_2)) else (spec_JoinPresence.j0 k true l0_0 l0_1 l0_2 l1_0 l1_1 l1_2))
theorem spec_JoinPresence.mono_l : ∀ k, (∀ y0 y1 y2 y3 y4 y5 y6, LeO (spec_JoinPresence.j0 k y0 y1 y2 y3 y4 y5 y6) (spec_JoinPresence.j0 (k + 1) y0 y1 y2 y3 y4 y5 y6)) ∧ (∀ y0 y1 y2 y3 y4 y5 y6 y7, LeO (spec_JoinPresence.l0 k y0 y1 y2 y3 y4 y5 y6 y7) (spec_JoinPresence.l0 (k + 1) y0 y1 y2 y3 y4 y5 y6 y7)) ∧ (∀ y0 y1 y2 y3 y4 y5 y6 y7, LeO (spec_JoinPresence.l1 k y0 y1 y2 y3 y4 y5 y6 y7) (spec_JoinPresence.l1 (k + 1) y0 y1 y2 y3 y4 y5 y6 y7)) ∧ (∀ y0 y1 y2 y3 y4 y5 y6 y7, LeO (spec_JoinPresence.l2 k y0 y1 y2 y3 y4 y5 y6 y7) (spec_JoinPresence.l2 (k + 1) y0 y1 y2 y3 y4 y5 y6 y7))
  | 0 => ⟨fun _ _ _ _ _ _ _ r h => by simp [spec_JoinPresence.j0] at h, fun _ _ _ _ _ _ _ _ r h => by simp [spec_JoinPresence.l0] at h, fun _ _ _ _ _ _ _ _ r h => by simp [spec_JoinPresence.l1] at h, fun _ _ _ _ _ _ _ _ r h => by simp [spec_JoinPresence.l2] at h⟩
  | k + 1 => by
    obtain ⟨ih0, ih1, ih2, ih3⟩ := spec_JoinPresence.mono_l k
    refine ⟨?_, ?_, ?_, ?_⟩
    · intro y0 y1 y2 y3 y4 y5 y6
      unfold spec_JoinPresence.j0
      repeat' first
      | (with_reducible exact ih0 _ _ _ _ _ _ _)
      | (with_reducible exact ih1 _ _ _ _ _ _ _ _)
      | (with_reducible exact ih2 _ _ _ _ _ _ _ _)
      | (with_reducible exact ih3 _ _ _ _ _ _ _ _)
      | (with_reducible exact spec_l05Give.mono _ _ _ _)
      | (with_reducible exact spec_l05Is.mono _ _ _ _)
      | (with_reducible exact spec_l05Put.mono _ _ _ _)
      | (with_reducible exact spec_l05Read.mono _ _ _ _)
      | (with_reducible exact LeO.refl _)
      | (with_reducible exact LeO.none _)
      | (with_reducible refine LeO.ite ?_ ?_)
      | (with_reducible refine LeO.bind ?_ (fun _ => ?_))
      | exact ih0 _ _ _ _ _ _ _
      | exact ih1 _ _ _ _ _ _ _ _
      | exact ih2 _ _ _ _ _ _ _ _
      | exact ih3 _ _ _ _ _ _ _ _
      | exact spec_l05Give.mono _ _ _ _
      | exact spec_l05Is.mono _ _ _ _
      | exact spec_l05Put.mono _ _ _ _
      | exact spec_l05Read.mono _ _ _ _
      | exact LeO.none _
      | refine LeO.ite ?_ ?_
      | refine LeO.bind ?_ (fun _ => ?_)
    · intro y0 y1 y2 y3 y4 y5 y6 y7
      unfold spec_JoinPresence.l0
      repeat' first
      | (with_reducible exact ih0 _ _ _ _ _ _ _)
      | (with_reducible exact ih1 _ _ _ _ _ _ _ _)
      | (with_reducible exact ih2 _ _ _ _ _ _ _ _)
      | (with_reducible exact ih3 _ _ _ _ _ _ _ _)
      | (with_reducible exact spec_l05Give.mono _ _ _ _)
      | (with_reducible exact spec_l05Is.mono _ _ _ _)
      | (with_reducible exact spec_l05Put.mono _ _ _ _)
      | (with_reducible exact spec_l05Read.mono _ _ _ _)
      | (with_reducible exact LeO.refl _)
      | (with_reducible exact LeO.none _)
      | (with_reducible refine LeO.ite ?_ ?_)
      | (with_reducible refine LeO.bind ?_ (fun _ => ?_))
      | exact ih0 _ _ _ _ _ _ _
      | exact ih1 _ _ _ _ _ _ _ _
      | exact ih2 _ _ _ _ _ _ _ _
      | exact ih3 _ _ _ _ _ _ _ _
      | exact spec_l05Give.mono _ _ _ _
      | exact spec_l05Is.mono _ _ _ _
      | exact spec_l05Put.mono _ _ _ _
      | exact spec_l05Read.mono _ _ _ _
      | exact LeO.none _
      | refine LeO.ite ?_ ?_
      | refine LeO.bind ?_ (fun _ => ?_)
    · intro y0 y1 y2 y3 y4 y5 y6 y7
      unfold spec_JoinPresence.l1
      repeat' first
      | (with_reducible exact ih0 _ _ _ _ _ _ _)
      | (with_reducible exact ih1 _ _ _ _ _ _ _ _)
      | (with_reducible exact ih2 _ _ _ _ _ _ _ _)
      | (with_reducible exact ih3 _ _ _ _ _ _ _ _)
      | (with_reducible exact spec_l05Give.mono _ _ _ _)
      | (with_reducible exact spec_l05Is.mono _ _ _ _)
      | (with_reducible exact spec_l05Put.mono _ _ _ _)
      | (with_reducible exact spec_l05Read.mono _ _ _ _)
      | (with_reducible exact LeO.refl _)
      | (with_reducible exact LeO.none _)
      | (with_reducible refine LeO.ite ?_ ?_)
      | (with_reducible refine LeO.bind ?_ (fun _ => ?_))
      | exact ih0 _ _ _ _ _ _ _
      | exact ih1 _ _ _ _ _ _ _ _
      | exact ih2 _ _ _ _ _ _ _ _
      | exact ih3 _ _ _ _ _ _ _ _
      | exact spec_l05Give.mono _ _ _ _
      | exact spec_l05Is.mono _ _ _ _
      | exact spec_l05Put.mono _ _ _ _
      | exact spec_l05Read.mono _ _ _ _
      | exact LeO.none _
      | refine LeO.ite ?_ ?_
      | refine LeO.bind ?_ (fun _ => ?_)
    · intro y0 y1 y2 y3 y4 y5 y6 y7
      unfold spec_JoinPresence.l2
      repeat' first
      | (with_reducible exact ih0 _ _ _ _ _ _ _)
      | (with_reducible exact ih1 _ _ _ _ _ _ _ _)
      | (with_reducible exact ih2 _ _ _ _ _ _ _ _)
      | (with_reducible exact ih3 _ _ _ _ _ _ _ _)
      | (with_reducible exact spec_l05Give.mono _ _ _ _)
      | (with_reducible exact spec_l05Is.mono _ _ _ _)
      | (with_reducible exact spec_l05Put.mono _ _ _ _)
      | (with_reducible exact spec_l05Read.mono _ _ _ _)
      | (with_reducible exact LeO.refl _)
      | (with_reducible exact LeO.none _)
      | (with_reducible refine LeO.ite ?_ ?_)
      | (with_reducible refine LeO.bind ?_ (fun _ => ?_))
      | exact ih0 _ _ _ _ _ _ _
      | exact ih1 _ _ _ _ _ _ _ _
      | exact ih2 _ _ _ _ _ _ _ _
      | exact ih3 _ _ _ _ _ _ _ _
      | exact spec_l05Give.mono _ _ _ _
      | exact spec_l05Is.mono _ _ _ _
      | exact spec_l05Put.mono _ _ _ _
      | exact spec_l05Read.mono _ _ _ _
      | exact LeO.none _
      | refine LeO.ite ?_ ?_
      | refine LeO.bind ?_ (fun _ => ?_)
theorem spec_JoinPresence.mono : ∀ a0 a1 a2 a3 a4 a5 k, LeO (spec_JoinPresence.f k a0 a1 a2 a3 a4 a5) (spec_JoinPresence.f (k + 1) a0 a1 a2 a3 a4 a5) := by
  intro a0 a1 a2 a3 a4 a5 k
  obtain ⟨ih0, ih1, ih2, ih3⟩ := spec_JoinPresence.mono_l k
  unfold spec_JoinPresence.f
  repeat' first
      | (with_reducible exact ih0 _ _ _ _ _ _ _)
      | (with_reducible exact ih1 _ _ _ _ _ _ _ _)
      | (with_reducible exact ih2 _ _ _ _ _ _ _ _)
      | (with_reducible exact ih3 _ _ _ _ _ _ _ _)
      | (with_reducible exact spec_l05Give.mono _ _ _ _)
      | (with_reducible exact spec_l05Is.mono _ _ _ _)
      | (with_reducible exact spec_l05Put.mono _ _ _ _)
      | (with_reducible exact spec_l05Read.mono _ _ _ _)
      | (with_reducible exact LeO.refl _)
      | (with_reducible exact LeO.none _)
      | (with_reducible refine LeO.ite ?_ ?_)
      | (with_reducible refine LeO.bind ?_ (fun _ => ?_))
      | exact ih0 _ _ _ _ _ _ _
      | exact ih1 _ _ _ _ _ _ _ _
      | exact ih2 _ _ _ _ _ _ _ _
      | exact ih3 _ _ _ _ _ _ _ _
      | exact spec_l05Give.mono _ _ _ _
      | exact spec_l05Is.mono _ _ _ _
      | exact spec_l05Put.mono _ _ _ _
      | exact spec_l05Read.mono _ _ _ _
      | exact LeO.none _
      | refine LeO.ite ?_ ?_
      | refine LeO.bind ?_ (fun _ => ?_)
def spec_JoinPresence.T7 : Bool × List (List Nat × List Nat) := (true, [([], []), ([0], [0]), ([], []), ([2], [2]), ([], []), ([3, 4], [3, 4]), ([5], [5]), ([6], [6]), ([], []), ([8], [8]), ([], []), ([9, 10], [9, 10]), ([11], [11]), ([12], [12]), ([1, 7, 13], [1, 7, 13]), ([0, 1, 2, 3, 4, 5, 6, 7, 8, 9, 10, 11, 12, 13, 14], []), ([15, 14, 14, 0, 1, 2, 3, 4, 5, 6, 7, 8, 9, 10, 11, 12, 13, 14], [14, 15])])
def spec_JoinPresence.B7 : List Nat := [0, 1, 0, 4, 0, 28, 60, 124, 0, 256, 0, 1792, 3840, 7936, 16383, 32767, 65535]
theorem spec_JoinPresence.tab7 : rtab .any (opsOf Try.f36 7) = spec_JoinPresence.T7 := by kernel_rfl
theorem spec_JoinPresence.bits7 : waitsOk spec_JoinPresence.T7.2 spec_JoinPresence.B7 = true := by kernel_rfl
def spec_JoinPresence.T12 : Bool × List (List Nat × List Nat) := (true, [([], []), ([0], [0]), ([], []), ([2], [2]), ([], []), ([3, 4], [3, 4]), ([5], [5]), ([6], [6]), ([], []), ([8], [8]), ([], []), ([9, 10], [9, 10]), ([11], [11]), ([12], [12]), ([1, 7, 13], [1, 7, 13]), ([0, 1, 2, 3, 4, 5, 6, 7, 8, 9, 10, 11, 12, 13, 14], []), ([15, 14, 14, 0, 1, 2, 3, 4, 5, 6, 7, 8, 9, 10, 11, 12, 13, 14], [14, 15])])
def spec_JoinPresence.B12 : List Nat := [0, 1, 0, 4, 0, 28, 60, 124, 0, 256, 0, 1792, 3840, 7936, 16383, 32767, 65535]
theorem spec_JoinPresence.tab12 : rtab .any (opsOf Try.f36 12) = spec_JoinPresence.T12 := by kernel_rfl
theorem spec_JoinPresence.bits12 : waitsOk spec_JoinPresence.T12.2 spec_JoinPresence.B12 = true := by kernel_rfl
def spec_JoinPresence.T17 : Bool × List (List Nat × List Nat) := (true, [([], []), ([0], [0]), ([], []), ([2], [2]), ([], []), ([3, 4], [3, 4]), ([5], [5]), ([6], [6]), ([], []), ([8], [8]), ([], []), ([9, 10], [9, 10]), ([11], [11]), ([12], [12]), ([1, 7, 13], [1, 7, 13]), ([0, 1, 2, 3, 4, 5, 6, 7, 8, 9, 10, 11, 12, 13, 14], []), ([15, 14, 14, 0, 1, 2, 3, 4, 5, 6, 7, 8, 9, 10, 11, 12, 13, 14], [14, 15])])
def spec_JoinPresence.B17 : List Nat := [0, 1, 0, 4, 0, 28, 60, 124, 0, 256, 0, 1792, 3840, 7936, 16383, 32767, 65535]
theorem spec_JoinPresence.tab17 : rtab .any (opsOf Try.f36 17) = spec_JoinPresence.T17 := by kernel_rfl
theorem spec_JoinPresence.bits17 : waitsOk spec_JoinPresence.T17.2 spec_JoinPresence.B17 = true := by kernel_rfl
set_option maxHeartbeats 8000000 in
set_option maxRecDepth 100000 in
theorem spec_JoinPresence.calls (k : Nat) (A0_0 : Option Addr) (c0_0 : Nat) (l0_0 : List (S63)) (A0_1 : Option Addr) (c0_1 : Nat) (l0_1 : List (S63)) (A0_2 : Option Addr) (c0_2 : Nat) (l0_2 : List (S73)) (A1_0 : Option Addr) (c1_0 : Nat) (l1_0 : List (S63)) (A1_1 : Option Addr) (c1_1 : Nat) (l1_1 : List (S63)) (A1_2 : Option Addr) (c1_2 : Nat) (l1_2 : List (S73)) (r1 : List (S63)) (r2 : List (S63)) (r3 : List (S73)) (r4 : Bool) (w : World) (hr0_0 : Kd.C k63 w A0_0 l0_0.length l0_0) (hc0_0 : l0_0.length ≤ c0_0) (hr0_1 : Kd.C k63 w A0_1 l0_1.length l0_1) (hc0_1 : l0_1.length ≤ c0_1) (hr0_2 : Kd.C k73 w A0_2 l0_2.length l0_2) (hc0_2 : l0_2.length ≤ c0_2) (hr1_0 : Kd.C k63 w A1_0 l1_0.length l1_0) (hc1_0 : l1_0.length ≤ c1_0) (hr1_1 : Kd.C k63 w A1_1 l1_1.length l1_1) (hc1_1 : l1_1.length ≤ c1_1) (hr1_2 : Kd.C k73 w A1_2 l1_2.length l1_2) (hc1_2 : l1_2.length ≤ c1_2) (h : spec_JoinPresence.f k l0_0 l0_1 l0_2 l1_0 l1_1 l1_2 = some (r1, r2, r3, r4)) :
    Calls Try.prog 36 #[.agg #[.slice A0_0 l0_0.length c0_0, .slice A0_1 l0_1.length c0_1, .slice A0_2 l0_2.length c0_2], .agg #[.slice A1_0 l1_0.length c1_0, .slice A1_1 l1_1.length c1_1, .slice A1_2 l1_2.length c1_2]] w fun e w' => ∃ v0_ v1_ v2_ : Value, e = .returned (.tuple #[.agg #[v0_, v1_, v2_], .bool r4]) ∧ Kd.R k63 63 w' w.heap.size (fun k_ => some k_ ≠ (v1_ : Value).ownBlock) v0_ r1 ∧ Kd.R k63 63 w' w.heap.size (fun k_ => some k_ ≠ (v0_ : Value).ownBlock) v1_ r2 ∧ Kd.R k73 73 w' w.heap.size (fun _ => True) v2_ r3 ∧ Below w.heap.size w w' := by
 have hu27 := Try.underlying27
 have HR0_0 := A_ hr0_0
 have HC0_0 := A_ hc0_0
 clear hr0_0 hc0_0
 have HR0_1 := A_ hr0_1
 have HC0_1 := A_ hc0_1
 clear hr0_1 hc0_1
 have HR0_2 := A_ hr0_2
 have HC0_2 := A_ hc0_2
 clear hr0_2 hc0_2
 have HR1_0 := A_ hr1_0
 have HC1_0 := A_ hc1_0
 clear hr1_0 hc1_0
 have HR1_1 := A_ hr1_1
 have HC1_1 := A_ hc1_1
 clear hr1_1 hc1_1
 have HR1_2 := A_ hr1_2
 have HC1_2 := A_ hc1_2
 clear hr1_2 hc1_2
 have HB := A_ (Below.refl w.heap.size w)
 have H : ((spec_l05Is.f k l0_0 l0_1 l0_2).bind fun t253 => (if t253 = true then ((spec_l05Is.f k l1_0 l1_1 l1_2).bind fun t254 => (spec_JoinPresence.j0 k (!t254) l0_0 l0_1 l0_2 l1_0 l1_1 l1_2)) else (spec_JoinPresence.j0 k true l0_0 l0_1 l0_2 l1_0 l1_1 l1_2))) = some (r1, r2, r3, r4) := h
 clear h
 have HC3 := A_ H
 clear H
 go_enter Try.func36, Try.ntmps36
 go_upto_region 1 with (first | ((with_reducible refine gate_dst (N := 2) rfl ?_); refine bx_ 2 #[.slice A0_0 l0_0.length c0_0, .slice A0_1 l0_1.length c0_1, .slice A0_2 l0_2.length c0_2] 27 ?_; intro gb250 hg w4 hbox hb; have GW250 := b6_ hg HB; have GE250 := b6_ hg HB; replace HB := A_ (below_step (y1_ HB.out) hb); have BK250 := A_ (hbox); clear hb hbox hg) | ((with_reducible refine gate_dst (N := 3) rfl ?_); refine bx_ 3 #[.slice A1_0 l1_0.length c1_0, .slice A1_1 l1_1.length c1_1, .slice A1_2 l1_2.length c1_2] 27 ?_; intro gb251 hg w5 hbox hb; have GW251 := b6_ hg HB; have GE251 := b6_ hg HB; have NB250_251 := b4_ hg BK250; have NB251_250 := b5_ hg BK250; replace BK250 := b3_ BK250 hb; replace HB := A_ (below_step (y1_ HB.out) hb); have BK251 := A_ (hbox); clear hb hbox hg) | ((with_reducible refine gate_dst (N := 4) rfl ?_); refine bx_ 4 #[.slice none 0 0, .slice none 0 0, .slice none 0 0] 27 ?_; intro gb252 hg w6 hbox hb; have GW252 := b6_ hg HB; have GE252 := b6_ hg HB; have NB250_252 := b4_ hg BK250; have NB252_250 := b5_ hg BK250; have NB251_252 := b4_ hg BK251; have NB252_251 := b5_ hg BK251; replace BK250 := b3_ BK250 hb; replace BK251 := b3_ BK251 hb; replace HB := A_ (below_step (y1_ HB.out) hb); have BK252 := A_ (hbox); clear hb hbox hg))
 (try simp only [Act.put, List.setIfInBounds_toArray, List.set_cons_zero, List.set_cons_succ])
 go_cut [15] (fun v15 wc => ∃ (kq : Nat) (x15_2 : Bool), v15 = .bool x15_2 ∧ Aside0 (spec_JoinPresence.j0 kq x15_2 l0_0 l0_1 l0_2 l1_0 l1_1 l1_2 = some (r1, r2, r3, r4)) ∧ Aside0 (kq ≤ k) ∧ Aside0 (wc.heap[gb250]? = some (.cells #[(.slice A0_0 l0_0.length c0_0), (.slice A0_1 l0_1.length c0_1), (.slice A0_2 l0_2.length c0_2)] 27 (0, 0))) ∧ Aside0 (wc.heap[gb251]? = some (.cells #[(.slice A1_0 l1_0.length c1_0), (.slice A1_1 l1_1.length c1_1), (.slice A1_2 l1_2.length c1_2)] 27 (0, 0))) ∧ Aside0 (wc.heap[gb252]? = some (.cells #[(.slice none 0 0), (.slice none 0 0), (.slice none 0 0)] 27 (0, 0))) ∧ Aside0 (Below w.heap.size w wc))
 case first =>
  skip
  {
 have H := HC3.out
 clear HC3
 replace H := Option.bind_eq_some_iff.mp H
 obtain ⟨t253, A70, H⟩ := H
 replace H : (if t253 = true then ((spec_l05Is.f k l1_0 l1_1 l1_2).bind fun t254 => (spec_JoinPresence.j0 k (!t254) l0_0 l0_1 l0_2 l1_0 l1_1 l1_2)) else (spec_JoinPresence.j0 k true l0_0 l0_1 l0_2 l1_0 l1_1 l1_2)) = some (r1, r2, r3, r4) := H
 have A7 := A_ A70
 clear A70
 by_cases c8 : t253 = true
 {
 subst c8
 have H1 : ((spec_l05Is.f k l1_0 l1_1 l1_2).bind fun t254 => (spec_JoinPresence.j0 k (!t254) l0_0 l0_1 l0_2 l1_0 l1_1 l1_2)) = some (r1, r2, r3, r4) := by rw [if_pos rfl] at H; exact H
 clear H
 have H := H1
 clear H1
 replace H := Option.bind_eq_some_iff.mp H
 obtain ⟨t254, A90, H⟩ := H
 replace H : (spec_JoinPresence.j0 k (!t254) l0_0 l0_1 l0_2 l1_0 l1_1 l1_2) = some (r1, r2, r3, r4) := H
 have A9 := A_ A90
 clear A90
 have H' := A_ H
 clear H
 go_wp2_with (first | ((with_reducible refine gate_callee (f := 57) rfl ?_); refine goesL_ (some 10) rfl rfl Try.func57 s2_ rfl #[.pointer (some ⟨gb250, 0, none⟩)] rfl s3_ ?_; (with_reducible refine (spec_l05Is.calls k gb250 A0_0 c0_0 l0_0 A0_1 c0_1 l0_1 A0_2 c0_2 l0_2 true _ ?side1 ?side2 ?side3 ?side4 ?side5 ?side6 ?side7 A7.out).mono ?_); (case side1 => exact (b1_ BK250.out)); (case side2 => exact y2_ (Kd.C_below HR0_0.out HB.out)); (case side3 => exact HC0_0.out); (case side4 => exact y2_ (Kd.C_below HR0_1.out HB.out)); (case side5 => exact HC0_1.out); (case side6 => exact y2_ (Kd.C_below HR0_2.out HB.out)); (case side7 => exact HC0_2.out); rintro e w10 ⟨rfl, hb⟩; refine ⟨_, rfl, ?_⟩; replace BK250 := b3_ BK250 hb; replace BK251 := b3_ BK251 hb; replace BK252 := b3_ BK252 hb; replace HB := A_ (below_step (y1_ HB.out) hb); (try clear hb); (try clear hb2); (try clear hk); (try clear hi)) | (go_at_call 57; (with_reducible refine (spec_l05Is.calls k gb251 A1_0 c1_0 l1_0 A1_1 c1_1 l1_1 A1_2 c1_2 l1_2 t254 _ ?side1 ?side2 ?side3 ?side4 ?side5 ?side6 ?side7 A9.out).mono ?_); (case side1 => exact (b1_ BK251.out)); (case side2 => exact y2_ (Kd.C_below HR1_0.out HB.out)); (case side3 => exact HC1_0.out); (case side4 => exact y2_ (Kd.C_below HR1_1.out HB.out)); (case side5 => exact HC1_1.out); (case side6 => exact y2_ (Kd.C_below HR1_2.out HB.out)); (case side7 => exact HC1_2.out); rintro e w11 ⟨rfl, hb⟩; replace BK250 := b3_ BK250 hb; replace BK251 := b3_ BK251 hb; replace BK252 := b3_ BK252 hb; replace HB := A_ (below_step (y1_ HB.out) hb); (try clear hb); (try clear hb2); (try clear hk); (try clear hi)))
 go_meet
 case rel => exact ⟨_, (!t254), s1_, H', ⟨by first | omega | exact Nat.le_refl _⟩, ⟨b1_ BK250.out⟩, ⟨b1_ BK251.out⟩, ⟨b1_ BK252.out⟩, ⟨y1_ HB.out⟩⟩}
 {
 replace c8 := Bool.eq_false_iff.mpr c8
 subst c8
 have H1 : (spec_JoinPresence.j0 k true l0_0 l0_1 l0_2 l1_0 l1_1 l1_2) = some (r1, r2, r3, r4) := by rw [if_neg (show ¬ (false = true) by decide)] at H; exact H
 clear H
 have H := H1
 clear H1
 have H' := A_ H
 clear H
 go_wp2_with (first | ((with_reducible refine gate_callee (f := 57) rfl ?_); refine goesL_ (some 10) rfl rfl Try.func57 s2_ rfl #[.pointer (some ⟨gb250, 0, none⟩)] rfl s3_ ?_; (with_reducible refine (spec_l05Is.calls k gb250 A0_0 c0_0 l0_0 A0_1 c0_1 l0_1 A0_2 c0_2 l0_2 false _ ?side1 ?side2 ?side3 ?side4 ?side5 ?side6 ?side7 A7.out).mono ?_); (case side1 => exact (b1_ BK250.out)); (case side2 => exact y2_ (Kd.C_below HR0_0.out HB.out)); (case side3 => exact HC0_0.out); (case side4 => exact y2_ (Kd.C_below HR0_1.out HB.out)); (case side5 => exact HC0_1.out); (case side6 => exact y2_ (Kd.C_below HR0_2.out HB.out)); (case side7 => exact HC0_2.out); rintro e w12 ⟨rfl, hb⟩; refine ⟨_, rfl, ?_⟩; replace BK250 := b3_ BK250 hb; replace BK251 := b3_ BK251 hb; replace BK252 := b3_ BK252 hb; replace HB := A_ (below_step (y1_ HB.out) hb); (try clear hb); (try clear hb2); (try clear hk); (try clear hi)))
 go_meet
 case rel => exact ⟨_, (true), s1_, H', ⟨by first | omega | exact Nat.le_refl _⟩, ⟨b1_ BK250.out⟩, ⟨b1_ BK251.out⟩, ⟨b1_ BK252.out⟩, ⟨y1_ HB.out⟩⟩}}
 case rest =>
  skip
  {
 clear HC3
 try clear c1
 try clear p2
 try clear c3
 try clear c5
 try clear c8
 obtain ⟨kq, x15_2, rfl, HA, HJ2, BK250, BK251, BK252, HB⟩ := hcut
 cases kq with
 | zero => exact absurd HA.out (by simp [spec_JoinPresence.j0])
 | succ kj2 =>
  skip
  {
 have H := HA.out
 clear HA
 simp only [spec_JoinPresence.j0] at H
 by_cases c13 : x15_2 = true
 {
 subst c13
 have H1 : (some (([] : List (S63)), ([] : List (S63)), ([] : List (S73)), false)) = some (r1, r2, r3, r4) := by rw [if_pos rfl] at H; exact H
 clear H
 have H := H1
 clear H1
 simp only [Option.some.injEq, Prod.mk.injEq] at H
 obtain ⟨rfl, rfl, rfl, rfl⟩ := H
 have hnb14 := NB252_250.out
 have hnc14 := NB250_252.out
 have hnb15 := NB252_251.out
 have hnc15 := NB251_252.out
 have hcz16_0 := c1_ BK252 0 (.slice none 0 0)
 have hcz16_1 := c1_ BK252 1 (.slice none 0 0)
 have hcz16_2 := c1_ BK252 2 (.slice none 0 0)
 have hfz16_0 := f1_ BK252 0
 have hfz16_1 := f1_ BK252 1
 have hfz16_2 := f1_ BK252 2
 go_wp2
 refine bodyPost_ret (results_ct rfl _ _ gb252 27 #[.slice none 0 0, .slice none 0 0, .slice none 0 0] (0, 0) _ rfl (by refine b1_ ?_; refine blk_put3 (cs := #[.slice none 0 0, .slice none 0 0, .slice none 0 0]) ?_ rfl; refine b1_ ?_; exact BK252.out) Try.underlying27 rfl s2_) rfl ?_
 exact ⟨_, _, _, e1_, by first | exact Kd.R_nil _ _ _ _ _ | exact Kd.N_nil _ _ _ _ _ | exact Kd.V_nil _ _ _ _ _ | exact Kd.Q_nil _ _ _ _ _ | exact Kd.S_nil _ _ _ _ _, by first | exact Kd.R_nil _ _ _ _ _ | exact Kd.N_nil _ _ _ _ _ | exact Kd.V_nil _ _ _ _ _ | exact Kd.Q_nil _ _ _ _ _ | exact Kd.S_nil _ _ _ _ _, by first | exact Kd.R_nil _ _ _ _ _ | exact Kd.N_nil _ _ _ _ _ | exact Kd.V_nil _ _ _ _ _ | exact Kd.Q_nil _ _ _ _ _ | exact Kd.S_nil _ _ _ _ _, by repeat (first | (with_reducible first | exact HB.out | apply below_alloc | apply pw_below_drewN | apply below_drew1 | refine below_set ?_ GE252.out) | exact HB.out)⟩}
 {
 replace c13 := Bool.eq_false_iff.mpr c13
 subst c13
 have H1 : ((spec_l05Own.f l0_0 l0_1 l0_2).bind fun bt255 => (spec_JoinPresence.l0 kj2 (l1_0.length : Int) 0 l1_0 l1_1 l1_2 bt255.1 bt255.2.1 bt255.2.2)) = some (r1, r2, r3, r4) := by rw [if_neg (show ¬ (false = true) by decide)] at H; exact H
 clear H
 have H := H1
 clear H1
 replace H := Option.bind_eq_some_iff.mp H
 obtain ⟨⟨t255, t258, t261⟩, A170, H⟩ := H
 replace H : (spec_JoinPresence.l0 kj2 (l1_0.length : Int) 0 l1_0 l1_1 l1_2 t255 t258 t261) = some (r1, r2, r3, r4) := H
 have A17 := A_ A170
 clear A170
 have H' := A_ H
 clear H
 go_wp2_with (first | ((with_reducible refine gate_callee (f := 62) rfl ?_); refine goesL_ (some 17) rfl rfl Try.func62 s2_ rfl #[.pointer (some ⟨gb250, 0, none⟩)] rfl s3_ ?_; (with_reducible refine (spec_l05Own.calls gb250 A0_0 c0_0 l0_0 A0_1 c0_1 l0_1 A0_2 c0_2 l0_2 t255 t258 t261 _ ?side1 ?side2 ?side3 ?side4 ?side5 ?side6 ?side7 A17.out).mono ?_); (case side1 => exact (b1_ BK250.out)); (case side2 => exact y2_ (Kd.C_below HR0_0.out HB.out)); (case side3 => exact HC0_0.out); (case side4 => exact y2_ (Kd.C_below HR0_1.out HB.out)); (case side5 => exact HC0_1.out); (case side6 => exact y2_ (Kd.C_below HR0_2.out HB.out)); (case side7 => exact HC0_2.out); rintro e w18 ⟨v256, v259, v262, rfl, ho0, ho1, ho2, hb⟩; refine ⟨_, rfl, ?_⟩; have HO257 := A_ (Kd.R_lower ho0 (below_size (y1_ HB.out))); have HO260 := A_ (Kd.R_lower ho1 (below_size (y1_ HB.out))); have HO263 := A_ (Kd.R_lower ho2 (below_size (y1_ HB.out))); replace BK250 := b3_ BK250 hb; replace BK251 := b3_ BK251 hb; replace BK252 := b3_ BK252 hb; replace HB := A_ (below_step (y1_ HB.out) hb); (try clear hb); (try clear hb2); (try clear hk); (try clear hi); (try clear ho0); (try clear ho1); (try clear ho2)) | ((with_reducible refine gate_dst (N := 6) rfl ?_); refine bx_ 6 #[.slice none 0 0, .slice none 0 0, .slice none 0 0] 27 ?_; intro gb264 hg w19 hbox hb; have GW264 := b6_ hg HB; have GE264 := b6_ hg HB; have NB250_264 := b4_ hg BK250; have NB264_250 := b5_ hg BK250; have NB251_264 := b4_ hg BK251; have NB264_251 := b5_ hg BK251; have NB252_264 := b4_ hg BK252; have NB264_252 := b5_ hg BK252; replace HO257 := r1_ HO257 hb; replace HO260 := r1_ HO260 hb; replace HO263 := r1_ HO263 hb; replace BK250 := b3_ BK250 hb; replace BK251 := b3_ BK251 hb; replace BK252 := b3_ BK252 hb; replace HB := A_ (below_step (y1_ HB.out) hb); have BK264 := A_ (hbox); clear hb hbox hg; obtain ⟨Ao20, co20, eo20⟩ := Kd.R_slice HO257.out; subst eo20; have hnb21 := NB264_250.out; have hnc21 := NB250_264.out; have hnb22 := NB264_251.out; have hnc22 := NB251_264.out; have hnb23 := NB264_252.out; have hnc23 := NB252_264.out; have hcz24_0 := c1_ BK264 0 (.slice none 0 0); have hcz24_1 := c1_ BK264 1 (.slice none 0 0); have hcz24_2 := c1_ BK264 2 (.slice none 0 0); have hfz24_0 := f1_ BK264 0; have hfz24_1 := f1_ BK264 1; have hfz24_2 := f1_ BK264 2; obtain ⟨Ao25, co25, eo25⟩ := Kd.R_slice HO260.out; subst eo25; obtain ⟨Ao26, co26, eo26⟩ := Kd.R_slice HO263.out; subst eo26; have hnb27 := NB251_250.out; have hnc27 := NB250_251.out; have hnb28 := NB251_252.out; have hnc28 := NB252_251.out; have hcz29_0 := c1_ BK251 0 (.slice A1_0 l1_0.length c1_0); have hcz29_1 := c1_ BK251 1 (.slice A1_1 l1_1.length c1_1); have hcz29_2 := c1_ BK251 2 (.slice A1_2 l1_2.length c1_2); have hfz29_0 := f1_ BK251 0; have hfz29_1 := f1_ BK251 1; have hfz29_2 := f1_ BK251 2))
 go_loopg [21] kj2 (fun kq v21 w' => ∃ (x21_2 : Int) (x265000_2 : List (S63)) (u265000 : Value), v21 = .int .i64 x21_2 ∧ Aside0 (spec_JoinPresence.l0 kq (l1_0.length : Int) x21_2 l1_0 l1_1 l1_2 x265000_2 t258 t261 = some (r1, r2, r3, r4)) ∧ Aside0 (kq ≤ kj2) ∧ Aside0 (Kd.R k63 63 w' w.heap.size (fun k_ => some k_ ≠ ((.slice Ao25 t258.length co25) : Value).ownBlock) u265000 x265000_2) ∧ Aside0 (Kd.R k63 63 w' w.heap.size (fun k_ => some k_ ≠ (u265000 : Value).ownBlock) (.slice Ao25 t258.length co25) t258) ∧ Aside0 (Kd.R k73 73 w' w.heap.size (fun _ => True) (.slice Ao26 t261.length co26) t261) ∧ Aside0 (w'.heap[gb250]? = some (.cells #[(.slice A0_0 l0_0.length c0_0), (.slice A0_1 l0_1.length c0_1), (.slice A0_2 l0_2.length c0_2)] 27 (0, 0))) ∧ Aside0 (w'.heap[gb251]? = some (.cells #[(.slice A1_0 l1_0.length c1_0), (.slice A1_1 l1_1.length c1_1), (.slice A1_2 l1_2.length c1_2)] 27 (0, 0))) ∧ Aside0 (w'.heap[gb252]? = some (.cells #[(.slice none 0 0), (.slice none 0 0), (.slice none 0 0)] 27 (0, 0))) ∧ Aside0 (w'.heap[gb264]? = some (.cells #[u265000, (.slice Ao25 t258.length co25), (.slice Ao26 t261.length co26)] 27 (0, 0))) ∧ Aside0 (Below w.heap.size w w'))
 case atStart => exact ⟨(0), (t255), (.slice Ao20 t255.length co20), s1_, H', ⟨Nat.le_refl _⟩, ⟨by refine b2_ ?_; exact Kd.R_mono (Kd.R_far3 (g := gb264) (Kd.R_types HO257.out BK264.out (by decide)) (fun _ hk => hk.2)) (fun _ hk => hk.1)⟩, ⟨by refine b2_ ?_; exact Kd.R_mono (Kd.R_far3 (g := gb264) (Kd.R_types HO260.out BK264.out (by decide)) (fun _ hk => hk.2)) (fun _ hk => hk.1)⟩, ⟨by refine b2_ ?_; exact Kd.R_mono (Kd.R_far3 (g := gb264) (Kd.R_types HO263.out BK264.out (by decide)) (fun _ hk => hk.2)) (fun _ hk => trivial)⟩, ⟨by refine b1_ ?_; refine blk_far3 ?_ NB250_264.out; refine b1_ ?_; exact BK250.out⟩, ⟨by refine b1_ ?_; refine blk_far3 ?_ NB251_264.out; refine b1_ ?_; exact BK251.out⟩, ⟨by refine b1_ ?_; refine blk_far3 ?_ NB252_264.out; refine b1_ ?_; exact BK252.out⟩, ⟨by refine b1_ ?_; refine blk_put3 (cs := #[.slice none 0 0, .slice none 0 0, .slice none 0 0]) ?_ rfl; refine b1_ ?_; exact BK264.out⟩, ⟨by repeat (first | (with_reducible first | exact HB.out | apply below_alloc | apply pw_below_drewN | apply below_drew1 | refine below_set ?_ GE264.out) | exact HB.out)⟩⟩
 case round =>
  skip
  {
 clear H'
 try clear c1
 try clear c2
 try clear p2
 try clear c3
 try clear c5
 try clear c6
 try clear c8
 try clear c13
 try clear c14
 try clear c15
 try clear c21
 try clear c22
 try clear c23
 try clear c27
 try clear c28
 try clear hcz16_0
 try clear hcz16_1
 try clear hcz16_2
 try clear hcz24_0
 try clear hcz24_1
 try clear hcz24_2
 try clear hcz29_0
 try clear hcz29_1
 try clear hcz29_2
 try clear hfz16_0
 try clear hfz16_1
 try clear hfz16_2
 try clear hfz24_0
 try clear hfz24_1
 try clear hfz24_2
 try clear hfz29_0
 try clear hfz29_1
 try clear hfz29_2
 try clear p2
 obtain ⟨x21_2, x265000_2, u265000, rfl, HA, HK2, HO_265000, HO_265001, HO_265002, BK250, BK251, BK252, BK264, HB⟩ := hrel
 cases gk with
 | zero => exact absurd HA.out (by simp [spec_JoinPresence.l0])
 | succ k2 =>
  skip
  {
 have H := HA.out
 clear HA
 simp only [spec_JoinPresence.l0] at H
 by_cases c30 : x21_2 < (l1_0.length : Int)
 {
 rw [if_pos c30] at H
 have c30b0 : decide (x21_2 < (l1_0.length : Int)) = true := decide_eq_true c30
 clear c30
 by_cases c31 : 0 ≤ x21_2
 {
 rw [if_pos c31] at H
 have c31b0 : decide (0 ≤ x21_2) = true := decide_eq_true c31
 clear c31
 by_cases c32 : x21_2 < (l1_0.length : Int)
 {
 rw [if_pos c32] at H
 have c32b0 : decide (x21_2 < (l1_0.length : Int)) = true := decide_eq_true c32
 clear c32
 replace H := Option.bind_eq_some_iff.mp H
 obtain ⟨t267, A330, H⟩ := H
 replace H : (spec_JoinPresence.l0 k2 (l1_0.length : Int) (wrap64 (x21_2 + 1)) l1_0 l1_1 l1_2 t267 t258 t261) = some (r1, r2, r3, r4) := H
 have A33 := A_ A330
 clear A330
 have H' := A_ H
 clear H
 try go_wp2
 replace HO_265000 := A_ (Kd.R_drew HO_265000.out)
 replace HO_265001 := A_ (Kd.R_drew HO_265001.out)
 replace HO_265002 := A_ (Kd.R_drew HO_265002.out)
 replace BK250 := A_ (blk_drew BK250.out)
 replace BK251 := A_ (blk_drew BK251.out)
 replace BK252 := A_ (blk_drew BK252.out)
 replace BK264 := A_ (blk_drew BK264.out)
 replace HB := A_ (below_drew1 HB.out)
 have p265 : 0 ≤ (x21_2 : Int) := o1_
 have q265 : x21_2 < (l1_0.length : Int) := o1_
 obtain ⟨ad265, e265, hx265_0, hx265_1⟩ := at_T63 HR1_0.out x21_2 p265 q265
 have hw265_1 := hx265_1
 have hw265_0 := hx265_0
 cases e265
 replace hx265_0 := (HB.out.cell (World.block_lt_of_cell? w _ hx265_0)).trans hx265_0
 replace hx265_1 := (HB.out.cell (World.block_lt_of_cell? w _ hx265_1)).trans hx265_1
 replace p265 := eq_true p265
 replace q265 := eq_true q265
 have p266 : 0 ≤ (x21_2 : Int) := o1_
 have q266 : x21_2 < (l1_0.length : Int) := o1_
 obtain ⟨ad266, e266, hx266_0, hx266_1⟩ := at_T63 HR1_0.out x21_2 p266 q266
 have hw266_1 := hx266_1
 have hw266_0 := hx266_0
 obtain rfl : ad265 = ad266 := (by injection e266)
 replace hx266_0 := (HB.out.cell (World.block_lt_of_cell? w _ hx266_0)).trans hx266_0
 replace hx266_1 := (HB.out.cell (World.block_lt_of_cell? w _ hx266_1)).trans hx266_1
 replace p266 := eq_true p266
 replace q266 := eq_true q266
 obtain ⟨Ao35, co35, eo35⟩ := Kd.R_slice HO_265000.out
 (first | subst eo35 | (injection eo35 with f1_ f2_ f3_; have f4_ := f1_.symm; have f5_ := f3_.symm; clear f1_ f2_ f3_; subst f4_; subst f5_))
 refine start_ (n := 17) (S := fun w' => w'.cell? ⟨gb264, 0, none⟩ = some (.slice Ao35 x265000_2.length co35) ∧ w'.cell? ⟨gb264, 1, none⟩ = some (.slice Ao25 t258.length co25) ∧ w'.cell? ⟨gb264, 2, none⟩ = some (.slice Ao26 t261.length co26) ∧ w'.cell? ⟨gb251, 0, none⟩ = some (.slice (some ad265) l1_0.length c1_0) ∧ w'.cell? ⟨gb251, 1, none⟩ = some (.slice A1_1 l1_1.length c1_1) ∧ w'.cell? ⟨gb251, 2, none⟩ = some (.slice A1_2 l1_2.length c1_2) ∧ w'.cell? (ad265.add ((x21_2).toNat * 2)) = some (.int .i64 ((rd_T63 l1_0 x21_2).f0)) ∧ w'.cell? ⟨(ad265.add ((x21_2).toNat * 2)).block, (ad265.add ((x21_2).toNat * 2)).off + 1, none⟩ = some (.int .i64 ((rd_T63 l1_0 x21_2).f1)) ∧ w'.cell? (ad265.add ((x21_2).toNat * 2)) = some (.int .i64 ((rd_T63 l1_0 x21_2).f0)) ∧ w'.cell? ⟨(ad265.add ((x21_2).toNat * 2)).block, (ad265.add ((x21_2).toNat * 2)).off + 1, none⟩ = some (.int .i64 ((rd_T63 l1_0 x21_2).f1))) (ds := [16]) m0_ s2_ rfl rfl ⟨(blk_cell BK264.out 0).trans rfl, (blk_cell BK264.out 1).trans rfl, (blk_cell BK264.out 2).trans rfl, (blk_cell BK251.out 0).trans rfl, (blk_cell BK251.out 1).trans rfl, (blk_cell BK251.out 2).trans rfl, ((HB.out.cell (World.block_lt_of_cell? w _ hw265_0)).trans hw265_0), ((HB.out.cell (World.block_lt_of_cell? w _ hw265_1)).trans hw265_1), ((HB.out.cell (World.block_lt_of_cell? w _ hw266_0)).trans hw266_0), ((HB.out.cell (World.block_lt_of_cell? w _ hw266_1)).trans hw266_1)⟩ (fun hHeld => ?_); refine with_tabW spec_JoinPresence.tab7 spec_JoinPresence.bits7 (fun HT_ HW_ => ?_)
 generalize wr.drew = w34 at HO_265000 HO_265001 HO_265002 BK250 BK251 BK252 BK264 HB hx265_0 hx265_1 hx266_0 hx266_1 hHeld ⊢
 refine pu_ 0 24 m1_ (any_of HT_.out s2_) ?_
 refine pu_ 2 26 m2_ (any_of HT_.out s2_) ?_
 refine pu_ 4 28 m3_ (any_of HT_.out s2_) ?_
 refine pu_ 8 32 m4_ (any_of HT_.out s2_) ?_
 refine pu_ 10 34 m5_ (any_of HT_.out s2_) ?_
 refine take_ (i := 1) (N := some 25) (v := ?_) (a' := ?_) m6_ rfl rfl (take_ofW HT_.out HW_.out s2_) (fun _ _ _ h => h) (Or.inl ⟨by rfl, ?_⟩) hHeld ?_ ?_
 rotate_left
 {
 rintro w' ⟨s0, s1, s2, s3, s4, s5, s6, s7, s8, s9⟩
 go_simp
 with_reducible rfl}
 rotate_left
 · exact p1_
 refine take_ (i := 3) (N := some 27) (v := ?_) (a' := ?_) m7_ rfl rfl (take_ofW HT_.out HW_.out s2_) (fun _ _ _ h => h) (Or.inl ⟨by rfl, ?_⟩) hHeld ?_ ?_
 rotate_left
 {
 rintro w' ⟨s0, s1, s2, s3, s4, s5, s6, s7, s8, s9⟩
 go_simp
 with_reducible rfl}
 rotate_left
 · exact p1_
 refine pu_ 5 29 m8_ (any_of HT_.out s2_) ?_
 refine pu_ 6 30 m9_ (any_of HT_.out s2_) ?_
 refine take_ (i := 7) (N := some 31) (v := ?_) (a' := ?_) m10_ rfl rfl (take_ofW HT_.out HW_.out s2_) (fun _ _ _ h => h) (Or.inl ⟨by rfl, ?_⟩) hHeld ?_ ?_
 rotate_left
 {
 rintro w' ⟨s0, s1, s2, s3, s4, s5, s6, s7, s8, s9⟩
 go_simp
 with_reducible rfl}
 rotate_left
 · exact p1_
 refine take_ (i := 9) (N := some 33) (v := ?_) (a' := ?_) m11_ rfl rfl (take_ofW HT_.out HW_.out s2_) (fun _ _ _ h => h) (Or.inl ⟨by rfl, ?_⟩) hHeld ?_ ?_
 rotate_left
 {
 rintro w' ⟨s0, s1, s2, s3, s4, s5, s6, s7, s8, s9⟩
 go_simp
 with_reducible rfl}
 rotate_left
 · exact p1_
 refine pu_ 11 35 m12_ (any_of HT_.out s2_) ?_
 refine pu_ 12 36 m13_ (any_of HT_.out s2_) ?_
 refine take_ (i := 13) (N := some 37) (v := ?_) (a' := ?_) m14_ rfl rfl (take_ofW HT_.out HW_.out s2_) (fun _ _ _ h => h) (Or.inl ⟨by rfl, ?_⟩) hHeld ?_ ?_
 rotate_left
 {
 rintro w' ⟨s0, s1, s2, s3, s4, s5, s6, s7, s8, s9⟩
 go_simp
 with_reducible rfl}
 rotate_left
 · exact p1_
 refine one_ (i := 14) (N := some 38) m15_ rfl rfl (one_of HT_.out s2_) (by decide) (fun K hK => ?_)
 refine goes_ Try.func80 s2_ rfl #[.slice Ao35 x265000_2.length co35, .int .i64 ((rd_T63 l1_0 x21_2).f0), .int .i64 ((rd_T63 l1_0 x21_2).f1)] (by rfl) rfl rfl s3_ ?_
 with_reducible refine (spec_l05Put.calls k2 _ _ x265000_2 ((rd_T63 l1_0 x21_2).f0) ((rd_T63 l1_0 x21_2).f1) t267 _ ?side1 ?side2 A33.out).mono ?_
 (case side1 => exact y2_ (Kd.R_reads' HO_265000.out).2.2)
 (case side2 => exact (Kd.R_reads' HO_265000.out).2.1)
 rintro e w36 ⟨v268, rfl, ho0, hb⟩
 refine ⟨_, rfl, ?_⟩
 have n0_ := A_ (Kd.R_elder' (b2_ HO_265000.out) (Kd.R_base ho0) hb)
 have n1_ := A_ (Kd.R_elder' (b2_ HO_265001.out) (Kd.R_base ho0) hb)
 have n2_ := r1_ HO_265002 hb
 have n3_ := A_ (Kd.R_lower (Kd.R_new' (Kd.R_new' ho0 (Kd.R_lt (b2_ HO_265000.out))) (Kd.R_lt (b2_ HO_265001.out))) (below_size (y1_ HB.out)))
 have n4_ := b3_ BK250 hb
 have n5_ := b3_ BK251 hb
 have n6_ := b3_ BK252 hb
 have n7_ := b3_ BK264 hb
 have n8_ := A_ (below_step (y1_ HB.out) hb)
 clear HO_265000
 clear HO_265001
 clear HO_265002
 clear BK250
 clear BK251
 clear BK252
 clear BK264
 clear HB
 have HO_265000 := n0_
 have HO_265001 := n1_
 have HO_265002 := n2_
 have HO269 := n3_
 have BK250 := n4_
 have BK251 := n5_
 have BK252 := n6_
 have BK264 := n7_
 have HB := n8_
 clear n0_ n1_ n2_ n3_ n4_ n5_ n6_ n7_ n8_
 (try clear hb)
 (try clear hb2)
 (try clear hk)
 (try clear hi)
 (try clear ho0)
 obtain ⟨Ao37, co37, eo37⟩ := Kd.R_slice HO269.out
 (first | subst eo37 | (injection eo37 with f1_ f2_ f3_; have f4_ := f1_.symm; have f5_ := f3_.symm; clear f1_ f2_ f3_; subst f4_; subst f5_))
 refine hK.out _ _ ⟨(blk_cell BK264.out 0).trans rfl, (blk_cell BK264.out 1).trans rfl, (blk_cell BK264.out 2).trans rfl, (blk_cell BK251.out 0).trans rfl, (blk_cell BK251.out 1).trans rfl, (blk_cell BK251.out 2).trans rfl, ((HB.out.cell (World.block_lt_of_cell? w _ hw265_0)).trans hw265_0), ((HB.out.cell (World.block_lt_of_cell? w _ hw265_1)).trans hw265_1), ((HB.out.cell (World.block_lt_of_cell? w _ hw266_0)).trans hw266_0), ((HB.out.cell (World.block_lt_of_cell? w _ hw266_1)).trans hw266_1)⟩ (fun hHeld => ?_)
 clear hK K
 refine norm_ (a' := ?_) ?_ ?_
 rotate_left
 {
 show Act.put _ (some 38) _ = _
 simp only [Act.put, List.setIfInBounds_toArray, List.set_cons_zero, List.set_cons_succ, i64_w, i32_w]
 rfl}
 refine pu_ 15 39 m16_ (any_of HT_.out s2_) ?_
 refine last_ (i := 16) (N := none) m17_ rfl rfl (one_of HT_.out s2_) (by decide) (fun K hK => ?_)
 have hs38 : w36.cell? ⟨gb264, 0, none⟩ = some (.slice Ao35 x265000_2.length co35) := (blk_cell BK264.out 0).trans rfl
 have hfs38 := blk_frozen BK264.out 0
 have hns38_0 := NB250_264.out
 have hns38_1 := NB251_264.out
 have hns38_2 := NB252_264.out
 have hms38_0 := NB264_250.out
 have hms38_1 := NB264_251.out
 have hms38_2 := NB264_252.out
 refine skip_ (w1 := ?_) (by rfl) rfl ?_ ?_
 rotate_left
 {
 go_simp
 rfl}
 refine hK.out _ _ ?_
 clear hK K
 refine done_ (done_of HT_.out s2_) ?_
 try go_wp2
 go_roundg k2
 case measure => have := HJ2.out; have := HK2.out; omega
 case rel => exact ⟨(wrap64 (x21_2 + 1)), (t267), (.slice Ao37 t267.length co37), s1_, H', ⟨by have := HJ2.out; have := HK2.out; omega⟩, ⟨by refine b2_ ?_; exact Kd.R_mono (Kd.R_far (p := ⟨gb264, 0, none⟩) (Kd.R_types HO269.out BK264.out (by decide)) (fun _ hk => hk.2) (.slice Ao37 t267.length co37)) (fun _ hk => hk.1.2)⟩, ⟨by refine b2_ ?_; exact Kd.R_mono (Kd.R_far (p := ⟨gb264, 0, none⟩) (Kd.R_types HO_265001.out BK264.out (by decide)) (fun _ hk => hk.2) (.slice Ao37 t267.length co37)) (fun _ hk => hk.1.2)⟩, ⟨by refine b2_ ?_; exact Kd.R_mono (Kd.R_far (p := ⟨gb264, 0, none⟩) (Kd.R_types HO_265002.out BK264.out (by decide)) (fun _ hk => hk.2) (.slice Ao37 t267.length co37)) (fun _ hk => trivial)⟩, ⟨by refine b1_ ?_; refine blk_far ?_ NB250_264.out _; refine b1_ ?_; exact BK250.out⟩, ⟨by refine b1_ ?_; refine blk_far ?_ NB251_264.out _; refine b1_ ?_; exact BK251.out⟩, ⟨by refine b1_ ?_; refine blk_far ?_ NB252_264.out _; refine b1_ ?_; exact BK252.out⟩, ⟨by refine b1_ ?_; refine blk_put (cs := #[.slice Ao35 x265000_2.length co35, .slice Ao25 t258.length co25, .slice Ao26 t261.length co26]) ?_ 0 _ rfl; refine b1_ ?_; exact BK264.out⟩, ⟨by repeat (first | (with_reducible first | exact HB.out | apply below_alloc | apply pw_below_drewN | apply below_drew1 | refine below_set ?_ GE264.out) | exact HB.out)⟩⟩}
 {
 rw [if_neg c32] at H
 exact absurd H (by simp)}}
 {
 rw [if_neg c31] at H
 exact absurd H (by simp)}}
 {
 rw [if_neg c30] at H
 have c30b0 : decide (x21_2 < (l1_0.length : Int)) = false := decide_eq_false c30
 clear c30
 have H' := A_ H
 clear H
 have hnb39 := NB251_250.out
 have hnc39 := NB250_251.out
 have hnb40 := NB251_252.out
 have hnc40 := NB252_251.out
 have hnb41 := NB251_264.out
 have hnc41 := NB264_251.out
 have hcz42_0 := c1_ BK251 0 (.slice A1_0 l1_0.length c1_0)
 have hcz42_1 := c1_ BK251 1 (.slice A1_1 l1_1.length c1_1)
 have hcz42_2 := c1_ BK251 2 (.slice A1_2 l1_2.length c1_2)
 have hfz42_0 := f1_ BK251 0
 have hfz42_1 := f1_ BK251 1
 have hfz42_2 := f1_ BK251 2
 go_wp2
 go_loopg [44] k2 (fun kq v44 w' => ∃ (x44_3 : Int) (x265001_3 : List (S63)) (u265001 : Value), v44 = .int .i64 x44_3 ∧ Aside0 (spec_JoinPresence.l1 kq (l1_1.length : Int) x44_3 l1_0 l1_1 l1_2 x265000_2 x265001_3 t261 = some (r1, r2, r3, r4)) ∧ Aside0 (kq ≤ k2) ∧ Aside0 (Kd.R k63 63 w' w.heap.size (fun k_ => some k_ ≠ (u265001 : Value).ownBlock) u265000 x265000_2) ∧ Aside0 (Kd.R k63 63 w' w.heap.size (fun k_ => some k_ ≠ (u265000 : Value).ownBlock) u265001 x265001_3) ∧ Aside0 (Kd.R k73 73 w' w.heap.size (fun _ => True) (.slice Ao26 t261.length co26) t261) ∧ Aside0 (w'.heap[gb250]? = some (.cells #[(.slice A0_0 l0_0.length c0_0), (.slice A0_1 l0_1.length c0_1), (.slice A0_2 l0_2.length c0_2)] 27 (0, 0))) ∧ Aside0 (w'.heap[gb251]? = some (.cells #[(.slice A1_0 l1_0.length c1_0), (.slice A1_1 l1_1.length c1_1), (.slice A1_2 l1_2.length c1_2)] 27 (0, 0))) ∧ Aside0 (w'.heap[gb252]? = some (.cells #[(.slice none 0 0), (.slice none 0 0), (.slice none 0 0)] 27 (0, 0))) ∧ Aside0 (w'.heap[gb264]? = some (.cells #[u265000, u265001, (.slice Ao26 t261.length co26)] 27 (0, 0))) ∧ Aside0 (Below w.heap.size w w'))
 case atStart => exact ⟨(0), (t258), (.slice Ao25 t258.length co25), s1_, H', ⟨Nat.le_refl _⟩, ⟨b2_ HO_265000.out⟩, ⟨b2_ HO_265001.out⟩, ⟨b2_ HO_265002.out⟩, ⟨b1_ BK250.out⟩, ⟨b1_ BK251.out⟩, ⟨b1_ BK252.out⟩, ⟨b1_ BK264.out⟩, ⟨y1_ HB.out⟩⟩
 case round =>
  skip
  {
 clear H'
 try clear c1
 try clear c2
 try clear p2
 try clear q2
 try clear hx2
 try clear c3
 try clear c4
 try clear c5
 try clear c6
 try clear p6
 try clear c8
 try clear c13
 try clear c14
 try clear c15
 try clear c21
 try clear c22
 try clear c23
 try clear p26
 try clear q26
 try clear hx26
 try clear c27
 try clear c28
 try clear c30
 try clear c30b0
 try clear c31
 try clear c31b0
 try clear c32
 try clear c32b0
 try clear c36
 try clear c39
 try clear c40
 try clear c41
 try clear hcz16_0
 try clear hcz16_1
 try clear hcz16_2
 try clear hcz24_0
 try clear hcz24_1
 try clear hcz24_2
 try clear hcz29_0
 try clear hcz29_1
 try clear hcz29_2
 try clear hcz42_0
 try clear hcz42_1
 try clear hcz42_2
 try clear hfz16_0
 try clear hfz16_1
 try clear hfz16_2
 try clear hfz24_0
 try clear hfz24_1
 try clear hfz24_2
 try clear hfz29_0
 try clear hfz29_1
 try clear hfz29_2
 try clear hfz42_0
 try clear hfz42_1
 try clear hfz42_2
 try clear hx265_0
 try clear hx265_1
 try clear hx266_0
 try clear hx266_1
 try clear p2
 try clear p265
 try clear p266
 try clear q265
 try clear q266
 obtain ⟨x44_3, x265001_3, u265001, rfl, HA, HK3, HO_265000, HO_265001, HO_265002, BK250, BK251, BK252, BK264, HB⟩ := hrel
 cases gk with
 | zero => exact absurd HA.out (by simp [spec_JoinPresence.l1])
 | succ k3 =>
  skip
  {
 have H := HA.out
 clear HA
 simp only [spec_JoinPresence.l1] at H
 by_cases c43 : x44_3 < (l1_1.length : Int)
 {
 rw [if_pos c43] at H
 have c43b0 : decide (x44_3 < (l1_1.length : Int)) = true := decide_eq_true c43
 clear c43
 by_cases c44 : 0 ≤ x44_3
 {
 rw [if_pos c44] at H
 have c44b0 : decide (0 ≤ x44_3) = true := decide_eq_true c44
 clear c44
 by_cases c45 : x44_3 < (l1_1.length : Int)
 {
 rw [if_pos c45] at H
 have c45b0 : decide (x44_3 < (l1_1.length : Int)) = true := decide_eq_true c45
 clear c45
 replace H := Option.bind_eq_some_iff.mp H
 obtain ⟨t272, A460, H⟩ := H
 replace H : (spec_JoinPresence.l1 k3 (l1_1.length : Int) (wrap64 (x44_3 + 1)) l1_0 l1_1 l1_2 x265000_2 t272 t261) = some (r1, r2, r3, r4) := H
 have A46 := A_ A460
 clear A460
 have H' := A_ H
 clear H
 try go_wp2
 replace HO_265000 := A_ (Kd.R_drew HO_265000.out)
 replace HO_265001 := A_ (Kd.R_drew HO_265001.out)
 replace HO_265002 := A_ (Kd.R_drew HO_265002.out)
 replace BK250 := A_ (blk_drew BK250.out)
 replace BK251 := A_ (blk_drew BK251.out)
 replace BK252 := A_ (blk_drew BK252.out)
 replace BK264 := A_ (blk_drew BK264.out)
 replace HB := A_ (below_drew1 HB.out)
 have p270 : 0 ≤ (x44_3 : Int) := o1_
 have q270 : x44_3 < (l1_1.length : Int) := o1_
 obtain ⟨ad270, e270, hx270_0, hx270_1⟩ := at_T63 HR1_1.out x44_3 p270 q270
 have hw270_1 := hx270_1
 have hw270_0 := hx270_0
 cases e270
 replace hx270_0 := (HB.out.cell (World.block_lt_of_cell? w _ hx270_0)).trans hx270_0
 replace hx270_1 := (HB.out.cell (World.block_lt_of_cell? w _ hx270_1)).trans hx270_1
 replace p270 := eq_true p270
 replace q270 := eq_true q270
 have p271 : 0 ≤ (x44_3 : Int) := o1_
 have q271 : x44_3 < (l1_1.length : Int) := o1_
 obtain ⟨ad271, e271, hx271_0, hx271_1⟩ := at_T63 HR1_1.out x44_3 p271 q271
 have hw271_1 := hx271_1
 have hw271_0 := hx271_0
 obtain rfl : ad270 = ad271 := (by injection e271)
 replace hx271_0 := (HB.out.cell (World.block_lt_of_cell? w _ hx271_0)).trans hx271_0
 replace hx271_1 := (HB.out.cell (World.block_lt_of_cell? w _ hx271_1)).trans hx271_1
 replace p271 := eq_true p271
 replace q271 := eq_true q271
 obtain ⟨Ao48, co48, eo48⟩ := Kd.R_slice HO_265001.out
 (first | subst eo48 | (injection eo48 with f1_ f2_ f3_; have f4_ := f1_.symm; have f5_ := f3_.symm; clear f1_ f2_ f3_; subst f4_; subst f5_))
 refine start_ (n := 17) (S := fun w' => w'.cell? ⟨gb264, 0, none⟩ = some (u265000) ∧ w'.cell? ⟨gb264, 1, none⟩ = some (.slice Ao48 x265001_3.length co48) ∧ w'.cell? ⟨gb264, 2, none⟩ = some (.slice Ao26 t261.length co26) ∧ w'.cell? ⟨gb251, 0, none⟩ = some (.slice A1_0 l1_0.length c1_0) ∧ w'.cell? ⟨gb251, 1, none⟩ = some (.slice (some ad270) l1_1.length c1_1) ∧ w'.cell? ⟨gb251, 2, none⟩ = some (.slice A1_2 l1_2.length c1_2) ∧ w'.cell? (ad270.add ((x44_3).toNat * 2)) = some (.int .i64 ((rd_T63 l1_1 x44_3).f0)) ∧ w'.cell? ⟨(ad270.add ((x44_3).toNat * 2)).block, (ad270.add ((x44_3).toNat * 2)).off + 1, none⟩ = some (.int .i64 ((rd_T63 l1_1 x44_3).f1)) ∧ w'.cell? (ad270.add ((x44_3).toNat * 2)) = some (.int .i64 ((rd_T63 l1_1 x44_3).f0)) ∧ w'.cell? ⟨(ad270.add ((x44_3).toNat * 2)).block, (ad270.add ((x44_3).toNat * 2)).off + 1, none⟩ = some (.int .i64 ((rd_T63 l1_1 x44_3).f1))) (ds := [16]) m0_ s2_ rfl rfl ⟨(blk_cell BK264.out 0).trans rfl, (blk_cell BK264.out 1).trans rfl, (blk_cell BK264.out 2).trans rfl, (blk_cell BK251.out 0).trans rfl, (blk_cell BK251.out 1).trans rfl, (blk_cell BK251.out 2).trans rfl, ((HB.out.cell (World.block_lt_of_cell? w _ hw270_0)).trans hw270_0), ((HB.out.cell (World.block_lt_of_cell? w _ hw270_1)).trans hw270_1), ((HB.out.cell (World.block_lt_of_cell? w _ hw271_0)).trans hw271_0), ((HB.out.cell (World.block_lt_of_cell? w _ hw271_1)).trans hw271_1)⟩ (fun hHeld => ?_); refine with_tabW spec_JoinPresence.tab12 spec_JoinPresence.bits12 (fun HT_ HW_ => ?_)
 generalize wr.drew = w47 at HO_265000 HO_265001 HO_265002 BK250 BK251 BK252 BK264 HB hx270_0 hx270_1 hx271_0 hx271_1 hHeld ⊢
 refine pu_ 0 47 m1_ (any_of HT_.out s2_) ?_
 refine pu_ 2 49 m2_ (any_of HT_.out s2_) ?_
 refine pu_ 4 51 m3_ (any_of HT_.out s2_) ?_
 refine pu_ 8 55 m4_ (any_of HT_.out s2_) ?_
 refine pu_ 10 57 m5_ (any_of HT_.out s2_) ?_
 refine take_ (i := 1) (N := some 48) (v := ?_) (a' := ?_) m6_ rfl rfl (take_ofW HT_.out HW_.out s2_) (fun _ _ _ h => h) (Or.inl ⟨by rfl, ?_⟩) hHeld ?_ ?_
 rotate_left
 {
 rintro w' ⟨s0, s1, s2, s3, s4, s5, s6, s7, s8, s9⟩
 go_simp
 with_reducible rfl}
 rotate_left
 · exact p1_
 refine take_ (i := 3) (N := some 50) (v := ?_) (a' := ?_) m7_ rfl rfl (take_ofW HT_.out HW_.out s2_) (fun _ _ _ h => h) (Or.inl ⟨by rfl, ?_⟩) hHeld ?_ ?_
 rotate_left
 {
 rintro w' ⟨s0, s1, s2, s3, s4, s5, s6, s7, s8, s9⟩
 go_simp
 with_reducible rfl}
 rotate_left
 · exact p1_
 refine pu_ 5 52 m8_ (any_of HT_.out s2_) ?_
 refine pu_ 6 53 m9_ (any_of HT_.out s2_) ?_
 refine take_ (i := 7) (N := some 54) (v := ?_) (a' := ?_) m10_ rfl rfl (take_ofW HT_.out HW_.out s2_) (fun _ _ _ h => h) (Or.inl ⟨by rfl, ?_⟩) hHeld ?_ ?_
 rotate_left
 {
 rintro w' ⟨s0, s1, s2, s3, s4, s5, s6, s7, s8, s9⟩
 go_simp
 with_reducible rfl}
 rotate_left
 · exact p1_
 refine take_ (i := 9) (N := some 56) (v := ?_) (a' := ?_) m11_ rfl rfl (take_ofW HT_.out HW_.out s2_) (fun _ _ _ h => h) (Or.inl ⟨by rfl, ?_⟩) hHeld ?_ ?_
 rotate_left
 {
 rintro w' ⟨s0, s1, s2, s3, s4, s5, s6, s7, s8, s9⟩
 go_simp
 with_reducible rfl}
 rotate_left
 · exact p1_
 refine pu_ 11 58 m12_ (any_of HT_.out s2_) ?_
 refine pu_ 12 59 m13_ (any_of HT_.out s2_) ?_
 refine take_ (i := 13) (N := some 60) (v := ?_) (a' := ?_) m14_ rfl rfl (take_ofW HT_.out HW_.out s2_) (fun _ _ _ h => h) (Or.inl ⟨by rfl, ?_⟩) hHeld ?_ ?_
 rotate_left
 {
 rintro w' ⟨s0, s1, s2, s3, s4, s5, s6, s7, s8, s9⟩
 go_simp
 with_reducible rfl}
 rotate_left
 · exact p1_
 refine one_ (i := 14) (N := some 61) m15_ rfl rfl (one_of HT_.out s2_) (by decide) (fun K hK => ?_)
 refine goes_ Try.func80 s2_ rfl #[.slice Ao48 x265001_3.length co48, .int .i64 ((rd_T63 l1_1 x44_3).f0), .int .i64 ((rd_T63 l1_1 x44_3).f1)] (by rfl) rfl rfl s3_ ?_
 with_reducible refine (spec_l05Put.calls k3 _ _ x265001_3 ((rd_T63 l1_1 x44_3).f0) ((rd_T63 l1_1 x44_3).f1) t272 _ ?side1 ?side2 A46.out).mono ?_
 (case side1 => exact y2_ (Kd.R_reads' HO_265001.out).2.2)
 (case side2 => exact (Kd.R_reads' HO_265001.out).2.1)
 rintro e w49 ⟨v273, rfl, ho0, hb⟩
 refine ⟨_, rfl, ?_⟩
 have n0_ := A_ (Kd.R_elder' (b2_ HO_265000.out) (Kd.R_base ho0) hb)
 have n1_ := A_ (Kd.R_elder' (b2_ HO_265001.out) (Kd.R_base ho0) hb)
 have n2_ := r1_ HO_265002 hb
 have n3_ := A_ (Kd.R_lower (Kd.R_new' (Kd.R_new' ho0 (Kd.R_lt (b2_ HO_265000.out))) (Kd.R_lt (b2_ HO_265001.out))) (below_size (y1_ HB.out)))
 have n4_ := b3_ BK250 hb
 have n5_ := b3_ BK251 hb
 have n6_ := b3_ BK252 hb
 have n7_ := b3_ BK264 hb
 have n8_ := A_ (below_step (y1_ HB.out) hb)
 clear HO_265000
 clear HO_265001
 clear HO_265002
 clear BK250
 clear BK251
 clear BK252
 clear BK264
 clear HB
 have HO_265000 := n0_
 have HO_265001 := n1_
 have HO_265002 := n2_
 have HO274 := n3_
 have BK250 := n4_
 have BK251 := n5_
 have BK252 := n6_
 have BK264 := n7_
 have HB := n8_
 clear n0_ n1_ n2_ n3_ n4_ n5_ n6_ n7_ n8_
 (try clear hb)
 (try clear hb2)
 (try clear hk)
 (try clear hi)
 (try clear ho0)
 obtain ⟨Ao50, co50, eo50⟩ := Kd.R_slice HO274.out
 (first | subst eo50 | (injection eo50 with f1_ f2_ f3_; have f4_ := f1_.symm; have f5_ := f3_.symm; clear f1_ f2_ f3_; subst f4_; subst f5_))
 refine hK.out _ _ ⟨(blk_cell BK264.out 0).trans rfl, (blk_cell BK264.out 1).trans rfl, (blk_cell BK264.out 2).trans rfl, (blk_cell BK251.out 0).trans rfl, (blk_cell BK251.out 1).trans rfl, (blk_cell BK251.out 2).trans rfl, ((HB.out.cell (World.block_lt_of_cell? w _ hw270_0)).trans hw270_0), ((HB.out.cell (World.block_lt_of_cell? w _ hw270_1)).trans hw270_1), ((HB.out.cell (World.block_lt_of_cell? w _ hw271_0)).trans hw271_0), ((HB.out.cell (World.block_lt_of_cell? w _ hw271_1)).trans hw271_1)⟩ (fun hHeld => ?_)
 clear hK K
 refine norm_ (a' := ?_) ?_ ?_
 rotate_left
 {
 show Act.put _ (some 61) _ = _
 simp only [Act.put, List.setIfInBounds_toArray, List.set_cons_zero, List.set_cons_succ, i64_w, i32_w]
 rfl}
 refine pu_ 15 62 m16_ (any_of HT_.out s2_) ?_
 refine last_ (i := 16) (N := none) m17_ rfl rfl (one_of HT_.out s2_) (by decide) (fun K hK => ?_)
 have hs51 : w49.cell? ⟨gb264, 1, none⟩ = some (.slice Ao48 x265001_3.length co48) := (blk_cell BK264.out 1).trans rfl
 have hfs51 := blk_frozen BK264.out 1
 have hns51_0 := NB250_264.out
 have hns51_1 := NB251_264.out
 have hns51_2 := NB252_264.out
 have hms51_0 := NB264_250.out
 have hms51_1 := NB264_251.out
 have hms51_2 := NB264_252.out
 refine skip_ (w1 := ?_) (by rfl) rfl ?_ ?_
 rotate_left
 {
 go_simp
 rfl}
 refine hK.out _ _ ?_
 clear hK K
 refine done_ (done_of HT_.out s2_) ?_
 try go_wp2
 go_roundg k3
 case measure => have := HJ2.out; have := HK2.out; have := HK3.out; omega
 case rel => exact ⟨(wrap64 (x44_3 + 1)), (t272), (.slice Ao50 t272.length co50), s1_, H', ⟨by have := HJ2.out; have := HK2.out; have := HK3.out; omega⟩, ⟨by refine b2_ ?_; exact Kd.R_mono (Kd.R_far (p := ⟨gb264, 1, none⟩) (Kd.R_types HO_265000.out BK264.out (by decide)) (fun _ hk => hk.2) (.slice Ao50 t272.length co50)) (fun _ hk => hk.1.2)⟩, ⟨by refine b2_ ?_; exact Kd.R_mono (Kd.R_far (p := ⟨gb264, 1, none⟩) (Kd.R_types HO274.out BK264.out (by decide)) (fun _ hk => hk.2) (.slice Ao50 t272.length co50)) (fun _ hk => hk.1.1.2)⟩, ⟨by refine b2_ ?_; exact Kd.R_mono (Kd.R_far (p := ⟨gb264, 1, none⟩) (Kd.R_types HO_265002.out BK264.out (by decide)) (fun _ hk => hk.2) (.slice Ao50 t272.length co50)) (fun _ hk => trivial)⟩, ⟨by refine b1_ ?_; refine blk_far ?_ NB250_264.out _; refine b1_ ?_; exact BK250.out⟩, ⟨by refine b1_ ?_; refine blk_far ?_ NB251_264.out _; refine b1_ ?_; exact BK251.out⟩, ⟨by refine b1_ ?_; refine blk_far ?_ NB252_264.out _; refine b1_ ?_; exact BK252.out⟩, ⟨by refine b1_ ?_; refine blk_put (cs := #[u265000, .slice Ao48 x265001_3.length co48, .slice Ao26 t261.length co26]) ?_ 1 _ rfl; refine b1_ ?_; exact BK264.out⟩, ⟨by repeat (first | (with_reducible first | exact HB.out | apply below_alloc | apply pw_below_drewN | apply below_drew1 | refine below_set ?_ GE264.out) | exact HB.out)⟩⟩}
 {
 rw [if_neg c45] at H
 exact absurd H (by simp)}}
 {
 rw [if_neg c44] at H
 exact absurd H (by simp)}}
 {
 rw [if_neg c43] at H
 have c43b0 : decide (x44_3 < (l1_1.length : Int)) = false := decide_eq_false c43
 clear c43
 have H' := A_ H
 clear H
 have hnb52 := NB251_250.out
 have hnc52 := NB250_251.out
 have hnb53 := NB251_252.out
 have hnc53 := NB252_251.out
 have hnb54 := NB251_264.out
 have hnc54 := NB264_251.out
 have hcz55_0 := c1_ BK251 0 (.slice A1_0 l1_0.length c1_0)
 have hcz55_1 := c1_ BK251 1 (.slice A1_1 l1_1.length c1_1)
 have hcz55_2 := c1_ BK251 2 (.slice A1_2 l1_2.length c1_2)
 have hfz55_0 := f1_ BK251 0
 have hfz55_1 := f1_ BK251 1
 have hfz55_2 := f1_ BK251 2
 go_wp2
 go_loopg [67] k3 (fun kq v67 w' => ∃ (x67_4 : Int) (x265002_4 : List (S73)) (u265002 : Value), v67 = .int .i64 x67_4 ∧ Aside0 (spec_JoinPresence.l2 kq (l1_2.length : Int) x67_4 l1_0 l1_1 l1_2 x265000_2 x265001_3 x265002_4 = some (r1, r2, r3, r4)) ∧ Aside0 (kq ≤ k3) ∧ Aside0 (Kd.R k63 63 w' w.heap.size (fun k_ => some k_ ≠ (u265001 : Value).ownBlock) u265000 x265000_2) ∧ Aside0 (Kd.R k63 63 w' w.heap.size (fun k_ => some k_ ≠ (u265000 : Value).ownBlock) u265001 x265001_3) ∧ Aside0 (Kd.R k73 73 w' w.heap.size (fun _ => True) u265002 x265002_4) ∧ Aside0 (w'.heap[gb250]? = some (.cells #[(.slice A0_0 l0_0.length c0_0), (.slice A0_1 l0_1.length c0_1), (.slice A0_2 l0_2.length c0_2)] 27 (0, 0))) ∧ Aside0 (w'.heap[gb251]? = some (.cells #[(.slice A1_0 l1_0.length c1_0), (.slice A1_1 l1_1.length c1_1), (.slice A1_2 l1_2.length c1_2)] 27 (0, 0))) ∧ Aside0 (w'.heap[gb252]? = some (.cells #[(.slice none 0 0), (.slice none 0 0), (.slice none 0 0)] 27 (0, 0))) ∧ Aside0 (w'.heap[gb264]? = some (.cells #[u265000, u265001, u265002] 27 (0, 0))) ∧ Aside0 (Below w.heap.size w w'))
 case atStart => exact ⟨(0), (t261), (.slice Ao26 t261.length co26), s1_, H', ⟨Nat.le_refl _⟩, ⟨b2_ HO_265000.out⟩, ⟨b2_ HO_265001.out⟩, ⟨b2_ HO_265002.out⟩, ⟨b1_ BK250.out⟩, ⟨b1_ BK251.out⟩, ⟨b1_ BK252.out⟩, ⟨b1_ BK264.out⟩, ⟨y1_ HB.out⟩⟩
 case round =>
  skip
  {
 clear H'
 try clear c1
 try clear c2
 try clear p2
 try clear q2
 try clear hx2
 try clear c3
 try clear c4
 try clear c5
 try clear c6
 try clear p6
 try clear c8
 try clear c13
 try clear c14
 try clear c15
 try clear c21
 try clear c22
 try clear c23
 try clear p26
 try clear q26
 try clear hx26
 try clear c27
 try clear p27
 try clear q27
 try clear hx27
 try clear c28
 try clear c30
 try clear c30b0
 try clear c31
 try clear c31b0
 try clear c32
 try clear c32b0
 try clear c36
 try clear c39
 try clear c40
 try clear c41
 try clear c43
 try clear c43b0
 try clear c44
 try clear c44b0
 try clear c45
 try clear c45b0
 try clear c52
 try clear c53
 try clear c54
 try clear hcz16_0
 try clear hcz16_1
 try clear hcz16_2
 try clear hcz24_0
 try clear hcz24_1
 try clear hcz24_2
 try clear hcz29_0
 try clear hcz29_1
 try clear hcz29_2
 try clear hcz42_0
 try clear hcz42_1
 try clear hcz42_2
 try clear hcz55_0
 try clear hcz55_1
 try clear hcz55_2
 try clear hfz16_0
 try clear hfz16_1
 try clear hfz16_2
 try clear hfz24_0
 try clear hfz24_1
 try clear hfz24_2
 try clear hfz29_0
 try clear hfz29_1
 try clear hfz29_2
 try clear hfz42_0
 try clear hfz42_1
 try clear hfz42_2
 try clear hfz55_0
 try clear hfz55_1
 try clear hfz55_2
 try clear hx265_0
 try clear hx265_1
 try clear hx266_0
 try clear hx266_1
 try clear hx270_0
 try clear hx270_1
 try clear hx271_0
 try clear hx271_1
 try clear p2
 try clear p26
 try clear p265
 try clear p266
 try clear p270
 try clear p271
 try clear p6
 try clear q2
 try clear q26
 try clear q265
 try clear q266
 try clear q270
 try clear q271
 obtain ⟨x67_4, x265002_4, u265002, rfl, HA, HK4, HO_265000, HO_265001, HO_265002, BK250, BK251, BK252, BK264, HB⟩ := hrel
 cases gk with
 | zero => exact absurd HA.out (by simp [spec_JoinPresence.l2])
 | succ k4 =>
  skip
  {
 have H := HA.out
 clear HA
 simp only [spec_JoinPresence.l2] at H
 by_cases c56 : x67_4 < (l1_2.length : Int)
 {
 rw [if_pos c56] at H
 have c56b0 : decide (x67_4 < (l1_2.length : Int)) = true := decide_eq_true c56
 clear c56
 by_cases c57 : 0 ≤ x67_4
 {
 rw [if_pos c57] at H
 have c57b0 : decide (0 ≤ x67_4) = true := decide_eq_true c57
 clear c57
 by_cases c58 : x67_4 < (l1_2.length : Int)
 {
 rw [if_pos c58] at H
 have c58b0 : decide (x67_4 < (l1_2.length : Int)) = true := decide_eq_true c58
 clear c58
 replace H := Option.bind_eq_some_iff.mp H
 obtain ⟨t277, A590, H⟩ := H
 replace H : (spec_JoinPresence.l2 k4 (l1_2.length : Int) (wrap64 (x67_4 + 1)) l1_0 l1_1 l1_2 x265000_2 x265001_3 t277) = some (r1, r2, r3, r4) := H
 have A59 := A_ A590
 clear A590
 have H' := A_ H
 clear H
 try go_wp2
 replace HO_265000 := A_ (Kd.R_drew HO_265000.out)
 replace HO_265001 := A_ (Kd.R_drew HO_265001.out)
 replace HO_265002 := A_ (Kd.R_drew HO_265002.out)
 replace BK250 := A_ (blk_drew BK250.out)
 replace BK251 := A_ (blk_drew BK251.out)
 replace BK252 := A_ (blk_drew BK252.out)
 replace BK264 := A_ (blk_drew BK264.out)
 replace HB := A_ (below_drew1 HB.out)
 have p275 : 0 ≤ (x67_4 : Int) := o1_
 have q275 : x67_4 < (l1_2.length : Int) := o1_
 obtain ⟨ad275, e275, hx275_0, hx275_1⟩ := at_T73 HR1_2.out x67_4 p275 q275
 have hw275_1 := hx275_1
 have hw275_0 := hx275_0
 cases e275
 replace hx275_0 := (HB.out.cell (World.block_lt_of_cell? w _ hx275_0)).trans hx275_0
 replace hx275_1 := (HB.out.cell (World.block_lt_of_cell? w _ hx275_1)).trans hx275_1
 replace p275 := eq_true p275
 replace q275 := eq_true q275
 have p276 : 0 ≤ (x67_4 : Int) := o1_
 have q276 : x67_4 < (l1_2.length : Int) := o1_
 obtain ⟨ad276, e276, hx276_0, hx276_1⟩ := at_T73 HR1_2.out x67_4 p276 q276
 have hw276_1 := hx276_1
 have hw276_0 := hx276_0
 obtain rfl : ad275 = ad276 := (by injection e276)
 replace hx276_0 := (HB.out.cell (World.block_lt_of_cell? w _ hx276_0)).trans hx276_0
 replace hx276_1 := (HB.out.cell (World.block_lt_of_cell? w _ hx276_1)).trans hx276_1
 replace p276 := eq_true p276
 replace q276 := eq_true q276
 obtain ⟨Ao61, co61, eo61⟩ := Kd.R_slice HO_265002.out
 (first | subst eo61 | (injection eo61 with f1_ f2_ f3_; have f4_ := f1_.symm; have f5_ := f3_.symm; clear f1_ f2_ f3_; subst f4_; subst f5_))
 refine start_ (n := 17) (S := fun w' => w'.cell? ⟨gb264, 0, none⟩ = some (u265000) ∧ w'.cell? ⟨gb264, 1, none⟩ = some (u265001) ∧ w'.cell? ⟨gb264, 2, none⟩ = some (.slice Ao61 x265002_4.length co61) ∧ w'.cell? ⟨gb251, 0, none⟩ = some (.slice A1_0 l1_0.length c1_0) ∧ w'.cell? ⟨gb251, 1, none⟩ = some (.slice A1_1 l1_1.length c1_1) ∧ w'.cell? ⟨gb251, 2, none⟩ = some (.slice (some ad275) l1_2.length c1_2) ∧ w'.cell? (ad275.add ((x67_4).toNat * 2)) = some (.int .i64 ((rd_T73 l1_2 x67_4).f0)) ∧ w'.cell? ⟨(ad275.add ((x67_4).toNat * 2)).block, (ad275.add ((x67_4).toNat * 2)).off + 1, none⟩ = some (.int .i64 ((rd_T73 l1_2 x67_4).f1)) ∧ w'.cell? (ad275.add ((x67_4).toNat * 2)) = some (.int .i64 ((rd_T73 l1_2 x67_4).f0)) ∧ w'.cell? ⟨(ad275.add ((x67_4).toNat * 2)).block, (ad275.add ((x67_4).toNat * 2)).off + 1, none⟩ = some (.int .i64 ((rd_T73 l1_2 x67_4).f1))) (ds := [16]) m0_ s2_ rfl rfl ⟨(blk_cell BK264.out 0).trans rfl, (blk_cell BK264.out 1).trans rfl, (blk_cell BK264.out 2).trans rfl, (blk_cell BK251.out 0).trans rfl, (blk_cell BK251.out 1).trans rfl, (blk_cell BK251.out 2).trans rfl, ((HB.out.cell (World.block_lt_of_cell? w _ hw275_0)).trans hw275_0), ((HB.out.cell (World.block_lt_of_cell? w _ hw275_1)).trans hw275_1), ((HB.out.cell (World.block_lt_of_cell? w _ hw276_0)).trans hw276_0), ((HB.out.cell (World.block_lt_of_cell? w _ hw276_1)).trans hw276_1)⟩ (fun hHeld => ?_); refine with_tabW spec_JoinPresence.tab17 spec_JoinPresence.bits17 (fun HT_ HW_ => ?_)
 generalize wr.drew = w60 at HO_265000 HO_265001 HO_265002 BK250 BK251 BK252 BK264 HB hx275_0 hx275_1 hx276_0 hx276_1 hHeld ⊢
 refine pu_ 0 70 m1_ (any_of HT_.out s2_) ?_
 refine pu_ 2 72 m2_ (any_of HT_.out s2_) ?_
 refine pu_ 4 74 m3_ (any_of HT_.out s2_) ?_
 refine pu_ 8 78 m4_ (any_of HT_.out s2_) ?_
 refine pu_ 10 80 m5_ (any_of HT_.out s2_) ?_
 refine take_ (i := 1) (N := some 71) (v := ?_) (a' := ?_) m6_ rfl rfl (take_ofW HT_.out HW_.out s2_) (fun _ _ _ h => h) (Or.inl ⟨by rfl, ?_⟩) hHeld ?_ ?_
 rotate_left
 {
 rintro w' ⟨s0, s1, s2, s3, s4, s5, s6, s7, s8, s9⟩
 go_simp
 with_reducible rfl}
 rotate_left
 · exact p1_
 refine take_ (i := 3) (N := some 73) (v := ?_) (a' := ?_) m7_ rfl rfl (take_ofW HT_.out HW_.out s2_) (fun _ _ _ h => h) (Or.inl ⟨by rfl, ?_⟩) hHeld ?_ ?_
 rotate_left
 {
 rintro w' ⟨s0, s1, s2, s3, s4, s5, s6, s7, s8, s9⟩
 go_simp
 with_reducible rfl}
 rotate_left
 · exact p1_
 refine pu_ 5 75 m8_ (any_of HT_.out s2_) ?_
 refine pu_ 6 76 m9_ (any_of HT_.out s2_) ?_
 refine take_ (i := 7) (N := some 77) (v := ?_) (a' := ?_) m10_ rfl rfl (take_ofW HT_.out HW_.out s2_) (fun _ _ _ h => h) (Or.inl ⟨by rfl, ?_⟩) hHeld ?_ ?_
 rotate_left
 {
 rintro w' ⟨s0, s1, s2, s3, s4, s5, s6, s7, s8, s9⟩
 go_simp
 with_reducible rfl}
 rotate_left
 · exact p1_
 refine take_ (i := 9) (N := some 79) (v := ?_) (a' := ?_) m11_ rfl rfl (take_ofW HT_.out HW_.out s2_) (fun _ _ _ h => h) (Or.inl ⟨by rfl, ?_⟩) hHeld ?_ ?_
 rotate_left
 {
 rintro w' ⟨s0, s1, s2, s3, s4, s5, s6, s7, s8, s9⟩
 go_simp
 with_reducible rfl}
 rotate_left
 · exact p1_
 refine pu_ 11 81 m12_ (any_of HT_.out s2_) ?_
 refine pu_ 12 82 m13_ (any_of HT_.out s2_) ?_
 refine take_ (i := 13) (N := some 83) (v := ?_) (a' := ?_) m14_ rfl rfl (take_ofW HT_.out HW_.out s2_) (fun _ _ _ h => h) (Or.inl ⟨by rfl, ?_⟩) hHeld ?_ ?_
 rotate_left
 {
 rintro w' ⟨s0, s1, s2, s3, s4, s5, s6, s7, s8, s9⟩
 go_simp
 with_reducible rfl}
 rotate_left
 · exact p1_
 refine one_ (i := 14) (N := some 84) m15_ rfl rfl (one_of HT_.out s2_) (by decide) (fun K hK => ?_)
 refine goes_ Try.func81 s2_ rfl #[.slice Ao61 x265002_4.length co61, .int .i64 ((rd_T73 l1_2 x67_4).f0), .int .i64 ((rd_T73 l1_2 x67_4).f1)] (by rfl) rfl rfl s3_ ?_
 with_reducible refine (spec_l05Read.calls k4 _ _ x265002_4 ((rd_T73 l1_2 x67_4).f0) ((rd_T73 l1_2 x67_4).f1) t277 _ ?side1 ?side2 A59.out).mono ?_
 (case side1 => exact y2_ (Kd.R_reads' HO_265002.out).2.2)
 (case side2 => exact (Kd.R_reads' HO_265002.out).2.1)
 rintro e w62 ⟨v278, rfl, ho0, hb⟩
 refine ⟨_, rfl, ?_⟩
 have n0_ := r1_ HO_265000 hb
 have n1_ := r1_ HO_265001 hb
 have n2_ := A_ (Kd.R_elder' (b2_ HO_265002.out) (Kd.R_base ho0) hb)
 have n3_ := A_ (Kd.R_lower (Kd.R_new' ho0 (Kd.R_lt (b2_ HO_265002.out))) (below_size (y1_ HB.out)))
 have n4_ := b3_ BK250 hb
 have n5_ := b3_ BK251 hb
 have n6_ := b3_ BK252 hb
 have n7_ := b3_ BK264 hb
 have n8_ := A_ (below_step (y1_ HB.out) hb)
 clear HO_265000
 clear HO_265001
 clear HO_265002
 clear BK250
 clear BK251
 clear BK252
 clear BK264
 clear HB
 have HO_265000 := n0_
 have HO_265001 := n1_
 have HO_265002 := n2_
 have HO279 := n3_
 have BK250 := n4_
 have BK251 := n5_
 have BK252 := n6_
 have BK264 := n7_
 have HB := n8_
 clear n0_ n1_ n2_ n3_ n4_ n5_ n6_ n7_ n8_
 (try clear hb)
 (try clear hb2)
 (try clear hk)
 (try clear hi)
 (try clear ho0)
 obtain ⟨Ao63, co63, eo63⟩ := Kd.R_slice HO279.out
 (first | subst eo63 | (injection eo63 with f1_ f2_ f3_; have f4_ := f1_.symm; have f5_ := f3_.symm; clear f1_ f2_ f3_; subst f4_; subst f5_))
 refine hK.out _ _ ⟨(blk_cell BK264.out 0).trans rfl, (blk_cell BK264.out 1).trans rfl, (blk_cell BK264.out 2).trans rfl, (blk_cell BK251.out 0).trans rfl, (blk_cell BK251.out 1).trans rfl, (blk_cell BK251.out 2).trans rfl, ((HB.out.cell (World.block_lt_of_cell? w _ hw275_0)).trans hw275_0), ((HB.out.cell (World.block_lt_of_cell? w _ hw275_1)).trans hw275_1), ((HB.out.cell (World.block_lt_of_cell? w _ hw276_0)).trans hw276_0), ((HB.out.cell (World.block_lt_of_cell? w _ hw276_1)).trans hw276_1)⟩ (fun hHeld => ?_)
 clear hK K
 refine norm_ (a' := ?_) ?_ ?_
 rotate_left
 {
 show Act.put _ (some 84) _ = _
 simp only [Act.put, List.setIfInBounds_toArray, List.set_cons_zero, List.set_cons_succ, i64_w, i32_w]
 rfl}
 refine pu_ 15 85 m16_ (any_of HT_.out s2_) ?_
 refine last_ (i := 16) (N := none) m17_ rfl rfl (one_of HT_.out s2_) (by decide) (fun K hK => ?_)
 have hs64 : w62.cell? ⟨gb264, 2, none⟩ = some (.slice Ao61 x265002_4.length co61) := (blk_cell BK264.out 2).trans rfl
 have hfs64 := blk_frozen BK264.out 2
 have hns64_0 := NB250_264.out
 have hns64_1 := NB251_264.out
 have hns64_2 := NB252_264.out
 have hms64_0 := NB264_250.out
 have hms64_1 := NB264_251.out
 have hms64_2 := NB264_252.out
 refine skip_ (w1 := ?_) (by rfl) rfl ?_ ?_
 rotate_left
 {
 go_simp
 rfl}
 refine hK.out _ _ ?_
 clear hK K
 refine done_ (done_of HT_.out s2_) ?_
 try go_wp2
 go_roundg k4
 case measure => have := HJ2.out; have := HK2.out; have := HK3.out; have := HK4.out; omega
 case rel => exact ⟨(wrap64 (x67_4 + 1)), (t277), (.slice Ao63 t277.length co63), s1_, H', ⟨by have := HJ2.out; have := HK2.out; have := HK3.out; have := HK4.out; omega⟩, ⟨by refine b2_ ?_; exact Kd.R_mono (Kd.R_far (p := ⟨gb264, 2, none⟩) (Kd.R_types HO_265000.out BK264.out (by decide)) (fun _ hk => hk.2) (.slice Ao63 t277.length co63)) (fun _ hk => hk.1)⟩, ⟨by refine b2_ ?_; exact Kd.R_mono (Kd.R_far (p := ⟨gb264, 2, none⟩) (Kd.R_types HO_265001.out BK264.out (by decide)) (fun _ hk => hk.2) (.slice Ao63 t277.length co63)) (fun _ hk => hk.1)⟩, ⟨by refine b2_ ?_; exact Kd.R_mono (Kd.R_far (p := ⟨gb264, 2, none⟩) (Kd.R_types HO279.out BK264.out (by decide)) (fun _ hk => hk.2) (.slice Ao63 t277.length co63)) (fun _ hk => trivial)⟩, ⟨by refine b1_ ?_; refine blk_far ?_ NB250_264.out _; refine b1_ ?_; exact BK250.out⟩, ⟨by refine b1_ ?_; refine blk_far ?_ NB251_264.out _; refine b1_ ?_; exact BK251.out⟩, ⟨by refine b1_ ?_; refine blk_far ?_ NB252_264.out _; refine b1_ ?_; exact BK252.out⟩, ⟨by refine b1_ ?_; refine blk_put (cs := #[u265000, u265001, .slice Ao61 x265002_4.length co61]) ?_ 2 _ rfl; refine b1_ ?_; exact BK264.out⟩, ⟨by repeat (first | (with_reducible first | exact HB.out | apply below_alloc | apply pw_below_drewN | apply below_drew1 | refine below_set ?_ GE264.out) | exact HB.out)⟩⟩}
 {
 rw [if_neg c58] at H
 exact absurd H (by simp)}}
 {
 rw [if_neg c57] at H
 exact absurd H (by simp)}}
 {
 rw [if_neg c56] at H
 have c56b0 : decide (x67_4 < (l1_2.length : Int)) = false := decide_eq_false c56
 clear c56
 replace H := Option.bind_eq_some_iff.mp H
 obtain ⟨⟨t280, t283, t286, t289⟩, A650, H⟩ := H
 replace H : (some (t280, t283, t286, t289)) = some (r1, r2, r3, r4) := H
 have A65 := A_ A650
 clear A650
 simp only [Option.some.injEq, Prod.mk.injEq] at H
 obtain ⟨rfl, rfl, rfl, rfl⟩ := H
 have hnb66 := NB264_250.out
 have hnc66 := NB250_264.out
 have hnb67 := NB264_251.out
 have hnc67 := NB251_264.out
 have hnb68 := NB264_252.out
 have hnc68 := NB252_264.out
 have hcz69_0 := c1_ BK264 0 (u265000)
 have hcz69_1 := c1_ BK264 1 (u265001)
 have hcz69_2 := c1_ BK264 2 (u265002)
 have hfz69_0 := f1_ BK264 0
 have hfz69_1 := f1_ BK264 1
 have hfz69_2 := f1_ BK264 2
 obtain ⟨Ao70, co70, eo70⟩ := Kd.R_slice HO_265000.out
 subst eo70
 obtain ⟨Ao71, co71, eo71⟩ := Kd.R_slice HO_265001.out
 subst eo71
 obtain ⟨Ao72, co72, eo72⟩ := Kd.R_slice HO_265002.out
 subst eo72
 go_wp2_with (first | ((with_reducible refine gate_callee (f := 82) rfl ?_); refine goesL_ (some 88) rfl rfl Try.func82 s2_ rfl #[.agg #[.slice Ao70 x265000_2.length co70, .slice Ao71 x265001_3.length co71, .slice Ao72 x265002_4.length co72]] rfl s3_ ?_; (with_reducible refine (spec_l05Give.calls k4 (fun k_ => some k_ = (.slice Ao70 x265000_2.length co70 : Value).ownBlock) (.slice Ao70 x265000_2.length co70) x265000_2 (fun k_ => some k_ = (.slice Ao71 x265001_3.length co71 : Value).ownBlock) (.slice Ao71 x265001_3.length co71) x265001_3 (fun k_ => some k_ = (.slice Ao72 x265002_4.length co72 : Value).ownBlock) (.slice Ao72 x265002_4.length co72) x265002_4 t280 t283 t286 t289 w _ ?side1 ?side2 ?side3 ?side4 ?side5 ?side6 A65.out).mono ?_); (case side1 => exact y1_ HB.out); (case side2 => exact Kd.R_tight rfl HO_265000.out); (case side3 => exact fun k_ e_ => (HO_265000.out.1 k_ e_.symm)); (case side4 => exact Kd.R_tight rfl HO_265001.out); (case side5 => exact fun k_ e_ => (HO_265001.out.1 k_ e_.symm)); (case side6 => exact Kd.R_tight rfl HO_265002.out); rintro e w73 ⟨v281, v284, v287, rfl, ho0, ho1, ho2, hb, hkp⟩; refine ⟨_, rfl, ?_⟩; replace BK250 := A_ (blk_kept (b1_ BK250.out) hkp (fun hs_ => Or.elim hs_ (fun e_ => (fun e_ => (Kd.R_ne HO_265000.out BK250.out (by decide)) e_) e_) (fun e_ => Or.elim e_ (fun e_ => (fun e_ => (Kd.R_ne HO_265001.out BK250.out (by decide)) e_) e_) (fun e_ => (fun e_ => (Kd.R_ne HO_265002.out BK250.out (by decide)) e_) e_)))); replace BK251 := A_ (blk_kept (b1_ BK251.out) hkp (fun hs_ => Or.elim hs_ (fun e_ => (fun e_ => (Kd.R_ne HO_265000.out BK251.out (by decide)) e_) e_) (fun e_ => Or.elim e_ (fun e_ => (fun e_ => (Kd.R_ne HO_265001.out BK251.out (by decide)) e_) e_) (fun e_ => (fun e_ => (Kd.R_ne HO_265002.out BK251.out (by decide)) e_) e_)))); replace BK252 := A_ (blk_kept (b1_ BK252.out) hkp (fun hs_ => Or.elim hs_ (fun e_ => (fun e_ => (Kd.R_ne HO_265000.out BK252.out (by decide)) e_) e_) (fun e_ => Or.elim e_ (fun e_ => (fun e_ => (Kd.R_ne HO_265001.out BK252.out (by decide)) e_) e_) (fun e_ => (fun e_ => (Kd.R_ne HO_265002.out BK252.out (by decide)) e_) e_)))); replace BK264 := A_ (blk_kept (b1_ BK264.out) hkp (fun hs_ => Or.elim hs_ (fun e_ => (fun e_ => (Kd.R_ne HO_265000.out BK264.out (by decide)) e_) e_) (fun e_ => Or.elim e_ (fun e_ => (fun e_ => (Kd.R_ne HO_265001.out BK264.out (by decide)) e_) e_) (fun e_ => (fun e_ => (Kd.R_ne HO_265002.out BK264.out (by decide)) e_) e_)))); have HO282 := A_ (Kd.R_mono (ok' := fun k_ => some k_ ≠ (v284 : Value).ownBlock) ho0 (fun k_ hk_ => hk_.2)); have HO285 := A_ (Kd.R_mono (ok' := fun k_ => some k_ ≠ (v281 : Value).ownBlock) ho1 (fun k_ hk_ => hk_.2)); have HO288 := A_ (Kd.R_mono (ok' := fun k_ => True) ho2 (fun k_ hk_ => trivial)); replace HB := A_ (hb); clear HO_265000; clear HO_265001; clear HO_265002; (try clear hb); (try clear hkp); (try clear ho0); (try clear ho1); (try clear ho2); obtain ⟨Ao74, co74, eo74⟩ := Kd.R_slice HO282.out; subst eo74; have hnb75 := NB252_250.out; have hnc75 := NB250_252.out; have hnb76 := NB252_251.out; have hnc76 := NB251_252.out; have hcz77_0 := c1_ BK252 0 (.slice none 0 0); have hcz77_1 := c1_ BK252 1 (.slice none 0 0); have hcz77_2 := c1_ BK252 2 (.slice none 0 0); have hfz77_0 := f1_ BK252 0; have hfz77_1 := f1_ BK252 1; have hfz77_2 := f1_ BK252 2; obtain ⟨Ao78, co78, eo78⟩ := Kd.R_slice HO285.out; subst eo78; obtain ⟨Ao79, co79, eo79⟩ := Kd.R_slice HO288.out; subst eo79))
 refine bodyPost_ret (results_ct rfl _ _ gb252 27 #[.slice Ao74 t280.length co74, .slice Ao78 t283.length co78, .slice Ao79 t286.length co79] (0, 0) _ rfl (by refine b1_ ?_; refine blk_put3 (cs := #[.slice none 0 0, .slice none 0 0, .slice none 0 0]) ?_ rfl; refine b1_ ?_; exact BK252.out) Try.underlying27 rfl s2_) rfl ?_
 exact ⟨_, _, _, e1_, by refine b2_ ?_; exact Kd.R_mono (Kd.R_far3 (g := gb252) (Kd.R_types HO282.out BK252.out (by decide)) (fun _ hk => hk.2)) (fun _ hk => hk.1), by refine b2_ ?_; exact Kd.R_mono (Kd.R_far3 (g := gb252) (Kd.R_types HO285.out BK252.out (by decide)) (fun _ hk => hk.2)) (fun _ hk => hk.1), by refine b2_ ?_; exact Kd.R_mono (Kd.R_far3 (g := gb252) (Kd.R_types HO288.out BK252.out (by decide)) (fun _ hk => hk.2)) (fun _ hk => trivial), by repeat (first | (with_reducible first | exact HB.out | apply below_alloc | apply pw_below_drewN | apply below_drew1 | refine below_set ?_ GE252.out) | exact HB.out)⟩}}}}}}}}}}}}

end Go.Proofs.Ytgfilednbllkmaa.QFnExactJoinPresence
