-- written by a program of this session, on the lines of the kit's print
import Derived.Test.YtcnhepjdibbkgaaQFnMarkedx0
import Derived.Test.YtcnhepjdibbkgaaQFnMarkedx1
import Derived.Test.YtcnhepjdibbkgaaQFnMarkedx2
import Derived.Test.YtcnhepjdibbkgaaQFnMarkedx4
import Derived.Test.YtcnhepjdibbkgaaQFnMarkedx5
namespace Go.Proofs.Ytcnhepjdibbkgaa.QFnMarked
open Go.RowKit Go.Proofs.YtcnhepjdibbkgaaW.PrintWords Go.Proofs.YtcnhepjdibbkgaaW.PrintLast Go.Proofs.YtcnhepjdibbkgaaW.PrintMore
attribute [local go_sem] max2_int min2_int max_two min_two max_three min_three max_four min_four   -- for this text's walks alone
set_option linter.unusedVariables false
set_option linter.unusedSimpArgs false

/-! ### laws_FnMarked: function 5 -/
abbrev laws_FnMarked.T : Bool := true
abbrev laws_FnMarked.F : Bool := false
theorem laws_FnMarked.s1_ {P : Prop} (h : P := by first | rfl | (simp; done) | (simp [*]; done)) : P := h
theorem laws_FnMarked.b2_ {P Q : Prop} (q : Q) (h : Q → P := by intro q_; (with_reducible repeat (first | apply Kd.R_alloc | apply Kd.R_drewN | apply Kd.R_drew)); exact q_) : P := h q
theorem laws_FnMarked.y1_ {P Q : Prop} (q : Q) (h : Q → P := by intro q_; repeat (first | (with_reducible first | exact q_ | apply below_alloc | apply pw_below_drewN | apply below_drew1) | exact q_)) : P := h q
theorem laws_FnMarked.y2_ {P Q : Prop} (q : Q) (h : Q → P := by intro q_; repeat (first | exact q_ | (with_reducible refine Kd.C_alloc ?_ _) | (with_reducible refine Kd.C_drewN ?_ _) | (with_reducible refine Kd.C_drew ?_))) : P := h q
theorem laws_FnMarked.r1_ {α : Type} {d : Kd α} {e base : Nat} {ok : Nat → Prop} {v : Value} {xs : List α} {w W w1 : World} (q : Aside0 (d.R e w base ok v xs)) (hb : Below W.heap.size W w1) (h : d.R e w base ok v xs → d.R e W base ok v xs := by intro q_; (with_reducible repeat (first | apply Kd.R_alloc | apply Kd.R_drewN | apply Kd.R_drew)); exact q_) : Aside0 (d.R e w1 base ok v xs) := ⟨Kd.R_below (h q.out) hb⟩
mutual
def laws_FnMarked.j0 : Nat → ByteArray → List ByteArray → ByteArray → List ByteArray → ByteArray → Bool → Bool → Option (Bool)
  | 0, _, _, _, _, _, _, _ => none
  | k + 1, x5, x6, x8, x10, x12, x13, x57 => if x57 = true then (some false) else (laws_FnMarked.l0 k x5 x6 x8 x10 x12 x13 0 0)
def laws_FnMarked.l0 : Nat → ByteArray → List ByteArray → ByteArray → List ByteArray → ByteArray → Bool → Int → Int → Option (Bool)
  | 0, _, _, _, _, _, _, _, _ => none
  | k + 1, x5, x6, x8, x10, x12, x13, x14, x15 => if x15 < (x10.length : Int) then (laws_FnMarked.l1 k x5 x6 x8 x10 x12 x13 x14 x15 0) else (laws_FnMarked.l2 k x5 x6 x8 x12 x13 x14 (⟨#[]⟩ : ByteArray) 0)
def laws_FnMarked.l1 : Nat → ByteArray → List ByteArray → ByteArray → List ByteArray → ByteArray → Bool → Int → Int → Int → Option (Bool)
  | 0, _, _, _, _, _, _, _, _, _ => none
  | k + 1, x5, x6, x8, x10, x12, x13, x14, x15, x16 => if x16 < (x6.length : Int) then (if 0 ≤ x15 then (if x15 < (x10.length : Int) then (if 0 ≤ x16 then (if (rdOf ByteArray.empty x10 x15).toList = (rdOf ByteArray.empty x6 x16).toList then (laws_FnMarked.l0 k x5 x6 x8 x10 x12 x13 (wrap64 (x14 + 1)) (wrap64 (x15 + 1))) else (laws_FnMarked.l1 k x5 x6 x8 x10 x12 x13 x14 x15 (wrap64 (x16 + 1)))) else (none)) else (none)) else (none)) else (laws_FnMarked.l0 k x5 x6 x8 x10 x12 x13 x14 (wrap64 (x15 + 1)))
def laws_FnMarked.l2 : Nat → ByteArray → List ByteArray → ByteArray → ByteArray → Bool → Int → ByteArray → Int → Option (Bool)
  | 0, _, _, _, _, _, _, _, _ => none
  | k + 1, x5, x6, x8, x12, x13, x14, x17, x18 => if x18 < (x8.size : Int) then (if 0 ≤ x18 then (if (bt x8 x18) = 91 then (laws_FnMarked.l2 k x5 x6 x8 x12 x13 x14 x17 (wrap64 (x18 + 1))) else (if (bt x8 x18) = 93 then (laws_FnMarked.l2 k x5 x6 x8 x12 x13 x14 x17 (wrap64 (x18 + 1))) else (if x18 ≤ (wrap64 (x18 + 1)) then (if (wrap64 (x18 + 1)) ≤ (x8.size : Int) then (if x17.size + (x8.extract (x18 : Int).toNat ((wrap64 (x18 + 1)) : Int).toNat).size ≤ 9223372036854775807 then (laws_FnMarked.l2 k x5 x6 x8 x12 x13 x14 (x17 ++ (x8.extract (x18 : Int).toNat ((wrap64 (x18 + 1)) : Int).toNat)) (wrap64 (x18 + 1))) else (none)) else (none)) else (none)))) else (none)) else (if x17.toList = x5.toList then (if (x8.size : Int) = (wrap64 ((x5.size : Int) + (wrap64 (2 * x14)))) then (laws_FnMarked.j4 k x5 x6 x12 x13 (x13 != (decide (x14 > 0)))) else (laws_FnMarked.j4 k x5 x6 x12 x13 true)) else (laws_FnMarked.j4 k x5 x6 x12 x13 true))
def laws_FnMarked.j4 : Nat → ByteArray → List ByteArray → ByteArray → Bool → Bool → Option (Bool)
  | 0, _, _, _, _, _ => none
  | k + 1, x5, x6, x12, x13, x122 => if x122 = true then (some false) else (if x13 = true then (laws_FnMarked.l3 k x5 x6 x12 false 0) else (some true))
def laws_FnMarked.l3 : Nat → ByteArray → List ByteArray → ByteArray → Bool → Int → Option (Bool)
  | 0, _, _, _, _, _ => none
  | k + 1, x5, x6, x12, x19, x20 => if (wrap64 (x20 + (x12.size : Int))) ≤ (x5.size : Int) then (if x19 = true then (laws_FnMarked.l3 k x5 x6 x12 true (wrap64 (x20 + 1))) else (if 0 ≤ x20 then (if x20 ≤ (wrap64 (x20 + (x12.size : Int))) then (laws_FnMarked.l3 k x5 x6 x12 ((x5.extract (x20 : Int).toNat ((wrap64 (x20 + (x12.size : Int))) : Int).toNat).toList == x12.toList) (wrap64 (x20 + 1))) else (none)) else (none))) else ((impl_SnippetOf.f k x5 x6 80).bind fun bt240 => (if x19 = true then (if bt240.2 = true then (if bt240.1.toList = x5.toList then (some (decide ((x12.size : Int) ≥ 1))) else (some false)) else (some false)) else (some false)))
end
def laws_FnMarked.f (k : Nat) (l0 : List Int) (l1 : List Int) : Option (Bool) := (laws_r8Long.f l0 l1).bind fun t221 => (if t221 = true then (some true) else ((spec_R8Text.f k l0).bind fun t222 => ((spec_R8Words.f k l1).bind fun t223 => (if t223.length < 8796093022208 then ((some (t223 ++ [(⟨#[99, 97, 116]⟩ : ByteArray)] : List ByteArray)).bind fun y226 => ((laws_r8At.f l1 40 12).bind fun t229 => ((impl_MarkWords.f k t222 y226).bind fun bt230 => ((impl_WordsOf.f k t222).bind fun bt232 => ((impl_SnippetOf.f k t222 y226 t229).bind fun bt236 => (if bt230.2 = true then (laws_FnMarked.j0 k t222 y226 bt230.1 bt232.1 bt236.1 bt236.2 (!bt232.2)) else (laws_FnMarked.j0 k t222 y226 bt230.1 bt232.1 bt236.1 bt236.2 true))))))) else (none)))))
theorem laws_FnMarked.mono_l : ∀ k, (∀ y0 y1 y2 y3 y4 y5 y6, LeO (laws_FnMarked.j0 k y0 y1 y2 y3 y4 y5 y6) (laws_FnMarked.j0 (k + 1) y0 y1 y2 y3 y4 y5 y6)) ∧ (∀ y0 y1 y2 y3 y4 y5 y6 y7, LeO (laws_FnMarked.l0 k y0 y1 y2 y3 y4 y5 y6 y7) (laws_FnMarked.l0 (k + 1) y0 y1 y2 y3 y4 y5 y6 y7)) ∧ (∀ y0 y1 y2 y3 y4 y5 y6 y7 y8, LeO (laws_FnMarked.l1 k y0 y1 y2 y3 y4 y5 y6 y7 y8) (laws_FnMarked.l1 (k + 1) y0 y1 y2 y3 y4 y5 y6 y7 y8)) ∧ (∀ y0 y1 y2 y3 y4 y5 y6 y7, LeO (laws_FnMarked.l2 k y0 y1 y2 y3 y4 y5 y6 y7) (laws_FnMarked.l2 (k + 1) y0 y1 y2 y3 y4 y5 y6 y7)) ∧ (∀ y0 y1 y2 y3 y4, LeO (laws_FnMarked.j4 k y0 y1 y2 y3 y4) (laws_FnMarked.j4 (k + 1) y0 y1 y2 y3 y4)) ∧ (∀ y0 y1 y2 y3 y4, LeO (laws_FnMarked.l3 k y0 y1 y2 y3 y4) (laws_FnMarked.l3 (k + 1) y0 y1 y2 y3 y4))
  | 0 => ⟨fun _ _ _ _ _ _ _ r h => by simp [laws_FnMarked.j0] at h, fun _ _ _ _ _ _ _ _ r h => by simp [laws_FnMarked.l0] at h, fun _ _ _ _ _ _ _ _ _ r h => by simp [laws_FnMarked.l1] at h, fun _ _ _ _ _ _ _ _ r h => by simp [laws_FnMarked.l2] at h, fun _ _ _ _ _ r h => by simp [laws_FnMarked.j4] at h, fun _ _ _ _ _ r h => by simp [laws_FnMarked.l3] at h⟩
  | k + 1 => by
    obtain ⟨ih0, ih1, ih2, ih3, ih4, ih5⟩ := laws_FnMarked.mono_l k
    refine ⟨?_, ?_, ?_, ?_, ?_, ?_⟩
    · intro y0 y1 y2 y3 y4 y5 y6
      unfold laws_FnMarked.j0
      repeat' first
      | (with_reducible exact ih0 _ _ _ _ _ _ _)
      | (with_reducible exact ih1 _ _ _ _ _ _ _ _)
      | (with_reducible exact ih2 _ _ _ _ _ _ _ _ _)
      | (with_reducible exact ih3 _ _ _ _ _ _ _ _)
      | (with_reducible exact ih4 _ _ _ _ _)
      | (with_reducible exact ih5 _ _ _ _ _)
      | (with_reducible exact impl_MarkWords.mono _ _ _)
      | (with_reducible exact impl_SnippetOf.mono _ _ _ _)
      | (with_reducible exact impl_WordsOf.mono _ _)
      | (with_reducible exact spec_R8Text.mono _ _)
      | (with_reducible exact spec_R8Words.mono _ _)
      | (with_reducible exact LeO.refl _)
      | (with_reducible exact LeO.none _)
      | (with_reducible refine LeO.ite ?_ ?_)
      | (with_reducible refine LeO.bind ?_ (fun _ => ?_))
      | exact ih0 _ _ _ _ _ _ _
      | exact ih1 _ _ _ _ _ _ _ _
      | exact ih2 _ _ _ _ _ _ _ _ _
      | exact ih3 _ _ _ _ _ _ _ _
      | exact ih4 _ _ _ _ _
      | exact ih5 _ _ _ _ _
      | exact impl_MarkWords.mono _ _ _
      | exact impl_SnippetOf.mono _ _ _ _
      | exact impl_WordsOf.mono _ _
      | exact spec_R8Text.mono _ _
      | exact spec_R8Words.mono _ _
      | exact LeO.none _
      | refine LeO.ite ?_ ?_
      | refine LeO.bind ?_ (fun _ => ?_)
    · intro y0 y1 y2 y3 y4 y5 y6 y7
      unfold laws_FnMarked.l0
      repeat' first
      | (with_reducible exact ih0 _ _ _ _ _ _ _)
      | (with_reducible exact ih1 _ _ _ _ _ _ _ _)
      | (with_reducible exact ih2 _ _ _ _ _ _ _ _ _)
      | (with_reducible exact ih3 _ _ _ _ _ _ _ _)
      | (with_reducible exact ih4 _ _ _ _ _)
      | (with_reducible exact ih5 _ _ _ _ _)
      | (with_reducible exact impl_MarkWords.mono _ _ _)
      | (with_reducible exact impl_SnippetOf.mono _ _ _ _)
      | (with_reducible exact impl_WordsOf.mono _ _)
      | (with_reducible exact spec_R8Text.mono _ _)
      | (with_reducible exact spec_R8Words.mono _ _)
      | (with_reducible exact LeO.refl _)
      | (with_reducible exact LeO.none _)
      | (with_reducible refine LeO.ite ?_ ?_)
      | (with_reducible refine LeO.bind ?_ (fun _ => ?_))
      | exact ih0 _ _ _ _ _ _ _
      | exact ih1 _ _ _ _ _ _ _ _
      | exact ih2 _ _ _ _ _ _ _ _ _
      | exact ih3 _ _ _ _ _ _ _ _
      | exact ih4 _ _ _ _ _
      | exact ih5 _ _ _ _ _
      | exact impl_MarkWords.mono _ _ _
      | exact impl_SnippetOf.mono _ _ _ _
      | exact impl_WordsOf.mono _ _
      | exact spec_R8Text.mono _ _
      | exact spec_R8Words.mono _ _
      | exact LeO.none _
      | refine LeO.ite ?_ ?_
      | refine LeO.bind ?_ (fun _ => ?_)
    · intro y0 y1 y2 y3 y4 y5 y6 y7 y8
      unfold laws_FnMarked.l1
      repeat' first
      | (with_reducible exact ih0 _ _ _ _ _ _ _)
      | (with_reducible exact ih1 _ _ _ _ _ _ _ _)
      | (with_reducible exact ih2 _ _ _ _ _ _ _ _ _)
      | (with_reducible exact ih3 _ _ _ _ _ _ _ _)
      | (with_reducible exact ih4 _ _ _ _ _)
      | (with_reducible exact ih5 _ _ _ _ _)
      | (with_reducible exact impl_MarkWords.mono _ _ _)
      | (with_reducible exact impl_SnippetOf.mono _ _ _ _)
      | (with_reducible exact impl_WordsOf.mono _ _)
      | (with_reducible exact spec_R8Text.mono _ _)
      | (with_reducible exact spec_R8Words.mono _ _)
      | (with_reducible exact LeO.refl _)
      | (with_reducible exact LeO.none _)
      | (with_reducible refine LeO.ite ?_ ?_)
      | (with_reducible refine LeO.bind ?_ (fun _ => ?_))
      | exact ih0 _ _ _ _ _ _ _
      | exact ih1 _ _ _ _ _ _ _ _
      | exact ih2 _ _ _ _ _ _ _ _ _
      | exact ih3 _ _ _ _ _ _ _ _
      | exact ih4 _ _ _ _ _
      | exact ih5 _ _ _ _ _
      | exact impl_MarkWords.mono _ _ _
      | exact impl_SnippetOf.mono _ _ _ _
      | exact impl_WordsOf.mono _ _
      | exact spec_R8Text.mono _ _
      | exact spec_R8Words.mono _ _
      | exact LeO.none _
      | refine LeO.ite ?_ ?_
      | refine LeO.bind ?_ (fun _ => ?_)
    · intro y0 y1 y2 y3 y4 y5 y6 y7
      unfold laws_FnMarked.l2
      repeat' first
      | (with_reducible exact ih0 _ _ _ _ _ _ _)
      | (with_reducible exact ih1 _ _ _ _ _ _ _ _)
      | (with_reducible exact ih2 _ _ _ _ _ _ _ _ _)
      | (with_reducible exact ih3 _ _ _ _ _ _ _ _)
      | (with_reducible exact ih4 _ _ _ _ _)
      | (with_reducible exact ih5 _ _ _ _ _)
      | (with_reducible exact impl_MarkWords.mono _ _ _)
      | (with_reducible exact impl_SnippetOf.mono _ _ _ _)
      | (with_reducible exact impl_WordsOf.mono _ _)
      | (with_reducible exact spec_R8Text.mono _ _)
      | (with_reducible exact spec_R8Words.mono _ _)
      | (with_reducible exact LeO.refl _)
      | (with_reducible exact LeO.none _)
      | (with_reducible refine LeO.ite ?_ ?_)
      | (with_reducible refine LeO.bind ?_ (fun _ => ?_))
      | exact ih0 _ _ _ _ _ _ _
      | exact ih1 _ _ _ _ _ _ _ _
      | exact ih2 _ _ _ _ _ _ _ _ _
      | exact ih3 _ _ _ _ _ _ _ _
      | exact ih4 _ _ _ _ _
      | exact ih5 _ _ _ _ _
      | exact impl_MarkWords.mono _ _ _
      | exact impl_SnippetOf.mono _ _ _ _
      | exact impl_WordsOf.mono _ _
      | exact spec_R8Text.mono _ _
      | exact spec_R8Words.mono _ _
      | exact LeO.none _
      | refine LeO.ite ?_ ?_
      | refine LeO.bind ?_ (fun _ => ?_)
    · intro y0 y1 y2 y3 y4
      unfold laws_FnMarked.j4
      repeat' first
      | (with_reducible exact ih0 _ _ _ _ _ _ _)
      | (with_reducible exact ih1 _ _ _ _ _ _ _ _)
      | (with_reducible exact ih2 _ _ _ _ _ _ _ _ _)
      | (with_reducible exact ih3 _ _ _ _ _ _ _ _)
      | (with_reducible exact ih4 _ _ _ _ _)
      | (with_reducible exact ih5 _ _ _ _ _)
      | (with_reducible exact impl_MarkWords.mono _ _ _)
      | (with_reducible exact impl_SnippetOf.mono _ _ _ _)
      | (with_reducible exact impl_WordsOf.mono _ _)
      | (with_reducible exact spec_R8Text.mono _ _)
      | (with_reducible exact spec_R8Words.mono _ _)
      | (with_reducible exact LeO.refl _)
      | (with_reducible exact LeO.none _)
      | (with_reducible refine LeO.ite ?_ ?_)
      | (with_reducible refine LeO.bind ?_ (fun _ => ?_))
      | exact ih0 _ _ _ _ _ _ _
      | exact ih1 _ _ _ _ _ _ _ _
      | exact ih2 _ _ _ _ _ _ _ _ _
      | exact ih3 _ _ _ _ _ _ _ _
      | exact ih4 _ _ _ _ _
      | exact ih5 _ _ _ _ _
      | exact impl_MarkWords.mono _ _ _
      | exact impl_SnippetOf.mono _ _ _ _
      | exact impl_WordsOf.mono _ _
      | exact spec_R8Text.mono _ _
      | exact spec_R8Words.mono _ _
      | exact LeO.none _
      | refine LeO.ite ?_ ?_
      | refine LeO.bind ?_ (fun _ => ?_)
    · intro y0 y1 y2 y3 y4
      unfold laws_FnMarked.l3
      repeat' first
      | (with_reducible exact ih0 _ _ _ _ _ _ _)
      | (with_reducible exact ih1 _ _ _ _ _ _ _ _)
      | (with_reducible exact ih2 _ _ _ _ _ _ _ _ _)
      | (with_reducible exact ih3 _ _ _ _ _ _ _ _)
      | (with_reducible exact ih4 _ _ _ _ _)
      | (with_reducible exact ih5 _ _ _ _ _)
      | (with_reducible exact impl_MarkWords.mono _ _ _)
      | (with_reducible exact impl_SnippetOf.mono _ _ _ _)
      | (with_reducible exact impl_WordsOf.mono _ _)
      | (with_reducible exact spec_R8Text.mono _ _)
      | (with_reducible exact spec_R8Words.mono _ _)
      | (with_reducible exact LeO.refl _)
      | (with_reducible exact LeO.none _)
      | (with_reducible refine LeO.ite ?_ ?_)
      | (with_reducible refine LeO.bind ?_ (fun _ => ?_))
      | exact ih0 _ _ _ _ _ _ _
      | exact ih1 _ _ _ _ _ _ _ _
      | exact ih2 _ _ _ _ _ _ _ _ _
      | exact ih3 _ _ _ _ _ _ _ _
      | exact ih4 _ _ _ _ _
      | exact ih5 _ _ _ _ _
      | exact impl_MarkWords.mono _ _ _
      | exact impl_SnippetOf.mono _ _ _ _
      | exact impl_WordsOf.mono _ _
      | exact spec_R8Text.mono _ _
      | exact spec_R8Words.mono _ _
      | exact LeO.none _
      | refine LeO.ite ?_ ?_
      | refine LeO.bind ?_ (fun _ => ?_)
theorem laws_FnMarked.mono : ∀ a0 a1 k, LeO (laws_FnMarked.f k a0 a1) (laws_FnMarked.f (k + 1) a0 a1) := by
  intro a0 a1 k
  obtain ⟨ih0, ih1, ih2, ih3, ih4, ih5⟩ := laws_FnMarked.mono_l k
  unfold laws_FnMarked.f
  repeat' first
      | (with_reducible exact ih0 _ _ _ _ _ _ _)
      | (with_reducible exact ih1 _ _ _ _ _ _ _ _)
      | (with_reducible exact ih2 _ _ _ _ _ _ _ _ _)
      | (with_reducible exact ih3 _ _ _ _ _ _ _ _)
      | (with_reducible exact ih4 _ _ _ _ _)
      | (with_reducible exact ih5 _ _ _ _ _)
      | (with_reducible exact impl_MarkWords.mono _ _ _)
      | (with_reducible exact impl_SnippetOf.mono _ _ _ _)
      | (with_reducible exact impl_WordsOf.mono _ _)
      | (with_reducible exact spec_R8Text.mono _ _)
      | (with_reducible exact spec_R8Words.mono _ _)
      | (with_reducible exact LeO.refl _)
      | (with_reducible exact LeO.none _)
      | (with_reducible refine LeO.ite ?_ ?_)
      | (with_reducible refine LeO.bind ?_ (fun _ => ?_))
      | exact ih0 _ _ _ _ _ _ _
      | exact ih1 _ _ _ _ _ _ _ _
      | exact ih2 _ _ _ _ _ _ _ _ _
      | exact ih3 _ _ _ _ _ _ _ _
      | exact ih4 _ _ _ _ _
      | exact ih5 _ _ _ _ _
      | exact impl_MarkWords.mono _ _ _
      | exact impl_SnippetOf.mono _ _ _ _
      | exact impl_WordsOf.mono _ _
      | exact spec_R8Text.mono _ _
      | exact spec_R8Words.mono _ _
      | exact LeO.none _
      | refine LeO.ite ?_ ?_
      | refine LeO.bind ?_ (fun _ => ?_)
set_option maxHeartbeats 8000000 in
set_option maxRecDepth 100000 in
theorem laws_FnMarked.calls (k : Nat) (A0 : Option Addr) (c0 : Nat) (l0 : List Int) (A1 : Option Addr) (c1 : Nat) (l1 : List Int) (r : Bool) (w : World) (hr0 : Kd.C (Kd.int .u8) w A0 l0.length l0) (hc0 : l0.length ≤ c0) (hr1 : Kd.C (Kd.int .u8) w A1 l1.length l1) (hc1 : l1.length ≤ c1) (h : laws_FnMarked.f k l0 l1 = some r) :
    Calls Try.prog 5 #[.slice A0 l0.length c0, .slice A1 l1.length c1] w fun e w' => e = .returned (.bool r) ∧ Below w.heap.size w w' := by
 have HR0 := Aside0.mk hr0
 have HC0 := Aside0.mk hc0
 clear hr0 hc0
 have HR1 := Aside0.mk hr1
 have HC1 := Aside0.mk hc1
 clear hr1 hc1
 have HB := Aside0.mk (Below.refl w.heap.size w)
 have H : ((laws_r8Long.f l0 l1).bind fun t221 => (if t221 = true then (some true) else ((spec_R8Text.f k l0).bind fun t222 => ((spec_R8Words.f k l1).bind fun t223 => (if t223.length < 8796093022208 then ((some (t223 ++ [(⟨#[99, 97, 116]⟩ : ByteArray)] : List ByteArray)).bind fun y226 => ((laws_r8At.f l1 40 12).bind fun t229 => ((impl_MarkWords.f k t222 y226).bind fun bt230 => ((impl_WordsOf.f k t222).bind fun bt232 => ((impl_SnippetOf.f k t222 y226 t229).bind fun bt236 => (if bt230.2 = true then (laws_FnMarked.j0 k t222 y226 bt230.1 bt232.1 bt236.1 bt236.2 (!bt232.2)) else (laws_FnMarked.j0 k t222 y226 bt230.1 bt232.1 bt236.1 bt236.2 true))))))) else (none)))))) = some r := h
 clear h
 replace H := Option.bind_eq_some_iff.mp H
 obtain ⟨t221, A30, H⟩ := H
 replace H : (if t221 = true then (some true) else ((spec_R8Text.f k l0).bind fun t222 => ((spec_R8Words.f k l1).bind fun t223 => (if t223.length < 8796093022208 then ((some (t223 ++ [(⟨#[99, 97, 116]⟩ : ByteArray)] : List ByteArray)).bind fun y226 => ((laws_r8At.f l1 40 12).bind fun t229 => ((impl_MarkWords.f k t222 y226).bind fun bt230 => ((impl_WordsOf.f k t222).bind fun bt232 => ((impl_SnippetOf.f k t222 y226 t229).bind fun bt236 => (if bt230.2 = true then (laws_FnMarked.j0 k t222 y226 bt230.1 bt232.1 bt236.1 bt236.2 (!bt232.2)) else (laws_FnMarked.j0 k t222 y226 bt230.1 bt232.1 bt236.1 bt236.2 true))))))) else (none))))) = some r := H
 have A3 := Aside0.mk A30
 clear A30
 by_cases c4 : t221 = true
 {
 subst c4
 have H1 : (some true) = some r := by rw [if_pos rfl] at H; exact H
 clear H
 have H := H1
 clear H1
 obtain rfl := Option.some.inj H
 go_enter Try.func5, Try.ntmps5
 go_wp2_with (first | (go_at_call 18; (with_reducible refine (laws_r8Long.calls _ _ l0 _ _ l1 true _ ?side1 ?side2 ?side3 ?side4 A3.out).mono ?_); (case side1 => repeat (first | exact HR0.out | (with_reducible refine Kd.C_alloc ?_ _) | (with_reducible refine Kd.C_drewN ?_ _) | (with_reducible refine Kd.C_drew ?_))); (case side2 => exact HC0.out); (case side3 => repeat (first | exact HR1.out | (with_reducible refine Kd.C_alloc ?_ _) | (with_reducible refine Kd.C_drewN ?_ _) | (with_reducible refine Kd.C_drew ?_))); (case side4 => exact HC1.out); rintro e w' ⟨rfl, ⟨nd, rfl⟩⟩; (try first | exact ⟨rfl, _, World.drewN_drewN _ _ _⟩ | exact ⟨rfl, _, Eq.trans (World.drewN_drewN _ _ _) (congrArg (World.drewN _) (Nat.add_assoc _ _ _))⟩)))
 repeat (go_quiet (first | (go_at_call 18; (with_reducible refine (laws_r8Long.calls _ _ l0 _ _ l1 true _ ?side1 ?side2 ?side3 ?side4 A3.out).mono ?_); (case side1 => repeat (first | exact HR0.out | (with_reducible refine Kd.C_alloc ?_ _) | (with_reducible refine Kd.C_drewN ?_ _) | (with_reducible refine Kd.C_drew ?_))); (case side2 => exact HC0.out); (case side3 => repeat (first | exact HR1.out | (with_reducible refine Kd.C_alloc ?_ _) | (with_reducible refine Kd.C_drewN ?_ _) | (with_reducible refine Kd.C_drew ?_))); (case side4 => exact HC1.out); rintro e w' ⟨rfl, ⟨nd, rfl⟩⟩; (try first | exact ⟨rfl, _, World.drewN_drewN _ _ _⟩ | exact ⟨rfl, _, Eq.trans (World.drewN_drewN _ _ _) (congrArg (World.drewN _) (Nat.add_assoc _ _ _))⟩))); try go_wp2_with (first | (go_at_call 18; (with_reducible refine (laws_r8Long.calls _ _ l0 _ _ l1 true _ ?side1 ?side2 ?side3 ?side4 A3.out).mono ?_); (case side1 => repeat (first | exact HR0.out | (with_reducible refine Kd.C_alloc ?_ _) | (with_reducible refine Kd.C_drewN ?_ _) | (with_reducible refine Kd.C_drew ?_))); (case side2 => exact HC0.out); (case side3 => repeat (first | exact HR1.out | (with_reducible refine Kd.C_alloc ?_ _) | (with_reducible refine Kd.C_drewN ?_ _) | (with_reducible refine Kd.C_drew ?_))); (case side4 => exact HC1.out); rintro e w' ⟨rfl, ⟨nd, rfl⟩⟩; (try first | exact ⟨rfl, _, World.drewN_drewN _ _ _⟩ | exact ⟨rfl, _, Eq.trans (World.drewN_drewN _ _ _) (congrArg (World.drewN _) (Nat.add_assoc _ _ _))⟩))))
 go_ret
 exact ⟨by first | rfl | (simp [errW_none, errW_some] <;> rfl) | (simp [*, errW_none, errW_some] <;> rfl), by repeat (first | (with_reducible first | exact HB.out | apply below_alloc | apply pw_below_drewN | apply below_drew1) | exact HB.out)⟩}
 {
 replace c4 := Bool.eq_false_iff.mpr c4
 subst c4
 have H1 : ((spec_R8Text.f k l0).bind fun t222 => ((spec_R8Words.f k l1).bind fun t223 => (if t223.length < 8796093022208 then ((some (t223 ++ [(⟨#[99, 97, 116]⟩ : ByteArray)] : List ByteArray)).bind fun y226 => ((laws_r8At.f l1 40 12).bind fun t229 => ((impl_MarkWords.f k t222 y226).bind fun bt230 => ((impl_WordsOf.f k t222).bind fun bt232 => ((impl_SnippetOf.f k t222 y226 t229).bind fun bt236 => (if bt230.2 = true then (laws_FnMarked.j0 k t222 y226 bt230.1 bt232.1 bt236.1 bt236.2 (!bt232.2)) else (laws_FnMarked.j0 k t222 y226 bt230.1 bt232.1 bt236.1 bt236.2 true))))))) else (none)))) = some r := by rw [if_neg (show ¬ (false = true) by decide)] at H; exact H
 clear H
 have H := H1
 clear H1
 replace H := Option.bind_eq_some_iff.mp H
 obtain ⟨t222, A50, H⟩ := H
 replace H : ((spec_R8Words.f k l1).bind fun t223 => (if t223.length < 8796093022208 then ((some (t223 ++ [(⟨#[99, 97, 116]⟩ : ByteArray)] : List ByteArray)).bind fun y226 => ((laws_r8At.f l1 40 12).bind fun t229 => ((impl_MarkWords.f k t222 y226).bind fun bt230 => ((impl_WordsOf.f k t222).bind fun bt232 => ((impl_SnippetOf.f k t222 y226 t229).bind fun bt236 => (if bt230.2 = true then (laws_FnMarked.j0 k t222 y226 bt230.1 bt232.1 bt236.1 bt236.2 (!bt232.2)) else (laws_FnMarked.j0 k t222 y226 bt230.1 bt232.1 bt236.1 bt236.2 true))))))) else (none))) = some r := H
 have A5 := Aside0.mk A50
 clear A50
 replace H := Option.bind_eq_some_iff.mp H
 obtain ⟨t223, A60, H⟩ := H
 replace H : (if t223.length < 8796093022208 then ((some (t223 ++ [(⟨#[99, 97, 116]⟩ : ByteArray)] : List ByteArray)).bind fun y226 => ((laws_r8At.f l1 40 12).bind fun t229 => ((impl_MarkWords.f k t222 y226).bind fun bt230 => ((impl_WordsOf.f k t222).bind fun bt232 => ((impl_SnippetOf.f k t222 y226 t229).bind fun bt236 => (if bt230.2 = true then (laws_FnMarked.j0 k t222 y226 bt230.1 bt232.1 bt236.1 bt236.2 (!bt232.2)) else (laws_FnMarked.j0 k t222 y226 bt230.1 bt232.1 bt236.1 bt236.2 true))))))) else (none)) = some r := H
 have A6 := Aside0.mk A60
 clear A60
 by_cases c7 : t223.length < 8796093022208
 {
 rw [if_pos c7] at H
 have LMc7 := Aside0.mk c7
 clear c7
 obtain ⟨y226, hy226⟩ : ∃ y_ : List ByteArray, y_ = (t223 ++ [(⟨#[99, 97, 116]⟩ : ByteArray)]) := ⟨_, rfl⟩
 replace H : ((laws_r8At.f l1 40 12).bind fun t229 => ((impl_MarkWords.f k t222 y226).bind fun bt230 => ((impl_WordsOf.f k t222).bind fun bt232 => ((impl_SnippetOf.f k t222 y226 t229).bind fun bt236 => (if bt230.2 = true then (laws_FnMarked.j0 k t222 y226 bt230.1 bt232.1 bt236.1 bt236.2 (!bt232.2)) else (laws_FnMarked.j0 k t222 y226 bt230.1 bt232.1 bt236.1 bt236.2 true)))))) = some r := by first | (rw [hy226]; with_reducible exact H) | (have H2_ := (Option.bind_some _ _).symm.trans H; rw [hy226]; with_reducible exact H2_) | (have H2_ := (Option.bind_some _ _).symm.trans H; with_reducible exact H2_) | with_reducible exact H | (rw [hy226]; exact H) | exact H
 have Ny226 := Aside0.mk hy226
 clear hy226
 replace H := Option.bind_eq_some_iff.mp H
 obtain ⟨t229, A80, H⟩ := H
 replace H : ((impl_MarkWords.f k t222 y226).bind fun bt230 => ((impl_WordsOf.f k t222).bind fun bt232 => ((impl_SnippetOf.f k t222 y226 t229).bind fun bt236 => (if bt230.2 = true then (laws_FnMarked.j0 k t222 y226 bt230.1 bt232.1 bt236.1 bt236.2 (!bt232.2)) else (laws_FnMarked.j0 k t222 y226 bt230.1 bt232.1 bt236.1 bt236.2 true))))) = some r := H
 have A8 := Aside0.mk A80
 clear A80
 replace H := Option.bind_eq_some_iff.mp H
 obtain ⟨⟨t230, t231⟩, A90, H⟩ := H
 replace H : ((impl_WordsOf.f k t222).bind fun bt232 => ((impl_SnippetOf.f k t222 y226 t229).bind fun bt236 => (if t231 = true then (laws_FnMarked.j0 k t222 y226 t230 bt232.1 bt236.1 bt236.2 (!bt232.2)) else (laws_FnMarked.j0 k t222 y226 t230 bt232.1 bt236.1 bt236.2 true)))) = some r := H
 have A9 := Aside0.mk A90
 clear A90
 replace H := Option.bind_eq_some_iff.mp H
 obtain ⟨⟨t232, t233⟩, A100, H⟩ := H
 replace H : ((impl_SnippetOf.f k t222 y226 t229).bind fun bt236 => (if t231 = true then (laws_FnMarked.j0 k t222 y226 t230 t232 bt236.1 bt236.2 (!t233)) else (laws_FnMarked.j0 k t222 y226 t230 t232 bt236.1 bt236.2 true))) = some r := H
 have A10 := Aside0.mk A100
 clear A100
 replace H := Option.bind_eq_some_iff.mp H
 obtain ⟨⟨t236, t237⟩, A110, H⟩ := H
 replace H : (if t231 = true then (laws_FnMarked.j0 k t222 y226 t230 t232 t236 t237 (!t233)) else (laws_FnMarked.j0 k t222 y226 t230 t232 t236 t237 true)) = some r := H
 have A11 := Aside0.mk A110
 clear A110
 have HC12 := Aside0.mk H
 clear H
 go_enter Try.func5, Try.ntmps5
 go_upto_region 9 with (first | (go_at_call 18; (with_reducible refine (laws_r8Long.calls _ _ l0 _ _ l1 false _ ?side1 ?side2 ?side3 ?side4 A3.out).mono ?_); (case side1 => repeat (first | exact HR0.out | (with_reducible refine Kd.C_alloc ?_ _) | (with_reducible refine Kd.C_drewN ?_ _) | (with_reducible refine Kd.C_drew ?_))); (case side2 => exact HC0.out); (case side3 => repeat (first | exact HR1.out | (with_reducible refine Kd.C_alloc ?_ _) | (with_reducible refine Kd.C_drewN ?_ _) | (with_reducible refine Kd.C_drew ?_))); (case side4 => exact HC1.out); rintro e w' ⟨rfl, ⟨nd, rfl⟩⟩; (try first | exact ⟨rfl, _, World.drewN_drewN _ _ _⟩ | exact ⟨rfl, _, Eq.trans (World.drewN_drewN _ _ _) (congrArg (World.drewN _) (Nat.add_assoc _ _ _))⟩)) | (go_at_call 19; (with_reducible refine (spec_R8Text.calls k _ _ l0 t222 _ ?side1 ?side2 A5.out).mono ?_); (case side1 => repeat (first | exact HR0.out | (with_reducible refine Kd.C_alloc ?_ _) | (with_reducible refine Kd.C_drewN ?_ _) | (with_reducible refine Kd.C_drew ?_))); (case side2 => exact HC0.out); rintro e w13 ⟨rfl, hb⟩; replace HB := Aside0.mk (below_step (y1_ HB.out) hb); (try clear hb); (try clear hb2); (try clear hk); (try clear hi)) | (go_at_call 20; (with_reducible refine (spec_R8Words.calls k _ _ l1 t223 _ ?side1 ?side2 A6.out).mono ?_); (case side1 => exact y2_ (Kd.C_below HR1.out HB.out)); (case side2 => exact HC1.out); rintro e w14 ⟨v224, rfl, ho0, hb⟩; have HO225 := Aside0.mk (Kd.R_lower ho0 (below_size (y1_ HB.out))); replace HB := Aside0.mk (below_step (y1_ HB.out) hb); (try clear hb); (try clear hb2); (try clear hk); (try clear hi); (try clear ho0)) | ((with_reducible refine gate_builtin (b := .append) (xs := #[.tmp 29, .tmp 30]) rfl ?_); (try (refine gate_guard (by rfl) ?_; dsimp only)); at_builtin; refine Kd.R_append Kd.string (w0 := w) w.heap.size rfl (.tmp 29) (.tmp 30) 37 9 (.string ⟨#[]⟩) 16 rfl Try.underlying37 info9 rfl (by decide) (by omega) v224 t223 (⟨#[99, 97, 116]⟩ : ByteArray) [.string (⟨#[99, 97, 116]⟩ : ByteArray)] (fun _ => True) (fun _ => False) rfl rfl ?aP (fun _ hk => hk.elim) ?aF ?aO ?aB ?aS ?aL ?_; (case aP => exact rfl); (case aB => exact (y1_ HB.out)); (case aF => exact (fun _ _ => trivial)); (case aO => exact (b2_ HO225.out)); (case aS => exact (below_size (y1_ HB.out))); (case aL => have := LMc7.out; omega); intro v227 w15 ho hb hg hat; rw [← Ny226.out] at ho; replace HB := Aside0.mk (hb); have HO228 := Aside0.mk (ho); clear HO225; clear ho hb hg hat; obtain ⟨Ao16, co16, eo16⟩ := Kd.R_slice HO228.out; subst eo16) | (go_at_call 21; (with_reducible refine (laws_r8At.calls _ _ l1 40 12 t229 _ ?side1 ?side2 A8.out).mono ?_); (case side1 => exact y2_ (Kd.C_below HR1.out HB.out)); (case side2 => exact HC1.out); rintro e w' ⟨rfl, ⟨nd, rfl⟩⟩; (try first | exact ⟨rfl, _, World.drewN_drewN _ _ _⟩ | exact ⟨rfl, _, Eq.trans (World.drewN_drewN _ _ _) (congrArg (World.drewN _) (Nat.add_assoc _ _ _))⟩)) | (go_at_call 22; (with_reducible refine (impl_MarkWords.calls k t222 _ _ y226 t230 t231 _ ?side1 ?side2 A9.out).mono ?_); (case side1 => exact y2_ (Kd.R_reads' HO228.out).2.2); (case side2 => exact (Kd.R_reads' HO228.out).2.1); rintro e w17 ⟨rfl, hb⟩; replace HO228 := r1_ HO228 hb; replace HB := Aside0.mk (below_step (y1_ HB.out) hb); (try clear hb); (try clear hb2); (try clear hk); (try clear hi)) | (go_at_call 23; (with_reducible refine (impl_WordsOf.calls k t222 t232 t233 _ A10.out).mono ?_); rintro e w18 ⟨v234, rfl, ho0, hb⟩; have n0_ := Aside0.mk (Kd.R_elder' (b2_ HO228.out) (Kd.R_base ho0) hb); have n1_ := Aside0.mk (Kd.R_lower (Kd.R_new' ho0 (Kd.R_lt (b2_ HO228.out))) (below_size (y1_ HB.out))); have n2_ := Aside0.mk (below_step (y1_ HB.out) hb); clear HO228; clear HB; have HO228 := n0_; have HO235 := n1_; have HB := n2_; clear n0_ n1_ n2_; (try clear hb); (try clear hb2); (try clear hk); (try clear hi); (try clear ho0)) | (go_at_call 24; (with_reducible refine (impl_SnippetOf.calls k t222 _ _ y226 t229 t236 t237 _ ?side1 ?side2 A11.out).mono ?_); (case side1 => exact y2_ (Kd.R_reads' HO228.out).2.2); (case side2 => exact (Kd.R_reads' HO228.out).2.1); rintro e w19 ⟨rfl, hb⟩; replace HO228 := r1_ HO228 hb; replace HO235 := r1_ HO235 hb; replace HB := Aside0.mk (below_step (y1_ HB.out) hb); (try clear hb); (try clear hb2); (try clear hk); (try clear hi)))
 repeat (go_quiet (first | (go_at_call 18; (with_reducible refine (laws_r8Long.calls _ _ l0 _ _ l1 false _ ?side1 ?side2 ?side3 ?side4 A3.out).mono ?_); (case side1 => repeat (first | exact HR0.out | (with_reducible refine Kd.C_alloc ?_ _) | (with_reducible refine Kd.C_drewN ?_ _) | (with_reducible refine Kd.C_drew ?_))); (case side2 => exact HC0.out); (case side3 => repeat (first | exact HR1.out | (with_reducible refine Kd.C_alloc ?_ _) | (with_reducible refine Kd.C_drewN ?_ _) | (with_reducible refine Kd.C_drew ?_))); (case side4 => exact HC1.out); rintro e w' ⟨rfl, ⟨nd, rfl⟩⟩; (try first | exact ⟨rfl, _, World.drewN_drewN _ _ _⟩ | exact ⟨rfl, _, Eq.trans (World.drewN_drewN _ _ _) (congrArg (World.drewN _) (Nat.add_assoc _ _ _))⟩)) | (go_at_call 19; (with_reducible refine (spec_R8Text.calls k _ _ l0 t222 _ ?side1 ?side2 A5.out).mono ?_); (case side1 => repeat (first | exact HR0.out | (with_reducible refine Kd.C_alloc ?_ _) | (with_reducible refine Kd.C_drewN ?_ _) | (with_reducible refine Kd.C_drew ?_))); (case side2 => exact HC0.out); rintro e w13 ⟨rfl, hb⟩; replace HB := Aside0.mk (below_step (y1_ HB.out) hb); (try clear hb); (try clear hb2); (try clear hk); (try clear hi)) | (go_at_call 20; (with_reducible refine (spec_R8Words.calls k _ _ l1 t223 _ ?side1 ?side2 A6.out).mono ?_); (case side1 => exact y2_ (Kd.C_below HR1.out HB.out)); (case side2 => exact HC1.out); rintro e w14 ⟨v224, rfl, ho0, hb⟩; have HO225 := Aside0.mk (Kd.R_lower ho0 (below_size (y1_ HB.out))); replace HB := Aside0.mk (below_step (y1_ HB.out) hb); (try clear hb); (try clear hb2); (try clear hk); (try clear hi); (try clear ho0)) | ((with_reducible refine gate_builtin (b := .append) (xs := #[.tmp 29, .tmp 30]) rfl ?_); (try (refine gate_guard (by rfl) ?_; dsimp only)); at_builtin; refine Kd.R_append Kd.string (w0 := w) w.heap.size rfl (.tmp 29) (.tmp 30) 37 9 (.string ⟨#[]⟩) 16 rfl Try.underlying37 info9 rfl (by decide) (by omega) v224 t223 (⟨#[99, 97, 116]⟩ : ByteArray) [.string (⟨#[99, 97, 116]⟩ : ByteArray)] (fun _ => True) (fun _ => False) rfl rfl ?aP (fun _ hk => hk.elim) ?aF ?aO ?aB ?aS ?aL ?_; (case aP => exact rfl); (case aB => exact (y1_ HB.out)); (case aF => exact (fun _ _ => trivial)); (case aO => exact (b2_ HO225.out)); (case aS => exact (below_size (y1_ HB.out))); (case aL => have := LMc7.out; omega); intro v227 w15 ho hb hg hat; rw [← Ny226.out] at ho; replace HB := Aside0.mk (hb); have HO228 := Aside0.mk (ho); clear HO225; clear ho hb hg hat; obtain ⟨Ao16, co16, eo16⟩ := Kd.R_slice HO228.out; subst eo16) | (go_at_call 21; (with_reducible refine (laws_r8At.calls _ _ l1 40 12 t229 _ ?side1 ?side2 A8.out).mono ?_); (case side1 => exact y2_ (Kd.C_below HR1.out HB.out)); (case side2 => exact HC1.out); rintro e w' ⟨rfl, ⟨nd, rfl⟩⟩; (try first | exact ⟨rfl, _, World.drewN_drewN _ _ _⟩ | exact ⟨rfl, _, Eq.trans (World.drewN_drewN _ _ _) (congrArg (World.drewN _) (Nat.add_assoc _ _ _))⟩)) | (go_at_call 22; (with_reducible refine (impl_MarkWords.calls k t222 _ _ y226 t230 t231 _ ?side1 ?side2 A9.out).mono ?_); (case side1 => exact y2_ (Kd.R_reads' HO228.out).2.2); (case side2 => exact (Kd.R_reads' HO228.out).2.1); rintro e w17 ⟨rfl, hb⟩; replace HO228 := r1_ HO228 hb; replace HB := Aside0.mk (below_step (y1_ HB.out) hb); (try clear hb); (try clear hb2); (try clear hk); (try clear hi)) | (go_at_call 23; (with_reducible refine (impl_WordsOf.calls k t222 t232 t233 _ A10.out).mono ?_); rintro e w18 ⟨v234, rfl, ho0, hb⟩; have n0_ := Aside0.mk (Kd.R_elder' (b2_ HO228.out) (Kd.R_base ho0) hb); have n1_ := Aside0.mk (Kd.R_lower (Kd.R_new' ho0 (Kd.R_lt (b2_ HO228.out))) (below_size (y1_ HB.out))); have n2_ := Aside0.mk (below_step (y1_ HB.out) hb); clear HO228; clear HB; have HO228 := n0_; have HO235 := n1_; have HB := n2_; clear n0_ n1_ n2_; (try clear hb); (try clear hb2); (try clear hk); (try clear hi); (try clear ho0)) | (go_at_call 24; (with_reducible refine (impl_SnippetOf.calls k t222 _ _ y226 t229 t236 t237 _ ?side1 ?side2 A11.out).mono ?_); (case side1 => exact y2_ (Kd.R_reads' HO228.out).2.2); (case side2 => exact (Kd.R_reads' HO228.out).2.1); rintro e w19 ⟨rfl, hb⟩; replace HO228 := r1_ HO228 hb; replace HO235 := r1_ HO235 hb; replace HB := Aside0.mk (below_step (y1_ HB.out) hb); (try clear hb); (try clear hb2); (try clear hk); (try clear hi))); go_upto_region 9 with (first | (go_at_call 18; (with_reducible refine (laws_r8Long.calls _ _ l0 _ _ l1 false _ ?side1 ?side2 ?side3 ?side4 A3.out).mono ?_); (case side1 => repeat (first | exact HR0.out | (with_reducible refine Kd.C_alloc ?_ _) | (with_reducible refine Kd.C_drewN ?_ _) | (with_reducible refine Kd.C_drew ?_))); (case side2 => exact HC0.out); (case side3 => repeat (first | exact HR1.out | (with_reducible refine Kd.C_alloc ?_ _) | (with_reducible refine Kd.C_drewN ?_ _) | (with_reducible refine Kd.C_drew ?_))); (case side4 => exact HC1.out); rintro e w' ⟨rfl, ⟨nd, rfl⟩⟩; (try first | exact ⟨rfl, _, World.drewN_drewN _ _ _⟩ | exact ⟨rfl, _, Eq.trans (World.drewN_drewN _ _ _) (congrArg (World.drewN _) (Nat.add_assoc _ _ _))⟩)) | (go_at_call 19; (with_reducible refine (spec_R8Text.calls k _ _ l0 t222 _ ?side1 ?side2 A5.out).mono ?_); (case side1 => repeat (first | exact HR0.out | (with_reducible refine Kd.C_alloc ?_ _) | (with_reducible refine Kd.C_drewN ?_ _) | (with_reducible refine Kd.C_drew ?_))); (case side2 => exact HC0.out); rintro e w13 ⟨rfl, hb⟩; replace HB := Aside0.mk (below_step (y1_ HB.out) hb); (try clear hb); (try clear hb2); (try clear hk); (try clear hi)) | (go_at_call 20; (with_reducible refine (spec_R8Words.calls k _ _ l1 t223 _ ?side1 ?side2 A6.out).mono ?_); (case side1 => exact y2_ (Kd.C_below HR1.out HB.out)); (case side2 => exact HC1.out); rintro e w14 ⟨v224, rfl, ho0, hb⟩; have HO225 := Aside0.mk (Kd.R_lower ho0 (below_size (y1_ HB.out))); replace HB := Aside0.mk (below_step (y1_ HB.out) hb); (try clear hb); (try clear hb2); (try clear hk); (try clear hi); (try clear ho0)) | ((with_reducible refine gate_builtin (b := .append) (xs := #[.tmp 29, .tmp 30]) rfl ?_); (try (refine gate_guard (by rfl) ?_; dsimp only)); at_builtin; refine Kd.R_append Kd.string (w0 := w) w.heap.size rfl (.tmp 29) (.tmp 30) 37 9 (.string ⟨#[]⟩) 16 rfl Try.underlying37 info9 rfl (by decide) (by omega) v224 t223 (⟨#[99, 97, 116]⟩ : ByteArray) [.string (⟨#[99, 97, 116]⟩ : ByteArray)] (fun _ => True) (fun _ => False) rfl rfl ?aP (fun _ hk => hk.elim) ?aF ?aO ?aB ?aS ?aL ?_; (case aP => exact rfl); (case aB => exact (y1_ HB.out)); (case aF => exact (fun _ _ => trivial)); (case aO => exact (b2_ HO225.out)); (case aS => exact (below_size (y1_ HB.out))); (case aL => have := LMc7.out; omega); intro v227 w15 ho hb hg hat; rw [← Ny226.out] at ho; replace HB := Aside0.mk (hb); have HO228 := Aside0.mk (ho); clear HO225; clear ho hb hg hat; obtain ⟨Ao16, co16, eo16⟩ := Kd.R_slice HO228.out; subst eo16) | (go_at_call 21; (with_reducible refine (laws_r8At.calls _ _ l1 40 12 t229 _ ?side1 ?side2 A8.out).mono ?_); (case side1 => exact y2_ (Kd.C_below HR1.out HB.out)); (case side2 => exact HC1.out); rintro e w' ⟨rfl, ⟨nd, rfl⟩⟩; (try first | exact ⟨rfl, _, World.drewN_drewN _ _ _⟩ | exact ⟨rfl, _, Eq.trans (World.drewN_drewN _ _ _) (congrArg (World.drewN _) (Nat.add_assoc _ _ _))⟩)) | (go_at_call 22; (with_reducible refine (impl_MarkWords.calls k t222 _ _ y226 t230 t231 _ ?side1 ?side2 A9.out).mono ?_); (case side1 => exact y2_ (Kd.R_reads' HO228.out).2.2); (case side2 => exact (Kd.R_reads' HO228.out).2.1); rintro e w17 ⟨rfl, hb⟩; replace HO228 := r1_ HO228 hb; replace HB := Aside0.mk (below_step (y1_ HB.out) hb); (try clear hb); (try clear hb2); (try clear hk); (try clear hi)) | (go_at_call 23; (with_reducible refine (impl_WordsOf.calls k t222 t232 t233 _ A10.out).mono ?_); rintro e w18 ⟨v234, rfl, ho0, hb⟩; have n0_ := Aside0.mk (Kd.R_elder' (b2_ HO228.out) (Kd.R_base ho0) hb); have n1_ := Aside0.mk (Kd.R_lower (Kd.R_new' ho0 (Kd.R_lt (b2_ HO228.out))) (below_size (y1_ HB.out))); have n2_ := Aside0.mk (below_step (y1_ HB.out) hb); clear HO228; clear HB; have HO228 := n0_; have HO235 := n1_; have HB := n2_; clear n0_ n1_ n2_; (try clear hb); (try clear hb2); (try clear hk); (try clear hi); (try clear ho0)) | (go_at_call 24; (with_reducible refine (impl_SnippetOf.calls k t222 _ _ y226 t229 t236 t237 _ ?side1 ?side2 A11.out).mono ?_); (case side1 => exact y2_ (Kd.R_reads' HO228.out).2.2); (case side2 => exact (Kd.R_reads' HO228.out).2.1); rintro e w19 ⟨rfl, hb⟩; replace HO228 := r1_ HO228 hb; replace HO235 := r1_ HO235 hb; replace HB := Aside0.mk (below_step (y1_ HB.out) hb); (try clear hb); (try clear hb2); (try clear hk); (try clear hi))))
 (try simp only [Act.put, List.setIfInBounds_toArray, List.set_cons_zero, List.set_cons_succ])
 go_cut [57] (fun v57 wc => ∃ (kq : Nat) (x57_11 : Bool), v57 = .bool x57_11 ∧ Aside0 (laws_FnMarked.j0 kq t222 y226 t230 t232 t236 t237 x57_11 = some r) ∧ Aside0 (kq ≤ k) ∧ Aside0 (Kd.R Kd.string 9 wc w.heap.size (fun k_ => some k_ ≠ (v234 : Value).ownBlock) (.slice Ao16 y226.length co16) y226) ∧ Aside0 (Kd.R Kd.string 9 wc w.heap.size (fun k_ => some k_ ≠ ((.slice Ao16 y226.length co16) : Value).ownBlock) v234 t232) ∧ Aside0 (Below w.heap.size w wc))
 case first =>
  skip
  {
 have H := HC12.out
 clear HC12
 by_cases c20 : t231 = true
 {
 subst c20
 have H1 : (laws_FnMarked.j0 k t222 y226 t230 t232 t236 t237 (!t233)) = some r := by rw [if_pos rfl] at H; exact H
 clear H
 have H := H1
 clear H1
 have H' := Aside0.mk H
 clear H
 go_wp2
 repeat (go_quiet (fail); try go_wp2)
 go_meet
 case rel => exact ⟨_, (!t233), s1_, H', ⟨by first | omega | exact Nat.le_refl _⟩, ⟨by (with_reducible repeat (first | apply Kd.R_alloc | apply Kd.R_drewN | apply Kd.R_drew)); exact Kd.R_mono HO228.out (fun _ hk => hk.2)⟩, ⟨by (with_reducible repeat (first | apply Kd.R_alloc | apply Kd.R_drewN | apply Kd.R_drew)); exact Kd.R_mono HO235.out (fun _ hk => hk.2)⟩, ⟨by repeat (first | (with_reducible first | exact HB.out | apply below_alloc | apply pw_below_drewN | apply below_drew1) | exact HB.out)⟩⟩}
 {
 replace c20 := Bool.eq_false_iff.mpr c20
 subst c20
 have H1 : (laws_FnMarked.j0 k t222 y226 t230 t232 t236 t237 true) = some r := by rw [if_neg (show ¬ (false = true) by decide)] at H; exact H
 clear H
 have H := H1
 clear H1
 have H' := Aside0.mk H
 clear H
 go_wp2
 repeat (go_quiet (fail); try go_wp2)
 go_meet
 case rel => exact ⟨_, (true), s1_, H', ⟨by first | omega | exact Nat.le_refl _⟩, ⟨by (with_reducible repeat (first | apply Kd.R_alloc | apply Kd.R_drewN | apply Kd.R_drew)); exact Kd.R_mono HO228.out (fun _ hk => hk.2)⟩, ⟨by (with_reducible repeat (first | apply Kd.R_alloc | apply Kd.R_drewN | apply Kd.R_drew)); exact Kd.R_mono HO235.out (fun _ hk => hk.2)⟩, ⟨by repeat (first | (with_reducible first | exact HB.out | apply below_alloc | apply pw_below_drewN | apply below_drew1) | exact HB.out)⟩⟩}}
 case rest =>
  skip
  {
 clear HC12
 try clear c1
 try clear c2
 try clear p2
 try clear c4
 try clear c5
 try clear c7
 try clear c20
 obtain ⟨kq, x57_11, rfl, HA, HJ11, HO_6, HO_10, HB⟩ := hcut
 cases kq with
 | zero => exact absurd HA.out (by simp [laws_FnMarked.j0])
 | succ kj11 =>
  skip
  {
 have H := HA.out
 clear HA
 simp only [laws_FnMarked.j0] at H
 by_cases c21 : x57_11 = true
 {
 subst c21
 have H1 : (some false) = some r := by rw [if_pos rfl] at H; exact H
 clear H
 have H := H1
 clear H1
 obtain rfl := Option.some.inj H
 go_wp2
 repeat (go_quiet (fail); try go_wp2)
 go_ret
 exact ⟨by first | rfl | (simp [errW_none, errW_some] <;> rfl) | (simp [*, errW_none, errW_some] <;> rfl), by repeat (first | (with_reducible first | exact HB.out | apply below_alloc | apply pw_below_drewN | apply below_drew1) | exact HB.out)⟩}
 {
 replace c21 := Bool.eq_false_iff.mpr c21
 subst c21
 have H1 : (laws_FnMarked.l0 kj11 t222 y226 t230 t232 t236 t237 0 0) = some r := by rw [if_neg (show ¬ (false = true) by decide)] at H; exact H
 clear H
 have H := H1
 clear H1
 have H' := Aside0.mk H
 clear H
 go_wp2
 repeat (go_quiet (fail); try go_wp2)
 go_loopg [14, 15] kj11 (fun kq v14 v15 w' => ∃ (x14_2 : Int) (x15_2 : Int), v14 = .int .i64 x14_2 ∧ v15 = .int .i64 x15_2 ∧ Aside0 (laws_FnMarked.l0 kq t222 y226 t230 t232 t236 t237 x14_2 x15_2 = some r) ∧ Aside0 (kq ≤ kj11) ∧ Aside0 (Kd.R Kd.string 9 w' w.heap.size (fun k_ => some k_ ≠ (v234 : Value).ownBlock) (.slice Ao16 y226.length co16) y226) ∧ Aside0 (Kd.R Kd.string 9 w' w.heap.size (fun k_ => some k_ ≠ ((.slice Ao16 y226.length co16) : Value).ownBlock) v234 t232) ∧ Aside0 (Below w.heap.size w w'))
 case atStart => exact ⟨(0), (0), s1_, s1_, H', ⟨Nat.le_refl _⟩, ⟨b2_ HO_6.out⟩, ⟨b2_ HO_10.out⟩, ⟨by repeat (first | (with_reducible first | exact HB.out | apply below_alloc | apply pw_below_drewN | apply below_drew1) | exact HB.out)⟩⟩
 case round =>
  skip
  {
 clear H'
 try clear c1
 try clear c2
 try clear p2
 try clear c4
 try clear c5
 try clear c7
 try clear c20
 try clear c21
 try clear p2
 obtain ⟨x14_2, x15_2, rfl, rfl, HA, HK2, HO_6, HO_10, HB⟩ := hrel
 cases gk with
 | zero => exact absurd HA.out (by simp [laws_FnMarked.l0])
 | succ k2 =>
  skip
  {
 have H := HA.out
 clear HA
 simp only [laws_FnMarked.l0] at H
 by_cases c22 : x15_2 < (t232.length : Int)
 {
 rw [if_pos c22] at H
 have c22b0 : decide (x15_2 < (t232.length : Int)) = true := decide_eq_true c22
 clear c22
 have H' := Aside0.mk H
 clear H
 obtain ⟨Ao23, co23, eo23⟩ := Kd.R_slice HO_10.out
 subst eo23
 go_wp2
 repeat (go_quiet (fail); try go_wp2)
 go_loopg [14, 16] k2 (fun kq v14 v16 w' => ∃ (x14_3 : Int) (x16_3 : Int), v14 = .int .i64 x14_3 ∧ v16 = .int .i64 x16_3 ∧ Aside0 (laws_FnMarked.l1 kq t222 y226 t230 t232 t236 t237 x14_3 x15_2 x16_3 = some r) ∧ Aside0 (kq ≤ k2) ∧ Aside0 (Kd.R Kd.string 9 w' w.heap.size (fun k_ => some k_ ≠ ((.slice Ao23 t232.length co23) : Value).ownBlock) (.slice Ao16 y226.length co16) y226) ∧ Aside0 (Kd.R Kd.string 9 w' w.heap.size (fun k_ => some k_ ≠ ((.slice Ao16 y226.length co16) : Value).ownBlock) (.slice Ao23 t232.length co23) t232) ∧ Aside0 (Below w.heap.size w w'))
 case atStart => exact ⟨(x14_2), (0), s1_, s1_, H', ⟨Nat.le_refl _⟩, ⟨b2_ HO_6.out⟩, ⟨b2_ HO_10.out⟩, ⟨by repeat (first | (with_reducible first | exact HB.out | apply below_alloc | apply pw_below_drewN | apply below_drew1) | exact HB.out)⟩⟩
 case round =>
  skip
  {
 clear H'
 try clear c1
 try clear c2
 try clear p2
 try clear c4
 try clear c5
 try clear c7
 try clear c20
 try clear c21
 try clear c22
 try clear c22b0
 try clear p2
 obtain ⟨x14_3, x16_3, rfl, rfl, HA, HK3, HO_6, HO_10, HB⟩ := hrel
 cases gk with
 | zero => exact absurd HA.out (by simp [laws_FnMarked.l1])
 | succ k3 =>
  skip
  {
 have H := HA.out
 clear HA
 simp only [laws_FnMarked.l1] at H
 by_cases c24 : x16_3 < (y226.length : Int)
 {
 rw [if_pos c24] at H
 have c24b0 : decide (x16_3 < (y226.length : Int)) = true := decide_eq_true c24
 clear c24
 by_cases c25 : 0 ≤ x15_2
 {
 rw [if_pos c25] at H
 have c25b0 : decide (0 ≤ x15_2) = true := decide_eq_true c25
 clear c25
 by_cases c26 : x15_2 < (t232.length : Int)
 {
 rw [if_pos c26] at H
 have c26b0 : decide (x15_2 < (t232.length : Int)) = true := decide_eq_true c26
 clear c26
 by_cases c27 : 0 ≤ x16_3
 {
 rw [if_pos c27] at H
 have c27b0 : decide (0 ≤ x16_3) = true := decide_eq_true c27
 clear c27
 by_cases c28 : (rdOf ByteArray.empty t232 x15_2).toList = (rdOf ByteArray.empty y226 x16_3).toList
 {
 rw [if_pos c28] at H
 have c28b0 : ((rdOf ByteArray.empty t232 x15_2).toList == (rdOf ByteArray.empty y226 x16_3).toList) = true := beq_iff_eq.mpr c28
 have c28b1 : ((rdOf ByteArray.empty t232 x15_2).toList != (rdOf ByteArray.empty y226 x16_3).toList) = false := bne_eq_false_iff_eq.mpr c28
 clear c28
 have H' := Aside0.mk H
 clear H
 have p238 : 0 ≤ (x15_2 : Int) := of_decide_eq_true (by first | (with_reducible assumption) | assumption)
 have q238 : x15_2 < (t232.length : Int) := of_decide_eq_true (by first | (with_reducible assumption) | assumption)
 obtain ⟨ad238, e238, hx238_0⟩ := Kd.at_string (Kd.R_reads' HO_10.out).2.2 x15_2 p238 q238
 cases e238
 replace p238 := eq_true p238
 replace q238 := eq_true q238
 have p239 : 0 ≤ (x16_3 : Int) := of_decide_eq_true (by first | (with_reducible assumption) | assumption)
 have q239 : x16_3 < (y226.length : Int) := of_decide_eq_true (by first | (with_reducible assumption) | assumption)
 obtain ⟨ad239, e239, hx239_0⟩ := Kd.at_string (Kd.R_reads' HO_6.out).2.2 x16_3 p239 q239
 cases e239
 replace p239 := eq_true p239
 replace q239 := eq_true q239
 go_wp2
 repeat (go_quiet (fail); try go_wp2)
 go_roundg k3
 case measure => have := HJ11.out; have := HK2.out; have := HK3.out; omega
 case rel => exact ⟨(wrap64 (x14_3 + 1)), (wrap64 (x15_2 + 1)), s1_, s1_, H', ⟨by have := HJ11.out; have := HK2.out; have := HK3.out; omega⟩, ⟨b2_ HO_6.out⟩, ⟨b2_ HO_10.out⟩, ⟨by repeat (first | (with_reducible first | exact HB.out | apply below_alloc | apply pw_below_drewN | apply below_drew1) | exact HB.out)⟩⟩}
 {
 rw [if_neg c28] at H
 have c28b0 : ((rdOf ByteArray.empty t232 x15_2).toList == (rdOf ByteArray.empty y226 x16_3).toList) = false := beq_eq_false_iff_ne.mpr c28
 have c28b1 : ((rdOf ByteArray.empty t232 x15_2).toList != (rdOf ByteArray.empty y226 x16_3).toList) = true := bne_iff_ne.mpr c28
 have H' := Aside0.mk H
 clear H
 have p238 : 0 ≤ (x15_2 : Int) := of_decide_eq_true (by first | (with_reducible assumption) | assumption)
 have q238 : x15_2 < (t232.length : Int) := of_decide_eq_true (by first | (with_reducible assumption) | assumption)
 obtain ⟨ad238, e238, hx238_0⟩ := Kd.at_string (Kd.R_reads' HO_10.out).2.2 x15_2 p238 q238
 cases e238
 replace p238 := eq_true p238
 replace q238 := eq_true q238
 have p239 : 0 ≤ (x16_3 : Int) := of_decide_eq_true (by first | (with_reducible assumption) | assumption)
 have q239 : x16_3 < (y226.length : Int) := of_decide_eq_true (by first | (with_reducible assumption) | assumption)
 obtain ⟨ad239, e239, hx239_0⟩ := Kd.at_string (Kd.R_reads' HO_6.out).2.2 x16_3 p239 q239
 cases e239
 replace p239 := eq_true p239
 replace q239 := eq_true q239
 go_wp2
 repeat (go_quiet (fail); try go_wp2)
 go_roundg k3
 case measure => have := HJ11.out; have := HK2.out; have := HK3.out; omega
 case rel => exact ⟨(x14_3), (wrap64 (x16_3 + 1)), s1_, s1_, H', ⟨by have := HJ11.out; have := HK2.out; have := HK3.out; omega⟩, ⟨b2_ HO_6.out⟩, ⟨b2_ HO_10.out⟩, ⟨by repeat (first | (with_reducible first | exact HB.out | apply below_alloc | apply pw_below_drewN | apply below_drew1) | exact HB.out)⟩⟩}}
 {
 rw [if_neg c27] at H
 exact absurd H (by simp)}}
 {
 rw [if_neg c26] at H
 exact absurd H (by simp)}}
 {
 rw [if_neg c25] at H
 exact absurd H (by simp)}}
 {
 rw [if_neg c24] at H
 have c24b0 : decide (x16_3 < (y226.length : Int)) = false := decide_eq_false c24
 clear c24
 have H' := Aside0.mk H
 clear H
 go_wp2
 repeat (go_quiet (fail); try go_wp2)
 go_roundg k3
 case measure => have := HJ11.out; have := HK2.out; have := HK3.out; omega
 case rel => exact ⟨(x14_3), (wrap64 (x15_2 + 1)), s1_, s1_, H', ⟨by have := HJ11.out; have := HK2.out; have := HK3.out; omega⟩, ⟨b2_ HO_6.out⟩, ⟨b2_ HO_10.out⟩, ⟨by repeat (first | (with_reducible first | exact HB.out | apply below_alloc | apply pw_below_drewN | apply below_drew1) | exact HB.out)⟩⟩}}}}
 {
 rw [if_neg c22] at H
 have c22b0 : decide (x15_2 < (t232.length : Int)) = false := decide_eq_false c22
 clear c22
 have H' := Aside0.mk H
 clear H
 obtain ⟨Ao29, co29, eo29⟩ := Kd.R_slice HO_10.out
 subst eo29
 go_wp2
 repeat (go_quiet (fail); try go_wp2)
 go_loopg [17, 18] k2 (fun kq v17 v18 w' => ∃ (x17_3 : ByteArray) (x18_3 : Int), v17 = .string x17_3 ∧ v18 = .int .i64 x18_3 ∧ Aside0 (laws_FnMarked.l2 kq t222 y226 t230 t236 t237 x14_2 x17_3 x18_3 = some r) ∧ Aside0 (kq ≤ k2) ∧ Aside0 (Kd.R Kd.string 9 w' w.heap.size (fun _ => True) (.slice Ao16 y226.length co16) y226) ∧ Aside0 (Below w.heap.size w w'))
 case atStart => exact ⟨((⟨#[]⟩ : ByteArray)), (0), s1_, s1_, H', ⟨Nat.le_refl _⟩, ⟨by (with_reducible repeat (first | apply Kd.R_alloc | apply Kd.R_drewN | apply Kd.R_drew)); exact Kd.R_mono HO_6.out (fun _ hk => trivial)⟩, ⟨by repeat (first | (with_reducible first | exact HB.out | apply below_alloc | apply pw_below_drewN | apply below_drew1) | exact HB.out)⟩⟩
 case round =>
  skip
  {
 clear H'
 try clear c1
 try clear c2
 try clear p2
 try clear q2
 try clear hx2
 try clear c4
 try clear c5
 try clear p6
 try clear c7
 try clear c20
 try clear c21
 try clear c22
 try clear c22b0
 try clear p23
 try clear q23
 try clear hx23
 try clear c24
 try clear c24b0
 try clear c25
 try clear c25b0
 try clear c26
 try clear c26b0
 try clear c27
 try clear c27b0
 try clear c28
 try clear c28b0
 try clear c28b1
 try clear hx238_0
 try clear hx239_0
 try clear p2
 try clear p238
 try clear p239
 try clear q238
 try clear q239
 obtain ⟨x17_3, x18_3, rfl, rfl, HA, HK3, HO_6, HB⟩ := hrel
 cases gk with
 | zero => exact absurd HA.out (by simp [laws_FnMarked.l2])
 | succ k3 =>
  skip
  {
 have H := HA.out
 clear HA
 simp only [laws_FnMarked.l2] at H
 by_cases c30 : x18_3 < (t230.size : Int)
 {
 rw [if_pos c30] at H
 have c30b0 : decide (x18_3 < (t230.size : Int)) = true := decide_eq_true c30
 clear c30
 by_cases c31 : 0 ≤ x18_3
 {
 rw [if_pos c31] at H
 have c31b0 : decide (0 ≤ x18_3) = true := decide_eq_true c31
 clear c31
 by_cases c33 : (bt t230 x18_3) = 91
 {
 rw [if_pos c33] at H
 have c33b0 : ((bt t230 x18_3) == 91) = true := beq_iff_eq.mpr c33
 have c33b1 : ((bt t230 x18_3) != 91) = false := bne_eq_false_iff_eq.mpr c33
 clear c33
 have H' := Aside0.mk H
 clear H
 have p32 : 0 ≤ (x18_3 : Int) := of_decide_eq_true (by first | (with_reducible assumption) | assumption)
 have q32 : x18_3 < (t230.size : Int) := of_decide_eq_true (by first | (with_reducible assumption) | assumption)
 have hx32 := bt_at t230 x18_3
 replace p32 := eq_true p32
 replace q32 := eq_true q32
 go_wp2
 repeat (go_quiet (fail); try go_wp2)
 go_roundg k3
 case measure => have := HJ11.out; have := HK2.out; have := HK3.out; omega
 case rel => exact ⟨(x17_3), (wrap64 (x18_3 + 1)), s1_, s1_, H', ⟨by have := HJ11.out; have := HK2.out; have := HK3.out; omega⟩, ⟨b2_ HO_6.out⟩, ⟨by repeat (first | (with_reducible first | exact HB.out | apply below_alloc | apply pw_below_drewN | apply below_drew1) | exact HB.out)⟩⟩}
 {
 rw [if_neg c33] at H
 have c33b0 : ((bt t230 x18_3) == 91) = false := beq_eq_false_iff_ne.mpr c33
 have c33b1 : ((bt t230 x18_3) != 91) = true := bne_iff_ne.mpr c33
 by_cases c35 : (bt t230 x18_3) = 93
 {
 rw [if_pos c35] at H
 have c35b0 : ((bt t230 x18_3) == 93) = true := beq_iff_eq.mpr c35
 have c35b1 : ((bt t230 x18_3) != 93) = false := bne_eq_false_iff_eq.mpr c35
 clear c35
 have H' := Aside0.mk H
 clear H
 have p32 : 0 ≤ (x18_3 : Int) := of_decide_eq_true (by first | (with_reducible assumption) | assumption)
 have q32 : x18_3 < (t230.size : Int) := of_decide_eq_true (by first | (with_reducible assumption) | assumption)
 have hx32 := bt_at t230 x18_3
 replace p32 := eq_true p32
 replace q32 := eq_true q32
 have p34 : 0 ≤ (x18_3 : Int) := of_decide_eq_true (by first | (with_reducible assumption) | assumption)
 have q34 : x18_3 < (t230.size : Int) := of_decide_eq_true (by first | (with_reducible assumption) | assumption)
 have hx34 := bt_at t230 x18_3
 replace p34 := eq_true p34
 replace q34 := eq_true q34
 go_wp2
 repeat (go_quiet (fail); try go_wp2)
 go_roundg k3
 case measure => have := HJ11.out; have := HK2.out; have := HK3.out; omega
 case rel => exact ⟨(x17_3), (wrap64 (x18_3 + 1)), s1_, s1_, H', ⟨by have := HJ11.out; have := HK2.out; have := HK3.out; omega⟩, ⟨b2_ HO_6.out⟩, ⟨by repeat (first | (with_reducible first | exact HB.out | apply below_alloc | apply pw_below_drewN | apply below_drew1) | exact HB.out)⟩⟩}
 {
 rw [if_neg c35] at H
 have c35b0 : ((bt t230 x18_3) == 93) = false := beq_eq_false_iff_ne.mpr c35
 have c35b1 : ((bt t230 x18_3) != 93) = true := bne_iff_ne.mpr c35
 have c36b0 := eq_true (of_decide_eq_true (by first | (with_reducible assumption) | assumption) : 0 ≤ x18_3)
 by_cases c37 : x18_3 ≤ (wrap64 (x18_3 + 1))
 {
 rw [if_pos c37] at H
 have c37b0 := eq_true c37
 have c37b1 : decide (x18_3 ≤ (wrap64 (x18_3 + 1))) = true := decide_eq_true c37
 by_cases c38 : (wrap64 (x18_3 + 1)) ≤ (t230.size : Int)
 {
 rw [if_pos c38] at H
 have c38b0 := eq_true c38
 have c38b1 : decide ((wrap64 (x18_3 + 1)) ≤ (t230.size : Int)) = true := decide_eq_true c38
 by_cases c39 : x17_3.size + (t230.extract (x18_3 : Int).toNat ((wrap64 (x18_3 + 1)) : Int).toNat).size ≤ 9223372036854775807
 {
 rw [if_pos c39] at H
 have c39b0 := eq_true c39
 have c39b1 : decide (x17_3.size + (t230.extract (x18_3 : Int).toNat ((wrap64 (x18_3 + 1)) : Int).toNat).size ≤ 9223372036854775807) = true := decide_eq_true c39
 try have c39b2 : (9223372036854775807 < x17_3.size + (t230.extract (x18_3 : Int).toNat ((wrap64 (x18_3 + 1)) : Int).toNat).size) = False := eq_false (Nat.not_lt.2 c39)
 try have c39b4 : (9223372036854775807 < x17_3.size + ((((wrap64 (x18_3 + 1)) : Int).toNat - (x18_3 : Int).toNat))) = False := eq_false (by have h0_ := of_eq_true c37b0; (try simp only [ByteArray.size_append, ByteArray.size_extract] at h0_); have h1_ := of_eq_true c38b0; (try simp only [ByteArray.size_append, ByteArray.size_extract] at h1_); have h2_ := of_eq_true c39b0; (try simp only [ByteArray.size_append, ByteArray.size_extract] at h2_); omega)
 have H' := Aside0.mk H
 clear H
 have p32 : 0 ≤ (x18_3 : Int) := of_decide_eq_true (by first | (with_reducible assumption) | assumption)
 have q32 : x18_3 < (t230.size : Int) := of_decide_eq_true (by first | (with_reducible assumption) | assumption)
 have hx32 := bt_at t230 x18_3
 replace p32 := eq_true p32
 replace q32 := eq_true q32
 have p34 : 0 ≤ (x18_3 : Int) := of_decide_eq_true (by first | (with_reducible assumption) | assumption)
 have q34 : x18_3 < (t230.size : Int) := of_decide_eq_true (by first | (with_reducible assumption) | assumption)
 have hx34 := bt_at t230 x18_3
 replace p34 := eq_true p34
 replace q34 := eq_true q34
 go_wp2
 repeat (go_quiet (fail); try go_wp2)
 go_roundg k3
 case measure => have := HJ11.out; have := HK2.out; have := HK3.out; omega
 case rel => exact ⟨(x17_3 ++ (t230.extract (x18_3 : Int).toNat ((wrap64 (x18_3 + 1)) : Int).toNat)), (wrap64 (x18_3 + 1)), s1_, s1_, H', ⟨by have := HJ11.out; have := HK2.out; have := HK3.out; omega⟩, ⟨b2_ HO_6.out⟩, ⟨by repeat (first | (with_reducible first | exact HB.out | apply below_alloc | apply pw_below_drewN | apply below_drew1) | exact HB.out)⟩⟩}
 {
 rw [if_neg c39] at H
 exact absurd H (by simp)}}
 {
 rw [if_neg c38] at H
 exact absurd H (by simp)}}
 {
 rw [if_neg c37] at H
 exact absurd H (by simp)}}}}
 {
 rw [if_neg c31] at H
 exact absurd H (by simp)}}
 {
 rw [if_neg c30] at H
 have c30b0 : decide (x18_3 < (t230.size : Int)) = false := decide_eq_false c30
 clear c30
 have HC40 := Aside0.mk H
 clear H
 go_upto_region 26 with (fail)
 repeat (go_quiet (fail); go_upto_region 26 with (fail))
 go_cut [122] (fun v122 wc => ∃ (kq : Nat) (x122_39 : Bool), v122 = .bool x122_39 ∧ Aside0 (laws_FnMarked.j4 kq t222 y226 t236 t237 x122_39 = some r) ∧ Aside0 (kq ≤ k3) ∧ Aside0 (Kd.R Kd.string 9 wc w.heap.size (fun _ => True) (.slice Ao16 y226.length co16) y226) ∧ Aside0 (Below w.heap.size w wc))
 case first =>
  skip
  {
 have H := HC40.out
 clear HC40
 by_cases c41 : x17_3.toList = t222.toList
 {
 rw [if_pos c41] at H
 have c41b0 : (x17_3.toList == t222.toList) = true := beq_iff_eq.mpr c41
 have c41b1 : (x17_3.toList != t222.toList) = false := bne_eq_false_iff_eq.mpr c41
 clear c41
 (first | rw [c41b0] | (simp only [i64_w, i32_w]; rw [c41b0]) | skip)
 by_cases c42 : (t230.size : Int) = (wrap64 ((t222.size : Int) + (wrap64 (2 * x14_2))))
 {
 rw [if_pos c42] at H
 have c42b0 : ((t230.size : Int) == (wrap64 ((t222.size : Int) + (wrap64 (2 * x14_2))))) = true := beq_iff_eq.mpr c42
 have c42b1 : ((t230.size : Int) != (wrap64 ((t222.size : Int) + (wrap64 (2 * x14_2))))) = false := bne_eq_false_iff_eq.mpr c42
 clear c42
 have H' := Aside0.mk H
 clear H
 go_wp2
 repeat (go_quiet (fail); try go_wp2)
 go_meet
 case rel => exact ⟨_, ((t237 != (decide (x14_2 > 0)))), s1_, H', ⟨by have := HJ11.out; have := HK2.out; have := HK3.out; first | omega | exact Nat.le_refl _⟩, ⟨b2_ HO_6.out⟩, ⟨by repeat (first | (with_reducible first | exact HB.out | apply below_alloc | apply pw_below_drewN | apply below_drew1) | exact HB.out)⟩⟩}
 {
 rw [if_neg c42] at H
 have c42b0 : ((t230.size : Int) == (wrap64 ((t222.size : Int) + (wrap64 (2 * x14_2))))) = false := beq_eq_false_iff_ne.mpr c42
 have c42b1 : ((t230.size : Int) != (wrap64 ((t222.size : Int) + (wrap64 (2 * x14_2))))) = true := bne_iff_ne.mpr c42
 have H' := Aside0.mk H
 clear H
 go_wp2
 repeat (go_quiet (fail); try go_wp2)
 go_meet
 case rel => exact ⟨_, (true), s1_, H', ⟨by have := HJ11.out; have := HK2.out; have := HK3.out; first | omega | exact Nat.le_refl _⟩, ⟨b2_ HO_6.out⟩, ⟨by repeat (first | (with_reducible first | exact HB.out | apply below_alloc | apply pw_below_drewN | apply below_drew1) | exact HB.out)⟩⟩}}
 {
 rw [if_neg c41] at H
 have c41b0 : (x17_3.toList == t222.toList) = false := beq_eq_false_iff_ne.mpr c41
 have c41b1 : (x17_3.toList != t222.toList) = true := bne_iff_ne.mpr c41
 (first | rw [c41b0] | (simp only [i64_w, i32_w]; rw [c41b0]) | skip)
 have H' := Aside0.mk H
 clear H
 go_wp2
 repeat (go_quiet (fail); try go_wp2)
 go_meet
 case rel => exact ⟨_, (true), s1_, H', ⟨by have := HJ11.out; have := HK2.out; have := HK3.out; first | omega | exact Nat.le_refl _⟩, ⟨b2_ HO_6.out⟩, ⟨by repeat (first | (with_reducible first | exact HB.out | apply below_alloc | apply pw_below_drewN | apply below_drew1) | exact HB.out)⟩⟩}}
 case rest =>
  skip
  {
 clear HC40
 try clear c1
 try clear c2
 try clear p2
 try clear q2
 try clear hx2
 try clear c3
 try clear p3
 try clear q3
 try clear hx3
 try clear c4
 try clear c5
 try clear p6
 try clear c7
 try clear c20
 try clear c21
 try clear c22
 try clear c22b0
 try clear p23
 try clear q23
 try clear hx23
 try clear c24
 try clear c24b0
 try clear c25
 try clear c25b0
 try clear c26
 try clear c26b0
 try clear c27
 try clear c27b0
 try clear c28
 try clear c28b0
 try clear c28b1
 try clear c30
 try clear c30b0
 try clear c31
 try clear c31b0
 try clear p32
 try clear q32
 try clear hx32
 try clear c33
 try clear c33b0
 try clear c33b1
 try clear p34
 try clear q34
 try clear hx34
 try clear c35
 try clear c35b0
 try clear c35b1
 try clear c36
 try clear c36b0
 try clear c37
 try clear c37b0
 try clear c37b1
 try clear c38
 try clear c38b0
 try clear c38b1
 try clear c39
 try clear c39b0
 try clear c39b1
 try clear c39b2
 try clear c41
 try clear c41b0
 try clear c41b1
 try clear c42
 try clear c42b0
 try clear c42b1
 try clear hx238_0
 try clear hx239_0
 try clear p2
 try clear p23
 try clear p238
 try clear p239
 try clear p32
 try clear p34
 try clear p6
 try clear q2
 try clear q23
 try clear q238
 try clear q239
 try clear q32
 try clear q34
 obtain ⟨kq, x122_39, rfl, HA, HJ39, HO_6, HB⟩ := hcut
 cases kq with
 | zero => exact absurd HA.out (by simp [laws_FnMarked.j4])
 | succ kj39 =>
  skip
  {
 have H := HA.out
 clear HA
 simp only [laws_FnMarked.j4] at H
 by_cases c43 : x122_39 = true
 {
 subst c43
 have H1 : (some false) = some r := by rw [if_pos rfl] at H; exact H
 clear H
 have H := H1
 clear H1
 obtain rfl := Option.some.inj H
 go_wp2
 repeat (go_quiet (fail); try go_wp2)
 go_ret
 exact ⟨by first | rfl | (simp [errW_none, errW_some] <;> rfl) | (simp [*, errW_none, errW_some] <;> rfl), by repeat (first | (with_reducible first | exact HB.out | apply below_alloc | apply pw_below_drewN | apply below_drew1) | exact HB.out)⟩}
 {
 replace c43 := Bool.eq_false_iff.mpr c43
 subst c43
 have H1 : (if t237 = true then (laws_FnMarked.l3 kj39 t222 y226 t236 false 0) else (some true)) = some r := by rw [if_neg (show ¬ (false = true) by decide)] at H; exact H
 clear H
 have H := H1
 clear H1
 by_cases c44 : t237 = true
 {
 subst c44
 have H1 : (laws_FnMarked.l3 kj39 t222 y226 t236 false 0) = some r := by rw [if_pos rfl] at H; exact H
 clear H
 have H := H1
 clear H1
 have H' := Aside0.mk H
 clear H
 go_wp2
 repeat (go_quiet (fail); try go_wp2)
 go_loopg [19, 20] kj39 (fun kq v19 v20 w' => ∃ (x19_5 : Bool) (x20_5 : Int), v19 = .bool x19_5 ∧ v20 = .int .i64 x20_5 ∧ Aside0 (laws_FnMarked.l3 kq t222 y226 t236 x19_5 x20_5 = some r) ∧ Aside0 (kq ≤ kj39) ∧ Aside0 (Kd.R Kd.string 9 w' w.heap.size (fun _ => True) (.slice Ao16 y226.length co16) y226) ∧ Aside0 (Below w.heap.size w w'))
 case atStart => exact ⟨(false), (0), s1_, s1_, H', ⟨Nat.le_refl _⟩, ⟨b2_ HO_6.out⟩, ⟨by repeat (first | (with_reducible first | exact HB.out | apply below_alloc | apply pw_below_drewN | apply below_drew1) | exact HB.out)⟩⟩
 case round =>
  skip
  {
 clear H'
 try clear c1
 try clear c2
 try clear p2
 try clear q2
 try clear hx2
 try clear c3
 try clear p3
 try clear q3
 try clear hx3
 try clear c4
 try clear c5
 try clear p6
 try clear c7
 try clear c20
 try clear c21
 try clear c22
 try clear c22b0
 try clear p23
 try clear q23
 try clear hx23
 try clear c24
 try clear c24b0
 try clear c25
 try clear c25b0
 try clear c26
 try clear c26b0
 try clear c27
 try clear c27b0
 try clear c28
 try clear c28b0
 try clear c28b1
 try clear c30
 try clear c30b0
 try clear c31
 try clear c31b0
 try clear p32
 try clear q32
 try clear hx32
 try clear c33
 try clear c33b0
 try clear c33b1
 try clear p34
 try clear q34
 try clear hx34
 try clear c35
 try clear c35b0
 try clear c35b1
 try clear c36
 try clear c36b0
 try clear c37
 try clear c37b0
 try clear c37b1
 try clear c38
 try clear c38b0
 try clear c38b1
 try clear c39
 try clear c39b0
 try clear c39b1
 try clear c39b2
 try clear c41
 try clear c41b0
 try clear c41b1
 try clear c42
 try clear c42b0
 try clear c42b1
 try clear c43
 try clear c44
 try clear hx238_0
 try clear hx239_0
 try clear p2
 try clear p23
 try clear p238
 try clear p239
 try clear p3
 try clear p32
 try clear p34
 try clear p6
 try clear q2
 try clear q23
 try clear q238
 try clear q239
 try clear q3
 try clear q32
 try clear q34
 obtain ⟨x19_5, x20_5, rfl, rfl, HA, HK5, HO_6, HB⟩ := hrel
 cases gk with
 | zero => exact absurd HA.out (by simp [laws_FnMarked.l3])
 | succ k5 =>
  skip
  {
 have H := HA.out
 clear HA
 simp only [laws_FnMarked.l3] at H
 by_cases c45 : (wrap64 (x20_5 + (t236.size : Int))) ≤ (t222.size : Int)
 {
 rw [if_pos c45] at H
 have c45b0 : decide ((wrap64 (x20_5 + (t236.size : Int))) ≤ (t222.size : Int)) = true := decide_eq_true c45
 clear c45
 by_cases c46 : x19_5 = true
 {
 subst c46
 have H1 : (laws_FnMarked.l3 k5 t222 y226 t236 true (wrap64 (x20_5 + 1))) = some r := by rw [if_pos rfl] at H; exact H
 clear H
 have H := H1
 clear H1
 have H' := Aside0.mk H
 clear H
 go_wp2
 repeat (go_quiet (fail); try go_wp2)
 go_roundg k5
 case measure => have := HJ11.out; have := HK2.out; have := HK3.out; have := HJ39.out; have := HK5.out; omega
 case rel => exact ⟨(true), (wrap64 (x20_5 + 1)), s1_, s1_, H', ⟨by have := HJ11.out; have := HK2.out; have := HK3.out; have := HJ39.out; have := HK5.out; omega⟩, ⟨b2_ HO_6.out⟩, ⟨by repeat (first | (with_reducible first | exact HB.out | apply below_alloc | apply pw_below_drewN | apply below_drew1) | exact HB.out)⟩⟩}
 {
 replace c46 := Bool.eq_false_iff.mpr c46
 subst c46
 have H1 : (if 0 ≤ x20_5 then (if x20_5 ≤ (wrap64 (x20_5 + (t236.size : Int))) then (laws_FnMarked.l3 k5 t222 y226 t236 ((t222.extract (x20_5 : Int).toNat ((wrap64 (x20_5 + (t236.size : Int))) : Int).toNat).toList == t236.toList) (wrap64 (x20_5 + 1))) else (none)) else (none)) = some r := by rw [if_neg (show ¬ (false = true) by decide)] at H; exact H
 clear H
 have H := H1
 clear H1
 by_cases c47 : 0 ≤ x20_5
 {
 rw [if_pos c47] at H
 have c47b0 := eq_true c47
 have c47b1 : decide (0 ≤ x20_5) = true := decide_eq_true c47
 clear c47
 by_cases c48 : x20_5 ≤ (wrap64 (x20_5 + (t236.size : Int)))
 {
 rw [if_pos c48] at H
 have c48b0 := eq_true c48
 have c48b1 : decide (x20_5 ≤ (wrap64 (x20_5 + (t236.size : Int)))) = true := decide_eq_true c48
 have c49b0 := eq_true (of_decide_eq_true (by first | (with_reducible assumption) | assumption) : (wrap64 (x20_5 + (t236.size : Int))) ≤ (t222.size : Int))
 have H' := Aside0.mk H
 clear H
 go_wp2
 repeat (go_quiet (fail); try go_wp2)
 go_roundg k5
 case measure => have := HJ11.out; have := HK2.out; have := HK3.out; have := HJ39.out; have := HK5.out; omega
 case rel => exact ⟨(((t222.extract (x20_5 : Int).toNat ((wrap64 (x20_5 + (t236.size : Int))) : Int).toNat).toList == t236.toList)), (wrap64 (x20_5 + 1)), s1_, s1_, H', ⟨by have := HJ11.out; have := HK2.out; have := HK3.out; have := HJ39.out; have := HK5.out; omega⟩, ⟨b2_ HO_6.out⟩, ⟨by repeat (first | (with_reducible first | exact HB.out | apply below_alloc | apply pw_below_drewN | apply below_drew1) | exact HB.out)⟩⟩}
 {
 rw [if_neg c48] at H
 exact absurd H (by simp)}}
 {
 rw [if_neg c47] at H
 exact absurd H (by simp)}}}
 {
 rw [if_neg c45] at H
 have c45b0 : decide ((wrap64 (x20_5 + (t236.size : Int))) ≤ (t222.size : Int)) = false := decide_eq_false c45
 clear c45
 replace H := Option.bind_eq_some_iff.mp H
 obtain ⟨⟨t240, t241⟩, A500, H⟩ := H
 replace H : (if x19_5 = true then (if t241 = true then (if t240.toList = t222.toList then (some (decide ((t236.size : Int) ≥ 1))) else (some false)) else (some false)) else (some false)) = some r := H
 have A50 := Aside0.mk A500
 clear A500
 by_cases c51 : x19_5 = true
 {
 subst c51
 have H1 : (if t241 = true then (if t240.toList = t222.toList then (some (decide ((t236.size : Int) ≥ 1))) else (some false)) else (some false)) = some r := by rw [if_pos rfl] at H; exact H
 clear H
 have H := H1
 clear H1
 by_cases c52 : t241 = true
 {
 subst c52
 have H1 : (if t240.toList = t222.toList then (some (decide ((t236.size : Int) ≥ 1))) else (some false)) = some r := by rw [if_pos rfl] at H; exact H
 clear H
 have H := H1
 clear H1
 by_cases c53 : t240.toList = t222.toList
 {
 rw [if_pos c53] at H
 have c53b0 : (t240.toList == t222.toList) = true := beq_iff_eq.mpr c53
 have c53b1 : (t240.toList != t222.toList) = false := bne_eq_false_iff_eq.mpr c53
 clear c53
 obtain rfl := Option.some.inj H
 go_wp2_with (first | (go_at_call 24; (with_reducible refine (impl_SnippetOf.calls k5 t222 _ _ y226 80 t240 true _ ?side1 ?side2 A50.out).mono ?_); (case side1 => exact y2_ (Kd.R_reads' HO_6.out).2.2); (case side2 => exact (Kd.R_reads' HO_6.out).2.1); rintro e w54 ⟨rfl, hb⟩; replace HO_6 := r1_ HO_6 hb; replace HB := Aside0.mk (below_step (y1_ HB.out) hb); (try clear hb); (try clear hb2); (try clear hk); (try clear hi)))
 repeat (go_quiet (first | (go_at_call 24; (with_reducible refine (impl_SnippetOf.calls k5 t222 _ _ y226 80 t240 true _ ?side1 ?side2 A50.out).mono ?_); (case side1 => exact y2_ (Kd.R_reads' HO_6.out).2.2); (case side2 => exact (Kd.R_reads' HO_6.out).2.1); rintro e w54 ⟨rfl, hb⟩; replace HO_6 := r1_ HO_6 hb; replace HB := Aside0.mk (below_step (y1_ HB.out) hb); (try clear hb); (try clear hb2); (try clear hk); (try clear hi))); try go_wp2_with (first | (go_at_call 24; (with_reducible refine (impl_SnippetOf.calls k5 t222 _ _ y226 80 t240 true _ ?side1 ?side2 A50.out).mono ?_); (case side1 => exact y2_ (Kd.R_reads' HO_6.out).2.2); (case side2 => exact (Kd.R_reads' HO_6.out).2.1); rintro e w54 ⟨rfl, hb⟩; replace HO_6 := r1_ HO_6 hb; replace HB := Aside0.mk (below_step (y1_ HB.out) hb); (try clear hb); (try clear hb2); (try clear hk); (try clear hi))))
 go_ret
 exact ⟨by first | rfl | (simp [errW_none, errW_some] <;> rfl) | (simp [*, errW_none, errW_some] <;> rfl), by repeat (first | (with_reducible first | exact HB.out | apply below_alloc | apply pw_below_drewN | apply below_drew1) | exact HB.out)⟩}
 {
 rw [if_neg c53] at H
 have c53b0 : (t240.toList == t222.toList) = false := beq_eq_false_iff_ne.mpr c53
 have c53b1 : (t240.toList != t222.toList) = true := bne_iff_ne.mpr c53
 obtain rfl := Option.some.inj H
 go_wp2_with (first | (go_at_call 24; (with_reducible refine (impl_SnippetOf.calls k5 t222 _ _ y226 80 t240 true _ ?side1 ?side2 A50.out).mono ?_); (case side1 => exact y2_ (Kd.R_reads' HO_6.out).2.2); (case side2 => exact (Kd.R_reads' HO_6.out).2.1); rintro e w55 ⟨rfl, hb⟩; replace HO_6 := r1_ HO_6 hb; replace HB := Aside0.mk (below_step (y1_ HB.out) hb); (try clear hb); (try clear hb2); (try clear hk); (try clear hi)))
 repeat (go_quiet (first | (go_at_call 24; (with_reducible refine (impl_SnippetOf.calls k5 t222 _ _ y226 80 t240 true _ ?side1 ?side2 A50.out).mono ?_); (case side1 => exact y2_ (Kd.R_reads' HO_6.out).2.2); (case side2 => exact (Kd.R_reads' HO_6.out).2.1); rintro e w55 ⟨rfl, hb⟩; replace HO_6 := r1_ HO_6 hb; replace HB := Aside0.mk (below_step (y1_ HB.out) hb); (try clear hb); (try clear hb2); (try clear hk); (try clear hi))); try go_wp2_with (first | (go_at_call 24; (with_reducible refine (impl_SnippetOf.calls k5 t222 _ _ y226 80 t240 true _ ?side1 ?side2 A50.out).mono ?_); (case side1 => exact y2_ (Kd.R_reads' HO_6.out).2.2); (case side2 => exact (Kd.R_reads' HO_6.out).2.1); rintro e w55 ⟨rfl, hb⟩; replace HO_6 := r1_ HO_6 hb; replace HB := Aside0.mk (below_step (y1_ HB.out) hb); (try clear hb); (try clear hb2); (try clear hk); (try clear hi))))
 go_ret
 exact ⟨by first | rfl | (simp [errW_none, errW_some] <;> rfl) | (simp [*, errW_none, errW_some] <;> rfl), by repeat (first | (with_reducible first | exact HB.out | apply below_alloc | apply pw_below_drewN | apply below_drew1) | exact HB.out)⟩}}
 {
 replace c52 := Bool.eq_false_iff.mpr c52
 subst c52
 have H1 : (some false) = some r := by rw [if_neg (show ¬ (false = true) by decide)] at H; exact H
 clear H
 have H := H1
 clear H1
 obtain rfl := Option.some.inj H
 go_wp2_with (first | (go_at_call 24; (with_reducible refine (impl_SnippetOf.calls k5 t222 _ _ y226 80 t240 false _ ?side1 ?side2 A50.out).mono ?_); (case side1 => exact y2_ (Kd.R_reads' HO_6.out).2.2); (case side2 => exact (Kd.R_reads' HO_6.out).2.1); rintro e w56 ⟨rfl, hb⟩; replace HO_6 := r1_ HO_6 hb; replace HB := Aside0.mk (below_step (y1_ HB.out) hb); (try clear hb); (try clear hb2); (try clear hk); (try clear hi)))
 repeat (go_quiet (first | (go_at_call 24; (with_reducible refine (impl_SnippetOf.calls k5 t222 _ _ y226 80 t240 false _ ?side1 ?side2 A50.out).mono ?_); (case side1 => exact y2_ (Kd.R_reads' HO_6.out).2.2); (case side2 => exact (Kd.R_reads' HO_6.out).2.1); rintro e w56 ⟨rfl, hb⟩; replace HO_6 := r1_ HO_6 hb; replace HB := Aside0.mk (below_step (y1_ HB.out) hb); (try clear hb); (try clear hb2); (try clear hk); (try clear hi))); try go_wp2_with (first | (go_at_call 24; (with_reducible refine (impl_SnippetOf.calls k5 t222 _ _ y226 80 t240 false _ ?side1 ?side2 A50.out).mono ?_); (case side1 => exact y2_ (Kd.R_reads' HO_6.out).2.2); (case side2 => exact (Kd.R_reads' HO_6.out).2.1); rintro e w56 ⟨rfl, hb⟩; replace HO_6 := r1_ HO_6 hb; replace HB := Aside0.mk (below_step (y1_ HB.out) hb); (try clear hb); (try clear hb2); (try clear hk); (try clear hi))))
 go_ret
 exact ⟨by first | rfl | (simp [errW_none, errW_some] <;> rfl) | (simp [*, errW_none, errW_some] <;> rfl), by repeat (first | (with_reducible first | exact HB.out | apply below_alloc | apply pw_below_drewN | apply below_drew1) | exact HB.out)⟩}}
 {
 replace c51 := Bool.eq_false_iff.mpr c51
 subst c51
 have H1 : (some false) = some r := by rw [if_neg (show ¬ (false = true) by decide)] at H; exact H
 clear H
 have H := H1
 clear H1
 obtain rfl := Option.some.inj H
 go_wp2_with (first | (go_at_call 24; (with_reducible refine (impl_SnippetOf.calls k5 t222 _ _ y226 80 t240 t241 _ ?side1 ?side2 A50.out).mono ?_); (case side1 => exact y2_ (Kd.R_reads' HO_6.out).2.2); (case side2 => exact (Kd.R_reads' HO_6.out).2.1); rintro e w57 ⟨rfl, hb⟩; replace HO_6 := r1_ HO_6 hb; replace HB := Aside0.mk (below_step (y1_ HB.out) hb); (try clear hb); (try clear hb2); (try clear hk); (try clear hi)))
 repeat (go_quiet (first | (go_at_call 24; (with_reducible refine (impl_SnippetOf.calls k5 t222 _ _ y226 80 t240 t241 _ ?side1 ?side2 A50.out).mono ?_); (case side1 => exact y2_ (Kd.R_reads' HO_6.out).2.2); (case side2 => exact (Kd.R_reads' HO_6.out).2.1); rintro e w57 ⟨rfl, hb⟩; replace HO_6 := r1_ HO_6 hb; replace HB := Aside0.mk (below_step (y1_ HB.out) hb); (try clear hb); (try clear hb2); (try clear hk); (try clear hi))); try go_wp2_with (first | (go_at_call 24; (with_reducible refine (impl_SnippetOf.calls k5 t222 _ _ y226 80 t240 t241 _ ?side1 ?side2 A50.out).mono ?_); (case side1 => exact y2_ (Kd.R_reads' HO_6.out).2.2); (case side2 => exact (Kd.R_reads' HO_6.out).2.1); rintro e w57 ⟨rfl, hb⟩; replace HO_6 := r1_ HO_6 hb; replace HB := Aside0.mk (below_step (y1_ HB.out) hb); (try clear hb); (try clear hb2); (try clear hk); (try clear hi))))
 go_ret
 exact ⟨by first | rfl | (simp [errW_none, errW_some] <;> rfl) | (simp [*, errW_none, errW_some] <;> rfl), by repeat (first | (with_reducible first | exact HB.out | apply below_alloc | apply pw_below_drewN | apply below_drew1) | exact HB.out)⟩}}}}}
 {
 replace c44 := Bool.eq_false_iff.mpr c44
 subst c44
 have H1 : (some true) = some r := by rw [if_neg (show ¬ (false = true) by decide)] at H; exact H
 clear H
 have H := H1
 clear H1
 obtain rfl := Option.some.inj H
 go_wp2
 repeat (go_quiet (fail); try go_wp2)
 go_ret
 exact ⟨by first | rfl | (simp [errW_none, errW_some] <;> rfl) | (simp [*, errW_none, errW_some] <;> rfl), by repeat (first | (with_reducible first | exact HB.out | apply below_alloc | apply pw_below_drewN | apply below_drew1) | exact HB.out)⟩}}}}}}}}}}}}}}
 {
 rw [if_neg c7] at H
 exact absurd H (by simp)}}

/-- THE ONE PURE STATEMENT of laws_FnMarked: yours. -/
def laws_FnMarked.Pure : Prop := ∀ (l0 : List Int) (l1 : List Int), l0.length ≤ maxLen → l0.length * 1 ≤ 140737488351232 → (∀ x ∈ l0, (Lit.int .u8 x).wf = true) → l1.length ≤ maxLen → l1.length * 1 ≤ 140737488351232 → (∀ x ∈ l1, (Lit.int .u8 x).wf = true) → ∃ k, laws_FnMarked.f k l0 l1 = some true
theorem laws_FnMarked.walk (P : laws_FnMarked.Pure) (a0 : Option Addr) (len0 cap0 : Nat) (z0 : List Int) (a1 : Option Addr) (len1 cap1 : Nat) (z1 : List Int) (w : World) (w0 : (a0 = none ∧ len0 = 0 ∧ cap0 = 0 ∧ z0 = []) ∨ ∃ x, a0 = some x ∧ len0 ≤ cap0 ∧ cap0 ≤ maxLen ∧ z0.length = cap0 ∧ (∀ i, i < z0.length → w.cell? (x.add i) = some (.int .u8 (z0.getD i 0))) ∧ ∀ n ∈ z0, (Lit.int .u8 n).wf = true) (y0 : len0 * 1 ≤ 140737488351232) (w1 : (a1 = none ∧ len1 = 0 ∧ cap1 = 0 ∧ z1 = []) ∨ ∃ x, a1 = some x ∧ len1 ≤ cap1 ∧ cap1 ≤ maxLen ∧ z1.length = cap1 ∧ (∀ i, i < z1.length → w.cell? (x.add i) = some (.int .u8 (z1.getD i 0))) ∧ ∀ n ∈ z1, (Lit.int .u8 n).wf = true) (y1 : len1 * 1 ≤ 140737488351232) :
    Calls Try.prog 5 #[.slice a0 len0 cap0, .slice a1 len1 cap1] w fun e w' => e = .returned (.bool true) ∧ Below w.heap.size w w' := by
  obtain ⟨l0, rfl, hr0, hm0, hw0, hc0⟩ := ReadsInt.ofRowC w0
  obtain ⟨l1, rfl, hr1, hm1, hw1, hc1⟩ := ReadsInt.ofRowC w1
  obtain ⟨k, h⟩ := P l0 l1 hm0 y0 hw0 hm1 y1 hw1
  refine (laws_FnMarked.calls k _ _ l0 _ _ l1 true w (Kd.C_of_reads (d := (0 : Int)) (h1 := fun _ => rfl) hr0) hc0 (Kd.C_of_reads (d := (0 : Int)) (h1 := fun _ => rfl) hr1) hc1 h).mono ?_
  rintro e w' ⟨rfl, hd⟩
  exact ⟨rfl, hd⟩

end Go.Proofs.Ytcnhepjdibbkgaa.QFnMarked
