-- written by a program of this session, on the lines of the kit's print
import Derived.Test.YtjfaepolmllejaaQFnCensoredx0
import Derived.Test.YtjfaepolmllejaaQFnCensoredx1
import Derived.Test.YtjfaepolmllejaaQFnCensoredx2
import Derived.Test.YtjfaepolmllejaaQFnCensoredx3
import Derived.Test.YtjfaepolmllejaaQFnCensoredx4
namespace Go.Proofs.Ytjfaepolmllejaa.QFnCensored
open Go.RowKit Go.Proofs.YtjfaepolmllejaaW.PrintWords Go.Proofs.YtjfaepolmllejaaW.PrintLast Go.Proofs.YtjfaepolmllejaaW.PrintMore
attribute [local go_sem] max2_int min2_int max_two min_two max_three min_three max_four min_four   -- for this text's walks alone
set_option linter.unusedVariables false
set_option linter.unusedSimpArgs false

/-! ### laws_FnCensored: function 9 -/
abbrev laws_FnCensored.T : Bool := true
abbrev laws_FnCensored.F : Bool := false
theorem laws_FnCensored.s1_ {P : Prop} (h : P := by first | rfl | (simp; done) | (simp [*]; done)) : P := h
theorem laws_FnCensored.b2_ {P Q : Prop} (q : Q) (h : Q → P := by intro q_; (with_reducible repeat (first | apply Kd.R_alloc | apply Kd.R_drewN | apply Kd.R_drew)); exact q_) : P := h q
theorem laws_FnCensored.y1_ {P Q : Prop} (q : Q) (h : Q → P := by intro q_; repeat (first | (with_reducible first | exact q_ | apply below_alloc | apply pw_below_drewN | apply below_drew1) | exact q_)) : P := h q
theorem laws_FnCensored.y2_ {P Q : Prop} (q : Q) (h : Q → P := by intro q_; repeat (first | exact q_ | (with_reducible refine Kd.C_alloc ?_ _) | (with_reducible refine Kd.C_drewN ?_ _) | (with_reducible refine Kd.C_drew ?_))) : P := h q
theorem laws_FnCensored.r1_ {α : Type} {d : Kd α} {e base : Nat} {ok : Nat → Prop} {v : Value} {xs : List α} {w W w1 : World} (q : Aside0 (d.R e w base ok v xs)) (hb : Below W.heap.size W w1) (h : d.R e w base ok v xs → d.R e W base ok v xs := by intro q_; (with_reducible repeat (first | apply Kd.R_alloc | apply Kd.R_drewN | apply Kd.R_drew)); exact q_) : Aside0 (d.R e w1 base ok v xs) := ⟨Kd.R_below (h q.out) hb⟩
mutual
def laws_FnCensored.j0 : Nat → ByteArray → List ByteArray → List ByteArray → ByteArray → List ByteArray → Bool → Option (Bool)
  | 0, _, _, _, _, _, _ => none
  | k + 1, x5, x6, x7, x9, x11, x86 => if x86 = true then (some false) else (laws_FnCensored.l0 k x5 x6 x7 x9 x11 0 0)
def laws_FnCensored.l0 : Nat → ByteArray → List ByteArray → List ByteArray → ByteArray → List ByteArray → Int → Int → Option (Bool)
  | 0, _, _, _, _, _, _, _ => none
  | k + 1, x5, x6, x7, x9, x11, x13, x14 => if x14 < (x6.length : Int) then (laws_FnCensored.l1 k x5 x6 x7 x9 x11 x13 x14 false 0) else (laws_FnCensored.l2 k x5 x6 x7 x9 x11 x13 0 0)
def laws_FnCensored.l1 : Nat → ByteArray → List ByteArray → List ByteArray → ByteArray → List ByteArray → Int → Int → Bool → Int → Option (Bool)
  | 0, _, _, _, _, _, _, _, _, _ => none
  | k + 1, x5, x6, x7, x9, x11, x13, x14, x15, x16 => if x16 < (x11.length : Int) then (if x15 = true then (laws_FnCensored.l1 k x5 x6 x7 x9 x11 x13 x14 true (wrap64 (x16 + 1))) else (if 0 ≤ x16 then (if 0 ≤ x14 then (if x14 < (x6.length : Int) then (laws_FnCensored.l1 k x5 x6 x7 x9 x11 x13 x14 ((rdOf ByteArray.empty x11 x16).toList == (rdOf ByteArray.empty x6 x14).toList) (wrap64 (x16 + 1))) else (none)) else (none)) else (none))) else (if x15 = true then (if x13 ≥ (x7.length : Int) then (some false) else (if 0 ≤ x13 then (if x13 < (x7.length : Int) then (if 0 ≤ x14 then (if x14 < (x6.length : Int) then (if (rdOf ByteArray.empty x7 x13).toList = (rdOf ByteArray.empty x6 x14).toList then (laws_FnCensored.l0 k x5 x6 x7 x9 x11 (wrap64 (x13 + 1)) (wrap64 (x14 + 1))) else (some false)) else (none)) else (none)) else (none)) else (none))) else (laws_FnCensored.l0 k x5 x6 x7 x9 x11 x13 (wrap64 (x14 + 1))))
def laws_FnCensored.l2 : Nat → ByteArray → List ByteArray → List ByteArray → ByteArray → List ByteArray → Int → Int → Int → Option (Bool)
  | 0, _, _, _, _, _, _, _, _ => none
  | k + 1, x5, x6, x7, x9, x11, x13, x17, x18 => if x18 < (x9.size : Int) then (if 0 ≤ x18 then (if x18 < (x5.size : Int) then (if (bt x9 x18) = (bt x5 x18) then (laws_FnCensored.l2 k x5 x6 x7 x9 x11 x13 x17 (wrap64 (x18 + 1))) else (if (bt x9 x18) = 42 then (laws_FnCensored.l2 k x5 x6 x7 x9 x11 x13 (wrap64 (x17 + 1)) (wrap64 (x18 + 1))) else (some false))) else (none)) else (none)) else (laws_FnCensored.l3 k x6 x7 x11 x13 x17 0 0)
def laws_FnCensored.l3 : Nat → List ByteArray → List ByteArray → List ByteArray → Int → Int → Int → Int → Option (Bool)
  | 0, _, _, _, _, _, _, _ => none
  | k + 1, x6, x7, x11, x13, x17, x19, x20 => if x20 < (x11.length : Int) then (laws_FnCensored.l4 k x6 x7 x11 x13 x17 x19 x20 0) else (if x13 = (x7.length : Int) then (some (x17 == x19)) else (some false))
def laws_FnCensored.l4 : Nat → List ByteArray → List ByteArray → List ByteArray → Int → Int → Int → Int → Int → Option (Bool)
  | 0, _, _, _, _, _, _, _, _ => none
  | k + 1, x6, x7, x11, x13, x17, x19, x20, x21 => if x21 < (x6.length : Int) then (if 0 ≤ x20 then (if x20 < (x11.length : Int) then (if 0 ≤ x21 then (if (rdOf ByteArray.empty x11 x20).toList = (rdOf ByteArray.empty x6 x21).toList then (laws_FnCensored.l4 k x6 x7 x11 x13 x17 (wrap64 (x19 + (wrap64 (((rdOf ByteArray.empty x11 x20).size : Int) - 1)))) x20 (wrap64 (x21 + 1))) else (laws_FnCensored.l4 k x6 x7 x11 x13 x17 x19 x20 (wrap64 (x21 + 1)))) else (none)) else (none)) else (none)) else (laws_FnCensored.l3 k x6 x7 x11 x13 x17 x19 (wrap64 (x20 + 1)))
end
def laws_FnCensored.f (k : Nat) (l0 : List Int) (l1 : List Int) : Option (Bool) := (laws_r8Long.f l0 l1).bind fun t363 => (if t363 = true then (some true) else ((spec_R8Text.f k l0).bind fun t364 => ((spec_R8Words.f k l1).bind fun t365 => ((impl_BadWordsIn.f k t364 t365).bind fun bt368 => ((impl_CensorText.f k t364 t365).bind fun bt372 => ((impl_WordsOf.f k t364).bind fun bt374 => (if bt368.2 = true then (if bt372.2 = true then (if bt374.2 = true then ((impl_AreBadWords.f k t365).bind fun t378 => (if t378 = true then (if (bt372.1.size : Int) = (t364.size : Int) then ((impl_HasBadWord.f k t364 t365).bind fun t379 => (if (t379 != (decide ((bt368.1.length : Int) > 0))) = true then (laws_FnCensored.j0 k t364 t365 bt368.1 bt372.1 bt374.1 true) else (if (bt368.1.length : Int) = 0 then (laws_FnCensored.j0 k t364 t365 bt368.1 bt372.1 bt374.1 (bt372.1.toList != t364.toList)) else (laws_FnCensored.j0 k t364 t365 bt368.1 bt372.1 bt374.1 false)))) else (laws_FnCensored.j0 k t364 t365 bt368.1 bt372.1 bt374.1 true)) else (laws_FnCensored.j0 k t364 t365 bt368.1 bt372.1 bt374.1 true))) else (laws_FnCensored.j0 k t364 t365 bt368.1 bt372.1 bt374.1 true)) else (laws_FnCensored.j0 k t364 t365 bt368.1 bt372.1 bt374.1 true)) else (laws_FnCensored.j0 k t364 t365 bt368.1 bt372.1 bt374.1 true))))))))
theorem laws_FnCensored.mono_l : ∀ k, (∀ y0 y1 y2 y3 y4 y5, LeO (laws_FnCensored.j0 k y0 y1 y2 y3 y4 y5) (laws_FnCensored.j0 (k + 1) y0 y1 y2 y3 y4 y5)) ∧ (∀ y0 y1 y2 y3 y4 y5 y6, LeO (laws_FnCensored.l0 k y0 y1 y2 y3 y4 y5 y6) (laws_FnCensored.l0 (k + 1) y0 y1 y2 y3 y4 y5 y6)) ∧ (∀ y0 y1 y2 y3 y4 y5 y6 y7 y8, LeO (laws_FnCensored.l1 k y0 y1 y2 y3 y4 y5 y6 y7 y8) (laws_FnCensored.l1 (k + 1) y0 y1 y2 y3 y4 y5 y6 y7 y8)) ∧ (∀ y0 y1 y2 y3 y4 y5 y6 y7, LeO (laws_FnCensored.l2 k y0 y1 y2 y3 y4 y5 y6 y7) (laws_FnCensored.l2 (k + 1) y0 y1 y2 y3 y4 y5 y6 y7)) ∧ (∀ y0 y1 y2 y3 y4 y5 y6, LeO (laws_FnCensored.l3 k y0 y1 y2 y3 y4 y5 y6) (laws_FnCensored.l3 (k + 1) y0 y1 y2 y3 y4 y5 y6)) ∧ (∀ y0 y1 y2 y3 y4 y5 y6 y7, LeO (laws_FnCensored.l4 k y0 y1 y2 y3 y4 y5 y6 y7) (laws_FnCensored.l4 (k + 1) y0 y1 y2 y3 y4 y5 y6 y7))
  | 0 => ⟨fun _ _ _ _ _ _ r h => by simp [laws_FnCensored.j0] at h, fun _ _ _ _ _ _ _ r h => by simp [laws_FnCensored.l0] at h, fun _ _ _ _ _ _ _ _ _ r h => by simp [laws_FnCensored.l1] at h, fun _ _ _ _ _ _ _ _ r h => by simp [laws_FnCensored.l2] at h, fun _ _ _ _ _ _ _ r h => by simp [laws_FnCensored.l3] at h, fun _ _ _ _ _ _ _ _ r h => by simp [laws_FnCensored.l4] at h⟩
  | k + 1 => by
    obtain ⟨ih0, ih1, ih2, ih3, ih4, ih5⟩ := laws_FnCensored.mono_l k
    refine ⟨?_, ?_, ?_, ?_, ?_, ?_⟩
    · intro y0 y1 y2 y3 y4 y5
      unfold laws_FnCensored.j0
      repeat' first
      | (with_reducible exact ih0 _ _ _ _ _ _)
      | (with_reducible exact ih1 _ _ _ _ _ _ _)
      | (with_reducible exact ih2 _ _ _ _ _ _ _ _ _)
      | (with_reducible exact ih3 _ _ _ _ _ _ _ _)
      | (with_reducible exact ih4 _ _ _ _ _ _ _)
      | (with_reducible exact ih5 _ _ _ _ _ _ _ _)
      | (with_reducible exact impl_AreBadWords.mono _ _)
      | (with_reducible exact impl_BadWordsIn.mono _ _ _)
      | (with_reducible exact impl_CensorText.mono _ _ _)
      | (with_reducible exact impl_HasBadWord.mono _ _ _)
      | (with_reducible exact impl_WordsOf.mono _ _)
      | (with_reducible exact spec_R8Text.mono _ _)
      | (with_reducible exact spec_R8Words.mono _ _)
      | (with_reducible exact LeO.refl _)
      | (with_reducible exact LeO.none _)
      | (with_reducible refine LeO.ite ?_ ?_)
      | (with_reducible refine LeO.bind ?_ (fun _ => ?_))
      | exact ih0 _ _ _ _ _ _
      | exact ih1 _ _ _ _ _ _ _
      | exact ih2 _ _ _ _ _ _ _ _ _
      | exact ih3 _ _ _ _ _ _ _ _
      | exact ih4 _ _ _ _ _ _ _
      | exact ih5 _ _ _ _ _ _ _ _
      | exact impl_AreBadWords.mono _ _
      | exact impl_BadWordsIn.mono _ _ _
      | exact impl_CensorText.mono _ _ _
      | exact impl_HasBadWord.mono _ _ _
      | exact impl_WordsOf.mono _ _
      | exact spec_R8Text.mono _ _
      | exact spec_R8Words.mono _ _
      | exact LeO.none _
      | refine LeO.ite ?_ ?_
      | refine LeO.bind ?_ (fun _ => ?_)
    · intro y0 y1 y2 y3 y4 y5 y6
      unfold laws_FnCensored.l0
      repeat' first
      | (with_reducible exact ih0 _ _ _ _ _ _)
      | (with_reducible exact ih1 _ _ _ _ _ _ _)
      | (with_reducible exact ih2 _ _ _ _ _ _ _ _ _)
      | (with_reducible exact ih3 _ _ _ _ _ _ _ _)
      | (with_reducible exact ih4 _ _ _ _ _ _ _)
      | (with_reducible exact ih5 _ _ _ _ _ _ _ _)
      | (with_reducible exact impl_AreBadWords.mono _ _)
      | (with_reducible exact impl_BadWordsIn.mono _ _ _)
      | (with_reducible exact impl_CensorText.mono _ _ _)
      | (with_reducible exact impl_HasBadWord.mono _ _ _)
      | (with_reducible exact impl_WordsOf.mono _ _)
      | (with_reducible exact spec_R8Text.mono _ _)
      | (with_reducible exact spec_R8Words.mono _ _)
      | (with_reducible exact LeO.refl _)
      | (with_reducible exact LeO.none _)
      | (with_reducible refine LeO.ite ?_ ?_)
      | (with_reducible refine LeO.bind ?_ (fun _ => ?_))
      | exact ih0 _ _ _ _ _ _
      | exact ih1 _ _ _ _ _ _ _
      | exact ih2 _ _ _ _ _ _ _ _ _
      | exact ih3 _ _ _ _ _ _ _ _
      | exact ih4 _ _ _ _ _ _ _
      | exact ih5 _ _ _ _ _ _ _ _
      | exact impl_AreBadWords.mono _ _
      | exact impl_BadWordsIn.mono _ _ _
      | exact impl_CensorText.mono _ _ _
      | exact impl_HasBadWord.mono _ _ _
      | exact impl_WordsOf.mono _ _
      | exact spec_R8Text.mono _ _
      | exact spec_R8Words.mono _ _
      | exact LeO.none _
      | refine LeO.ite ?_ ?_
      | refine LeO.bind ?_ (fun _ => ?_)
    · intro y0 y1 y2 y3 y4 y5 y6 y7 y8
      unfold laws_FnCensored.l1
      repeat' first
      | (with_reducible exact ih0 _ _ _ _ _ _)
      | (with_reducible exact ih1 _ _ _ _ _ _ _)
      | (with_reducible exact ih2 _ _ _ _ _ _ _ _ _)
      | (with_reducible exact ih3 _ _ _ _ _ _ _ _)
      | (with_reducible exact ih4 _ _ _ _ _ _ _)
      | (with_reducible exact ih5 _ _ _ _ _ _ _ _)
      | (with_reducible exact impl_AreBadWords.mono _ _)
      | (with_reducible exact impl_BadWordsIn.mono _ _ _)
      | (with_reducible exact impl_CensorText.mono _ _ _)
      | (with_reducible exact impl_HasBadWord.mono _ _ _)
      | (with_reducible exact impl_WordsOf.mono _ _)
      | (with_reducible exact spec_R8Text.mono _ _)
      | (with_reducible exact spec_R8Words.mono _ _)
      | (with_reducible exact LeO.refl _)
      | (with_reducible exact LeO.none _)
      | (with_reducible refine LeO.ite ?_ ?_)
      | (with_reducible refine LeO.bind ?_ (fun _ => ?_))
      | exact ih0 _ _ _ _ _ _
      | exact ih1 _ _ _ _ _ _ _
      | exact ih2 _ _ _ _ _ _ _ _ _
      | exact ih3 _ _ _ _ _ _ _ _
      | exact ih4 _ _ _ _ _ _ _
      | exact ih5 _ _ _ _ _ _ _ _
      | exact impl_AreBadWords.mono _ _
      | exact impl_BadWordsIn.mono _ _ _
      | exact impl_CensorText.mono _ _ _
      | exact impl_HasBadWord.mono _ _ _
      | exact impl_WordsOf.mono _ _
      | exact spec_R8Text.mono _ _
      | exact spec_R8Words.mono _ _
      | exact LeO.none _
      | refine LeO.ite ?_ ?_
      | refine LeO.bind ?_ (fun _ => ?_)
    · intro y0 y1 y2 y3 y4 y5 y6 y7
      unfold laws_FnCensored.l2
      repeat' first
      | (with_reducible exact ih0 _ _ _ _ _ _)
      | (with_reducible exact ih1 _ _ _ _ _ _ _)
      | (with_reducible exact ih2 _ _ _ _ _ _ _ _ _)
      | (with_reducible exact ih3 _ _ _ _ _ _ _ _)
      | (with_reducible exact ih4 _ _ _ _ _ _ _)
      | (with_reducible exact ih5 _ _ _ _ _ _ _ _)
      | (with_reducible exact impl_AreBadWords.mono _ _)
      | (with_reducible exact impl_BadWordsIn.mono _ _ _)
      | (with_reducible exact impl_CensorText.mono _ _ _)
      | (with_reducible exact impl_HasBadWord.mono _ _ _)
      | (with_reducible exact impl_WordsOf.mono _ _)
      | (with_reducible exact spec_R8Text.mono _ _)
      | (with_reducible exact spec_R8Words.mono _ _)
      | (with_reducible exact LeO.refl _)
      | (with_reducible exact LeO.none _)
      | (with_reducible refine LeO.ite ?_ ?_)
      | (with_reducible refine LeO.bind ?_ (fun _ => ?_))
      | exact ih0 _ _ _ _ _ _
      | exact ih1 _ _ _ _ _ _ _
      | exact ih2 _ _ _ _ _ _ _ _ _
      | exact ih3 _ _ _ _ _ _ _ _
      | exact ih4 _ _ _ _ _ _ _
      | exact ih5 _ _ _ _ _ _ _ _
      | exact impl_AreBadWords.mono _ _
      | exact impl_BadWordsIn.mono _ _ _
      | exact impl_CensorText.mono _ _ _
      | exact impl_HasBadWord.mono _ _ _
      | exact impl_WordsOf.mono _ _
      | exact spec_R8Text.mono _ _
      | exact spec_R8Words.mono _ _
      | exact LeO.none _
      | refine LeO.ite ?_ ?_
      | refine LeO.bind ?_ (fun _ => ?_)
    · intro y0 y1 y2 y3 y4 y5 y6
      unfold laws_FnCensored.l3
      repeat' first
      | (with_reducible exact ih0 _ _ _ _ _ _)
      | (with_reducible exact ih1 _ _ _ _ _ _ _)
      | (with_reducible exact ih2 _ _ _ _ _ _ _ _ _)
      | (with_reducible exact ih3 _ _ _ _ _ _ _ _)
      | (with_reducible exact ih4 _ _ _ _ _ _ _)
      | (with_reducible exact ih5 _ _ _ _ _ _ _ _)
      | (with_reducible exact impl_AreBadWords.mono _ _)
      | (with_reducible exact impl_BadWordsIn.mono _ _ _)
      | (with_reducible exact impl_CensorText.mono _ _ _)
      | (with_reducible exact impl_HasBadWord.mono _ _ _)
      | (with_reducible exact impl_WordsOf.mono _ _)
      | (with_reducible exact spec_R8Text.mono _ _)
      | (with_reducible exact spec_R8Words.mono _ _)
      | (with_reducible exact LeO.refl _)
      | (with_reducible exact LeO.none _)
      | (with_reducible refine LeO.ite ?_ ?_)
      | (with_reducible refine LeO.bind ?_ (fun _ => ?_))
      | exact ih0 _ _ _ _ _ _
      | exact ih1 _ _ _ _ _ _ _
      | exact ih2 _ _ _ _ _ _ _ _ _
      | exact ih3 _ _ _ _ _ _ _ _
      | exact ih4 _ _ _ _ _ _ _
      | exact ih5 _ _ _ _ _ _ _ _
      | exact impl_AreBadWords.mono _ _
      | exact impl_BadWordsIn.mono _ _ _
      | exact impl_CensorText.mono _ _ _
      | exact impl_HasBadWord.mono _ _ _
      | exact impl_WordsOf.mono _ _
      | exact spec_R8Text.mono _ _
      | exact spec_R8Words.mono _ _
      | exact LeO.none _
      | refine LeO.ite ?_ ?_
      | refine LeO.bind ?_ (fun _ => ?_)
    · intro y0 y1 y2 y3 y4 y5 y6 y7
      unfold laws_FnCensored.l4
      repeat' first
      | (with_reducible exact ih0 _ _ _ _ _ _)
      | (with_reducible exact ih1 _ _ _ _ _ _ _)
      | (with_reducible exact ih2 _ _ _ _ _ _ _ _ _)
      | (with_reducible exact ih3 _ _ _ _ _ _ _ _)
      | (with_reducible exact ih4 _ _ _ _ _ _ _)
      | (with_reducible exact ih5 _ _ _ _ _ _ _ _)
      | (with_reducible exact impl_AreBadWords.mono _ _)
      | (with_reducible exact impl_BadWordsIn.mono _ _ _)
      | (with_reducible exact impl_CensorText.mono _ _ _)
      | (with_reducible exact impl_HasBadWord.mono _ _ _)
      | (with_reducible exact impl_WordsOf.mono _ _)
      | (with_reducible exact spec_R8Text.mono _ _)
      | (with_reducible exact spec_R8Words.mono _ _)
      | (with_reducible exact LeO.refl _)
      | (with_reducible exact LeO.none _)
      | (with_reducible refine LeO.ite ?_ ?_)
      | (with_reducible refine LeO.bind ?_ (fun _ => ?_))
      | exact ih0 _ _ _ _ _ _
      | exact ih1 _ _ _ _ _ _ _
      | exact ih2 _ _ _ _ _ _ _ _ _
      | exact ih3 _ _ _ _ _ _ _ _
      | exact ih4 _ _ _ _ _ _ _
      | exact ih5 _ _ _ _ _ _ _ _
      | exact impl_AreBadWords.mono _ _
      | exact impl_BadWordsIn.mono _ _ _
      | exact impl_CensorText.mono _ _ _
      | exact impl_HasBadWord.mono _ _ _
      | exact impl_WordsOf.mono _ _
      | exact spec_R8Text.mono _ _
      | exact spec_R8Words.mono _ _
      | exact LeO.none _
      | refine LeO.ite ?_ ?_
      | refine LeO.bind ?_ (fun _ => ?_)
theorem laws_FnCensored.mono : ∀ a0 a1 k, LeO (laws_FnCensored.f k a0 a1) (laws_FnCensored.f (k + 1) a0 a1) := by
  intro a0 a1 k
  obtain ⟨ih0, ih1, ih2, ih3, ih4, ih5⟩ := laws_FnCensored.mono_l k
  unfold laws_FnCensored.f
  repeat' first
      | (with_reducible exact ih0 _ _ _ _ _ _)
      | (with_reducible exact ih1 _ _ _ _ _ _ _)
      | (with_reducible exact ih2 _ _ _ _ _ _ _ _ _)
      | (with_reducible exact ih3 _ _ _ _ _ _ _ _)
      | (with_reducible exact ih4 _ _ _ _ _ _ _)
      | (with_reducible exact ih5 _ _ _ _ _ _ _ _)
      | (with_reducible exact impl_AreBadWords.mono _ _)
      | (with_reducible exact impl_BadWordsIn.mono _ _ _)
      | (with_reducible exact impl_CensorText.mono _ _ _)
      | (with_reducible exact impl_HasBadWord.mono _ _ _)
      | (with_reducible exact impl_WordsOf.mono _ _)
      | (with_reducible exact spec_R8Text.mono _ _)
      | (with_reducible exact spec_R8Words.mono _ _)
      | (with_reducible exact LeO.refl _)
      | (with_reducible exact LeO.none _)
      | (with_reducible refine LeO.ite ?_ ?_)
      | (with_reducible refine LeO.bind ?_ (fun _ => ?_))
      | exact ih0 _ _ _ _ _ _
      | exact ih1 _ _ _ _ _ _ _
      | exact ih2 _ _ _ _ _ _ _ _ _
      | exact ih3 _ _ _ _ _ _ _ _
      | exact ih4 _ _ _ _ _ _ _
      | exact ih5 _ _ _ _ _ _ _ _
      | exact impl_AreBadWords.mono _ _
      | exact impl_BadWordsIn.mono _ _ _
      | exact impl_CensorText.mono _ _ _
      | exact impl_HasBadWord.mono _ _ _
      | exact impl_WordsOf.mono _ _
      | exact spec_R8Text.mono _ _
      | exact spec_R8Words.mono _ _
      | exact LeO.none _
      | refine LeO.ite ?_ ?_
      | refine LeO.bind ?_ (fun _ => ?_)
set_option maxHeartbeats 8000000 in
set_option maxRecDepth 100000 in
theorem laws_FnCensored.calls (k : Nat) (A0 : Option Addr) (c0 : Nat) (l0 : List Int) (A1 : Option Addr) (c1 : Nat) (l1 : List Int) (r : Bool) (w : World) (hr0 : Kd.C (Kd.int .u8) w A0 l0.length l0) (hc0 : l0.length ≤ c0) (hr1 : Kd.C (Kd.int .u8) w A1 l1.length l1) (hc1 : l1.length ≤ c1) (h : laws_FnCensored.f k l0 l1 = some r) :
    Calls Try.prog 9 #[.slice A0 l0.length c0, .slice A1 l1.length c1] w fun e w' => e = .returned (.bool r) ∧ Below w.heap.size w w' := by
 have HR0 := Aside0.mk hr0
 have HC0 := Aside0.mk hc0
 clear hr0 hc0
 have HR1 := Aside0.mk hr1
 have HC1 := Aside0.mk hc1
 clear hr1 hc1
 have HB := Aside0.mk (Below.refl w.heap.size w)
 have H : ((laws_r8Long.f l0 l1).bind fun t363 => (if t363 = true then (some true) else ((spec_R8Text.f k l0).bind fun t364 => ((spec_R8Words.f k l1).bind fun t365 => ((impl_BadWordsIn.f k t364 t365).bind fun bt368 => ((impl_CensorText.f k t364 t365).bind fun bt372 => ((impl_WordsOf.f k t364).bind fun bt374 => (if bt368.2 = true then (if bt372.2 = true then (if bt374.2 = true then ((impl_AreBadWords.f k t365).bind fun t378 => (if t378 = true then (if (bt372.1.size : Int) = (t364.size : Int) then ((impl_HasBadWord.f k t364 t365).bind fun t379 => (if (t379 != (decide ((bt368.1.length : Int) > 0))) = true then (laws_FnCensored.j0 k t364 t365 bt368.1 bt372.1 bt374.1 true) else (if (bt368.1.length : Int) = 0 then (laws_FnCensored.j0 k t364 t365 bt368.1 bt372.1 bt374.1 (bt372.1.toList != t364.toList)) else (laws_FnCensored.j0 k t364 t365 bt368.1 bt372.1 bt374.1 false)))) else (laws_FnCensored.j0 k t364 t365 bt368.1 bt372.1 bt374.1 true)) else (laws_FnCensored.j0 k t364 t365 bt368.1 bt372.1 bt374.1 true))) else (laws_FnCensored.j0 k t364 t365 bt368.1 bt372.1 bt374.1 true)) else (laws_FnCensored.j0 k t364 t365 bt368.1 bt372.1 bt374.1 true)) else (laws_FnCensored.j0 k t364 t365 bt368.1 bt372.1 bt374.1 true))))))))) = some r := h
 clear h
 replace H := Option.bind_eq_some_iff.mp H
 obtain ⟨t363, A30, H⟩ := H
 replace H : (if t363 = true then (some true) else ((spec_R8Text.f k l0).bind fun t364 => ((spec_R8Words.f k l1).bind fun t365 => ((impl_BadWordsIn.f k t364 t365).bind fun bt368 => ((impl_CensorText.f k t364 t365).bind fun bt372 => ((impl_WordsOf.f k t364).bind fun bt374 => (if bt368.2 = true then (if bt372.2 = true then (if bt374.2 = true then ((impl_AreBadWords.f k t365).bind fun t378 => (if t378 = true then (if (bt372.1.size : Int) = (t364.size : Int) then ((impl_HasBadWord.f k t364 t365).bind fun t379 => (if (t379 != (decide ((bt368.1.length : Int) > 0))) = true then (laws_FnCensored.j0 k t364 t365 bt368.1 bt372.1 bt374.1 true) else (if (bt368.1.length : Int) = 0 then (laws_FnCensored.j0 k t364 t365 bt368.1 bt372.1 bt374.1 (bt372.1.toList != t364.toList)) else (laws_FnCensored.j0 k t364 t365 bt368.1 bt372.1 bt374.1 false)))) else (laws_FnCensored.j0 k t364 t365 bt368.1 bt372.1 bt374.1 true)) else (laws_FnCensored.j0 k t364 t365 bt368.1 bt372.1 bt374.1 true))) else (laws_FnCensored.j0 k t364 t365 bt368.1 bt372.1 bt374.1 true)) else (laws_FnCensored.j0 k t364 t365 bt368.1 bt372.1 bt374.1 true)) else (laws_FnCensored.j0 k t364 t365 bt368.1 bt372.1 bt374.1 true)))))))) = some r := H
 have A3 := Aside0.mk A30
 clear A30
 by_cases c4 : t363 = true
 {
 subst c4
 have H1 : (some true) = some r := by rw [if_pos rfl] at H; exact H
 clear H
 have H := H1
 clear H1
 obtain rfl := Option.some.inj H
 go_enter Try.func9, Try.ntmps9
 go_wp2_with (first | (go_at_call 38; (with_reducible refine (laws_r8Long.calls _ _ l0 _ _ l1 true _ ?side1 ?side2 ?side3 ?side4 A3.out).mono ?_); (case side1 => repeat (first | exact HR0.out | (with_reducible refine Kd.C_alloc ?_ _) | (with_reducible refine Kd.C_drewN ?_ _) | (with_reducible refine Kd.C_drew ?_))); (case side2 => exact HC0.out); (case side3 => repeat (first | exact HR1.out | (with_reducible refine Kd.C_alloc ?_ _) | (with_reducible refine Kd.C_drewN ?_ _) | (with_reducible refine Kd.C_drew ?_))); (case side4 => exact HC1.out); rintro e w' ⟨rfl, ⟨nd, rfl⟩⟩; (try first | exact ⟨rfl, _, World.drewN_drewN _ _ _⟩ | exact ⟨rfl, _, Eq.trans (World.drewN_drewN _ _ _) (congrArg (World.drewN _) (Nat.add_assoc _ _ _))⟩)))
 repeat (go_quiet (first | (go_at_call 38; (with_reducible refine (laws_r8Long.calls _ _ l0 _ _ l1 true _ ?side1 ?side2 ?side3 ?side4 A3.out).mono ?_); (case side1 => repeat (first | exact HR0.out | (with_reducible refine Kd.C_alloc ?_ _) | (with_reducible refine Kd.C_drewN ?_ _) | (with_reducible refine Kd.C_drew ?_))); (case side2 => exact HC0.out); (case side3 => repeat (first | exact HR1.out | (with_reducible refine Kd.C_alloc ?_ _) | (with_reducible refine Kd.C_drewN ?_ _) | (with_reducible refine Kd.C_drew ?_))); (case side4 => exact HC1.out); rintro e w' ⟨rfl, ⟨nd, rfl⟩⟩; (try first | exact ⟨rfl, _, World.drewN_drewN _ _ _⟩ | exact ⟨rfl, _, Eq.trans (World.drewN_drewN _ _ _) (congrArg (World.drewN _) (Nat.add_assoc _ _ _))⟩))); try go_wp2_with (first | (go_at_call 38; (with_reducible refine (laws_r8Long.calls _ _ l0 _ _ l1 true _ ?side1 ?side2 ?side3 ?side4 A3.out).mono ?_); (case side1 => repeat (first | exact HR0.out | (with_reducible refine Kd.C_alloc ?_ _) | (with_reducible refine Kd.C_drewN ?_ _) | (with_reducible refine Kd.C_drew ?_))); (case side2 => exact HC0.out); (case side3 => repeat (first | exact HR1.out | (with_reducible refine Kd.C_alloc ?_ _) | (with_reducible refine Kd.C_drewN ?_ _) | (with_reducible refine Kd.C_drew ?_))); (case side4 => exact HC1.out); rintro e w' ⟨rfl, ⟨nd, rfl⟩⟩; (try first | exact ⟨rfl, _, World.drewN_drewN _ _ _⟩ | exact ⟨rfl, _, Eq.trans (World.drewN_drewN _ _ _) (congrArg (World.drewN _) (Nat.add_assoc _ _ _))⟩))))
 go_ret
 exact ⟨by first | rfl | (simp [errW_none, errW_some] <;> rfl) | (simp [*, errW_none, errW_some] <;> rfl), by repeat (first | (with_reducible first | exact HB.out | apply below_alloc | apply pw_below_drewN | apply below_drew1) | exact HB.out)⟩}
 {
 replace c4 := Bool.eq_false_iff.mpr c4
 subst c4
 have H1 : ((spec_R8Text.f k l0).bind fun t364 => ((spec_R8Words.f k l1).bind fun t365 => ((impl_BadWordsIn.f k t364 t365).bind fun bt368 => ((impl_CensorText.f k t364 t365).bind fun bt372 => ((impl_WordsOf.f k t364).bind fun bt374 => (if bt368.2 = true then (if bt372.2 = true then (if bt374.2 = true then ((impl_AreBadWords.f k t365).bind fun t378 => (if t378 = true then (if (bt372.1.size : Int) = (t364.size : Int) then ((impl_HasBadWord.f k t364 t365).bind fun t379 => (if (t379 != (decide ((bt368.1.length : Int) > 0))) = true then (laws_FnCensored.j0 k t364 t365 bt368.1 bt372.1 bt374.1 true) else (if (bt368.1.length : Int) = 0 then (laws_FnCensored.j0 k t364 t365 bt368.1 bt372.1 bt374.1 (bt372.1.toList != t364.toList)) else (laws_FnCensored.j0 k t364 t365 bt368.1 bt372.1 bt374.1 false)))) else (laws_FnCensored.j0 k t364 t365 bt368.1 bt372.1 bt374.1 true)) else (laws_FnCensored.j0 k t364 t365 bt368.1 bt372.1 bt374.1 true))) else (laws_FnCensored.j0 k t364 t365 bt368.1 bt372.1 bt374.1 true)) else (laws_FnCensored.j0 k t364 t365 bt368.1 bt372.1 bt374.1 true)) else (laws_FnCensored.j0 k t364 t365 bt368.1 bt372.1 bt374.1 true))))))) = some r := by rw [if_neg (show ¬ (false = true) by decide)] at H; exact H
 clear H
 have H := H1
 clear H1
 replace H := Option.bind_eq_some_iff.mp H
 obtain ⟨t364, A50, H⟩ := H
 replace H : ((spec_R8Words.f k l1).bind fun t365 => ((impl_BadWordsIn.f k t364 t365).bind fun bt368 => ((impl_CensorText.f k t364 t365).bind fun bt372 => ((impl_WordsOf.f k t364).bind fun bt374 => (if bt368.2 = true then (if bt372.2 = true then (if bt374.2 = true then ((impl_AreBadWords.f k t365).bind fun t378 => (if t378 = true then (if (bt372.1.size : Int) = (t364.size : Int) then ((impl_HasBadWord.f k t364 t365).bind fun t379 => (if (t379 != (decide ((bt368.1.length : Int) > 0))) = true then (laws_FnCensored.j0 k t364 t365 bt368.1 bt372.1 bt374.1 true) else (if (bt368.1.length : Int) = 0 then (laws_FnCensored.j0 k t364 t365 bt368.1 bt372.1 bt374.1 (bt372.1.toList != t364.toList)) else (laws_FnCensored.j0 k t364 t365 bt368.1 bt372.1 bt374.1 false)))) else (laws_FnCensored.j0 k t364 t365 bt368.1 bt372.1 bt374.1 true)) else (laws_FnCensored.j0 k t364 t365 bt368.1 bt372.1 bt374.1 true))) else (laws_FnCensored.j0 k t364 t365 bt368.1 bt372.1 bt374.1 true)) else (laws_FnCensored.j0 k t364 t365 bt368.1 bt372.1 bt374.1 true)) else (laws_FnCensored.j0 k t364 t365 bt368.1 bt372.1 bt374.1 true)))))) = some r := H
 have A5 := Aside0.mk A50
 clear A50
 replace H := Option.bind_eq_some_iff.mp H
 obtain ⟨t365, A60, H⟩ := H
 replace H : ((impl_BadWordsIn.f k t364 t365).bind fun bt368 => ((impl_CensorText.f k t364 t365).bind fun bt372 => ((impl_WordsOf.f k t364).bind fun bt374 => (if bt368.2 = true then (if bt372.2 = true then (if bt374.2 = true then ((impl_AreBadWords.f k t365).bind fun t378 => (if t378 = true then (if (bt372.1.size : Int) = (t364.size : Int) then ((impl_HasBadWord.f k t364 t365).bind fun t379 => (if (t379 != (decide ((bt368.1.length : Int) > 0))) = true then (laws_FnCensored.j0 k t364 t365 bt368.1 bt372.1 bt374.1 true) else (if (bt368.1.length : Int) = 0 then (laws_FnCensored.j0 k t364 t365 bt368.1 bt372.1 bt374.1 (bt372.1.toList != t364.toList)) else (laws_FnCensored.j0 k t364 t365 bt368.1 bt372.1 bt374.1 false)))) else (laws_FnCensored.j0 k t364 t365 bt368.1 bt372.1 bt374.1 true)) else (laws_FnCensored.j0 k t364 t365 bt368.1 bt372.1 bt374.1 true))) else (laws_FnCensored.j0 k t364 t365 bt368.1 bt372.1 bt374.1 true)) else (laws_FnCensored.j0 k t364 t365 bt368.1 bt372.1 bt374.1 true)) else (laws_FnCensored.j0 k t364 t365 bt368.1 bt372.1 bt374.1 true))))) = some r := H
 have A6 := Aside0.mk A60
 clear A60
 replace H := Option.bind_eq_some_iff.mp H
 obtain ⟨⟨t368, t369⟩, A70, H⟩ := H
 replace H : ((impl_CensorText.f k t364 t365).bind fun bt372 => ((impl_WordsOf.f k t364).bind fun bt374 => (if t369 = true then (if bt372.2 = true then (if bt374.2 = true then ((impl_AreBadWords.f k t365).bind fun t378 => (if t378 = true then (if (bt372.1.size : Int) = (t364.size : Int) then ((impl_HasBadWord.f k t364 t365).bind fun t379 => (if (t379 != (decide ((t368.length : Int) > 0))) = true then (laws_FnCensored.j0 k t364 t365 t368 bt372.1 bt374.1 true) else (if (t368.length : Int) = 0 then (laws_FnCensored.j0 k t364 t365 t368 bt372.1 bt374.1 (bt372.1.toList != t364.toList)) else (laws_FnCensored.j0 k t364 t365 t368 bt372.1 bt374.1 false)))) else (laws_FnCensored.j0 k t364 t365 t368 bt372.1 bt374.1 true)) else (laws_FnCensored.j0 k t364 t365 t368 bt372.1 bt374.1 true))) else (laws_FnCensored.j0 k t364 t365 t368 bt372.1 bt374.1 true)) else (laws_FnCensored.j0 k t364 t365 t368 bt372.1 bt374.1 true)) else (laws_FnCensored.j0 k t364 t365 t368 bt372.1 bt374.1 true)))) = some r := H
 have A7 := Aside0.mk A70
 clear A70
 replace H := Option.bind_eq_some_iff.mp H
 obtain ⟨⟨t372, t373⟩, A80, H⟩ := H
 replace H : ((impl_WordsOf.f k t364).bind fun bt374 => (if t369 = true then (if t373 = true then (if bt374.2 = true then ((impl_AreBadWords.f k t365).bind fun t378 => (if t378 = true then (if (t372.size : Int) = (t364.size : Int) then ((impl_HasBadWord.f k t364 t365).bind fun t379 => (if (t379 != (decide ((t368.length : Int) > 0))) = true then (laws_FnCensored.j0 k t364 t365 t368 t372 bt374.1 true) else (if (t368.length : Int) = 0 then (laws_FnCensored.j0 k t364 t365 t368 t372 bt374.1 (t372.toList != t364.toList)) else (laws_FnCensored.j0 k t364 t365 t368 t372 bt374.1 false)))) else (laws_FnCensored.j0 k t364 t365 t368 t372 bt374.1 true)) else (laws_FnCensored.j0 k t364 t365 t368 t372 bt374.1 true))) else (laws_FnCensored.j0 k t364 t365 t368 t372 bt374.1 true)) else (laws_FnCensored.j0 k t364 t365 t368 t372 bt374.1 true)) else (laws_FnCensored.j0 k t364 t365 t368 t372 bt374.1 true))) = some r := H
 have A8 := Aside0.mk A80
 clear A80
 replace H := Option.bind_eq_some_iff.mp H
 obtain ⟨⟨t374, t375⟩, A90, H⟩ := H
 replace H : (if t369 = true then (if t373 = true then (if t375 = true then ((impl_AreBadWords.f k t365).bind fun t378 => (if t378 = true then (if (t372.size : Int) = (t364.size : Int) then ((impl_HasBadWord.f k t364 t365).bind fun t379 => (if (t379 != (decide ((t368.length : Int) > 0))) = true then (laws_FnCensored.j0 k t364 t365 t368 t372 t374 true) else (if (t368.length : Int) = 0 then (laws_FnCensored.j0 k t364 t365 t368 t372 t374 (t372.toList != t364.toList)) else (laws_FnCensored.j0 k t364 t365 t368 t372 t374 false)))) else (laws_FnCensored.j0 k t364 t365 t368 t372 t374 true)) else (laws_FnCensored.j0 k t364 t365 t368 t372 t374 true))) else (laws_FnCensored.j0 k t364 t365 t368 t372 t374 true)) else (laws_FnCensored.j0 k t364 t365 t368 t372 t374 true)) else (laws_FnCensored.j0 k t364 t365 t368 t372 t374 true)) = some r := H
 have A9 := Aside0.mk A90
 clear A90
 have HC10 := Aside0.mk H
 clear H
 go_enter Try.func9, Try.ntmps9
 go_upto_region 8 with (first | (go_at_call 38; (with_reducible refine (laws_r8Long.calls _ _ l0 _ _ l1 false _ ?side1 ?side2 ?side3 ?side4 A3.out).mono ?_); (case side1 => repeat (first | exact HR0.out | (with_reducible refine Kd.C_alloc ?_ _) | (with_reducible refine Kd.C_drewN ?_ _) | (with_reducible refine Kd.C_drew ?_))); (case side2 => exact HC0.out); (case side3 => repeat (first | exact HR1.out | (with_reducible refine Kd.C_alloc ?_ _) | (with_reducible refine Kd.C_drewN ?_ _) | (with_reducible refine Kd.C_drew ?_))); (case side4 => exact HC1.out); rintro e w' ⟨rfl, ⟨nd, rfl⟩⟩; (try first | exact ⟨rfl, _, World.drewN_drewN _ _ _⟩ | exact ⟨rfl, _, Eq.trans (World.drewN_drewN _ _ _) (congrArg (World.drewN _) (Nat.add_assoc _ _ _))⟩)) | (go_at_call 45; (with_reducible refine (spec_R8Text.calls k _ _ l0 t364 _ ?side1 ?side2 A5.out).mono ?_); (case side1 => repeat (first | exact HR0.out | (with_reducible refine Kd.C_alloc ?_ _) | (with_reducible refine Kd.C_drewN ?_ _) | (with_reducible refine Kd.C_drew ?_))); (case side2 => exact HC0.out); rintro e w11 ⟨rfl, hb⟩; replace HB := Aside0.mk (below_step (y1_ HB.out) hb); (try clear hb); (try clear hb2); (try clear hk); (try clear hi)) | (go_at_call 46; (with_reducible refine (spec_R8Words.calls k _ _ l1 t365 _ ?side1 ?side2 A6.out).mono ?_); (case side1 => exact y2_ (Kd.C_below HR1.out HB.out)); (case side2 => exact HC1.out); rintro e w12 ⟨v366, rfl, ho0, hb⟩; have HO367 := Aside0.mk (Kd.R_lower ho0 (below_size (y1_ HB.out))); replace HB := Aside0.mk (below_step (y1_ HB.out) hb); (try clear hb); (try clear hb2); (try clear hk); (try clear hi); (try clear ho0); obtain ⟨Ao13, co13, eo13⟩ := Kd.R_slice HO367.out; subst eo13) | (go_at_call 47; (with_reducible refine (impl_BadWordsIn.calls k t364 _ _ t365 t368 t369 _ ?side1 ?side2 A7.out).mono ?_); (case side1 => exact y2_ (Kd.R_reads' HO367.out).2.2); (case side2 => exact (Kd.R_reads' HO367.out).2.1); rintro e w14 ⟨v370, rfl, ho0, hb⟩; have n0_ := Aside0.mk (Kd.R_elder' (b2_ HO367.out) (Kd.R_base ho0) hb); have n1_ := Aside0.mk (Kd.R_lower (Kd.R_new' ho0 (Kd.R_lt (b2_ HO367.out))) (below_size (y1_ HB.out))); have n2_ := Aside0.mk (below_step (y1_ HB.out) hb); clear HO367; clear HB; have HO367 := n0_; have HO371 := n1_; have HB := n2_; clear n0_ n1_ n2_; (try clear hb); (try clear hb2); (try clear hk); (try clear hi); (try clear ho0)) | (go_at_call 37; (with_reducible refine (impl_CensorText.calls k t364 _ _ t365 t372 t373 _ ?side1 ?side2 A8.out).mono ?_); (case side1 => exact y2_ (Kd.R_reads' HO367.out).2.2); (case side2 => exact (Kd.R_reads' HO367.out).2.1); rintro e w15 ⟨rfl, hb⟩; replace HO367 := r1_ HO367 hb; replace HO371 := r1_ HO371 hb; replace HB := Aside0.mk (below_step (y1_ HB.out) hb); (try clear hb); (try clear hb2); (try clear hk); (try clear hi)) | (go_at_call 48; (with_reducible refine (impl_WordsOf.calls k t364 t374 t375 _ A9.out).mono ?_); rintro e w16 ⟨v376, rfl, ho0, hb⟩; have n0_ := Aside0.mk (Kd.R_elder' (b2_ HO367.out) (Kd.R_base ho0) hb); have n1_ := Aside0.mk (Kd.R_elder' (b2_ HO371.out) (Kd.R_base ho0) hb); have n2_ := Aside0.mk (Kd.R_lower (Kd.R_new' (Kd.R_new' ho0 (Kd.R_lt (b2_ HO367.out))) (Kd.R_lt (b2_ HO371.out))) (below_size (y1_ HB.out))); have n3_ := Aside0.mk (below_step (y1_ HB.out) hb); clear HO367; clear HO371; clear HB; have HO367 := n0_; have HO371 := n1_; have HO377 := n2_; have HB := n3_; clear n0_ n1_ n2_ n3_; (try clear hb); (try clear hb2); (try clear hk); (try clear hi); (try clear ho0)))
 repeat (go_quiet (first | (go_at_call 38; (with_reducible refine (laws_r8Long.calls _ _ l0 _ _ l1 false _ ?side1 ?side2 ?side3 ?side4 A3.out).mono ?_); (case side1 => repeat (first | exact HR0.out | (with_reducible refine Kd.C_alloc ?_ _) | (with_reducible refine Kd.C_drewN ?_ _) | (with_reducible refine Kd.C_drew ?_))); (case side2 => exact HC0.out); (case side3 => repeat (first | exact HR1.out | (with_reducible refine Kd.C_alloc ?_ _) | (with_reducible refine Kd.C_drewN ?_ _) | (with_reducible refine Kd.C_drew ?_))); (case side4 => exact HC1.out); rintro e w' ⟨rfl, ⟨nd, rfl⟩⟩; (try first | exact ⟨rfl, _, World.drewN_drewN _ _ _⟩ | exact ⟨rfl, _, Eq.trans (World.drewN_drewN _ _ _) (congrArg (World.drewN _) (Nat.add_assoc _ _ _))⟩)) | (go_at_call 45; (with_reducible refine (spec_R8Text.calls k _ _ l0 t364 _ ?side1 ?side2 A5.out).mono ?_); (case side1 => repeat (first | exact HR0.out | (with_reducible refine Kd.C_alloc ?_ _) | (with_reducible refine Kd.C_drewN ?_ _) | (with_reducible refine Kd.C_drew ?_))); (case side2 => exact HC0.out); rintro e w11 ⟨rfl, hb⟩; replace HB := Aside0.mk (below_step (y1_ HB.out) hb); (try clear hb); (try clear hb2); (try clear hk); (try clear hi)) | (go_at_call 46; (with_reducible refine (spec_R8Words.calls k _ _ l1 t365 _ ?side1 ?side2 A6.out).mono ?_); (case side1 => exact y2_ (Kd.C_below HR1.out HB.out)); (case side2 => exact HC1.out); rintro e w12 ⟨v366, rfl, ho0, hb⟩; have HO367 := Aside0.mk (Kd.R_lower ho0 (below_size (y1_ HB.out))); replace HB := Aside0.mk (below_step (y1_ HB.out) hb); (try clear hb); (try clear hb2); (try clear hk); (try clear hi); (try clear ho0); obtain ⟨Ao13, co13, eo13⟩ := Kd.R_slice HO367.out; subst eo13) | (go_at_call 47; (with_reducible refine (impl_BadWordsIn.calls k t364 _ _ t365 t368 t369 _ ?side1 ?side2 A7.out).mono ?_); (case side1 => exact y2_ (Kd.R_reads' HO367.out).2.2); (case side2 => exact (Kd.R_reads' HO367.out).2.1); rintro e w14 ⟨v370, rfl, ho0, hb⟩; have n0_ := Aside0.mk (Kd.R_elder' (b2_ HO367.out) (Kd.R_base ho0) hb); have n1_ := Aside0.mk (Kd.R_lower (Kd.R_new' ho0 (Kd.R_lt (b2_ HO367.out))) (below_size (y1_ HB.out))); have n2_ := Aside0.mk (below_step (y1_ HB.out) hb); clear HO367; clear HB; have HO367 := n0_; have HO371 := n1_; have HB := n2_; clear n0_ n1_ n2_; (try clear hb); (try clear hb2); (try clear hk); (try clear hi); (try clear ho0)) | (go_at_call 37; (with_reducible refine (impl_CensorText.calls k t364 _ _ t365 t372 t373 _ ?side1 ?side2 A8.out).mono ?_); (case side1 => exact y2_ (Kd.R_reads' HO367.out).2.2); (case side2 => exact (Kd.R_reads' HO367.out).2.1); rintro e w15 ⟨rfl, hb⟩; replace HO367 := r1_ HO367 hb; replace HO371 := r1_ HO371 hb; replace HB := Aside0.mk (below_step (y1_ HB.out) hb); (try clear hb); (try clear hb2); (try clear hk); (try clear hi)) | (go_at_call 48; (with_reducible refine (impl_WordsOf.calls k t364 t374 t375 _ A9.out).mono ?_); rintro e w16 ⟨v376, rfl, ho0, hb⟩; have n0_ := Aside0.mk (Kd.R_elder' (b2_ HO367.out) (Kd.R_base ho0) hb); have n1_ := Aside0.mk (Kd.R_elder' (b2_ HO371.out) (Kd.R_base ho0) hb); have n2_ := Aside0.mk (Kd.R_lower (Kd.R_new' (Kd.R_new' ho0 (Kd.R_lt (b2_ HO367.out))) (Kd.R_lt (b2_ HO371.out))) (below_size (y1_ HB.out))); have n3_ := Aside0.mk (below_step (y1_ HB.out) hb); clear HO367; clear HO371; clear HB; have HO367 := n0_; have HO371 := n1_; have HO377 := n2_; have HB := n3_; clear n0_ n1_ n2_ n3_; (try clear hb); (try clear hb2); (try clear hk); (try clear hi); (try clear ho0))); go_upto_region 8 with (first | (go_at_call 38; (with_reducible refine (laws_r8Long.calls _ _ l0 _ _ l1 false _ ?side1 ?side2 ?side3 ?side4 A3.out).mono ?_); (case side1 => repeat (first | exact HR0.out | (with_reducible refine Kd.C_alloc ?_ _) | (with_reducible refine Kd.C_drewN ?_ _) | (with_reducible refine Kd.C_drew ?_))); (case side2 => exact HC0.out); (case side3 => repeat (first | exact HR1.out | (with_reducible refine Kd.C_alloc ?_ _) | (with_reducible refine Kd.C_drewN ?_ _) | (with_reducible refine Kd.C_drew ?_))); (case side4 => exact HC1.out); rintro e w' ⟨rfl, ⟨nd, rfl⟩⟩; (try first | exact ⟨rfl, _, World.drewN_drewN _ _ _⟩ | exact ⟨rfl, _, Eq.trans (World.drewN_drewN _ _ _) (congrArg (World.drewN _) (Nat.add_assoc _ _ _))⟩)) | (go_at_call 45; (with_reducible refine (spec_R8Text.calls k _ _ l0 t364 _ ?side1 ?side2 A5.out).mono ?_); (case side1 => repeat (first | exact HR0.out | (with_reducible refine Kd.C_alloc ?_ _) | (with_reducible refine Kd.C_drewN ?_ _) | (with_reducible refine Kd.C_drew ?_))); (case side2 => exact HC0.out); rintro e w11 ⟨rfl, hb⟩; replace HB := Aside0.mk (below_step (y1_ HB.out) hb); (try clear hb); (try clear hb2); (try clear hk); (try clear hi)) | (go_at_call 46; (with_reducible refine (spec_R8Words.calls k _ _ l1 t365 _ ?side1 ?side2 A6.out).mono ?_); (case side1 => exact y2_ (Kd.C_below HR1.out HB.out)); (case side2 => exact HC1.out); rintro e w12 ⟨v366, rfl, ho0, hb⟩; have HO367 := Aside0.mk (Kd.R_lower ho0 (below_size (y1_ HB.out))); replace HB := Aside0.mk (below_step (y1_ HB.out) hb); (try clear hb); (try clear hb2); (try clear hk); (try clear hi); (try clear ho0); obtain ⟨Ao13, co13, eo13⟩ := Kd.R_slice HO367.out; subst eo13) | (go_at_call 47; (with_reducible refine (impl_BadWordsIn.calls k t364 _ _ t365 t368 t369 _ ?side1 ?side2 A7.out).mono ?_); (case side1 => exact y2_ (Kd.R_reads' HO367.out).2.2); (case side2 => exact (Kd.R_reads' HO367.out).2.1); rintro e w14 ⟨v370, rfl, ho0, hb⟩; have n0_ := Aside0.mk (Kd.R_elder' (b2_ HO367.out) (Kd.R_base ho0) hb); have n1_ := Aside0.mk (Kd.R_lower (Kd.R_new' ho0 (Kd.R_lt (b2_ HO367.out))) (below_size (y1_ HB.out))); have n2_ := Aside0.mk (below_step (y1_ HB.out) hb); clear HO367; clear HB; have HO367 := n0_; have HO371 := n1_; have HB := n2_; clear n0_ n1_ n2_; (try clear hb); (try clear hb2); (try clear hk); (try clear hi); (try clear ho0)) | (go_at_call 37; (with_reducible refine (impl_CensorText.calls k t364 _ _ t365 t372 t373 _ ?side1 ?side2 A8.out).mono ?_); (case side1 => exact y2_ (Kd.R_reads' HO367.out).2.2); (case side2 => exact (Kd.R_reads' HO367.out).2.1); rintro e w15 ⟨rfl, hb⟩; replace HO367 := r1_ HO367 hb; replace HO371 := r1_ HO371 hb; replace HB := Aside0.mk (below_step (y1_ HB.out) hb); (try clear hb); (try clear hb2); (try clear hk); (try clear hi)) | (go_at_call 48; (with_reducible refine (impl_WordsOf.calls k t364 t374 t375 _ A9.out).mono ?_); rintro e w16 ⟨v376, rfl, ho0, hb⟩; have n0_ := Aside0.mk (Kd.R_elder' (b2_ HO367.out) (Kd.R_base ho0) hb); have n1_ := Aside0.mk (Kd.R_elder' (b2_ HO371.out) (Kd.R_base ho0) hb); have n2_ := Aside0.mk (Kd.R_lower (Kd.R_new' (Kd.R_new' ho0 (Kd.R_lt (b2_ HO367.out))) (Kd.R_lt (b2_ HO371.out))) (below_size (y1_ HB.out))); have n3_ := Aside0.mk (below_step (y1_ HB.out) hb); clear HO367; clear HO371; clear HB; have HO367 := n0_; have HO371 := n1_; have HO377 := n2_; have HB := n3_; clear n0_ n1_ n2_ n3_; (try clear hb); (try clear hb2); (try clear hk); (try clear hi); (try clear ho0))))
 (try simp only [Act.put, List.setIfInBounds_toArray, List.set_cons_zero, List.set_cons_succ])
 go_cut [86] (fun v86 wc => ∃ (kq : Nat) (x86_9 : Bool), v86 = .bool x86_9 ∧ Aside0 (laws_FnCensored.j0 kq t364 t365 t368 t372 t374 x86_9 = some r) ∧ Aside0 (kq ≤ k) ∧ Aside0 (Kd.R Kd.string 9 wc w.heap.size (fun k_ => some k_ ≠ (v370 : Value).ownBlock ∧ some k_ ≠ (v376 : Value).ownBlock) (.slice Ao13 t365.length co13) t365) ∧ Aside0 (Kd.R Kd.string 9 wc w.heap.size (fun k_ => some k_ ≠ ((.slice Ao13 t365.length co13) : Value).ownBlock ∧ some k_ ≠ (v376 : Value).ownBlock) v370 t368) ∧ Aside0 (Kd.R Kd.string 9 wc w.heap.size (fun k_ => some k_ ≠ ((.slice Ao13 t365.length co13) : Value).ownBlock ∧ some k_ ≠ (v370 : Value).ownBlock) v376 t374) ∧ Aside0 (Below w.heap.size w wc))
 case first =>
  skip
  {
 have H := HC10.out
 clear HC10
 by_cases c17 : t369 = true
 {
 subst c17
 have H1 : (if t373 = true then (if t375 = true then ((impl_AreBadWords.f k t365).bind fun t378 => (if t378 = true then (if (t372.size : Int) = (t364.size : Int) then ((impl_HasBadWord.f k t364 t365).bind fun t379 => (if (t379 != (decide ((t368.length : Int) > 0))) = true then (laws_FnCensored.j0 k t364 t365 t368 t372 t374 true) else (if (t368.length : Int) = 0 then (laws_FnCensored.j0 k t364 t365 t368 t372 t374 (t372.toList != t364.toList)) else (laws_FnCensored.j0 k t364 t365 t368 t372 t374 false)))) else (laws_FnCensored.j0 k t364 t365 t368 t372 t374 true)) else (laws_FnCensored.j0 k t364 t365 t368 t372 t374 true))) else (laws_FnCensored.j0 k t364 t365 t368 t372 t374 true)) else (laws_FnCensored.j0 k t364 t365 t368 t372 t374 true)) = some r := by rw [if_pos rfl] at H; exact H
 clear H
 have H := H1
 clear H1
 by_cases c18 : t373 = true
 {
 subst c18
 have H1 : (if t375 = true then ((impl_AreBadWords.f k t365).bind fun t378 => (if t378 = true then (if (t372.size : Int) = (t364.size : Int) then ((impl_HasBadWord.f k t364 t365).bind fun t379 => (if (t379 != (decide ((t368.length : Int) > 0))) = true then (laws_FnCensored.j0 k t364 t365 t368 t372 t374 true) else (if (t368.length : Int) = 0 then (laws_FnCensored.j0 k t364 t365 t368 t372 t374 (t372.toList != t364.toList)) else (laws_FnCensored.j0 k t364 t365 t368 t372 t374 false)))) else (laws_FnCensored.j0 k t364 t365 t368 t372 t374 true)) else (laws_FnCensored.j0 k t364 t365 t368 t372 t374 true))) else (laws_FnCensored.j0 k t364 t365 t368 t372 t374 true)) = some r := by rw [if_pos rfl] at H; exact H
 clear H
 have H := H1
 clear H1
 by_cases c19 : t375 = true
 {
 subst c19
 have H1 : ((impl_AreBadWords.f k t365).bind fun t378 => (if t378 = true then (if (t372.size : Int) = (t364.size : Int) then ((impl_HasBadWord.f k t364 t365).bind fun t379 => (if (t379 != (decide ((t368.length : Int) > 0))) = true then (laws_FnCensored.j0 k t364 t365 t368 t372 t374 true) else (if (t368.length : Int) = 0 then (laws_FnCensored.j0 k t364 t365 t368 t372 t374 (t372.toList != t364.toList)) else (laws_FnCensored.j0 k t364 t365 t368 t372 t374 false)))) else (laws_FnCensored.j0 k t364 t365 t368 t372 t374 true)) else (laws_FnCensored.j0 k t364 t365 t368 t372 t374 true))) = some r := by rw [if_pos rfl] at H; exact H
 clear H
 have H := H1
 clear H1
 replace H := Option.bind_eq_some_iff.mp H
 obtain ⟨t378, A200, H⟩ := H
 replace H : (if t378 = true then (if (t372.size : Int) = (t364.size : Int) then ((impl_HasBadWord.f k t364 t365).bind fun t379 => (if (t379 != (decide ((t368.length : Int) > 0))) = true then (laws_FnCensored.j0 k t364 t365 t368 t372 t374 true) else (if (t368.length : Int) = 0 then (laws_FnCensored.j0 k t364 t365 t368 t372 t374 (t372.toList != t364.toList)) else (laws_FnCensored.j0 k t364 t365 t368 t372 t374 false)))) else (laws_FnCensored.j0 k t364 t365 t368 t372 t374 true)) else (laws_FnCensored.j0 k t364 t365 t368 t372 t374 true)) = some r := H
 have A20 := Aside0.mk A200
 clear A200
 by_cases c21 : t378 = true
 {
 subst c21
 have H1 : (if (t372.size : Int) = (t364.size : Int) then ((impl_HasBadWord.f k t364 t365).bind fun t379 => (if (t379 != (decide ((t368.length : Int) > 0))) = true then (laws_FnCensored.j0 k t364 t365 t368 t372 t374 true) else (if (t368.length : Int) = 0 then (laws_FnCensored.j0 k t364 t365 t368 t372 t374 (t372.toList != t364.toList)) else (laws_FnCensored.j0 k t364 t365 t368 t372 t374 false)))) else (laws_FnCensored.j0 k t364 t365 t368 t372 t374 true)) = some r := by rw [if_pos rfl] at H; exact H
 clear H
 have H := H1
 clear H1
 by_cases c22 : (t372.size : Int) = (t364.size : Int)
 {
 rw [if_pos c22] at H
 have c22b0 : ((t372.size : Int) == (t364.size : Int)) = true := beq_iff_eq.mpr c22
 have c22b1 : ((t372.size : Int) != (t364.size : Int)) = false := bne_eq_false_iff_eq.mpr c22
 have c22b2 : (t372.size == t364.size) = true := by first | simpa using c22 | (simp at c22 ⊢; omega)
 clear c22
 (first | rw [c22b0] | (simp only [i64_w, i32_w]; rw [c22b0]) | skip)
 replace H := Option.bind_eq_some_iff.mp H
 obtain ⟨t379, A230, H⟩ := H
 replace H : (if (t379 != (decide ((t368.length : Int) > 0))) = true then (laws_FnCensored.j0 k t364 t365 t368 t372 t374 true) else (if (t368.length : Int) = 0 then (laws_FnCensored.j0 k t364 t365 t368 t372 t374 (t372.toList != t364.toList)) else (laws_FnCensored.j0 k t364 t365 t368 t372 t374 false))) = some r := H
 have A23 := Aside0.mk A230
 clear A230
 by_cases c24 : (t379 != (decide ((t368.length : Int) > 0))) = true
 {
 rw [if_pos c24] at H
 have c24b0 : (t379 != (decide ((t368.length : Int) > 0))) = true := c24
 (try (have c24b4 := c24b0; simp at c24b4))
 (try (have c24b1 : decide (t379 = (decide ((t368.length : Int) > 0))) = false := by simpa using c24))
 (try (have c24b2 : (t379 == (decide ((t368.length : Int) > 0))) = false := by simpa using c24))
 (try (have c24b3 : ¬ (t379 = (decide ((t368.length : Int) > 0))) := by simpa using c24))
 clear c24
 have H' := Aside0.mk H
 clear H
 go_wp2_with (first | (go_at_call 16; (with_reducible refine (impl_AreBadWords.calls k _ _ t365 true _ ?side1 ?side2 A20.out).mono ?_); (case side1 => exact y2_ (Kd.R_reads' HO367.out).2.2); (case side2 => exact (Kd.R_reads' HO367.out).2.1); rintro e w' ⟨rfl, ⟨nd, rfl⟩⟩; (try first | exact ⟨rfl, _, World.drewN_drewN _ _ _⟩ | exact ⟨rfl, _, Eq.trans (World.drewN_drewN _ _ _) (congrArg (World.drewN _) (Nat.add_assoc _ _ _))⟩)) | (go_at_call 49; (with_reducible refine (impl_HasBadWord.calls k t364 _ _ t365 t379 _ ?side1 ?side2 A23.out).mono ?_); (case side1 => exact y2_ (Kd.R_reads' HO367.out).2.2); (case side2 => exact (Kd.R_reads' HO367.out).2.1); rintro e w25 ⟨rfl, hb⟩; replace HO367 := r1_ HO367 hb; replace HO371 := r1_ HO371 hb; replace HO377 := r1_ HO377 hb; replace HB := Aside0.mk (below_step (y1_ HB.out) hb); (try clear hb); (try clear hb2); (try clear hk); (try clear hi); obtain ⟨Ao26, co26, eo26⟩ := Kd.R_slice HO371.out; subst eo26))
 repeat (go_quiet (first | (go_at_call 16; (with_reducible refine (impl_AreBadWords.calls k _ _ t365 true _ ?side1 ?side2 A20.out).mono ?_); (case side1 => exact y2_ (Kd.R_reads' HO367.out).2.2); (case side2 => exact (Kd.R_reads' HO367.out).2.1); rintro e w' ⟨rfl, ⟨nd, rfl⟩⟩; (try first | exact ⟨rfl, _, World.drewN_drewN _ _ _⟩ | exact ⟨rfl, _, Eq.trans (World.drewN_drewN _ _ _) (congrArg (World.drewN _) (Nat.add_assoc _ _ _))⟩)) | (go_at_call 49; (with_reducible refine (impl_HasBadWord.calls k t364 _ _ t365 t379 _ ?side1 ?side2 A23.out).mono ?_); (case side1 => exact y2_ (Kd.R_reads' HO367.out).2.2); (case side2 => exact (Kd.R_reads' HO367.out).2.1); rintro e w25 ⟨rfl, hb⟩; replace HO367 := r1_ HO367 hb; replace HO371 := r1_ HO371 hb; replace HO377 := r1_ HO377 hb; replace HB := Aside0.mk (below_step (y1_ HB.out) hb); (try clear hb); (try clear hb2); (try clear hk); (try clear hi); obtain ⟨Ao26, co26, eo26⟩ := Kd.R_slice HO371.out; subst eo26)); try go_wp2_with (first | (go_at_call 16; (with_reducible refine (impl_AreBadWords.calls k _ _ t365 true _ ?side1 ?side2 A20.out).mono ?_); (case side1 => exact y2_ (Kd.R_reads' HO367.out).2.2); (case side2 => exact (Kd.R_reads' HO367.out).2.1); rintro e w' ⟨rfl, ⟨nd, rfl⟩⟩; (try first | exact ⟨rfl, _, World.drewN_drewN _ _ _⟩ | exact ⟨rfl, _, Eq.trans (World.drewN_drewN _ _ _) (congrArg (World.drewN _) (Nat.add_assoc _ _ _))⟩)) | (go_at_call 49; (with_reducible refine (impl_HasBadWord.calls k t364 _ _ t365 t379 _ ?side1 ?side2 A23.out).mono ?_); (case side1 => exact y2_ (Kd.R_reads' HO367.out).2.2); (case side2 => exact (Kd.R_reads' HO367.out).2.1); rintro e w25 ⟨rfl, hb⟩; replace HO367 := r1_ HO367 hb; replace HO371 := r1_ HO371 hb; replace HO377 := r1_ HO377 hb; replace HB := Aside0.mk (below_step (y1_ HB.out) hb); (try clear hb); (try clear hb2); (try clear hk); (try clear hi); obtain ⟨Ao26, co26, eo26⟩ := Kd.R_slice HO371.out; subst eo26)))
 go_meet
 case rel => exact ⟨_, (true), s1_, H', ⟨by first | omega | exact Nat.le_refl _⟩, ⟨by (with_reducible repeat (first | apply Kd.R_alloc | apply Kd.R_drewN | apply Kd.R_drew)); exact Kd.R_mono HO367.out (fun _ hk => ⟨hk.1.2, hk.2⟩)⟩, ⟨by (with_reducible repeat (first | apply Kd.R_alloc | apply Kd.R_drewN | apply Kd.R_drew)); exact Kd.R_mono HO371.out (fun _ hk => ⟨hk.1.2, hk.2⟩)⟩, ⟨by (with_reducible repeat (first | apply Kd.R_alloc | apply Kd.R_drewN | apply Kd.R_drew)); exact Kd.R_mono HO377.out (fun _ hk => ⟨hk.1.2, hk.2⟩)⟩, ⟨by repeat (first | (with_reducible first | exact HB.out | apply below_alloc | apply pw_below_drewN | apply below_drew1) | exact HB.out)⟩⟩}
 {
 rw [if_neg c24] at H
 have c24b0 : (t379 != (decide ((t368.length : Int) > 0))) = false := by simpa using c24
 (try (have c24b4 := c24b0; simp at c24b4))
 (try (have c24b1 : decide (t379 = (decide ((t368.length : Int) > 0))) = true := by simpa using c24))
 (try (have c24b2 : (t379 == (decide ((t368.length : Int) > 0))) = true := by simpa using c24))
 clear c24
 by_cases c27 : (t368.length : Int) = 0
 {
 rw [if_pos c27] at H
 have c27b0 : ((t368.length : Int) == 0) = true := beq_iff_eq.mpr c27
 have c27b1 : ((t368.length : Int) != 0) = false := bne_eq_false_iff_eq.mpr c27
 clear c27
 have H' := Aside0.mk H
 clear H
 go_wp2_with (first | (go_at_call 16; (with_reducible refine (impl_AreBadWords.calls k _ _ t365 true _ ?side1 ?side2 A20.out).mono ?_); (case side1 => exact y2_ (Kd.R_reads' HO367.out).2.2); (case side2 => exact (Kd.R_reads' HO367.out).2.1); rintro e w' ⟨rfl, ⟨nd, rfl⟩⟩; (try first | exact ⟨rfl, _, World.drewN_drewN _ _ _⟩ | exact ⟨rfl, _, Eq.trans (World.drewN_drewN _ _ _) (congrArg (World.drewN _) (Nat.add_assoc _ _ _))⟩)) | (go_at_call 49; (with_reducible refine (impl_HasBadWord.calls k t364 _ _ t365 t379 _ ?side1 ?side2 A23.out).mono ?_); (case side1 => exact y2_ (Kd.R_reads' HO367.out).2.2); (case side2 => exact (Kd.R_reads' HO367.out).2.1); rintro e w28 ⟨rfl, hb⟩; replace HO367 := r1_ HO367 hb; replace HO371 := r1_ HO371 hb; replace HO377 := r1_ HO377 hb; replace HB := Aside0.mk (below_step (y1_ HB.out) hb); (try clear hb); (try clear hb2); (try clear hk); (try clear hi); obtain ⟨Ao29, co29, eo29⟩ := Kd.R_slice HO371.out; subst eo29))
 repeat (go_quiet (first | (go_at_call 16; (with_reducible refine (impl_AreBadWords.calls k _ _ t365 true _ ?side1 ?side2 A20.out).mono ?_); (case side1 => exact y2_ (Kd.R_reads' HO367.out).2.2); (case side2 => exact (Kd.R_reads' HO367.out).2.1); rintro e w' ⟨rfl, ⟨nd, rfl⟩⟩; (try first | exact ⟨rfl, _, World.drewN_drewN _ _ _⟩ | exact ⟨rfl, _, Eq.trans (World.drewN_drewN _ _ _) (congrArg (World.drewN _) (Nat.add_assoc _ _ _))⟩)) | (go_at_call 49; (with_reducible refine (impl_HasBadWord.calls k t364 _ _ t365 t379 _ ?side1 ?side2 A23.out).mono ?_); (case side1 => exact y2_ (Kd.R_reads' HO367.out).2.2); (case side2 => exact (Kd.R_reads' HO367.out).2.1); rintro e w28 ⟨rfl, hb⟩; replace HO367 := r1_ HO367 hb; replace HO371 := r1_ HO371 hb; replace HO377 := r1_ HO377 hb; replace HB := Aside0.mk (below_step (y1_ HB.out) hb); (try clear hb); (try clear hb2); (try clear hk); (try clear hi); obtain ⟨Ao29, co29, eo29⟩ := Kd.R_slice HO371.out; subst eo29)); try go_wp2_with (first | (go_at_call 16; (with_reducible refine (impl_AreBadWords.calls k _ _ t365 true _ ?side1 ?side2 A20.out).mono ?_); (case side1 => exact y2_ (Kd.R_reads' HO367.out).2.2); (case side2 => exact (Kd.R_reads' HO367.out).2.1); rintro e w' ⟨rfl, ⟨nd, rfl⟩⟩; (try first | exact ⟨rfl, _, World.drewN_drewN _ _ _⟩ | exact ⟨rfl, _, Eq.trans (World.drewN_drewN _ _ _) (congrArg (World.drewN _) (Nat.add_assoc _ _ _))⟩)) | (go_at_call 49; (with_reducible refine (impl_HasBadWord.calls k t364 _ _ t365 t379 _ ?side1 ?side2 A23.out).mono ?_); (case side1 => exact y2_ (Kd.R_reads' HO367.out).2.2); (case side2 => exact (Kd.R_reads' HO367.out).2.1); rintro e w28 ⟨rfl, hb⟩; replace HO367 := r1_ HO367 hb; replace HO371 := r1_ HO371 hb; replace HO377 := r1_ HO377 hb; replace HB := Aside0.mk (below_step (y1_ HB.out) hb); (try clear hb); (try clear hb2); (try clear hk); (try clear hi); obtain ⟨Ao29, co29, eo29⟩ := Kd.R_slice HO371.out; subst eo29)))
 go_meet
 case rel => exact ⟨_, ((t372.toList != t364.toList)), s1_, H', ⟨by first | omega | exact Nat.le_refl _⟩, ⟨by (with_reducible repeat (first | apply Kd.R_alloc | apply Kd.R_drewN | apply Kd.R_drew)); exact Kd.R_mono HO367.out (fun _ hk => ⟨hk.1.2, hk.2⟩)⟩, ⟨by (with_reducible repeat (first | apply Kd.R_alloc | apply Kd.R_drewN | apply Kd.R_drew)); exact Kd.R_mono HO371.out (fun _ hk => ⟨hk.1.2, hk.2⟩)⟩, ⟨by (with_reducible repeat (first | apply Kd.R_alloc | apply Kd.R_drewN | apply Kd.R_drew)); exact Kd.R_mono HO377.out (fun _ hk => ⟨hk.1.2, hk.2⟩)⟩, ⟨by repeat (first | (with_reducible first | exact HB.out | apply below_alloc | apply pw_below_drewN | apply below_drew1) | exact HB.out)⟩⟩}
 {
 rw [if_neg c27] at H
 have c27b0 : ((t368.length : Int) == 0) = false := beq_eq_false_iff_ne.mpr c27
 have c27b1 : ((t368.length : Int) != 0) = true := bne_iff_ne.mpr c27
 have c27b2 : ¬ (t368 = []) := fun h_ => c27 (by rw [h_]; rfl)
 have H' := Aside0.mk H
 clear H
 go_wp2_with (first | (go_at_call 16; (with_reducible refine (impl_AreBadWords.calls k _ _ t365 true _ ?side1 ?side2 A20.out).mono ?_); (case side1 => exact y2_ (Kd.R_reads' HO367.out).2.2); (case side2 => exact (Kd.R_reads' HO367.out).2.1); rintro e w' ⟨rfl, ⟨nd, rfl⟩⟩; (try first | exact ⟨rfl, _, World.drewN_drewN _ _ _⟩ | exact ⟨rfl, _, Eq.trans (World.drewN_drewN _ _ _) (congrArg (World.drewN _) (Nat.add_assoc _ _ _))⟩)) | (go_at_call 49; (with_reducible refine (impl_HasBadWord.calls k t364 _ _ t365 t379 _ ?side1 ?side2 A23.out).mono ?_); (case side1 => exact y2_ (Kd.R_reads' HO367.out).2.2); (case side2 => exact (Kd.R_reads' HO367.out).2.1); rintro e w30 ⟨rfl, hb⟩; replace HO367 := r1_ HO367 hb; replace HO371 := r1_ HO371 hb; replace HO377 := r1_ HO377 hb; replace HB := Aside0.mk (below_step (y1_ HB.out) hb); (try clear hb); (try clear hb2); (try clear hk); (try clear hi); obtain ⟨Ao31, co31, eo31⟩ := Kd.R_slice HO371.out; subst eo31))
 repeat (go_quiet (first | (go_at_call 16; (with_reducible refine (impl_AreBadWords.calls k _ _ t365 true _ ?side1 ?side2 A20.out).mono ?_); (case side1 => exact y2_ (Kd.R_reads' HO367.out).2.2); (case side2 => exact (Kd.R_reads' HO367.out).2.1); rintro e w' ⟨rfl, ⟨nd, rfl⟩⟩; (try first | exact ⟨rfl, _, World.drewN_drewN _ _ _⟩ | exact ⟨rfl, _, Eq.trans (World.drewN_drewN _ _ _) (congrArg (World.drewN _) (Nat.add_assoc _ _ _))⟩)) | (go_at_call 49; (with_reducible refine (impl_HasBadWord.calls k t364 _ _ t365 t379 _ ?side1 ?side2 A23.out).mono ?_); (case side1 => exact y2_ (Kd.R_reads' HO367.out).2.2); (case side2 => exact (Kd.R_reads' HO367.out).2.1); rintro e w30 ⟨rfl, hb⟩; replace HO367 := r1_ HO367 hb; replace HO371 := r1_ HO371 hb; replace HO377 := r1_ HO377 hb; replace HB := Aside0.mk (below_step (y1_ HB.out) hb); (try clear hb); (try clear hb2); (try clear hk); (try clear hi); obtain ⟨Ao31, co31, eo31⟩ := Kd.R_slice HO371.out; subst eo31)); try go_wp2_with (first | (go_at_call 16; (with_reducible refine (impl_AreBadWords.calls k _ _ t365 true _ ?side1 ?side2 A20.out).mono ?_); (case side1 => exact y2_ (Kd.R_reads' HO367.out).2.2); (case side2 => exact (Kd.R_reads' HO367.out).2.1); rintro e w' ⟨rfl, ⟨nd, rfl⟩⟩; (try first | exact ⟨rfl, _, World.drewN_drewN _ _ _⟩ | exact ⟨rfl, _, Eq.trans (World.drewN_drewN _ _ _) (congrArg (World.drewN _) (Nat.add_assoc _ _ _))⟩)) | (go_at_call 49; (with_reducible refine (impl_HasBadWord.calls k t364 _ _ t365 t379 _ ?side1 ?side2 A23.out).mono ?_); (case side1 => exact y2_ (Kd.R_reads' HO367.out).2.2); (case side2 => exact (Kd.R_reads' HO367.out).2.1); rintro e w30 ⟨rfl, hb⟩; replace HO367 := r1_ HO367 hb; replace HO371 := r1_ HO371 hb; replace HO377 := r1_ HO377 hb; replace HB := Aside0.mk (below_step (y1_ HB.out) hb); (try clear hb); (try clear hb2); (try clear hk); (try clear hi); obtain ⟨Ao31, co31, eo31⟩ := Kd.R_slice HO371.out; subst eo31)))
 go_meet
 case rel => exact ⟨_, (false), s1_, H', ⟨by first | omega | exact Nat.le_refl _⟩, ⟨by (with_reducible repeat (first | apply Kd.R_alloc | apply Kd.R_drewN | apply Kd.R_drew)); exact Kd.R_mono HO367.out (fun _ hk => ⟨hk.1.2, hk.2⟩)⟩, ⟨by (with_reducible repeat (first | apply Kd.R_alloc | apply Kd.R_drewN | apply Kd.R_drew)); exact Kd.R_mono HO371.out (fun _ hk => ⟨hk.1.2, hk.2⟩)⟩, ⟨by (with_reducible repeat (first | apply Kd.R_alloc | apply Kd.R_drewN | apply Kd.R_drew)); exact Kd.R_mono HO377.out (fun _ hk => ⟨hk.1.2, hk.2⟩)⟩, ⟨by repeat (first | (with_reducible first | exact HB.out | apply below_alloc | apply pw_below_drewN | apply below_drew1) | exact HB.out)⟩⟩}}}
 {
 rw [if_neg c22] at H
 have c22b0 : ((t372.size : Int) == (t364.size : Int)) = false := beq_eq_false_iff_ne.mpr c22
 have c22b1 : ((t372.size : Int) != (t364.size : Int)) = true := bne_iff_ne.mpr c22
 have c22b2 : (t372.size == t364.size) = false := by first | simpa using c22 | (simp at c22 ⊢; omega)
 (first | rw [c22b0] | (simp only [i64_w, i32_w]; rw [c22b0]) | skip)
 have H' := Aside0.mk H
 clear H
 go_wp2_with (first | (go_at_call 16; (with_reducible refine (impl_AreBadWords.calls k _ _ t365 true _ ?side1 ?side2 A20.out).mono ?_); (case side1 => exact y2_ (Kd.R_reads' HO367.out).2.2); (case side2 => exact (Kd.R_reads' HO367.out).2.1); rintro e w' ⟨rfl, ⟨nd, rfl⟩⟩; (try first | exact ⟨rfl, _, World.drewN_drewN _ _ _⟩ | exact ⟨rfl, _, Eq.trans (World.drewN_drewN _ _ _) (congrArg (World.drewN _) (Nat.add_assoc _ _ _))⟩)))
 repeat (go_quiet (first | (go_at_call 16; (with_reducible refine (impl_AreBadWords.calls k _ _ t365 true _ ?side1 ?side2 A20.out).mono ?_); (case side1 => exact y2_ (Kd.R_reads' HO367.out).2.2); (case side2 => exact (Kd.R_reads' HO367.out).2.1); rintro e w' ⟨rfl, ⟨nd, rfl⟩⟩; (try first | exact ⟨rfl, _, World.drewN_drewN _ _ _⟩ | exact ⟨rfl, _, Eq.trans (World.drewN_drewN _ _ _) (congrArg (World.drewN _) (Nat.add_assoc _ _ _))⟩))); try go_wp2_with (first | (go_at_call 16; (with_reducible refine (impl_AreBadWords.calls k _ _ t365 true _ ?side1 ?side2 A20.out).mono ?_); (case side1 => exact y2_ (Kd.R_reads' HO367.out).2.2); (case side2 => exact (Kd.R_reads' HO367.out).2.1); rintro e w' ⟨rfl, ⟨nd, rfl⟩⟩; (try first | exact ⟨rfl, _, World.drewN_drewN _ _ _⟩ | exact ⟨rfl, _, Eq.trans (World.drewN_drewN _ _ _) (congrArg (World.drewN _) (Nat.add_assoc _ _ _))⟩))))
 go_meet
 case rel => exact ⟨_, (true), s1_, H', ⟨by first | omega | exact Nat.le_refl _⟩, ⟨by (with_reducible repeat (first | apply Kd.R_alloc | apply Kd.R_drewN | apply Kd.R_drew)); exact Kd.R_mono HO367.out (fun _ hk => ⟨hk.1.2, hk.2⟩)⟩, ⟨by (with_reducible repeat (first | apply Kd.R_alloc | apply Kd.R_drewN | apply Kd.R_drew)); exact Kd.R_mono HO371.out (fun _ hk => ⟨hk.1.2, hk.2⟩)⟩, ⟨by (with_reducible repeat (first | apply Kd.R_alloc | apply Kd.R_drewN | apply Kd.R_drew)); exact Kd.R_mono HO377.out (fun _ hk => ⟨hk.1.2, hk.2⟩)⟩, ⟨by repeat (first | (with_reducible first | exact HB.out | apply below_alloc | apply pw_below_drewN | apply below_drew1) | exact HB.out)⟩⟩}}
 {
 replace c21 := Bool.eq_false_iff.mpr c21
 subst c21
 have H1 : (laws_FnCensored.j0 k t364 t365 t368 t372 t374 true) = some r := by rw [if_neg (show ¬ (false = true) by decide)] at H; exact H
 clear H
 have H := H1
 clear H1
 have H' := Aside0.mk H
 clear H
 go_wp2_with (first | (go_at_call 16; (with_reducible refine (impl_AreBadWords.calls k _ _ t365 false _ ?side1 ?side2 A20.out).mono ?_); (case side1 => exact y2_ (Kd.R_reads' HO367.out).2.2); (case side2 => exact (Kd.R_reads' HO367.out).2.1); rintro e w' ⟨rfl, ⟨nd, rfl⟩⟩; (try first | exact ⟨rfl, _, World.drewN_drewN _ _ _⟩ | exact ⟨rfl, _, Eq.trans (World.drewN_drewN _ _ _) (congrArg (World.drewN _) (Nat.add_assoc _ _ _))⟩)))
 repeat (go_quiet (first | (go_at_call 16; (with_reducible refine (impl_AreBadWords.calls k _ _ t365 false _ ?side1 ?side2 A20.out).mono ?_); (case side1 => exact y2_ (Kd.R_reads' HO367.out).2.2); (case side2 => exact (Kd.R_reads' HO367.out).2.1); rintro e w' ⟨rfl, ⟨nd, rfl⟩⟩; (try first | exact ⟨rfl, _, World.drewN_drewN _ _ _⟩ | exact ⟨rfl, _, Eq.trans (World.drewN_drewN _ _ _) (congrArg (World.drewN _) (Nat.add_assoc _ _ _))⟩))); try go_wp2_with (first | (go_at_call 16; (with_reducible refine (impl_AreBadWords.calls k _ _ t365 false _ ?side1 ?side2 A20.out).mono ?_); (case side1 => exact y2_ (Kd.R_reads' HO367.out).2.2); (case side2 => exact (Kd.R_reads' HO367.out).2.1); rintro e w' ⟨rfl, ⟨nd, rfl⟩⟩; (try first | exact ⟨rfl, _, World.drewN_drewN _ _ _⟩ | exact ⟨rfl, _, Eq.trans (World.drewN_drewN _ _ _) (congrArg (World.drewN _) (Nat.add_assoc _ _ _))⟩))))
 go_meet
 case rel => exact ⟨_, (true), s1_, H', ⟨by first | omega | exact Nat.le_refl _⟩, ⟨by (with_reducible repeat (first | apply Kd.R_alloc | apply Kd.R_drewN | apply Kd.R_drew)); exact Kd.R_mono HO367.out (fun _ hk => ⟨hk.1.2, hk.2⟩)⟩, ⟨by (with_reducible repeat (first | apply Kd.R_alloc | apply Kd.R_drewN | apply Kd.R_drew)); exact Kd.R_mono HO371.out (fun _ hk => ⟨hk.1.2, hk.2⟩)⟩, ⟨by (with_reducible repeat (first | apply Kd.R_alloc | apply Kd.R_drewN | apply Kd.R_drew)); exact Kd.R_mono HO377.out (fun _ hk => ⟨hk.1.2, hk.2⟩)⟩, ⟨by repeat (first | (with_reducible first | exact HB.out | apply below_alloc | apply pw_below_drewN | apply below_drew1) | exact HB.out)⟩⟩}}
 {
 replace c19 := Bool.eq_false_iff.mpr c19
 subst c19
 have H1 : (laws_FnCensored.j0 k t364 t365 t368 t372 t374 true) = some r := by rw [if_neg (show ¬ (false = true) by decide)] at H; exact H
 clear H
 have H := H1
 clear H1
 have H' := Aside0.mk H
 clear H
 go_wp2
 repeat (go_quiet (fail); try go_wp2)
 go_meet
 case rel => exact ⟨_, (true), s1_, H', ⟨by first | omega | exact Nat.le_refl _⟩, ⟨by (with_reducible repeat (first | apply Kd.R_alloc | apply Kd.R_drewN | apply Kd.R_drew)); exact Kd.R_mono HO367.out (fun _ hk => ⟨hk.1.2, hk.2⟩)⟩, ⟨by (with_reducible repeat (first | apply Kd.R_alloc | apply Kd.R_drewN | apply Kd.R_drew)); exact Kd.R_mono HO371.out (fun _ hk => ⟨hk.1.2, hk.2⟩)⟩, ⟨by (with_reducible repeat (first | apply Kd.R_alloc | apply Kd.R_drewN | apply Kd.R_drew)); exact Kd.R_mono HO377.out (fun _ hk => ⟨hk.1.2, hk.2⟩)⟩, ⟨by repeat (first | (with_reducible first | exact HB.out | apply below_alloc | apply pw_below_drewN | apply below_drew1) | exact HB.out)⟩⟩}}
 {
 replace c18 := Bool.eq_false_iff.mpr c18
 subst c18
 have H1 : (laws_FnCensored.j0 k t364 t365 t368 t372 t374 true) = some r := by rw [if_neg (show ¬ (false = true) by decide)] at H; exact H
 clear H
 have H := H1
 clear H1
 have H' := Aside0.mk H
 clear H
 go_wp2
 repeat (go_quiet (fail); try go_wp2)
 go_meet
 case rel => exact ⟨_, (true), s1_, H', ⟨by first | omega | exact Nat.le_refl _⟩, ⟨by (with_reducible repeat (first | apply Kd.R_alloc | apply Kd.R_drewN | apply Kd.R_drew)); exact Kd.R_mono HO367.out (fun _ hk => ⟨hk.1.2, hk.2⟩)⟩, ⟨by (with_reducible repeat (first | apply Kd.R_alloc | apply Kd.R_drewN | apply Kd.R_drew)); exact Kd.R_mono HO371.out (fun _ hk => ⟨hk.1.2, hk.2⟩)⟩, ⟨by (with_reducible repeat (first | apply Kd.R_alloc | apply Kd.R_drewN | apply Kd.R_drew)); exact Kd.R_mono HO377.out (fun _ hk => ⟨hk.1.2, hk.2⟩)⟩, ⟨by repeat (first | (with_reducible first | exact HB.out | apply below_alloc | apply pw_below_drewN | apply below_drew1) | exact HB.out)⟩⟩}}
 {
 replace c17 := Bool.eq_false_iff.mpr c17
 subst c17
 have H1 : (laws_FnCensored.j0 k t364 t365 t368 t372 t374 true) = some r := by rw [if_neg (show ¬ (false = true) by decide)] at H; exact H
 clear H
 have H := H1
 clear H1
 have H' := Aside0.mk H
 clear H
 go_wp2
 repeat (go_quiet (fail); try go_wp2)
 go_meet
 case rel => exact ⟨_, (true), s1_, H', ⟨by first | omega | exact Nat.le_refl _⟩, ⟨by (with_reducible repeat (first | apply Kd.R_alloc | apply Kd.R_drewN | apply Kd.R_drew)); exact Kd.R_mono HO367.out (fun _ hk => ⟨hk.1.2, hk.2⟩)⟩, ⟨by (with_reducible repeat (first | apply Kd.R_alloc | apply Kd.R_drewN | apply Kd.R_drew)); exact Kd.R_mono HO371.out (fun _ hk => ⟨hk.1.2, hk.2⟩)⟩, ⟨by (with_reducible repeat (first | apply Kd.R_alloc | apply Kd.R_drewN | apply Kd.R_drew)); exact Kd.R_mono HO377.out (fun _ hk => ⟨hk.1.2, hk.2⟩)⟩, ⟨by repeat (first | (with_reducible first | exact HB.out | apply below_alloc | apply pw_below_drewN | apply below_drew1) | exact HB.out)⟩⟩}}
 case rest =>
  skip
  {
 clear HC10
 try clear c1
 try clear c2
 try clear p2
 try clear c4
 try clear c9
 try clear c17
 try clear c18
 try clear c19
 try clear c21
 try clear c22
 try clear c22b0
 try clear c22b1
 try clear c22b2
 try clear c24
 try clear c24b0
 try clear c24b1
 try clear c24b2
 try clear c27
 try clear c27b0
 try clear c27b1
 try clear c27b2
 obtain ⟨kq, x86_9, rfl, HA, HJ9, HO_6, HO_7, HO_11, HB⟩ := hcut
 cases kq with
 | zero => exact absurd HA.out (by simp [laws_FnCensored.j0])
 | succ kj9 =>
  skip
  {
 have H := HA.out
 clear HA
 simp only [laws_FnCensored.j0] at H
 by_cases c32 : x86_9 = true
 {
 subst c32
 have H1 : (some false) = some r := by rw [if_pos rfl] at H; exact H
 clear H
 have H := H1
 clear H1
 obtain rfl := Option.some.inj H
 go_wp2
 repeat (go_quiet (fail); try go_wp2)
 go_ret
 exact ⟨by first | rfl | (simp [errW_none, errW_some] <;> rfl) | (simp [*, errW_none, errW_some] <;> rfl), by repeat (first | (with_reducible first | exact HB.out | apply below_alloc | apply pw_below_drewN | apply below_drew1) | exact HB.out)⟩}
 {
 replace c32 := Bool.eq_false_iff.mpr c32
 subst c32
 have H1 : (laws_FnCensored.l0 kj9 t364 t365 t368 t372 t374 0 0) = some r := by rw [if_neg (show ¬ (false = true) by decide)] at H; exact H
 clear H
 have H := H1
 clear H1
 have H' := Aside0.mk H
 clear H
 go_wp2
 repeat (go_quiet (fail); try go_wp2)
 go_loopg [13, 14] kj9 (fun kq v13 v14 w' => ∃ (x13_2 : Int) (x14_2 : Int), v13 = .int .i64 x13_2 ∧ v14 = .int .i64 x14_2 ∧ Aside0 (laws_FnCensored.l0 kq t364 t365 t368 t372 t374 x13_2 x14_2 = some r) ∧ Aside0 (kq ≤ kj9) ∧ Aside0 (Kd.R Kd.string 9 w' w.heap.size (fun k_ => some k_ ≠ (v370 : Value).ownBlock ∧ some k_ ≠ (v376 : Value).ownBlock) (.slice Ao13 t365.length co13) t365) ∧ Aside0 (Kd.R Kd.string 9 w' w.heap.size (fun k_ => some k_ ≠ ((.slice Ao13 t365.length co13) : Value).ownBlock ∧ some k_ ≠ (v376 : Value).ownBlock) v370 t368) ∧ Aside0 (Kd.R Kd.string 9 w' w.heap.size (fun k_ => some k_ ≠ ((.slice Ao13 t365.length co13) : Value).ownBlock ∧ some k_ ≠ (v370 : Value).ownBlock) v376 t374) ∧ Aside0 (Below w.heap.size w w'))
 case atStart => exact ⟨(0), (0), s1_, s1_, H', ⟨Nat.le_refl _⟩, ⟨b2_ HO_6.out⟩, ⟨b2_ HO_7.out⟩, ⟨b2_ HO_11.out⟩, ⟨by repeat (first | (with_reducible first | exact HB.out | apply below_alloc | apply pw_below_drewN | apply below_drew1) | exact HB.out)⟩⟩
 case round =>
  skip
  {
 clear H'
 try clear c1
 try clear c2
 try clear p2
 try clear c3
 try clear c4
 try clear c9
 try clear c17
 try clear c18
 try clear c19
 try clear c21
 try clear c22
 try clear c22b0
 try clear c22b1
 try clear c22b2
 try clear c24
 try clear c24b0
 try clear c24b1
 try clear c24b2
 try clear c27
 try clear c27b0
 try clear c27b1
 try clear c27b2
 try clear c32
 try clear p2
 obtain ⟨x13_2, x14_2, rfl, rfl, HA, HK2, HO_6, HO_7, HO_11, HB⟩ := hrel
 cases gk with
 | zero => exact absurd HA.out (by simp [laws_FnCensored.l0])
 | succ k2 =>
  skip
  {
 have H := HA.out
 clear HA
 simp only [laws_FnCensored.l0] at H
 by_cases c33 : x14_2 < (t365.length : Int)
 {
 rw [if_pos c33] at H
 have c33b0 : decide (x14_2 < (t365.length : Int)) = true := decide_eq_true c33
 clear c33
 have H' := Aside0.mk H
 clear H
 go_wp2
 repeat (go_quiet (fail); try go_wp2)
 go_loopg [15, 16] k2 (fun kq v15 v16 w' => ∃ (x15_3 : Bool) (x16_3 : Int), v15 = .bool x15_3 ∧ v16 = .int .i64 x16_3 ∧ Aside0 (laws_FnCensored.l1 kq t364 t365 t368 t372 t374 x13_2 x14_2 x15_3 x16_3 = some r) ∧ Aside0 (kq ≤ k2) ∧ Aside0 (Kd.R Kd.string 9 w' w.heap.size (fun k_ => some k_ ≠ (v370 : Value).ownBlock ∧ some k_ ≠ (v376 : Value).ownBlock) (.slice Ao13 t365.length co13) t365) ∧ Aside0 (Kd.R Kd.string 9 w' w.heap.size (fun k_ => some k_ ≠ ((.slice Ao13 t365.length co13) : Value).ownBlock ∧ some k_ ≠ (v376 : Value).ownBlock) v370 t368) ∧ Aside0 (Kd.R Kd.string 9 w' w.heap.size (fun k_ => some k_ ≠ ((.slice Ao13 t365.length co13) : Value).ownBlock ∧ some k_ ≠ (v370 : Value).ownBlock) v376 t374) ∧ Aside0 (Below w.heap.size w w'))
 case atStart => exact ⟨(false), (0), s1_, s1_, H', ⟨Nat.le_refl _⟩, ⟨b2_ HO_6.out⟩, ⟨b2_ HO_7.out⟩, ⟨b2_ HO_11.out⟩, ⟨by repeat (first | (with_reducible first | exact HB.out | apply below_alloc | apply pw_below_drewN | apply below_drew1) | exact HB.out)⟩⟩
 case round =>
  skip
  {
 clear H'
 try clear c1
 try clear c2
 try clear p2
 try clear c3
 try clear c4
 try clear c9
 try clear c17
 try clear c18
 try clear c19
 try clear c21
 try clear c22
 try clear c22b0
 try clear c22b1
 try clear c22b2
 try clear c24
 try clear c24b0
 try clear c24b1
 try clear c24b2
 try clear c27
 try clear c27b0
 try clear c27b1
 try clear c27b2
 try clear c32
 try clear c33
 try clear c33b0
 try clear p2
 obtain ⟨x15_3, x16_3, rfl, rfl, HA, HK3, HO_6, HO_7, HO_11, HB⟩ := hrel
 cases gk with
 | zero => exact absurd HA.out (by simp [laws_FnCensored.l1])
 | succ k3 =>
  skip
  {
 have H := HA.out
 clear HA
 simp only [laws_FnCensored.l1] at H
 by_cases c34 : x16_3 < (t374.length : Int)
 {
 rw [if_pos c34] at H
 have c34b0 : decide (x16_3 < (t374.length : Int)) = true := decide_eq_true c34
 clear c34
 by_cases c35 : x15_3 = true
 {
 subst c35
 have H1 : (laws_FnCensored.l1 k3 t364 t365 t368 t372 t374 x13_2 x14_2 true (wrap64 (x16_3 + 1))) = some r := by rw [if_pos rfl] at H; exact H
 clear H
 have H := H1
 clear H1
 have H' := Aside0.mk H
 clear H
 obtain ⟨Ao36, co36, eo36⟩ := Kd.R_slice HO_11.out
 subst eo36
 go_wp2
 repeat (go_quiet (fail); try go_wp2)
 go_roundg k3
 case measure => have := HJ9.out; have := HK2.out; have := HK3.out; omega
 case rel => exact ⟨(true), (wrap64 (x16_3 + 1)), s1_, s1_, H', ⟨by have := HJ9.out; have := HK2.out; have := HK3.out; omega⟩, ⟨b2_ HO_6.out⟩, ⟨b2_ HO_7.out⟩, ⟨b2_ HO_11.out⟩, ⟨by repeat (first | (with_reducible first | exact HB.out | apply below_alloc | apply pw_below_drewN | apply below_drew1) | exact HB.out)⟩⟩}
 {
 replace c35 := Bool.eq_false_iff.mpr c35
 subst c35
 have H1 : (if 0 ≤ x16_3 then (if 0 ≤ x14_2 then (if x14_2 < (t365.length : Int) then (laws_FnCensored.l1 k3 t364 t365 t368 t372 t374 x13_2 x14_2 ((rdOf ByteArray.empty t374 x16_3).toList == (rdOf ByteArray.empty t365 x14_2).toList) (wrap64 (x16_3 + 1))) else (none)) else (none)) else (none)) = some r := by rw [if_neg (show ¬ (false = true) by decide)] at H; exact H
 clear H
 have H := H1
 clear H1
 by_cases c37 : 0 ≤ x16_3
 {
 rw [if_pos c37] at H
 have c37b0 : decide (0 ≤ x16_3) = true := decide_eq_true c37
 clear c37
 by_cases c38 : 0 ≤ x14_2
 {
 rw [if_pos c38] at H
 have c38b0 : decide (0 ≤ x14_2) = true := decide_eq_true c38
 clear c38
 by_cases c39 : x14_2 < (t365.length : Int)
 {
 rw [if_pos c39] at H
 have c39b0 : decide (x14_2 < (t365.length : Int)) = true := decide_eq_true c39
 clear c39
 have H' := Aside0.mk H
 clear H
 obtain ⟨Ao40, co40, eo40⟩ := Kd.R_slice HO_11.out
 subst eo40
 have p380 : 0 ≤ (x16_3 : Int) := of_decide_eq_true (by first | (with_reducible assumption) | assumption)
 have q380 : x16_3 < (t374.length : Int) := of_decide_eq_true (by first | (with_reducible assumption) | assumption)
 obtain ⟨ad380, e380, hx380_0⟩ := Kd.at_string (Kd.R_reads' HO_11.out).2.2 x16_3 p380 q380
 cases e380
 replace p380 := eq_true p380
 replace q380 := eq_true q380
 have p381 : 0 ≤ (x14_2 : Int) := of_decide_eq_true (by first | (with_reducible assumption) | assumption)
 have q381 : x14_2 < (t365.length : Int) := of_decide_eq_true (by first | (with_reducible assumption) | assumption)
 obtain ⟨ad381, e381, hx381_0⟩ := Kd.at_string (Kd.R_reads' HO_6.out).2.2 x14_2 p381 q381
 cases e381
 replace p381 := eq_true p381
 replace q381 := eq_true q381
 go_wp2
 repeat (go_quiet (fail); try go_wp2)
 go_roundg k3
 case measure => have := HJ9.out; have := HK2.out; have := HK3.out; omega
 case rel => exact ⟨(((rdOf ByteArray.empty t374 x16_3).toList == (rdOf ByteArray.empty t365 x14_2).toList)), (wrap64 (x16_3 + 1)), s1_, s1_, H', ⟨by have := HJ9.out; have := HK2.out; have := HK3.out; omega⟩, ⟨b2_ HO_6.out⟩, ⟨b2_ HO_7.out⟩, ⟨b2_ HO_11.out⟩, ⟨by repeat (first | (with_reducible first | exact HB.out | apply below_alloc | apply pw_below_drewN | apply below_drew1) | exact HB.out)⟩⟩}
 {
 rw [if_neg c39] at H
 exact absurd H (by simp)}}
 {
 rw [if_neg c38] at H
 exact absurd H (by simp)}}
 {
 rw [if_neg c37] at H
 exact absurd H (by simp)}}}
 {
 rw [if_neg c34] at H
 have c34b0 : decide (x16_3 < (t374.length : Int)) = false := decide_eq_false c34
 clear c34
 by_cases c41 : x15_3 = true
 {
 subst c41
 have H1 : (if x13_2 ≥ (t368.length : Int) then (some false) else (if 0 ≤ x13_2 then (if x13_2 < (t368.length : Int) then (if 0 ≤ x14_2 then (if x14_2 < (t365.length : Int) then (if (rdOf ByteArray.empty t368 x13_2).toList = (rdOf ByteArray.empty t365 x14_2).toList then (laws_FnCensored.l0 k3 t364 t365 t368 t372 t374 (wrap64 (x13_2 + 1)) (wrap64 (x14_2 + 1))) else (some false)) else (none)) else (none)) else (none)) else (none))) = some r := by rw [if_pos rfl] at H; exact H
 clear H
 have H := H1
 clear H1
 by_cases c42 : x13_2 ≥ (t368.length : Int)
 {
 rw [if_pos c42] at H
 have c42b0 : decide ((t368.length : Int) ≤ x13_2) = true := decide_eq_true c42
 clear c42
 obtain rfl := Option.some.inj H
 obtain ⟨Ao43, co43, eo43⟩ := Kd.R_slice HO_11.out
 subst eo43
 obtain ⟨Ao44, co44, eo44⟩ := Kd.R_slice HO_7.out
 subst eo44
 go_wp2
 repeat (go_quiet (fail); try go_wp2)
 go_ret
 exact ⟨by first | rfl | (simp [errW_none, errW_some] <;> rfl) | (simp [*, errW_none, errW_some] <;> rfl), by repeat (first | (with_reducible first | exact HB.out | apply below_alloc | apply pw_below_drewN | apply below_drew1) | exact HB.out)⟩}
 {
 rw [if_neg c42] at H
 have c42b0 : decide ((t368.length : Int) ≤ x13_2) = false := decide_eq_false c42
 clear c42
 by_cases c45 : 0 ≤ x13_2
 {
 rw [if_pos c45] at H
 have c45b0 : decide (0 ≤ x13_2) = true := decide_eq_true c45
 clear c45
 by_cases c46 : x13_2 < (t368.length : Int)
 {
 rw [if_pos c46] at H
 have c46b0 : decide (x13_2 < (t368.length : Int)) = true := decide_eq_true c46
 clear c46
 by_cases c47 : 0 ≤ x14_2
 {
 rw [if_pos c47] at H
 have c47b0 : decide (0 ≤ x14_2) = true := decide_eq_true c47
 clear c47
 by_cases c48 : x14_2 < (t365.length : Int)
 {
 rw [if_pos c48] at H
 have c48b0 : decide (x14_2 < (t365.length : Int)) = true := decide_eq_true c48
 clear c48
 by_cases c49 : (rdOf ByteArray.empty t368 x13_2).toList = (rdOf ByteArray.empty t365 x14_2).toList
 {
 rw [if_pos c49] at H
 have c49b0 : ((rdOf ByteArray.empty t368 x13_2).toList == (rdOf ByteArray.empty t365 x14_2).toList) = true := beq_iff_eq.mpr c49
 have c49b1 : ((rdOf ByteArray.empty t368 x13_2).toList != (rdOf ByteArray.empty t365 x14_2).toList) = false := bne_eq_false_iff_eq.mpr c49
 clear c49
 have H' := Aside0.mk H
 clear H
 obtain ⟨Ao50, co50, eo50⟩ := Kd.R_slice HO_11.out
 subst eo50
 obtain ⟨Ao51, co51, eo51⟩ := Kd.R_slice HO_7.out
 subst eo51
 have p382 : 0 ≤ (x13_2 : Int) := of_decide_eq_true (by first | (with_reducible assumption) | assumption)
 have q382 : x13_2 < (t368.length : Int) := of_decide_eq_true (by first | (with_reducible assumption) | assumption)
 obtain ⟨ad382, e382, hx382_0⟩ := Kd.at_string (Kd.R_reads' HO_7.out).2.2 x13_2 p382 q382
 cases e382
 replace p382 := eq_true p382
 replace q382 := eq_true q382
 have p383 : 0 ≤ (x14_2 : Int) := of_decide_eq_true (by first | (with_reducible assumption) | assumption)
 have q383 : x14_2 < (t365.length : Int) := of_decide_eq_true (by first | (with_reducible assumption) | assumption)
 obtain ⟨ad383, e383, hx383_0⟩ := Kd.at_string (Kd.R_reads' HO_6.out).2.2 x14_2 p383 q383
 cases e383
 replace p383 := eq_true p383
 replace q383 := eq_true q383
 go_wp2
 repeat (go_quiet (fail); try go_wp2)
 go_roundg k3
 case measure => have := HJ9.out; have := HK2.out; have := HK3.out; omega
 case rel => exact ⟨(wrap64 (x13_2 + 1)), (wrap64 (x14_2 + 1)), s1_, s1_, H', ⟨by have := HJ9.out; have := HK2.out; have := HK3.out; omega⟩, ⟨b2_ HO_6.out⟩, ⟨b2_ HO_7.out⟩, ⟨b2_ HO_11.out⟩, ⟨by repeat (first | (with_reducible first | exact HB.out | apply below_alloc | apply pw_below_drewN | apply below_drew1) | exact HB.out)⟩⟩}
 {
 rw [if_neg c49] at H
 have c49b0 : ((rdOf ByteArray.empty t368 x13_2).toList == (rdOf ByteArray.empty t365 x14_2).toList) = false := beq_eq_false_iff_ne.mpr c49
 have c49b1 : ((rdOf ByteArray.empty t368 x13_2).toList != (rdOf ByteArray.empty t365 x14_2).toList) = true := bne_iff_ne.mpr c49
 obtain rfl := Option.some.inj H
 obtain ⟨Ao52, co52, eo52⟩ := Kd.R_slice HO_11.out
 subst eo52
 obtain ⟨Ao53, co53, eo53⟩ := Kd.R_slice HO_7.out
 subst eo53
 have p382 : 0 ≤ (x13_2 : Int) := of_decide_eq_true (by first | (with_reducible assumption) | assumption)
 have q382 : x13_2 < (t368.length : Int) := of_decide_eq_true (by first | (with_reducible assumption) | assumption)
 obtain ⟨ad382, e382, hx382_0⟩ := Kd.at_string (Kd.R_reads' HO_7.out).2.2 x13_2 p382 q382
 cases e382
 replace p382 := eq_true p382
 replace q382 := eq_true q382
 have p383 : 0 ≤ (x14_2 : Int) := of_decide_eq_true (by first | (with_reducible assumption) | assumption)
 have q383 : x14_2 < (t365.length : Int) := of_decide_eq_true (by first | (with_reducible assumption) | assumption)
 obtain ⟨ad383, e383, hx383_0⟩ := Kd.at_string (Kd.R_reads' HO_6.out).2.2 x14_2 p383 q383
 cases e383
 replace p383 := eq_true p383
 replace q383 := eq_true q383
 go_wp2
 repeat (go_quiet (fail); try go_wp2)
 go_ret
 exact ⟨by first | rfl | (simp [errW_none, errW_some] <;> rfl) | (simp [*, errW_none, errW_some] <;> rfl), by repeat (first | (with_reducible first | exact HB.out | apply below_alloc | apply pw_below_drewN | apply below_drew1) | exact HB.out)⟩}}
 {
 rw [if_neg c48] at H
 exact absurd H (by simp)}}
 {
 rw [if_neg c47] at H
 exact absurd H (by simp)}}
 {
 rw [if_neg c46] at H
 exact absurd H (by simp)}}
 {
 rw [if_neg c45] at H
 exact absurd H (by simp)}}}
 {
 replace c41 := Bool.eq_false_iff.mpr c41
 subst c41
 have H1 : (laws_FnCensored.l0 k3 t364 t365 t368 t372 t374 x13_2 (wrap64 (x14_2 + 1))) = some r := by rw [if_neg (show ¬ (false = true) by decide)] at H; exact H
 clear H
 have H := H1
 clear H1
 have H' := Aside0.mk H
 clear H
 obtain ⟨Ao54, co54, eo54⟩ := Kd.R_slice HO_11.out
 subst eo54
 go_wp2
 repeat (go_quiet (fail); try go_wp2)
 go_roundg k3
 case measure => have := HJ9.out; have := HK2.out; have := HK3.out; omega
 case rel => exact ⟨(x13_2), (wrap64 (x14_2 + 1)), s1_, s1_, H', ⟨by have := HJ9.out; have := HK2.out; have := HK3.out; omega⟩, ⟨b2_ HO_6.out⟩, ⟨b2_ HO_7.out⟩, ⟨b2_ HO_11.out⟩, ⟨by repeat (first | (with_reducible first | exact HB.out | apply below_alloc | apply pw_below_drewN | apply below_drew1) | exact HB.out)⟩⟩}}}}}
 {
 rw [if_neg c33] at H
 have c33b0 : decide (x14_2 < (t365.length : Int)) = false := decide_eq_false c33
 clear c33
 have H' := Aside0.mk H
 clear H
 go_wp2
 repeat (go_quiet (fail); try go_wp2)
 go_loopg [17, 18] k2 (fun kq v17 v18 w' => ∃ (x17_3 : Int) (x18_3 : Int), v17 = .int .i64 x17_3 ∧ v18 = .int .i64 x18_3 ∧ Aside0 (laws_FnCensored.l2 kq t364 t365 t368 t372 t374 x13_2 x17_3 x18_3 = some r) ∧ Aside0 (kq ≤ k2) ∧ Aside0 (Kd.R Kd.string 9 w' w.heap.size (fun k_ => some k_ ≠ (v370 : Value).ownBlock ∧ some k_ ≠ (v376 : Value).ownBlock) (.slice Ao13 t365.length co13) t365) ∧ Aside0 (Kd.R Kd.string 9 w' w.heap.size (fun k_ => some k_ ≠ ((.slice Ao13 t365.length co13) : Value).ownBlock ∧ some k_ ≠ (v376 : Value).ownBlock) v370 t368) ∧ Aside0 (Kd.R Kd.string 9 w' w.heap.size (fun k_ => some k_ ≠ ((.slice Ao13 t365.length co13) : Value).ownBlock ∧ some k_ ≠ (v370 : Value).ownBlock) v376 t374) ∧ Aside0 (Below w.heap.size w w'))
 case atStart => exact ⟨(0), (0), s1_, s1_, H', ⟨Nat.le_refl _⟩, ⟨b2_ HO_6.out⟩, ⟨b2_ HO_7.out⟩, ⟨b2_ HO_11.out⟩, ⟨by repeat (first | (with_reducible first | exact HB.out | apply below_alloc | apply pw_below_drewN | apply below_drew1) | exact HB.out)⟩⟩
 case round =>
  skip
  {
 clear H'
 try clear c1
 try clear c2
 try clear p2
 try clear c3
 try clear p3
 try clear q3
 try clear hx3
 try clear c4
 try clear p6
 try clear c9
 try clear c17
 try clear c18
 try clear c19
 try clear c21
 try clear c22
 try clear c22b0
 try clear c22b1
 try clear c22b2
 try clear c24
 try clear c24b0
 try clear c24b1
 try clear c24b2
 try clear c27
 try clear c27b0
 try clear c27b1
 try clear c27b2
 try clear c32
 try clear c33
 try clear c33b0
 try clear c34
 try clear c34b0
 try clear c35
 try clear c37
 try clear c37b0
 try clear c38
 try clear c38b0
 try clear p38
 try clear q38
 try clear hx38
 try clear c39
 try clear c39b0
 try clear c41
 try clear c42
 try clear c42b0
 try clear c45
 try clear c45b0
 try clear c46
 try clear c46b0
 try clear c47
 try clear c47b0
 try clear c48
 try clear c48b0
 try clear c49
 try clear c49b0
 try clear c49b1
 try clear hx380_0
 try clear hx381_0
 try clear hx382_0
 try clear hx383_0
 try clear p2
 try clear p380
 try clear p381
 try clear p382
 try clear p383
 try clear q380
 try clear q381
 try clear q382
 try clear q383
 obtain ⟨x17_3, x18_3, rfl, rfl, HA, HK3, HO_6, HO_7, HO_11, HB⟩ := hrel
 cases gk with
 | zero => exact absurd HA.out (by simp [laws_FnCensored.l2])
 | succ k3 =>
  skip
  {
 have H := HA.out
 clear HA
 simp only [laws_FnCensored.l2] at H
 by_cases c55 : x18_3 < (t372.size : Int)
 {
 rw [if_pos c55] at H
 have c55b0 : decide (x18_3 < (t372.size : Int)) = true := decide_eq_true c55
 clear c55
 by_cases c56 : 0 ≤ x18_3
 {
 rw [if_pos c56] at H
 have c56b0 : decide (0 ≤ x18_3) = true := decide_eq_true c56
 clear c56
 by_cases c58 : x18_3 < (t364.size : Int)
 {
 rw [if_pos c58] at H
 have c58b0 : decide (x18_3 < (t364.size : Int)) = true := decide_eq_true c58
 clear c58
 by_cases c60 : (bt t372 x18_3) = (bt t364 x18_3)
 {
 rw [if_pos c60] at H
 have c60b0 : ((bt t372 x18_3) == (bt t364 x18_3)) = true := beq_iff_eq.mpr c60
 have c60b1 : ((bt t372 x18_3) != (bt t364 x18_3)) = false := bne_eq_false_iff_eq.mpr c60
 clear c60
 have H' := Aside0.mk H
 clear H
 have p57 : 0 ≤ (x18_3 : Int) := of_decide_eq_true (by first | (with_reducible assumption) | assumption)
 have q57 : x18_3 < (t372.size : Int) := of_decide_eq_true (by first | (with_reducible assumption) | assumption)
 have hx57 := bt_at t372 x18_3
 replace p57 := eq_true p57
 replace q57 := eq_true q57
 have p59 : 0 ≤ (x18_3 : Int) := of_decide_eq_true (by first | (with_reducible assumption) | assumption)
 have q59 : x18_3 < (t364.size : Int) := of_decide_eq_true (by first | (with_reducible assumption) | assumption)
 have hx59 := bt_at t364 x18_3
 replace p59 := eq_true p59
 replace q59 := eq_true q59
 go_wp2
 repeat (go_quiet (fail); try go_wp2)
 go_roundg k3
 case measure => have := HJ9.out; have := HK2.out; have := HK3.out; omega
 case rel => exact ⟨(x17_3), (wrap64 (x18_3 + 1)), s1_, s1_, H', ⟨by have := HJ9.out; have := HK2.out; have := HK3.out; omega⟩, ⟨b2_ HO_6.out⟩, ⟨b2_ HO_7.out⟩, ⟨b2_ HO_11.out⟩, ⟨by repeat (first | (with_reducible first | exact HB.out | apply below_alloc | apply pw_below_drewN | apply below_drew1) | exact HB.out)⟩⟩}
 {
 rw [if_neg c60] at H
 have c60b0 : ((bt t372 x18_3) == (bt t364 x18_3)) = false := beq_eq_false_iff_ne.mpr c60
 have c60b1 : ((bt t372 x18_3) != (bt t364 x18_3)) = true := bne_iff_ne.mpr c60
 by_cases c62 : (bt t372 x18_3) = 42
 {
 rw [if_pos c62] at H
 have c62b0 : ((bt t372 x18_3) == 42) = true := beq_iff_eq.mpr c62
 have c62b1 : ((bt t372 x18_3) != 42) = false := bne_eq_false_iff_eq.mpr c62
 clear c62
 have H' := Aside0.mk H
 clear H
 have p57 : 0 ≤ (x18_3 : Int) := of_decide_eq_true (by first | (with_reducible assumption) | assumption)
 have q57 : x18_3 < (t372.size : Int) := of_decide_eq_true (by first | (with_reducible assumption) | assumption)
 have hx57 := bt_at t372 x18_3
 replace p57 := eq_true p57
 replace q57 := eq_true q57
 have p59 : 0 ≤ (x18_3 : Int) := of_decide_eq_true (by first | (with_reducible assumption) | assumption)
 have q59 : x18_3 < (t364.size : Int) := of_decide_eq_true (by first | (with_reducible assumption) | assumption)
 have hx59 := bt_at t364 x18_3
 replace p59 := eq_true p59
 replace q59 := eq_true q59
 have p61 : 0 ≤ (x18_3 : Int) := of_decide_eq_true (by first | (with_reducible assumption) | assumption)
 have q61 : x18_3 < (t372.size : Int) := of_decide_eq_true (by first | (with_reducible assumption) | assumption)
 have hx61 := bt_at t372 x18_3
 replace p61 := eq_true p61
 replace q61 := eq_true q61
 go_wp2
 repeat (go_quiet (fail); try go_wp2)
 go_roundg k3
 case measure => have := HJ9.out; have := HK2.out; have := HK3.out; omega
 case rel => exact ⟨(wrap64 (x17_3 + 1)), (wrap64 (x18_3 + 1)), s1_, s1_, H', ⟨by have := HJ9.out; have := HK2.out; have := HK3.out; omega⟩, ⟨b2_ HO_6.out⟩, ⟨b2_ HO_7.out⟩, ⟨b2_ HO_11.out⟩, ⟨by repeat (first | (with_reducible first | exact HB.out | apply below_alloc | apply pw_below_drewN | apply below_drew1) | exact HB.out)⟩⟩}
 {
 rw [if_neg c62] at H
 have c62b0 : ((bt t372 x18_3) == 42) = false := beq_eq_false_iff_ne.mpr c62
 have c62b1 : ((bt t372 x18_3) != 42) = true := bne_iff_ne.mpr c62
 obtain rfl := Option.some.inj H
 have p57 : 0 ≤ (x18_3 : Int) := of_decide_eq_true (by first | (with_reducible assumption) | assumption)
 have q57 : x18_3 < (t372.size : Int) := of_decide_eq_true (by first | (with_reducible assumption) | assumption)
 have hx57 := bt_at t372 x18_3
 replace p57 := eq_true p57
 replace q57 := eq_true q57
 have p59 : 0 ≤ (x18_3 : Int) := of_decide_eq_true (by first | (with_reducible assumption) | assumption)
 have q59 : x18_3 < (t364.size : Int) := of_decide_eq_true (by first | (with_reducible assumption) | assumption)
 have hx59 := bt_at t364 x18_3
 replace p59 := eq_true p59
 replace q59 := eq_true q59
 have p61 : 0 ≤ (x18_3 : Int) := of_decide_eq_true (by first | (with_reducible assumption) | assumption)
 have q61 : x18_3 < (t372.size : Int) := of_decide_eq_true (by first | (with_reducible assumption) | assumption)
 have hx61 := bt_at t372 x18_3
 replace p61 := eq_true p61
 replace q61 := eq_true q61
 go_wp2
 repeat (go_quiet (fail); try go_wp2)
 go_ret
 exact ⟨by first | rfl | (simp [errW_none, errW_some] <;> rfl) | (simp [*, errW_none, errW_some] <;> rfl), by repeat (first | (with_reducible first | exact HB.out | apply below_alloc | apply pw_below_drewN | apply below_drew1) | exact HB.out)⟩}}}
 {
 rw [if_neg c58] at H
 exact absurd H (by simp)}}
 {
 rw [if_neg c56] at H
 exact absurd H (by simp)}}
 {
 rw [if_neg c55] at H
 have c55b0 : decide (x18_3 < (t372.size : Int)) = false := decide_eq_false c55
 clear c55
 have H' := Aside0.mk H
 clear H
 go_wp2
 repeat (go_quiet (fail); try go_wp2)
 go_loopg [19, 20] k3 (fun kq v19 v20 w' => ∃ (x19_4 : Int) (x20_4 : Int), v19 = .int .i64 x19_4 ∧ v20 = .int .i64 x20_4 ∧ Aside0 (laws_FnCensored.l3 kq t365 t368 t374 x13_2 x17_3 x19_4 x20_4 = some r) ∧ Aside0 (kq ≤ k3) ∧ Aside0 (Kd.R Kd.string 9 w' w.heap.size (fun k_ => some k_ ≠ (v370 : Value).ownBlock ∧ some k_ ≠ (v376 : Value).ownBlock) (.slice Ao13 t365.length co13) t365) ∧ Aside0 (Kd.R Kd.string 9 w' w.heap.size (fun k_ => some k_ ≠ ((.slice Ao13 t365.length co13) : Value).ownBlock ∧ some k_ ≠ (v376 : Value).ownBlock) v370 t368) ∧ Aside0 (Kd.R Kd.string 9 w' w.heap.size (fun k_ => some k_ ≠ ((.slice Ao13 t365.length co13) : Value).ownBlock ∧ some k_ ≠ (v370 : Value).ownBlock) v376 t374) ∧ Aside0 (Below w.heap.size w w'))
 case atStart => exact ⟨(0), (0), s1_, s1_, H', ⟨Nat.le_refl _⟩, ⟨b2_ HO_6.out⟩, ⟨b2_ HO_7.out⟩, ⟨b2_ HO_11.out⟩, ⟨by repeat (first | (with_reducible first | exact HB.out | apply below_alloc | apply pw_below_drewN | apply below_drew1) | exact HB.out)⟩⟩
 case round =>
  skip
  {
 clear H'
 try clear c1
 try clear c2
 try clear p2
 try clear c3
 try clear p3
 try clear q3
 try clear hx3
 try clear c4
 try clear c5
 try clear p5
 try clear q5
 try clear hx5
 try clear c6
 try clear p6
 try clear q6
 try clear hx6
 try clear c9
 try clear c17
 try clear c18
 try clear c19
 try clear c21
 try clear c22
 try clear c22b0
 try clear c22b1
 try clear c22b2
 try clear c24
 try clear c24b0
 try clear c24b1
 try clear c24b2
 try clear c27
 try clear c27b0
 try clear c27b1
 try clear c27b2
 try clear c32
 try clear c33
 try clear c33b0
 try clear c34
 try clear c34b0
 try clear c35
 try clear c37
 try clear c37b0
 try clear c38
 try clear c38b0
 try clear p38
 try clear q38
 try clear hx38
 try clear c39
 try clear c39b0
 try clear c41
 try clear c42
 try clear c42b0
 try clear c45
 try clear c45b0
 try clear c46
 try clear c46b0
 try clear c47
 try clear c47b0
 try clear c48
 try clear c48b0
 try clear c49
 try clear c49b0
 try clear c49b1
 try clear c55
 try clear c55b0
 try clear c56
 try clear c56b0
 try clear p57
 try clear q57
 try clear hx57
 try clear c58
 try clear c58b0
 try clear p59
 try clear q59
 try clear hx59
 try clear c60
 try clear c60b0
 try clear c60b1
 try clear p61
 try clear q61
 try clear hx61
 try clear c62
 try clear c62b0
 try clear c62b1
 try clear hx380_0
 try clear hx381_0
 try clear hx382_0
 try clear hx383_0
 try clear p2
 try clear p3
 try clear p38
 try clear p380
 try clear p381
 try clear p382
 try clear p383
 try clear p57
 try clear p59
 try clear p6
 try clear p61
 try clear q3
 try clear q38
 try clear q380
 try clear q381
 try clear q382
 try clear q383
 try clear q57
 try clear q59
 try clear q61
 obtain ⟨x19_4, x20_4, rfl, rfl, HA, HK4, HO_6, HO_7, HO_11, HB⟩ := hrel
 cases gk with
 | zero => exact absurd HA.out (by simp [laws_FnCensored.l3])
 | succ k4 =>
  skip
  {
 have H := HA.out
 clear HA
 simp only [laws_FnCensored.l3] at H
 by_cases c63 : x20_4 < (t374.length : Int)
 {
 rw [if_pos c63] at H
 have c63b0 : decide (x20_4 < (t374.length : Int)) = true := decide_eq_true c63
 clear c63
 have H' := Aside0.mk H
 clear H
 obtain ⟨Ao64, co64, eo64⟩ := Kd.R_slice HO_11.out
 subst eo64
 go_wp2
 repeat (go_quiet (fail); try go_wp2)
 go_loopg [19, 21] k4 (fun kq v19 v21 w' => ∃ (x19_5 : Int) (x21_5 : Int), v19 = .int .i64 x19_5 ∧ v21 = .int .i64 x21_5 ∧ Aside0 (laws_FnCensored.l4 kq t365 t368 t374 x13_2 x17_3 x19_5 x20_4 x21_5 = some r) ∧ Aside0 (kq ≤ k4) ∧ Aside0 (Kd.R Kd.string 9 w' w.heap.size (fun k_ => some k_ ≠ (v370 : Value).ownBlock ∧ some k_ ≠ ((.slice Ao64 t374.length co64) : Value).ownBlock) (.slice Ao13 t365.length co13) t365) ∧ Aside0 (Kd.R Kd.string 9 w' w.heap.size (fun k_ => some k_ ≠ ((.slice Ao13 t365.length co13) : Value).ownBlock ∧ some k_ ≠ ((.slice Ao64 t374.length co64) : Value).ownBlock) v370 t368) ∧ Aside0 (Kd.R Kd.string 9 w' w.heap.size (fun k_ => some k_ ≠ ((.slice Ao13 t365.length co13) : Value).ownBlock ∧ some k_ ≠ (v370 : Value).ownBlock) (.slice Ao64 t374.length co64) t374) ∧ Aside0 (Below w.heap.size w w'))
 case atStart => exact ⟨(x19_4), (0), s1_, s1_, H', ⟨Nat.le_refl _⟩, ⟨b2_ HO_6.out⟩, ⟨b2_ HO_7.out⟩, ⟨b2_ HO_11.out⟩, ⟨by repeat (first | (with_reducible first | exact HB.out | apply below_alloc | apply pw_below_drewN | apply below_drew1) | exact HB.out)⟩⟩
 case round =>
  skip
  {
 clear H'
 try clear c1
 try clear c2
 try clear p2
 try clear c3
 try clear p3
 try clear q3
 try clear hx3
 try clear c4
 try clear c5
 try clear p5
 try clear q5
 try clear hx5
 try clear c6
 try clear p6
 try clear q6
 try clear hx6
 try clear c9
 try clear c17
 try clear c18
 try clear c19
 try clear c21
 try clear c22
 try clear c22b0
 try clear c22b1
 try clear c22b2
 try clear c24
 try clear c24b0
 try clear c24b1
 try clear c24b2
 try clear c27
 try clear c27b0
 try clear c27b1
 try clear c27b2
 try clear c32
 try clear c33
 try clear c33b0
 try clear c34
 try clear c34b0
 try clear c35
 try clear c37
 try clear c37b0
 try clear c38
 try clear c38b0
 try clear p38
 try clear q38
 try clear hx38
 try clear c39
 try clear c39b0
 try clear c41
 try clear c42
 try clear c42b0
 try clear c45
 try clear c45b0
 try clear c46
 try clear c46b0
 try clear c47
 try clear c47b0
 try clear c48
 try clear c48b0
 try clear c49
 try clear c49b0
 try clear c49b1
 try clear c55
 try clear c55b0
 try clear c56
 try clear c56b0
 try clear p57
 try clear q57
 try clear hx57
 try clear c58
 try clear c58b0
 try clear p59
 try clear q59
 try clear hx59
 try clear c60
 try clear c60b0
 try clear c60b1
 try clear p61
 try clear q61
 try clear hx61
 try clear c62
 try clear c62b0
 try clear c62b1
 try clear c63
 try clear c63b0
 try clear p64
 try clear hx380_0
 try clear hx381_0
 try clear hx382_0
 try clear hx383_0
 try clear p2
 try clear p3
 try clear p38
 try clear p380
 try clear p381
 try clear p382
 try clear p383
 try clear p5
 try clear p57
 try clear p59
 try clear p6
 try clear p61
 try clear q3
 try clear q38
 try clear q380
 try clear q381
 try clear q382
 try clear q383
 try clear q5
 try clear q57
 try clear q59
 try clear q6
 try clear q61
 obtain ⟨x19_5, x21_5, rfl, rfl, HA, HK5, HO_6, HO_7, HO_11, HB⟩ := hrel
 cases gk with
 | zero => exact absurd HA.out (by simp [laws_FnCensored.l4])
 | succ k5 =>
  skip
  {
 have H := HA.out
 clear HA
 simp only [laws_FnCensored.l4] at H
 by_cases c65 : x21_5 < (t365.length : Int)
 {
 rw [if_pos c65] at H
 have c65b0 : decide (x21_5 < (t365.length : Int)) = true := decide_eq_true c65
 clear c65
 by_cases c66 : 0 ≤ x20_4
 {
 rw [if_pos c66] at H
 have c66b0 : decide (0 ≤ x20_4) = true := decide_eq_true c66
 clear c66
 by_cases c67 : x20_4 < (t374.length : Int)
 {
 rw [if_pos c67] at H
 have c67b0 : decide (x20_4 < (t374.length : Int)) = true := decide_eq_true c67
 clear c67
 by_cases c68 : 0 ≤ x21_5
 {
 rw [if_pos c68] at H
 have c68b0 : decide (0 ≤ x21_5) = true := decide_eq_true c68
 clear c68
 by_cases c69 : (rdOf ByteArray.empty t374 x20_4).toList = (rdOf ByteArray.empty t365 x21_5).toList
 {
 rw [if_pos c69] at H
 have c69b0 : ((rdOf ByteArray.empty t374 x20_4).toList == (rdOf ByteArray.empty t365 x21_5).toList) = true := beq_iff_eq.mpr c69
 have c69b1 : ((rdOf ByteArray.empty t374 x20_4).toList != (rdOf ByteArray.empty t365 x21_5).toList) = false := bne_eq_false_iff_eq.mpr c69
 clear c69
 have H' := Aside0.mk H
 clear H
 have p384 : 0 ≤ (x20_4 : Int) := of_decide_eq_true (by first | (with_reducible assumption) | assumption)
 have q384 : x20_4 < (t374.length : Int) := of_decide_eq_true (by first | (with_reducible assumption) | assumption)
 obtain ⟨ad384, e384, hx384_0⟩ := Kd.at_string (Kd.R_reads' HO_11.out).2.2 x20_4 p384 q384
 cases e384
 replace p384 := eq_true p384
 replace q384 := eq_true q384
 have p385 : 0 ≤ (x21_5 : Int) := of_decide_eq_true (by first | (with_reducible assumption) | assumption)
 have q385 : x21_5 < (t365.length : Int) := of_decide_eq_true (by first | (with_reducible assumption) | assumption)
 obtain ⟨ad385, e385, hx385_0⟩ := Kd.at_string (Kd.R_reads' HO_6.out).2.2 x21_5 p385 q385
 cases e385
 replace p385 := eq_true p385
 replace q385 := eq_true q385
 have p386 : 0 ≤ (x20_4 : Int) := of_decide_eq_true (by first | (with_reducible assumption) | assumption)
 have q386 : x20_4 < (t374.length : Int) := of_decide_eq_true (by first | (with_reducible assumption) | assumption)
 obtain ⟨ad386, e386, hx386_0⟩ := Kd.at_string (Kd.R_reads' HO_11.out).2.2 x20_4 p386 q386
 obtain rfl : ad384 = ad386 := (by injection e386)
 replace p386 := eq_true p386
 replace q386 := eq_true q386
 go_wp2
 repeat (go_quiet (fail); try go_wp2)
 go_roundg k5
 case measure => have := HJ9.out; have := HK2.out; have := HK3.out; have := HK4.out; have := HK5.out; omega
 case rel => exact ⟨(wrap64 (x19_5 + (wrap64 (((rdOf ByteArray.empty t374 x20_4).size : Int) - 1)))), (wrap64 (x21_5 + 1)), s1_, s1_, H', ⟨by have := HJ9.out; have := HK2.out; have := HK3.out; have := HK4.out; have := HK5.out; omega⟩, ⟨b2_ HO_6.out⟩, ⟨b2_ HO_7.out⟩, ⟨b2_ HO_11.out⟩, ⟨by repeat (first | (with_reducible first | exact HB.out | apply below_alloc | apply pw_below_drewN | apply below_drew1) | exact HB.out)⟩⟩}
 {
 rw [if_neg c69] at H
 have c69b0 : ((rdOf ByteArray.empty t374 x20_4).toList == (rdOf ByteArray.empty t365 x21_5).toList) = false := beq_eq_false_iff_ne.mpr c69
 have c69b1 : ((rdOf ByteArray.empty t374 x20_4).toList != (rdOf ByteArray.empty t365 x21_5).toList) = true := bne_iff_ne.mpr c69
 have H' := Aside0.mk H
 clear H
 have p384 : 0 ≤ (x20_4 : Int) := of_decide_eq_true (by first | (with_reducible assumption) | assumption)
 have q384 : x20_4 < (t374.length : Int) := of_decide_eq_true (by first | (with_reducible assumption) | assumption)
 obtain ⟨ad384, e384, hx384_0⟩ := Kd.at_string (Kd.R_reads' HO_11.out).2.2 x20_4 p384 q384
 cases e384
 replace p384 := eq_true p384
 replace q384 := eq_true q384
 have p385 : 0 ≤ (x21_5 : Int) := of_decide_eq_true (by first | (with_reducible assumption) | assumption)
 have q385 : x21_5 < (t365.length : Int) := of_decide_eq_true (by first | (with_reducible assumption) | assumption)
 obtain ⟨ad385, e385, hx385_0⟩ := Kd.at_string (Kd.R_reads' HO_6.out).2.2 x21_5 p385 q385
 cases e385
 replace p385 := eq_true p385
 replace q385 := eq_true q385
 go_wp2
 repeat (go_quiet (fail); try go_wp2)
 go_roundg k5
 case measure => have := HJ9.out; have := HK2.out; have := HK3.out; have := HK4.out; have := HK5.out; omega
 case rel => exact ⟨(x19_5), (wrap64 (x21_5 + 1)), s1_, s1_, H', ⟨by have := HJ9.out; have := HK2.out; have := HK3.out; have := HK4.out; have := HK5.out; omega⟩, ⟨b2_ HO_6.out⟩, ⟨b2_ HO_7.out⟩, ⟨b2_ HO_11.out⟩, ⟨by repeat (first | (with_reducible first | exact HB.out | apply below_alloc | apply pw_below_drewN | apply below_drew1) | exact HB.out)⟩⟩}}
 {
 rw [if_neg c68] at H
 exact absurd H (by simp)}}
 {
 rw [if_neg c67] at H
 exact absurd H (by simp)}}
 {
 rw [if_neg c66] at H
 exact absurd H (by simp)}}
 {
 rw [if_neg c65] at H
 have c65b0 : decide (x21_5 < (t365.length : Int)) = false := decide_eq_false c65
 clear c65
 have H' := Aside0.mk H
 clear H
 go_wp2
 repeat (go_quiet (fail); try go_wp2)
 go_roundg k5
 case measure => have := HJ9.out; have := HK2.out; have := HK3.out; have := HK4.out; have := HK5.out; omega
 case rel => exact ⟨(x19_5), (wrap64 (x20_4 + 1)), s1_, s1_, H', ⟨by have := HJ9.out; have := HK2.out; have := HK3.out; have := HK4.out; have := HK5.out; omega⟩, ⟨b2_ HO_6.out⟩, ⟨b2_ HO_7.out⟩, ⟨b2_ HO_11.out⟩, ⟨by repeat (first | (with_reducible first | exact HB.out | apply below_alloc | apply pw_below_drewN | apply below_drew1) | exact HB.out)⟩⟩}}}}
 {
 rw [if_neg c63] at H
 have c63b0 : decide (x20_4 < (t374.length : Int)) = false := decide_eq_false c63
 clear c63
 by_cases c70 : x13_2 = (t368.length : Int)
 {
 rw [if_pos c70] at H
 have c70b0 : (x13_2 == (t368.length : Int)) = true := beq_iff_eq.mpr c70
 have c70b1 : (x13_2 != (t368.length : Int)) = false := bne_eq_false_iff_eq.mpr c70
 clear c70
 obtain rfl := Option.some.inj H
 obtain ⟨Ao71, co71, eo71⟩ := Kd.R_slice HO_11.out
 subst eo71
 obtain ⟨Ao72, co72, eo72⟩ := Kd.R_slice HO_7.out
 subst eo72
 go_wp2
 repeat (go_quiet (fail); try go_wp2)
 go_ret
 exact ⟨by first | rfl | (simp [errW_none, errW_some] <;> rfl) | (simp [*, errW_none, errW_some] <;> rfl), by repeat (first | (with_reducible first | exact HB.out | apply below_alloc | apply pw_below_drewN | apply below_drew1) | exact HB.out)⟩}
 {
 rw [if_neg c70] at H
 have c70b0 : (x13_2 == (t368.length : Int)) = false := beq_eq_false_iff_ne.mpr c70
 have c70b1 : (x13_2 != (t368.length : Int)) = true := bne_iff_ne.mpr c70
 obtain rfl := Option.some.inj H
 obtain ⟨Ao73, co73, eo73⟩ := Kd.R_slice HO_11.out
 subst eo73
 obtain ⟨Ao74, co74, eo74⟩ := Kd.R_slice HO_7.out
 subst eo74
 go_wp2
 repeat (go_quiet (fail); try go_wp2)
 go_ret
 exact ⟨by first | rfl | (simp [errW_none, errW_some] <;> rfl) | (simp [*, errW_none, errW_some] <;> rfl), by repeat (first | (with_reducible first | exact HB.out | apply below_alloc | apply pw_below_drewN | apply below_drew1) | exact HB.out)⟩}}}}}}}}}}}}}}

/-- THE ONE PURE STATEMENT of laws_FnCensored: yours. -/
def laws_FnCensored.Pure : Prop := ∀ (l0 : List Int) (l1 : List Int), l0.length ≤ maxLen → l0.length * 1 ≤ 140737488351232 → (∀ x ∈ l0, (Lit.int .u8 x).wf = true) → l1.length ≤ maxLen → l1.length * 1 ≤ 140737488351232 → (∀ x ∈ l1, (Lit.int .u8 x).wf = true) → ∃ k, laws_FnCensored.f k l0 l1 = some true
theorem laws_FnCensored.walk (P : laws_FnCensored.Pure) (a0 : Option Addr) (len0 cap0 : Nat) (z0 : List Int) (a1 : Option Addr) (len1 cap1 : Nat) (z1 : List Int) (w : World) (w0 : (a0 = none ∧ len0 = 0 ∧ cap0 = 0 ∧ z0 = []) ∨ ∃ x, a0 = some x ∧ len0 ≤ cap0 ∧ cap0 ≤ maxLen ∧ z0.length = cap0 ∧ (∀ i, i < z0.length → w.cell? (x.add i) = some (.int .u8 (z0.getD i 0))) ∧ ∀ n ∈ z0, (Lit.int .u8 n).wf = true) (y0 : len0 * 1 ≤ 140737488351232) (w1 : (a1 = none ∧ len1 = 0 ∧ cap1 = 0 ∧ z1 = []) ∨ ∃ x, a1 = some x ∧ len1 ≤ cap1 ∧ cap1 ≤ maxLen ∧ z1.length = cap1 ∧ (∀ i, i < z1.length → w.cell? (x.add i) = some (.int .u8 (z1.getD i 0))) ∧ ∀ n ∈ z1, (Lit.int .u8 n).wf = true) (y1 : len1 * 1 ≤ 140737488351232) :
    Calls Try.prog 9 #[.slice a0 len0 cap0, .slice a1 len1 cap1] w fun e w' => e = .returned (.bool true) ∧ Below w.heap.size w w' := by
  obtain ⟨l0, rfl, hr0, hm0, hw0, hc0⟩ := ReadsInt.ofRowC w0
  obtain ⟨l1, rfl, hr1, hm1, hw1, hc1⟩ := ReadsInt.ofRowC w1
  obtain ⟨k, h⟩ := P l0 l1 hm0 y0 hw0 hm1 y1 hw1
  refine (laws_FnCensored.calls k _ _ l0 _ _ l1 true w (Kd.C_of_reads (d := (0 : Int)) (h1 := fun _ => rfl) hr0) hc0 (Kd.C_of_reads (d := (0 : Int)) (h1 := fun _ => rfl) hr1) hc1 h).mono ?_
  rintro e w' ⟨rfl, hd⟩
  exact ⟨rfl, hd⟩

end Go.Proofs.Ytjfaepolmllejaa.QFnCensored
