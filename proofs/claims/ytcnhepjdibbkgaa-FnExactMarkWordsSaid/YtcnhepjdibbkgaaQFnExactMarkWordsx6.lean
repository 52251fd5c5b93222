-- written by a program of this session, on the lines of the kit's print
import Derived.Test.YtcnhepjdibbkgaaQFnExactMarkWordsx0
import Derived.Test.YtcnhepjdibbkgaaQFnExactMarkWordsx3
import Derived.Test.YtcnhepjdibbkgaaQFnExactMarkWordsx4
import Derived.Test.YtcnhepjdibbkgaaQFnExactMarkWordsx5
namespace Go.Proofs.Ytcnhepjdibbkgaa.QFnExactMarkWords
open Go.RowKit Go.Proofs.YtcnhepjdibbkgaaW.PrintWords Go.Proofs.YtcnhepjdibbkgaaW.PrintLast Go.Proofs.YtcnhepjdibbkgaaW.PrintMore
attribute [local go_sem] max2_int min2_int max_two min_two max_three min_three max_four min_four   -- for this text's walks alone
set_option linter.unusedVariables false
set_option linter.unusedSimpArgs false

/-! ### spec_MarkWords: function 29 -/
abbrev spec_MarkWords.T : Bool := true
abbrev spec_MarkWords.F : Bool := false
theorem spec_MarkWords.s1_ {P : Prop} (h : P := by first | rfl | (simp; done) | (simp [*]; done)) : P := h
theorem spec_MarkWords.s2_ {P : Prop} (h : P := by kernel_rfl) : P := h
theorem spec_MarkWords.s3_ {P : Prop} (h : P := by (try simp only [List.map_toArray, List.map_cons, List.map_nil]); first | done | rfl | (simp only [List.length_drop, List.length_take]; rfl)) : P := h
theorem spec_MarkWords.y1_ {P Q : Prop} (q : Q) (h : Q → P := by intro q_; repeat (first | (with_reducible first | exact q_ | apply below_alloc | apply pw_below_drewN | apply below_drew1) | exact q_)) : P := h q
theorem spec_MarkWords.y2_ {P Q : Prop} (q : Q) (h : Q → P := by intro q_; repeat (first | exact q_ | (with_reducible refine Kd.C_alloc ?_ _) | (with_reducible refine Kd.C_drewN ?_ _) | (with_reducible refine Kd.C_drew ?_))) : P := h q
mutual
def spec_MarkWords.j0 : Nat → ByteArray → List ByteArray → Bool → Option (ByteArray × Bool)
  | 0, _, _, _ => none
  | k + 1, x0, x1, x17 => if x17 = true then (some ((⟨#[]⟩ : ByteArray), false)) else (spec_MarkWords.l0 k x0 x1 (⟨#[]⟩ : ByteArray) 0)
def spec_MarkWords.l0 : Nat → ByteArray → List ByteArray → ByteArray → Int → Option (ByteArray × Bool)
  | 0, _, _, _, _ => none
  | k + 1, x0, x1, x6, x7 => if x7 < (x0.size : Int) then ((spec_l06End.f k x0 x7).bind fun t148 => (if t148 = x7 then (if 0 ≤ x7 then (if x7 ≤ (wrap64 (x7 + 1)) then (if (wrap64 (x7 + 1)) ≤ (x0.size : Int) then (if x6.size + (x0.extract (x7 : Int).toNat ((wrap64 (x7 + 1)) : Int).toNat).size ≤ 9223372036854775807 then (spec_MarkWords.l0 k x0 x1 (x6 ++ (x0.extract (x7 : Int).toNat ((wrap64 (x7 + 1)) : Int).toNat)) (wrap64 (x7 + 1))) else (none)) else (none)) else (none)) else (none)) else (if 0 ≤ x7 then (if x7 ≤ t148 then (if t148 ≤ (x0.size : Int) then ((spec_l06Word.f k (x0.extract (x7 : Int).toNat (t148 : Int).toNat)).bind fun t149 => ((spec_l06Has.f k x1 t149).bind fun t150 => (if t150 = true then (if 1 + (x0.extract (x7 : Int).toNat (t148 : Int).toNat).size ≤ 9223372036854775807 then (if ((⟨#[91]⟩ : ByteArray) ++ (x0.extract (x7 : Int).toNat (t148 : Int).toNat)).size + 1 ≤ 9223372036854775807 then (if x6.size + (((⟨#[91]⟩ : ByteArray) ++ (x0.extract (x7 : Int).toNat (t148 : Int).toNat)) ++ (⟨#[93]⟩ : ByteArray)).size ≤ 9223372036854775807 then (spec_MarkWords.l0 k x0 x1 (x6 ++ (((⟨#[91]⟩ : ByteArray) ++ (x0.extract (x7 : Int).toNat (t148 : Int).toNat)) ++ (⟨#[93]⟩ : ByteArray))) t148) else (none)) else (none)) else (none)) else (if x6.size + (x0.extract (x7 : Int).toNat (t148 : Int).toNat).size ≤ 9223372036854775807 then (spec_MarkWords.l0 k x0 x1 (x6 ++ (x0.extract (x7 : Int).toNat (t148 : Int).toNat)) t148) else (none))))) else (none)) else (none)) else (none)))) else (some (x6, true))
end
def spec_MarkWords.f (k : Nat) (a0 : ByteArray) (l1 : List ByteArray) : Option (ByteArray × Bool) := (spec_IsText.f k a0).bind fun t146 => (if t146 = true then ((spec_l08Query.f k l1).bind fun t147 => (spec_MarkWords.j0 k a0 l1 (!t147))) else (spec_MarkWords.j0 k a0 l1 true))
theorem spec_MarkWords.mono_l : ∀ k, (∀ y0 y1 y2, LeO (spec_MarkWords.j0 k y0 y1 y2) (spec_MarkWords.j0 (k + 1) y0 y1 y2)) ∧ (∀ y0 y1 y2 y3, LeO (spec_MarkWords.l0 k y0 y1 y2 y3) (spec_MarkWords.l0 (k + 1) y0 y1 y2 y3))
  | 0 => ⟨fun _ _ _ r h => by simp [spec_MarkWords.j0] at h, fun _ _ _ _ r h => by simp [spec_MarkWords.l0] at h⟩
  | k + 1 => by
    obtain ⟨ih0, ih1⟩ := spec_MarkWords.mono_l k
    refine ⟨?_, ?_⟩
    · intro y0 y1 y2
      unfold spec_MarkWords.j0
      repeat' first
      | (with_reducible exact ih0 _ _ _)
      | (with_reducible exact ih1 _ _ _ _)
      | (with_reducible exact spec_IsText.mono _ _)
      | (with_reducible exact spec_l06End.mono _ _ _)
      | (with_reducible exact spec_l06Has.mono _ _ _)
      | (with_reducible exact spec_l06Word.mono _ _)
      | (with_reducible exact spec_l08Query.mono _ _)
      | (with_reducible exact LeO.refl _)
      | (with_reducible exact LeO.none _)
      | (with_reducible refine LeO.ite ?_ ?_)
      | (with_reducible refine LeO.bind ?_ (fun _ => ?_))
      | exact ih0 _ _ _
      | exact ih1 _ _ _ _
      | exact spec_IsText.mono _ _
      | exact spec_l06End.mono _ _ _
      | exact spec_l06Has.mono _ _ _
      | exact spec_l06Word.mono _ _
      | exact spec_l08Query.mono _ _
      | exact LeO.none _
      | refine LeO.ite ?_ ?_
      | refine LeO.bind ?_ (fun _ => ?_)
    · intro y0 y1 y2 y3
      unfold spec_MarkWords.l0
      repeat' first
      | (with_reducible exact ih0 _ _ _)
      | (with_reducible exact ih1 _ _ _ _)
      | (with_reducible exact spec_IsText.mono _ _)
      | (with_reducible exact spec_l06End.mono _ _ _)
      | (with_reducible exact spec_l06Has.mono _ _ _)
      | (with_reducible exact spec_l06Word.mono _ _)
      | (with_reducible exact spec_l08Query.mono _ _)
      | (with_reducible exact LeO.refl _)
      | (with_reducible exact LeO.none _)
      | (with_reducible refine LeO.ite ?_ ?_)
      | (with_reducible refine LeO.bind ?_ (fun _ => ?_))
      | exact ih0 _ _ _
      | exact ih1 _ _ _ _
      | exact spec_IsText.mono _ _
      | exact spec_l06End.mono _ _ _
      | exact spec_l06Has.mono _ _ _
      | exact spec_l06Word.mono _ _
      | exact spec_l08Query.mono _ _
      | exact LeO.none _
      | refine LeO.ite ?_ ?_
      | refine LeO.bind ?_ (fun _ => ?_)
theorem spec_MarkWords.mono : ∀ a0 a1 k, LeO (spec_MarkWords.f k a0 a1) (spec_MarkWords.f (k + 1) a0 a1) := by
  intro a0 a1 k
  obtain ⟨ih0, ih1⟩ := spec_MarkWords.mono_l k
  unfold spec_MarkWords.f
  repeat' first
      | (with_reducible exact ih0 _ _ _)
      | (with_reducible exact ih1 _ _ _ _)
      | (with_reducible exact spec_IsText.mono _ _)
      | (with_reducible exact spec_l06End.mono _ _ _)
      | (with_reducible exact spec_l06Has.mono _ _ _)
      | (with_reducible exact spec_l06Word.mono _ _)
      | (with_reducible exact spec_l08Query.mono _ _)
      | (with_reducible exact LeO.refl _)
      | (with_reducible exact LeO.none _)
      | (with_reducible refine LeO.ite ?_ ?_)
      | (with_reducible refine LeO.bind ?_ (fun _ => ?_))
      | exact ih0 _ _ _
      | exact ih1 _ _ _ _
      | exact spec_IsText.mono _ _
      | exact spec_l06End.mono _ _ _
      | exact spec_l06Has.mono _ _ _
      | exact spec_l06Word.mono _ _
      | exact spec_l08Query.mono _ _
      | exact LeO.none _
      | refine LeO.ite ?_ ?_
      | refine LeO.bind ?_ (fun _ => ?_)
set_option maxHeartbeats 8000000 in
set_option maxRecDepth 100000 in
theorem spec_MarkWords.calls (k : Nat) (a0 : ByteArray) (A1 : Option Addr) (c1 : Nat) (l1 : List ByteArray) (r1 : ByteArray) (r2 : Bool) (w : World) (hr1 : Kd.C Kd.string w A1 l1.length l1) (hc1 : l1.length ≤ c1) (h : spec_MarkWords.f k a0 l1 = some (r1, r2)) :
    Calls Try.prog 29 #[.string a0, .slice A1 l1.length c1] w fun e w' => e = .returned (.tuple #[.string r1, .bool r2]) ∧ Below w.heap.size w w' := by
 have HR1 := Aside0.mk hr1
 have HC1 := Aside0.mk hc1
 clear hr1 hc1
 have HB := Aside0.mk (Below.refl w.heap.size w)
 have H : ((spec_IsText.f k a0).bind fun t146 => (if t146 = true then ((spec_l08Query.f k l1).bind fun t147 => (spec_MarkWords.j0 k a0 l1 (!t147))) else (spec_MarkWords.j0 k a0 l1 true))) = some (r1, r2) := h
 clear h
 have HC3 := Aside0.mk H
 clear H
 go_enter Try.func29, Try.ntmps29
 go_upto_region 1 with (fail)
 go_cut [17] (fun v17 wc => ∃ (kq : Nat) (x17_2 : Bool), v17 = .bool x17_2 ∧ Aside0 (spec_MarkWords.j0 kq a0 l1 x17_2 = some (r1, r2)) ∧ Aside0 (kq ≤ k) ∧ Aside0 (Below w.heap.size w wc))
 case first =>
  skip
  {
 have H := HC3.out
 clear HC3
 replace H := Option.bind_eq_some_iff.mp H
 obtain ⟨t146, A40, H⟩ := H
 replace H : (if t146 = true then ((spec_l08Query.f k l1).bind fun t147 => (spec_MarkWords.j0 k a0 l1 (!t147))) else (spec_MarkWords.j0 k a0 l1 true)) = some (r1, r2) := H
 have A4 := Aside0.mk A40
 clear A40
 by_cases c5 : t146 = true
 {
 subst c5
 have H1 : ((spec_l08Query.f k l1).bind fun t147 => (spec_MarkWords.j0 k a0 l1 (!t147))) = some (r1, r2) := by rw [if_pos rfl] at H; exact H
 clear H
 have H := H1
 clear H1
 replace H := Option.bind_eq_some_iff.mp H
 obtain ⟨t147, A60, H⟩ := H
 replace H : (spec_MarkWords.j0 k a0 l1 (!t147)) = some (r1, r2) := H
 have A6 := Aside0.mk A60
 clear A60
 have H' := Aside0.mk H
 clear H
 go_wp2_with (first | ((with_reducible refine gate_callee (f := 66) rfl ?_); refine goesL_ (some 11) rfl rfl Try.func66 s2_ rfl #[.string a0] rfl s3_ ?_; (with_reducible refine (spec_IsText.calls k a0 true _ A4.out).mono ?_); rintro e w' ⟨rfl, ⟨nd, rfl⟩⟩; refine ⟨_, rfl, ?_⟩) | (go_at_call 67; (with_reducible refine (spec_l08Query.calls k _ _ l1 t147 _ ?side1 ?side2 A6.out).mono ?_); (case side1 => exact y2_ (Kd.C_below HR1.out (y1_ HB.out))); (case side2 => exact HC1.out); rintro e w' ⟨rfl, ⟨nd, rfl⟩⟩))
 go_meet
 case rel => exact ⟨_, (!t147), s1_, H', ⟨by first | omega | exact Nat.le_refl _⟩, ⟨by repeat (first | (with_reducible first | exact HB.out | apply below_alloc | apply pw_below_drewN | apply below_drew1) | exact HB.out)⟩⟩}
 {
 replace c5 := Bool.eq_false_iff.mpr c5
 subst c5
 have H1 : (spec_MarkWords.j0 k a0 l1 true) = some (r1, r2) := by rw [if_neg (show ¬ (false = true) by decide)] at H; exact H
 clear H
 have H := H1
 clear H1
 have H' := Aside0.mk H
 clear H
 go_wp2_with (first | ((with_reducible refine gate_callee (f := 66) rfl ?_); refine goesL_ (some 11) rfl rfl Try.func66 s2_ rfl #[.string a0] rfl s3_ ?_; (with_reducible refine (spec_IsText.calls k a0 false _ A4.out).mono ?_); rintro e w' ⟨rfl, ⟨nd, rfl⟩⟩; refine ⟨_, rfl, ?_⟩))
 go_meet
 case rel => exact ⟨_, (true), s1_, H', ⟨by first | omega | exact Nat.le_refl _⟩, ⟨by repeat (first | (with_reducible first | exact HB.out | apply below_alloc | apply pw_below_drewN | apply below_drew1) | exact HB.out)⟩⟩}}
 case rest =>
  skip
  {
 clear HC3
 try clear c1
 try clear c2
 try clear p2
 try clear c5
 try clear c6
 obtain ⟨kq, x17_2, rfl, HA, HJ2, HB⟩ := hcut
 cases kq with
 | zero => exact absurd HA.out (by simp [spec_MarkWords.j0])
 | succ kj2 =>
  skip
  {
 have H := HA.out
 clear HA
 simp only [spec_MarkWords.j0] at H
 by_cases c7 : x17_2 = true
 {
 subst c7
 have H1 : (some ((⟨#[]⟩ : ByteArray), false)) = some (r1, r2) := by rw [if_pos rfl] at H; exact H
 clear H
 have H := H1
 clear H1
 simp only [Option.some.injEq, Prod.mk.injEq] at H
 obtain ⟨rfl, rfl⟩ := H
 go_wp2
 go_ret2
 exact ⟨by first | rfl | (simp [errW_none, errW_some] <;> rfl) | (simp [*, errW_none, errW_some] <;> rfl), by repeat (first | (with_reducible first | exact HB.out | apply below_alloc | apply pw_below_drewN | apply below_drew1) | exact HB.out)⟩}
 {
 replace c7 := Bool.eq_false_iff.mpr c7
 subst c7
 have H1 : (spec_MarkWords.l0 kj2 a0 l1 (⟨#[]⟩ : ByteArray) 0) = some (r1, r2) := by rw [if_neg (show ¬ (false = true) by decide)] at H; exact H
 clear H
 have H := H1
 clear H1
 have H' := Aside0.mk H
 clear H
 go_wp2
 go_loopg [6, 7] kj2 (fun kq v6 v7 w' => ∃ (x6_2 : ByteArray) (x7_2 : Int), v6 = .string x6_2 ∧ v7 = .int .i64 x7_2 ∧ Aside0 (spec_MarkWords.l0 kq a0 l1 x6_2 x7_2 = some (r1, r2)) ∧ Aside0 (kq ≤ kj2) ∧ Aside0 (Below w.heap.size w w'))
 case atStart => exact ⟨((⟨#[]⟩ : ByteArray)), (0), s1_, s1_, H', ⟨Nat.le_refl _⟩, ⟨by repeat (first | (with_reducible first | exact HB.out | apply below_alloc | apply pw_below_drewN | apply below_drew1) | exact HB.out)⟩⟩
 case round =>
  skip
  {
 clear H'
 try clear c1
 try clear c2
 try clear p2
 try clear c5
 try clear c6
 try clear c7
 try clear p2
 obtain ⟨x6_2, x7_2, rfl, rfl, HA, HK2, HB⟩ := hrel
 cases gk with
 | zero => exact absurd HA.out (by simp [spec_MarkWords.l0])
 | succ k2 =>
  skip
  {
 have H := HA.out
 clear HA
 simp only [spec_MarkWords.l0] at H
 by_cases c8 : x7_2 < (a0.size : Int)
 {
 rw [if_pos c8] at H
 have c8b0 : decide (x7_2 < (a0.size : Int)) = true := decide_eq_true c8
 clear c8
 replace H := Option.bind_eq_some_iff.mp H
 obtain ⟨t148, A90, H⟩ := H
 replace H : (if t148 = x7_2 then (if 0 ≤ x7_2 then (if x7_2 ≤ (wrap64 (x7_2 + 1)) then (if (wrap64 (x7_2 + 1)) ≤ (a0.size : Int) then (if x6_2.size + (a0.extract (x7_2 : Int).toNat ((wrap64 (x7_2 + 1)) : Int).toNat).size ≤ 9223372036854775807 then (spec_MarkWords.l0 k2 a0 l1 (x6_2 ++ (a0.extract (x7_2 : Int).toNat ((wrap64 (x7_2 + 1)) : Int).toNat)) (wrap64 (x7_2 + 1))) else (none)) else (none)) else (none)) else (none)) else (if 0 ≤ x7_2 then (if x7_2 ≤ t148 then (if t148 ≤ (a0.size : Int) then ((spec_l06Word.f k2 (a0.extract (x7_2 : Int).toNat (t148 : Int).toNat)).bind fun t149 => ((spec_l06Has.f k2 l1 t149).bind fun t150 => (if t150 = true then (if 1 + (a0.extract (x7_2 : Int).toNat (t148 : Int).toNat).size ≤ 9223372036854775807 then (if ((⟨#[91]⟩ : ByteArray) ++ (a0.extract (x7_2 : Int).toNat (t148 : Int).toNat)).size + 1 ≤ 9223372036854775807 then (if x6_2.size + (((⟨#[91]⟩ : ByteArray) ++ (a0.extract (x7_2 : Int).toNat (t148 : Int).toNat)) ++ (⟨#[93]⟩ : ByteArray)).size ≤ 9223372036854775807 then (spec_MarkWords.l0 k2 a0 l1 (x6_2 ++ (((⟨#[91]⟩ : ByteArray) ++ (a0.extract (x7_2 : Int).toNat (t148 : Int).toNat)) ++ (⟨#[93]⟩ : ByteArray))) t148) else (none)) else (none)) else (none)) else (if x6_2.size + (a0.extract (x7_2 : Int).toNat (t148 : Int).toNat).size ≤ 9223372036854775807 then (spec_MarkWords.l0 k2 a0 l1 (x6_2 ++ (a0.extract (x7_2 : Int).toNat (t148 : Int).toNat)) t148) else (none))))) else (none)) else (none)) else (none))) = some (r1, r2) := H
 have A9 := Aside0.mk A90
 clear A90
 by_cases c10 : t148 = x7_2
 {
 rw [if_pos c10] at H
 have c10b0 : (t148 == x7_2) = true := beq_iff_eq.mpr c10
 have c10b1 : (t148 != x7_2) = false := bne_eq_false_iff_eq.mpr c10
 clear c10
 by_cases c11 : 0 ≤ x7_2
 {
 rw [if_pos c11] at H
 have c11b0 := eq_true c11
 have c11b1 : decide (0 ≤ x7_2) = true := decide_eq_true c11
 clear c11
 by_cases c12 : x7_2 ≤ (wrap64 (x7_2 + 1))
 {
 rw [if_pos c12] at H
 have c12b0 := eq_true c12
 have c12b1 : decide (x7_2 ≤ (wrap64 (x7_2 + 1))) = true := decide_eq_true c12
 by_cases c13 : (wrap64 (x7_2 + 1)) ≤ (a0.size : Int)
 {
 rw [if_pos c13] at H
 have c13b0 := eq_true c13
 have c13b1 : decide ((wrap64 (x7_2 + 1)) ≤ (a0.size : Int)) = true := decide_eq_true c13
 by_cases c14 : x6_2.size + (a0.extract (x7_2 : Int).toNat ((wrap64 (x7_2 + 1)) : Int).toNat).size ≤ 9223372036854775807
 {
 rw [if_pos c14] at H
 have c14b0 := eq_true c14
 have c14b1 : decide (x6_2.size + (a0.extract (x7_2 : Int).toNat ((wrap64 (x7_2 + 1)) : Int).toNat).size ≤ 9223372036854775807) = true := decide_eq_true c14
 try have c14b2 : (9223372036854775807 < x6_2.size + (a0.extract (x7_2 : Int).toNat ((wrap64 (x7_2 + 1)) : Int).toNat).size) = False := eq_false (Nat.not_lt.2 c14)
 try have c14b4 : (9223372036854775807 < x6_2.size + ((((wrap64 (x7_2 + 1)) : Int).toNat - (x7_2 : Int).toNat))) = False := eq_false (by have h0_ := of_eq_true c11b0; (try simp only [ByteArray.size_append, ByteArray.size_extract] at h0_); have h1_ := of_eq_true c12b0; (try simp only [ByteArray.size_append, ByteArray.size_extract] at h1_); have h2_ := of_eq_true c13b0; (try simp only [ByteArray.size_append, ByteArray.size_extract] at h2_); have h3_ := of_eq_true c14b0; (try simp only [ByteArray.size_append, ByteArray.size_extract] at h3_); omega)
 have H' := Aside0.mk H
 clear H
 go_wp2_with (first | ((with_reducible refine gate_callee (f := 69) rfl ?_); refine goesL_ (some 24) rfl rfl Try.func69 s2_ rfl #[.string a0, .int .i64 x7_2] rfl s3_ ?_; (with_reducible refine (spec_l06End.calls k2 a0 x7_2 t148 _ A9.out).mono ?_); rintro e w' ⟨rfl, ⟨nd, rfl⟩⟩; refine ⟨_, rfl, ?_⟩))
 go_roundg k2
 case measure => have := HJ2.out; have := HK2.out; omega
 case rel => exact ⟨(x6_2 ++ (a0.extract (x7_2 : Int).toNat ((wrap64 (x7_2 + 1)) : Int).toNat)), (wrap64 (x7_2 + 1)), s1_, s1_, H', ⟨by have := HJ2.out; have := HK2.out; omega⟩, ⟨by repeat (first | (with_reducible first | exact HB.out | apply below_alloc | apply pw_below_drewN | apply below_drew1) | exact HB.out)⟩⟩}
 {
 rw [if_neg c14] at H
 exact absurd H (by simp)}}
 {
 rw [if_neg c13] at H
 exact absurd H (by simp)}}
 {
 rw [if_neg c12] at H
 exact absurd H (by simp)}}
 {
 rw [if_neg c11] at H
 exact absurd H (by simp)}}
 {
 rw [if_neg c10] at H
 have c10b0 : (t148 == x7_2) = false := beq_eq_false_iff_ne.mpr c10
 have c10b1 : (t148 != x7_2) = true := bne_iff_ne.mpr c10
 by_cases c15 : 0 ≤ x7_2
 {
 rw [if_pos c15] at H
 have c15b0 := eq_true c15
 have c15b1 : decide (0 ≤ x7_2) = true := decide_eq_true c15
 clear c15
 by_cases c16 : x7_2 ≤ t148
 {
 rw [if_pos c16] at H
 have c16b0 := eq_true c16
 have c16b1 : decide (x7_2 ≤ t148) = true := decide_eq_true c16
 clear c16
 by_cases c17 : t148 ≤ (a0.size : Int)
 {
 rw [if_pos c17] at H
 have c17b0 := eq_true c17
 have c17b1 : decide (t148 ≤ (a0.size : Int)) = true := decide_eq_true c17
 clear c17
 replace H := Option.bind_eq_some_iff.mp H
 obtain ⟨t149, A180, H⟩ := H
 replace H : ((spec_l06Has.f k2 l1 t149).bind fun t150 => (if t150 = true then (if 1 + (a0.extract (x7_2 : Int).toNat (t148 : Int).toNat).size ≤ 9223372036854775807 then (if ((⟨#[91]⟩ : ByteArray) ++ (a0.extract (x7_2 : Int).toNat (t148 : Int).toNat)).size + 1 ≤ 9223372036854775807 then (if x6_2.size + (((⟨#[91]⟩ : ByteArray) ++ (a0.extract (x7_2 : Int).toNat (t148 : Int).toNat)) ++ (⟨#[93]⟩ : ByteArray)).size ≤ 9223372036854775807 then (spec_MarkWords.l0 k2 a0 l1 (x6_2 ++ (((⟨#[91]⟩ : ByteArray) ++ (a0.extract (x7_2 : Int).toNat (t148 : Int).toNat)) ++ (⟨#[93]⟩ : ByteArray))) t148) else (none)) else (none)) else (none)) else (if x6_2.size + (a0.extract (x7_2 : Int).toNat (t148 : Int).toNat).size ≤ 9223372036854775807 then (spec_MarkWords.l0 k2 a0 l1 (x6_2 ++ (a0.extract (x7_2 : Int).toNat (t148 : Int).toNat)) t148) else (none)))) = some (r1, r2) := H
 have A18 := Aside0.mk A180
 clear A180
 replace H := Option.bind_eq_some_iff.mp H
 obtain ⟨t150, A190, H⟩ := H
 replace H : (if t150 = true then (if 1 + (a0.extract (x7_2 : Int).toNat (t148 : Int).toNat).size ≤ 9223372036854775807 then (if ((⟨#[91]⟩ : ByteArray) ++ (a0.extract (x7_2 : Int).toNat (t148 : Int).toNat)).size + 1 ≤ 9223372036854775807 then (if x6_2.size + (((⟨#[91]⟩ : ByteArray) ++ (a0.extract (x7_2 : Int).toNat (t148 : Int).toNat)) ++ (⟨#[93]⟩ : ByteArray)).size ≤ 9223372036854775807 then (spec_MarkWords.l0 k2 a0 l1 (x6_2 ++ (((⟨#[91]⟩ : ByteArray) ++ (a0.extract (x7_2 : Int).toNat (t148 : Int).toNat)) ++ (⟨#[93]⟩ : ByteArray))) t148) else (none)) else (none)) else (none)) else (if x6_2.size + (a0.extract (x7_2 : Int).toNat (t148 : Int).toNat).size ≤ 9223372036854775807 then (spec_MarkWords.l0 k2 a0 l1 (x6_2 ++ (a0.extract (x7_2 : Int).toNat (t148 : Int).toNat)) t148) else (none))) = some (r1, r2) := H
 have A19 := Aside0.mk A190
 clear A190
 by_cases c20 : t150 = true
 {
 subst c20
 have H1 : (if 1 + (a0.extract (x7_2 : Int).toNat (t148 : Int).toNat).size ≤ 9223372036854775807 then (if ((⟨#[91]⟩ : ByteArray) ++ (a0.extract (x7_2 : Int).toNat (t148 : Int).toNat)).size + 1 ≤ 9223372036854775807 then (if x6_2.size + (((⟨#[91]⟩ : ByteArray) ++ (a0.extract (x7_2 : Int).toNat (t148 : Int).toNat)) ++ (⟨#[93]⟩ : ByteArray)).size ≤ 9223372036854775807 then (spec_MarkWords.l0 k2 a0 l1 (x6_2 ++ (((⟨#[91]⟩ : ByteArray) ++ (a0.extract (x7_2 : Int).toNat (t148 : Int).toNat)) ++ (⟨#[93]⟩ : ByteArray))) t148) else (none)) else (none)) else (none)) = some (r1, r2) := by rw [if_pos rfl] at H; exact H
 clear H
 have H := H1
 clear H1
 by_cases c21 : 1 + (a0.extract (x7_2 : Int).toNat (t148 : Int).toNat).size ≤ 9223372036854775807
 {
 rw [if_pos c21] at H
 have c21b0 := eq_true c21
 have c21b1 : decide (1 + (a0.extract (x7_2 : Int).toNat (t148 : Int).toNat).size ≤ 9223372036854775807) = true := decide_eq_true c21
 try have c21b2 : (9223372036854775807 < 1 + (a0.extract (x7_2 : Int).toNat (t148 : Int).toNat).size) = False := eq_false (Nat.not_lt.2 c21)
 try have c21b4 : (9223372036854775807 < 1 + ((t148 : Int).toNat - (x7_2 : Int).toNat)) = False := eq_false (by have h0_ := of_eq_true c15b0; (try simp only [ByteArray.size_append, ByteArray.size_extract] at h0_); have h1_ := of_eq_true c16b0; (try simp only [ByteArray.size_append, ByteArray.size_extract] at h1_); have h2_ := of_eq_true c17b0; (try simp only [ByteArray.size_append, ByteArray.size_extract] at h2_); have h3_ := of_eq_true c21b0; (try simp only [ByteArray.size_append, ByteArray.size_extract] at h3_); omega)
 by_cases c22 : ((⟨#[91]⟩ : ByteArray) ++ (a0.extract (x7_2 : Int).toNat (t148 : Int).toNat)).size + 1 ≤ 9223372036854775807
 {
 rw [if_pos c22] at H
 have c22b0 := eq_true c22
 have c22b1 : decide (((⟨#[91]⟩ : ByteArray) ++ (a0.extract (x7_2 : Int).toNat (t148 : Int).toNat)).size + 1 ≤ 9223372036854775807) = true := decide_eq_true c22
 try have c22b2 : (9223372036854775807 < ((⟨#[91]⟩ : ByteArray) ++ (a0.extract (x7_2 : Int).toNat (t148 : Int).toNat)).size + 1) = False := eq_false (Nat.not_lt.2 c22)
 try have c22b4 : (9223372036854775807 < 1 + (((t148 : Int).toNat - (x7_2 : Int).toNat)) + 1) = False := eq_false (by have h0_ := of_eq_true c15b0; (try simp only [ByteArray.size_append, ByteArray.size_extract] at h0_); have h1_ := of_eq_true c16b0; (try simp only [ByteArray.size_append, ByteArray.size_extract] at h1_); have h2_ := of_eq_true c17b0; (try simp only [ByteArray.size_append, ByteArray.size_extract] at h2_); have h3_ := of_eq_true c21b0; (try simp only [ByteArray.size_append, ByteArray.size_extract] at h3_); have h4_ := of_eq_true c22b0; (try simp only [ByteArray.size_append, ByteArray.size_extract] at h4_); have z0_ : (⟨#[91]⟩ : ByteArray).size = 1 := rfl; omega)
 by_cases c23 : x6_2.size + (((⟨#[91]⟩ : ByteArray) ++ (a0.extract (x7_2 : Int).toNat (t148 : Int).toNat)) ++ (⟨#[93]⟩ : ByteArray)).size ≤ 9223372036854775807
 {
 rw [if_pos c23] at H
 have c23b0 := eq_true c23
 have c23b1 : decide (x6_2.size + (((⟨#[91]⟩ : ByteArray) ++ (a0.extract (x7_2 : Int).toNat (t148 : Int).toNat)) ++ (⟨#[93]⟩ : ByteArray)).size ≤ 9223372036854775807) = true := decide_eq_true c23
 try have c23b2 : (9223372036854775807 < x6_2.size + (((⟨#[91]⟩ : ByteArray) ++ (a0.extract (x7_2 : Int).toNat (t148 : Int).toNat)) ++ (⟨#[93]⟩ : ByteArray)).size) = False := eq_false (Nat.not_lt.2 c23)
 try have c23b4 : (9223372036854775807 < x6_2.size + (1 + (((t148 : Int).toNat - (x7_2 : Int).toNat)) + 1)) = False := eq_false (by have h0_ := of_eq_true c15b0; (try simp only [ByteArray.size_append, ByteArray.size_extract] at h0_); have h1_ := of_eq_true c16b0; (try simp only [ByteArray.size_append, ByteArray.size_extract] at h1_); have h2_ := of_eq_true c17b0; (try simp only [ByteArray.size_append, ByteArray.size_extract] at h2_); have h3_ := of_eq_true c21b0; (try simp only [ByteArray.size_append, ByteArray.size_extract] at h3_); have h4_ := of_eq_true c22b0; (try simp only [ByteArray.size_append, ByteArray.size_extract] at h4_); have h5_ := of_eq_true c23b0; (try simp only [ByteArray.size_append, ByteArray.size_extract] at h5_); have z0_ : (⟨#[91]⟩ : ByteArray).size = 1 := rfl; have z1_ : (⟨#[93]⟩ : ByteArray).size = 1 := rfl; omega)
 have H' := Aside0.mk H
 clear H
 go_wp2_with (first | ((with_reducible refine gate_callee (f := 69) rfl ?_); refine goesL_ (some 24) rfl rfl Try.func69 s2_ rfl #[.string a0, .int .i64 x7_2] rfl s3_ ?_; (with_reducible refine (spec_l06End.calls k2 a0 x7_2 t148 _ A9.out).mono ?_); rintro e w' ⟨rfl, ⟨nd, rfl⟩⟩; refine ⟨_, rfl, ?_⟩) | ((with_reducible refine gate_callee (f := 71) rfl ?_); refine goesL_ (some 43) rfl rfl Try.func71 s2_ rfl #[.string (a0.extract (x7_2 : Int).toNat (t148 : Int).toNat)] rfl s3_ ?_; (with_reducible refine (spec_l06Word.calls k2 (a0.extract (x7_2 : Int).toNat (t148 : Int).toNat) t149 _ A18.out).mono ?_); rintro e w24 ⟨rfl, hb⟩; refine ⟨_, rfl, ?_⟩; replace HB := Aside0.mk (below_step (y1_ HB.out) hb); (try clear hb); (try clear hb2); (try clear hk); (try clear hi)) | ((with_reducible refine gate_callee (f := 70) rfl ?_); refine goesL_ (some 44) rfl rfl Try.func70 s2_ rfl #[.slice A1 l1.length c1, .string t149] rfl s3_ ?_; (with_reducible refine (spec_l06Has.calls k2 _ _ l1 t149 true _ ?side1 ?side2 A19.out).mono ?_); (case side1 => exact y2_ (Kd.C_below HR1.out HB.out)); (case side2 => exact HC1.out); rintro e w' ⟨rfl, ⟨nd, rfl⟩⟩; refine ⟨_, rfl, ?_⟩))
 go_roundg k2
 case measure => have := HJ2.out; have := HK2.out; omega
 case rel => exact ⟨(x6_2 ++ (((⟨#[91]⟩ : ByteArray) ++ (a0.extract (x7_2 : Int).toNat (t148 : Int).toNat)) ++ (⟨#[93]⟩ : ByteArray))), (t148), s1_, s1_, H', ⟨by have := HJ2.out; have := HK2.out; omega⟩, ⟨by repeat (first | (with_reducible first | exact HB.out | apply below_alloc | apply pw_below_drewN | apply below_drew1) | exact HB.out)⟩⟩}
 {
 rw [if_neg c23] at H
 exact absurd H (by simp)}}
 {
 rw [if_neg c22] at H
 exact absurd H (by simp)}}
 {
 rw [if_neg c21] at H
 exact absurd H (by simp)}}
 {
 replace c20 := Bool.eq_false_iff.mpr c20
 subst c20
 have H1 : (if x6_2.size + (a0.extract (x7_2 : Int).toNat (t148 : Int).toNat).size ≤ 9223372036854775807 then (spec_MarkWords.l0 k2 a0 l1 (x6_2 ++ (a0.extract (x7_2 : Int).toNat (t148 : Int).toNat)) t148) else (none)) = some (r1, r2) := by rw [if_neg (show ¬ (false = true) by decide)] at H; exact H
 clear H
 have H := H1
 clear H1
 by_cases c25 : x6_2.size + (a0.extract (x7_2 : Int).toNat (t148 : Int).toNat).size ≤ 9223372036854775807
 {
 rw [if_pos c25] at H
 have c25b0 := eq_true c25
 have c25b1 : decide (x6_2.size + (a0.extract (x7_2 : Int).toNat (t148 : Int).toNat).size ≤ 9223372036854775807) = true := decide_eq_true c25
 try have c25b2 : (9223372036854775807 < x6_2.size + (a0.extract (x7_2 : Int).toNat (t148 : Int).toNat).size) = False := eq_false (Nat.not_lt.2 c25)
 try have c25b4 : (9223372036854775807 < x6_2.size + ((t148 : Int).toNat - (x7_2 : Int).toNat)) = False := eq_false (by have h0_ := of_eq_true c15b0; (try simp only [ByteArray.size_append, ByteArray.size_extract] at h0_); have h1_ := of_eq_true c16b0; (try simp only [ByteArray.size_append, ByteArray.size_extract] at h1_); have h2_ := of_eq_true c17b0; (try simp only [ByteArray.size_append, ByteArray.size_extract] at h2_); have h3_ := of_eq_true c25b0; (try simp only [ByteArray.size_append, ByteArray.size_extract] at h3_); omega)
 have H' := Aside0.mk H
 clear H
 go_wp2_with (first | ((with_reducible refine gate_callee (f := 69) rfl ?_); refine goesL_ (some 24) rfl rfl Try.func69 s2_ rfl #[.string a0, .int .i64 x7_2] rfl s3_ ?_; (with_reducible refine (spec_l06End.calls k2 a0 x7_2 t148 _ A9.out).mono ?_); rintro e w' ⟨rfl, ⟨nd, rfl⟩⟩; refine ⟨_, rfl, ?_⟩) | ((with_reducible refine gate_callee (f := 71) rfl ?_); refine goesL_ (some 43) rfl rfl Try.func71 s2_ rfl #[.string (a0.extract (x7_2 : Int).toNat (t148 : Int).toNat)] rfl s3_ ?_; (with_reducible refine (spec_l06Word.calls k2 (a0.extract (x7_2 : Int).toNat (t148 : Int).toNat) t149 _ A18.out).mono ?_); rintro e w26 ⟨rfl, hb⟩; refine ⟨_, rfl, ?_⟩; replace HB := Aside0.mk (below_step (y1_ HB.out) hb); (try clear hb); (try clear hb2); (try clear hk); (try clear hi)) | ((with_reducible refine gate_callee (f := 70) rfl ?_); refine goesL_ (some 44) rfl rfl Try.func70 s2_ rfl #[.slice A1 l1.length c1, .string t149] rfl s3_ ?_; (with_reducible refine (spec_l06Has.calls k2 _ _ l1 t149 false _ ?side1 ?side2 A19.out).mono ?_); (case side1 => exact y2_ (Kd.C_below HR1.out HB.out)); (case side2 => exact HC1.out); rintro e w' ⟨rfl, ⟨nd, rfl⟩⟩; refine ⟨_, rfl, ?_⟩))
 go_roundg k2
 case measure => have := HJ2.out; have := HK2.out; omega
 case rel => exact ⟨(x6_2 ++ (a0.extract (x7_2 : Int).toNat (t148 : Int).toNat)), (t148), s1_, s1_, H', ⟨by have := HJ2.out; have := HK2.out; omega⟩, ⟨by repeat (first | (with_reducible first | exact HB.out | apply below_alloc | apply pw_below_drewN | apply below_drew1) | exact HB.out)⟩⟩}
 {
 rw [if_neg c25] at H
 exact absurd H (by simp)}}}
 {
 rw [if_neg c17] at H
 exact absurd H (by simp)}}
 {
 rw [if_neg c16] at H
 exact absurd H (by simp)}}
 {
 rw [if_neg c15] at H
 exact absurd H (by simp)}}}
 {
 rw [if_neg c8] at H
 have c8b0 : decide (x7_2 < (a0.size : Int)) = false := decide_eq_false c8
 clear c8
 simp only [Option.some.injEq, Prod.mk.injEq] at H
 obtain ⟨rfl, rfl⟩ := H
 go_wp2
 go_ret2
 exact ⟨by first | rfl | (simp [errW_none, errW_some] <;> rfl) | (simp [*, errW_none, errW_some] <;> rfl), by repeat (first | (with_reducible first | exact HB.out | apply below_alloc | apply pw_below_drewN | apply below_drew1) | exact HB.out)⟩}}}}}}

/-! ### laws_FnExactMarkWords: function 7 -/
abbrev laws_FnExactMarkWords.T : Bool := true
abbrev laws_FnExactMarkWords.F : Bool := false
theorem laws_FnExactMarkWords.s2_ {P : Prop} (h : P := by kernel_rfl) : P := h
theorem laws_FnExactMarkWords.s3_ {P : Prop} (h : P := by (try simp only [List.map_toArray, List.map_cons, List.map_nil]); first | done | rfl | (simp only [List.length_drop, List.length_take]; rfl)) : P := h
theorem laws_FnExactMarkWords.b2_ {P Q : Prop} (q : Q) (h : Q → P := by intro q_; (with_reducible repeat (first | apply Kd.R_alloc | apply Kd.R_drewN | apply Kd.R_drew)); exact q_) : P := h q
theorem laws_FnExactMarkWords.y1_ {P Q : Prop} (q : Q) (h : Q → P := by intro q_; repeat (first | (with_reducible first | exact q_ | apply below_alloc | apply pw_below_drewN | apply below_drew1) | exact q_)) : P := h q
theorem laws_FnExactMarkWords.y2_ {P Q : Prop} (q : Q) (h : Q → P := by intro q_; repeat (first | exact q_ | (with_reducible refine Kd.C_alloc ?_ _) | (with_reducible refine Kd.C_drewN ?_ _) | (with_reducible refine Kd.C_drew ?_))) : P := h q
theorem laws_FnExactMarkWords.r1_ {α : Type} {d : Kd α} {e base : Nat} {ok : Nat → Prop} {v : Value} {xs : List α} {w W w1 : World} (q : Aside0 (d.R e w base ok v xs)) (hb : Below W.heap.size W w1) (h : d.R e w base ok v xs → d.R e W base ok v xs := by intro q_; (with_reducible repeat (first | apply Kd.R_alloc | apply Kd.R_drewN | apply Kd.R_drew)); exact q_) : Aside0 (d.R e w1 base ok v xs) := ⟨Kd.R_below (h q.out) hb⟩
def laws_FnExactMarkWords.j0 : Nat → List ByteArray → List ByteArray → Bool → Option (Bool)
  | 0, _, _, _ => none
  | k + 1, x1, x8, x41 => if x41 = true then (some false) else ((laws_toStringS.f k x1).bind fun t162 => ((laws_eqStringS.f k x8 t162).bind fun t165 => (if t165 = true then (some true) else (some false))))
def laws_FnExactMarkWords.f (k : Nat) (a0 : ByteArray) (l1 : List ByteArray) : Option (Bool) := if (a0.size : Int) > 1048576 then (some true) else ((laws_szStringS.f k l1 1048576).bind fun t151 => (if t151 < 0 then (some true) else ((laws_toStringS.f k l1).bind fun t152 => ((spec_MarkWords.f k a0 t152).bind fun bt155 => ((laws_toStringS.f k l1).bind fun t157 => ((impl_MarkWords.f k a0 t157).bind fun bt160 => (if bt160.1.toList = bt155.1.toList then (laws_FnExactMarkWords.j0 k l1 t157 (bt160.2 != bt155.2)) else (laws_FnExactMarkWords.j0 k l1 t157 true))))))))
theorem laws_FnExactMarkWords.mono_l : ∀ k, (∀ y0 y1 y2, LeO (laws_FnExactMarkWords.j0 k y0 y1 y2) (laws_FnExactMarkWords.j0 (k + 1) y0 y1 y2))
  | 0 => fun _ _ _ r h => by simp [laws_FnExactMarkWords.j0] at h
  | k + 1 => by
    have ih0 := laws_FnExactMarkWords.mono_l k
    · intro y0 y1 y2
      unfold laws_FnExactMarkWords.j0
      repeat' first
      | (with_reducible exact ih0 _ _ _)
      | (with_reducible exact impl_MarkWords.mono _ _ _)
      | (with_reducible exact laws_eqStringS.mono _ _ _)
      | (with_reducible exact laws_szStringS.mono _ _ _)
      | (with_reducible exact laws_toStringS.mono _ _)
      | (with_reducible exact spec_MarkWords.mono _ _ _)
      | (with_reducible exact LeO.refl _)
      | (with_reducible exact LeO.none _)
      | (with_reducible refine LeO.ite ?_ ?_)
      | (with_reducible refine LeO.bind ?_ (fun _ => ?_))
      | exact ih0 _ _ _
      | exact impl_MarkWords.mono _ _ _
      | exact laws_eqStringS.mono _ _ _
      | exact laws_szStringS.mono _ _ _
      | exact laws_toStringS.mono _ _
      | exact spec_MarkWords.mono _ _ _
      | exact LeO.none _
      | refine LeO.ite ?_ ?_
      | refine LeO.bind ?_ (fun _ => ?_)
theorem laws_FnExactMarkWords.mono : ∀ a0 a1 k, LeO (laws_FnExactMarkWords.f k a0 a1) (laws_FnExactMarkWords.f (k + 1) a0 a1) := by
  intro a0 a1 k
  have ih0 := laws_FnExactMarkWords.mono_l k
  unfold laws_FnExactMarkWords.f
  repeat' first
      | (with_reducible exact ih0 _ _ _)
      | (with_reducible exact impl_MarkWords.mono _ _ _)
      | (with_reducible exact laws_eqStringS.mono _ _ _)
      | (with_reducible exact laws_szStringS.mono _ _ _)
      | (with_reducible exact laws_toStringS.mono _ _)
      | (with_reducible exact spec_MarkWords.mono _ _ _)
      | (with_reducible exact LeO.refl _)
      | (with_reducible exact LeO.none _)
      | (with_reducible refine LeO.ite ?_ ?_)
      | (with_reducible refine LeO.bind ?_ (fun _ => ?_))
      | exact ih0 _ _ _
      | exact impl_MarkWords.mono _ _ _
      | exact laws_eqStringS.mono _ _ _
      | exact laws_szStringS.mono _ _ _
      | exact laws_toStringS.mono _ _
      | exact spec_MarkWords.mono _ _ _
      | exact LeO.none _
      | refine LeO.ite ?_ ?_
      | refine LeO.bind ?_ (fun _ => ?_)
set_option maxHeartbeats 8000000 in
set_option maxRecDepth 100000 in
theorem laws_FnExactMarkWords.calls (k : Nat) (a0 : ByteArray) (A1 : Option Addr) (c1 : Nat) (l1 : List ByteArray) (r : Bool) (w : World) (hr1 : Kd.C Kd.string w A1 l1.length l1) (hc1 : l1.length ≤ c1) (h : laws_FnExactMarkWords.f k a0 l1 = some r) :
    Calls Try.prog 7 #[.string a0, .slice A1 l1.length c1] w fun e w' => e = .returned (.bool r) ∧ Below w.heap.size w w' := by
 have HR1 := Aside0.mk hr1
 have HC1 := Aside0.mk hc1
 clear hr1 hc1
 have HB := Aside0.mk (Below.refl w.heap.size w)
 have H : (if (a0.size : Int) > 1048576 then (some true) else ((laws_szStringS.f k l1 1048576).bind fun t151 => (if t151 < 0 then (some true) else ((laws_toStringS.f k l1).bind fun t152 => ((spec_MarkWords.f k a0 t152).bind fun bt155 => ((laws_toStringS.f k l1).bind fun t157 => ((impl_MarkWords.f k a0 t157).bind fun bt160 => (if bt160.1.toList = bt155.1.toList then (laws_FnExactMarkWords.j0 k l1 t157 (bt160.2 != bt155.2)) else (laws_FnExactMarkWords.j0 k l1 t157 true))))))))) = some r := h
 clear h
 by_cases c3 : (a0.size : Int) > 1048576
 {
 rw [if_pos c3] at H
 have c3b0 : decide (1048576 < (a0.size : Int)) = true := decide_eq_true c3
 have c3b1 : decide (1048576 < a0.size) = true := decide_eq_true (by omega)
 clear c3
 obtain rfl := Option.some.inj H
 go_enter Try.func7, Try.ntmps7
 go_wp2
 go_ret
 exact ⟨by first | rfl | (simp [errW_none, errW_some] <;> rfl) | (simp [*, errW_none, errW_some] <;> rfl), by repeat (first | (with_reducible first | exact HB.out | apply below_alloc | apply pw_below_drewN | apply below_drew1) | exact HB.out)⟩}
 {
 rw [if_neg c3] at H
 have c3b0 : decide (1048576 < (a0.size : Int)) = false := decide_eq_false c3
 have c3b1 : decide (1048576 < a0.size) = false := decide_eq_false (by omega)
 clear c3
 replace H := Option.bind_eq_some_iff.mp H
 obtain ⟨t151, A40, H⟩ := H
 replace H : (if t151 < 0 then (some true) else ((laws_toStringS.f k l1).bind fun t152 => ((spec_MarkWords.f k a0 t152).bind fun bt155 => ((laws_toStringS.f k l1).bind fun t157 => ((impl_MarkWords.f k a0 t157).bind fun bt160 => (if bt160.1.toList = bt155.1.toList then (laws_FnExactMarkWords.j0 k l1 t157 (bt160.2 != bt155.2)) else (laws_FnExactMarkWords.j0 k l1 t157 true))))))) = some r := H
 have A4 := Aside0.mk A40
 clear A40
 by_cases c5 : t151 < 0
 {
 rw [if_pos c5] at H
 have c5b0 : decide (t151 < 0) = true := decide_eq_true c5
 clear c5
 obtain rfl := Option.some.inj H
 go_enter Try.func7, Try.ntmps7
 go_wp2_with (first | ((with_reducible refine gate_callee (f := 25) rfl ?_); refine goesL_ (some 16) rfl rfl Try.func25 s2_ rfl #[.slice A1 l1.length c1, .int .i64 1048576] rfl s3_ ?_; (with_reducible refine (laws_szStringS.calls k _ _ l1 1048576 t151 _ ?side1 ?side2 A4.out).mono ?_); (case side1 => repeat (first | exact HR1.out | (with_reducible refine Kd.C_alloc ?_ _) | (with_reducible refine Kd.C_drewN ?_ _) | (with_reducible refine Kd.C_drew ?_))); (case side2 => exact HC1.out); rintro e w' ⟨rfl, ⟨nd, rfl⟩⟩; refine ⟨_, rfl, ?_⟩))
 go_ret
 exact ⟨by first | rfl | (simp [errW_none, errW_some] <;> rfl) | (simp [*, errW_none, errW_some] <;> rfl), by repeat (first | (with_reducible first | exact HB.out | apply below_alloc | apply pw_below_drewN | apply below_drew1) | exact HB.out)⟩}
 {
 rw [if_neg c5] at H
 have c5b0 : decide (t151 < 0) = false := decide_eq_false c5
 clear c5
 replace H := Option.bind_eq_some_iff.mp H
 obtain ⟨t152, A60, H⟩ := H
 replace H : ((spec_MarkWords.f k a0 t152).bind fun bt155 => ((laws_toStringS.f k l1).bind fun t157 => ((impl_MarkWords.f k a0 t157).bind fun bt160 => (if bt160.1.toList = bt155.1.toList then (laws_FnExactMarkWords.j0 k l1 t157 (bt160.2 != bt155.2)) else (laws_FnExactMarkWords.j0 k l1 t157 true))))) = some r := H
 have A6 := Aside0.mk A60
 clear A60
 replace H := Option.bind_eq_some_iff.mp H
 obtain ⟨⟨t155, t156⟩, A70, H⟩ := H
 replace H : ((laws_toStringS.f k l1).bind fun t157 => ((impl_MarkWords.f k a0 t157).bind fun bt160 => (if bt160.1.toList = t155.toList then (laws_FnExactMarkWords.j0 k l1 t157 (bt160.2 != t156)) else (laws_FnExactMarkWords.j0 k l1 t157 true)))) = some r := H
 have A7 := Aside0.mk A70
 clear A70
 replace H := Option.bind_eq_some_iff.mp H
 obtain ⟨t157, A80, H⟩ := H
 replace H : ((impl_MarkWords.f k a0 t157).bind fun bt160 => (if bt160.1.toList = t155.toList then (laws_FnExactMarkWords.j0 k l1 t157 (bt160.2 != t156)) else (laws_FnExactMarkWords.j0 k l1 t157 true))) = some r := H
 have A8 := Aside0.mk A80
 clear A80
 replace H := Option.bind_eq_some_iff.mp H
 obtain ⟨⟨t160, t161⟩, A90, H⟩ := H
 replace H : (if t160.toList = t155.toList then (laws_FnExactMarkWords.j0 k l1 t157 (t161 != t156)) else (laws_FnExactMarkWords.j0 k l1 t157 true)) = some r := H
 have A9 := Aside0.mk A90
 clear A90
 have HC10 := Aside0.mk H
 clear H
 go_enter Try.func7, Try.ntmps7
 go_upto_region 10 with (first | ((with_reducible refine gate_callee (f := 25) rfl ?_); refine goesL_ (some 16) rfl rfl Try.func25 s2_ rfl #[.slice A1 l1.length c1, .int .i64 1048576] rfl s3_ ?_; (with_reducible refine (laws_szStringS.calls k _ _ l1 1048576 t151 _ ?side1 ?side2 A4.out).mono ?_); (case side1 => repeat (first | exact HR1.out | (with_reducible refine Kd.C_alloc ?_ _) | (with_reducible refine Kd.C_drewN ?_ _) | (with_reducible refine Kd.C_drew ?_))); (case side2 => exact HC1.out); rintro e w' ⟨rfl, ⟨nd, rfl⟩⟩; refine ⟨_, rfl, ?_⟩) | ((with_reducible refine gate_callee (f := 27) rfl ?_); refine goesL_ (some 22) rfl rfl Try.func27 s2_ rfl #[.slice A1 l1.length c1] rfl s3_ ?_; (with_reducible refine (laws_toStringS.calls k _ _ l1 t152 _ ?side1 ?side2 A6.out).mono ?_); (case side1 => repeat (first | exact HR1.out | (with_reducible refine Kd.C_alloc ?_ _) | (with_reducible refine Kd.C_drewN ?_ _) | (with_reducible refine Kd.C_drew ?_))); (case side2 => exact HC1.out); rintro e w11 ⟨v153, rfl, ho0, hb⟩; refine ⟨_, rfl, ?_⟩; have HO154 := Aside0.mk (Kd.R_lower ho0 (below_size (y1_ HB.out))); replace HB := Aside0.mk (below_step (y1_ HB.out) hb); (try clear hb); (try clear hb2); (try clear hk); (try clear hi); (try clear ho0); obtain ⟨Ao12, co12, eo12⟩ := Kd.R_slice HO154.out; subst eo12) | ((with_reducible refine gate_callee (f := 29) rfl ?_); refine goesL_ (some 23) rfl rfl Try.func29 s2_ rfl #[.string a0, .slice Ao12 t152.length co12] rfl s3_ ?_; (with_reducible refine (spec_MarkWords.calls k a0 _ _ t152 t155 t156 _ ?side1 ?side2 A7.out).mono ?_); (case side1 => exact y2_ (Kd.R_reads' HO154.out).2.2); (case side2 => exact (Kd.R_reads' HO154.out).2.1); rintro e w13 ⟨rfl, hb⟩; refine ⟨_, rfl, ?_⟩; replace HO154 := r1_ HO154 hb; replace HB := Aside0.mk (below_step (y1_ HB.out) hb); (try clear hb); (try clear hb2); (try clear hk); (try clear hi)) | ((with_reducible refine gate_callee (f := 27) rfl ?_); refine goesL_ (some 27) rfl rfl Try.func27 s2_ rfl #[.slice A1 l1.length c1] rfl s3_ ?_; (with_reducible refine (laws_toStringS.calls k _ _ l1 t157 _ ?side1 ?side2 A8.out).mono ?_); (case side1 => exact y2_ (Kd.C_below HR1.out HB.out)); (case side2 => exact HC1.out); rintro e w14 ⟨v158, rfl, ho0, hb⟩; refine ⟨_, rfl, ?_⟩; have n0_ := Aside0.mk (Kd.R_elder' (b2_ HO154.out) (Kd.R_base ho0) hb); have n1_ := Aside0.mk (Kd.R_lower (Kd.R_new' ho0 (Kd.R_lt (b2_ HO154.out))) (below_size (y1_ HB.out))); have n2_ := Aside0.mk (below_step (y1_ HB.out) hb); clear HO154; clear HB; have HO154 := n0_; have HO159 := n1_; have HB := n2_; clear n0_ n1_ n2_; (try clear hb); (try clear hb2); (try clear hk); (try clear hi); (try clear ho0); obtain ⟨Ao15, co15, eo15⟩ := Kd.R_slice HO159.out; subst eo15) | ((with_reducible refine gate_callee (f := 22) rfl ?_); refine goesL_ (some 31) rfl rfl Try.func22 s2_ rfl #[.string a0, .slice Ao15 t157.length co15] rfl s3_ ?_; (with_reducible refine (impl_MarkWords.calls k a0 _ _ t157 t160 t161 _ ?side1 ?side2 A9.out).mono ?_); (case side1 => exact y2_ (Kd.R_reads' HO159.out).2.2); (case side2 => exact (Kd.R_reads' HO159.out).2.1); rintro e w16 ⟨rfl, hb⟩; refine ⟨_, rfl, ?_⟩; replace HO154 := r1_ HO154 hb; replace HO159 := r1_ HO159 hb; replace HB := Aside0.mk (below_step (y1_ HB.out) hb); (try clear hb); (try clear hb2); (try clear hk); (try clear hi)))
 (try simp only [Act.put, List.setIfInBounds_toArray, List.set_cons_zero, List.set_cons_succ])
 go_cut [41] (fun v41 wc => ∃ (kq : Nat) (x41_9 : Bool), v41 = .bool x41_9 ∧ Aside0 (laws_FnExactMarkWords.j0 kq l1 t157 x41_9 = some r) ∧ Aside0 (kq ≤ k) ∧ Aside0 (Kd.R Kd.string 9 wc w.heap.size (fun _ => True) (.slice Ao15 t157.length co15) t157) ∧ Aside0 (Below w.heap.size w wc))
 case first =>
  skip
  {
 have H := HC10.out
 clear HC10
 by_cases c17 : t160.toList = t155.toList
 {
 rw [if_pos c17] at H
 have c17b0 : (t160.toList == t155.toList) = true := beq_iff_eq.mpr c17
 have c17b1 : (t160.toList != t155.toList) = false := bne_eq_false_iff_eq.mpr c17
 clear c17
 (first | rw [c17b0] | (simp only [i64_w, i32_w]; rw [c17b0]) | skip)
 have H' := Aside0.mk H
 clear H
 go_wp2
 go_meet
 case rel => exact ⟨_, ((t161 != t156)), (by first | rfl | (simp; done) | (simp [*]; done)), H', ⟨by first | omega | exact Nat.le_refl _⟩, ⟨by (with_reducible repeat (first | apply Kd.R_alloc | apply Kd.R_drewN | apply Kd.R_drew)); exact Kd.R_mono HO159.out (fun _ hk => trivial)⟩, ⟨by repeat (first | (with_reducible first | exact HB.out | apply below_alloc | apply pw_below_drewN | apply below_drew1) | exact HB.out)⟩⟩}
 {
 rw [if_neg c17] at H
 have c17b0 : (t160.toList == t155.toList) = false := beq_eq_false_iff_ne.mpr c17
 have c17b1 : (t160.toList != t155.toList) = true := bne_iff_ne.mpr c17
 (first | rw [c17b0] | (simp only [i64_w, i32_w]; rw [c17b0]) | skip)
 have H' := Aside0.mk H
 clear H
 go_wp2
 go_meet
 case rel => exact ⟨_, (true), (by first | rfl | (simp; done) | (simp [*]; done)), H', ⟨by first | omega | exact Nat.le_refl _⟩, ⟨by (with_reducible repeat (first | apply Kd.R_alloc | apply Kd.R_drewN | apply Kd.R_drew)); exact Kd.R_mono HO159.out (fun _ hk => trivial)⟩, ⟨by repeat (first | (with_reducible first | exact HB.out | apply below_alloc | apply pw_below_drewN | apply below_drew1) | exact HB.out)⟩⟩}}
 case rest =>
  skip
  {
 clear HC10
 try clear c1
 try clear c2
 try clear p2
 try clear c3
 try clear c3b0
 try clear c3b1
 try clear c5
 try clear c5b0
 try clear c7
 try clear c17
 try clear c17b0
 try clear c17b1
 obtain ⟨kq, x41_9, rfl, HA, HJ9, HO_8, HB⟩ := hcut
 cases kq with
 | zero => exact absurd HA.out (by simp [laws_FnExactMarkWords.j0])
 | succ kj9 =>
  skip
  {
 have H := HA.out
 clear HA
 simp only [laws_FnExactMarkWords.j0] at H
 by_cases c18 : x41_9 = true
 {
 subst c18
 have H1 : (some false) = some r := by rw [if_pos rfl] at H; exact H
 clear H
 have H := H1
 clear H1
 obtain rfl := Option.some.inj H
 go_wp2
 go_ret
 exact ⟨by first | rfl | (simp [errW_none, errW_some] <;> rfl) | (simp [*, errW_none, errW_some] <;> rfl), by repeat (first | (with_reducible first | exact HB.out | apply below_alloc | apply pw_below_drewN | apply below_drew1) | exact HB.out)⟩}
 {
 replace c18 := Bool.eq_false_iff.mpr c18
 subst c18
 have H1 : ((laws_toStringS.f kj9 l1).bind fun t162 => ((laws_eqStringS.f kj9 t157 t162).bind fun t165 => (if t165 = true then (some true) else (some false)))) = some r := by rw [if_neg (show ¬ (false = true) by decide)] at H; exact H
 clear H
 have H := H1
 clear H1
 replace H := Option.bind_eq_some_iff.mp H
 obtain ⟨t162, A190, H⟩ := H
 replace H : ((laws_eqStringS.f kj9 t157 t162).bind fun t165 => (if t165 = true then (some true) else (some false))) = some r := H
 have A19 := Aside0.mk A190
 clear A190
 replace H := Option.bind_eq_some_iff.mp H
 obtain ⟨t165, A200, H⟩ := H
 replace H : (if t165 = true then (some true) else (some false)) = some r := H
 have A20 := Aside0.mk A200
 clear A200
 by_cases c21 : t165 = true
 {
 subst c21
 have H1 : (some true) = some r := by rw [if_pos rfl] at H; exact H
 clear H
 have H := H1
 clear H1
 obtain rfl := Option.some.inj H
 go_wp2_with (first | ((with_reducible refine gate_callee (f := 27) rfl ?_); refine goesL_ (some 44) rfl rfl Try.func27 s2_ rfl #[.slice A1 l1.length c1] rfl s3_ ?_; (with_reducible refine (laws_toStringS.calls kj9 _ _ l1 t162 _ ?side1 ?side2 A19.out).mono ?_); (case side1 => exact y2_ (Kd.C_below HR1.out HB.out)); (case side2 => exact HC1.out); rintro e w22 ⟨v163, rfl, ho0, hb⟩; refine ⟨_, rfl, ?_⟩; have n0_ := Aside0.mk (Kd.R_elder' (b2_ HO_8.out) (Kd.R_base ho0) hb); have n1_ := Aside0.mk (Kd.R_lower (Kd.R_new' ho0 (Kd.R_lt (b2_ HO_8.out))) (below_size (y1_ HB.out))); have n2_ := Aside0.mk (below_step (y1_ HB.out) hb); clear HO_8; clear HB; have HO_8 := n0_; have HO164 := n1_; have HB := n2_; clear n0_ n1_ n2_; (try clear hb); (try clear hb2); (try clear hk); (try clear hi); (try clear ho0); obtain ⟨Ao23, co23, eo23⟩ := Kd.R_slice HO164.out; subst eo23) | ((with_reducible refine gate_callee (f := 28) rfl ?_); refine goesL_ (some 45) rfl rfl Try.func28 s2_ rfl #[.slice Ao15 t157.length co15, .slice Ao23 t162.length co23] rfl s3_ ?_; (with_reducible refine (laws_eqStringS.calls kj9 _ _ t157 _ _ t162 true _ ?side1 ?side2 ?side3 ?side4 A20.out).mono ?_); (case side1 => exact y2_ (Kd.R_reads' HO_8.out).2.2); (case side2 => exact (Kd.R_reads' HO_8.out).2.1); (case side3 => exact y2_ (Kd.R_reads' HO164.out).2.2); (case side4 => exact (Kd.R_reads' HO164.out).2.1); rintro e w' ⟨rfl, ⟨nd, rfl⟩⟩; refine ⟨_, rfl, ?_⟩))
 go_ret
 exact ⟨by first | rfl | (simp [errW_none, errW_some] <;> rfl) | (simp [*, errW_none, errW_some] <;> rfl), by repeat (first | (with_reducible first | exact HB.out | apply below_alloc | apply pw_below_drewN | apply below_drew1) | exact HB.out)⟩}
 {
 replace c21 := Bool.eq_false_iff.mpr c21
 subst c21
 have H1 : (some false) = some r := by rw [if_neg (show ¬ (false = true) by decide)] at H; exact H
 clear H
 have H := H1
 clear H1
 obtain rfl := Option.some.inj H
 go_wp2_with (first | ((with_reducible refine gate_callee (f := 27) rfl ?_); refine goesL_ (some 44) rfl rfl Try.func27 s2_ rfl #[.slice A1 l1.length c1] rfl s3_ ?_; (with_reducible refine (laws_toStringS.calls kj9 _ _ l1 t162 _ ?side1 ?side2 A19.out).mono ?_); (case side1 => exact y2_ (Kd.C_below HR1.out HB.out)); (case side2 => exact HC1.out); rintro e w24 ⟨v163, rfl, ho0, hb⟩; refine ⟨_, rfl, ?_⟩; have n0_ := Aside0.mk (Kd.R_elder' (b2_ HO_8.out) (Kd.R_base ho0) hb); have n1_ := Aside0.mk (Kd.R_lower (Kd.R_new' ho0 (Kd.R_lt (b2_ HO_8.out))) (below_size (y1_ HB.out))); have n2_ := Aside0.mk (below_step (y1_ HB.out) hb); clear HO_8; clear HB; have HO_8 := n0_; have HO164 := n1_; have HB := n2_; clear n0_ n1_ n2_; (try clear hb); (try clear hb2); (try clear hk); (try clear hi); (try clear ho0); obtain ⟨Ao25, co25, eo25⟩ := Kd.R_slice HO164.out; subst eo25) | ((with_reducible refine gate_callee (f := 28) rfl ?_); refine goesL_ (some 45) rfl rfl Try.func28 s2_ rfl #[.slice Ao15 t157.length co15, .slice Ao25 t162.length co25] rfl s3_ ?_; (with_reducible refine (laws_eqStringS.calls kj9 _ _ t157 _ _ t162 false _ ?side1 ?side2 ?side3 ?side4 A20.out).mono ?_); (case side1 => exact y2_ (Kd.R_reads' HO_8.out).2.2); (case side2 => exact (Kd.R_reads' HO_8.out).2.1); (case side3 => exact y2_ (Kd.R_reads' HO164.out).2.2); (case side4 => exact (Kd.R_reads' HO164.out).2.1); rintro e w' ⟨rfl, ⟨nd, rfl⟩⟩; refine ⟨_, rfl, ?_⟩))
 go_ret
 exact ⟨by first | rfl | (simp [errW_none, errW_some] <;> rfl) | (simp [*, errW_none, errW_some] <;> rfl), by repeat (first | (with_reducible first | exact HB.out | apply below_alloc | apply pw_below_drewN | apply below_drew1) | exact HB.out)⟩}}}}}}

/-- THE ONE PURE STATEMENT of laws_FnExactMarkWords: yours. -/
def laws_FnExactMarkWords.Pure : Prop := ∀ (a0 : ByteArray) (l1 : List ByteArray), (a0.size ≤ 140737488351232) → (l1.length ≤ maxLen ∧ l1.length * 16 ≤ 140737488351232 ∧ ∀ y0_ ∈ l1, y0_.size ≤ 140737488351232) → ∃ k, laws_FnExactMarkWords.f k a0 l1 = some true
theorem laws_FnExactMarkWords.walk (P : laws_FnExactMarkWords.Pure) (a0 : ByteArray) (A1 : Option Addr) (c1 : Nat) (l1 : List ByteArray) (w : World) (hr1 : Kd.C Kd.string w A1 l1.length l1) (hc1 : l1.length ≤ c1) (F0 : a0.size ≤ 140737488351232) (F1 : l1.length ≤ maxLen ∧ l1.length * 16 ≤ 140737488351232 ∧ ∀ y0_ ∈ l1, y0_.size ≤ 140737488351232) :
    Calls Try.prog 7 #[.string a0, .slice A1 l1.length c1] w fun e w' => e = .returned (.bool true) ∧ Below w.heap.size w w' := by
  obtain ⟨k, h⟩ := P a0 l1 F0 F1
  refine (laws_FnExactMarkWords.calls k a0 A1 c1 l1 true w hr1 hc1 h).mono ?_
  rintro e w' ⟨rfl, hd⟩
  exact ⟨rfl, hd⟩

end Go.Proofs.Ytcnhepjdibbkgaa.QFnExactMarkWords
