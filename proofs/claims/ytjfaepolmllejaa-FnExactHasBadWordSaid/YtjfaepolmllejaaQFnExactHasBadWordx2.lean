-- written by a program of this session, on the lines of the kit's print
import Derived.Test.YtjfaepolmllejaaQFnExactHasBadWordx0
import Derived.Test.YtjfaepolmllejaaQFnExactHasBadWordx1
namespace Go.Proofs.Ytjfaepolmllejaa.QFnExactHasBadWord
open Go.RowKit Go.Proofs.YtjfaepolmllejaaW.PrintWords Go.Proofs.YtjfaepolmllejaaW.PrintLast Go.Proofs.YtjfaepolmllejaaW.PrintMore
attribute [local go_sem] max2_int min2_int max_two min_two max_three min_three max_four min_four   -- for this text's walks alone
set_option linter.unusedVariables false
set_option linter.unusedSimpArgs false

/-! ### impl_badOk: function 74 -/
def impl_badOk.f (k : Nat) (a0 : ByteArray) (l1 : List ByteArray) : Option (Bool) := (impl_IsText.f k a0).bind fun t112 => (if t112 = true then ((impl_AreBadWords.f k l1).bind fun t113 => (some t113)) else (some false))
theorem impl_badOk.mono : ∀ a0 a1 k, LeO (impl_badOk.f k a0 a1) (impl_badOk.f (k + 1) a0 a1) := by
  intro a0 a1 k
  unfold impl_badOk.f
  repeat' first
      | (with_reducible exact impl_AreBadWords.mono _ _)
      | (with_reducible exact impl_IsText.mono _ _)
      | (with_reducible exact LeO.refl _)
      | (with_reducible exact LeO.none _)
      | (with_reducible refine LeO.ite ?_ ?_)
      | (with_reducible refine LeO.bind ?_ (fun _ => ?_))
      | exact impl_AreBadWords.mono _ _
      | exact impl_IsText.mono _ _
      | exact LeO.none _
      | refine LeO.ite ?_ ?_
      | refine LeO.bind ?_ (fun _ => ?_)
set_option maxHeartbeats 8000000 in
set_option maxRecDepth 100000 in
theorem impl_badOk.calls (k : Nat) (a0 : ByteArray) (A1 : Option Addr) (c1 : Nat) (l1 : List ByteArray) (r : Bool) (w : World) (hr1 : Kd.C Kd.string w A1 l1.length l1) (hc1 : l1.length ≤ c1) (h : impl_badOk.f k a0 l1 = some r) :
    Calls Try.prog 74 #[.string a0, .slice A1 l1.length c1] w fun e w' => e = .returned (.bool r) ∧ Drawn0 w w' := by
  have HR1 := Aside0.mk hr1
  have HC1 := Aside0.mk hc1
  clear hr1 hc1
  have H : ((impl_IsText.f k a0).bind fun t112 => (if t112 = true then ((impl_AreBadWords.f k l1).bind fun t113 => (some t113)) else (some false))) = some r := h
  clear h
  replace H := Option.bind_eq_some_iff.mp H
  obtain ⟨t112, A30, H⟩ := H
  replace H : (if t112 = true then ((impl_AreBadWords.f k l1).bind fun t113 => (some t113)) else (some false)) = some r := H
  have A3 := Aside0.mk A30
  clear A30
  by_cases c4 : t112 = true
  · subst c4
    have H1 : ((impl_AreBadWords.f k l1).bind fun t113 => (some t113)) = some r := by rw [if_pos rfl] at H; exact H
    clear H
    have H := H1
    clear H1
    replace H := Option.bind_eq_some_iff.mp H
    obtain ⟨t113, A50, H⟩ := H
    replace H : (some t113) = some r := H
    have A5 := Aside0.mk A50
    clear A50
    obtain rfl := Option.some.inj H
    go_enter Try.func74, Try.ntmps74
    go_wp2_with (first | ((with_reducible refine gate_callee (f := 89) rfl ?_); refine goesL_ (some 6) rfl rfl Try.func89 (by kernel_rfl) rfl #[.string a0] rfl (by (try simp only [List.map_toArray, List.map_cons, List.map_nil]); first | done | rfl | (simp only [List.length_drop, List.length_take]; rfl)) ?_; (with_reducible refine (impl_IsText.calls k a0 true _ A3.out).mono ?_); rintro e w' ⟨rfl, ⟨nd, rfl⟩⟩; refine ⟨_, rfl, ?_⟩) | (go_at_call 16; (with_reducible refine (impl_AreBadWords.calls k _ _ l1 t113 _ ?side1 ?side2 A5.out).mono ?_); (case side1 => repeat (first | exact HR1.out | (with_reducible refine Kd.C_alloc ?_ _) | (with_reducible refine Kd.C_drewN ?_ _) | (with_reducible refine Kd.C_drew ?_))); (case side2 => exact HC1.out); rintro e w' ⟨rfl, ⟨nd, rfl⟩⟩))
    go_ret
    exact ⟨by first | rfl | (simp; done) | (simp [*]; done), by repeat (first | exact Drawn0.refl _ | apply Drawn0.step)⟩
  · replace c4 := Bool.eq_false_iff.mpr c4
    subst c4
    have H1 : (some false) = some r := by rw [if_neg (show ¬ (false = true) by decide)] at H; exact H
    clear H
    have H := H1
    clear H1
    obtain rfl := Option.some.inj H
    go_enter Try.func74, Try.ntmps74
    go_wp2_with (first | ((with_reducible refine gate_callee (f := 89) rfl ?_); refine goesL_ (some 6) rfl rfl Try.func89 (by kernel_rfl) rfl #[.string a0] rfl (by (try simp only [List.map_toArray, List.map_cons, List.map_nil]); first | done | rfl | (simp only [List.length_drop, List.length_take]; rfl)) ?_; (with_reducible refine (impl_IsText.calls k a0 false _ A3.out).mono ?_); rintro e w' ⟨rfl, ⟨nd, rfl⟩⟩; refine ⟨_, rfl, ?_⟩))
    go_ret
    exact ⟨by first | rfl | (simp; done) | (simp [*]; done), by repeat (first | exact Drawn0.refl _ | apply Drawn0.step)⟩

/-! ### impl_isDigit: function 110 -/
def impl_isDigit.f (a0 : Int) : Option (Bool) := if a0 ≥ 48 then (some (decide (a0 ≤ 57))) else (some false)
set_option maxHeartbeats 8000000 in
set_option maxRecDepth 100000 in
theorem impl_isDigit.calls (a0 : Int) (r : Bool) (w : World) (h : impl_isDigit.f a0 = some r) :
    Calls Try.prog 110 #[.int .u8 a0] w fun e w' => e = .returned (.bool r) ∧ Drawn0 w w' := by
  have H : (if a0 ≥ 48 then (some (decide (a0 ≤ 57))) else (some false)) = some r := h
  clear h
  by_cases c2 : a0 ≥ 48
  · rw [if_pos c2] at H
    have c2b0 : decide (48 ≤ a0) = true := decide_eq_true c2
    clear c2
    obtain rfl := Option.some.inj H
    go_enter Try.func110, Try.ntmps110
    go_wp2
    go_ret
    exact ⟨by first | rfl | (simp; done) | (simp [*]; done), by repeat (first | exact Drawn0.refl _ | apply Drawn0.step)⟩
  · rw [if_neg c2] at H
    have c2b0 : decide (48 ≤ a0) = false := decide_eq_false c2
    clear c2
    obtain rfl := Option.some.inj H
    go_enter Try.func110, Try.ntmps110
    go_wp2
    go_ret
    exact ⟨by first | rfl | (simp; done) | (simp [*]; done), by repeat (first | exact Drawn0.refl _ | apply Drawn0.step)⟩

/-! ### impl_wordByte: function 101 -/
def impl_wordByte.f (a0 : Int) : Option (Bool) := (impl_isDigit.f a0).bind fun t114 => (if t114 = true then (some true) else (if a0 ≥ 97 then (some (decide (a0 ≤ 122))) else (some false)))
set_option maxHeartbeats 8000000 in
set_option maxRecDepth 100000 in
theorem impl_wordByte.calls (a0 : Int) (r : Bool) (w : World) (h : impl_wordByte.f a0 = some r) :
    Calls Try.prog 101 #[.int .u8 a0] w fun e w' => e = .returned (.bool r) ∧ Drawn0 w w' := by
  have H : ((impl_isDigit.f a0).bind fun t114 => (if t114 = true then (some true) else (if a0 ≥ 97 then (some (decide (a0 ≤ 122))) else (some false)))) = some r := h
  clear h
  replace H := Option.bind_eq_some_iff.mp H
  obtain ⟨t114, A20, H⟩ := H
  replace H : (if t114 = true then (some true) else (if a0 ≥ 97 then (some (decide (a0 ≤ 122))) else (some false))) = some r := H
  have A2 := Aside0.mk A20
  clear A20
  by_cases c3 : t114 = true
  · subst c3
    have H1 : (some true) = some r := by rw [if_pos rfl] at H; exact H
    clear H
    have H := H1
    clear H1
    obtain rfl := Option.some.inj H
    go_enter Try.func101, Try.ntmps101
    go_wp2_with (first | ((with_reducible refine gate_callee (f := 110) rfl ?_); refine goesL_ (some 4) rfl rfl Try.func110 (by kernel_rfl) rfl #[.int .u8 a0] rfl (by (try simp only [List.map_toArray, List.map_cons, List.map_nil]); first | done | rfl | (simp only [List.length_drop, List.length_take]; rfl)) ?_; (with_reducible refine (impl_isDigit.calls a0 true _ A2.out).mono ?_); rintro e w' ⟨rfl, ⟨nd, rfl⟩⟩; refine ⟨_, rfl, ?_⟩))
    go_ret
    exact ⟨by first | rfl | (simp; done) | (simp [*]; done), by repeat (first | exact Drawn0.refl _ | apply Drawn0.step)⟩
  · replace c3 := Bool.eq_false_iff.mpr c3
    subst c3
    have H1 : (if a0 ≥ 97 then (some (decide (a0 ≤ 122))) else (some false)) = some r := by rw [if_neg (show ¬ (false = true) by decide)] at H; exact H
    clear H
    have H := H1
    clear H1
    by_cases c4 : a0 ≥ 97
    · rw [if_pos c4] at H
      have c4b0 : decide (97 ≤ a0) = true := decide_eq_true c4
      clear c4
      obtain rfl := Option.some.inj H
      go_enter Try.func101, Try.ntmps101
      go_wp2_with (first | ((with_reducible refine gate_callee (f := 110) rfl ?_); refine goesL_ (some 4) rfl rfl Try.func110 (by kernel_rfl) rfl #[.int .u8 a0] rfl (by (try simp only [List.map_toArray, List.map_cons, List.map_nil]); first | done | rfl | (simp only [List.length_drop, List.length_take]; rfl)) ?_; (with_reducible refine (impl_isDigit.calls a0 false _ A2.out).mono ?_); rintro e w' ⟨rfl, ⟨nd, rfl⟩⟩; refine ⟨_, rfl, ?_⟩))
      go_ret
      exact ⟨by first | rfl | (simp; done) | (simp [*]; done), by repeat (first | exact Drawn0.refl _ | apply Drawn0.step)⟩
    · rw [if_neg c4] at H
      have c4b0 : decide (97 ≤ a0) = false := decide_eq_false c4
      clear c4
      obtain rfl := Option.some.inj H
      go_enter Try.func101, Try.ntmps101
      go_wp2_with (first | ((with_reducible refine gate_callee (f := 110) rfl ?_); refine goesL_ (some 4) rfl rfl Try.func110 (by kernel_rfl) rfl #[.int .u8 a0] rfl (by (try simp only [List.map_toArray, List.map_cons, List.map_nil]); first | done | rfl | (simp only [List.length_drop, List.length_take]; rfl)) ?_; (with_reducible refine (impl_isDigit.calls a0 false _ A2.out).mono ?_); rintro e w' ⟨rfl, ⟨nd, rfl⟩⟩; refine ⟨_, rfl, ?_⟩))
      go_ret
      exact ⟨by first | rfl | (simp; done) | (simp [*]; done), by repeat (first | exact Drawn0.refl _ | apply Drawn0.step)⟩

/-! ### impl_lower: function 102 -/
def impl_lower.f (a0 : Int) : Option (Int) := if a0 ≥ 65 then (if a0 ≤ 90 then (some ((a0 + 32) % 256)) else (some a0)) else (some a0)
set_option maxHeartbeats 8000000 in
set_option maxRecDepth 100000 in
theorem impl_lower.calls (a0 : Int) (r : Int) (w : World) (h : impl_lower.f a0 = some r) :
    Calls Try.prog 102 #[.int .u8 a0] w fun e w' => e = .returned (.int .u8 r) ∧ Drawn0 w w' := by
  have H : (if a0 ≥ 65 then (if a0 ≤ 90 then (some ((a0 + 32) % 256)) else (some a0)) else (some a0)) = some r := h
  clear h
  by_cases c2 : a0 ≥ 65
  · rw [if_pos c2] at H
    have c2b0 : decide (65 ≤ a0) = true := decide_eq_true c2
    clear c2
    by_cases c3 : a0 ≤ 90
    · rw [if_pos c3] at H
      have c3b0 : decide (a0 ≤ 90) = true := decide_eq_true c3
      clear c3
      obtain rfl := Option.some.inj H
      go_enter Try.func102, Try.ntmps102
      go_wp2
      go_ret
      exact ⟨by first | rfl | (simp; done) | (simp [*]; done), by repeat (first | exact Drawn0.refl _ | apply Drawn0.step)⟩
    · rw [if_neg c3] at H
      have c3b0 : decide (a0 ≤ 90) = false := decide_eq_false c3
      clear c3
      obtain rfl := Option.some.inj H
      go_enter Try.func102, Try.ntmps102
      go_wp2
      go_ret
      exact ⟨by first | rfl | (simp; done) | (simp [*]; done), by repeat (first | exact Drawn0.refl _ | apply Drawn0.step)⟩
  · rw [if_neg c2] at H
    have c2b0 : decide (65 ≤ a0) = false := decide_eq_false c2
    clear c2
    obtain rfl := Option.some.inj H
    go_enter Try.func102, Try.ntmps102
    go_wp2
    go_ret
    exact ⟨by first | rfl | (simp; done) | (simp [*]; done), by repeat (first | exact Drawn0.refl _ | apply Drawn0.step)⟩

/-! ### impl_runsOf: function 75 -/
abbrev impl_runsOf.T : Bool := true
abbrev impl_runsOf.F : Bool := false
theorem impl_runsOf.s1_ {P : Prop} (h : P := by first | rfl | (simp; done) | (simp [*]; done)) : P := h
theorem impl_runsOf.s2_ {P : Prop} (h : P := by kernel_rfl) : P := h
theorem impl_runsOf.s3_ {P : Prop} (h : P := by (try simp only [List.map_toArray, List.map_cons, List.map_nil]); first | done | rfl | (simp only [List.length_drop, List.length_take]; rfl)) : P := h
theorem impl_runsOf.p1_ {P : Prop} (h : P := by simp only [Act.put, List.setIfInBounds_toArray, List.set_cons_zero, List.set_cons_succ, i64_w, i32_w]; rfl) : P := h
theorem impl_runsOf.b1_ {P Q : Prop} (q : Q) (h : Q → P := by intro q_; (with_reducible repeat (first | refine blk_drewN ?_ _ | refine blk_drew ?_ | refine blk_alloc ?_ _)); exact q_) : P := h q
theorem impl_runsOf.b2_ {P Q : Prop} (q : Q) (h : Q → P := by intro q_; (with_reducible repeat (first | apply Kd.R_alloc | apply Kd.R_drewN | apply Kd.R_drew)); exact q_) : P := h q
theorem impl_runsOf.pu_ {P : Program} {md : Region.Mode} {ops : Array Oper} {Q : Exit → Act → World → Prop} {S : World → Prop} {ds : List Nat} {fuel : Nat} {l : Array Bool} {a : Act} {w : World} {oi : Oper} {a' : Act} {v : Value} (i N : Nat) (l' : Array Bool) (hc : anyB md ops l l' i = true) (h : wpAnyLast P md ops Q S ds fuel l' a' w) (hi : ops[i]? = some oi := by rfl) (hN : oi.dst = some N := by rfl) (hQ : ∀ c a w, Q (.panic c) (a.put oi.dst v) w → Q (.panic c) a w := by exact fun _ _ _ h => h) (hy : Yields P ops oi v a := by exact Or.inl ⟨by rfl, by intro w'; go_simp; with_reducible rfl⟩) (ha : a.put (some N) v = a' := by simp only [Act.put, List.setIfInBounds_toArray, List.set_cons_zero, List.set_cons_succ, i64_w, i32_w]; rfl) : wpAnyLast P md ops Q S ds (fuel + 1) l a w := pure_ l' hi hN hc hQ hy ha h
mutual
def impl_runsOf.l0 : Nat → ByteArray → List (S87) → Int → Option ((List (S87)))
  | 0, _, _, _ => none
  | k + 1, x0, x3, x4 => if x4 < (x0.size : Int) then (if 0 ≤ x4 then ((impl_lower.f (bt x0 x4)).bind fun t118 => ((impl_wordByte.f t118).bind fun t119 => (if t119 = true then (impl_runsOf.l1 k x0 x3 x4 x4 0 (⟨#[]⟩ : ByteArray)) else (impl_runsOf.l0 k x0 x3 (wrap64 (x4 + 1)))))) else (none)) else (some x3)
def impl_runsOf.l1 : Nat → ByteArray → List (S87) → Int → Int → Int → ByteArray → Option ((List (S87)))
  | 0, _, _, _, _, _, _ => none
  | k + 1, x0, x3, x4, x121000, x121001, x121002 => if x4 < (x0.size : Int) then (if 0 ≤ x4 then ((impl_lower.f (bt x0 x4)).bind fun t121 => ((impl_wordByte.f t121).bind fun t122 => (if t122 = true then ((impl_lower.f (bt x0 x4)).bind fun t123 => (if x121002.size + (Utf8.encode t123).size ≤ 9223372036854775807 then (impl_runsOf.l1 k x0 x3 (wrap64 (x4 + 1)) x121000 x121001 (x121002 ++ (Utf8.encode t123))) else (none))) else (if x3.length < 4398046511104 then (impl_runsOf.l0 k x0 (x3 ++ [(⟨x121000, x4, x121002⟩ : S87)]) (wrap64 (x4 + 1))) else (none))))) else (none)) else (if x3.length < 4398046511104 then (impl_runsOf.l0 k x0 (x3 ++ [(⟨x121000, x4, x121002⟩ : S87)]) (wrap64 (x4 + 1))) else (none))
end
def impl_runsOf.f (k : Nat) (a0 : ByteArray) : Option ((List (S87))) := impl_runsOf.l0 k a0 (([] : List (S87))) 0
theorem impl_runsOf.mono_l : ∀ k, (∀ y0 y1 y2, LeO (impl_runsOf.l0 k y0 y1 y2) (impl_runsOf.l0 (k + 1) y0 y1 y2)) ∧ (∀ y0 y1 y2 y3 y4 y5, LeO (impl_runsOf.l1 k y0 y1 y2 y3 y4 y5) (impl_runsOf.l1 (k + 1) y0 y1 y2 y3 y4 y5))
  | 0 => ⟨fun _ _ _ r h => by simp [impl_runsOf.l0] at h, fun _ _ _ _ _ _ r h => by simp [impl_runsOf.l1] at h⟩
  | k + 1 => by
    obtain ⟨ih0, ih1⟩ := impl_runsOf.mono_l k
    refine ⟨?_, ?_⟩
    · intro y0 y1 y2
      unfold impl_runsOf.l0
      repeat' first
      | (with_reducible exact ih0 _ _ _)
      | (with_reducible exact ih1 _ _ _ _ _ _)
      | (with_reducible exact LeO.refl _)
      | (with_reducible exact LeO.none _)
      | (with_reducible refine LeO.ite ?_ ?_)
      | (with_reducible refine LeO.bind ?_ (fun _ => ?_))
      | exact ih0 _ _ _
      | exact ih1 _ _ _ _ _ _
      | exact LeO.none _
      | refine LeO.ite ?_ ?_
      | refine LeO.bind ?_ (fun _ => ?_)
    · intro y0 y1 y2 y3 y4 y5
      unfold impl_runsOf.l1
      repeat' first
      | (with_reducible exact ih0 _ _ _)
      | (with_reducible exact ih1 _ _ _ _ _ _)
      | (with_reducible exact LeO.refl _)
      | (with_reducible exact LeO.none _)
      | (with_reducible refine LeO.ite ?_ ?_)
      | (with_reducible refine LeO.bind ?_ (fun _ => ?_))
      | exact ih0 _ _ _
      | exact ih1 _ _ _ _ _ _
      | exact LeO.none _
      | refine LeO.ite ?_ ?_
      | refine LeO.bind ?_ (fun _ => ?_)
theorem impl_runsOf.mono : ∀ a0 k, LeO (impl_runsOf.f k a0) (impl_runsOf.f (k + 1) a0) := by
  intro a0 k
  obtain ⟨ih0, ih1⟩ := impl_runsOf.mono_l k
  unfold impl_runsOf.f
  repeat' first
      | (with_reducible exact ih0 _ _ _)
      | (with_reducible exact ih1 _ _ _ _ _ _)
      | (with_reducible exact LeO.refl _)
      | (with_reducible exact LeO.none _)
      | (with_reducible refine LeO.ite ?_ ?_)
      | (with_reducible refine LeO.bind ?_ (fun _ => ?_))
      | exact ih0 _ _ _
      | exact ih1 _ _ _ _ _ _
      | exact LeO.none _
      | refine LeO.ite ?_ ?_
      | refine LeO.bind ?_ (fun _ => ?_)
def impl_runsOf.T8 : Bool × List (List Nat × List Nat) := (true, [([], []), ([0], [0]), ([], []), ([], []), ([2, 3], [2, 3]), ([4], [4]), ([5], [5]), ([1, 6], [1, 6]), ([0, 1, 2, 3, 4, 5, 6, 7], []), ([8, 7, 5, 0, 1, 2, 3, 4, 5, 6, 7], [7, 8])])
def impl_runsOf.B8 : List Nat := [0, 1, 0, 0, 12, 28, 60, 127, 255, 511]
theorem impl_runsOf.tab8 : rtab .any (opsOf Try.f75 8) = impl_runsOf.T8 := by kernel_rfl
theorem impl_runsOf.bits8 : waitsOk impl_runsOf.T8.2 impl_runsOf.B8 = true := by kernel_rfl
set_option maxHeartbeats 8000000 in
set_option maxRecDepth 100000 in
theorem impl_runsOf.calls (k : Nat) (a0 : ByteArray) (r : List (S87)) (w : World) (h : impl_runsOf.f k a0 = some r) :
    Calls Try.prog 75 #[.string a0] w fun e w' => ∃ v0_ : Value, e = .returned (v0_) ∧ Kd.R k87 87 w' w.heap.size (fun _ => True) v0_ r ∧ Below w.heap.size w w' := by
 have hu87 := Try.underlying87
 have HB := Aside0.mk (Below.refl w.heap.size w)
 have H : (impl_runsOf.l0 k a0 (([] : List (S87))) 0) = some r := h
 clear h
 obtain ⟨y115, hy115⟩ : ∃ y_ : List (S87), y_ = (([] : List (S87))) := ⟨_, rfl⟩
 replace H : (impl_runsOf.l0 k a0 y115 0) = some r := by first | (rw [hy115]; with_reducible exact H) | (have H2_ := (Option.bind_some _ _).symm.trans H; rw [hy115]; with_reducible exact H2_) | (have H2_ := (Option.bind_some _ _).symm.trans H; with_reducible exact H2_) | with_reducible exact H | (rw [hy115]; exact H) | exact H
 have Ny115 := Aside0.mk hy115
 clear hy115
 have H' := Aside0.mk H
 clear H
 go_enter Try.func75, Try.ntmps75
 go_wp2_with (first | ((with_reducible refine gate_dst (N := 6) rfl ?_); refine Kd.R_lit k87 _ 87 ?hg (N := 6) ?hd (xs := ([] : List (S87))) (inner := []) (ok := fun _ => True) (okp := fun _ => True) ?hr ?hp (fun _ hk => hk) trivial (Below.refl _ _) (Nat.le_refl _) (by simp) ?_; (case hd => rfl); (case hg => rfl); (case hr => first | (go_simp; done) | (go_simp; rfl)); (case hp => exact (Reps.none _ _)); intro v116 w2 ho3 hb hg_ hnew_; clear hg_ hnew_; (first | rw [← Ny115.out] at ho3 | (simp only [Int.reduceToNat] at ho3; rw [← Ny115.out] at ho3)); have n0_ := Aside0.mk (Kd.R_lower ho3 (below_size (by repeat (first | (with_reducible first | exact HB.out | apply below_alloc | apply pw_below_drewN | apply below_drew1) | exact HB.out)))); have n1_ := Aside0.mk (below_step (by repeat (first | (with_reducible first | exact HB.out | apply below_alloc | apply pw_below_drewN | apply below_drew1) | exact HB.out)) hb); clear HB; have HO117 := n0_; have HB := n1_; clear n0_ n1_; clear hb ho3))
 go_loopg [3, 4] k (fun kq v3 v4 w' => ∃ (x3_1 : List (S87)) (x4_1 : Int), v4 = .int .i64 x4_1 ∧ Aside0 (impl_runsOf.l0 kq a0 x3_1 x4_1 = some r) ∧ Aside0 (kq ≤ k) ∧ Aside0 (Kd.R k87 87 w' w.heap.size (fun _ => True) v3 x3_1) ∧ Aside0 (Below w.heap.size w w'))
 case atStart => exact ⟨(y115), (0), s1_, H', ⟨Nat.le_refl _⟩, ⟨b2_ HO117.out⟩, ⟨by repeat (first | (with_reducible first | exact HB.out | apply below_alloc | apply pw_below_drewN | apply below_drew1) | exact HB.out)⟩⟩
 case round =>
  skip
  {
 clear H'
 try clear p2
 obtain ⟨x3_1, x4_1, rfl, HA, HK1, HO_3, HB⟩ := hrel
 cases gk with
 | zero => exact absurd HA.out (by simp [impl_runsOf.l0])
 | succ k1 =>
  skip
  {
 have H := HA.out
 clear HA
 simp only [impl_runsOf.l0] at H
 by_cases c4 : x4_1 < (a0.size : Int)
 {
 rw [if_pos c4] at H
 have c4b0 : decide (x4_1 < (a0.size : Int)) = true := decide_eq_true c4
 clear c4
 by_cases c5 : 0 ≤ x4_1
 {
 rw [if_pos c5] at H
 have c5b0 : decide (0 ≤ x4_1) = true := decide_eq_true c5
 clear c5
 replace H := Option.bind_eq_some_iff.mp H
 obtain ⟨t118, A70, H⟩ := H
 replace H : ((impl_wordByte.f t118).bind fun t119 => (if t119 = true then (impl_runsOf.l1 k1 a0 x3_1 x4_1 x4_1 0 (⟨#[]⟩ : ByteArray)) else (impl_runsOf.l0 k1 a0 x3_1 (wrap64 (x4_1 + 1))))) = some r := H
 have A7 := Aside0.mk A70
 clear A70
 replace H := Option.bind_eq_some_iff.mp H
 obtain ⟨t119, A80, H⟩ := H
 replace H : (if t119 = true then (impl_runsOf.l1 k1 a0 x3_1 x4_1 x4_1 0 (⟨#[]⟩ : ByteArray)) else (impl_runsOf.l0 k1 a0 x3_1 (wrap64 (x4_1 + 1)))) = some r := H
 have A8 := Aside0.mk A80
 clear A80
 by_cases c9 : t119 = true
 {
 subst c9
 have H1 : (impl_runsOf.l1 k1 a0 x3_1 x4_1 x4_1 0 (⟨#[]⟩ : ByteArray)) = some r := by rw [if_pos rfl] at H; exact H
 clear H
 have H := H1
 clear H1
 have H' := Aside0.mk H
 clear H
 have p6 : 0 ≤ (x4_1 : Int) := of_decide_eq_true (by first | (with_reducible assumption) | assumption)
 have q6 : x4_1 < (a0.size : Int) := of_decide_eq_true (by first | (with_reducible assumption) | assumption)
 have hx6 := bt_at a0 x4_1
 replace p6 := eq_true p6
 replace q6 := eq_true q6
 go_wp2_with (first | ((with_reducible refine gate_callee (f := 102) rfl ?_); refine goesL_ (some 16) rfl rfl Try.func102 s2_ rfl #[.int .u8 (bt a0 x4_1)] rfl s3_ ?_; (with_reducible refine (impl_lower.calls (bt a0 x4_1) t118 _ A7.out).mono ?_); rintro e w' ⟨rfl, ⟨nd, rfl⟩⟩; refine ⟨_, rfl, ?_⟩; (try (rw [drewN_self wr]; generalize hq_ : World.drewN wr _ = wr; have n0_ : Aside0 (Kd.R k87 87 wr w.heap.size (fun _ => True) u3 x3_1) := ⟨by rw [← hq_]; exact (b2_ HO_3.out)⟩; have n1_ : Aside0 (Below w.heap.size w wr) := ⟨by rw [← hq_]; exact (by repeat (first | (with_reducible first | exact HB.out | apply below_alloc | apply pw_below_drewN | apply below_drew1) | exact HB.out))⟩; clear HO_3 HB hq_; have HO_3 := n0_; have HB := n1_; clear n0_ n1_))) | ((with_reducible refine gate_callee (f := 101) rfl ?_); refine goesL_ (some 17) rfl rfl Try.func101 s2_ rfl #[.int .u8 t118] rfl s3_ ?_; (with_reducible refine (impl_wordByte.calls t118 true _ A8.out).mono ?_); rintro e w' ⟨rfl, ⟨nd, rfl⟩⟩; refine ⟨_, rfl, ?_⟩; (try (rw [drewN_self wr]; generalize hq_ : World.drewN wr _ = wr; have n0_ : Aside0 (Kd.R k87 87 wr w.heap.size (fun _ => True) u3 x3_1) := ⟨by rw [← hq_]; exact (b2_ HO_3.out)⟩; have n1_ : Aside0 (Below w.heap.size w wr) := ⟨by rw [← hq_]; exact (by repeat (first | (with_reducible first | exact HB.out | apply below_alloc | apply pw_below_drewN | apply below_drew1) | exact HB.out))⟩; clear HO_3 HB hq_; have HO_3 := n0_; have HB := n1_; clear n0_ n1_))) | ((with_reducible refine gate_dst (N := 5) rfl ?_); refine box_event ?hg (N := 5) ?hd (cs := #[.int .i64 0, .int .i64 0, .string (⟨#[]⟩ : ByteArray)]) (t := 87) ?hr ?_; (case hd => rfl); (case hg => rfl); (case hr => first | (go_simp; done) | (go_simp; rfl)); intro gb120 hg w10 hbox hb; have n0_ := Aside0.mk (Kd.R_below (Kd.R_elderB (b2_ HO_3.out) gb120 (Nat.le_of_eq hg.symm)) hb); have n1_ := Aside0.mk (below_step (by repeat (first | (with_reducible first | exact HB.out | apply below_alloc | apply pw_below_drewN | apply below_drew1) | exact HB.out)) hb); have n2_ := Aside0.mk (hbox); have n3_ := Aside0.mk ((by rw [hg]; exact (below_size (by repeat (first | (with_reducible first | exact HB.out | apply below_alloc | apply pw_below_drewN | apply below_drew1) | exact HB.out))) : w.heap.size ≤ gb120)); have n4_ := Aside0.mk ((by rw [hg]; exact (below_size (by repeat (first | (with_reducible first | exact HB.out | apply below_alloc | apply pw_below_drewN | apply below_drew1) | exact HB.out))) : w.heap.size ≤ gb120)); clear HO_3; clear HB; have HO_3 := n0_; have HB := n1_; have BK120 := n2_; have GW120 := n3_; have GE120 := n4_; clear n0_ n1_ n2_ n3_ n4_; clear hb hbox hg; have hcz11_0 : w10.cell? ⟨gb120, 0, none⟩ = some (.int .i64 0) := (blk_cell BK120.out 0).trans rfl; have hcz11_1 : w10.cell? ⟨gb120, 1, none⟩ = some (.int .i64 0) := (blk_cell BK120.out 1).trans rfl; have hcz11_2 : w10.cell? ⟨gb120, 2, none⟩ = some (.string (⟨#[]⟩ : ByteArray)) := (blk_cell BK120.out 2).trans rfl; have hfz11_0 := blk_frozen BK120.out 0; have hfz11_1 := blk_frozen BK120.out 1; have hfz11_2 := blk_frozen BK120.out 2))
 go_loopg [4] k1 (fun kq v4 w' => ∃ (x4_2 : Int) (x121002_2 : ByteArray), v4 = .int .i64 x4_2 ∧ Aside0 (impl_runsOf.l1 kq a0 x3_1 x4_2 x4_1 0 x121002_2 = some r) ∧ Aside0 (kq ≤ k1) ∧ Aside0 (Kd.R k87 87 w' w.heap.size (fun k_ => k_ ≠ gb120) u3 x3_1) ∧ Aside0 (w'.heap[gb120]? = some (.cells #[.int .i64 x4_1, .int .i64 0, .string x121002_2] 87 (0, 0))) ∧ Aside0 (Below w.heap.size w w'))
 case atStart => exact ⟨(x4_1), ((⟨#[]⟩ : ByteArray)), s1_, H', ⟨Nat.le_refl _⟩, ⟨by (with_reducible repeat (first | apply Kd.R_alloc | apply Kd.R_drewN | apply Kd.R_drew)); exact Kd.R_mono (Kd.R_far (p := ⟨gb120, 2, none⟩) (Kd.R_far (p := ⟨gb120, 1, none⟩) (Kd.R_far (p := ⟨gb120, 0, none⟩) (Kd.R_mono HO_3.out (fun k_ hk => (⟨hk, hk.2⟩ : _ ∧ k_ ≠ gb120))) (fun _ hk => hk.2) (.int .i64 x4_1)) (fun _ hk => hk.2) (.int .i64 0)) (fun _ hk => hk.2) (.string (⟨#[]⟩ : ByteArray))) (fun _ hk => hk.1.2)⟩, ⟨by (with_reducible repeat (first | refine blk_drewN ?_ _ | refine blk_drew ?_ | refine blk_alloc ?_ _)); refine blk_put (cs := #[.int .i64 x4_1, .int .i64 0, .string (⟨#[]⟩ : ByteArray)]) ?_ 2 _ rfl; (with_reducible repeat (first | refine blk_drewN ?_ _ | refine blk_drew ?_ | refine blk_alloc ?_ _)); refine blk_put (cs := #[.int .i64 x4_1, .int .i64 0, .string (⟨#[]⟩ : ByteArray)]) ?_ 1 _ rfl; (with_reducible repeat (first | refine blk_drewN ?_ _ | refine blk_drew ?_ | refine blk_alloc ?_ _)); refine blk_put (cs := #[.int .i64 0, .int .i64 0, .string (⟨#[]⟩ : ByteArray)]) ?_ 0 _ rfl; (with_reducible repeat (first | refine blk_drewN ?_ _ | refine blk_drew ?_ | refine blk_alloc ?_ _)); exact BK120.out⟩, ⟨by repeat (first | (with_reducible first | exact HB.out | apply below_alloc | apply pw_below_drewN | apply below_drew1 | refine below_set ?_ GE120.out) | exact HB.out)⟩⟩
 case round =>
  skip
  {
 clear H'
 try clear c1
 try clear p2
 try clear c4
 try clear c4b0
 try clear c5
 try clear c5b0
 try clear p6
 try clear q6
 try clear hx6
 try clear c7
 try clear c9
 try clear c10
 try clear hcz11_0
 try clear hcz11_1
 try clear hcz11_2
 try clear hfz11_0
 try clear hfz11_1
 try clear hfz11_2
 try clear p2
 try clear p6
 try clear q6
 obtain ⟨x4_2, x121002_2, rfl, HA, HK2, HO_3, BK120, HB⟩ := hrel
 cases gk with
 | zero => exact absurd HA.out (by simp [impl_runsOf.l1])
 | succ k2 =>
  skip
  {
 have H := HA.out
 clear HA
 simp only [impl_runsOf.l1] at H
 by_cases c12 : x4_2 < (a0.size : Int)
 {
 rw [if_pos c12] at H
 have c12b0 : decide (x4_2 < (a0.size : Int)) = true := decide_eq_true c12
 clear c12
 by_cases c13 : 0 ≤ x4_2
 {
 rw [if_pos c13] at H
 have c13b0 : decide (0 ≤ x4_2) = true := decide_eq_true c13
 clear c13
 replace H := Option.bind_eq_some_iff.mp H
 obtain ⟨t121, A150, H⟩ := H
 replace H : ((impl_wordByte.f t121).bind fun t122 => (if t122 = true then ((impl_lower.f (bt a0 x4_2)).bind fun t123 => (if x121002_2.size + (Utf8.encode t123).size ≤ 9223372036854775807 then (impl_runsOf.l1 k2 a0 x3_1 (wrap64 (x4_2 + 1)) x4_1 0 (x121002_2 ++ (Utf8.encode t123))) else (none))) else (if x3_1.length < 4398046511104 then (impl_runsOf.l0 k2 a0 (x3_1 ++ [(⟨x4_1, x4_2, x121002_2⟩ : S87)]) (wrap64 (x4_2 + 1))) else (none)))) = some r := H
 have A15 := Aside0.mk A150
 clear A150
 replace H := Option.bind_eq_some_iff.mp H
 obtain ⟨t122, A160, H⟩ := H
 replace H : (if t122 = true then ((impl_lower.f (bt a0 x4_2)).bind fun t123 => (if x121002_2.size + (Utf8.encode t123).size ≤ 9223372036854775807 then (impl_runsOf.l1 k2 a0 x3_1 (wrap64 (x4_2 + 1)) x4_1 0 (x121002_2 ++ (Utf8.encode t123))) else (none))) else (if x3_1.length < 4398046511104 then (impl_runsOf.l0 k2 a0 (x3_1 ++ [(⟨x4_1, x4_2, x121002_2⟩ : S87)]) (wrap64 (x4_2 + 1))) else (none))) = some r := H
 have A16 := Aside0.mk A160
 clear A160
 by_cases c17 : t122 = true
 {
 subst c17
 have H1 : ((impl_lower.f (bt a0 x4_2)).bind fun t123 => (if x121002_2.size + (Utf8.encode t123).size ≤ 9223372036854775807 then (impl_runsOf.l1 k2 a0 x3_1 (wrap64 (x4_2 + 1)) x4_1 0 (x121002_2 ++ (Utf8.encode t123))) else (none))) = some r := by rw [if_pos rfl] at H; exact H
 clear H
 have H := H1
 clear H1
 replace H := Option.bind_eq_some_iff.mp H
 obtain ⟨t123, A190, H⟩ := H
 replace H : (if x121002_2.size + (Utf8.encode t123).size ≤ 9223372036854775807 then (impl_runsOf.l1 k2 a0 x3_1 (wrap64 (x4_2 + 1)) x4_1 0 (x121002_2 ++ (Utf8.encode t123))) else (none)) = some r := H
 have A19 := Aside0.mk A190
 clear A190
 by_cases c20 : x121002_2.size + (Utf8.encode t123).size ≤ 9223372036854775807
 {
 rw [if_pos c20] at H
 have c20b0 := eq_true c20
 have c20b1 : decide (x121002_2.size + (Utf8.encode t123).size ≤ 9223372036854775807) = true := decide_eq_true c20
 try have c20b2 : (9223372036854775807 < x121002_2.size + (Utf8.encode t123).size) = False := eq_false (Nat.not_lt.2 c20)
 have H' := Aside0.mk H
 clear H
 have p14 : 0 ≤ (x4_2 : Int) := of_decide_eq_true (by first | (with_reducible assumption) | assumption)
 have q14 : x4_2 < (a0.size : Int) := of_decide_eq_true (by first | (with_reducible assumption) | assumption)
 have hx14 := bt_at a0 x4_2
 replace p14 := eq_true p14
 replace q14 := eq_true q14
 try go_wp2_with (first | (go_at_call 102; (with_reducible refine (impl_lower.calls (bt a0 x4_2) t121 _ A15.out).mono ?_); rintro e w' ⟨rfl, ⟨nd, rfl⟩⟩; (try (rw [drewN_self wr]; generalize hq_ : World.drewN wr _ = wr; have n0_ : Aside0 (Kd.R k87 87 wr w.heap.size (fun k_ => k_ ≠ gb120) u3 x3_1) := ⟨by rw [← hq_]; exact (b2_ HO_3.out)⟩; have n1_ : Aside0 (wr.heap[gb120]? = some (.cells #[.int .i64 x4_1, .int .i64 0, .string x121002_2] 87 (0, 0))) := ⟨by rw [← hq_]; exact (b1_ BK120.out)⟩; have n2_ : Aside0 (Below w.heap.size w wr) := ⟨by rw [← hq_]; exact (by repeat (first | (with_reducible first | exact HB.out | apply below_alloc | apply pw_below_drewN | apply below_drew1 | refine below_set ?_ GE120.out) | exact HB.out))⟩; clear HO_3 BK120 HB hq_; have HO_3 := n0_; have BK120 := n1_; have HB := n2_; clear n0_ n1_ n2_))) | (go_at_call 101; (with_reducible refine (impl_wordByte.calls t121 true _ A16.out).mono ?_); rintro e w' ⟨rfl, ⟨nd, rfl⟩⟩; (try (rw [drewN_self wr]; generalize hq_ : World.drewN wr _ = wr; have n0_ : Aside0 (Kd.R k87 87 wr w.heap.size (fun k_ => k_ ≠ gb120) u3 x3_1) := ⟨by rw [← hq_]; exact (b2_ HO_3.out)⟩; have n1_ : Aside0 (wr.heap[gb120]? = some (.cells #[.int .i64 x4_1, .int .i64 0, .string x121002_2] 87 (0, 0))) := ⟨by rw [← hq_]; exact (b1_ BK120.out)⟩; have n2_ : Aside0 (Below w.heap.size w wr) := ⟨by rw [← hq_]; exact (by repeat (first | (with_reducible first | exact HB.out | apply below_alloc | apply pw_below_drewN | apply below_drew1 | refine below_set ?_ GE120.out) | exact HB.out))⟩; clear HO_3 BK120 HB hq_; have HO_3 := n0_; have BK120 := n1_; have HB := n2_; clear n0_ n1_ n2_))))
 have n0_ := Aside0.mk (Kd.R_drew HO_3.out)
 have n1_ := Aside0.mk (blk_drew BK120.out)
 have n2_ := Aside0.mk (below_drew1 HB.out)
 clear HO_3
 clear BK120
 clear HB
 have HO_3 := n0_
 have BK120 := n1_
 have HB := n2_
 clear n0_ n1_ n2_
 have p18 : 0 ≤ (x4_2 : Int) := of_decide_eq_true (by first | (with_reducible assumption) | assumption)
 have q18 : x4_2 < (a0.size : Int) := of_decide_eq_true (by first | (with_reducible assumption) | assumption)
 have hx18 := bt_at a0 x4_2
 replace p18 := eq_true p18
 replace q18 := eq_true q18
 refine start_ (n := 10) (S := fun w' => w'.cell? ⟨gb120, 0, none⟩ = some (.int .i64 x4_1) ∧ w'.cell? ⟨gb120, 1, none⟩ = some (.int .i64 0) ∧ w'.cell? ⟨gb120, 2, none⟩ = some (.string x121002_2)) (ds := [9]) #[F,F,F,F,F,F,F,F,F,F] s2_ rfl rfl ⟨(blk_cell BK120.out 0).trans rfl, (blk_cell BK120.out 1).trans rfl, (blk_cell BK120.out 2).trans rfl⟩ (fun hHeld => ?_); refine with_tabW impl_runsOf.tab8 impl_runsOf.bits8 (fun HT_ HW_ => ?_)
 generalize wr.drew = w21 at HO_3 BK120 HB hHeld ⊢
 refine pu_ 0 32 #[T,F,F,F,F,F,F,F,F,F] (any_of HT_.out s2_) ?_
 refine pu_ 2 34 #[T,F,T,F,F,F,F,F,F,F] (any_of HT_.out s2_) ?_
 refine pu_ 3 35 #[T,F,T,T,F,F,F,F,F,F] (any_of HT_.out s2_) ?_
 refine take_ (i := 1) (N := some 33) (v := ?_) (a' := ?_) #[T,T,T,T,F,F,F,F,F,F] rfl rfl (take_ofW HT_.out HW_.out s2_) (fun _ _ _ h => h) (Or.inl ⟨by rfl, ?_⟩) hHeld ?_ ?_
 rotate_left
 {
 rintro w' ⟨s0, s1, s2⟩
 go_simp
 with_reducible rfl}
 rotate_left
 · exact p1_
 refine take_ (i := 4) (N := some 36) (v := ?_) (a' := ?_) #[T,T,T,T,T,F,F,F,F,F] rfl rfl (take_ofW HT_.out HW_.out s2_) (fun _ _ _ h => h) (Or.inl ⟨by rfl, ?_⟩) hHeld ?_ ?_
 rotate_left
 {
 rintro w' ⟨s0, s1, s2⟩
 go_simp
 with_reducible rfl}
 rotate_left
 · exact p1_
 refine one_ (i := 5) (N := some 37) #[T,T,T,T,T,T,F,F,F,F] rfl rfl (one_of HT_.out s2_) (by decide) (fun K hK => ?_)
 refine goes_ Try.func102 s2_ rfl #[.int .u8 (bt a0 x4_2)] (by rfl) rfl rfl s3_ ?_
 with_reducible refine (impl_lower.calls (bt a0 x4_2) t123 _ A19.out).mono ?_
 rintro e w' ⟨rfl, ⟨nd, rfl⟩⟩
 refine ⟨_, rfl, ?_⟩
 refine hK.out _ _ ⟨(blk_cell BK120.out 0).trans rfl, (blk_cell BK120.out 1).trans rfl, (blk_cell BK120.out 2).trans rfl⟩ (fun hHeld => ?_)
 clear hK K
 refine norm_ (a' := ?_) ?_ ?_
 rotate_left
 {
 show Act.put _ (some 37) _ = _
 simp only [Act.put, List.setIfInBounds_toArray, List.set_cons_zero, List.set_cons_succ, i64_w, i32_w]
 rfl}
 refine pu_ 6 38 #[T,T,T,T,T,T,T,F,F,F] (any_of HT_.out s2_) ?_
 refine pu_ 7 39 #[T,T,T,T,T,T,T,T,F,F] (any_of HT_.out s2_) ?_
 refine pu_ 8 40 #[T,T,T,T,T,T,T,T,T,F] (any_of HT_.out s2_) ?_
 refine last_ (i := 9) (N := none) #[T,T,T,T,T,T,T,T,T,T] rfl rfl (one_of HT_.out s2_) (by decide) (fun K hK => ?_)
 have hs22 : w21.cell? ⟨gb120, 2, none⟩ = some (.string x121002_2) := (blk_cell BK120.out 2).trans rfl
 have hfs22 := blk_frozen BK120.out 2
 refine skip_ (w1 := ?_) (by rfl) rfl ?_ ?_
 rotate_left
 {
 go_simp
 rfl}
 refine hK.out _ _ ?_
 clear hK K
 refine done_ (done_of HT_.out s2_) ?_
 try go_wp2
 go_roundg k2
 case measure => have := HK1.out; have := HK2.out; omega
 case rel => exact ⟨(wrap64 (x4_2 + 1)), (x121002_2 ++ (Utf8.encode t123)), s1_, H', ⟨by have := HK1.out; have := HK2.out; omega⟩, ⟨by (with_reducible repeat (first | apply Kd.R_alloc | apply Kd.R_drewN | apply Kd.R_drew)); exact Kd.R_mono (Kd.R_far (p := ⟨gb120, 2, none⟩) (Kd.R_mono HO_3.out (fun k_ hk => (⟨hk, hk⟩ : _ ∧ k_ ≠ gb120))) (fun _ hk => hk.2) (.string (x121002_2 ++ (Utf8.encode t123)))) (fun _ hk => hk.1)⟩, ⟨by (with_reducible repeat (first | refine blk_drewN ?_ _ | refine blk_drew ?_ | refine blk_alloc ?_ _)); refine blk_put (cs := #[.int .i64 x4_1, .int .i64 0, .string x121002_2]) ?_ 2 _ rfl; (with_reducible repeat (first | refine blk_drewN ?_ _ | refine blk_drew ?_ | refine blk_alloc ?_ _)); exact BK120.out⟩, ⟨by repeat (first | (with_reducible first | exact HB.out | apply below_alloc | apply pw_below_drewN | apply below_drew1 | refine below_set ?_ GE120.out) | exact HB.out)⟩⟩}
 {
 rw [if_neg c20] at H
 exact absurd H (by simp)}}
 {
 replace c17 := Bool.eq_false_iff.mpr c17
 subst c17
 have H1 : (if x3_1.length < 4398046511104 then (impl_runsOf.l0 k2 a0 (x3_1 ++ [(⟨x4_1, x4_2, x121002_2⟩ : S87)]) (wrap64 (x4_2 + 1))) else (none)) = some r := by rw [if_neg (show ¬ (false = true) by decide)] at H; exact H
 clear H
 have H := H1
 clear H1
 by_cases c23 : x3_1.length < 4398046511104
 {
 rw [if_pos c23] at H
 have LMc23 := Aside0.mk c23
 clear c23
 obtain ⟨y124, hy124⟩ : ∃ y_ : List (S87), y_ = (x3_1 ++ [(⟨x4_1, x4_2, x121002_2⟩ : S87)]) := ⟨_, rfl⟩
 replace H : (impl_runsOf.l0 k2 a0 y124 (wrap64 (x4_2 + 1))) = some r := by first | (rw [hy124]; with_reducible exact H) | (have H2_ := (Option.bind_some _ _).symm.trans H; rw [hy124]; with_reducible exact H2_) | (have H2_ := (Option.bind_some _ _).symm.trans H; with_reducible exact H2_) | with_reducible exact H | (rw [hy124]; exact H) | exact H
 have Ny124 := Aside0.mk hy124
 clear hy124
 have H' := Aside0.mk H
 clear H
 have p14 : 0 ≤ (x4_2 : Int) := of_decide_eq_true (by first | (with_reducible assumption) | assumption)
 have q14 : x4_2 < (a0.size : Int) := of_decide_eq_true (by first | (with_reducible assumption) | assumption)
 have hx14 := bt_at a0 x4_2
 replace p14 := eq_true p14
 replace q14 := eq_true q14
 go_wp2_with (first | (go_at_call 102; (with_reducible refine (impl_lower.calls (bt a0 x4_2) t121 _ A15.out).mono ?_); rintro e w' ⟨rfl, ⟨nd, rfl⟩⟩; (try (rw [drewN_self wr]; generalize hq_ : World.drewN wr _ = wr; have n0_ : Aside0 (Kd.R k87 87 wr w.heap.size (fun k_ => k_ ≠ gb120) u3 x3_1) := ⟨by rw [← hq_]; exact (b2_ HO_3.out)⟩; have n1_ : Aside0 (wr.heap[gb120]? = some (.cells #[.int .i64 x4_1, .int .i64 0, .string x121002_2] 87 (0, 0))) := ⟨by rw [← hq_]; exact (b1_ BK120.out)⟩; have n2_ : Aside0 (Below w.heap.size w wr) := ⟨by rw [← hq_]; exact (by repeat (first | (with_reducible first | exact HB.out | apply below_alloc | apply pw_below_drewN | apply below_drew1 | refine below_set ?_ GE120.out) | exact HB.out))⟩; clear HO_3 BK120 HB hq_; have HO_3 := n0_; have BK120 := n1_; have HB := n2_; clear n0_ n1_ n2_))) | (go_at_call 101; (with_reducible refine (impl_wordByte.calls t121 false _ A16.out).mono ?_); rintro e w' ⟨rfl, ⟨nd, rfl⟩⟩; (try (rw [drewN_self wr]; generalize hq_ : World.drewN wr _ = wr; have n0_ : Aside0 (Kd.R k87 87 wr w.heap.size (fun k_ => k_ ≠ gb120) u3 x3_1) := ⟨by rw [← hq_]; exact (b2_ HO_3.out)⟩; have n1_ : Aside0 (wr.heap[gb120]? = some (.cells #[.int .i64 x4_1, .int .i64 0, .string x121002_2] 87 (0, 0))) := ⟨by rw [← hq_]; exact (b1_ BK120.out)⟩; have n2_ : Aside0 (Below w.heap.size w wr) := ⟨by rw [← hq_]; exact (by repeat (first | (with_reducible first | exact HB.out | apply below_alloc | apply pw_below_drewN | apply below_drew1 | refine below_set ?_ GE120.out) | exact HB.out))⟩; clear HO_3 BK120 HB hq_; have HO_3 := n0_; have BK120 := n1_; have HB := n2_; clear n0_ n1_ n2_)); have hcz24_0 : wr.cell? ⟨gb120, 0, none⟩ = some (.int .i64 x4_1) := (blk_cell BK120.out 0).trans rfl; have hcz24_1 : wr.cell? ⟨gb120, 1, none⟩ = some (.int .i64 0) := (blk_cell BK120.out 1).trans rfl; have hcz24_2 : wr.cell? ⟨gb120, 2, none⟩ = some (.string x121002_2) := (blk_cell BK120.out 2).trans rfl; have hfz24_0 := blk_frozen BK120.out 0; have hfz24_1 := blk_frozen BK120.out 1; have hfz24_2 := blk_frozen BK120.out 2) | ((with_reducible refine gate_builtin (b := .append) (xs := #[.tmp 45, .tmp 47]) rfl ?_); at_builtin; refine Kd.R_append k87 (w0 := w) w.heap.size rfl (.tmp 45) (.tmp 47) 84 87 (.agg #[(.int .i64 0), (.int .i64 0), (.string ⟨#[]⟩)]) 32 rfl Try.underlying84 info87 rfl (by decide) (by omega) u3 x3_1 (⟨x4_1, x4_2, x121002_2⟩ : S87) [.int .i64 x4_1, .int .i64 x4_2, .string x121002_2] (fun k_ => k_ ≠ gb120) (fun _ => False) rfl (by first | (go_simp; done) | (go_simp; rfl)) ?aP (fun _ hk => hk.elim) ?aF ?aO ?aB ?aS ?aL ?_; (case aP => exact k87_mkM _ _ _ (⟨x4_1, x4_2, x121002_2⟩ : S87)); (case aB => exact (by repeat (first | (with_reducible first | exact HB.out | apply below_alloc | apply pw_below_drewN | apply below_drew1 | refine below_set ?_ GE120.out) | exact HB.out))); (case aF => exact (fun k_ hk => Kd.freshB (g := gb120) (o := .cells #[.int .i64 x4_1, .int .i64 x4_2, .string x121002_2] 87 (0, 0)) (by (with_reducible repeat (first | refine blk_drewN ?_ _ | refine blk_drew ?_ | refine blk_alloc ?_ _)); refine blk_put (cs := #[.int .i64 x4_1, .int .i64 0, .string x121002_2]) ?_ 1 _ rfl; (with_reducible repeat (first | refine blk_drewN ?_ _ | refine blk_drew ?_ | refine blk_alloc ?_ _)); exact BK120.out) k_ hk)); (case aO => exact (by (with_reducible repeat (first | apply Kd.R_alloc | apply Kd.R_drewN | apply Kd.R_drew)); exact Kd.R_mono (Kd.R_far (p := ⟨gb120, 1, none⟩) (Kd.R_mono HO_3.out (fun k_ hk => (⟨hk, hk⟩ : _ ∧ k_ ≠ gb120))) (fun _ hk => hk.2) (.int .i64 x4_2)) (fun _ hk => hk.1))); (case aS => exact (below_size (by repeat (first | (with_reducible first | exact HB.out | apply below_alloc | apply pw_below_drewN | apply below_drew1 | refine below_set ?_ GE120.out) | exact HB.out)))); (case aL => have := LMc23.out; omega); intro v125 w25 ho hb hg hat; rw [← Ny124.out] at ho; have n0_ := Aside0.mk (blk_grown (g := gb120) (o := .cells #[.int .i64 x4_1, .int .i64 x4_2, .string x121002_2] 87 (0, 0)) (by (with_reducible repeat (first | refine blk_drewN ?_ _ | refine blk_drew ?_ | refine blk_alloc ?_ _)); refine blk_put (cs := #[.int .i64 x4_1, .int .i64 0, .string x121002_2]) ?_ 1 _ rfl; (with_reducible repeat (first | refine blk_drewN ?_ _ | refine blk_drew ?_ | refine blk_alloc ?_ _)); exact BK120.out) hg (Kd.R_away HO_3.out (fun _ hk => hk))); have n1_ := Aside0.mk (hb); have n2_ := Aside0.mk (ho); clear BK120; clear HB; clear HO_3; have BK120 := n0_; have HB := n1_; have HO126 := n2_; clear n0_ n1_ n2_; clear ho hb hg hat))
 go_roundg k2
 case measure => have := HK1.out; have := HK2.out; omega
 case rel => exact ⟨(y124), (wrap64 (x4_2 + 1)), s1_, H', ⟨by have := HK1.out; have := HK2.out; omega⟩, ⟨by (with_reducible repeat (first | apply Kd.R_alloc | apply Kd.R_drewN | apply Kd.R_drew)); exact Kd.R_mono HO126.out (fun _ hk => trivial)⟩, ⟨by repeat (first | (with_reducible first | exact HB.out | apply below_alloc | apply pw_below_drewN | apply below_drew1 | refine below_set ?_ GE120.out) | exact HB.out)⟩⟩}
 {
 rw [if_neg c23] at H
 exact absurd H (by simp)}}}
 {
 rw [if_neg c13] at H
 exact absurd H (by simp)}}
 {
 rw [if_neg c12] at H
 have c12b0 : decide (x4_2 < (a0.size : Int)) = false := decide_eq_false c12
 clear c12
 by_cases c26 : x3_1.length < 4398046511104
 {
 rw [if_pos c26] at H
 have LMc26 := Aside0.mk c26
 clear c26
 obtain ⟨y127, hy127⟩ : ∃ y_ : List (S87), y_ = (x3_1 ++ [(⟨x4_1, x4_2, x121002_2⟩ : S87)]) := ⟨_, rfl⟩
 replace H : (impl_runsOf.l0 k2 a0 y127 (wrap64 (x4_2 + 1))) = some r := by first | (rw [hy127]; with_reducible exact H) | (have H2_ := (Option.bind_some _ _).symm.trans H; rw [hy127]; with_reducible exact H2_) | (have H2_ := (Option.bind_some _ _).symm.trans H; with_reducible exact H2_) | with_reducible exact H | (rw [hy127]; exact H) | exact H
 have Ny127 := Aside0.mk hy127
 clear hy127
 have H' := Aside0.mk H
 clear H
 have hcz27_0 : wr.cell? ⟨gb120, 0, none⟩ = some (.int .i64 x4_1) := (blk_cell BK120.out 0).trans rfl
 have hcz27_1 : wr.cell? ⟨gb120, 1, none⟩ = some (.int .i64 0) := (blk_cell BK120.out 1).trans rfl
 have hcz27_2 : wr.cell? ⟨gb120, 2, none⟩ = some (.string x121002_2) := (blk_cell BK120.out 2).trans rfl
 have hfz27_0 := blk_frozen BK120.out 0
 have hfz27_1 := blk_frozen BK120.out 1
 have hfz27_2 := blk_frozen BK120.out 2
 go_wp2_with (first | ((with_reducible refine gate_builtin (b := .append) (xs := #[.tmp 45, .tmp 47]) rfl ?_); at_builtin; refine Kd.R_append k87 (w0 := w) w.heap.size rfl (.tmp 45) (.tmp 47) 84 87 (.agg #[(.int .i64 0), (.int .i64 0), (.string ⟨#[]⟩)]) 32 rfl Try.underlying84 info87 rfl (by decide) (by omega) u3 x3_1 (⟨x4_1, x4_2, x121002_2⟩ : S87) [.int .i64 x4_1, .int .i64 x4_2, .string x121002_2] (fun k_ => k_ ≠ gb120) (fun _ => False) rfl (by first | (go_simp; done) | (go_simp; rfl)) ?aP (fun _ hk => hk.elim) ?aF ?aO ?aB ?aS ?aL ?_; (case aP => exact k87_mkM _ _ _ (⟨x4_1, x4_2, x121002_2⟩ : S87)); (case aB => exact (by repeat (first | (with_reducible first | exact HB.out | apply below_alloc | apply pw_below_drewN | apply below_drew1 | refine below_set ?_ GE120.out) | exact HB.out))); (case aF => exact (fun k_ hk => Kd.freshB (g := gb120) (o := .cells #[.int .i64 x4_1, .int .i64 x4_2, .string x121002_2] 87 (0, 0)) (by (with_reducible repeat (first | refine blk_drewN ?_ _ | refine blk_drew ?_ | refine blk_alloc ?_ _)); refine blk_put (cs := #[.int .i64 x4_1, .int .i64 0, .string x121002_2]) ?_ 1 _ rfl; (with_reducible repeat (first | refine blk_drewN ?_ _ | refine blk_drew ?_ | refine blk_alloc ?_ _)); exact BK120.out) k_ hk)); (case aO => exact (by (with_reducible repeat (first | apply Kd.R_alloc | apply Kd.R_drewN | apply Kd.R_drew)); exact Kd.R_mono (Kd.R_far (p := ⟨gb120, 1, none⟩) (Kd.R_mono HO_3.out (fun k_ hk => (⟨hk, hk⟩ : _ ∧ k_ ≠ gb120))) (fun _ hk => hk.2) (.int .i64 x4_2)) (fun _ hk => hk.1))); (case aS => exact (below_size (by repeat (first | (with_reducible first | exact HB.out | apply below_alloc | apply pw_below_drewN | apply below_drew1 | refine below_set ?_ GE120.out) | exact HB.out)))); (case aL => have := LMc26.out; omega); intro v128 w28 ho hb hg hat; rw [← Ny127.out] at ho; have n0_ := Aside0.mk (blk_grown (g := gb120) (o := .cells #[.int .i64 x4_1, .int .i64 x4_2, .string x121002_2] 87 (0, 0)) (by (with_reducible repeat (first | refine blk_drewN ?_ _ | refine blk_drew ?_ | refine blk_alloc ?_ _)); refine blk_put (cs := #[.int .i64 x4_1, .int .i64 0, .string x121002_2]) ?_ 1 _ rfl; (with_reducible repeat (first | refine blk_drewN ?_ _ | refine blk_drew ?_ | refine blk_alloc ?_ _)); exact BK120.out) hg (Kd.R_away HO_3.out (fun _ hk => hk))); have n1_ := Aside0.mk (hb); have n2_ := Aside0.mk (ho); clear BK120; clear HB; clear HO_3; have BK120 := n0_; have HB := n1_; have HO129 := n2_; clear n0_ n1_ n2_; clear ho hb hg hat))
 go_roundg k2
 case measure => have := HK1.out; have := HK2.out; omega
 case rel => exact ⟨(y127), (wrap64 (x4_2 + 1)), s1_, H', ⟨by have := HK1.out; have := HK2.out; omega⟩, ⟨by (with_reducible repeat (first | apply Kd.R_alloc | apply Kd.R_drewN | apply Kd.R_drew)); exact Kd.R_mono HO129.out (fun _ hk => trivial)⟩, ⟨by repeat (first | (with_reducible first | exact HB.out | apply below_alloc | apply pw_below_drewN | apply below_drew1 | refine below_set ?_ GE120.out) | exact HB.out)⟩⟩}
 {
 rw [if_neg c26] at H
 exact absurd H (by simp)}}}}}
 {
 replace c9 := Bool.eq_false_iff.mpr c9
 subst c9
 have H1 : (impl_runsOf.l0 k1 a0 x3_1 (wrap64 (x4_1 + 1))) = some r := by rw [if_neg (show ¬ (false = true) by decide)] at H; exact H
 clear H
 have H := H1
 clear H1
 have H' := Aside0.mk H
 clear H
 have p6 : 0 ≤ (x4_1 : Int) := of_decide_eq_true (by first | (with_reducible assumption) | assumption)
 have q6 : x4_1 < (a0.size : Int) := of_decide_eq_true (by first | (with_reducible assumption) | assumption)
 have hx6 := bt_at a0 x4_1
 replace p6 := eq_true p6
 replace q6 := eq_true q6
 go_wp2_with (first | ((with_reducible refine gate_callee (f := 102) rfl ?_); refine goesL_ (some 16) rfl rfl Try.func102 s2_ rfl #[.int .u8 (bt a0 x4_1)] rfl s3_ ?_; (with_reducible refine (impl_lower.calls (bt a0 x4_1) t118 _ A7.out).mono ?_); rintro e w' ⟨rfl, ⟨nd, rfl⟩⟩; refine ⟨_, rfl, ?_⟩) | ((with_reducible refine gate_callee (f := 101) rfl ?_); refine goesL_ (some 17) rfl rfl Try.func101 s2_ rfl #[.int .u8 t118] rfl s3_ ?_; (with_reducible refine (impl_wordByte.calls t118 false _ A8.out).mono ?_); rintro e w' ⟨rfl, ⟨nd, rfl⟩⟩; refine ⟨_, rfl, ?_⟩))
 go_roundg k1
 case measure => have := HK1.out; omega
 case rel => exact ⟨(x3_1), (wrap64 (x4_1 + 1)), s1_, H', ⟨by have := HK1.out; omega⟩, ⟨b2_ HO_3.out⟩, ⟨by repeat (first | (with_reducible first | exact HB.out | apply below_alloc | apply pw_below_drewN | apply below_drew1) | exact HB.out)⟩⟩}}
 {
 rw [if_neg c5] at H
 exact absurd H (by simp)}}
 {
 rw [if_neg c4] at H
 have c4b0 : decide (x4_1 < (a0.size : Int)) = false := decide_eq_false c4
 clear c4
 obtain rfl := Option.some.inj H
 go_wp2
 go_ret
 exact ⟨_, by first | rfl | (simp [errW_none, errW_some] <;> rfl) | (simp [*, errW_none, errW_some] <;> rfl), by (with_reducible repeat (first | apply Kd.R_alloc | apply Kd.R_drewN | apply Kd.R_drew)); exact HO_3.out, by repeat (first | (with_reducible first | exact HB.out | apply below_alloc | apply pw_below_drewN | apply below_drew1) | exact HB.out)⟩}}}

/-! ### slices_Index_string_string: function 103 -/
def slices_Index_string_string.l0 : Nat → List ByteArray → ByteArray → Int → Int → Option (Int)
  | 0, _, _, _, _ => none
  | k + 1, x0, x1, x7, x8 => if x8 < x7 then (if 0 ≤ x8 then (if x8 < (x0.length : Int) then (if x1.toList = (rdOf ByteArray.empty x0 x8).toList then (some x8) else (slices_Index_string_string.l0 k x0 x1 x7 (wrap64 (x8 + 1)))) else (none)) else (none)) else (some (-1))
def slices_Index_string_string.f (k : Nat) (l0 : List ByteArray) (a1 : ByteArray) : Option (Int) := slices_Index_string_string.l0 k l0 a1 (l0.length : Int) 0
theorem slices_Index_string_string.mono_l : ∀ k, (∀ y0 y1 y2 y3, LeO (slices_Index_string_string.l0 k y0 y1 y2 y3) (slices_Index_string_string.l0 (k + 1) y0 y1 y2 y3))
  | 0 => fun _ _ _ _ r h => by simp [slices_Index_string_string.l0] at h
  | k + 1 => by
    have ih0 := slices_Index_string_string.mono_l k
    · intro y0 y1 y2 y3
      unfold slices_Index_string_string.l0
      repeat' first
      | (with_reducible exact ih0 _ _ _ _)
      | (with_reducible exact LeO.refl _)
      | (with_reducible exact LeO.none _)
      | (with_reducible refine LeO.ite ?_ ?_)
      | (with_reducible refine LeO.bind ?_ (fun _ => ?_))
      | exact ih0 _ _ _ _
      | exact LeO.none _
      | refine LeO.ite ?_ ?_
      | refine LeO.bind ?_ (fun _ => ?_)
theorem slices_Index_string_string.mono : ∀ a0 a1 k, LeO (slices_Index_string_string.f k a0 a1) (slices_Index_string_string.f (k + 1) a0 a1) := by
  intro a0 a1 k
  have ih0 := slices_Index_string_string.mono_l k
  unfold slices_Index_string_string.f
  repeat' first
      | (with_reducible exact ih0 _ _ _ _)
      | (with_reducible exact LeO.refl _)
      | (with_reducible exact LeO.none _)
      | (with_reducible refine LeO.ite ?_ ?_)
      | (with_reducible refine LeO.bind ?_ (fun _ => ?_))
      | exact ih0 _ _ _ _
      | exact LeO.none _
      | refine LeO.ite ?_ ?_
      | refine LeO.bind ?_ (fun _ => ?_)
set_option maxHeartbeats 8000000 in
set_option maxRecDepth 100000 in
theorem slices_Index_string_string.calls (k : Nat) (A0 : Option Addr) (c0 : Nat) (l0 : List ByteArray) (a1 : ByteArray) (r : Int) (w : World) (hr0 : Kd.C Kd.string w A0 l0.length l0) (hc0 : l0.length ≤ c0) (h : slices_Index_string_string.f k l0 a1 = some r) :
    Calls Try.prog 103 #[.slice A0 l0.length c0, .string a1] w fun e w' => e = .returned (.int .i64 r) ∧ Drawn0 w w' := by
  have HR0 := Aside0.mk hr0
  have HC0 := Aside0.mk hc0
  clear hr0 hc0
  have H : (slices_Index_string_string.l0 k l0 a1 (l0.length : Int) 0) = some r := h
  clear h
  have H' := Aside0.mk H
  clear H
  go_enter Try.func103, Try.ntmps103
  go_wp2
  go_loopg [8] k (fun kq v8 w' => ∃ (x8_1 : Int), v8 = .int .i64 x8_1 ∧ Aside0 (slices_Index_string_string.l0 kq l0 a1 (l0.length : Int) x8_1 = some r) ∧ Aside0 (kq ≤ k) ∧ Drawn0 w w')
  case atStart => exact ⟨(0), (by first | rfl | (simp; done) | (simp [*]; done)), H', ⟨Nat.le_refl _⟩, by repeat (first | exact Drawn0.refl _ | apply Drawn0.step)⟩
  case round =>
    clear H'
    try clear c1
    try clear p2
    obtain ⟨x8_1, rfl, HA, HK1, ⟨m1, rfl⟩⟩ := hrel
    cases gk with
    | zero => exact absurd HA.out (by simp [slices_Index_string_string.l0])
    | succ k1 =>
      have H := HA.out
      clear HA
      simp only [slices_Index_string_string.l0] at H
      by_cases c3 : x8_1 < (l0.length : Int)
      · rw [if_pos c3] at H
        have c3b0 : decide (x8_1 < (l0.length : Int)) = true := decide_eq_true c3
        clear c3
        by_cases c4 : 0 ≤ x8_1
        · rw [if_pos c4] at H
          have c4b0 : decide (0 ≤ x8_1) = true := decide_eq_true c4
          clear c4
          by_cases c5 : x8_1 < (l0.length : Int)
          · rw [if_pos c5] at H
            have c5b0 : decide (x8_1 < (l0.length : Int)) = true := decide_eq_true c5
            clear c5
            by_cases c6 : a1.toList = (rdOf ByteArray.empty l0 x8_1).toList
            · rw [if_pos c6] at H
              have c6b0 : (a1.toList == (rdOf ByteArray.empty l0 x8_1).toList) = true := beq_iff_eq.mpr c6
              have c6b1 : (a1.toList != (rdOf ByteArray.empty l0 x8_1).toList) = false := bne_eq_false_iff_eq.mpr c6
              clear c6
              obtain rfl := Option.some.inj H
              have p130 : 0 ≤ (x8_1 : Int) := of_decide_eq_true (by first | (with_reducible assumption) | assumption)
              have q130 : x8_1 < (l0.length : Int) := of_decide_eq_true (by first | (with_reducible assumption) | assumption)
              obtain ⟨ad130, e130, hx130_0⟩ := Kd.at_string HR0.out x8_1 p130 q130
              cases e130
              replace p130 := eq_true p130
              replace q130 := eq_true q130
              go_wp2
              go_ret
              exact ⟨by first | rfl | (simp; done) | (simp [*]; done), by repeat (first | exact Drawn0.refl _ | apply Drawn0.step)⟩
            · rw [if_neg c6] at H
              have c6b0 : (a1.toList == (rdOf ByteArray.empty l0 x8_1).toList) = false := beq_eq_false_iff_ne.mpr c6
              have c6b1 : (a1.toList != (rdOf ByteArray.empty l0 x8_1).toList) = true := bne_iff_ne.mpr c6
              have H' := Aside0.mk H
              clear H
              have p130 : 0 ≤ (x8_1 : Int) := of_decide_eq_true (by first | (with_reducible assumption) | assumption)
              have q130 : x8_1 < (l0.length : Int) := of_decide_eq_true (by first | (with_reducible assumption) | assumption)
              obtain ⟨ad130, e130, hx130_0⟩ := Kd.at_string HR0.out x8_1 p130 q130
              cases e130
              replace p130 := eq_true p130
              replace q130 := eq_true q130
              go_wp2
              go_roundg k1
              case measure => have := HK1.out; omega
              case rel => exact ⟨(wrap64 (x8_1 + 1)), (by first | rfl | (simp; done) | (simp [*]; done)), H', ⟨by have := HK1.out; omega⟩, by repeat (first | exact Drawn0.refl _ | apply Drawn0.step)⟩
          · rw [if_neg c5] at H
            exact absurd H (by simp)
        · rw [if_neg c4] at H
          exact absurd H (by simp)
      · rw [if_neg c3] at H
        have c3b0 : decide (x8_1 < (l0.length : Int)) = false := decide_eq_false c3
        clear c3
        obtain rfl := Option.some.inj H
        go_wp2
        go_ret
        exact ⟨by first | rfl | (simp; done) | (simp [*]; done), by repeat (first | exact Drawn0.refl _ | apply Drawn0.step)⟩

/-! ### slices_Contains_string_string: function 76 -/
def slices_Contains_string_string.f (k : Nat) (l0 : List ByteArray) (a1 : ByteArray) : Option (Bool) := (slices_Index_string_string.f k l0 a1).bind fun t131 => (some (decide (t131 ≥ 0)))
theorem slices_Contains_string_string.mono : ∀ a0 a1 k, LeO (slices_Contains_string_string.f k a0 a1) (slices_Contains_string_string.f (k + 1) a0 a1) := by
  intro a0 a1 k
  unfold slices_Contains_string_string.f
  repeat' first
      | (with_reducible exact slices_Index_string_string.mono _ _ _)
      | (with_reducible exact LeO.refl _)
      | (with_reducible exact LeO.none _)
      | (with_reducible refine LeO.ite ?_ ?_)
      | (with_reducible refine LeO.bind ?_ (fun _ => ?_))
      | exact slices_Index_string_string.mono _ _ _
      | exact LeO.none _
      | refine LeO.ite ?_ ?_
      | refine LeO.bind ?_ (fun _ => ?_)
set_option maxHeartbeats 8000000 in
set_option maxRecDepth 100000 in
theorem slices_Contains_string_string.calls (k : Nat) (A0 : Option Addr) (c0 : Nat) (l0 : List ByteArray) (a1 : ByteArray) (r : Bool) (w : World) (hr0 : Kd.C Kd.string w A0 l0.length l0) (hc0 : l0.length ≤ c0) (h : slices_Contains_string_string.f k l0 a1 = some r) :
    Calls Try.prog 76 #[.slice A0 l0.length c0, .string a1] w fun e w' => e = .returned (.bool r) ∧ Drawn0 w w' := by
  have HR0 := Aside0.mk hr0
  have HC0 := Aside0.mk hc0
  clear hr0 hc0
  have H : ((slices_Index_string_string.f k l0 a1).bind fun t131 => (some (decide (t131 ≥ 0)))) = some r := h
  clear h
  replace H := Option.bind_eq_some_iff.mp H
  obtain ⟨t131, A30, H⟩ := H
  replace H : (some (decide (t131 ≥ 0))) = some r := H
  have A3 := Aside0.mk A30
  clear A30
  obtain rfl := Option.some.inj H
  go_enter Try.func76, Try.ntmps76
  go_wp2_with (first | ((with_reducible refine gate_callee (f := 103) rfl ?_); refine goesL_ (some 7) rfl rfl Try.func103 (by kernel_rfl) rfl #[.slice A0 l0.length c0, .string a1] rfl (by (try simp only [List.map_toArray, List.map_cons, List.map_nil]); first | done | rfl | (simp only [List.length_drop, List.length_take]; rfl)) ?_; (with_reducible refine (slices_Index_string_string.calls k _ _ l0 a1 t131 _ ?side1 ?side2 A3.out).mono ?_); (case side1 => repeat (first | exact HR0.out | (with_reducible refine Kd.C_alloc ?_ _) | (with_reducible refine Kd.C_drewN ?_ _) | (with_reducible refine Kd.C_drew ?_))); (case side2 => exact HC0.out); rintro e w' ⟨rfl, ⟨nd, rfl⟩⟩; refine ⟨_, rfl, ?_⟩))
  go_ret
  exact ⟨by first | rfl | (simp; done) | (simp [*]; done), by repeat (first | exact Drawn0.refl _ | apply Drawn0.step)⟩

-- NOT PRINTED: function 132 (slices_xorshift_Next)

-- NOT PRINTED: function 123 (slices_breakPatternsOrdered_string)

-- NOT PRINTED: function 140 (slices_order2Ordered_string)

-- NOT PRINTED: function 137 (slices_medianOrdered_string)

-- NOT PRINTED: function 136 (slices_medianAdjacentOrdered_string)

-- NOT PRINTED: function 124 (slices_choosePivotOrdered_string)

-- NOT PRINTED: function 108 (slices_pdqsortOrdered_string)

/-! ### slices_Sort_string_string: function 87 -/
/-- A list of strings, sorted. -/
def slices_Sort_string_string.f (l0 : List ByteArray) : Option (List ByteArray) := if l0.length < 4611686018427387904 then some (((l0.map fun s => s.data.toList).mergeSort fun x y => decide (x ≤ y)).map fun l => (⟨l.toArray⟩ : ByteArray)) else none
theorem slices_Sort_string_string.back {w : World} {e base : Nat} {ok : Nat → Prop} {g n cap : Nat} {l0 : List ByteArray} (h : Kd.R Kd.string e w base ok (.slice (some ⟨g, 0, none⟩) n cap) l0) (m : List (List UInt8)) (hm : m.length = l0.length) (q : Nat) (os : Array Obj) :
    Kd.R Kd.string e (Sort.grow (Sort.putRow encStr (Sort.ahead w q) g 0 m.toArray) os) base ok (.slice (some ⟨g, 0, none⟩) n cap) (m.map fun l => (⟨l.toArray⟩ : ByteArray)) := by
  have hs : (Kd.string : Kd ByteArray).sz = 1 := rfl
  obtain ⟨hok, inner, ⟨hl, hn | ⟨g', cap', cur, hv, hb, hh, hnc, hcm, hcs, ht⟩⟩, hr⟩ := h
  · cases hn.1
  · injection hv with h1 h2 h3
    injection h1 with h1
    injection h1 with h1
    subst h1 h2 h3
    rw [hs, Nat.mul_one] at hl hcs ht
    have hgs : g < w.heap.size := (Array.getElem?_eq_some_iff.1 hh).1
    have hz : (Sort.putCells encStr 0 m.toArray cur).size = cur.size := by simp [Sort.putCells]
    refine ⟨hok, (m.map fun l => Value.string ⟨l.toArray⟩), ⟨by simp [hs], .inr ⟨g, cap, Sort.putCells encStr 0 m.toArray cur, by simp [hm], hb, ?_, by simp; omega, hcm, by rw [hz, hs, Nat.mul_one]; exact hcs, ?_⟩⟩, by simp [hs], ?_⟩
    · show (Array.append (w.heap.modify g (Sort.onCells (Sort.putCells encStr 0 m.toArray))) os)[g]? = _
      rw [show Array.append (w.heap.modify g (Sort.onCells (Sort.putCells encStr 0 m.toArray))) os = w.heap.modify g (Sort.onCells (Sort.putCells encStr 0 m.toArray)) ++ os from rfl, Array.getElem?_append_left (by simpa using hgs), Array.getElem?_modify, if_pos rfl, hh]
      rfl
    · rw [hs, Nat.mul_one, List.length_map]
      apply List.ext_getElem?
      intro j
      by_cases hj : j < m.length
      · have hj2 : j < cur.size := by rw [hcs]; omega
        rw [List.getElem?_take_of_lt hj]
        simp only [Sort.putCells, Array.getElem?_toList, Array.getElem?_mapIdx, Array.getElem?_eq_getElem hj2, Option.map_some, List.size_toArray, Nat.zero_add, Nat.zero_le, true_and, if_pos hj, Nat.sub_zero, List.getElem?_map, List.getElem?_eq_getElem hj]
        rw [getElem!_pos m.toArray j (by simpa using hj)]
        rfl
      · rw [List.getElem?_eq_none (by simp; omega), List.getElem?_eq_none (by simp; omega)]
    · intro j p hp
      rw [List.getElem?_map] at hp
      obtain ⟨x, hx, rfl⟩ := Option.map_eq_some_iff.1 hp
      have hj : j < m.length := (List.getElem?_eq_some_iff.1 hx).1
      show ((List.map (fun l => Value.string ⟨l.toArray⟩) m).drop (j * 1)).take 1 = [Value.string ⟨x.toArray⟩]
      rw [Nat.mul_one, List.drop_eq_getElem_cons (by simpa using hj)]
      have : m[j] = x := by rw [List.getElem?_eq_getElem hj] at hx; exact Option.some.inj hx
      simp [this]
theorem slices_Sort_string_string.holds {w : World} {e base : Nat} {ok : Nat → Prop} {g n cap : Nat} {l0 : List ByteArray} (h : Kd.R Kd.string e w base ok (.slice (some ⟨g, 0, none⟩) n cap) l0) :
    Sort.Holds encStr w g 0 (l0.map fun s => s.data.toList).toArray ∧ g < w.heap.size ∧ n = l0.length ∧ base ≤ g ∧ ok g := by
  have hs : (Kd.string : Kd ByteArray).sz = 1 := rfl
  obtain ⟨hok, inner, ⟨hl, hn | ⟨g', cap', cur, hv, hb, hh, hnc, hcm, hcs, ht⟩⟩, hr⟩ := h
  · cases hn.1
  · injection hv with h1 h2 h3
    injection h1 with h1
    injection h1 with h1
    subst h1 h2 h3
    rw [hs, Nat.mul_one] at hl hcs ht
    refine ⟨fun j hj => ?_, (Array.getElem?_eq_some_iff.1 hh).1, rfl, hb, hok g rfl⟩
    have hj2 : j < l0.length := by simpa using hj
    have hj3 : j < cur.size := by rw [hcs]; omega
    refine ⟨?_, by rw [Nat.zero_add]; exact blk_frozen hh j⟩
    have h1 : ((inner.drop (j * 1)).take 1) = [Value.string l0[j]] := hr.2 j l0[j] (List.getElem?_eq_getElem hj2)
    have h2 : inner[j]? = some (Value.string l0[j]) := by
      have h3 : ((inner.drop (j * 1)).take 1)[0]? = some (Value.string l0[j]) := by rw [h1]; rfl
      simpa using h3
    rw [← ht, List.getElem?_take_of_lt hj2] at h2
    rw [Nat.zero_add, cell_of_row w g j cur e (0, 0) hh]
    rw [getElem!_pos _ j (by simpa using hj2)]
    simpa [encStr] using h2
section
open Go.Shelf
def slices_Sort_string_string.lays_ren : Go.Shelf.Ren := ⟨fun | 190 => 87 | 125 => 106 | 258 => 108 | 128 => 119 | 129 => 120 | 302 => 121 | 303 => 122 | 304 => 123 | 305 => 124 | 306 => 125 | 307 => 126 | 308 => 127 | 309 => 128 | 310 => 129 | 333 => 135 | 329 => 131 | 330 => 132 | 334 => 136 | 335 => 137 | 336 => 138 | 344 => 140 | n => n, fun | 31 => 22 | 9 => 9 | 3 => 3 | 46 => 111 | 0 => 0 | 51 => 123 | 53 => 105 | 4 => 4 | 183 => 116 | 182 => 115 | 131 => 120 | 5 => 5 | 218 => 131 | 222 => 135 | 228 => 139 | 229 => 140 | n => n, fun | n => n⟩
theorem slices_Sort_string_string.lays : Go.Proofs.Lays.n190 Try.prog slices_Sort_string_string.lays_ren := {
  mixed := by kernel_rfl
  f125 := Try.func106.trans (congrArg some (by kernel_rfl))
  f128 := Try.func119.trans (congrArg some (by kernel_rfl))
  f129 := Try.func120.trans (congrArg some (by kernel_rfl))
  f190 := Try.func87.trans (congrArg some (by kernel_rfl))
  f258 := Try.func108.trans (congrArg some (by kernel_rfl))
  f302 := Try.func121.trans (congrArg some (by kernel_rfl))
  f303 := Try.func122.trans (congrArg some (by kernel_rfl))
  f304 := Try.func123.trans (congrArg some (by kernel_rfl))
  f305 := Try.func124.trans (congrArg some (by kernel_rfl))
  f306 := Try.func125.trans (congrArg some (by kernel_rfl))
  f307 := Try.func126.trans (congrArg some (by kernel_rfl))
  f308 := Try.func127.trans (congrArg some (by kernel_rfl))
  f309 := Try.func128.trans (congrArg some (by kernel_rfl))
  f310 := Try.func129.trans (congrArg some (by kernel_rfl))
  f329 := Try.func131.trans (congrArg some (by kernel_rfl))
  f330 := Try.func132.trans (congrArg some (by kernel_rfl))
  f333 := Try.func135.trans (congrArg some (by kernel_rfl))
  f334 := Try.func136.trans (congrArg some (by kernel_rfl))
  f335 := Try.func137.trans (congrArg some (by kernel_rfl))
  f336 := Try.func138.trans (congrArg some (by kernel_rfl))
  f344 := Try.func140.trans (congrArg some (by kernel_rfl))
  t0 := Try.underlying0
  a0 := Try.isAgg0
  z0 := Try.sizeOf0
  v0 := Try.zeroValue0
  t3 := Try.underlying3
  a3 := Try.isAgg3
  z3 := Try.sizeOf3
  v3 := Try.zeroValue3
  t4 := Try.underlying4
  a4 := Try.isAgg4
  z4 := Try.sizeOf4
  v4 := Try.zeroValue4
  t5 := Try.underlying5
  a5 := Try.isAgg5
  z5 := Try.sizeOf5
  v5 := Try.zeroValue5
  t9 := Try.underlying9
  a9 := Try.isAgg9
  z9 := Try.sizeOf9
  v9 := Try.zeroValue9
  t31 := Try.underlying22
  a31 := Try.isAgg22
  z31 := Try.sizeOf22
  v31 := Try.zeroValue22
  t46 := Try.underlying111
  a46 := Try.isAgg111
  z46 := Try.sizeOf111
  v46 := Try.zeroValue111
  t51 := Try.underlying123
  a51 := Try.isAgg123
  z51 := Try.sizeOf123
  v51 := Try.zeroValue123
  t53 := Try.underlying105
  a53 := Try.isAgg105
  z53 := Try.sizeOf105
  v53 := Try.zeroValue105
  t131 := Try.underlying120
  a131 := Try.isAgg120
  z131 := Try.sizeOf120
  v131 := Try.zeroValue120
  t182 := Try.underlying115
  a182 := Try.isAgg115
  z182 := Try.sizeOf115
  v182 := Try.zeroValue115
  t183 := Try.underlying116
  a183 := Try.isAgg116
  z183 := Try.sizeOf116
  v183 := Try.zeroValue116
  t218 := Try.underlying131
  a218 := Try.isAgg131
  z218 := Try.sizeOf131
  v218 := Try.zeroValue131
  t222 := Try.underlying135
  a222 := Try.isAgg135
  z222 := Try.sizeOf135
  v222 := Try.zeroValue135
  t228 := Try.underlying139
  a228 := Try.isAgg139
  z228 := Try.sizeOf139
  v228 := Try.zeroValue139
  t229 := Try.underlying140
  a229 := Try.isAgg140
  z229 := Try.sizeOf140
  v229 := Try.zeroValue140 }
theorem slices_Sort_string_string.calls (P0_ : Nat → Prop) (u9000_ : Value) (l0 : List ByteArray) (r : List ByteArray) (w0 w : World) (hB : Below w0.heap.size w0 w) (ho0 : Kd.R Kd.string 9 w w0.heap.size P0_ u9000_ l0) (h : slices_Sort_string_string.f l0 = some r) :
    Calls Try.prog 87 #[u9000_] w fun e w' => e = .returned (.tuple #[]) ∧ Kd.R Kd.string 9 w' w0.heap.size (fun k_ => (P0_ k_ ∨ w.heap.size ≤ k_)) u9000_ r ∧ Below w0.heap.size w0 w' ∧ Kept w w' (fun k_ => P0_ k_) := by
  unfold slices_Sort_string_string.f at h
  split at h
  · rename_i hl
    obtain rfl := Option.some.inj h
    have hsh : (u9000_ = .slice none 0 0 ∧ l0.length = 0) ∨ ∃ g n cap, u9000_ = .slice (some ⟨g, 0, none⟩) n cap := by
      obtain ⟨_, inner, ⟨_, hn | ⟨g, cap, cur, hv, _⟩⟩, _⟩ := ho0
      · exact .inl hn
      · exact .inr ⟨g, _, cap, hv⟩
    rcases hsh with ⟨rfl, h0⟩ | ⟨g, n, cap, rfl⟩
    · obtain rfl := List.eq_nil_of_length_eq_zero h0
      refine (Any.slices_Sort_string_none slices_Sort_string_string.lays none 0 w).mono ?_
      rintro e w' ⟨rfl, rfl⟩
      exact ⟨rfl, by simpa using Kd.R_nil Kd.string 9 w' w0.heap.size _, hB, Kept.refl _ _⟩
    · obtain ⟨hH, hg, hn, hb, hp⟩ := slices_Sort_string_string.holds ho0
      subst hn
      have hc := Any.slices_Sort_string slices_Sort_string_string.lays g 0 cap (l0.map fun s => s.data.toList) w hH hg (by simpa using hl)
      rw [List.length_map] at hc
      refine hc.mono ?_
      rintro e w' ⟨rfl, q, os, rfl⟩
      have hsz : (Sort.grow (Sort.putRow encStr (Sort.ahead w q) g 0 ((l0.map fun s => s.data.toList).mergeSort fun x y => decide (x ≤ y)).toArray) os).heap.size = w.heap.size + os.size := by simp
      have hbl : ∀ i, i < w.heap.size → i ≠ g → (Sort.grow (Sort.putRow encStr (Sort.ahead w q) g 0 ((l0.map fun s => s.data.toList).mergeSort fun x y => decide (x ≤ y)).toArray) os).heap[i]? = w.heap[i]? := by
        intro i hi hne
        show (w.heap.modify g (Sort.onCells _) ++ os)[i]? = _
        rw [Array.getElem?_append_left (by simpa using hi), Array.getElem?_modify, if_neg (Ne.symm hne)]
      refine ⟨rfl, Kd.R_mono (slices_Sort_string_string.back ho0 _ (by simp) q os) (fun k hk => .inl hk), ⟨hB.1, hB.2, hB.3, by rw [hsz]; have := hB.size; omega, fun i hi => (hbl i (by have := hB.size; omega) (by omega)).trans (hB.block i hi)⟩, by rw [hsz]; omega, fun i hi hn => hbl i hi (fun e => hn (e ▸ hp))⟩
  · cases h
end

/-! ### slices_Compact_string_string: function 88 -/
/-- A list of strings, of equal ones that stand side by side one. -/
def slices_Compact_string_string.f (l0 : List ByteArray) : Option (List ByteArray) := if l0.length ≤ 9223372036854775807 then some ((Lib.compact (l0.map fun s => s.data.toList)).map fun l => (⟨l.toArray⟩ : ByteArray)) else none
theorem slices_Compact_string_string.back {w : World} {e base : Nat} {ok : Nat → Prop} {g n cap : Nat} {l0 : List ByteArray} (h : Kd.R Kd.string e w base ok (.slice (some ⟨g, 0, none⟩) n cap) l0) (m rest : List (List UInt8)) (hm : (m ++ rest).length = l0.length) (q : Nat) :
    Kd.R Kd.string e (Sort.putRow encStr (Sort.ahead w q) g 0 (m ++ rest).toArray) base ok (.slice (some ⟨g, 0, none⟩) m.length cap) (m.map fun l => (⟨l.toArray⟩ : ByteArray)) := by
  have hs : (Kd.string : Kd ByteArray).sz = 1 := rfl
  obtain ⟨hok, inner, ⟨hl, hn | ⟨g', cap', cur, hv, hb, hh, hnc, hcm, hcs, ht⟩⟩, hr⟩ := h
  · cases hn.1
  · injection hv with h1 h2 h3
    injection h1 with h1
    injection h1 with h1
    subst h1 h2 h3
    rw [hs, Nat.mul_one] at hl hcs ht
    have hgs : g < w.heap.size := (Array.getElem?_eq_some_iff.1 hh).1
    have hz : (Sort.putCells encStr 0 (m ++ rest).toArray cur).size = cur.size := by simp [Sort.putCells]
    refine ⟨hok, (m.map fun l => Value.string ⟨l.toArray⟩), ⟨by simp [hs], .inr ⟨g, cap, Sort.putCells encStr 0 (m ++ rest).toArray cur, by simp, hb, ?_, by simp; rw [List.length_append] at hm; omega, hcm, by rw [hz, hs, Nat.mul_one]; exact hcs, ?_⟩⟩, by simp [hs], ?_⟩
    · show (w.heap.modify g (Sort.onCells (Sort.putCells encStr 0 (m ++ rest).toArray)))[g]? = _
      rw [Array.getElem?_modify, if_pos rfl, hh]
      rfl
    · rw [hs, Nat.mul_one, List.length_map]
      apply List.ext_getElem?
      intro j
      by_cases hj : j < m.length
      · have hj2 : j < cur.size := by rw [List.length_append] at hm; rw [hcs]; omega
        have hj3 : j < (m ++ rest).length := by rw [List.length_append]; omega
        rw [List.getElem?_take_of_lt hj]
        simp only [Sort.putCells, Array.getElem?_toList, Array.getElem?_mapIdx, Array.getElem?_eq_getElem hj2, Option.map_some, List.size_toArray, Nat.zero_add, Nat.zero_le, true_and, if_pos hj3, Nat.sub_zero, List.getElem?_map, List.getElem?_eq_getElem hj]
        rw [getElem!_pos (m ++ rest).toArray j (by simpa using hj3)]
        simp [encStr, List.getElem_append_left hj]
      · rw [List.getElem?_eq_none (by simp; omega), List.getElem?_eq_none (by simp; omega)]
    · intro j p hp
      rw [List.getElem?_map] at hp
      obtain ⟨x, hx, rfl⟩ := Option.map_eq_some_iff.1 hp
      have hj : j < m.length := (List.getElem?_eq_some_iff.1 hx).1
      show ((List.map (fun l => Value.string ⟨l.toArray⟩) m).drop (j * 1)).take 1 = [Value.string ⟨x.toArray⟩]
      rw [Nat.mul_one, List.drop_eq_getElem_cons (by simpa using hj)]
      have : m[j] = x := by rw [List.getElem?_eq_getElem hj] at hx; exact Option.some.inj hx
      simp [this]
theorem slices_Compact_string_string.holds {w : World} {e base : Nat} {ok : Nat → Prop} {g n cap : Nat} {l0 : List ByteArray} (h : Kd.R Kd.string e w base ok (.slice (some ⟨g, 0, none⟩) n cap) l0) :
    Sort.Holds encStr w g 0 (l0.map fun s => s.data.toList).toArray ∧ g < w.heap.size ∧ n = l0.length ∧ base ≤ g ∧ ok g := by
  have hs : (Kd.string : Kd ByteArray).sz = 1 := rfl
  obtain ⟨hok, inner, ⟨hl, hn | ⟨g', cap', cur, hv, hb, hh, hnc, hcm, hcs, ht⟩⟩, hr⟩ := h
  · cases hn.1
  · injection hv with h1 h2 h3
    injection h1 with h1
    injection h1 with h1
    subst h1 h2 h3
    rw [hs, Nat.mul_one] at hl hcs ht
    refine ⟨fun j hj => ?_, (Array.getElem?_eq_some_iff.1 hh).1, rfl, hb, hok g rfl⟩
    have hj2 : j < l0.length := by simpa using hj
    have hj3 : j < cur.size := by rw [hcs]; omega
    refine ⟨?_, by rw [Nat.zero_add]; exact blk_frozen hh j⟩
    have h1 : ((inner.drop (j * 1)).take 1) = [Value.string l0[j]] := hr.2 j l0[j] (List.getElem?_eq_getElem hj2)
    have h2 : inner[j]? = some (Value.string l0[j]) := by
      have h3 : ((inner.drop (j * 1)).take 1)[0]? = some (Value.string l0[j]) := by rw [h1]; rfl
      simpa using h3
    rw [← ht, List.getElem?_take_of_lt hj2] at h2
    rw [Nat.zero_add, cell_of_row w g j cur e (0, 0) hh]
    rw [getElem!_pos _ j (by simpa using hj2)]
    simpa [encStr] using h2
theorem slices_Compact_string_string.le (zs : List (List UInt8)) : (Lib.compact zs).length ≤ zs.length := by
  unfold Lib.compact Lib.compactUpTo
  rw [List.length_map]
  exact Nat.le_trans (List.length_filter_le _ _) (by simp)
section
open Go.Shelf
def slices_Compact_string_string.lays_ren : Go.Shelf.Ren := ⟨fun | 194 => 88 | n => n, fun | 31 => 22 | 9 => 9 | 3 => 3 | 4 => 4 | 0 => 0 | n => n, fun | n => n⟩
theorem slices_Compact_string_string.lays : Go.Proofs.Lays.n194 Try.prog slices_Compact_string_string.lays_ren := {
  mixed := by kernel_rfl
  f194 := Try.func88.trans (congrArg some (by kernel_rfl))
  t0 := Try.underlying0
  a0 := Try.isAgg0
  z0 := Try.sizeOf0
  v0 := Try.zeroValue0
  t3 := Try.underlying3
  a3 := Try.isAgg3
  z3 := Try.sizeOf3
  v3 := Try.zeroValue3
  t4 := Try.underlying4
  a4 := Try.isAgg4
  z4 := Try.sizeOf4
  v4 := Try.zeroValue4
  t9 := Try.underlying9
  a9 := Try.isAgg9
  z9 := Try.sizeOf9
  v9 := Try.zeroValue9
  t31 := Try.underlying22
  a31 := Try.isAgg22
  z31 := Try.sizeOf22
  v31 := Try.zeroValue22 }
theorem slices_Compact_string_string.calls (P0_ : Nat → Prop) (u9000_ : Value) (l0 : List ByteArray) (r : List ByteArray) (w0 w : World) (hB : Below w0.heap.size w0 w) (ho0 : Kd.R Kd.string 9 w w0.heap.size P0_ u9000_ l0) (h : slices_Compact_string_string.f l0 = some r) :
    Calls Try.prog 88 #[u9000_] w fun e w' => ∃ v0_ : Value, e = .returned (v0_) ∧ Kd.R Kd.string 9 w' w0.heap.size (fun k_ => (P0_ k_ ∨ w.heap.size ≤ k_)) v0_ r ∧ Below w0.heap.size w0 w' ∧ Kept w w' (fun k_ => P0_ k_) := by
  unfold slices_Compact_string_string.f at h
  split at h
  · rename_i hl
    obtain rfl := Option.some.inj h
    have hsh : (u9000_ = .slice none 0 0 ∧ l0.length = 0) ∨ ∃ g n cap, u9000_ = .slice (some ⟨g, 0, none⟩) n cap ∧ n ≤ cap := by
      obtain ⟨_, inner, ⟨_, hn | ⟨g, cap, cur, hv, _, _, hc, _⟩⟩, _⟩ := ho0
      · exact .inl hn
      · exact .inr ⟨g, _, cap, hv, hc⟩
    rcases hsh with ⟨rfl, h0⟩ | ⟨g, n, cap, rfl, hcap⟩
    · obtain rfl := List.eq_nil_of_length_eq_zero h0
      refine (Any.slices_Compact_string_empty slices_Compact_string_string.lays none 0 w).mono ?_
      rintro e w' ⟨rfl, rfl⟩
      exact ⟨_, rfl, Kd.R_nil Kd.string 9 w' w0.heap.size _, hB, Kept.refl _ _⟩
    · obtain ⟨hH, hg, hn, hb, hp⟩ := slices_Compact_string_string.holds ho0
      subst hn
      have hc := Any.slices_Compact_string slices_Compact_string_string.lays g 0 cap (l0.map fun s => s.data.toList) w hH (by simpa using hl) (by simpa using hcap)
      have hle := slices_Compact_string_string.le (l0.map fun s => s.data.toList)
      rw [List.length_map] at hc hle
      refine hc.mono ?_
      rintro e w' ⟨rfl, q, rfl⟩
      have hbl : ∀ i, i < w.heap.size → i ≠ g → (Sort.putRow encStr (Sort.ahead w q) g 0 (Lib.compact (l0.map fun s : ByteArray => s.data.toList) ++ List.replicate (l0.length - (Lib.compact (l0.map fun s : ByteArray => s.data.toList)).length) []).toArray).heap[i]? = w.heap[i]? := by
        intro i hi hne
        show (w.heap.modify g (Sort.onCells _))[i]? = _
        rw [Array.getElem?_modify, if_neg (Ne.symm hne)]
      refine ⟨_, rfl, Kd.R_mono (slices_Compact_string_string.back ho0 _ _ (by rw [List.length_append, List.length_replicate]; omega) q) (fun k hk => .inl hk), ⟨hB.1, hB.2, hB.3, by simpa using hB.size, fun i hi => (hbl i (by have := hB.size; omega) (by omega)).trans (hB.block i hi)⟩, by simp, fun i hi hn => hbl i hi (fun e => hn (e ▸ hp))⟩
  · cases h
end

end Go.Proofs.Ytjfaepolmllejaa.QFnExactHasBadWord
