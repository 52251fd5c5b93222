-- written by a program of this session, on the lines of the kit's print
import Derived.Test.YtgmbgpjebpgpkaaDoorQFnExactReadEventx0
import Derived.Test.YtgmbgpjebpgpkaaDoorQFnExactReadEventx2
namespace Go.Proofs.YtgmbgpjebpgpkaaDoor.QFnExactReadEvent
open Go.RowKit Go.Proofs.YtgmbgpjebpgpkaaDoorW.PrintWords Go.Proofs.YtgmbgpjebpgpkaaDoorW.PrintLast Go.Proofs.YtgmbgpjebpgpkaaDoorW.PrintMore
attribute [local go_sem] max2_int min2_int max_two min_two max_three min_three max_four min_four   -- for this text's walks alone
set_option linter.unusedVariables false
set_option linter.unusedSimpArgs false

/-! ### spec_l01Numbers: function 29 -/
abbrev spec_l01Numbers.T : Bool := true
abbrev spec_l01Numbers.F : Bool := false
theorem spec_l01Numbers.s2_ {P : Prop} (h : P := by kernel_rfl) : P := h
theorem spec_l01Numbers.s3_ {P : Prop} (h : P := by (try simp only [List.map_toArray, List.map_cons, List.map_nil]); first | done | rfl | (simp only [List.length_drop, List.length_take]; rfl)) : P := h
theorem spec_l01Numbers.b2_ {P Q : Prop} (q : Q) (h : Q → P := by intro q_; (with_reducible repeat (first | apply Kd.R_alloc | apply Kd.R_drewN | apply Kd.R_drew)); exact q_) : P := h q
theorem spec_l01Numbers.y1_ {P Q : Prop} (q : Q) (h : Q → P := by intro q_; repeat (first | (with_reducible first | exact q_ | apply below_alloc | apply pw_below_drewN | apply below_drew1) | exact q_)) : P := h q
theorem spec_l01Numbers.r1_ {α : Type} {d : Kd α} {e base : Nat} {ok : Nat → Prop} {v : Value} {xs : List α} {w W w1 : World} (q : Aside0 (d.R e w base ok v xs)) (hb : Below W.heap.size W w1) (h : d.R e w base ok v xs → d.R e W base ok v xs := by intro q_; (with_reducible repeat (first | apply Kd.R_alloc | apply Kd.R_drewN | apply Kd.R_drew)); exact q_) : Aside0 (d.R e w1 base ok v xs) := ⟨Kd.R_below (h q.out) hb⟩
def spec_l01Numbers.l0 : Nat → List Int → List ByteArray → Int → Option (List Int × Bool)
  | 0, _, _, _ => none
  | k + 1, x4, x5, x6 => if x6 < (x5.length : Int) then (if 0 ≤ x6 then ((spec_l01Value.f k (rdOf ByteArray.empty x5 x6)).bind fun bt148 => (if bt148.2 = true then (if x4.length < 17592186044416 then (spec_l01Numbers.l0 k (x4 ++ [bt148.1]) x5 (wrap64 (x6 + 1))) else (none)) else (some (([] : List Int), false)))) else (none)) else (some (x4, true))
def spec_l01Numbers.f (k : Nat) (a0 : ByteArray) : Option (List Int × Bool) := (some (([] : List Int) : List Int)).bind fun y141 => (if a0.toList = ([110, 111, 110, 101] : List UInt8) then (some (y141, true)) else ((spec_l01Cut.f k a0 44).bind fun t144 => (if (t144.length : Int) > 300 then (some (([] : List Int), false)) else (spec_l01Numbers.l0 k y141 t144 0))))
theorem spec_l01Numbers.mono_l : ∀ k, (∀ y0 y1 y2, LeO (spec_l01Numbers.l0 k y0 y1 y2) (spec_l01Numbers.l0 (k + 1) y0 y1 y2))
  | 0 => fun _ _ _ r h => by simp [spec_l01Numbers.l0] at h
  | k + 1 => by
    have ih0 := spec_l01Numbers.mono_l k
    · intro y0 y1 y2
      unfold spec_l01Numbers.l0
      repeat' first
      | (with_reducible exact ih0 _ _ _)
      | (with_reducible exact spec_l01Cut.mono _ _ _)
      | (with_reducible exact spec_l01Value.mono _ _)
      | (with_reducible exact LeO.refl _)
      | (with_reducible exact LeO.none _)
      | (with_reducible refine LeO.ite ?_ ?_)
      | (with_reducible refine LeO.bind ?_ (fun _ => ?_))
      | exact ih0 _ _ _
      | exact spec_l01Cut.mono _ _ _
      | exact spec_l01Value.mono _ _
      | exact LeO.none _
      | refine LeO.ite ?_ ?_
      | refine LeO.bind ?_ (fun _ => ?_)
theorem spec_l01Numbers.mono : ∀ a0 k, LeO (spec_l01Numbers.f k a0) (spec_l01Numbers.f (k + 1) a0) := by
  intro a0 k
  have ih0 := spec_l01Numbers.mono_l k
  unfold spec_l01Numbers.f
  repeat' first
      | (with_reducible exact ih0 _ _ _)
      | (with_reducible exact spec_l01Cut.mono _ _ _)
      | (with_reducible exact spec_l01Value.mono _ _)
      | (with_reducible exact LeO.refl _)
      | (with_reducible exact LeO.none _)
      | (with_reducible refine LeO.ite ?_ ?_)
      | (with_reducible refine LeO.bind ?_ (fun _ => ?_))
      | exact ih0 _ _ _
      | exact spec_l01Cut.mono _ _ _
      | exact spec_l01Value.mono _ _
      | exact LeO.none _
      | refine LeO.ite ?_ ?_
      | refine LeO.bind ?_ (fun _ => ?_)
set_option maxHeartbeats 8000000 in
set_option maxRecDepth 100000 in
theorem spec_l01Numbers.calls (k : Nat) (a0 : ByteArray) (r1 : List Int) (r2 : Bool) (w : World) (h : spec_l01Numbers.f k a0 = some (r1, r2)) :
    Calls Tryd.prog 29 #[.string a0] w fun e w' => ∃ v0_ : Value, e = .returned (.tuple #[v0_, .bool r2]) ∧ Kd.R (Kd.int .i64) 2 w' w.heap.size (fun _ => True) v0_ r1 ∧ Below w.heap.size w w' := by
 have HB := Aside0.mk (Below.refl w.heap.size w)
 have H : ((some (([] : List Int) : List Int)).bind fun y141 => (if a0.toList = ([110, 111, 110, 101] : List UInt8) then (some (y141, true)) else ((spec_l01Cut.f k a0 44).bind fun t144 => (if (t144.length : Int) > 300 then (some (([] : List Int), false)) else (spec_l01Numbers.l0 k y141 t144 0))))) = some (r1, r2) := h
 clear h
 obtain ⟨y141, hy141⟩ : ∃ y_ : List Int, y_ = (([] : List Int)) := ⟨_, rfl⟩
 replace H : (if a0.toList = ([110, 111, 110, 101] : List UInt8) then (some (y141, true)) else ((spec_l01Cut.f k a0 44).bind fun t144 => (if (t144.length : Int) > 300 then (some (([] : List Int), false)) else (spec_l01Numbers.l0 k y141 t144 0)))) = some (r1, r2) := by first | (rw [hy141]; with_reducible exact H) | (have H2_ := (Option.bind_some _ _).symm.trans H; rw [hy141]; with_reducible exact H2_) | (have H2_ := (Option.bind_some _ _).symm.trans H; with_reducible exact H2_) | with_reducible exact H | (rw [hy141]; exact H) | exact H
 have Ny141 := Aside0.mk hy141
 clear hy141
 by_cases c2 : a0.toList = ([110, 111, 110, 101] : List UInt8)
 {
 rw [if_pos c2] at H
 have c2b0 : (a0.toList == ([110, 111, 110, 101] : List UInt8)) = true := beq_iff_eq.mpr c2
 have c2b1 : (a0.toList != ([110, 111, 110, 101] : List UInt8)) = false := bne_eq_false_iff_eq.mpr c2
 clear c2
 simp only [Option.some.injEq, Prod.mk.injEq] at H
 obtain ⟨rfl, rfl⟩ := H
 go_enter Tryd.func29, Tryd.ntmps29
 go_wp2_with (first | ((with_reducible refine gate_dst (N := 9) rfl ?_); refine Kd.R_lit (Kd.int .i64) _ 2 ?hg (N := 9) ?hd (xs := ([] : List Int)) (inner := []) (ok := fun _ => True) (okp := fun _ => True) ?hr ?hp (fun _ hk => hk) trivial (Below.refl _ _) (Nat.le_refl _) (by simp) ?_; (case hd => rfl); (case hg => rfl); (case hr => first | (go_simp; done) | (go_simp; rfl)); (case hp => exact (Reps.none _ _)); intro v142 w3 ho4 hb hg_ hnew_; clear hg_ hnew_; (first | rw [← Ny141.out] at ho4 | (simp only [Int.reduceToNat] at ho4; rw [← Ny141.out] at ho4)); have HO143 := Aside0.mk (Kd.R_lower ho4 (below_size (y1_ HB.out))); replace HB := Aside0.mk (below_step (y1_ HB.out) hb); clear hb ho4))
 go_ret2
 exact ⟨_, by first | rfl | (simp [errW_none, errW_some] <;> rfl) | (simp [*, errW_none, errW_some] <;> rfl), by (with_reducible repeat (first | apply Kd.R_alloc | apply Kd.R_drewN | apply Kd.R_drew)); exact HO143.out, by repeat (first | (with_reducible first | exact HB.out | apply below_alloc | apply pw_below_drewN | apply below_drew1) | exact HB.out)⟩}
 {
 rw [if_neg c2] at H
 have c2b0 : (a0.toList == ([110, 111, 110, 101] : List UInt8)) = false := beq_eq_false_iff_ne.mpr c2
 have c2b1 : (a0.toList != ([110, 111, 110, 101] : List UInt8)) = true := bne_iff_ne.mpr c2
 replace H := Option.bind_eq_some_iff.mp H
 obtain ⟨t144, A50, H⟩ := H
 replace H : (if (t144.length : Int) > 300 then (some (([] : List Int), false)) else (spec_l01Numbers.l0 k y141 t144 0)) = some (r1, r2) := H
 have A5 := Aside0.mk A50
 clear A50
 by_cases c6 : (t144.length : Int) > 300
 {
 rw [if_pos c6] at H
 have c6b0 : decide (300 < (t144.length : Int)) = true := decide_eq_true c6
 have c6b1 : decide (300 < t144.length) = true := decide_eq_true (by omega)
 clear c6
 simp only [Option.some.injEq, Prod.mk.injEq] at H
 obtain ⟨rfl, rfl⟩ := H
 go_enter Tryd.func29, Tryd.ntmps29
 go_wp2_with (first | ((with_reducible refine gate_dst (N := 9) rfl ?_); refine Kd.R_lit (Kd.int .i64) _ 2 ?hg (N := 9) ?hd (xs := ([] : List Int)) (inner := []) (ok := fun _ => True) (okp := fun _ => True) ?hr ?hp (fun _ hk => hk) trivial (Below.refl _ _) (Nat.le_refl _) (by simp) ?_; (case hd => rfl); (case hg => rfl); (case hr => first | (go_simp; done) | (go_simp; rfl)); (case hp => exact (Reps.none _ _)); intro v142 w7 ho8 hb hg_ hnew_; clear hg_ hnew_; (first | rw [← Ny141.out] at ho8 | (simp only [Int.reduceToNat] at ho8; rw [← Ny141.out] at ho8)); have HO143 := Aside0.mk (Kd.R_lower ho8 (below_size (y1_ HB.out))); replace HB := Aside0.mk (below_step (y1_ HB.out) hb); clear hb ho8) | ((with_reducible refine gate_callee (f := 36) rfl ?_); refine goesL_ (some 14) rfl rfl Tryd.func36 s2_ rfl #[.string a0, .int .u8 44] rfl s3_ ?_; (with_reducible refine (spec_l01Cut.calls k a0 44 t144 _ A5.out).mono ?_); rintro e w9 ⟨v145, rfl, ho0, hb⟩; refine ⟨_, rfl, ?_⟩; replace HO143 := r1_ HO143 hb; have HO146 := Aside0.mk (Kd.R_lower ho0 (below_size (y1_ HB.out))); replace HB := Aside0.mk (below_step (y1_ HB.out) hb); (try clear hb); (try clear hb2); (try clear hk); (try clear hi); (try clear ho0); obtain ⟨Ao10, co10, eo10⟩ := Kd.R_slice HO146.out; subst eo10))
 go_ret2
 exact ⟨_, by first | rfl | (simp [errW_none, errW_some] <;> rfl) | (simp [*, errW_none, errW_some] <;> rfl), by first | exact Kd.R_nil _ _ _ _ _ | exact Kd.N_nil _ _ _ _ _ | exact Kd.V_nil _ _ _ _ _ | exact Kd.Q_nil _ _ _ _ _ | exact Kd.S_nil _ _ _ _ _, by repeat (first | (with_reducible first | exact HB.out | apply below_alloc | apply pw_below_drewN | apply below_drew1) | exact HB.out)⟩}
 {
 rw [if_neg c6] at H
 have c6b0 : decide (300 < (t144.length : Int)) = false := decide_eq_false c6
 have c6b1 : decide (300 < t144.length) = false := decide_eq_false (by omega)
 clear c6
 have H' := Aside0.mk H
 clear H
 go_enter Tryd.func29, Tryd.ntmps29
 go_wp2_with (first | ((with_reducible refine gate_dst (N := 9) rfl ?_); refine Kd.R_lit (Kd.int .i64) _ 2 ?hg (N := 9) ?hd (xs := ([] : List Int)) (inner := []) (ok := fun _ => True) (okp := fun _ => True) ?hr ?hp (fun _ hk => hk) trivial (Below.refl _ _) (Nat.le_refl _) (by simp) ?_; (case hd => rfl); (case hg => rfl); (case hr => first | (go_simp; done) | (go_simp; rfl)); (case hp => exact (Reps.none _ _)); intro v142 w11 ho12 hb hg_ hnew_; clear hg_ hnew_; (first | rw [← Ny141.out] at ho12 | (simp only [Int.reduceToNat] at ho12; rw [← Ny141.out] at ho12)); have HO143 := Aside0.mk (Kd.R_lower ho12 (below_size (y1_ HB.out))); replace HB := Aside0.mk (below_step (y1_ HB.out) hb); clear hb ho12) | ((with_reducible refine gate_callee (f := 36) rfl ?_); refine goesL_ (some 14) rfl rfl Tryd.func36 s2_ rfl #[.string a0, .int .u8 44] rfl s3_ ?_; (with_reducible refine (spec_l01Cut.calls k a0 44 t144 _ A5.out).mono ?_); rintro e w13 ⟨v145, rfl, ho0, hb⟩; refine ⟨_, rfl, ?_⟩; replace HO143 := r1_ HO143 hb; have HO146 := Aside0.mk (Kd.R_lower ho0 (below_size (y1_ HB.out))); replace HB := Aside0.mk (below_step (y1_ HB.out) hb); (try clear hb); (try clear hb2); (try clear hk); (try clear hi); (try clear ho0); obtain ⟨Ao14, co14, eo14⟩ := Kd.R_slice HO146.out; subst eo14))
 go_loopg [4, 6] k (fun kq v4 v6 w' => ∃ (x4_1 : List Int) (x6_1 : Int), v6 = .int .i64 x6_1 ∧ Aside0 (spec_l01Numbers.l0 kq x4_1 t144 x6_1 = some (r1, r2)) ∧ Aside0 (kq ≤ k) ∧ Aside0 (Kd.R (Kd.int .i64) 2 w' w.heap.size (fun _ => True) v4 x4_1) ∧ Aside0 (Kd.R Kd.string 9 w' w.heap.size (fun _ => True) (.slice Ao14 t144.length co14) t144) ∧ Aside0 (Below w.heap.size w w'))
 case atStart => exact ⟨(y141), (0), (by first | rfl | (simp; done) | (simp [*]; done)), H', ⟨Nat.le_refl _⟩, ⟨b2_ HO143.out⟩, ⟨b2_ HO146.out⟩, ⟨by repeat (first | (with_reducible first | exact HB.out | apply below_alloc | apply pw_below_drewN | apply below_drew1) | exact HB.out)⟩⟩
 case round =>
  skip
  {
 clear H'
 try clear c2
 try clear c2b0
 try clear c2b1
 try clear p2
 try clear c3
 try clear c6
 try clear c6b0
 try clear c6b1
 obtain ⟨x4_1, x6_1, rfl, HA, HK1, HO_4, HO_5, HB⟩ := hrel
 cases gk with
 | zero => exact absurd HA.out (by simp [spec_l01Numbers.l0])
 | succ k1 =>
  skip
  {
 have H := HA.out
 clear HA
 simp only [spec_l01Numbers.l0] at H
 by_cases c15 : x6_1 < (t144.length : Int)
 {
 rw [if_pos c15] at H
 have c15b0 : decide (x6_1 < (t144.length : Int)) = true := decide_eq_true c15
 clear c15
 by_cases c16 : 0 ≤ x6_1
 {
 rw [if_pos c16] at H
 have c16b0 : decide (0 ≤ x6_1) = true := decide_eq_true c16
 clear c16
 replace H := Option.bind_eq_some_iff.mp H
 obtain ⟨⟨t148, t149⟩, A170, H⟩ := H
 replace H : (if t149 = true then (if x4_1.length < 17592186044416 then (spec_l01Numbers.l0 k1 (x4_1 ++ [t148]) t144 (wrap64 (x6_1 + 1))) else (none)) else (some (([] : List Int), false))) = some (r1, r2) := H
 have A17 := Aside0.mk A170
 clear A170
 by_cases c18 : t149 = true
 {
 subst c18
 have H1 : (if x4_1.length < 17592186044416 then (spec_l01Numbers.l0 k1 (x4_1 ++ [t148]) t144 (wrap64 (x6_1 + 1))) else (none)) = some (r1, r2) := by rw [if_pos rfl] at H; exact H
 clear H
 have H := H1
 clear H1
 by_cases c19 : x4_1.length < 17592186044416
 {
 rw [if_pos c19] at H
 have LMc19 := Aside0.mk c19
 clear c19
 obtain ⟨y150, hy150⟩ : ∃ y_ : List Int, y_ = (x4_1 ++ [t148]) := ⟨_, rfl⟩
 replace H : (spec_l01Numbers.l0 k1 y150 t144 (wrap64 (x6_1 + 1))) = some (r1, r2) := by first | (rw [hy150]; with_reducible exact H) | (have H2_ := (Option.bind_some _ _).symm.trans H; rw [hy150]; with_reducible exact H2_) | (have H2_ := (Option.bind_some _ _).symm.trans H; with_reducible exact H2_) | with_reducible exact H | (rw [hy150]; exact H) | exact H
 have Ny150 := Aside0.mk hy150
 clear hy150
 have H' := Aside0.mk H
 clear H
 have p147 : 0 ≤ (x6_1 : Int) := of_decide_eq_true (by first | (with_reducible assumption) | assumption)
 have q147 : x6_1 < (t144.length : Int) := of_decide_eq_true (by first | (with_reducible assumption) | assumption)
 obtain ⟨ad147, e147, hx147_0⟩ := Kd.at_string (Kd.R_reads' HO_5.out).2.2 x6_1 p147 q147
 cases e147
 replace p147 := eq_true p147
 replace q147 := eq_true q147
 go_wp2_with (first | ((with_reducible refine gate_callee (f := 37) rfl ?_); refine goesL_ (some 29) rfl rfl Tryd.func37 s2_ rfl #[.string (rdOf ByteArray.empty t144 x6_1)] rfl s3_ ?_; (with_reducible refine (spec_l01Value.calls k1 (rdOf ByteArray.empty t144 x6_1) t148 true _ A17.out).mono ?_); rintro e w20 ⟨rfl, hb⟩; refine ⟨_, rfl, ?_⟩; replace HO_4 := r1_ HO_4 hb; replace HO_5 := r1_ HO_5 hb; replace HB := Aside0.mk (below_step (y1_ HB.out) hb); (try clear hb); (try clear hb2); (try clear hk); (try clear hi)) | ((with_reducible refine gate_builtin (b := .append) (xs := #[.tmp 34, .tmp 36]) rfl ?_); at_builtin; refine Kd.R_append (Kd.int .i64) (w0 := w) w.heap.size rfl (.tmp 34) (.tmp 36) 41 2 (.int .i64 0) 8 rfl Tryd.underlying41 info2 rfl (by decide) (by omega) u4 x4_1 t148 [.int .i64 t148] (fun _ => True) (fun _ => False) rfl rfl ?aP (fun _ hk => hk.elim) ?aF ?aO ?aB ?aS ?aL ?_; (case aP => exact rfl); (case aB => exact (y1_ HB.out)); (case aF => exact (fun _ _ => trivial)); (case aO => exact (b2_ HO_4.out)); (case aS => exact (below_size (y1_ HB.out))); (case aL => have := LMc19.out; omega); intro v151 w21 ho hb hg hat; rw [← Ny150.out] at ho; replace HO_5 := Aside0.mk (Kd.R_over' (b2_ HO_5.out) (Kd.R_typed (b2_ HO_4.out)) (by decide) hg); replace HB := Aside0.mk (hb); have HO152 := Aside0.mk (ho); clear HO_4; clear ho hb hg hat))
 go_roundg k1
 case measure => have := HK1.out; omega
 case rel => exact ⟨(y150), (wrap64 (x6_1 + 1)), (by first | rfl | (simp; done) | (simp [*]; done)), H', ⟨by have := HK1.out; omega⟩, ⟨b2_ HO152.out⟩, ⟨b2_ HO_5.out⟩, ⟨by repeat (first | (with_reducible first | exact HB.out | apply below_alloc | apply pw_below_drewN | apply below_drew1) | exact HB.out)⟩⟩}
 {
 rw [if_neg c19] at H
 exact absurd H (by simp)}}
 {
 replace c18 := Bool.eq_false_iff.mpr c18
 subst c18
 have H1 : (some (([] : List Int), false)) = some (r1, r2) := by rw [if_neg (show ¬ (false = true) by decide)] at H; exact H
 clear H
 have H := H1
 clear H1
 simp only [Option.some.injEq, Prod.mk.injEq] at H
 obtain ⟨rfl, rfl⟩ := H
 have p147 : 0 ≤ (x6_1 : Int) := of_decide_eq_true (by first | (with_reducible assumption) | assumption)
 have q147 : x6_1 < (t144.length : Int) := of_decide_eq_true (by first | (with_reducible assumption) | assumption)
 obtain ⟨ad147, e147, hx147_0⟩ := Kd.at_string (Kd.R_reads' HO_5.out).2.2 x6_1 p147 q147
 cases e147
 replace p147 := eq_true p147
 replace q147 := eq_true q147
 go_wp2_with (first | ((with_reducible refine gate_callee (f := 37) rfl ?_); refine goesL_ (some 29) rfl rfl Tryd.func37 s2_ rfl #[.string (rdOf ByteArray.empty t144 x6_1)] rfl s3_ ?_; (with_reducible refine (spec_l01Value.calls k1 (rdOf ByteArray.empty t144 x6_1) t148 false _ A17.out).mono ?_); rintro e w22 ⟨rfl, hb⟩; refine ⟨_, rfl, ?_⟩; replace HO_4 := r1_ HO_4 hb; replace HO_5 := r1_ HO_5 hb; replace HB := Aside0.mk (below_step (y1_ HB.out) hb); (try clear hb); (try clear hb2); (try clear hk); (try clear hi)))
 go_ret2
 exact ⟨_, by first | rfl | (simp [errW_none, errW_some] <;> rfl) | (simp [*, errW_none, errW_some] <;> rfl), by first | exact Kd.R_nil _ _ _ _ _ | exact Kd.N_nil _ _ _ _ _ | exact Kd.V_nil _ _ _ _ _ | exact Kd.Q_nil _ _ _ _ _ | exact Kd.S_nil _ _ _ _ _, by repeat (first | (with_reducible first | exact HB.out | apply below_alloc | apply pw_below_drewN | apply below_drew1) | exact HB.out)⟩}}
 {
 rw [if_neg c16] at H
 exact absurd H (by simp)}}
 {
 rw [if_neg c15] at H
 have c15b0 : decide (x6_1 < (t144.length : Int)) = false := decide_eq_false c15
 clear c15
 simp only [Option.some.injEq, Prod.mk.injEq] at H
 obtain ⟨rfl, rfl⟩ := H
 go_wp2
 go_ret2
 exact ⟨_, by first | rfl | (simp [errW_none, errW_some] <;> rfl) | (simp [*, errW_none, errW_some] <;> rfl), by (with_reducible repeat (first | apply Kd.R_alloc | apply Kd.R_drewN | apply Kd.R_drew)); exact HO_4.out, by repeat (first | (with_reducible first | exact HB.out | apply below_alloc | apply pw_below_drewN | apply below_drew1) | exact HB.out)⟩}}}}}

end Go.Proofs.YtgmbgpjebpgpkaaDoor.QFnExactReadEvent
