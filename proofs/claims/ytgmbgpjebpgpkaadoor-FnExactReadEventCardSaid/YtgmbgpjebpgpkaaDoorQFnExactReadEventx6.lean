-- written by a program of this session, on the lines of the kit's print
import Derived.Test.YtgmbgpjebpgpkaaDoorQFnExactReadEventx0
import Derived.Test.YtgmbgpjebpgpkaaDoorQFnExactReadEventx5
namespace Go.Proofs.YtgmbgpjebpgpkaaDoor.QFnExactReadEvent
open Go.RowKit Go.Proofs.YtgmbgpjebpgpkaaDoorW.PrintWords Go.Proofs.YtgmbgpjebpgpkaaDoorW.PrintLast Go.Proofs.YtgmbgpjebpgpkaaDoorW.PrintMore
attribute [local go_sem] max2_int min2_int max_two min_two max_three min_three max_four min_four   -- for this text's walks alone
set_option linter.unusedVariables false
set_option linter.unusedSimpArgs false

/-! ### impl_ReadDecimal: function 32 -/
def impl_ReadDecimal.f (a0 : ByteArray) : Option (Int × Bool) := (strconv_ParseInt_40.f a0 10 64).bind fun bt247 => (if bt247.2.isNone = true then ((impl_in.f bt247.1 (-1000000000) 1000000000).bind fun t250 => (if t250 = true then ((impl_Decimal.f bt247.1).bind fun t251 => (if t251.toList = a0.toList then (some (bt247.1, true)) else (some (0, false)))) else (some (0, false)))) else (some (0, false)))
set_option maxHeartbeats 8000000 in
set_option maxRecDepth 100000 in
theorem impl_ReadDecimal.calls (a0 : ByteArray) (r1 : Int) (r2 : Bool) (w : World) (h : impl_ReadDecimal.f a0 = some (r1, r2)) (hG : TG w) :
    Calls Tryd.prog 32 #[.string a0] w fun e w' => e = .returned (.tuple #[.int .i64 r1, .bool r2]) ∧ Below w.heap.size w w' := by
  have hu57 := Tryd.underlying57
  have hu81 := Tryd.underlying81
  have HB := Aside0.mk (Below.refl w.heap.size w)
  have HTG := Aside0.mk hG
  clear hG
  have H : ((strconv_ParseInt_40.f a0 10 64).bind fun bt247 => (if bt247.2.isNone = true then ((impl_in.f bt247.1 (-1000000000) 1000000000).bind fun t250 => (if t250 = true then ((impl_Decimal.f bt247.1).bind fun t251 => (if t251.toList = a0.toList then (some (bt247.1, true)) else (some (0, false)))) else (some (0, false)))) else (some (0, false)))) = some (r1, r2) := h
  clear h
  replace H := Option.bind_eq_some_iff.mp H
  obtain ⟨⟨t247, t248⟩, A20, H⟩ := H
  replace H : (if t248.isNone = true then ((impl_in.f t247 (-1000000000) 1000000000).bind fun t250 => (if t250 = true then ((impl_Decimal.f t247).bind fun t251 => (if t251.toList = a0.toList then (some (t247, true)) else (some (0, false)))) else (some (0, false)))) else (some (0, false))) = some (r1, r2) := H
  have A2 := Aside0.mk A20
  clear A20
  rcases t248 with _ | q249
  · have H1 : ((impl_in.f t247 (-1000000000) 1000000000).bind fun t250 => (if t250 = true then ((impl_Decimal.f t247).bind fun t251 => (if t251.toList = a0.toList then (some (t247, true)) else (some (0, false)))) else (some (0, false)))) = some (r1, r2) := by rw [if_pos (show (none : Option Int).isNone = true by rfl)] at H; exact H
    clear H
    have H := H1
    clear H1
    try simp only [errW_none, errW_some]
    replace H := Option.bind_eq_some_iff.mp H
    obtain ⟨t250, A30, H⟩ := H
    replace H : (if t250 = true then ((impl_Decimal.f t247).bind fun t251 => (if t251.toList = a0.toList then (some (t247, true)) else (some (0, false)))) else (some (0, false))) = some (r1, r2) := H
    have A3 := Aside0.mk A30
    clear A30
    by_cases c4 : t250 = true
    · subst c4
      have H1 : ((impl_Decimal.f t247).bind fun t251 => (if t251.toList = a0.toList then (some (t247, true)) else (some (0, false)))) = some (r1, r2) := by rw [if_pos rfl] at H; exact H
      clear H
      have H := H1
      clear H1
      replace H := Option.bind_eq_some_iff.mp H
      obtain ⟨t251, A50, H⟩ := H
      replace H : (if t251.toList = a0.toList then (some (t247, true)) else (some (0, false))) = some (r1, r2) := H
      have A5 := Aside0.mk A50
      clear A50
      by_cases c6 : t251.toList = a0.toList
      · rw [if_pos c6] at H
        have c6b0 : (t251.toList == a0.toList) = true := beq_iff_eq.mpr c6
        have c6b1 : (t251.toList != a0.toList) = false := bne_eq_false_iff_eq.mpr c6
        clear c6
        simp only [Option.some.injEq, Prod.mk.injEq] at H
        obtain ⟨rfl, rfl⟩ := H
        go_enter Tryd.func32, Tryd.ntmps32
        go_wp2_with (first | ((with_reducible refine gate_callee (f := 40) rfl ?_); refine goesL_ (some 8) rfl rfl Tryd.func40 (by kernel_rfl) rfl #[.string a0, .int .i64 10, .int .i64 64] rfl (by (try simp only [List.map_toArray, List.map_cons, List.map_nil]); first | done | rfl | (simp only [List.length_drop, List.length_take]; rfl)) ?_; (with_reducible refine (strconv_ParseInt_40.callsN a0 10 64 t247 _ A2.out).mono ?_); rintro e w7 ⟨rfl, hb⟩; refine ⟨_, rfl, ?_⟩; replace HB := Aside0.mk (below_step (by repeat (first | (with_reducible first | exact HB.out | apply below_alloc | apply pw_below_drewN | apply below_drew1) | exact HB.out)) hb); (try clear hb); (try clear hb2); (try clear hk); (try clear hi); (try simp only [errW_none, errW_some])) | (go_at_call 24; (with_reducible refine (impl_in.calls t247 (-1000000000) 1000000000 true _ A3.out).mono ?_); rintro e w' ⟨rfl, ⟨nd, rfl⟩⟩) | (go_at_call 34; (with_reducible refine (impl_Decimal.calls t247 t251 _ A5.out (HTG.out.on (by repeat (first | (with_reducible first | exact HB.out | apply below_alloc | apply pw_below_drewN | apply below_drew1) | exact HB.out)))).mono ?_); rintro e w8 ⟨rfl, hb⟩; replace HB := Aside0.mk (below_step (by repeat (first | (with_reducible first | exact HB.out | apply below_alloc | apply pw_below_drewN | apply below_drew1) | exact HB.out)) hb); (try clear hb); (try clear hb2); (try clear hk); (try clear hi)))
        go_ret2
        exact ⟨by first | rfl | (simp [errW_none, errW_some] <;> rfl) | (simp [*, errW_none, errW_some] <;> rfl), by repeat (first | (with_reducible first | exact HB.out | apply below_alloc | apply pw_below_drewN | apply below_drew1) | exact HB.out)⟩
      · rw [if_neg c6] at H
        have c6b0 : (t251.toList == a0.toList) = false := beq_eq_false_iff_ne.mpr c6
        have c6b1 : (t251.toList != a0.toList) = true := bne_iff_ne.mpr c6
        simp only [Option.some.injEq, Prod.mk.injEq] at H
        obtain ⟨rfl, rfl⟩ := H
        go_enter Tryd.func32, Tryd.ntmps32
        go_wp2_with (first | ((with_reducible refine gate_callee (f := 40) rfl ?_); refine goesL_ (some 8) rfl rfl Tryd.func40 (by kernel_rfl) rfl #[.string a0, .int .i64 10, .int .i64 64] rfl (by (try simp only [List.map_toArray, List.map_cons, List.map_nil]); first | done | rfl | (simp only [List.length_drop, List.length_take]; rfl)) ?_; (with_reducible refine (strconv_ParseInt_40.callsN a0 10 64 t247 _ A2.out).mono ?_); rintro e w9 ⟨rfl, hb⟩; refine ⟨_, rfl, ?_⟩; replace HB := Aside0.mk (below_step (by repeat (first | (with_reducible first | exact HB.out | apply below_alloc | apply pw_below_drewN | apply below_drew1) | exact HB.out)) hb); (try clear hb); (try clear hb2); (try clear hk); (try clear hi); (try simp only [errW_none, errW_some])) | (go_at_call 24; (with_reducible refine (impl_in.calls t247 (-1000000000) 1000000000 true _ A3.out).mono ?_); rintro e w' ⟨rfl, ⟨nd, rfl⟩⟩) | (go_at_call 34; (with_reducible refine (impl_Decimal.calls t247 t251 _ A5.out (HTG.out.on (by repeat (first | (with_reducible first | exact HB.out | apply below_alloc | apply pw_below_drewN | apply below_drew1) | exact HB.out)))).mono ?_); rintro e w10 ⟨rfl, hb⟩; replace HB := Aside0.mk (below_step (by repeat (first | (with_reducible first | exact HB.out | apply below_alloc | apply pw_below_drewN | apply below_drew1) | exact HB.out)) hb); (try clear hb); (try clear hb2); (try clear hk); (try clear hi)))
        go_ret2
        exact ⟨by first | rfl | (simp [errW_none, errW_some] <;> rfl) | (simp [*, errW_none, errW_some] <;> rfl), by repeat (first | (with_reducible first | exact HB.out | apply below_alloc | apply pw_below_drewN | apply below_drew1) | exact HB.out)⟩
    · replace c4 := Bool.eq_false_iff.mpr c4
      subst c4
      have H1 : (some (0, false)) = some (r1, r2) := by rw [if_neg (show ¬ (false = true) by decide)] at H; exact H
      clear H
      have H := H1
      clear H1
      simp only [Option.some.injEq, Prod.mk.injEq] at H
      obtain ⟨rfl, rfl⟩ := H
      go_enter Tryd.func32, Tryd.ntmps32
      go_wp2_with (first | ((with_reducible refine gate_callee (f := 40) rfl ?_); refine goesL_ (some 8) rfl rfl Tryd.func40 (by kernel_rfl) rfl #[.string a0, .int .i64 10, .int .i64 64] rfl (by (try simp only [List.map_toArray, List.map_cons, List.map_nil]); first | done | rfl | (simp only [List.length_drop, List.length_take]; rfl)) ?_; (with_reducible refine (strconv_ParseInt_40.callsN a0 10 64 t247 _ A2.out).mono ?_); rintro e w11 ⟨rfl, hb⟩; refine ⟨_, rfl, ?_⟩; replace HB := Aside0.mk (below_step (by repeat (first | (with_reducible first | exact HB.out | apply below_alloc | apply pw_below_drewN | apply below_drew1) | exact HB.out)) hb); (try clear hb); (try clear hb2); (try clear hk); (try clear hi); (try simp only [errW_none, errW_some])) | (go_at_call 24; (with_reducible refine (impl_in.calls t247 (-1000000000) 1000000000 false _ A3.out).mono ?_); rintro e w' ⟨rfl, ⟨nd, rfl⟩⟩))
      go_ret2
      exact ⟨by first | rfl | (simp [errW_none, errW_some] <;> rfl) | (simp [*, errW_none, errW_some] <;> rfl), by repeat (first | (with_reducible first | exact HB.out | apply below_alloc | apply pw_below_drewN | apply below_drew1) | exact HB.out)⟩
  · have H1 : (some (0, false)) = some (r1, r2) := by rw [if_neg (show ¬ (some q249).isNone = true by simp)] at H; exact H
    clear H
    have H := H1
    clear H1
    try simp only [errW_none, errW_some]
    simp only [Option.some.injEq, Prod.mk.injEq] at H
    obtain ⟨rfl, rfl⟩ := H
    go_enter Tryd.func32, Tryd.ntmps32
    go_wp2_with (first | ((with_reducible refine gate_callee (f := 40) rfl ?_); refine goesL_ (some 8) rfl rfl Tryd.func40 (by kernel_rfl) rfl #[.string a0, .int .i64 10, .int .i64 64] rfl (by (try simp only [List.map_toArray, List.map_cons, List.map_nil]); first | done | rfl | (simp only [List.length_drop, List.length_take]; rfl)) ?_; (with_reducible refine (strconv_ParseInt_40.callsE a0 10 64 t247 q249 _ A2.out (HTG.out.on (by repeat (first | (with_reducible first | exact HB.out | apply below_alloc | apply pw_below_drewN | apply below_drew1) | exact HB.out)))).mono ?_); rintro e w12 ⟨te_, pe_, rfl, hb⟩; refine ⟨_, rfl, ?_⟩; replace HB := Aside0.mk (below_step (by repeat (first | (with_reducible first | exact HB.out | apply below_alloc | apply pw_below_drewN | apply below_drew1) | exact HB.out)) hb); (try clear hb); (try clear hb2); (try clear hk); (try clear hi); (try simp only [errW_none, errW_some])))
    go_ret2
    exact ⟨by first | rfl | (simp [errW_none, errW_some] <;> rfl) | (simp [*, errW_none, errW_some] <;> rfl), by repeat (first | (with_reducible first | exact HB.out | apply below_alloc | apply pw_below_drewN | apply below_drew1) | exact HB.out)⟩

/-! ### impl_ReadList: function 18 -/
abbrev impl_ReadList.T : Bool := true
abbrev impl_ReadList.F : Bool := false
theorem impl_ReadList.s2_ {P : Prop} (h : P := by kernel_rfl) : P := h
theorem impl_ReadList.s3_ {P : Prop} (h : P := by (try simp only [List.map_toArray, List.map_cons, List.map_nil]); first | done | rfl | (simp only [List.length_drop, List.length_take]; rfl)) : P := h
theorem impl_ReadList.b2_ {P Q : Prop} (q : Q) (h : Q → P := by intro q_; (with_reducible repeat (first | apply Kd.R_alloc | apply Kd.R_drewN | apply Kd.R_drew)); exact q_) : P := h q
theorem impl_ReadList.y1_ {P Q : Prop} (q : Q) (h : Q → P := by intro q_; repeat (first | (with_reducible first | exact q_ | apply below_alloc | apply pw_below_drewN | apply below_drew1) | exact q_)) : P := h q
theorem impl_ReadList.r1_ {α : Type} {d : Kd α} {e base : Nat} {ok : Nat → Prop} {v : Value} {xs : List α} {w W w1 : World} (q : Aside0 (d.R e w base ok v xs)) (hb : Below W.heap.size W w1) (h : d.R e w base ok v xs → d.R e W base ok v xs := by intro q_; (with_reducible repeat (first | apply Kd.R_alloc | apply Kd.R_drewN | apply Kd.R_drew)); exact q_) : Aside0 (d.R e w1 base ok v xs) := ⟨Kd.R_below (h q.out) hb⟩
def impl_ReadList.l0 : Nat → List Int → List ByteArray → Int → Int → Option (List Int × Bool)
  | 0, _, _, _, _ => none
  | k + 1, x4, x14, x15, x16 => if x16 < x15 then (if 0 ≤ x16 then (if x16 < (x14.length : Int) then ((impl_ReadDecimal.f (rdOf ByteArray.empty x14 x16)).bind fun bt259 => (if bt259.2 = true then (if (x4.length : Int) = 300 then (some (([] : List Int), false)) else (if x4.length < 17592186044416 then (impl_ReadList.l0 k (x4 ++ [bt259.1]) x14 x15 (wrap64 (x16 + 1))) else (none))) else (some (([] : List Int), false)))) else (none)) else (none)) else (some (x4, true))
def impl_ReadList.f (k : Nat) (a0 : ByteArray) : Option (List Int × Bool) := (some (([] : List Int) : List Int)).bind fun y252 => (if a0.toList = ([110, 111, 110, 101] : List UInt8) then (some (y252, true)) else ((strings_Split.f a0 (⟨#[44]⟩ : ByteArray)).bind fun t255 => (impl_ReadList.l0 k y252 t255 (t255.length : Int) 0)))
theorem impl_ReadList.mono_l : ∀ k, (∀ y0 y1 y2 y3, LeO (impl_ReadList.l0 k y0 y1 y2 y3) (impl_ReadList.l0 (k + 1) y0 y1 y2 y3))
  | 0 => fun _ _ _ _ r h => by simp [impl_ReadList.l0] at h
  | k + 1 => by
    have ih0 := impl_ReadList.mono_l k
    · intro y0 y1 y2 y3
      unfold impl_ReadList.l0
      repeat' first
      | (with_reducible exact ih0 _ _ _ _)
      | (with_reducible exact LeO.refl _)
      | (with_reducible exact LeO.none _)
      | (with_reducible refine LeO.ite ?_ ?_)
      | (with_reducible refine LeO.bind ?_ (fun _ => ?_))
      | exact ih0 _ _ _ _
      | exact LeO.none _
      | refine LeO.ite ?_ ?_
      | refine LeO.bind ?_ (fun _ => ?_)
theorem impl_ReadList.mono : ∀ a0 k, LeO (impl_ReadList.f k a0) (impl_ReadList.f (k + 1) a0) := by
  intro a0 k
  have ih0 := impl_ReadList.mono_l k
  unfold impl_ReadList.f
  repeat' first
      | (with_reducible exact ih0 _ _ _ _)
      | (with_reducible exact LeO.refl _)
      | (with_reducible exact LeO.none _)
      | (with_reducible refine LeO.ite ?_ ?_)
      | (with_reducible refine LeO.bind ?_ (fun _ => ?_))
      | exact ih0 _ _ _ _
      | exact LeO.none _
      | refine LeO.ite ?_ ?_
      | refine LeO.bind ?_ (fun _ => ?_)
set_option maxHeartbeats 8000000 in
set_option maxRecDepth 100000 in
theorem impl_ReadList.calls (k : Nat) (a0 : ByteArray) (r1 : List Int) (r2 : Bool) (w : World) (h : impl_ReadList.f k a0 = some (r1, r2)) (hG : TG w) :
    Calls Tryd.prog 18 #[.string a0] w fun e w' => ∃ v0_ : Value, e = .returned (.tuple #[v0_, .bool r2]) ∧ Kd.R (Kd.int .i64) 2 w' w.heap.size (fun _ => True) v0_ r1 ∧ Below w.heap.size w w' := by
 have HB := Aside0.mk (Below.refl w.heap.size w)
 have HTG := Aside0.mk hG
 clear hG
 have H : ((some (([] : List Int) : List Int)).bind fun y252 => (if a0.toList = ([110, 111, 110, 101] : List UInt8) then (some (y252, true)) else ((strings_Split.f a0 (⟨#[44]⟩ : ByteArray)).bind fun t255 => (impl_ReadList.l0 k y252 t255 (t255.length : Int) 0)))) = some (r1, r2) := h
 clear h
 obtain ⟨y252, hy252⟩ : ∃ y_ : List Int, y_ = (([] : List Int)) := ⟨_, rfl⟩
 replace H : (if a0.toList = ([110, 111, 110, 101] : List UInt8) then (some (y252, true)) else ((strings_Split.f a0 (⟨#[44]⟩ : ByteArray)).bind fun t255 => (impl_ReadList.l0 k y252 t255 (t255.length : Int) 0))) = some (r1, r2) := by first | (rw [hy252]; with_reducible exact H) | (have H2_ := (Option.bind_some _ _).symm.trans H; rw [hy252]; with_reducible exact H2_) | (have H2_ := (Option.bind_some _ _).symm.trans H; with_reducible exact H2_) | with_reducible exact H | (rw [hy252]; exact H) | exact H
 have Ny252 := Aside0.mk hy252
 clear hy252
 by_cases c2 : a0.toList = ([110, 111, 110, 101] : List UInt8)
 {
 rw [if_pos c2] at H
 have c2b0 : (a0.toList == ([110, 111, 110, 101] : List UInt8)) = true := beq_iff_eq.mpr c2
 have c2b1 : (a0.toList != ([110, 111, 110, 101] : List UInt8)) = false := bne_eq_false_iff_eq.mpr c2
 clear c2
 simp only [Option.some.injEq, Prod.mk.injEq] at H
 obtain ⟨rfl, rfl⟩ := H
 go_enter Tryd.func18, Tryd.ntmps18
 go_wp2_with (first | ((with_reducible refine gate_dst (N := 9) rfl ?_); (try (refine gate_guard (by rfl) ?_; dsimp only)); refine Kd.R_lit (Kd.int .i64) _ 2 ?hg (N := 9) ?hd (xs := ([] : List Int)) (inner := []) (ok := fun _ => True) (okp := fun _ => True) ?hr ?hp (fun _ hk => hk) trivial (Below.refl _ _) (Nat.le_refl _) (by simp) ?_; (case hd => rfl); (case hg => rfl); (case hr => first | (go_simp; done) | (go_simp; rfl)); (case hp => exact (Reps.none _ _)); intro v253 w3 ho4 hb hg_ hnew_; clear hg_ hnew_; (first | rw [← Ny252.out] at ho4 | (simp only [Int.reduceToNat] at ho4; rw [← Ny252.out] at ho4)); have HO254 := Aside0.mk (Kd.R_lower ho4 (below_size (y1_ HB.out))); replace HB := Aside0.mk (below_step (y1_ HB.out) hb); clear hb ho4))
 go_ret2
 exact ⟨_, by first | rfl | (simp [errW_none, errW_some] <;> rfl) | (simp [*, errW_none, errW_some] <;> rfl), by (with_reducible repeat (first | apply Kd.R_alloc | apply Kd.R_drewN | apply Kd.R_drew)); exact HO254.out, by repeat (first | (with_reducible first | exact HB.out | apply below_alloc | apply pw_below_drewN | apply below_drew1) | exact HB.out)⟩}
 {
 rw [if_neg c2] at H
 have c2b0 : (a0.toList == ([110, 111, 110, 101] : List UInt8)) = false := beq_eq_false_iff_ne.mpr c2
 have c2b1 : (a0.toList != ([110, 111, 110, 101] : List UInt8)) = true := bne_iff_ne.mpr c2
 replace H := Option.bind_eq_some_iff.mp H
 obtain ⟨t255, A50, H⟩ := H
 replace H : (impl_ReadList.l0 k y252 t255 (t255.length : Int) 0) = some (r1, r2) := H
 have A5 := Aside0.mk A50
 clear A50
 have H' := Aside0.mk H
 clear H
 go_enter Tryd.func18, Tryd.ntmps18
 go_wp2_with (first | ((with_reducible refine gate_dst (N := 9) rfl ?_); (try (refine gate_guard (by rfl) ?_; dsimp only)); refine Kd.R_lit (Kd.int .i64) _ 2 ?hg (N := 9) ?hd (xs := ([] : List Int)) (inner := []) (ok := fun _ => True) (okp := fun _ => True) ?hr ?hp (fun _ hk => hk) trivial (Below.refl _ _) (Nat.le_refl _) (by simp) ?_; (case hd => rfl); (case hg => rfl); (case hr => first | (go_simp; done) | (go_simp; rfl)); (case hp => exact (Reps.none _ _)); intro v253 w6 ho7 hb hg_ hnew_; clear hg_ hnew_; (first | rw [← Ny252.out] at ho7 | (simp only [Int.reduceToNat] at ho7; rw [← Ny252.out] at ho7)); have HO254 := Aside0.mk (Kd.R_lower ho7 (below_size (y1_ HB.out))); replace HB := Aside0.mk (below_step (y1_ HB.out) hb); clear hb ho7) | ((with_reducible refine gate_callee (f := 31) rfl ?_); refine goesL_ (some 14) rfl rfl Tryd.func31 s2_ rfl #[.string a0, .string (⟨#[44]⟩ : ByteArray)] rfl s3_ ?_; (with_reducible refine (strings_Split.calls a0 (⟨#[44]⟩ : ByteArray) t255 _ A5.out (HTG.out.on (y1_ HB.out))).mono ?_); rintro e w8 ⟨v256, rfl, ho0, hb⟩; refine ⟨_, rfl, ?_⟩; replace HO254 := r1_ HO254 hb; have HO257 := Aside0.mk (Kd.R_lower ho0 (below_size (y1_ HB.out))); replace HB := Aside0.mk (below_step (y1_ HB.out) hb); (try clear hb); (try clear hb2); (try clear hk); (try clear hi); (try clear ho0); obtain ⟨Ao9, co9, eo9⟩ := Kd.R_slice HO257.out; subst eo9))
 go_loopg [4, 16] k (fun kq v4 v16 w' => ∃ (x4_1 : List Int) (x16_1 : Int), v16 = .int .i64 x16_1 ∧ Aside0 (impl_ReadList.l0 kq x4_1 t255 (t255.length : Int) x16_1 = some (r1, r2)) ∧ Aside0 (kq ≤ k) ∧ Aside0 (Kd.R (Kd.int .i64) 2 w' w.heap.size (fun _ => True) v4 x4_1) ∧ Aside0 (Kd.R Kd.string 9 w' w.heap.size (fun _ => True) (.slice Ao9 t255.length co9) t255) ∧ Aside0 (Below w.heap.size w w'))
 case atStart => exact ⟨(y252), (0), (by first | rfl | (simp; done) | (simp [*]; done)), H', ⟨Nat.le_refl _⟩, ⟨b2_ HO254.out⟩, ⟨b2_ HO257.out⟩, ⟨by repeat (first | (with_reducible first | exact HB.out | apply below_alloc | apply pw_below_drewN | apply below_drew1) | exact HB.out)⟩⟩
 case round =>
  skip
  {
 clear H'
 try clear c1
 try clear c2
 try clear c2b0
 try clear c2b1
 try clear p2
 try clear c3
 obtain ⟨x4_1, x16_1, rfl, HA, HK1, HO_4, HO_14, HB⟩ := hrel
 cases gk with
 | zero => exact absurd HA.out (by simp [impl_ReadList.l0])
 | succ k1 =>
  skip
  {
 have H := HA.out
 clear HA
 simp only [impl_ReadList.l0] at H
 by_cases c10 : x16_1 < (t255.length : Int)
 {
 rw [if_pos c10] at H
 have c10b0 : decide (x16_1 < (t255.length : Int)) = true := decide_eq_true c10
 clear c10
 by_cases c11 : 0 ≤ x16_1
 {
 rw [if_pos c11] at H
 have c11b0 : decide (0 ≤ x16_1) = true := decide_eq_true c11
 clear c11
 by_cases c12 : x16_1 < (t255.length : Int)
 {
 rw [if_pos c12] at H
 have c12b0 : decide (x16_1 < (t255.length : Int)) = true := decide_eq_true c12
 clear c12
 replace H := Option.bind_eq_some_iff.mp H
 obtain ⟨⟨t259, t260⟩, A130, H⟩ := H
 replace H : (if t260 = true then (if (x4_1.length : Int) = 300 then (some (([] : List Int), false)) else (if x4_1.length < 17592186044416 then (impl_ReadList.l0 k1 (x4_1 ++ [t259]) t255 (t255.length : Int) (wrap64 (x16_1 + 1))) else (none))) else (some (([] : List Int), false))) = some (r1, r2) := H
 have A13 := Aside0.mk A130
 clear A130
 by_cases c14 : t260 = true
 {
 subst c14
 have H1 : (if (x4_1.length : Int) = 300 then (some (([] : List Int), false)) else (if x4_1.length < 17592186044416 then (impl_ReadList.l0 k1 (x4_1 ++ [t259]) t255 (t255.length : Int) (wrap64 (x16_1 + 1))) else (none))) = some (r1, r2) := by rw [if_pos rfl] at H; exact H
 clear H
 have H := H1
 clear H1
 by_cases c15 : (x4_1.length : Int) = 300
 {
 rw [if_pos c15] at H
 have c15b0 : ((x4_1.length : Int) == 300) = true := beq_iff_eq.mpr c15
 have c15b1 : ((x4_1.length : Int) != 300) = false := bne_eq_false_iff_eq.mpr c15
 clear c15
 simp only [Option.some.injEq, Prod.mk.injEq] at H
 obtain ⟨rfl, rfl⟩ := H
 have p258 : 0 ≤ (x16_1 : Int) := of_decide_eq_true (by first | (with_reducible assumption) | assumption)
 have q258 : x16_1 < (t255.length : Int) := of_decide_eq_true (by first | (with_reducible assumption) | assumption)
 obtain ⟨ad258, e258, hx258_0⟩ := Kd.at_string (Kd.R_reads' HO_14.out).2.2 x16_1 p258 q258
 cases e258
 replace p258 := eq_true p258
 replace q258 := eq_true q258
 go_wp2_with (first | ((with_reducible refine gate_callee (f := 32) rfl ?_); refine goesL_ (some 22) rfl rfl Tryd.func32 s2_ rfl #[.string (rdOf ByteArray.empty t255 x16_1)] rfl s3_ ?_; (with_reducible refine (impl_ReadDecimal.calls (rdOf ByteArray.empty t255 x16_1) t259 true _ A13.out (HTG.out.on (y1_ HB.out))).mono ?_); rintro e w16 ⟨rfl, hb⟩; refine ⟨_, rfl, ?_⟩; replace HO_4 := r1_ HO_4 hb; replace HO_14 := r1_ HO_14 hb; replace HB := Aside0.mk (below_step (y1_ HB.out) hb); (try clear hb); (try clear hb2); (try clear hk); (try clear hi); obtain ⟨Ao17, co17, eo17⟩ := Kd.R_slice HO_4.out; subst eo17))
 go_ret2
 exact ⟨_, by first | rfl | (simp [errW_none, errW_some] <;> rfl) | (simp [*, errW_none, errW_some] <;> rfl), by first | exact Kd.R_nil _ _ _ _ _ | exact Kd.N_nil _ _ _ _ _ | exact Kd.V_nil _ _ _ _ _ | exact Kd.Q_nil _ _ _ _ _ | exact Kd.S_nil _ _ _ _ _, by repeat (first | (with_reducible first | exact HB.out | apply below_alloc | apply pw_below_drewN | apply below_drew1) | exact HB.out)⟩}
 {
 rw [if_neg c15] at H
 have c15b0 : ((x4_1.length : Int) == 300) = false := beq_eq_false_iff_ne.mpr c15
 have c15b1 : ((x4_1.length : Int) != 300) = true := bne_iff_ne.mpr c15
 by_cases c18 : x4_1.length < 17592186044416
 {
 rw [if_pos c18] at H
 have LMc18 := Aside0.mk c18
 clear c18
 obtain ⟨y261, hy261⟩ : ∃ y_ : List Int, y_ = (x4_1 ++ [t259]) := ⟨_, rfl⟩
 replace H : (impl_ReadList.l0 k1 y261 t255 (t255.length : Int) (wrap64 (x16_1 + 1))) = some (r1, r2) := by first | (rw [hy261]; with_reducible exact H) | (have H2_ := (Option.bind_some _ _).symm.trans H; rw [hy261]; with_reducible exact H2_) | (have H2_ := (Option.bind_some _ _).symm.trans H; with_reducible exact H2_) | with_reducible exact H | (rw [hy261]; exact H) | exact H
 have Ny261 := Aside0.mk hy261
 clear hy261
 have H' := Aside0.mk H
 clear H
 have p258 : 0 ≤ (x16_1 : Int) := of_decide_eq_true (by first | (with_reducible assumption) | assumption)
 have q258 : x16_1 < (t255.length : Int) := of_decide_eq_true (by first | (with_reducible assumption) | assumption)
 obtain ⟨ad258, e258, hx258_0⟩ := Kd.at_string (Kd.R_reads' HO_14.out).2.2 x16_1 p258 q258
 cases e258
 replace p258 := eq_true p258
 replace q258 := eq_true q258
 go_wp2_with (first | ((with_reducible refine gate_callee (f := 32) rfl ?_); refine goesL_ (some 22) rfl rfl Tryd.func32 s2_ rfl #[.string (rdOf ByteArray.empty t255 x16_1)] rfl s3_ ?_; (with_reducible refine (impl_ReadDecimal.calls (rdOf ByteArray.empty t255 x16_1) t259 true _ A13.out (HTG.out.on (y1_ HB.out))).mono ?_); rintro e w19 ⟨rfl, hb⟩; refine ⟨_, rfl, ?_⟩; replace HO_4 := r1_ HO_4 hb; replace HO_14 := r1_ HO_14 hb; replace HB := Aside0.mk (below_step (y1_ HB.out) hb); (try clear hb); (try clear hb2); (try clear hk); (try clear hi); obtain ⟨Ao20, co20, eo20⟩ := Kd.R_slice HO_4.out; subst eo20) | ((with_reducible refine gate_builtin (b := .append) (xs := #[.tmp 32, .tmp 34]) rfl ?_); (try (refine gate_guard (by rfl) ?_; dsimp only)); at_builtin; refine Kd.R_append (Kd.int .i64) (w0 := w) w.heap.size rfl (.tmp 32) (.tmp 34) 41 2 (.int .i64 0) 8 rfl Tryd.underlying41 info2 rfl (by decide) (by omega) (.slice Ao20 x4_1.length co20) x4_1 t259 [.int .i64 t259] (fun _ => True) (fun _ => False) rfl rfl ?aP (fun _ hk => hk.elim) ?aF ?aO ?aB ?aS ?aL ?_; (case aP => exact rfl); (case aB => exact (y1_ HB.out)); (case aF => exact (fun _ _ => trivial)); (case aO => exact (b2_ HO_4.out)); (case aS => exact (below_size (y1_ HB.out))); (case aL => have := LMc18.out; omega); intro v262 w21 ho hb hg hat; rw [← Ny261.out] at ho; replace HO_14 := Aside0.mk (Kd.R_over' (b2_ HO_14.out) (Kd.R_typed (b2_ HO_4.out)) (by decide) hg); replace HB := Aside0.mk (hb); have HO263 := Aside0.mk (ho); clear HO_4; clear ho hb hg hat))
 go_roundg k1
 case measure => have := HK1.out; omega
 case rel => exact ⟨(y261), (wrap64 (x16_1 + 1)), (by first | rfl | (simp; done) | (simp [*]; done)), H', ⟨by have := HK1.out; omega⟩, ⟨b2_ HO263.out⟩, ⟨b2_ HO_14.out⟩, ⟨by repeat (first | (with_reducible first | exact HB.out | apply below_alloc | apply pw_below_drewN | apply below_drew1) | exact HB.out)⟩⟩}
 {
 rw [if_neg c18] at H
 exact absurd H (by simp)}}}
 {
 replace c14 := Bool.eq_false_iff.mpr c14
 subst c14
 have H1 : (some (([] : List Int), false)) = some (r1, r2) := by rw [if_neg (show ¬ (false = true) by decide)] at H; exact H
 clear H
 have H := H1
 clear H1
 simp only [Option.some.injEq, Prod.mk.injEq] at H
 obtain ⟨rfl, rfl⟩ := H
 have p258 : 0 ≤ (x16_1 : Int) := of_decide_eq_true (by first | (with_reducible assumption) | assumption)
 have q258 : x16_1 < (t255.length : Int) := of_decide_eq_true (by first | (with_reducible assumption) | assumption)
 obtain ⟨ad258, e258, hx258_0⟩ := Kd.at_string (Kd.R_reads' HO_14.out).2.2 x16_1 p258 q258
 cases e258
 replace p258 := eq_true p258
 replace q258 := eq_true q258
 go_wp2_with (first | ((with_reducible refine gate_callee (f := 32) rfl ?_); refine goesL_ (some 22) rfl rfl Tryd.func32 s2_ rfl #[.string (rdOf ByteArray.empty t255 x16_1)] rfl s3_ ?_; (with_reducible refine (impl_ReadDecimal.calls (rdOf ByteArray.empty t255 x16_1) t259 false _ A13.out (HTG.out.on (y1_ HB.out))).mono ?_); rintro e w22 ⟨rfl, hb⟩; refine ⟨_, rfl, ?_⟩; replace HO_4 := r1_ HO_4 hb; replace HO_14 := r1_ HO_14 hb; replace HB := Aside0.mk (below_step (y1_ HB.out) hb); (try clear hb); (try clear hb2); (try clear hk); (try clear hi)))
 go_ret2
 exact ⟨_, by first | rfl | (simp [errW_none, errW_some] <;> rfl) | (simp [*, errW_none, errW_some] <;> rfl), by first | exact Kd.R_nil _ _ _ _ _ | exact Kd.N_nil _ _ _ _ _ | exact Kd.V_nil _ _ _ _ _ | exact Kd.Q_nil _ _ _ _ _ | exact Kd.S_nil _ _ _ _ _, by repeat (first | (with_reducible first | exact HB.out | apply below_alloc | apply pw_below_drewN | apply below_drew1) | exact HB.out)⟩}}
 {
 rw [if_neg c12] at H
 exact absurd H (by simp)}}
 {
 rw [if_neg c11] at H
 exact absurd H (by simp)}}
 {
 rw [if_neg c10] at H
 have c10b0 : decide (x16_1 < (t255.length : Int)) = false := decide_eq_false c10
 clear c10
 simp only [Option.some.injEq, Prod.mk.injEq] at H
 obtain ⟨rfl, rfl⟩ := H
 go_wp2
 go_ret2
 exact ⟨_, by first | rfl | (simp [errW_none, errW_some] <;> rfl) | (simp [*, errW_none, errW_some] <;> rfl), by (with_reducible repeat (first | apply Kd.R_alloc | apply Kd.R_drewN | apply Kd.R_drew)); exact HO_4.out, by repeat (first | (with_reducible first | exact HB.out | apply below_alloc | apply pw_below_drewN | apply below_drew1) | exact HB.out)⟩}}}}

end Go.Proofs.YtgmbgpjebpgpkaaDoor.QFnExactReadEvent
