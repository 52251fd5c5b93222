-- written by a program of this session, on the lines of the kit's print
import Derived.Test.YtgfilednbllkmaaQFnJoinedPresencex0
import Derived.Test.YtgfilednbllkmaaQFnJoinedPresencex9
import Derived.Test.YtgfilednbllkmaaQFnJoinedPresencex10
namespace Go.Proofs.Ytgfilednbllkmaa.QFnJoinedPresence
open Go.RowKit Go.Proofs.YtgfilednbllkmaaW.PrintWords Go.Proofs.YtgfilednbllkmaaW.PrintLast Go.Proofs.YtgfilednbllkmaaW.PrintMore
attribute [local go_sem] max2_int min2_int max_two min_two max_three min_three max_four min_four   -- for this text's walks alone
set_option linter.unusedVariables false
set_option linter.unusedSimpArgs false

/-! ### cmp_Compare_int64_n93: function 93 -/
def cmp_Compare_int64_n93.f (a0 : Int) (a1 : Int) : Option (Int) := (cmp_isNaN_int64_n115.f a0).bind fun t388 => ((cmp_isNaN_int64_n115.f a1).bind fun t389 => (if t388 = true then (if t389 = true then (some 0) else (some (-1))) else (if t389 = true then (some 1) else (if a0 < a1 then (some (-1)) else (if a0 > a1 then (some 1) else (some 0))))))
set_option maxHeartbeats 8000000 in
set_option maxRecDepth 100000 in
theorem cmp_Compare_int64_n93.calls (a0 : Int) (a1 : Int) (r : Int) (w : World) (h : cmp_Compare_int64_n93.f a0 a1 = some r) :
    Calls Try.prog 93 #[.int .i64 a0, .int .i64 a1] w fun e w' => e = .returned (.int .i64 r) ∧ Drawn0 w w' := by
  have H : ((cmp_isNaN_int64_n115.f a0).bind fun t388 => ((cmp_isNaN_int64_n115.f a1).bind fun t389 => (if t388 = true then (if t389 = true then (some 0) else (some (-1))) else (if t389 = true then (some 1) else (if a0 < a1 then (some (-1)) else (if a0 > a1 then (some 1) else (some 0))))))) = some r := h
  clear h
  replace H := Option.bind_eq_some_iff.mp H
  obtain ⟨t388, A30, H⟩ := H
  replace H : ((cmp_isNaN_int64_n115.f a1).bind fun t389 => (if t388 = true then (if t389 = true then (some 0) else (some (-1))) else (if t389 = true then (some 1) else (if a0 < a1 then (some (-1)) else (if a0 > a1 then (some 1) else (some 0)))))) = some r := H
  have A3 := A_ A30
  clear A30
  replace H := Option.bind_eq_some_iff.mp H
  obtain ⟨t389, A40, H⟩ := H
  replace H : (if t388 = true then (if t389 = true then (some 0) else (some (-1))) else (if t389 = true then (some 1) else (if a0 < a1 then (some (-1)) else (if a0 > a1 then (some 1) else (some 0))))) = some r := H
  have A4 := A_ A40
  clear A40
  by_cases c5 : t388 = true
  · subst c5
    have H1 : (if t389 = true then (some 0) else (some (-1))) = some r := by rw [if_pos rfl] at H; exact H
    clear H
    have H := H1
    clear H1
    by_cases c6 : t389 = true
    · subst c6
      have H1 : (some 0) = some r := by rw [if_pos rfl] at H; exact H
      clear H
      have H := H1
      clear H1
      obtain rfl := Option.some.inj H
      go_enter Try.func93, Try.ntmps93
      go_wp2_with (first | ((with_reducible refine gate_callee (f := 115) rfl ?_); refine goesL_ (some 8) rfl rfl Try.func115 (by kernel_rfl) rfl #[.int .i64 a0] rfl (by (try simp only [List.map_toArray, List.map_cons, List.map_nil]); first | done | rfl | (simp only [List.length_drop, List.length_take]; rfl)) ?_; (with_reducible refine (cmp_isNaN_int64_n115.calls a0 true _ A3.out).mono ?_); rintro e w' ⟨rfl, ⟨nd, rfl⟩⟩; refine ⟨_, rfl, ?_⟩) | ((with_reducible refine gate_callee (f := 115) rfl ?_); refine goesL_ (some 10) rfl rfl Try.func115 (by kernel_rfl) rfl #[.int .i64 a1] rfl (by (try simp only [List.map_toArray, List.map_cons, List.map_nil]); first | done | rfl | (simp only [List.length_drop, List.length_take]; rfl)) ?_; (with_reducible refine (cmp_isNaN_int64_n115.calls a1 true _ A4.out).mono ?_); rintro e w' ⟨rfl, ⟨nd, rfl⟩⟩; refine ⟨_, rfl, ?_⟩))
      go_ret
      exact ⟨by first | rfl | (simp; done) | (simp [*]; done), by repeat (first | exact Drawn0.refl _ | apply Drawn0.step)⟩
    · replace c6 := Bool.eq_false_iff.mpr c6
      subst c6
      have H1 : (some (-1)) = some r := by rw [if_neg (show ¬ (false = true) by decide)] at H; exact H
      clear H
      have H := H1
      clear H1
      obtain rfl := Option.some.inj H
      go_enter Try.func93, Try.ntmps93
      go_wp2_with (first | ((with_reducible refine gate_callee (f := 115) rfl ?_); refine goesL_ (some 8) rfl rfl Try.func115 (by kernel_rfl) rfl #[.int .i64 a0] rfl (by (try simp only [List.map_toArray, List.map_cons, List.map_nil]); first | done | rfl | (simp only [List.length_drop, List.length_take]; rfl)) ?_; (with_reducible refine (cmp_isNaN_int64_n115.calls a0 true _ A3.out).mono ?_); rintro e w' ⟨rfl, ⟨nd, rfl⟩⟩; refine ⟨_, rfl, ?_⟩) | ((with_reducible refine gate_callee (f := 115) rfl ?_); refine goesL_ (some 10) rfl rfl Try.func115 (by kernel_rfl) rfl #[.int .i64 a1] rfl (by (try simp only [List.map_toArray, List.map_cons, List.map_nil]); first | done | rfl | (simp only [List.length_drop, List.length_take]; rfl)) ?_; (with_reducible refine (cmp_isNaN_int64_n115.calls a1 false _ A4.out).mono ?_); rintro e w' ⟨rfl, ⟨nd, rfl⟩⟩; refine ⟨_, rfl, ?_⟩))
      go_ret
      exact ⟨by first | rfl | (simp; done) | (simp [*]; done), by repeat (first | exact Drawn0.refl _ | apply Drawn0.step)⟩
  · replace c5 := Bool.eq_false_iff.mpr c5
    subst c5
    have H1 : (if t389 = true then (some 1) else (if a0 < a1 then (some (-1)) else (if a0 > a1 then (some 1) else (some 0)))) = some r := by rw [if_neg (show ¬ (false = true) by decide)] at H; exact H
    clear H
    have H := H1
    clear H1
    by_cases c7 : t389 = true
    · subst c7
      have H1 : (some 1) = some r := by rw [if_pos rfl] at H; exact H
      clear H
      have H := H1
      clear H1
      obtain rfl := Option.some.inj H
      go_enter Try.func93, Try.ntmps93
      go_wp2_with (first | ((with_reducible refine gate_callee (f := 115) rfl ?_); refine goesL_ (some 8) rfl rfl Try.func115 (by kernel_rfl) rfl #[.int .i64 a0] rfl (by (try simp only [List.map_toArray, List.map_cons, List.map_nil]); first | done | rfl | (simp only [List.length_drop, List.length_take]; rfl)) ?_; (with_reducible refine (cmp_isNaN_int64_n115.calls a0 false _ A3.out).mono ?_); rintro e w' ⟨rfl, ⟨nd, rfl⟩⟩; refine ⟨_, rfl, ?_⟩) | ((with_reducible refine gate_callee (f := 115) rfl ?_); refine goesL_ (some 10) rfl rfl Try.func115 (by kernel_rfl) rfl #[.int .i64 a1] rfl (by (try simp only [List.map_toArray, List.map_cons, List.map_nil]); first | done | rfl | (simp only [List.length_drop, List.length_take]; rfl)) ?_; (with_reducible refine (cmp_isNaN_int64_n115.calls a1 true _ A4.out).mono ?_); rintro e w' ⟨rfl, ⟨nd, rfl⟩⟩; refine ⟨_, rfl, ?_⟩))
      go_ret
      exact ⟨by first | rfl | (simp; done) | (simp [*]; done), by repeat (first | exact Drawn0.refl _ | apply Drawn0.step)⟩
    · replace c7 := Bool.eq_false_iff.mpr c7
      subst c7
      have H1 : (if a0 < a1 then (some (-1)) else (if a0 > a1 then (some 1) else (some 0))) = some r := by rw [if_neg (show ¬ (false = true) by decide)] at H; exact H
      clear H
      have H := H1
      clear H1
      by_cases c8 : a0 < a1
      · rw [if_pos c8] at H
        have c8b0 : decide (a0 < a1) = true := decide_eq_true c8
        clear c8
        obtain rfl := Option.some.inj H
        go_enter Try.func93, Try.ntmps93
        go_wp2_with (first | ((with_reducible refine gate_callee (f := 115) rfl ?_); refine goesL_ (some 8) rfl rfl Try.func115 (by kernel_rfl) rfl #[.int .i64 a0] rfl (by (try simp only [List.map_toArray, List.map_cons, List.map_nil]); first | done | rfl | (simp only [List.length_drop, List.length_take]; rfl)) ?_; (with_reducible refine (cmp_isNaN_int64_n115.calls a0 false _ A3.out).mono ?_); rintro e w' ⟨rfl, ⟨nd, rfl⟩⟩; refine ⟨_, rfl, ?_⟩) | ((with_reducible refine gate_callee (f := 115) rfl ?_); refine goesL_ (some 10) rfl rfl Try.func115 (by kernel_rfl) rfl #[.int .i64 a1] rfl (by (try simp only [List.map_toArray, List.map_cons, List.map_nil]); first | done | rfl | (simp only [List.length_drop, List.length_take]; rfl)) ?_; (with_reducible refine (cmp_isNaN_int64_n115.calls a1 false _ A4.out).mono ?_); rintro e w' ⟨rfl, ⟨nd, rfl⟩⟩; refine ⟨_, rfl, ?_⟩))
        go_ret
        exact ⟨by first | rfl | (simp; done) | (simp [*]; done), by repeat (first | exact Drawn0.refl _ | apply Drawn0.step)⟩
      · rw [if_neg c8] at H
        have c8b0 : decide (a0 < a1) = false := decide_eq_false c8
        clear c8
        by_cases c9 : a0 > a1
        · rw [if_pos c9] at H
          have c9b0 : decide (a1 < a0) = true := decide_eq_true c9
          clear c9
          obtain rfl := Option.some.inj H
          go_enter Try.func93, Try.ntmps93
          go_wp2_with (first | ((with_reducible refine gate_callee (f := 115) rfl ?_); refine goesL_ (some 8) rfl rfl Try.func115 (by kernel_rfl) rfl #[.int .i64 a0] rfl (by (try simp only [List.map_toArray, List.map_cons, List.map_nil]); first | done | rfl | (simp only [List.length_drop, List.length_take]; rfl)) ?_; (with_reducible refine (cmp_isNaN_int64_n115.calls a0 false _ A3.out).mono ?_); rintro e w' ⟨rfl, ⟨nd, rfl⟩⟩; refine ⟨_, rfl, ?_⟩) | ((with_reducible refine gate_callee (f := 115) rfl ?_); refine goesL_ (some 10) rfl rfl Try.func115 (by kernel_rfl) rfl #[.int .i64 a1] rfl (by (try simp only [List.map_toArray, List.map_cons, List.map_nil]); first | done | rfl | (simp only [List.length_drop, List.length_take]; rfl)) ?_; (with_reducible refine (cmp_isNaN_int64_n115.calls a1 false _ A4.out).mono ?_); rintro e w' ⟨rfl, ⟨nd, rfl⟩⟩; refine ⟨_, rfl, ?_⟩))
          go_ret
          exact ⟨by first | rfl | (simp; done) | (simp [*]; done), by repeat (first | exact Drawn0.refl _ | apply Drawn0.step)⟩
        · rw [if_neg c9] at H
          have c9b0 : decide (a1 < a0) = false := decide_eq_false c9
          clear c9
          obtain rfl := Option.some.inj H
          go_enter Try.func93, Try.ntmps93
          go_wp2_with (first | ((with_reducible refine gate_callee (f := 115) rfl ?_); refine goesL_ (some 8) rfl rfl Try.func115 (by kernel_rfl) rfl #[.int .i64 a0] rfl (by (try simp only [List.map_toArray, List.map_cons, List.map_nil]); first | done | rfl | (simp only [List.length_drop, List.length_take]; rfl)) ?_; (with_reducible refine (cmp_isNaN_int64_n115.calls a0 false _ A3.out).mono ?_); rintro e w' ⟨rfl, ⟨nd, rfl⟩⟩; refine ⟨_, rfl, ?_⟩) | ((with_reducible refine gate_callee (f := 115) rfl ?_); refine goesL_ (some 10) rfl rfl Try.func115 (by kernel_rfl) rfl #[.int .i64 a1] rfl (by (try simp only [List.map_toArray, List.map_cons, List.map_nil]); first | done | rfl | (simp only [List.length_drop, List.length_take]; rfl)) ?_; (with_reducible refine (cmp_isNaN_int64_n115.calls a1 false _ A4.out).mono ?_); rintro e w' ⟨rfl, ⟨nd, rfl⟩⟩; refine ⟨_, rfl, ?_⟩))
          go_ret
          exact ⟨by first | rfl | (simp; done) | (simp [*]; done), by repeat (first | exact Drawn0.refl _ | apply Drawn0.step)⟩

/-! ### impl_until_1_n95: function 95 -/
def impl_until_1_n95.f (a0_0 : Int) (a0_1 : Int) (a1 : Int) : Option (Int) := (cmp_Compare_int64_n93.f a0_0 a1).bind fun t391 => (some t391)
set_option maxHeartbeats 8000000 in
set_option maxRecDepth 100000 in
theorem impl_until_1_n95.calls (a0_0 : Int) (a0_1 : Int) (a1 : Int) (r : Int) (w : World) (h : impl_until_1_n95.f a0_0 a0_1 a1 = some r) :
    Calls Try.prog 95 #[.agg #[.int .i64 a0_0, .int .i64 a0_1], .int .i64 a1] w fun e w' => e = .returned (.int .i64 r) ∧ Below w.heap.size w w' := by
  have hu63 := Try.underlying63
  have HB := A_ (Below.refl w.heap.size w)
  have H : ((cmp_Compare_int64_n93.f a0_0 a1).bind fun t391 => (some t391)) = some r := h
  clear h
  replace H := Option.bind_eq_some_iff.mp H
  obtain ⟨t391, A30, H⟩ := H
  replace H : (some t391) = some r := H
  have A3 := A_ A30
  clear A30
  obtain rfl := Option.some.inj H
  go_enter Try.func95, Try.ntmps95
  go_wp2_with (first | ((with_reducible refine gate_dst (N := 2) rfl ?_); refine box_event ?hg (N := 2) ?hd (cs := #[.int .i64 a0_0, .int .i64 a0_1]) (t := 63) ?hr ?_; (case hd => rfl); (case hg => rfl); (case hr => first | (go_simp; done) | (go_simp; rfl)); intro gb390 hg w4 hbox hb; have GW390 := A_ ((by rw [hg]; exact (below_size (y1_ HB.out)) : w.heap.size ≤ gb390)); have GE390 := A_ ((by rw [hg]; exact (below_size (y1_ HB.out)) : w.heap.size ≤ gb390)); replace HB := A_ (below_step (y1_ HB.out) hb); have BK390 := A_ (hbox); clear hb hbox hg; have hcz5_0 : w4.cell? ⟨gb390, 0, none⟩ = some (.int .i64 a0_0) := (blk_cell BK390.out 0).trans rfl; have hcz5_1 : w4.cell? ⟨gb390, 1, none⟩ = some (.int .i64 a0_1) := (blk_cell BK390.out 1).trans rfl; have hfz5_0 := blk_frozen BK390.out 0; have hfz5_1 := blk_frozen BK390.out 1) | ((with_reducible refine gate_callee (f := 93) rfl ?_); refine goesL_ (some 8) rfl rfl Try.func93 (by kernel_rfl) rfl #[.int .i64 a0_0, .int .i64 a1] rfl (by (try simp only [List.map_toArray, List.map_cons, List.map_nil]); first | done | rfl | (simp only [List.length_drop, List.length_take]; rfl)) ?_; (with_reducible refine (cmp_Compare_int64_n93.calls a0_0 a1 t391 _ A3.out).mono ?_); rintro e w' ⟨rfl, ⟨nd, rfl⟩⟩; refine ⟨_, rfl, ?_⟩))
  go_ret
  exact ⟨e1_, y1_ HB.out⟩

/-! ### impl_Lease_int64_v0: function 91 -/
abbrev impl_Lease_int64_v0.T : Bool := true
abbrev impl_Lease_int64_v0.F : Bool := false
def impl_Lease_int64_v0.l0 : Nat → List (S63) → Int → Int → Int → Int → Option (Int × Bool)
  | 0, _, _, _, _, _ => none
  | k + 1, x0, x1, x8, x9, x10 => if x9 < x10 then (if 0 ≤ (wrap64 ((IntKind.u64.wrap (wrap64 (x9 + x10))) / 2)) then (if (wrap64 ((IntKind.u64.wrap (wrap64 (x9 + x10))) / 2)) < (x0.length : Int) then ((impl_until_1_n95.f ((rd_T63 x0 (wrap64 ((IntKind.u64.wrap (wrap64 (x9 + x10))) / 2))).f0) ((rd_T63 x0 (wrap64 ((IntKind.u64.wrap (wrap64 (x9 + x10))) / 2))).f1) x1).bind fun t393 => (if t393 < 0 then (impl_Lease_int64_v0.l0 k x0 x1 x8 (wrap64 ((wrap64 ((IntKind.u64.wrap (wrap64 (x9 + x10))) / 2)) + 1)) x10) else (impl_Lease_int64_v0.l0 k x0 x1 x8 x9 (wrap64 ((IntKind.u64.wrap (wrap64 (x9 + x10))) / 2))))) else (none)) else (none)) else (if x9 < x8 then (if 0 ≤ x9 then (if x9 < (x0.length : Int) then ((impl_until_1_n95.f ((rd_T63 x0 x9).f0) ((rd_T63 x0 x9).f1) x1).bind fun t395 => (some (x9, (t395 == 0)))) else (none)) else (none)) else (some (x9, false)))
def impl_Lease_int64_v0.f (k : Nat) (l0 : List (S63)) (a1 : Int)  : Option (Int × Bool) := impl_Lease_int64_v0.l0 k l0 a1 (l0.length : Int) 0 (l0.length : Int)
theorem impl_Lease_int64_v0.mono_l : ∀ k, (∀ y0 y1 y2 y3 y4, LeO (impl_Lease_int64_v0.l0 k y0 y1 y2 y3 y4) (impl_Lease_int64_v0.l0 (k + 1) y0 y1 y2 y3 y4))
  | 0 => fun _ _ _ _ _ r h => by simp [impl_Lease_int64_v0.l0] at h
  | k + 1 => by
    have ih0 := impl_Lease_int64_v0.mono_l k
    · intro y0 y1 y2 y3 y4
      unfold impl_Lease_int64_v0.l0
      repeat' first
      | (with_reducible exact ih0 _ _ _ _ _)
      | (with_reducible exact LeO.refl _)
      | (with_reducible exact LeO.none _)
      | (with_reducible refine LeO.ite ?_ ?_)
      | (with_reducible refine LeO.bind ?_ (fun _ => ?_))
      | exact ih0 _ _ _ _ _
      | exact LeO.none _
      | refine LeO.ite ?_ ?_
      | refine LeO.bind ?_ (fun _ => ?_)
theorem impl_Lease_int64_v0.mono : ∀ a0 a1 k, LeO (impl_Lease_int64_v0.f k a0 a1) (impl_Lease_int64_v0.f (k + 1) a0 a1) := by
  intro a0 a1 k
  have ih0 := impl_Lease_int64_v0.mono_l k
  unfold impl_Lease_int64_v0.f
  repeat' first
      | (with_reducible exact ih0 _ _ _ _ _)
      | (with_reducible exact LeO.refl _)
      | (with_reducible exact LeO.none _)
      | (with_reducible refine LeO.ite ?_ ?_)
      | (with_reducible refine LeO.bind ?_ (fun _ => ?_))
      | exact ih0 _ _ _ _ _
      | exact LeO.none _
      | refine LeO.ite ?_ ?_
      | refine LeO.bind ?_ (fun _ => ?_)
set_option maxHeartbeats 8000000 in
set_option maxRecDepth 100000 in
theorem impl_Lease_int64_v0.calls (k : Nat) (A0 : Option Addr) (c0 : Nat) (l0 : List (S63)) (a1 : Int)  (r1 : Int) (r2 : Bool) (w : World) (hr0 : Kd.C k63 w A0 l0.length l0) (hc0 : l0.length ≤ c0) (h : impl_Lease_int64_v0.f k l0 a1 = some (r1, r2)) :
    Calls Try.prog 91 #[.slice A0 l0.length c0, .int .i64 a1, .func (.func 95) #[] #[]] w fun e w' => e = .returned (.tuple #[.int .i64 r1, .bool r2]) ∧ Below w.heap.size w w' := by
 have hu63 := Try.underlying63
 have HR0 := A_ hr0
 have HC0 := A_ hc0
 clear hr0 hc0
 have HB := A_ (Below.refl w.heap.size w)
 have H : (impl_Lease_int64_v0.l0 k l0 a1 (l0.length : Int) 0 (l0.length : Int)) = some (r1, r2) := h
 clear h
 have H' := A_ H
 clear H
 go_enter Try.func91, Try.ntmps91
 go_wp2
 go_loopg [9, 10] k (fun kq v9 v10 w' => ∃ (x9_1 : Int) (x10_1 : Int), v9 = .int .i64 x9_1 ∧ v10 = .int .i64 x10_1 ∧ Aside0 (impl_Lease_int64_v0.l0 kq l0 a1 (l0.length : Int) x9_1 x10_1 = some (r1, r2)) ∧ Aside0 (kq ≤ k) ∧ Aside0 (Below w.heap.size w w'))
 case atStart => exact ⟨(0), ((l0.length : Int)), s1_, s1_, H', ⟨Nat.le_refl _⟩, ⟨y1_ HB.out⟩⟩
 case round =>
  skip
  {
 clear H'
 try clear p2
 obtain ⟨x9_1, x10_1, rfl, rfl, HA, HK1, HB⟩ := hrel
 cases gk with
 | zero => exact absurd HA.out (by simp [impl_Lease_int64_v0.l0])
 | succ k1 =>
  skip
  {
 have H := HA.out
 clear HA
 simp only [impl_Lease_int64_v0.l0] at H
 by_cases c4 : x9_1 < x10_1
 {
 rw [if_pos c4] at H
 have c4b0 : decide (x9_1 < x10_1) = true := decide_eq_true c4
 clear c4
 obtain ⟨ji5, hji5⟩ : ∃ j_ : Int, (wrap64 ((IntKind.u64.wrap (wrap64 (x9_1 + x10_1))) / 2)) = j_ := ⟨_, rfl⟩
 replace H : (if 0 ≤ (ji5) then (if (ji5) < (l0.length : Int) then ((impl_until_1_n95.f ((rd_T63 l0 (ji5)).f0) ((rd_T63 l0 (ji5)).f1) a1).bind fun t393 => (if t393 < 0 then (impl_Lease_int64_v0.l0 k1 l0 a1 (l0.length : Int) (wrap64 ((ji5) + 1)) x10_1) else (impl_Lease_int64_v0.l0 k1 l0 a1 (l0.length : Int) x9_1 ji5))) else (none)) else (none)) = some (r1, r2) := by first | (rw [hji5] at H; exact H) | (simp only [hji5] at H ⊢; exact H)
 have hji5w : (IntKind.i64.wrap ((IntKind.u64.wrap (wrap64 (x9_1 + x10_1))) / 2)) = ji5 := (i64_w _).trans hji5
 by_cases c6 : 0 ≤ (ji5)
 {
 rw [if_pos c6] at H
 have c6b0 : decide (0 ≤ (ji5)) = true := decide_eq_true c6
 clear c6
 by_cases c7 : (ji5) < (l0.length : Int)
 {
 rw [if_pos c7] at H
 have c7b0 : decide ((ji5) < (l0.length : Int)) = true := decide_eq_true c7
 clear c7
 replace H := Option.bind_eq_some_iff.mp H
 obtain ⟨t393, A80, H⟩ := H
 replace H : (if t393 < 0 then (impl_Lease_int64_v0.l0 k1 l0 a1 (l0.length : Int) (wrap64 ((ji5) + 1)) x10_1) else (impl_Lease_int64_v0.l0 k1 l0 a1 (l0.length : Int) x9_1 ji5)) = some (r1, r2) := H
 have A8 := A_ A80
 clear A80
 by_cases c9 : t393 < 0
 {
 rw [if_pos c9] at H
 have c9b0 : decide (t393 < 0) = true := decide_eq_true c9
 clear c9
 have H' := A_ H
 clear H
 have p392 : 0 ≤ ((ji5) : Int) := o1_
 have q392 : (ji5) < (l0.length : Int) := o1_
 obtain ⟨ad392, e392, hx392_0, hx392_1⟩ := at_T63 HR0.out (ji5) p392 q392
 cases e392
 replace hx392_0 := (HB.out.cell (World.block_lt_of_cell? w _ hx392_0)).trans hx392_0
 replace hx392_1 := (HB.out.cell (World.block_lt_of_cell? w _ hx392_1)).trans hx392_1
 replace p392 := eq_true p392
 replace q392 := eq_true q392
 go_wp2_with (first | (go_at_call 95; (with_reducible refine (impl_until_1_n95.calls ((rd_T63 l0 (ji5)).f0) ((rd_T63 l0 (ji5)).f1) a1 t393 _ A8.out).mono ?_); rintro e w10 ⟨rfl, hb⟩; replace HB := A_ (below_step (y1_ HB.out) hb); (try clear hb); (try clear hb2); (try clear hk); (try clear hi)))
 go_roundg k1
 case measure => have := HK1.out; omega
 case rel => exact ⟨(wrap64 ((ji5) + 1)), (x10_1), (by first | rfl | (simp; done) | (simp only [← hji5] <;> (first | rfl | simp)) | (simp [*]; done)), s1_, H', ⟨by have := HK1.out; omega⟩, ⟨y1_ HB.out⟩⟩}
 {
 rw [if_neg c9] at H
 have c9b0 : decide (t393 < 0) = false := decide_eq_false c9
 clear c9
 have H' := A_ H
 clear H
 have p392 : 0 ≤ ((ji5) : Int) := o1_
 have q392 : (ji5) < (l0.length : Int) := o1_
 obtain ⟨ad392, e392, hx392_0, hx392_1⟩ := at_T63 HR0.out (ji5) p392 q392
 cases e392
 replace hx392_0 := (HB.out.cell (World.block_lt_of_cell? w _ hx392_0)).trans hx392_0
 replace hx392_1 := (HB.out.cell (World.block_lt_of_cell? w _ hx392_1)).trans hx392_1
 replace p392 := eq_true p392
 replace q392 := eq_true q392
 go_wp2_with (first | (go_at_call 95; (with_reducible refine (impl_until_1_n95.calls ((rd_T63 l0 (ji5)).f0) ((rd_T63 l0 (ji5)).f1) a1 t393 _ A8.out).mono ?_); rintro e w11 ⟨rfl, hb⟩; replace HB := A_ (below_step (y1_ HB.out) hb); (try clear hb); (try clear hb2); (try clear hk); (try clear hi)))
 go_roundg k1
 case measure => have := HK1.out; omega
 case rel => exact ⟨(x9_1), (ji5), s1_, (by first | rfl | (simp; done) | (simp only [← hji5] <;> (first | rfl | simp)) | (simp [*]; done)), H', ⟨by have := HK1.out; omega⟩, ⟨y1_ HB.out⟩⟩}}
 {
 rw [if_neg c7] at H
 exact absurd H (by simp)}}
 {
 rw [if_neg c6] at H
 exact absurd H (by simp)}}
 {
 rw [if_neg c4] at H
 have c4b0 : decide (x9_1 < x10_1) = false := decide_eq_false c4
 clear c4
 by_cases c12 : x9_1 < (l0.length : Int)
 {
 rw [if_pos c12] at H
 have c12b0 : decide (x9_1 < (l0.length : Int)) = true := decide_eq_true c12
 clear c12
 by_cases c13 : 0 ≤ x9_1
 {
 rw [if_pos c13] at H
 have c13b0 : decide (0 ≤ x9_1) = true := decide_eq_true c13
 clear c13
 by_cases c14 : x9_1 < (l0.length : Int)
 {
 rw [if_pos c14] at H
 have c14b0 : decide (x9_1 < (l0.length : Int)) = true := decide_eq_true c14
 clear c14
 replace H := Option.bind_eq_some_iff.mp H
 obtain ⟨t395, A150, H⟩ := H
 replace H : (some (x9_1, (t395 == 0))) = some (r1, r2) := H
 have A15 := A_ A150
 clear A150
 simp only [Option.some.injEq, Prod.mk.injEq] at H
 obtain ⟨rfl, rfl⟩ := H
 have p394 : 0 ≤ (x9_1 : Int) := o1_
 have q394 : x9_1 < (l0.length : Int) := o1_
 obtain ⟨ad394, e394, hx394_0, hx394_1⟩ := at_T63 HR0.out x9_1 p394 q394
 cases e394
 replace hx394_0 := (HB.out.cell (World.block_lt_of_cell? w _ hx394_0)).trans hx394_0
 replace hx394_1 := (HB.out.cell (World.block_lt_of_cell? w _ hx394_1)).trans hx394_1
 replace p394 := eq_true p394
 replace q394 := eq_true q394
 go_wp2_with (first | (go_at_call 95; (with_reducible refine (impl_until_1_n95.calls ((rd_T63 l0 x9_1).f0) ((rd_T63 l0 x9_1).f1) a1 t395 _ A15.out).mono ?_); rintro e w16 ⟨rfl, hb⟩; replace HB := A_ (below_step (y1_ HB.out) hb); (try clear hb); (try clear hb2); (try clear hk); (try clear hi)))
 go_ret2
 exact ⟨e1_, y1_ HB.out⟩}
 {
 rw [if_neg c14] at H
 exact absurd H (by simp)}}
 {
 rw [if_neg c13] at H
 exact absurd H (by simp)}}
 {
 rw [if_neg c12] at H
 have c12b0 : decide (x9_1 < (l0.length : Int)) = false := decide_eq_false c12
 clear c12
 simp only [Option.some.injEq, Prod.mk.injEq] at H
 obtain ⟨rfl, rfl⟩ := H
 go_wp2
 go_ret2
 exact ⟨e1_, y1_ HB.out⟩}}}}

/-! ### impl_until: function 49 -/
def impl_until.f (k : Nat) (l0 : List (S63)) (a1 : Int) : Option (Int) := (impl_Lease_int64_v0.f k l0 a1).bind fun bt396 => (if bt396.2 = true then (if 0 ≤ bt396.1 then (if bt396.1 < (l0.length : Int) then (some ((rd_T63 l0 bt396.1).f1)) else (none)) else (none)) else (some (-1)))
theorem impl_until.mono : ∀ a0 a1 k, LeO (impl_until.f k a0 a1) (impl_until.f (k + 1) a0 a1) := by
  intro a0 a1 k
  unfold impl_until.f
  repeat' first
      | (with_reducible exact impl_Lease_int64_v0.mono _ _ _)
      | (with_reducible exact LeO.refl _)
      | (with_reducible exact LeO.none _)
      | (with_reducible refine LeO.ite ?_ ?_)
      | (with_reducible refine LeO.bind ?_ (fun _ => ?_))
      | exact impl_Lease_int64_v0.mono _ _ _
      | exact LeO.none _
      | refine LeO.ite ?_ ?_
      | refine LeO.bind ?_ (fun _ => ?_)
set_option maxHeartbeats 8000000 in
set_option maxRecDepth 100000 in
theorem impl_until.calls (k : Nat) (A0 : Option Addr) (c0 : Nat) (l0 : List (S63)) (a1 : Int) (r : Int) (w : World) (hr0 : Kd.C k63 w A0 l0.length l0) (hc0 : l0.length ≤ c0) (h : impl_until.f k l0 a1 = some r) :
    Calls Try.prog 49 #[.slice A0 l0.length c0, .int .i64 a1] w fun e w' => e = .returned (.int .i64 r) ∧ Below w.heap.size w w' := by
  have HR0 := A_ hr0
  have HC0 := A_ hc0
  clear hr0 hc0
  have HB := A_ (Below.refl w.heap.size w)
  have H : ((impl_Lease_int64_v0.f k l0 a1).bind fun bt396 => (if bt396.2 = true then (if 0 ≤ bt396.1 then (if bt396.1 < (l0.length : Int) then (some ((rd_T63 l0 bt396.1).f1)) else (none)) else (none)) else (some (-1)))) = some r := h
  clear h
  replace H := Option.bind_eq_some_iff.mp H
  obtain ⟨⟨t396, t397⟩, A30, H⟩ := H
  replace H : (if t397 = true then (if 0 ≤ t396 then (if t396 < (l0.length : Int) then (some ((rd_T63 l0 t396).f1)) else (none)) else (none)) else (some (-1))) = some r := H
  have A3 := A_ A30
  clear A30
  by_cases c4 : t397 = true
  · subst c4
    have H1 : (if 0 ≤ t396 then (if t396 < (l0.length : Int) then (some ((rd_T63 l0 t396).f1)) else (none)) else (none)) = some r := by rw [if_pos rfl] at H; exact H
    clear H
    have H := H1
    clear H1
    by_cases c5 : 0 ≤ t396
    · rw [if_pos c5] at H
      have c5b0 : decide (0 ≤ t396) = true := decide_eq_true c5
      clear c5
      by_cases c6 : t396 < (l0.length : Int)
      · rw [if_pos c6] at H
        have c6b0 : decide (t396 < (l0.length : Int)) = true := decide_eq_true c6
        clear c6
        obtain rfl := Option.some.inj H
        go_enter Try.func49, Try.ntmps49
        go_wp2_with (first | ((with_reducible refine gate_callee (f := 91) rfl ?_); refine goesL_ (some 10) rfl rfl Try.func91 (by kernel_rfl) rfl #[.slice A0 l0.length c0, .int .i64 a1, .func (.func 95) #[] #[]] rfl (by (try simp only [List.map_toArray, List.map_cons, List.map_nil]); first | done | rfl | (simp only [List.length_drop, List.length_take]; rfl)) ?_; (with_reducible refine (impl_Lease_int64_v0.calls k _ _ l0 a1  t396 true _ ?side1 ?side2 A3.out).mono ?_); (case side1 => repeat (first | exact HR0.out | (with_reducible refine Kd.C_alloc ?_ _) | (with_reducible refine Kd.C_drewN ?_ _) | (with_reducible refine Kd.C_drew ?_))); (case side2 => exact HC0.out); rintro e w7 ⟨rfl, hb⟩; refine ⟨_, rfl, ?_⟩; replace HB := A_ (below_step (y1_ HB.out) hb); (try clear hb); (try clear hb2); (try clear hk); (try clear hi); have p398 : 0 ≤ (t396 : Int) := o1_; have q398 : t396 < (l0.length : Int) := o1_; obtain ⟨ad398, e398, hx398_0, hx398_1⟩ := at_T63 HR0.out t396 p398 q398; cases e398; replace hx398_0 := (HB.out.cell (World.block_lt_of_cell? w _ hx398_0)).trans hx398_0; replace hx398_1 := (HB.out.cell (World.block_lt_of_cell? w _ hx398_1)).trans hx398_1; replace p398 := eq_true p398; replace q398 := eq_true q398))
        go_ret
        exact ⟨e1_, y1_ HB.out⟩
      · rw [if_neg c6] at H
        exact absurd H (by simp)
    · rw [if_neg c5] at H
      exact absurd H (by simp)
  · replace c4 := Bool.eq_false_iff.mpr c4
    subst c4
    have H1 : (some (-1)) = some r := by rw [if_neg (show ¬ (false = true) by decide)] at H; exact H
    clear H
    have H := H1
    clear H1
    obtain rfl := Option.some.inj H
    go_enter Try.func49, Try.ntmps49
    go_wp2_with (first | ((with_reducible refine gate_callee (f := 91) rfl ?_); refine goesL_ (some 10) rfl rfl Try.func91 (by kernel_rfl) rfl #[.slice A0 l0.length c0, .int .i64 a1, .func (.func 95) #[] #[]] rfl (by (try simp only [List.map_toArray, List.map_cons, List.map_nil]); first | done | rfl | (simp only [List.length_drop, List.length_take]; rfl)) ?_; (with_reducible refine (impl_Lease_int64_v0.calls k _ _ l0 a1  t396 false _ ?side1 ?side2 A3.out).mono ?_); (case side1 => repeat (first | exact HR0.out | (with_reducible refine Kd.C_alloc ?_ _) | (with_reducible refine Kd.C_drewN ?_ _) | (with_reducible refine Kd.C_drew ?_))); (case side2 => exact HC0.out); rintro e w8 ⟨rfl, hb⟩; refine ⟨_, rfl, ?_⟩; replace HB := A_ (below_step (y1_ HB.out) hb); (try clear hb); (try clear hb2); (try clear hk); (try clear hi)))
    go_ret
    exact ⟨e1_, y1_ HB.out⟩

/-! ### impl_Presence_typists: function 50 -/
abbrev impl_Presence_typists.T : Bool := true
abbrev impl_Presence_typists.F : Bool := false
def impl_Presence_typists.l0 : Nat → List (S63) → List (S63) → Int → Int → List (S63) → List (S63) → List (S73) → Option ((List (S63)))
  | 0, _, _, _, _, _, _, _ => none
  | k + 1, x3, x10, x11, x12, x1000, x1001, x1002 => if x12 < x11 then (if 0 ≤ x12 then (if x12 < (x10.length : Int) then ((impl_until.f k x1000 ((rd_T63 x10 x12).f0)).bind fun t404 => (if x3.length < 8796093022208 then (impl_Presence_typists.l0 k (x3 ++ [(⟨(rd_T63 x10 x12).f0, mn ((rd_T63 x10 x12).f1) t404⟩ : S63)]) x10 x11 (wrap64 (x12 + 1)) x1000 x1001 x1002) else (none))) else (none)) else (none)) else (some x3)
def impl_Presence_typists.f (k : Nat) (l0_0 : List (S63)) (l0_1 : List (S63)) (l0_2 : List (S73)) : Option ((List (S63))) := impl_Presence_typists.l0 k (([] : List (S63))) l0_1 (l0_1.length : Int) 0 l0_0 l0_1 l0_2
theorem impl_Presence_typists.mono_l : ∀ k, (∀ y0 y1 y2 y3 y4 y5 y6, LeO (impl_Presence_typists.l0 k y0 y1 y2 y3 y4 y5 y6) (impl_Presence_typists.l0 (k + 1) y0 y1 y2 y3 y4 y5 y6))
  | 0 => fun _ _ _ _ _ _ _ r h => by simp [impl_Presence_typists.l0] at h
  | k + 1 => by
    have ih0 := impl_Presence_typists.mono_l k
    · intro y0 y1 y2 y3 y4 y5 y6
      unfold impl_Presence_typists.l0
      repeat' first
      | (with_reducible exact ih0 _ _ _ _ _ _ _)
      | (with_reducible exact impl_until.mono _ _ _)
      | (with_reducible exact LeO.refl _)
      | (with_reducible exact LeO.none _)
      | (with_reducible refine LeO.ite ?_ ?_)
      | (with_reducible refine LeO.bind ?_ (fun _ => ?_))
      | exact ih0 _ _ _ _ _ _ _
      | exact impl_until.mono _ _ _
      | exact LeO.none _
      | refine LeO.ite ?_ ?_
      | refine LeO.bind ?_ (fun _ => ?_)
theorem impl_Presence_typists.mono : ∀ a0 a1 a2 k, LeO (impl_Presence_typists.f k a0 a1 a2) (impl_Presence_typists.f (k + 1) a0 a1 a2) := by
  intro a0 a1 a2 k
  have ih0 := impl_Presence_typists.mono_l k
  unfold impl_Presence_typists.f
  repeat' first
      | (with_reducible exact ih0 _ _ _ _ _ _ _)
      | (with_reducible exact impl_until.mono _ _ _)
      | (with_reducible exact LeO.refl _)
      | (with_reducible exact LeO.none _)
      | (with_reducible refine LeO.ite ?_ ?_)
      | (with_reducible refine LeO.bind ?_ (fun _ => ?_))
      | exact ih0 _ _ _ _ _ _ _
      | exact impl_until.mono _ _ _
      | exact LeO.none _
      | refine LeO.ite ?_ ?_
      | refine LeO.bind ?_ (fun _ => ?_)
def impl_Presence_typists.T5 : Bool × List (List Nat × List Nat) := (true, [([], []), ([], []), ([1], [1]), ([], []), ([3], [3]), ([], []), ([5], [5]), ([6], [6]), ([7], [7]), ([], []), ([9], [9]), ([8, 10], [8, 10]), ([4, 11], [4, 11]), ([2, 12], [2, 12]), ([13], [13]), ([0, 14, 11], [0, 14]), ([15, 15, 0, 1, 2, 3, 4, 5, 6, 7, 8, 9, 10, 11, 12, 13, 14, 15], [0, 15])])
def impl_Presence_typists.B5 : List Nat := [0, 0, 2, 0, 8, 0, 32, 96, 224, 0, 512, 2016, 4088, 8190, 16382, 32767, 65535]
theorem impl_Presence_typists.tab5 : rtab .any (opsOf Try.f50 5) = impl_Presence_typists.T5 := by kernel_rfl
theorem impl_Presence_typists.bits5 : waitsOk impl_Presence_typists.T5.2 impl_Presence_typists.B5 = true := by kernel_rfl
set_option maxHeartbeats 8000000 in
set_option maxRecDepth 100000 in
theorem impl_Presence_typists.calls (k : Nat) (g0_ : Nat) (A0_0 : Option Addr) (c0_0 : Nat) (l0_0 : List (S63)) (A0_1 : Option Addr) (c0_1 : Nat) (l0_1 : List (S63)) (A0_2 : Option Addr) (c0_2 : Nat) (l0_2 : List (S73)) (r : List (S63)) (w : World) (hbk0 : w.heap[g0_]? = some (.cells #[.slice A0_0 l0_0.length c0_0, .slice A0_1 l0_1.length c0_1, .slice A0_2 l0_2.length c0_2] 27 (0, 0))) (hr0_0 : Kd.C k63 w A0_0 l0_0.length l0_0) (hc0_0 : l0_0.length ≤ c0_0) (hr0_1 : Kd.C k63 w A0_1 l0_1.length l0_1) (hc0_1 : l0_1.length ≤ c0_1) (hr0_2 : Kd.C k73 w A0_2 l0_2.length l0_2) (hc0_2 : l0_2.length ≤ c0_2) (h : impl_Presence_typists.f k l0_0 l0_1 l0_2 = some r) :
    Calls Try.prog 50 #[.pointer (some ⟨g0_, 0, none⟩)] w fun e w' => ∃ v0_ : Value, e = .returned (v0_) ∧ Kd.R k63 63 w' w.heap.size (fun _ => True) v0_ r ∧ Below w.heap.size w w' := by
 have hu63 := Try.underlying63
 have HR0_0 := A_ hr0_0
 have HC0_0 := A_ hc0_0
 clear hr0_0 hc0_0
 have HR0_1 := A_ hr0_1
 have HC0_1 := A_ hc0_1
 clear hr0_1 hc0_1
 have HR0_2 := A_ hr0_2
 have HC0_2 := A_ hc0_2
 clear hr0_2 hc0_2
 have BK0 := A_ hbk0
 clear hbk0
 have HB := A_ (Below.refl w.heap.size w)
 have H : (impl_Presence_typists.l0 k (([] : List (S63))) l0_1 (l0_1.length : Int) 0 l0_0 l0_1 l0_2) = some r := h
 clear h
 obtain ⟨y399, hy399⟩ : ∃ y_ : List (S63), y_ = (([] : List (S63))) := ⟨_, rfl⟩
 replace H : (impl_Presence_typists.l0 k y399 l0_1 (l0_1.length : Int) 0 l0_0 l0_1 l0_2) = some r := by first | (rw [hy399]; with_reducible exact H) | (have H2_ := (Option.bind_some _ _).symm.trans H; rw [hy399]; with_reducible exact H2_) | (have H2_ := (Option.bind_some _ _).symm.trans H; with_reducible exact H2_) | with_reducible exact H | (rw [hy399]; exact H) | exact H
 have Ny399 := A_ hy399
 clear hy399
 have H' := A_ H
 clear H
 go_enter Try.func50, Try.ntmps50
 go_wp2_with (first | ((with_reducible refine gate_dst (N := 6) rfl ?_); refine Kd.R_lit k63 _ 63 ?hg (N := 6) ?hd (xs := ([] : List (S63))) (inner := []) (ok := fun _ => True) (okp := fun _ => True) ?hr ?hp (fun _ hk => hk) trivial (Below.refl _ _) (Nat.le_refl _) (by simp) ?_; (case hd => rfl); (case hg => rfl); (case hr => first | (go_simp; done) | (go_simp; rfl)); (case hp => exact (Reps.none _ _)); intro v400 w2 ho3 hb hg_ hnew_; clear hg_ hnew_; (first | rw [← Ny399.out] at ho3 | (simp only [Int.reduceToNat] at ho3; rw [← Ny399.out] at ho3)); have HO401 := A_ (Kd.R_lower ho3 (below_size (y1_ HB.out))); replace BK0 := b3_ BK0 hb; replace HB := A_ (below_step (y1_ HB.out) hb); clear hb ho3; have hcz4_0 := c1_ BK0 0 (.slice A0_0 l0_0.length c0_0); have hcz4_1 := c1_ BK0 1 (.slice A0_1 l0_1.length c0_1); have hcz4_2 := c1_ BK0 2 (.slice A0_2 l0_2.length c0_2); have hfz4_0 := f1_ BK0 0; have hfz4_1 := f1_ BK0 1; have hfz4_2 := f1_ BK0 2))
 go_loopg [3, 12] k (fun kq v3 v12 w' => ∃ (x3_1 : List (S63)) (x12_1 : Int), v12 = .int .i64 x12_1 ∧ Aside0 (impl_Presence_typists.l0 kq x3_1 l0_1 (l0_1.length : Int) x12_1 l0_0 l0_1 l0_2 = some r) ∧ Aside0 (kq ≤ k) ∧ Aside0 (Kd.R k63 63 w' w.heap.size (fun _ => True) v3 x3_1) ∧ Aside0 (w'.heap[g0_]? = some (.cells #[(.slice A0_0 l0_0.length c0_0), (.slice A0_1 l0_1.length c0_1), (.slice A0_2 l0_2.length c0_2)] 27 (0, 0))) ∧ Aside0 (Below w.heap.size w w'))
 case atStart => exact ⟨(y399), (0), (by first | rfl | (simp; done) | (simp [*]; done)), H', ⟨Nat.le_refl _⟩, ⟨b2_ HO401.out⟩, ⟨b1_ BK0.out⟩, ⟨y1_ HB.out⟩⟩
 case round =>
  skip
  {
 clear H'
 try clear p2
 try clear hcz4_0
 try clear hcz4_1
 try clear hcz4_2
 try clear hfz4_0
 try clear hfz4_1
 try clear hfz4_2
 obtain ⟨x3_1, x12_1, rfl, HA, HK1, HO_3, BK0, HB⟩ := hrel
 cases gk with
 | zero => exact absurd HA.out (by simp [impl_Presence_typists.l0])
 | succ k1 =>
  skip
  {
 have H := HA.out
 clear HA
 simp only [impl_Presence_typists.l0] at H
 by_cases c5 : x12_1 < (l0_1.length : Int)
 {
 rw [if_pos c5] at H
 have c5b0 : decide (x12_1 < (l0_1.length : Int)) = true := decide_eq_true c5
 clear c5
 by_cases c6 : 0 ≤ x12_1
 {
 rw [if_pos c6] at H
 have c6b0 : decide (0 ≤ x12_1) = true := decide_eq_true c6
 clear c6
 by_cases c7 : x12_1 < (l0_1.length : Int)
 {
 rw [if_pos c7] at H
 have c7b0 : decide (x12_1 < (l0_1.length : Int)) = true := decide_eq_true c7
 clear c7
 replace H := Option.bind_eq_some_iff.mp H
 obtain ⟨t404, A80, H⟩ := H
 replace H : (if x3_1.length < 8796093022208 then (impl_Presence_typists.l0 k1 (x3_1 ++ [(⟨(rd_T63 l0_1 x12_1).f0, mn ((rd_T63 l0_1 x12_1).f1) t404⟩ : S63)]) l0_1 (l0_1.length : Int) (wrap64 (x12_1 + 1)) l0_0 l0_1 l0_2) else (none)) = some r := H
 have A8 := A_ A80
 clear A80
 obtain ⟨ji9, hji9⟩ : ∃ j_ : Int, (mn ((rd_T63 l0_1 x12_1).f1) t404) = j_ := ⟨_, rfl⟩
 replace H : (if x3_1.length < 8796093022208 then (impl_Presence_typists.l0 k1 (x3_1 ++ [(⟨(rd_T63 l0_1 x12_1).f0, ji9⟩ : S63)]) l0_1 (l0_1.length : Int) (wrap64 (x12_1 + 1)) l0_0 l0_1 l0_2) else (none)) = some r := by first | (rw [hji9] at H; exact H) | (simp only [hji9] at H ⊢; exact H)
 (try rw [hji9] at A8)
 have hji9_ : (if t404 < ((rd_T63 l0_1 x12_1).f1) then t404 else ((rd_T63 l0_1 x12_1).f1)) = ji9 := hji9
 by_cases c10 : x3_1.length < 8796093022208
 {
 rw [if_pos c10] at H
 have LMc10 := A_ c10
 clear c10
 obtain ⟨y405, hy405⟩ : ∃ y_ : List (S63), y_ = (x3_1 ++ [(⟨(rd_T63 l0_1 x12_1).f0, ji9⟩ : S63)]) := ⟨_, rfl⟩
 replace H : (impl_Presence_typists.l0 k1 y405 l0_1 (l0_1.length : Int) (wrap64 (x12_1 + 1)) l0_0 l0_1 l0_2) = some r := by first | (rw [hy405]; with_reducible exact H) | (have H2_ := (Option.bind_some _ _).symm.trans H; rw [hy405]; with_reducible exact H2_) | (have H2_ := (Option.bind_some _ _).symm.trans H; with_reducible exact H2_) | with_reducible exact H | (rw [hy405]; exact H) | exact H
 have Ny405 := A_ hy405
 clear hy405
 have H' := A_ H
 clear H
 have p402 : 0 ≤ (x12_1 : Int) := o1_
 have q402 : x12_1 < (l0_1.length : Int) := o1_
 obtain ⟨ad402, e402, hx402_0, hx402_1⟩ := at_T63 HR0_1.out x12_1 p402 q402
 cases e402
 replace hx402_0 := (HB.out.cell (World.block_lt_of_cell? w _ hx402_0)).trans hx402_0
 replace hx402_1 := (HB.out.cell (World.block_lt_of_cell? w _ hx402_1)).trans hx402_1
 replace p402 := eq_true p402
 replace q402 := eq_true q402
 try go_wp2_with (first | ((with_reducible refine gate_dst (N := 5) rfl ?_); refine box_event ?hg (N := 5) ?hd (cs := #[.int .i64 0, .int .i64 0]) (t := 63) ?hr ?_; (case hd => rfl); (case hg => rfl); (case hr => first | (go_simp; done) | (go_simp; rfl)); intro gb403 hg w11 hbox hb; have GW403 := b6_ hg HB; have GE403 := b6_ hg HB; have NB0_403 := b4_ hg BK0; have NB403_0 := b5_ hg BK0; replace HO_3 := A_ (Kd.R_below (Kd.R_elderB (b2_ HO_3.out) gb403 (Nat.le_of_eq hg.symm)) hb); replace BK0 := b3_ BK0 hb; replace HB := A_ (below_step (y1_ HB.out) hb); have BK403 := A_ (hbox); clear hb hbox hg; have hnb12 := NB403_0.out; have hnc12 := NB0_403.out; have hcz13_0 := c1_ BK403 0 (.int .i64 0); have hcz13_1 := c1_ BK403 1 (.int .i64 0); have hfz13_0 := f1_ BK403 0; have hfz13_1 := f1_ BK403 1))
 have n0_ : Aside0 (Kd.R k63 63 ((w11.setCell ⟨gb403, 0, none⟩ (.int .i64 ((rd_T63 l0_1 x12_1).f0))).setCell ⟨gb403, 1, none⟩ (.int .i64 ((rd_T63 l0_1 x12_1).f1))) w.heap.size (fun k_ => k_ ≠ gb403) u3 x3_1) := ⟨by refine b2_ ?_; exact Kd.R_mono (Kd.R_far (p := ⟨gb403, 1, none⟩) (Kd.R_far (p := ⟨gb403, 0, none⟩) (Kd.R_mono HO_3.out (fun k_ hk => (⟨hk, hk.2⟩ : _ ∧ k_ ≠ gb403))) (fun _ hk => hk.2) (.int .i64 ((rd_T63 l0_1 x12_1).f0))) (fun _ hk => hk.2) (.int .i64 ((rd_T63 l0_1 x12_1).f1))) (fun _ hk => hk.1.2)⟩
 have n1_ : Aside0 (((w11.setCell ⟨gb403, 0, none⟩ (.int .i64 ((rd_T63 l0_1 x12_1).f0))).setCell ⟨gb403, 1, none⟩ (.int .i64 ((rd_T63 l0_1 x12_1).f1))).heap[g0_]? = some (.cells #[.slice A0_0 l0_0.length c0_0, .slice (some ad402) l0_1.length c0_1, .slice A0_2 l0_2.length c0_2] 27 (0, 0))) := ⟨by refine b1_ ?_; refine blk_far ?_ NB0_403.out _; refine b1_ ?_; refine blk_far ?_ NB0_403.out _; refine b1_ ?_; exact BK0.out⟩
 have n2_ : Aside0 (((w11.setCell ⟨gb403, 0, none⟩ (.int .i64 ((rd_T63 l0_1 x12_1).f0))).setCell ⟨gb403, 1, none⟩ (.int .i64 ((rd_T63 l0_1 x12_1).f1))).heap[gb403]? = some (.cells #[.int .i64 ((rd_T63 l0_1 x12_1).f0), .int .i64 ((rd_T63 l0_1 x12_1).f1)] 63 (0, 0))) := ⟨by refine b1_ ?_; refine blk_put (cs := #[.int .i64 ((rd_T63 l0_1 x12_1).f0), .int .i64 0]) ?_ 1 _ rfl; refine b1_ ?_; refine blk_put (cs := #[.int .i64 0, .int .i64 0]) ?_ 0 _ rfl; refine b1_ ?_; exact BK403.out⟩
 have n3_ : Aside0 (Below w.heap.size w ((w11.setCell ⟨gb403, 0, none⟩ (.int .i64 ((rd_T63 l0_1 x12_1).f0))).setCell ⟨gb403, 1, none⟩ (.int .i64 ((rd_T63 l0_1 x12_1).f1)))) := ⟨by repeat (first | (with_reducible first | exact HB.out | apply below_alloc | apply pw_below_drewN | apply below_drew1 | refine below_set ?_ GE403.out) | exact HB.out)⟩
 (try clear HO_3)
 (try clear BK0)
 (try clear BK403)
 (try clear HB)
 generalize ((w11.setCell ⟨gb403, 0, none⟩ (.int .i64 ((rd_T63 l0_1 x12_1).f0))).setCell ⟨gb403, 1, none⟩ (.int .i64 ((rd_T63 l0_1 x12_1).f1))) = w14 at n0_ n1_ n2_ n3_ ⊢
 have HO_3 := n0_
 have BK0 := n1_
 have BK403 := n2_
 have HB := n3_
 clear n0_ n1_ n2_ n3_
 replace HO_3 := A_ (Kd.R_drew HO_3.out)
 replace BK0 := A_ (blk_drew BK0.out)
 replace BK403 := A_ (blk_drew BK403.out)
 replace HB := A_ (below_drew1 HB.out)
 refine start_ (n := 17) (S := fun w' => w'.cell? ⟨gb403, 0, none⟩ = some (.int .i64 ((rd_T63 l0_1 x12_1).f0)) ∧ w'.cell? ⟨gb403, 1, none⟩ = some (.int .i64 ((rd_T63 l0_1 x12_1).f1)) ∧ w'.cell? ⟨g0_, 0, none⟩ = some (.slice A0_0 l0_0.length c0_0) ∧ w'.cell? ⟨g0_, 1, none⟩ = some (.slice (some ad402) l0_1.length c0_1) ∧ w'.cell? ⟨g0_, 2, none⟩ = some (.slice A0_2 l0_2.length c0_2)) (ds := []) #[F,F,F,F,F,F,F,F,F,F,F,F,F,F,F,F,F] s2_ rfl rfl ⟨(blk_cell BK403.out 0).trans rfl, (blk_cell BK403.out 1).trans rfl, (blk_cell BK0.out 0).trans rfl, (blk_cell BK0.out 1).trans rfl, (blk_cell BK0.out 2).trans rfl⟩ (fun hHeld => ?_); refine with_tabW impl_Presence_typists.tab5 impl_Presence_typists.bits5 (fun HT_ HW_ => ?_)
 generalize w14.drew = w15 at HO_3 BK0 BK403 HB hHeld ⊢
 refine pu_ 0 16 #[T,F,F,F,F,F,F,F,F,F,F,F,F,F,F,F,F] (any_of HT_.out s2_) ?_
 refine pu_ 1 17 #[T,T,F,F,F,F,F,F,F,F,F,F,F,F,F,F,F] (any_of HT_.out s2_) ?_
 refine pu_ 3 19 #[T,T,F,T,F,F,F,F,F,F,F,F,F,F,F,F,F] (any_of HT_.out s2_) ?_
 refine pu_ 5 21 #[T,T,F,T,F,T,F,F,F,F,F,F,F,F,F,F,F] (any_of HT_.out s2_) ?_
 refine pu_ 6 22 #[T,T,F,T,F,T,T,F,F,F,F,F,F,F,F,F,F] (any_of HT_.out s2_) ?_
 refine pu_ 7 23 #[T,T,F,T,F,T,T,T,F,F,F,F,F,F,F,F,F] (any_of HT_.out s2_) ?_
 refine pu_ 9 25 #[T,T,F,T,F,T,T,T,F,T,F,F,F,F,F,F,F] (any_of HT_.out s2_) ?_
 refine take_ (i := 2) (N := some 18) (v := ?_) (a' := ?_) #[T,T,T,T,F,T,T,T,F,T,F,F,F,F,F,F,F] rfl rfl (take_ofW HT_.out HW_.out s2_) (fun _ _ _ h => h) (Or.inl ⟨by rfl, ?_⟩) hHeld ?_ ?_
 rotate_left
 {
 rintro w' ⟨s0, s1, s2, s3, s4⟩
 go_simp
 with_reducible rfl}
 rotate_left
 · exact p1_
 refine take_ (i := 4) (N := some 20) (v := ?_) (a' := ?_) #[T,T,T,T,T,T,T,T,F,T,F,F,F,F,F,F,F] rfl rfl (take_ofW HT_.out HW_.out s2_) (fun _ _ _ h => h) (Or.inl ⟨by rfl, ?_⟩) hHeld ?_ ?_
 rotate_left
 {
 rintro w' ⟨s0, s1, s2, s3, s4⟩
 go_simp
 with_reducible rfl}
 rotate_left
 · exact p1_
 refine take_ (i := 8) (N := some 24) (v := ?_) (a' := ?_) #[T,T,T,T,T,T,T,T,T,T,F,F,F,F,F,F,F] rfl rfl (take_ofW HT_.out HW_.out s2_) (fun _ _ _ h => h) (Or.inl ⟨by rfl, ?_⟩) hHeld ?_ ?_
 rotate_left
 {
 rintro w' ⟨s0, s1, s2, s3, s4⟩
 go_simp
 with_reducible rfl}
 rotate_left
 · exact p1_
 refine take_ (i := 10) (N := some 26) (v := ?_) (a' := ?_) #[T,T,T,T,T,T,T,T,T,T,T,F,F,F,F,F,F] rfl rfl (take_ofW HT_.out HW_.out s2_) (fun _ _ _ h => h) (Or.inl ⟨by rfl, ?_⟩) hHeld ?_ ?_
 rotate_left
 {
 rintro w' ⟨s0, s1, s2, s3, s4⟩
 go_simp
 with_reducible rfl}
 rotate_left
 · exact p1_
 refine one_ (i := 11) (N := some 27) #[T,T,T,T,T,T,T,T,T,T,T,T,F,F,F,F,F] rfl rfl (one_of HT_.out s2_) (by decide) (fun K hK => ?_)
 refine goes_ Try.func49 s2_ rfl #[.slice A0_0 l0_0.length c0_0, .int .i64 ((rd_T63 l0_1 x12_1).f0)] (by rfl) rfl rfl (by (try simp only [List.map_toArray, List.map_cons, List.map_nil]); first | done | rfl | (simp only [List.length_drop, List.length_take]; rfl)) ?_
 with_reducible refine (impl_until.calls k1 _ _ l0_0 ((rd_T63 l0_1 x12_1).f0) t404 _ ?side1 ?side2 A8.out).mono ?_
 (case side1 => repeat (first | exact (Kd.C_below HR0_0.out HB.out) | (with_reducible refine Kd.C_alloc ?_ _) | (with_reducible refine Kd.C_drewN ?_ _) | (with_reducible refine Kd.C_drew ?_)))
 (case side2 => exact HC0_0.out)
 rintro e w16 ⟨rfl, hb⟩
 refine ⟨_, rfl, ?_⟩
 replace HO_3 := A_ (Kd.R_below (b2_ HO_3.out) hb)
 replace BK0 := b3_ BK0 hb
 replace BK403 := b3_ BK403 hb
 replace HB := A_ (below_step (y1_ HB.out) hb)
 (try clear hb)
 (try clear hb2)
 (try clear hk)
 (try clear hi)
 refine hK.out _ _ ⟨(blk_cell BK403.out 0).trans rfl, (blk_cell BK403.out 1).trans rfl, (blk_cell BK0.out 0).trans rfl, (blk_cell BK0.out 1).trans rfl, (blk_cell BK0.out 2).trans rfl⟩ (fun hHeld => ?_)
 clear hK K
 refine norm_ (a' := ?_) ?_ ?_
 rotate_left
 {
 show Act.put _ (some 27) _ = _
 simp only [Act.put, List.setIfInBounds_toArray, List.set_cons_zero, List.set_cons_succ, i64_w, i32_w]
 rfl}
 refine pu_ 12 28 #[T,T,T,T,T,T,T,T,T,T,T,T,T,F,F,F,F] (any_of HT_.out s2_) ?_
 refine pu_ 13 29 #[T,T,T,T,T,T,T,T,T,T,T,T,T,T,F,F,F] (any_of HT_.out s2_) ?_
 refine one_ (i := 14) (N := some 30) #[T,T,T,T,T,T,T,T,T,T,T,T,T,T,T,F,F] rfl rfl (one_of HT_.out s2_) (by decide) (fun K hK => ?_)
 refine value_ (w1 := ?_) (v := ?_) (by rfl) rfl ?_ ?_
 rotate_left 2
 {
 go_simp
 constructor
 · rfl
 · rfl}
 refine hK.out _ _ ⟨(blk_cell (blk_alloc BK403.out _) 0).trans rfl, (blk_cell (blk_alloc BK403.out _) 1).trans rfl, (blk_cell (blk_alloc BK0.out _) 0).trans rfl, (blk_cell (blk_alloc BK0.out _) 1).trans rfl, (blk_cell (blk_alloc BK0.out _) 2).trans rfl⟩ (fun hHeld => ?_)
 clear hK K
 refine norm_ (a' := ?_) ?_ ?_
 rotate_left
 {
 show Act.put _ (some 30) _ = _
 simp only [Act.put, List.setIfInBounds_toArray, List.set_cons_zero, List.set_cons_succ, i64_w, i32_w]
 rfl}
 refine one_ (i := 15) (N := some 31) #[T,T,T,T,T,T,T,T,T,T,T,T,T,T,T,T,F] rfl rfl (one_of HT_.out s2_) (by decide) (fun K hK => ?_)
 refine Kd.R_append_step k63 (w0 := w) w.heap.size (by rfl) (.tmp 16) (.tmp 30) 24 63 (.agg #[(.int .i64 0), (.int .i64 0)]) 16 rfl Try.underlying24 info63 rfl (by decide) (by omega) u3 x3_1 (⟨(rd_T63 l0_1 x12_1).f0, ji9⟩ : S63) [.int .i64 ((rd_T63 l0_1 x12_1).f0), .int .i64 ji9] (fun k_ => k_ ≠ gb403) (fun _ => False) rfl rfl ?aP (fun _ hk => hk.elim) ?aF ?aO ?aB ?aS ?aL ?_
 (case aP => exact k63_mkM _ _ _ (⟨(rd_T63 l0_1 x12_1).f0, ji9⟩ : S63))
 (case aB => exact (y1_ HB.out))
 (case aF => exact (fun k_ hk => Kd.freshB (g := gb403) (o := .cells #[.int .i64 ((rd_T63 l0_1 x12_1).f0), .int .i64 ((rd_T63 l0_1 x12_1).f1)] 63 (0, 0)) (b1_ BK403.out) k_ hk))
 (case aO => exact (b2_ HO_3.out))
 (case aS => exact (below_size (y1_ HB.out)))
 (case aL => have := LMc10.out; omega)
 intro v406 w17 ho hb hg hat
 rw [← Ny405.out] at ho
 replace BK0 := A_ (blk_grown (g := g0_) (o := .cells #[.slice A0_0 l0_0.length c0_0, .slice (some ad402) l0_1.length c0_1, .slice A0_2 l0_2.length c0_2] 27 (0, 0)) (b1_ BK0.out) hg (Kd.R_ne HO_3.out BK0.out (by decide)))
 replace BK403 := A_ (blk_grown (g := gb403) (o := .cells #[.int .i64 ((rd_T63 l0_1 x12_1).f0), .int .i64 ((rd_T63 l0_1 x12_1).f1)] 63 (0, 0)) (b1_ BK403.out) hg (Kd.R_away HO_3.out (fun _ hk => hk)))
 replace HB := A_ (hb)
 have HO407 := A_ (ho)
 clear HO_3
 clear ho hb hg hat
 refine hK.out _ _ ⟨(blk_cell BK403.out 0).trans rfl, (blk_cell BK403.out 1).trans rfl, (blk_cell BK0.out 0).trans rfl, (blk_cell BK0.out 1).trans rfl, (blk_cell BK0.out 2).trans rfl⟩ (fun hHeld => ?_)
 clear hK K
 refine norm_ (a' := ?_) ?_ ?_
 rotate_left
 {
 show Act.put _ (some 31) _ = _
 simp only [Act.put, List.setIfInBounds_toArray, List.set_cons_zero, List.set_cons_succ, i64_w, i32_w]
 rfl}
 refine pu_ 16 3 #[T,T,T,T,T,T,T,T,T,T,T,T,T,T,T,T,T] (any_of HT_.out s2_) ?_
 refine done_ (done_of HT_.out s2_) ?_
 try go_wp2
 go_roundg k1
 case measure => have := HK1.out; omega
 case rel => exact ⟨(y405), (wrap64 (x12_1 + 1)), (by first | rfl | (simp; done) | (simp [*]; done)), H', ⟨by have := HK1.out; omega⟩, ⟨by refine b2_ ?_; exact Kd.R_mono HO407.out (fun _ hk => trivial)⟩, ⟨b1_ BK0.out⟩, ⟨y1_ HB.out⟩⟩}
 {
 rw [if_neg c10] at H
 exact absurd H (by simp)}}
 {
 rw [if_neg c7] at H
 exact absurd H (by simp)}}
 {
 rw [if_neg c6] at H
 exact absurd H (by simp)}}
 {
 rw [if_neg c5] at H
 have c5b0 : decide (x12_1 < (l0_1.length : Int)) = false := decide_eq_false c5
 clear c5
 obtain rfl := Option.some.inj H
 go_wp2
 go_ret
 exact ⟨_, e1_, b2_ HO_3.out, y1_ HB.out⟩}}}

/-! ### impl_TypingAt: function 17 -/
abbrev impl_TypingAt.T : Bool := true
abbrev impl_TypingAt.F : Bool := false
def impl_TypingAt.j0 : Nat → Int → Bool → List (S63) → List (S63) → List (S73) → Option (List Int × Bool)
  | 0, _, _, _, _, _ => none
  | k + 1, x1, x13, x409000, x409001, x409002 => if x13 = true then (some (([] : List Int), false)) else ((impl_Presence_typists.f k x409000 x409001 x409002).bind fun t411 => ((impl_membersOf.f k t411 x1).bind fun t414 => (some (t414, true))))
def impl_TypingAt.f (k : Nat) (l0_0 : List (S63)) (l0_1 : List (S63)) (l0_2 : List (S73)) (a1 : Int) : Option (List Int × Bool) := (impl_ValidPresence.f k l0_0 l0_1 l0_2).bind fun t409 => (if t409 = true then ((impl_isTick.f a1).bind fun t410 => (impl_TypingAt.j0 k a1 (!t410) l0_0 l0_1 l0_2)) else (impl_TypingAt.j0 k a1 true l0_0 l0_1 l0_2))
theorem impl_TypingAt.mono_l : ∀ k, (∀ y0 y1 y2 y3 y4, LeO (impl_TypingAt.j0 k y0 y1 y2 y3 y4) (impl_TypingAt.j0 (k + 1) y0 y1 y2 y3 y4))
  | 0 => fun _ _ _ _ _ r h => by simp [impl_TypingAt.j0] at h
  | k + 1 => by
    have ih0 := impl_TypingAt.mono_l k
    · intro y0 y1 y2 y3 y4
      unfold impl_TypingAt.j0
      repeat' first
      | (with_reducible exact ih0 _ _ _ _ _)
      | (with_reducible exact impl_Presence_typists.mono _ _ _ _)
      | (with_reducible exact impl_ValidPresence.mono _ _ _ _)
      | (with_reducible exact impl_membersOf.mono _ _ _)
      | (with_reducible exact LeO.refl _)
      | (with_reducible exact LeO.none _)
      | (with_reducible refine LeO.ite ?_ ?_)
      | (with_reducible refine LeO.bind ?_ (fun _ => ?_))
      | exact ih0 _ _ _ _ _
      | exact impl_Presence_typists.mono _ _ _ _
      | exact impl_ValidPresence.mono _ _ _ _
      | exact impl_membersOf.mono _ _ _
      | exact LeO.none _
      | refine LeO.ite ?_ ?_
      | refine LeO.bind ?_ (fun _ => ?_)
theorem impl_TypingAt.mono : ∀ a0 a1 a2 a3 k, LeO (impl_TypingAt.f k a0 a1 a2 a3) (impl_TypingAt.f (k + 1) a0 a1 a2 a3) := by
  intro a0 a1 a2 a3 k
  have ih0 := impl_TypingAt.mono_l k
  unfold impl_TypingAt.f
  repeat' first
      | (with_reducible exact ih0 _ _ _ _ _)
      | (with_reducible exact impl_Presence_typists.mono _ _ _ _)
      | (with_reducible exact impl_ValidPresence.mono _ _ _ _)
      | (with_reducible exact impl_membersOf.mono _ _ _)
      | (with_reducible exact LeO.refl _)
      | (with_reducible exact LeO.none _)
      | (with_reducible refine LeO.ite ?_ ?_)
      | (with_reducible refine LeO.bind ?_ (fun _ => ?_))
      | exact ih0 _ _ _ _ _
      | exact impl_Presence_typists.mono _ _ _ _
      | exact impl_ValidPresence.mono _ _ _ _
      | exact impl_membersOf.mono _ _ _
      | exact LeO.none _
      | refine LeO.ite ?_ ?_
      | refine LeO.bind ?_ (fun _ => ?_)
set_option maxHeartbeats 8000000 in
set_option maxRecDepth 100000 in
theorem impl_TypingAt.calls (k : Nat) (A0_0 : Option Addr) (c0_0 : Nat) (l0_0 : List (S63)) (A0_1 : Option Addr) (c0_1 : Nat) (l0_1 : List (S63)) (A0_2 : Option Addr) (c0_2 : Nat) (l0_2 : List (S73)) (a1 : Int) (r1 : List Int) (r2 : Bool) (w : World) (hr0_0 : Kd.C k63 w A0_0 l0_0.length l0_0) (hc0_0 : l0_0.length ≤ c0_0) (hr0_1 : Kd.C k63 w A0_1 l0_1.length l0_1) (hc0_1 : l0_1.length ≤ c0_1) (hr0_2 : Kd.C k73 w A0_2 l0_2.length l0_2) (hc0_2 : l0_2.length ≤ c0_2) (h : impl_TypingAt.f k l0_0 l0_1 l0_2 a1 = some (r1, r2)) :
    Calls Try.prog 17 #[.agg #[.slice A0_0 l0_0.length c0_0, .slice A0_1 l0_1.length c0_1, .slice A0_2 l0_2.length c0_2], .int .i64 a1] w fun e w' => ∃ v0_ : Value, e = .returned (.tuple #[v0_, .bool r2]) ∧ Kd.R (Kd.int .i64) 2 w' w.heap.size (fun _ => True) v0_ r1 ∧ Below w.heap.size w w' := by
 have hu27 := Try.underlying27
 have HR0_0 := A_ hr0_0
 have HC0_0 := A_ hc0_0
 clear hr0_0 hc0_0
 have HR0_1 := A_ hr0_1
 have HC0_1 := A_ hc0_1
 clear hr0_1 hc0_1
 have HR0_2 := A_ hr0_2
 have HC0_2 := A_ hc0_2
 clear hr0_2 hc0_2
 have HB := A_ (Below.refl w.heap.size w)
 have H : ((impl_ValidPresence.f k l0_0 l0_1 l0_2).bind fun t409 => (if t409 = true then ((impl_isTick.f a1).bind fun t410 => (impl_TypingAt.j0 k a1 (!t410) l0_0 l0_1 l0_2)) else (impl_TypingAt.j0 k a1 true l0_0 l0_1 l0_2))) = some (r1, r2) := h
 clear h
 have HC3 := A_ H
 clear H
 go_enter Try.func17, Try.ntmps17
 go_upto_region 1 with (first | ((with_reducible refine gate_dst (N := 2) rfl ?_); refine box_event ?hg (N := 2) ?hd (cs := #[.slice A0_0 l0_0.length c0_0, .slice A0_1 l0_1.length c0_1, .slice A0_2 l0_2.length c0_2]) (t := 27) ?hr ?_; (case hd => rfl); (case hg => rfl); (case hr => first | (go_simp; done) | (go_simp; rfl)); intro gb408 hg w4 hbox hb; have GW408 := b6_ hg HB; have GE408 := b6_ hg HB; replace HB := A_ (below_step (y1_ HB.out) hb); have BK408 := A_ (hbox); clear hb hbox hg))
 (try simp only [Act.put, List.setIfInBounds_toArray, List.set_cons_zero, List.set_cons_succ])
 go_cut [13] (fun v13 wc => ∃ (kq : Nat) (x13_2 : Bool), v13 = .bool x13_2 ∧ Aside0 (impl_TypingAt.j0 kq a1 x13_2 l0_0 l0_1 l0_2 = some (r1, r2)) ∧ Aside0 (kq ≤ k) ∧ Aside0 (wc.heap[gb408]? = some (.cells #[(.slice A0_0 l0_0.length c0_0), (.slice A0_1 l0_1.length c0_1), (.slice A0_2 l0_2.length c0_2)] 27 (0, 0))) ∧ Aside0 (Below w.heap.size w wc))
 case first =>
  skip
  {
 have H := HC3.out
 clear HC3
 replace H := Option.bind_eq_some_iff.mp H
 obtain ⟨t409, A50, H⟩ := H
 replace H : (if t409 = true then ((impl_isTick.f a1).bind fun t410 => (impl_TypingAt.j0 k a1 (!t410) l0_0 l0_1 l0_2)) else (impl_TypingAt.j0 k a1 true l0_0 l0_1 l0_2)) = some (r1, r2) := H
 have A5 := A_ A50
 clear A50
 by_cases c6 : t409 = true
 {
 subst c6
 have H1 : ((impl_isTick.f a1).bind fun t410 => (impl_TypingAt.j0 k a1 (!t410) l0_0 l0_1 l0_2)) = some (r1, r2) := by rw [if_pos rfl] at H; exact H
 clear H
 have H := H1
 clear H1
 replace H := Option.bind_eq_some_iff.mp H
 obtain ⟨t410, A70, H⟩ := H
 replace H : (impl_TypingAt.j0 k a1 (!t410) l0_0 l0_1 l0_2) = some (r1, r2) := H
 have A7 := A_ A70
 clear A70
 have H' := A_ H
 clear H
 have hcz8_0 := c1_ BK408 0 (.slice A0_0 l0_0.length c0_0)
 have hcz8_1 := c1_ BK408 1 (.slice A0_1 l0_1.length c0_1)
 have hcz8_2 := c1_ BK408 2 (.slice A0_2 l0_2.length c0_2)
 have hfz8_0 := f1_ BK408 0
 have hfz8_1 := f1_ BK408 1
 have hfz8_2 := f1_ BK408 2
 go_wp2_with (first | ((with_reducible refine gate_callee (f := 19) rfl ?_); refine goesL_ (some 7) rfl rfl Try.func19 s2_ rfl #[.agg #[.slice A0_0 l0_0.length c0_0, .slice A0_1 l0_1.length c0_1, .slice A0_2 l0_2.length c0_2]] rfl s3_ ?_; (with_reducible refine (impl_ValidPresence.calls k _ _ l0_0 _ _ l0_1 _ _ l0_2 true _ ?side1 ?side2 ?side3 ?side4 ?side5 ?side6 A5.out).mono ?_); (case side1 => exact y2_ (Kd.C_below HR0_0.out HB.out)); (case side2 => exact HC0_0.out); (case side3 => exact y2_ (Kd.C_below HR0_1.out HB.out)); (case side4 => exact HC0_1.out); (case side5 => exact y2_ (Kd.C_below HR0_2.out HB.out)); (case side6 => exact HC0_2.out); rintro e w9 ⟨rfl, hb⟩; refine ⟨_, rfl, ?_⟩; replace BK408 := b3_ BK408 hb; replace HB := A_ (below_step (y1_ HB.out) hb); (try clear hb); (try clear hb2); (try clear hk); (try clear hi)) | (go_at_call 45; (with_reducible refine (impl_isTick.calls a1 t410 _ A7.out).mono ?_); rintro e w' ⟨rfl, ⟨nd, rfl⟩⟩))
 go_meet
 case rel => exact ⟨_, (!t410), (by first | rfl | (simp; done) | (simp [*]; done)), H', ⟨by first | omega | exact Nat.le_refl _⟩, ⟨b1_ BK408.out⟩, ⟨y1_ HB.out⟩⟩}
 {
 replace c6 := Bool.eq_false_iff.mpr c6
 subst c6
 have H1 : (impl_TypingAt.j0 k a1 true l0_0 l0_1 l0_2) = some (r1, r2) := by rw [if_neg (show ¬ (false = true) by decide)] at H; exact H
 clear H
 have H := H1
 clear H1
 have H' := A_ H
 clear H
 have hcz10_0 := c1_ BK408 0 (.slice A0_0 l0_0.length c0_0)
 have hcz10_1 := c1_ BK408 1 (.slice A0_1 l0_1.length c0_1)
 have hcz10_2 := c1_ BK408 2 (.slice A0_2 l0_2.length c0_2)
 have hfz10_0 := f1_ BK408 0
 have hfz10_1 := f1_ BK408 1
 have hfz10_2 := f1_ BK408 2
 go_wp2_with (first | ((with_reducible refine gate_callee (f := 19) rfl ?_); refine goesL_ (some 7) rfl rfl Try.func19 s2_ rfl #[.agg #[.slice A0_0 l0_0.length c0_0, .slice A0_1 l0_1.length c0_1, .slice A0_2 l0_2.length c0_2]] rfl s3_ ?_; (with_reducible refine (impl_ValidPresence.calls k _ _ l0_0 _ _ l0_1 _ _ l0_2 false _ ?side1 ?side2 ?side3 ?side4 ?side5 ?side6 A5.out).mono ?_); (case side1 => exact y2_ (Kd.C_below HR0_0.out HB.out)); (case side2 => exact HC0_0.out); (case side3 => exact y2_ (Kd.C_below HR0_1.out HB.out)); (case side4 => exact HC0_1.out); (case side5 => exact y2_ (Kd.C_below HR0_2.out HB.out)); (case side6 => exact HC0_2.out); rintro e w11 ⟨rfl, hb⟩; refine ⟨_, rfl, ?_⟩; replace BK408 := b3_ BK408 hb; replace HB := A_ (below_step (y1_ HB.out) hb); (try clear hb); (try clear hb2); (try clear hk); (try clear hi)))
 go_meet
 case rel => exact ⟨_, (true), (by first | rfl | (simp; done) | (simp [*]; done)), H', ⟨by first | omega | exact Nat.le_refl _⟩, ⟨b1_ BK408.out⟩, ⟨y1_ HB.out⟩⟩}}
 case rest =>
  skip
  {
 clear HC3
 try clear c1
 try clear p2
 try clear c6
 try clear hcz10_0
 try clear hcz10_1
 try clear hcz10_2
 try clear hcz8_0
 try clear hcz8_1
 try clear hcz8_2
 try clear hfz10_0
 try clear hfz10_1
 try clear hfz10_2
 try clear hfz8_0
 try clear hfz8_1
 try clear hfz8_2
 obtain ⟨kq, x13_2, rfl, HA, HJ2, BK408, HB⟩ := hcut
 cases kq with
 | zero => exact absurd HA.out (by simp [impl_TypingAt.j0])
 | succ kj2 =>
  skip
  {
 have H := HA.out
 clear HA
 simp only [impl_TypingAt.j0] at H
 by_cases c12 : x13_2 = true
 {
 subst c12
 have H1 : (some (([] : List Int), false)) = some (r1, r2) := by rw [if_pos rfl] at H; exact H
 clear H
 have H := H1
 clear H1
 simp only [Option.some.injEq, Prod.mk.injEq] at H
 obtain ⟨rfl, rfl⟩ := H
 go_wp2
 go_ret2
 exact ⟨_, e1_, by first | exact Kd.R_nil _ _ _ _ _ | exact Kd.N_nil _ _ _ _ _ | exact Kd.V_nil _ _ _ _ _ | exact Kd.Q_nil _ _ _ _ _ | exact Kd.S_nil _ _ _ _ _, y1_ HB.out⟩}
 {
 replace c12 := Bool.eq_false_iff.mpr c12
 subst c12
 have H1 : ((impl_Presence_typists.f kj2 l0_0 l0_1 l0_2).bind fun t411 => ((impl_membersOf.f kj2 t411 a1).bind fun t414 => (some (t414, true)))) = some (r1, r2) := by rw [if_neg (show ¬ (false = true) by decide)] at H; exact H
 clear H
 have H := H1
 clear H1
 replace H := Option.bind_eq_some_iff.mp H
 obtain ⟨t411, A130, H⟩ := H
 replace H : ((impl_membersOf.f kj2 t411 a1).bind fun t414 => (some (t414, true))) = some (r1, r2) := H
 have A13 := A_ A130
 clear A130
 replace H := Option.bind_eq_some_iff.mp H
 obtain ⟨t414, A140, H⟩ := H
 replace H : (some (t414, true)) = some (r1, r2) := H
 have A14 := A_ A140
 clear A140
 simp only [Option.some.injEq, Prod.mk.injEq] at H
 obtain ⟨rfl, rfl⟩ := H
 go_wp2_with (first | ((with_reducible refine gate_callee (f := 50) rfl ?_); refine goesL_ (some 14) rfl rfl Try.func50 s2_ rfl #[.pointer (some ⟨gb408, 0, none⟩)] rfl s3_ ?_; (with_reducible refine (impl_Presence_typists.calls kj2 gb408 A0_0 c0_0 l0_0 A0_1 c0_1 l0_1 A0_2 c0_2 l0_2 t411 _ ?side1 ?side2 ?side3 ?side4 ?side5 ?side6 ?side7 A13.out).mono ?_); (case side1 => exact (b1_ BK408.out)); (case side2 => exact y2_ (Kd.C_below HR0_0.out HB.out)); (case side3 => exact HC0_0.out); (case side4 => exact y2_ (Kd.C_below HR0_1.out HB.out)); (case side5 => exact HC0_1.out); (case side6 => exact y2_ (Kd.C_below HR0_2.out HB.out)); (case side7 => exact HC0_2.out); rintro e w15 ⟨v412, rfl, ho0, hb⟩; refine ⟨_, rfl, ?_⟩; have HO413 := A_ (Kd.R_lower ho0 (below_size (y1_ HB.out))); replace BK408 := b3_ BK408 hb; replace HB := A_ (below_step (y1_ HB.out) hb); (try clear hb); (try clear hb2); (try clear hk); (try clear hi); (try clear ho0); obtain ⟨Ao16, co16, eo16⟩ := Kd.R_slice HO413.out; subst eo16) | ((with_reducible refine gate_callee (f := 47) rfl ?_); refine goesL_ (some 16) rfl rfl Try.func47 s2_ rfl #[.slice Ao16 t411.length co16, .int .i64 a1] rfl s3_ ?_; (with_reducible refine (impl_membersOf.calls kj2 _ _ t411 a1 t414 _ ?side1 ?side2 A14.out).mono ?_); (case side1 => exact y2_ (Kd.R_reads' HO413.out).2.2); (case side2 => exact (Kd.R_reads' HO413.out).2.1); rintro e w17 ⟨v415, rfl, ho0, hb⟩; refine ⟨_, rfl, ?_⟩; replace HO413 := A_ (Kd.R_below (b2_ HO413.out) hb); have HO416 := A_ (Kd.R_lower ho0 (below_size (y1_ HB.out))); replace BK408 := b3_ BK408 hb; replace HB := A_ (below_step (y1_ HB.out) hb); (try clear hb); (try clear hb2); (try clear hk); (try clear hi); (try clear ho0)))
 go_ret2
 exact ⟨_, e1_, b2_ HO416.out, y1_ HB.out⟩}}}

end Go.Proofs.Ytgfilednbllkmaa.QFnJoinedPresence
