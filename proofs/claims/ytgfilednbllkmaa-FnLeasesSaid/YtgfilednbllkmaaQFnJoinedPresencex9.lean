-- written by a program of this session, on the lines of the kit's print
import Derived.Test.YtgfilednbllkmaaQFnJoinedPresencex0
import Derived.Test.YtgfilednbllkmaaPl
import Derived.Test.YtgfilednbllkmaaQFnJoinedPresencex3
import Derived.Test.YtgfilednbllkmaaQFnJoinedPresencex7
import Derived.Test.YtgfilednbllkmaaQFnJoinedPresencex8
namespace Go.Proofs.Ytgfilednbllkmaa.QFnJoinedPresence
open Go.RowKit Go.Proofs.YtgfilednbllkmaaW.PrintWords Go.Proofs.YtgfilednbllkmaaW.PrintLast Go.Proofs.YtgfilednbllkmaaW.PrintMore
attribute [local go_sem] max2_int min2_int max_two min_two max_three min_three max_four min_four   -- for this text's walks alone
set_option linter.unusedVariables false
set_option linter.unusedSimpArgs false

/-! ### spec_l00Src_next: function 112 -/
def spec_l00Src_next.f (s0_0 : List Int) (s0_1 : Int) (s0_2 : Int) : Option (Int × Int × Int) := if s0_1 < (s0_0.length : Int) then (if 0 ≤ s0_1 then (if (wrap64 (s0_1 + 1)) ≤ (s0_0.length : Int) then (some (wrap64 (rd s0_0 s0_1), wrap64 (s0_1 + 1), IntKind.u64.wrap ((IntKind.u64.wrap ((IntKind.u64.wrap (s0_2 * 6364136223846793005)) + (IntKind.u64.wrap (wrap64 (rd s0_0 s0_1))))) + 1442695040888963407))) else (some (wrap64 (Go.bits .and .u64 ((IntKind.u64.wrap ((IntKind.u64.wrap ((IntKind.u64.wrap (s0_2 * 6364136223846793005)) + (IntKind.u64.wrap (wrap64 (rd s0_0 s0_1))))) + 1442695040888963407)) / 1099511627776) 255), wrap64 (s0_1 + 1), IntKind.u64.wrap ((IntKind.u64.wrap ((IntKind.u64.wrap (s0_2 * 6364136223846793005)) + (IntKind.u64.wrap (wrap64 (rd s0_0 s0_1))))) + 1442695040888963407)))) else (none)) else (if (wrap64 (s0_1 + 1)) ≤ (s0_0.length : Int) then (some (0, wrap64 (s0_1 + 1), IntKind.u64.wrap ((IntKind.u64.wrap ((IntKind.u64.wrap (s0_2 * 6364136223846793005)))) + 1442695040888963407))) else (some (wrap64 (Go.bits .and .u64 ((IntKind.u64.wrap ((IntKind.u64.wrap ((IntKind.u64.wrap (s0_2 * 6364136223846793005)))) + 1442695040888963407)) / 1099511627776) 255), wrap64 (s0_1 + 1), IntKind.u64.wrap ((IntKind.u64.wrap ((IntKind.u64.wrap (s0_2 * 6364136223846793005)))) + 1442695040888963407))))
set_option maxHeartbeats 8000000 in
set_option maxRecDepth 100000 in
theorem spec_l00Src_next.calls (g : Nat) (s0_0 : List Int) (s0_1 : Int) (s0_2 : Int) (r1 : Int) (r2 : Int) (r3 : Int) (w0 w : World) (hI : IsS96 w0 w g s0_0 s0_1 s0_2) (hB : Below w0.heap.size w0 w) (h : spec_l00Src_next.f s0_0 s0_1 s0_2 = some (r1, r2, r3)) :
    Calls Try.prog 112 #[.pointer (some ⟨g, 0, none⟩)] w fun e w' => e = .returned (.int .i64 r1) ∧ IsS96 w0 w' g s0_0 r2 r3 ∧ Below w0.heap.size w0 w' ∧ KeepBut w w' g none := by
  have HI0 := A_ hI
  have HK := A_ (KeepBut.refl w g none)
  have HL := A_ hB.size
  clear hI
  have HW0 := A_ hB.size
  have HB := A_ hB
  clear hB
  have H : (if s0_1 < (s0_0.length : Int) then (if 0 ≤ s0_1 then (if (wrap64 (s0_1 + 1)) ≤ (s0_0.length : Int) then (some (wrap64 (rd s0_0 s0_1), wrap64 (s0_1 + 1), IntKind.u64.wrap ((IntKind.u64.wrap ((IntKind.u64.wrap (s0_2 * 6364136223846793005)) + (IntKind.u64.wrap (wrap64 (rd s0_0 s0_1))))) + 1442695040888963407))) else (some (wrap64 (Go.bits .and .u64 ((IntKind.u64.wrap ((IntKind.u64.wrap ((IntKind.u64.wrap (s0_2 * 6364136223846793005)) + (IntKind.u64.wrap (wrap64 (rd s0_0 s0_1))))) + 1442695040888963407)) / 1099511627776) 255), wrap64 (s0_1 + 1), IntKind.u64.wrap ((IntKind.u64.wrap ((IntKind.u64.wrap (s0_2 * 6364136223846793005)) + (IntKind.u64.wrap (wrap64 (rd s0_0 s0_1))))) + 1442695040888963407)))) else (none)) else (if (wrap64 (s0_1 + 1)) ≤ (s0_0.length : Int) then (some (0, wrap64 (s0_1 + 1), IntKind.u64.wrap ((IntKind.u64.wrap ((IntKind.u64.wrap (s0_2 * 6364136223846793005)))) + 1442695040888963407))) else (some (wrap64 (Go.bits .and .u64 ((IntKind.u64.wrap ((IntKind.u64.wrap ((IntKind.u64.wrap (s0_2 * 6364136223846793005)))) + 1442695040888963407)) / 1099511627776) 255), wrap64 (s0_1 + 1), IntKind.u64.wrap ((IntKind.u64.wrap ((IntKind.u64.wrap (s0_2 * 6364136223846793005)))) + 1442695040888963407))))) = some (r1, r2, r3) := h
  clear h
  by_cases c2 : s0_1 < (s0_0.length : Int)
  · rw [if_pos c2] at H
    have c2b0 : decide (s0_1 < (s0_0.length : Int)) = true := decide_eq_true c2
    clear c2
    by_cases c3 : 0 ≤ s0_1
    · rw [if_pos c3] at H
      have c3b0 : decide (0 ≤ s0_1) = true := decide_eq_true c3
      clear c3
      by_cases c4 : (wrap64 (s0_1 + 1)) ≤ (s0_0.length : Int)
      · rw [if_pos c4] at H
        have c4b0 : decide ((wrap64 (s0_1 + 1)) ≤ (s0_0.length : Int)) = true := decide_eq_true c4
        clear c4
        simp only [Option.some.injEq, Prod.mk.injEq] at H
        obtain ⟨rfl, rfl, rfl⟩ := H
        obtain ⟨ASz5_0, cSz5_0, HGz5, hgz5, HSz5_0⟩ := HI0.out
        have hcz5_0 := cellS96_0 HGz5
        have hcz5_1 := cellS96_1 HGz5
        have hcz5_2 := cellS96_2 HGz5
        have hfz5_1 := blk_frozen HGz5 1
        have hfz5_2 := blk_frozen HGz5 2
        clear HGz5 hgz5
        have p263 : 0 ≤ (s0_1 : Int) := o1_
        have q263 : s0_1 < (s0_0.length : Int) := o1_
        obtain ⟨ad263, e263, hx263_0⟩ := Kd.at_int HSz5_0 s0_1 p263 q263
        cases e263
        replace hx263_0 := pw_cell_below HB.out hx263_0
        replace p263 := eq_true p263
        replace q263 := eq_true q263
        go_enter Try.func112, Try.ntmps112
        go_wp2
        repeat (go_quiet (fail); try go_wp2)
        go_ret
        exact ⟨e1_, by repeat (first | (with_reducible first | exact HI0.out | apply IsS96.alloc | apply IsS96.drewN | apply IsS96.drew | apply IsS96.set_1 | apply IsS96.set_2) | exact HI0.out), by repeat (first | (with_reducible first | exact HB.out | apply below_alloc | apply pw_below_drewN | apply below_drew1 | refine below_set ?_ (IsS96.ge HI0.out)) | exact HB.out), by repeat (first | (with_reducible first | exact HK.out | apply KeepBut.set_ | apply keep_drewN | apply keep_drew | apply keep_alloc) | exact HK.out)⟩
      · rw [if_neg c4] at H
        have c4b0 : decide ((wrap64 (s0_1 + 1)) ≤ (s0_0.length : Int)) = false := decide_eq_false c4
        clear c4
        simp only [Option.some.injEq, Prod.mk.injEq] at H
        obtain ⟨rfl, rfl, rfl⟩ := H
        obtain ⟨ASz6_0, cSz6_0, HGz6, hgz6, HSz6_0⟩ := HI0.out
        have hcz6_0 := cellS96_0 HGz6
        have hcz6_1 := cellS96_1 HGz6
        have hcz6_2 := cellS96_2 HGz6
        have hfz6_1 := blk_frozen HGz6 1
        have hfz6_2 := blk_frozen HGz6 2
        clear HGz6 hgz6
        have p263 : 0 ≤ (s0_1 : Int) := o1_
        have q263 : s0_1 < (s0_0.length : Int) := o1_
        obtain ⟨ad263, e263, hx263_0⟩ := Kd.at_int HSz6_0 s0_1 p263 q263
        cases e263
        replace hx263_0 := pw_cell_below HB.out hx263_0
        replace p263 := eq_true p263
        replace q263 := eq_true q263
        go_enter Try.func112, Try.ntmps112
        go_wp2
        repeat (go_quiet (fail); try go_wp2)
        go_ret
        exact ⟨e1_, by repeat (first | (with_reducible first | exact HI0.out | apply IsS96.alloc | apply IsS96.drewN | apply IsS96.drew | apply IsS96.set_1 | apply IsS96.set_2) | exact HI0.out), by repeat (first | (with_reducible first | exact HB.out | apply below_alloc | apply pw_below_drewN | apply below_drew1 | refine below_set ?_ (IsS96.ge HI0.out)) | exact HB.out), by repeat (first | (with_reducible first | exact HK.out | apply KeepBut.set_ | apply keep_drewN | apply keep_drew | apply keep_alloc) | exact HK.out)⟩
    · rw [if_neg c3] at H
      exact absurd H (by simp)
  · rw [if_neg c2] at H
    have c2b0 : decide (s0_1 < (s0_0.length : Int)) = false := decide_eq_false c2
    clear c2
    by_cases c7 : (wrap64 (s0_1 + 1)) ≤ (s0_0.length : Int)
    · rw [if_pos c7] at H
      have c7b0 : decide ((wrap64 (s0_1 + 1)) ≤ (s0_0.length : Int)) = true := decide_eq_true c7
      clear c7
      simp only [Option.some.injEq, Prod.mk.injEq] at H
      obtain ⟨rfl, rfl, rfl⟩ := H
      obtain ⟨ASz8_0, cSz8_0, HGz8, hgz8, HSz8_0⟩ := HI0.out
      have hcz8_0 := cellS96_0 HGz8
      have hcz8_1 := cellS96_1 HGz8
      have hcz8_2 := cellS96_2 HGz8
      have hfz8_1 := blk_frozen HGz8 1
      have hfz8_2 := blk_frozen HGz8 2
      clear HGz8 hgz8
      go_enter Try.func112, Try.ntmps112
      go_wp2
      repeat (go_quiet (fail); try go_wp2)
      go_ret
      exact ⟨e1_, by repeat (first | (with_reducible first | exact HI0.out | apply IsS96.alloc | apply IsS96.drewN | apply IsS96.drew | apply IsS96.set_1 | apply IsS96.set_2) | exact HI0.out), by repeat (first | (with_reducible first | exact HB.out | apply below_alloc | apply pw_below_drewN | apply below_drew1 | refine below_set ?_ (IsS96.ge HI0.out)) | exact HB.out), by repeat (first | (with_reducible first | exact HK.out | apply KeepBut.set_ | apply keep_drewN | apply keep_drew | apply keep_alloc) | exact HK.out)⟩
    · rw [if_neg c7] at H
      have c7b0 : decide ((wrap64 (s0_1 + 1)) ≤ (s0_0.length : Int)) = false := decide_eq_false c7
      clear c7
      simp only [Option.some.injEq, Prod.mk.injEq] at H
      obtain ⟨rfl, rfl, rfl⟩ := H
      obtain ⟨ASz9_0, cSz9_0, HGz9, hgz9, HSz9_0⟩ := HI0.out
      have hcz9_0 := cellS96_0 HGz9
      have hcz9_1 := cellS96_1 HGz9
      have hcz9_2 := cellS96_2 HGz9
      have hfz9_1 := blk_frozen HGz9 1
      have hfz9_2 := blk_frozen HGz9 2
      clear HGz9 hgz9
      go_enter Try.func112, Try.ntmps112
      go_wp2
      repeat (go_quiet (fail); try go_wp2)
      go_ret
      exact ⟨e1_, by repeat (first | (with_reducible first | exact HI0.out | apply IsS96.alloc | apply IsS96.drewN | apply IsS96.drew | apply IsS96.set_1 | apply IsS96.set_2) | exact HI0.out), by repeat (first | (with_reducible first | exact HB.out | apply below_alloc | apply pw_below_drewN | apply below_drew1 | refine below_set ?_ (IsS96.ge HI0.out)) | exact HB.out), by repeat (first | (with_reducible first | exact HK.out | apply KeepBut.set_ | apply keep_drewN | apply keep_drew | apply keep_alloc) | exact HK.out)⟩

/-! ### spec_l00Src_pick: function 88 -/
def spec_l00Src_pick.f (s0_0 : List Int) (s0_1 : Int) (s0_2 : Int) (a1 : Int) : Option (Int × Int × Int) := if a1 ≤ 1 then (some (0, s0_1, s0_2)) else ((spec_l00Src_next.f s0_0 s0_1 s0_2).bind fun bt264 => (if a1 > 200 then ((spec_l00Src_next.f s0_0 bt264.2.1 bt264.2.2).bind fun bt267 => (if a1 = 0 then (none) else (some (Int.tmod (wrap64 ((wrap64 (bt264.1 * 256)) + bt267.1)) a1, bt267.2.1, bt267.2.2)))) else (if a1 = 0 then (none) else (some (Int.tmod bt264.1 a1, bt264.2.1, bt264.2.2)))))
set_option maxHeartbeats 8000000 in
set_option maxRecDepth 100000 in
theorem spec_l00Src_pick.calls (g : Nat) (s0_0 : List Int) (s0_1 : Int) (s0_2 : Int) (a1 : Int) (r1 : Int) (r2 : Int) (r3 : Int) (w0 w : World) (hI : IsS96 w0 w g s0_0 s0_1 s0_2) (hB : Below w0.heap.size w0 w) (h : spec_l00Src_pick.f s0_0 s0_1 s0_2 a1 = some (r1, r2, r3)) :
    Calls Try.prog 88 #[.pointer (some ⟨g, 0, none⟩), .int .i64 a1] w fun e w' => e = .returned (.int .i64 r1) ∧ IsS96 w0 w' g s0_0 r2 r3 ∧ Below w0.heap.size w0 w' ∧ KeepBut w w' g none := by
  have HI0 := A_ hI
  have HK := A_ (KeepBut.refl w g none)
  have HL := A_ hB.size
  clear hI
  have HW0 := A_ hB.size
  have HB := A_ hB
  clear hB
  have H : (if a1 ≤ 1 then (some (0, s0_1, s0_2)) else ((spec_l00Src_next.f s0_0 s0_1 s0_2).bind fun bt264 => (if a1 > 200 then ((spec_l00Src_next.f s0_0 bt264.2.1 bt264.2.2).bind fun bt267 => (if a1 = 0 then (none) else (some (Int.tmod (wrap64 ((wrap64 (bt264.1 * 256)) + bt267.1)) a1, bt267.2.1, bt267.2.2)))) else (if a1 = 0 then (none) else (some (Int.tmod bt264.1 a1, bt264.2.1, bt264.2.2)))))) = some (r1, r2, r3) := h
  clear h
  by_cases c3 : a1 ≤ 1
  · rw [if_pos c3] at H
    have c3b0 : decide (a1 ≤ 1) = true := decide_eq_true c3
    clear c3
    simp only [Option.some.injEq, Prod.mk.injEq] at H
    obtain ⟨rfl, rfl, rfl⟩ := H
    go_enter Try.func88, Try.ntmps88
    go_wp2
    go_ret
    exact ⟨e1_, by repeat (first | (with_reducible first | exact HI0.out | apply IsS96.alloc | apply IsS96.drewN | apply IsS96.drew | apply IsS96.set_1 | apply IsS96.set_2) | exact HI0.out), by repeat (first | (with_reducible first | exact HB.out | apply below_alloc | apply pw_below_drewN | apply below_drew1 | refine below_set ?_ (IsS96.ge HI0.out)) | exact HB.out), by repeat (first | (with_reducible first | exact HK.out | apply KeepBut.set_ | apply keep_drewN | apply keep_drew | apply keep_alloc) | exact HK.out)⟩
  · rw [if_neg c3] at H
    have c3b0 : decide (a1 ≤ 1) = false := decide_eq_false c3
    clear c3
    replace H := Option.bind_eq_some_iff.mp H
    obtain ⟨⟨t264, t265, t266⟩, A40, H⟩ := H
    replace H : (if a1 > 200 then ((spec_l00Src_next.f s0_0 t265 t266).bind fun bt267 => (if a1 = 0 then (none) else (some (Int.tmod (wrap64 ((wrap64 (t264 * 256)) + bt267.1)) a1, bt267.2.1, bt267.2.2)))) else (if a1 = 0 then (none) else (some (Int.tmod t264 a1, t265, t266)))) = some (r1, r2, r3) := H
    have A4 := A_ A40
    clear A40
    by_cases c5 : a1 > 200
    · rw [if_pos c5] at H
      have c5b0 : decide (200 < a1) = true := decide_eq_true c5
      clear c5
      replace H := Option.bind_eq_some_iff.mp H
      obtain ⟨⟨t267, t268, t269⟩, A60, H⟩ := H
      replace H : (if a1 = 0 then (none) else (some (Int.tmod (wrap64 ((wrap64 (t264 * 256)) + t267)) a1, t268, t269))) = some (r1, r2, r3) := H
      have A6 := A_ A60
      clear A60
      by_cases c7 : a1 = 0
      · rw [if_pos c7] at H
        exact absurd H (by simp)
      · rw [if_neg c7] at H
        have c7b0 : (a1 == 0) = false := beq_eq_false_iff_ne.mpr c7
        have c7b1 : (a1 != 0) = true := bne_iff_ne.mpr c7
        simp only [Option.some.injEq, Prod.mk.injEq] at H
        obtain ⟨rfl, rfl, rfl⟩ := H
        go_enter Try.func88, Try.ntmps88
        go_wp2_with (first | ((with_reducible refine gate_callee (f := 112) rfl ?_); refine goesL_ (some 9) rfl rfl Try.func112 (by kernel_rfl) rfl #[.pointer (some ⟨g, 0, none⟩)] rfl (by (try simp only [List.map_toArray, List.map_cons, List.map_nil]); first | done | rfl | (simp only [List.length_drop, List.length_take]; rfl)) ?_; (with_reducible refine (spec_l00Src_next.calls g s0_0 s0_1 s0_2 t264 t265 t266 w0 _ ?side1 ?side2 A4.out).mono ?_); (case side1 => repeat (first | (with_reducible first | exact HI0.out | apply IsS96.alloc | apply IsS96.drewN | apply IsS96.drew | apply IsS96.set_1 | apply IsS96.set_2) | exact HI0.out)); (case side2 => repeat (first | (with_reducible first | exact HB.out | apply below_alloc | apply pw_below_drewN | apply below_drew1 | refine below_set ?_ (IsS96.ge HI0.out)) | exact HB.out)); rintro e w8 ⟨rfl, hi, hb, hk⟩; refine ⟨_, rfl, ?_⟩; replace HK := A_ (KeepBut.trans (by repeat (first | (with_reducible first | exact HK.out | apply KeepBut.set_ | apply keep_drewN | apply keep_drew | apply keep_alloc) | exact HK.out)) hk (.inl rfl)); replace HB := A_ (hb); replace HI0 := A_ (hi); (try clear hb); (try clear hb2); (try clear hk); (try clear hi)) | ((with_reducible refine gate_callee (f := 112) rfl ?_); refine goesL_ (some 15) rfl rfl Try.func112 (by kernel_rfl) rfl #[.pointer (some ⟨g, 0, none⟩)] rfl (by (try simp only [List.map_toArray, List.map_cons, List.map_nil]); first | done | rfl | (simp only [List.length_drop, List.length_take]; rfl)) ?_; (with_reducible refine (spec_l00Src_next.calls g s0_0 t265 t266 t267 t268 t269 w0 _ ?side1 ?side2 A6.out).mono ?_); (case side1 => repeat (first | (with_reducible first | exact HI0.out | apply IsS96.alloc | apply IsS96.drewN | apply IsS96.drew | apply IsS96.set_1 | apply IsS96.set_2) | exact HI0.out)); (case side2 => repeat (first | (with_reducible first | exact HB.out | apply below_alloc | apply pw_below_drewN | apply below_drew1 | refine below_set ?_ (IsS96.ge HI0.out)) | exact HB.out)); rintro e w9 ⟨rfl, hi, hb, hk⟩; refine ⟨_, rfl, ?_⟩; replace HK := A_ (KeepBut.trans (by repeat (first | (with_reducible first | exact HK.out | apply KeepBut.set_ | apply keep_drewN | apply keep_drew | apply keep_alloc) | exact HK.out)) hk (.inl rfl)); replace HB := A_ (hb); replace HI0 := A_ (hi); (try clear hb); (try clear hb2); (try clear hk); (try clear hi)))
        go_ret
        exact ⟨e1_, by repeat (first | (with_reducible first | exact HI0.out | apply IsS96.alloc | apply IsS96.drewN | apply IsS96.drew | apply IsS96.set_1 | apply IsS96.set_2) | exact HI0.out), by repeat (first | (with_reducible first | exact HB.out | apply below_alloc | apply pw_below_drewN | apply below_drew1 | refine below_set ?_ (IsS96.ge HI0.out)) | exact HB.out), by repeat (first | (with_reducible first | exact HK.out | apply KeepBut.set_ | apply keep_drewN | apply keep_drew | apply keep_alloc) | exact HK.out)⟩
    · rw [if_neg c5] at H
      have c5b0 : decide (200 < a1) = false := decide_eq_false c5
      clear c5
      by_cases c10 : a1 = 0
      · rw [if_pos c10] at H
        exact absurd H (by simp)
      · rw [if_neg c10] at H
        have c10b0 : (a1 == 0) = false := beq_eq_false_iff_ne.mpr c10
        have c10b1 : (a1 != 0) = true := bne_iff_ne.mpr c10
        simp only [Option.some.injEq, Prod.mk.injEq] at H
        obtain ⟨rfl, rfl, rfl⟩ := H
        go_enter Try.func88, Try.ntmps88
        go_wp2_with (first | ((with_reducible refine gate_callee (f := 112) rfl ?_); refine goesL_ (some 9) rfl rfl Try.func112 (by kernel_rfl) rfl #[.pointer (some ⟨g, 0, none⟩)] rfl (by (try simp only [List.map_toArray, List.map_cons, List.map_nil]); first | done | rfl | (simp only [List.length_drop, List.length_take]; rfl)) ?_; (with_reducible refine (spec_l00Src_next.calls g s0_0 s0_1 s0_2 t264 t265 t266 w0 _ ?side1 ?side2 A4.out).mono ?_); (case side1 => repeat (first | (with_reducible first | exact HI0.out | apply IsS96.alloc | apply IsS96.drewN | apply IsS96.drew | apply IsS96.set_1 | apply IsS96.set_2) | exact HI0.out)); (case side2 => repeat (first | (with_reducible first | exact HB.out | apply below_alloc | apply pw_below_drewN | apply below_drew1 | refine below_set ?_ (IsS96.ge HI0.out)) | exact HB.out)); rintro e w11 ⟨rfl, hi, hb, hk⟩; refine ⟨_, rfl, ?_⟩; replace HK := A_ (KeepBut.trans (by repeat (first | (with_reducible first | exact HK.out | apply KeepBut.set_ | apply keep_drewN | apply keep_drew | apply keep_alloc) | exact HK.out)) hk (.inl rfl)); replace HB := A_ (hb); replace HI0 := A_ (hi); (try clear hb); (try clear hb2); (try clear hk); (try clear hi)))
        go_ret
        exact ⟨e1_, by repeat (first | (with_reducible first | exact HI0.out | apply IsS96.alloc | apply IsS96.drewN | apply IsS96.drew | apply IsS96.set_1 | apply IsS96.set_2) | exact HI0.out), by repeat (first | (with_reducible first | exact HB.out | apply below_alloc | apply pw_below_drewN | apply below_drew1 | refine below_set ?_ (IsS96.ge HI0.out)) | exact HB.out), by repeat (first | (with_reducible first | exact HK.out | apply KeepBut.set_ | apply keep_drewN | apply keep_drew | apply keep_alloc) | exact HK.out)⟩

/-! ### spec_l01DrawMember: function 89 -/
def spec_l01DrawMember.f (s0_0 : List Int) (s0_1 : Int) (s0_2 : Int) : Option (Int × Int × Int) := (spec_l00Src_pick.f s0_0 s0_1 s0_2 5).bind fun bt270 => (some (wrap64 (1 + bt270.1), bt270.2.1, bt270.2.2))
set_option maxHeartbeats 8000000 in
set_option maxRecDepth 100000 in
theorem spec_l01DrawMember.calls (g : Nat) (s0_0 : List Int) (s0_1 : Int) (s0_2 : Int) (r1 : Int) (r2 : Int) (r3 : Int) (w0 w : World) (hI : IsS96 w0 w g s0_0 s0_1 s0_2) (hB : Below w0.heap.size w0 w) (h : spec_l01DrawMember.f s0_0 s0_1 s0_2 = some (r1, r2, r3)) :
    Calls Try.prog 89 #[.pointer (some ⟨g, 0, none⟩)] w fun e w' => e = .returned (.int .i64 r1) ∧ IsS96 w0 w' g s0_0 r2 r3 ∧ Below w0.heap.size w0 w' ∧ KeepBut w w' g none := by
  have HI0 := A_ hI
  have HK := A_ (KeepBut.refl w g none)
  have HL := A_ hB.size
  clear hI
  have HW0 := A_ hB.size
  have HB := A_ hB
  clear hB
  have H : ((spec_l00Src_pick.f s0_0 s0_1 s0_2 5).bind fun bt270 => (some (wrap64 (1 + bt270.1), bt270.2.1, bt270.2.2))) = some (r1, r2, r3) := h
  clear h
  replace H := Option.bind_eq_some_iff.mp H
  obtain ⟨⟨t270, t271, t272⟩, A20, H⟩ := H
  replace H : (some (wrap64 (1 + t270), t271, t272)) = some (r1, r2, r3) := H
  have A2 := A_ A20
  clear A20
  simp only [Option.some.injEq, Prod.mk.injEq] at H
  obtain ⟨rfl, rfl, rfl⟩ := H
  go_enter Try.func89, Try.ntmps89
  go_wp2_with (first | ((with_reducible refine gate_callee (f := 88) rfl ?_); refine goesL_ (some 4) rfl rfl Try.func88 (by kernel_rfl) rfl #[.pointer (some ⟨g, 0, none⟩), .int .i64 5] rfl (by (try simp only [List.map_toArray, List.map_cons, List.map_nil]); first | done | rfl | (simp only [List.length_drop, List.length_take]; rfl)) ?_; (with_reducible refine (spec_l00Src_pick.calls g s0_0 s0_1 s0_2 5 t270 t271 t272 w0 _ ?side1 ?side2 A2.out).mono ?_); (case side1 => repeat (first | (with_reducible first | exact HI0.out | apply IsS96.alloc | apply IsS96.drewN | apply IsS96.drew | apply IsS96.set_1 | apply IsS96.set_2) | exact HI0.out)); (case side2 => repeat (first | (with_reducible first | exact HB.out | apply below_alloc | apply pw_below_drewN | apply below_drew1 | refine below_set ?_ (IsS96.ge HI0.out)) | exact HB.out)); rintro e w3 ⟨rfl, hi, hb, hk⟩; refine ⟨_, rfl, ?_⟩; replace HK := A_ (KeepBut.trans (by repeat (first | (with_reducible first | exact HK.out | apply KeepBut.set_ | apply keep_drewN | apply keep_drew | apply keep_alloc) | exact HK.out)) hk (.inl rfl)); replace HB := A_ (hb); replace HI0 := A_ (hi); (try clear hb); (try clear hb2); (try clear hk); (try clear hi)))
  go_ret
  exact ⟨e1_, by repeat (first | (with_reducible first | exact HI0.out | apply IsS96.alloc | apply IsS96.drewN | apply IsS96.drew | apply IsS96.set_1 | apply IsS96.set_2) | exact HI0.out), by repeat (first | (with_reducible first | exact HB.out | apply below_alloc | apply pw_below_drewN | apply below_drew1 | refine below_set ?_ (IsS96.ge HI0.out)) | exact HB.out), by repeat (first | (with_reducible first | exact HK.out | apply KeepBut.set_ | apply keep_drewN | apply keep_drew | apply keep_alloc) | exact HK.out)⟩

/-- A presence's three rows, as one of the pool's. -/
def rp (base : Nat) (A0 : Option Addr) (n0 c0 : Nat) (a : List S63) (A1 : Option Addr) (n1 c1 : Nat) (b : List S63) (A2 : Option Addr) (n2 c2 : Nat) (c : List S73) : Res := rtri k63 63 k63 63 k73 73 base (.slice A0 n0 c0) (.slice A1 n1 c1) (.slice A2 n2 c2) a b c
section
variable {w0 w w1 : World} {L : List Res} {A0 A1 A2 B0 B1 B2 : Option Addr} {n0 n1 n2 m0 m1 m2 c0 c1 c2 d0 d1 d2 : Nat} {a b x y : List S63} {c z : List S73}
theorem rp_new (P : Pool w0 w L) (hb : Below w.heap.size w w1) {v0 v1 v2 : Value} {o0 o1 o2 : Nat → Prop} (h0 : Kd.R k63 63 w1 w.heap.size o0 v0 a) (h1 : Kd.R k63 63 w1 w.heap.size o1 v1 b) (h2 : Kd.R k73 73 w1 w.heap.size o2 v2 c) (hd : ∀ k, o0 k → some k ≠ v1.ownBlock) :
    ∃ A0 c0 A1 c1 A2 c2, v0 = .slice A0 a.length c0 ∧ v1 = .slice A1 b.length c1 ∧ v2 = .slice A2 c.length c2 ∧ Pool w0 w1 (L ++ [rp w0.heap.size A0 a.length c0 a A1 b.length c1 b A2 c.length c2 c]) := by
  obtain ⟨A0, c0, rfl⟩ := Kd.R_slice h0
  obtain ⟨A1, c1, rfl⟩ := Kd.R_slice h1
  obtain ⟨A2, c2, rfl⟩ := Kd.R_slice h2
  refine ⟨A0, c0, A1, c1, A2, c2, rfl, rfl, rfl, P.add hb _ ⟨?_, ?_, ?_, fun k e => hd k (h0.1 k e.symm)⟩⟩
  · exact Kd.R_lower (Kd.R_mono (Kd.R_bound (Kd.R_tight rfl h0)) (fun k hk => ⟨⟨hk.2.1, hk.2.2.1⟩, hk.1⟩)) (below_size P.1)
  · exact Kd.R_lower (Kd.R_mono (Kd.R_bound (Kd.R_tight rfl h1)) (fun k hk => ⟨⟨hk.2.1, hk.2.2.1⟩, hk.1⟩)) (below_size P.1)
  · exact Kd.R_lower (Kd.R_mono (Kd.R_bound (Kd.R_tight rfl h2)) (fun k hk => ⟨⟨hk.2.1, hk.2.2.1⟩, hk.1⟩)) (below_size P.1)
theorem rp_at (P : Pool w0 w L) (i : Nat) (hi : L[i]? = some (rp w0.heap.size A0 n0 c0 a A1 n1 c1 b A2 n2 c2 c)) : n0 = a.length ∧ n1 = b.length ∧ n2 = c.length := by
  obtain ⟨ok, h0, h1, h2, _⟩ := P.get i _ hi
  exact ⟨(Kd.R_reads' h0).1, (Kd.R_reads' h1).1, (Kd.R_reads' h2).1⟩
theorem rp_c (P : Pool w0 w L) (i : Nat) (hi : L[i]? = some (rp w0.heap.size A0 a.length c0 a A1 b.length c1 b A2 c.length c2 c)) : Kd.C k63 w A0 a.length a ∧ a.length ≤ c0 ∧ Kd.C k63 w A1 b.length b ∧ b.length ≤ c1 ∧ Kd.C k73 w A2 c.length c ∧ c.length ≤ c2 := by
  obtain ⟨ok, h0, h1, h2, _⟩ := P.get i _ hi
  exact ⟨(Kd.R_reads' h0).2.2, (Kd.R_reads' h0).2.1, (Kd.R_reads' h1).2.2, (Kd.R_reads' h1).2.1, (Kd.R_reads' h2).2.2, (Kd.R_reads' h2).2.1⟩
end
/-- A pool beside a state that is written: all made since w0, the state older. -/
def PoolK (w00 : World) (g : Nat) (s : List Int) (a b : Int) (w0 w : World) (L : List Res) : Prop :=
  (Below w00.heap.size w00 w ∧ w00.heap.size ≤ w0.heap.size ∧ g < w0.heap.size ∧ IsS96 w00 w g s a b ∧ KeepBut w0 w g none) ∧ ∃ c : Nat → Nat, ∀ (i : Nat) (r : Res), L[i]? = some r → r.F w (fun k => c k = i ∧ w0.heap.size ≤ k ∧ k < w.heap.size)
section
variable {w00 w0 w w1 : World} {g : Nat} {s : List Int} {a b a' b' : Int} {L : List Res}
theorem IsS96.same (h : IsS96 w00 w g s a b) (e : w1.heap[g]? = w.heap[g]?) : IsS96 w00 w1 g s a b := by
  obtain ⟨A, c, h1, h2⟩ := h
  exact ⟨A, c, e.trans h1, h2⟩
theorem PoolK.nil (hI : IsS96 w00 w g s a b) (hB : Below w00.heap.size w00 w) : PoolK w00 g s a b w w [] := by
  refine ⟨⟨hB, hB.size, ?_, hI, KeepBut.refl _ _ _⟩, fun _ => 0, fun i r h => by simp at h⟩
  obtain ⟨A, c, h1, _⟩ := hI
  exact blk_lt h1
theorem PoolK.turn (h : PoolK w00 g s a b w0 w L) (hI : IsS96 w00 w1 g s a' b') (hB : Below w00.heap.size w00 w1) (hk : KeepBut w w1 g none) : PoolK w00 g s a' b' w0 w1 L := by
  obtain ⟨⟨h1, h2, h3, h4, h5⟩, c, hc⟩ := h
  refine ⟨⟨hB, h2, h3, hI, h5.trans hk (.inl rfl)⟩, c, fun i r hi => ?_⟩
  have hst : r.F w1 (fun k => c k = i ∧ w0.heap.size ≤ k ∧ k < w.heap.size) := r.step (hc i r hi) (fun k hq hlt => hk.2 k hlt (by have := hq.2.1; omega) (by simp))
  exact r.mono hst (fun k hq => ⟨hq.1, hq.2.1, Nat.lt_of_lt_of_le hq.2.2 hk.1⟩)
theorem PoolK.below (h : PoolK w00 g s a b w0 w L) (hb : Below w.heap.size w w1) : PoolK w00 g s a b w0 w1 L :=
  h.turn (h.1.2.2.2.1.same (hb.block g (by obtain ⟨_, _, e, _⟩ := h.1.2.2.2.1; exact blk_lt e))) (below_step h.1.1 hb) (KeepBut.of_below hb _ _)
theorem PoolK.add (h : PoolK w00 g s a b w0 w L) (hb : Below w.heap.size w w1) (r : Res) (hr : r.F w1 (fun k => w.heap.size ≤ k ∧ k < w1.heap.size)) : PoolK w00 g s a b w0 w1 (L ++ [r]) := by
  obtain ⟨h1, c, hc⟩ := h.below hb
  obtain ⟨h0, c0, hc0⟩ := h
  have hs := h0.2.2.2.2.1
  refine ⟨h1, fun k => if k < w.heap.size then c0 k else L.length, fun i q hi => ?_⟩
  rcases Nat.lt_or_ge i L.length with hlt | hge
  · rw [List.getElem?_append_left hlt] at hi
    refine q.mono (q.step (hc0 i q hi) (fun k hk hlt => hb.block k hlt)) (fun k hk => ⟨?_, hk.2.1, Nat.lt_of_lt_of_le hk.2.2 (below_size hb)⟩)
    simp only [if_pos hk.2.2]
    exact hk.1
  · rw [List.getElem?_append_right hge] at hi
    match he : i - L.length, hi with
    | 0, hi =>
      obtain rfl : r = q := by simpa using hi
      refine r.mono hr (fun k hk => ⟨?_, Nat.le_trans hs hk.1, hk.2⟩)
      simp only [if_neg (Nat.not_lt.mpr hk.1)]
      omega
    | n + 1, hi => simp at hi
theorem PoolK.box {g1 : Nat} {cs : Array Value} {t : TypeId} (h : PoolK w00 g s a b w0 w L) (hg : g1 = w.heap.size) (hbox : w1.heap[g1]? = some (.cells cs t (0, 0))) (hb : Below w.heap.size w w1) : PoolK w00 g s a b w0 w1 (L ++ [rbox g1 cs t]) :=
  h.add hb _ ⟨⟨Nat.le_of_eq hg.symm, blk_lt hbox⟩, hbox⟩
theorem PoolK.own (h : PoolK w00 g s a b w0 w L) (i : Nat) (r : Res) (hi : L[i]? = some r) : ∃ ok : Nat → Prop, r.F w ok := by
  obtain ⟨_, c, hc⟩ := h
  exact ⟨_, hc i r hi⟩
theorem PoolK.cell {g1 : Nat} {cs : Array Value} {t : TypeId} (h : PoolK w00 g s a b w0 w L) (i : Nat) (hi : L[i]? = some (rbox g1 cs t)) : w.heap[g1]? = some (.cells cs t (0, 0)) := by
  obtain ⟨ok, h1⟩ := h.own i _ hi
  exact h1.2
theorem PoolK.c3 {g1 : Nat} {x y z : Value} {t : TypeId} (h : PoolK w00 g s a b w0 w L) (i : Nat) (hi : L[i]? = some (rbox g1 #[x, y, z] t)) : w.cell? ⟨g1, 0, none⟩ = some x ∧ w.cell? ⟨g1, 1, none⟩ = some y ∧ w.cell? ⟨g1, 2, none⟩ = some z ∧ w.frozen? ⟨g1, 0, none⟩ = false ∧ w.frozen? ⟨g1, 1, none⟩ = false ∧ w.frozen? ⟨g1, 2, none⟩ = false := by
  have hc := h.cell i hi
  exact ⟨(blk_cell hc 0).trans rfl, (blk_cell hc 1).trans rfl, (blk_cell hc 2).trans rfl, blk_frozen hc 0, blk_frozen hc 1, blk_frozen hc 2⟩
theorem PoolK.set3 {g1 : Nat} {x y z x' y' z' : Value} {t : TypeId} (h : PoolK w00 g s a b w0 w L) (i : Nat) (hi : L[i]? = some (rbox g1 #[x, y, z] t)) : PoolK w00 g s a b w0 (((w.setCell ⟨g1, 0, none⟩ x').setCell ⟨g1, 1, none⟩ y').setCell ⟨g1, 2, none⟩ z') (L.set i (rbox g1 #[x', y', z'] t)) := by
  have hc := h.cell i hi
  have hw : (((w.setCell ⟨g1, 0, none⟩ x').setCell ⟨g1, 1, none⟩ y').setCell ⟨g1, 2, none⟩ z').heap[g1]? = some (.cells #[x', y', z'] t (0, 0)) := blk_put (blk_put (blk_put hc 0 x' rfl) 1 y' rfl) 2 z' rfl
  have hf : ∀ k, k ≠ g1 → (((w.setCell ⟨g1, 0, none⟩ x').setCell ⟨g1, 1, none⟩ y').setCell ⟨g1, 2, none⟩ z').heap[k]? = w.heap[k]? := fun k hk => by rw [Below.heap_setCell _ _ _ _ hk, Below.heap_setCell _ _ _ _ hk, Below.heap_setCell _ _ _ _ hk]
  have hz : (((w.setCell ⟨g1, 0, none⟩ x').setCell ⟨g1, 1, none⟩ y').setCell ⟨g1, 2, none⟩ z').heap.size = w.heap.size := by simp
  obtain ⟨⟨h1, h2, h3, h4, h5⟩, c, hcc⟩ := h
  have hg := (hcc i _ hi).1
  have hg0 : w00.heap.size ≤ g1 := Nat.le_trans h2 hg.2.1
  refine ⟨⟨below_set (below_set (below_set h1 hg0) hg0) hg0, h2, h3, h4.same (hf g (by have := hg.2.1; omega)), ⟨by rw [hz]; exact h5.1, fun k hk hn hr => (hf k (by have := hg.2.1; omega)).trans (h5.2 k hk hn hr)⟩⟩, c, fun j q hj => ?_⟩
  rw [hz]
  rw [List.getElem?_set] at hj
  by_cases e : i = j
  · subst e
    rw [if_pos rfl] at hj
    split at hj
    · obtain rfl : rbox g1 #[x', y', z'] t = q := by simpa using hj
      exact ⟨hg, hw⟩
    · cases hj
  · rw [if_neg e] at hj
    refine q.step (hcc j q hj) (fun k hk hlt => hf k (fun e2 => ?_))
    subst e2
    exact e (hg.1.symm.trans hk.1)
theorem PoolK.pick (h : PoolK w00 g s a b w0 w L) (is : List Nat) (L' : List Res) (hn : is.Nodup) (he : is.map (fun i => L[i]?) = L'.map some) : PoolK w00 g s a b w0 w L' := by
  obtain ⟨h0, c, hc⟩ := h
  have inj : ∀ (j j' i : Nat), is[j]? = some i → is[j']? = some i → j = j' := by
    intro j j' i h1 h2
    obtain ⟨a1, b1⟩ := List.getElem?_eq_some_iff.mp h1
    obtain ⟨a2, b2⟩ := List.getElem?_eq_some_iff.mp h2
    rcases Nat.lt_trichotomy j j' with e | e | e
    · exact absurd (b1.trans b2.symm) (List.pairwise_iff_getElem.mp hn j j' a1 a2 e)
    · exact e
    · exact absurd (b2.trans b1.symm) (List.pairwise_iff_getElem.mp hn j' j a2 a1 e)
  refine ⟨h0, fun k => open Classical in if q : ∃ j, is[j]? = some (c k) then q.choose else is.length, fun j r hj => ?_⟩
  have e1 : (L'.map some)[j]? = some (some r) := by rw [List.getElem?_map, hj]; rfl
  rw [← he, List.getElem?_map] at e1
  obtain ⟨i, hi, hr⟩ := Option.map_eq_some_iff.mp e1
  refine r.mono (hc i r hr) (fun k hk => ⟨?_, hk.2⟩)
  have q : ∃ j, is[j]? = some (c k) := ⟨j, by rw [hk.1]; exact hi⟩
  show (open Classical in if q : ∃ j, is[j]? = some (c k) then q.choose else is.length) = j
  rw [dif_pos q]
  exact inj _ _ i (q.choose_spec.trans (by rw [hk.1])) hi
theorem st3K {Pr : Program} {ops : Array Oper} {rest : List Oper} {o : Oper} {ac : Act} {Q : Exit → Act → World → Prop} {g1 p : Nat} {x0 y0 z0 x y z : Value} {t t' : TypeId} {v : Operand} (h : PoolK w00 g s a b w0 w L) (i : Nat) (hi : L[i]? = some (rbox g1 #[x0, y0, z0] t)) (hgd : o.guard = none) (ho : o.op = .store t' (.tmp p) v) (hN : o.dst = none)
    (hrun : (execOp ac.eval o).run Pr w = .ok .skip (((w.setCell ⟨g1, 0, none⟩ x).setCell ⟨g1, 1, none⟩ y).setCell ⟨g1, 2, none⟩ z)) (hk : ∀ w', PoolK w00 g s a b w0 w' (L.set i (rbox g1 #[x, y, z] t)) → wpList Pr ops Q rest ac w') : wpList Pr ops Q (o :: rest) ac w :=
  store_event hgd ho hN hrun (fun w' e => e ▸ hk _ (h.set3 i hi))
variable {A0 A1 A2 : Option Addr} {n0 n1 n2 c0 c1 c2 : Nat} {x y : List S63} {z : List S73}
theorem pickK (q r a1 b1 : Int) (P : PoolK w00 g s a b w0 w L) (h : spec_l00Src_pick.f s a b q = some (r, a1, b1)) :
    Calls Try.prog 88 #[.pointer (some ⟨g, 0, none⟩), .int .i64 q] w fun e w' => e = .returned (.int .i64 r) ∧ PoolK w00 g s a1 b1 w0 w' L := by
  refine (spec_l00Src_pick.calls g s a b q r a1 b1 w00 w P.1.2.2.2.1 P.1.1 h).mono ?_
  rintro e w' ⟨rfl, hI, hB, hk⟩
  exact ⟨rfl, P.turn hI hB hk⟩
theorem memberK (r a1 b1 : Int) (P : PoolK w00 g s a b w0 w L) (h : spec_l01DrawMember.f s a b = some (r, a1, b1)) :
    Calls Try.prog 89 #[.pointer (some ⟨g, 0, none⟩)] w fun e w' => e = .returned (.int .i64 r) ∧ PoolK w00 g s a1 b1 w0 w' L := by
  refine (spec_l01DrawMember.calls g s a b r a1 b1 w00 w P.1.2.2.2.1 P.1.1 h).mono ?_
  rintro e w' ⟨rfl, hI, hB, hk⟩
  exact ⟨rfl, P.turn hI hB hk⟩
theorem rp_newK (P : PoolK w00 g s a b w0 w L) (hb : Below w.heap.size w w1) {v0 v1 v2 : Value} {o0 o1 o2 : Nat → Prop} (h0 : Kd.R k63 63 w1 w.heap.size o0 v0 x) (h1 : Kd.R k63 63 w1 w.heap.size o1 v1 y) (h2 : Kd.R k73 73 w1 w.heap.size o2 v2 z) (hd : ∀ k, o0 k → some k ≠ v1.ownBlock) :
    ∃ A0 c0 A1 c1 A2 c2, v0 = .slice A0 x.length c0 ∧ v1 = .slice A1 y.length c1 ∧ v2 = .slice A2 z.length c2 ∧ PoolK w00 g s a b w0 w1 (L ++ [rp w0.heap.size A0 x.length c0 x A1 y.length c1 y A2 z.length c2 z]) := by
  obtain ⟨A0, c0, rfl⟩ := Kd.R_slice h0
  obtain ⟨A1, c1, rfl⟩ := Kd.R_slice h1
  obtain ⟨A2, c2, rfl⟩ := Kd.R_slice h2
  have hs := P.1.2.2.2.2.1
  refine ⟨A0, c0, A1, c1, A2, c2, rfl, rfl, rfl, P.add hb _ ⟨?_, ?_, ?_, fun k e => hd k (h0.1 k e.symm)⟩⟩
  · exact Kd.R_lower (Kd.R_mono (Kd.R_bound (Kd.R_tight rfl h0)) (fun k hk => ⟨⟨hk.2.1, hk.2.2.1⟩, hk.1⟩)) hs
  · exact Kd.R_lower (Kd.R_mono (Kd.R_bound (Kd.R_tight rfl h1)) (fun k hk => ⟨⟨hk.2.1, hk.2.2.1⟩, hk.1⟩)) hs
  · exact Kd.R_lower (Kd.R_mono (Kd.R_bound (Kd.R_tight rfl h2)) (fun k hk => ⟨⟨hk.2.1, hk.2.2.1⟩, hk.1⟩)) hs
theorem typeK (k : Nat) (q1 q2 : Int) (x' y' : List S63) (z' : List S73) (ok : Bool) (P : PoolK w00 g s a b w0 w L) (i j : Nat) {g1 : Nat} (hi : L[i]? = some (rbox g1 #[.slice A0 n0 c0, .slice A1 n1 c1, .slice A2 n2 c2] 27)) (hj : L[j]? = some (rp w0.heap.size A0 n0 c0 x A1 n1 c1 y A2 n2 c2 z)) (h : spec_l05Type.f k x y z q1 q2 = some (x', y', z', ok)) :
    Calls Try.prog 79 #[.pointer (some ⟨g1, 0, none⟩), .int .i64 q1, .int .i64 q2] w fun e w' => ∃ D0 d0 D1 d1 D2 d2, e = .returned (.tuple #[.agg #[.slice D0 x'.length d0, .slice D1 y'.length d1, .slice D2 z'.length d2], .bool ok]) ∧ PoolK w00 g s a b w0 w' (L ++ [rp w0.heap.size D0 x'.length d0 x' D1 y'.length d1 y' D2 z'.length d2 z']) := by
  obtain ⟨ok_, p0, p1, p2, _⟩ := P.own j _ hj
  obtain ⟨rfl, e0, f0⟩ := Kd.R_reads' p0
  obtain ⟨rfl, e1, f1⟩ := Kd.R_reads' p1
  obtain ⟨rfl, e2, f2⟩ := Kd.R_reads' p2
  refine (spec_l05Type.calls k g1 _ _ x _ _ y _ _ z q1 q2 x' y' z' ok w (P.cell i hi) f0 e0 f1 e1 f2 e2 h).mono ?_
  rintro e w' ⟨v0, v1, v2, rfl, h0, h1, h2, hb⟩
  obtain ⟨D0, d0, D1, d1, D2, d2, rfl, rfl, rfl, Q⟩ := rp_newK P hb h0 h1 h2 (fun _ hk => hk)
  exact ⟨D0, d0, D1, d1, D2, d2, rfl, Q⟩
theorem readK (k : Nat) (q1 q2 : Int) (x' y' : List S63) (z' : List S73) (ok : Bool) (P : PoolK w00 g s a b w0 w L) (i j : Nat) {g1 : Nat} (hi : L[i]? = some (rbox g1 #[.slice A0 n0 c0, .slice A1 n1 c1, .slice A2 n2 c2] 27)) (hj : L[j]? = some (rp w0.heap.size A0 n0 c0 x A1 n1 c1 y A2 n2 c2 z)) (h : spec_l05ReadUp.f k x y z q1 q2 = some (x', y', z', ok)) :
    Calls Try.prog 76 #[.pointer (some ⟨g1, 0, none⟩), .int .i64 q1, .int .i64 q2] w fun e w' => ∃ D0 d0 D1 d1 D2 d2, e = .returned (.tuple #[.agg #[.slice D0 x'.length d0, .slice D1 y'.length d1, .slice D2 z'.length d2], .bool ok]) ∧ PoolK w00 g s a b w0 w' (L ++ [rp w0.heap.size D0 x'.length d0 x' D1 y'.length d1 y' D2 z'.length d2 z']) := by
  obtain ⟨ok_, p0, p1, p2, _⟩ := P.own j _ hj
  obtain ⟨rfl, e0, f0⟩ := Kd.R_reads' p0
  obtain ⟨rfl, e1, f1⟩ := Kd.R_reads' p1
  obtain ⟨rfl, e2, f2⟩ := Kd.R_reads' p2
  refine (spec_l05ReadUp.calls k g1 _ _ x _ _ y _ _ z q1 q2 x' y' z' ok w (P.cell i hi) f0 e0 f1 e1 f2 e2 h).mono ?_
  rintro e w' ⟨v0, v1, v2, rfl, h0, h1, h2, hb⟩
  obtain ⟨D0, d0, D1, d1, D2, d2, rfl, rfl, rfl, Q⟩ := rp_newK P hb h0 h1 h2 (fun _ hk => hk)
  exact ⟨D0, d0, D1, d1, D2, d2, rfl, Q⟩
theorem beatK (k : Nat) (q1 q2 q3 : Int) (x' y' : List S63) (z' : List S73) (ok : Bool) (P : PoolK w00 g s a b w0 w L) (i j : Nat) {g1 : Nat} (hi : L[i]? = some (rbox g1 #[.slice A0 n0 c0, .slice A1 n1 c1, .slice A2 n2 c2] 27)) (hj : L[j]? = some (rp w0.heap.size A0 n0 c0 x A1 n1 c1 y A2 n2 c2 z)) (h : spec_l05Beat.f k x y z q1 q2 q3 = some (x', y', z', ok)) :
    Calls Try.prog 75 #[.pointer (some ⟨g1, 0, none⟩), .int .i64 q1, .int .i64 q2, .int .i64 q3] w fun e w' => ∃ D0 d0 D1 d1 D2 d2, e = .returned (.tuple #[.agg #[.slice D0 x'.length d0, .slice D1 y'.length d1, .slice D2 z'.length d2], .bool ok]) ∧ PoolK w00 g s a b w0 w' (L ++ [rp w0.heap.size D0 x'.length d0 x' D1 y'.length d1 y' D2 z'.length d2 z']) := by
  obtain ⟨ok_, p0, p1, p2, _⟩ := P.own j _ hj
  obtain ⟨rfl, e0, f0⟩ := Kd.R_reads' p0
  obtain ⟨rfl, e1, f1⟩ := Kd.R_reads' p1
  obtain ⟨rfl, e2, f2⟩ := Kd.R_reads' p2
  refine (spec_l05Beat.calls k g1 _ _ x _ _ y _ _ z q1 q2 q3 x' y' z' ok w (P.cell i hi) f0 e0 f1 e1 f2 e2 h).mono ?_
  rintro e w' ⟨v0, v1, v2, rfl, h0, h1, h2, hb⟩
  obtain ⟨D0, d0, D1, d1, D2, d2, rfl, rfl, rfl, Q⟩ := rp_newK P hb h0 h1 h2 (fun _ hk => hk)
  exact ⟨D0, d0, D1, d1, D2, d2, rfl, Q⟩
theorem nilK (P : PoolK w00 g s a b w0 w L) : PoolK w00 g s a b w0 w (L ++ [rp w0.heap.size none 0 0 [] none 0 0 [] none 0 0 []]) :=
  P.add (Below.refl _ _) _ ⟨Kd.R_nil _ _ _ _ _, Kd.R_nil _ _ _ _ _, Kd.R_nil _ _ _ _ _, fun k e => by simp [Value.ownBlock] at e⟩
theorem outK (P : PoolK w00 g s a b w0 w L) (j : Nat) (hj : L[j]? = some (rp w0.heap.size A0 n0 c0 x A1 n1 c1 y A2 n2 c2 z)) :
    ∃ v0_ v1_ v2_ : Value, Ending.returned (.agg #[.slice A0 n0 c0, .slice A1 n1 c1, .slice A2 n2 c2]) = .returned (.agg #[v0_, v1_, v2_]) ∧ Kd.R k63 63 w w0.heap.size (fun k_ => some k_ ≠ (v1_ : Value).ownBlock) v0_ x ∧ Kd.R k63 63 w w0.heap.size (fun k_ => some k_ ≠ (v0_ : Value).ownBlock) v1_ y ∧ Kd.R k73 73 w w0.heap.size (fun _ => True) v2_ z ∧ IsS96 w00 w g s a b ∧ Below w00.heap.size w00 w ∧ KeepBut w0 w g none := by
  obtain ⟨ok, h0, h1, h2, h3⟩ := P.own j _ hj
  exact ⟨_, _, _, rfl, Kd.R_mono h0 (fun k hk => h3 k hk.2), Kd.R_mono h1 (fun k hk e => h3 k e hk.2), Kd.R_mono h2 (fun _ _ => trivial), P.1.2.2.2.1, P.1.1, P.1.2.2.2.2⟩
end
/-! ### spec_l05DrawOk: function 41 -/
abbrev spec_l05DrawOk.T : Bool := true
abbrev spec_l05DrawOk.F : Bool := false
def spec_l05DrawOk.l0 : Nat → Int → Int → List Int → Int → Int → List (S63) → List (S63) → List (S73) → Option ((List (S63)) × (List (S63)) × (List (S73)) × Int × Int)
  | 0, _, _, _, _, _, _, _, _ => none
  | k + 1, x4, x5, x1000, x1001, x1002, x275000, x275001, x275002 => if x5 > 0 then ((spec_l01DrawMember.f x1000 x1001 x1002).bind fun bt281 => ((spec_l00Src_pick.f x1000 bt281.2.1 bt281.2.2 4).bind fun bt285 => (if bt285.1 = 0 then ((spec_l05Type.f k x275000 x275001 x275002 bt281.1 x4).bind fun bt288 => (if bt288.2.2.2 = true then ((spec_l00Src_pick.f x1000 bt285.2.1 bt285.2.2 3).bind fun bt298 => (spec_l05DrawOk.l0 k (wrap64 (x4 + bt298.1)) (wrap64 (x5 - 1)) x1000 bt298.2.1 bt298.2.2 bt288.1 bt288.2.1 bt288.2.2.1)) else ((spec_l00Src_pick.f x1000 bt285.2.1 bt285.2.2 3).bind fun bt301 => (spec_l05DrawOk.l0 k (wrap64 (x4 + bt301.1)) (wrap64 (x5 - 1)) x1000 bt301.2.1 bt301.2.2 x275000 x275001 x275002)))) else (if bt285.1 = 1 then ((spec_l00Src_pick.f x1000 bt285.2.1 bt285.2.2 12).bind fun bt304 => ((spec_l05ReadUp.f k x275000 x275001 x275002 bt281.1 bt304.1).bind fun bt307 => (if bt307.2.2.2 = true then ((spec_l00Src_pick.f x1000 bt304.2.1 bt304.2.2 3).bind fun bt317 => (spec_l05DrawOk.l0 k (wrap64 (x4 + bt317.1)) (wrap64 (x5 - 1)) x1000 bt317.2.1 bt317.2.2 bt307.1 bt307.2.1 bt307.2.2.1)) else ((spec_l00Src_pick.f x1000 bt304.2.1 bt304.2.2 3).bind fun bt320 => (spec_l05DrawOk.l0 k (wrap64 (x4 + bt320.1)) (wrap64 (x5 - 1)) x1000 bt320.2.1 bt320.2.2 x275000 x275001 x275002))))) else ((spec_l00Src_pick.f x1000 bt285.2.1 bt285.2.2 12).bind fun bt323 => ((spec_l05Beat.f k x275000 x275001 x275002 bt281.1 x4 (wrap64 (1 + bt323.1))).bind fun bt326 => (if bt326.2.2.2 = true then ((spec_l00Src_pick.f x1000 bt323.2.1 bt323.2.2 3).bind fun bt336 => (spec_l05DrawOk.l0 k (wrap64 (x4 + bt336.1)) (wrap64 (x5 - 1)) x1000 bt336.2.1 bt336.2.2 bt326.1 bt326.2.1 bt326.2.2.1)) else ((spec_l00Src_pick.f x1000 bt323.2.1 bt323.2.2 3).bind fun bt339 => (spec_l05DrawOk.l0 k (wrap64 (x4 + bt339.1)) (wrap64 (x5 - 1)) x1000 bt339.2.1 bt339.2.2 x275000 x275001 x275002))))))))) else (some (x275000, x275001, x275002, x1001, x1002))
def spec_l05DrawOk.f (k : Nat) (s0_0 : List Int) (s0_1 : Int) (s0_2 : Int) : Option ((List (S63)) × (List (S63)) × (List (S73)) × Int × Int) := (spec_l00Src_pick.f s0_0 s0_1 s0_2 10).bind fun bt275 => ((spec_l00Src_pick.f s0_0 bt275.2.1 bt275.2.2 10).bind fun bt278 => (spec_l05DrawOk.l0 k bt275.1 bt278.1 s0_0 bt278.2.1 bt278.2.2 ([] : List (S63)) ([] : List (S63)) ([] : List (S73))))
theorem spec_l05DrawOk.mono_l : ∀ k, (∀ y0 y1 y2 y3 y4 y5 y6 y7, LeO (spec_l05DrawOk.l0 k y0 y1 y2 y3 y4 y5 y6 y7) (spec_l05DrawOk.l0 (k + 1) y0 y1 y2 y3 y4 y5 y6 y7))
  | 0 => fun _ _ _ _ _ _ _ _ r h => by simp [spec_l05DrawOk.l0] at h
  | k + 1 => by
    have ih0 := spec_l05DrawOk.mono_l k
    · intro y0 y1 y2 y3 y4 y5 y6 y7
      unfold spec_l05DrawOk.l0
      repeat' first
      | (with_reducible exact ih0 _ _ _ _ _ _ _ _)
      | (with_reducible exact spec_l05Beat.mono _ _ _ _ _ _ _)
      | (with_reducible exact spec_l05ReadUp.mono _ _ _ _ _ _)
      | (with_reducible exact spec_l05Type.mono _ _ _ _ _ _)
      | (with_reducible exact LeO.refl _)
      | (with_reducible exact LeO.none _)
      | (with_reducible refine LeO.ite ?_ ?_)
      | (with_reducible refine LeO.bind ?_ (fun _ => ?_))
      | exact ih0 _ _ _ _ _ _ _ _
      | exact spec_l05Beat.mono _ _ _ _ _ _ _
      | exact spec_l05ReadUp.mono _ _ _ _ _ _
      | exact spec_l05Type.mono _ _ _ _ _ _
      | exact LeO.none _
      | refine LeO.ite ?_ ?_
      | refine LeO.bind ?_ (fun _ => ?_)
theorem spec_l05DrawOk.mono : ∀ a0 a1 a2 k, LeO (spec_l05DrawOk.f k a0 a1 a2) (spec_l05DrawOk.f (k + 1) a0 a1 a2) := by
  intro a0 a1 a2 k
  have ih0 := spec_l05DrawOk.mono_l k
  unfold spec_l05DrawOk.f
  repeat' first
      | (with_reducible exact ih0 _ _ _ _ _ _ _ _)
      | (with_reducible exact spec_l05Beat.mono _ _ _ _ _ _ _)
      | (with_reducible exact spec_l05ReadUp.mono _ _ _ _ _ _)
      | (with_reducible exact spec_l05Type.mono _ _ _ _ _ _)
      | (with_reducible exact LeO.refl _)
      | (with_reducible exact LeO.none _)
      | (with_reducible refine LeO.ite ?_ ?_)
      | (with_reducible refine LeO.bind ?_ (fun _ => ?_))
      | exact ih0 _ _ _ _ _ _ _ _
      | exact spec_l05Beat.mono _ _ _ _ _ _ _
      | exact spec_l05ReadUp.mono _ _ _ _ _ _
      | exact spec_l05Type.mono _ _ _ _ _ _
      | exact LeO.none _
      | refine LeO.ite ?_ ?_
      | refine LeO.bind ?_ (fun _ => ?_)
set_option maxHeartbeats 40000000 in
set_option maxRecDepth 100000 in
theorem spec_l05DrawOk.calls (k : Nat) (g : Nat) (s0_0 : List Int) (s0_1 : Int) (s0_2 : Int) (r1 : List (S63)) (r2 : List (S63)) (r3 : List (S73)) (r4 : Int) (r5 : Int) (w0 w : World) (hI : IsS96 w0 w g s0_0 s0_1 s0_2) (hB : Below w0.heap.size w0 w) (h : spec_l05DrawOk.f k s0_0 s0_1 s0_2 = some (r1, r2, r3, r4, r5)) :
    Calls Try.prog 41 #[.pointer (some ⟨g, 0, none⟩)] w fun e w' => ∃ v0_ v1_ v2_ : Value, e = .returned (.agg #[v0_, v1_, v2_]) ∧ Kd.R k63 63 w' w.heap.size (fun k_ => some k_ ≠ (v1_ : Value).ownBlock) v0_ r1 ∧ Kd.R k63 63 w' w.heap.size (fun k_ => some k_ ≠ (v0_ : Value).ownBlock) v1_ r2 ∧ Kd.R k73 73 w' w.heap.size (fun _ => True) v2_ r3 ∧ IsS96 w0 w' g s0_0 r4 r5 ∧ Below w0.heap.size w0 w' ∧ KeepBut w w' g none := by
 have hu27 := Try.underlying27
 have P := PoolK.nil hI hB
 unfold spec_l05DrawOk.f at h
 obtain ⟨⟨n0, a0, b0⟩, hp0, h⟩ := Option.bind_eq_some_iff.mp h
 obtain ⟨⟨m0, a1, b1⟩, hp1, h⟩ := Option.bind_eq_some_iff.mp h
 simp only [] at hp1 h
 have H' := A_ h
 clear h
 go_enter Try.func41, Try.ntmps41
 go_wp2_with (first | ((with_reducible refine gate_dst (N := 2) rfl ?_); (try (refine gate_guard (by rfl) ?_; dsimp only)); refine bx_ 2 #[.slice none 0 0, .slice none 0 0, .slice none 0 0] 27 ?_; intro g2 hg w1 hbox hb; replace P := P.box hg hbox hb; clear hb hbox hg) | ((with_reducible refine gate_dst (N := 3) rfl ?_); (try (refine gate_guard (by rfl) ?_; dsimp only)); refine bx_ 3 #[.slice none 0 0, .slice none 0 0, .slice none 0 0] 27 ?_; intro g3 hg w1 hbox hb; replace P := P.box hg hbox hb; clear hb hbox hg; obtain ⟨ce0, ce1, ce2, fe0, fe1, fe2⟩ := P.c3 1 rfl) | ((with_reducible refine gate_store (p := 3) rfl ?_); refine st3K P 1 rfl rfl rfl rfl (by go_simp; rfl) ?_; clear P; intro w1 P) | ((with_reducible refine gate_callee (f := 88) rfl ?_); refine goesL_ (some 11) rfl rfl Try.func88 s2_ rfl #[.pointer (some ⟨g, 0, none⟩), .int .i64 10] rfl s3_ ?_; refine (pickK 10 n0 a0 b0 P hp0).mono ?_; clear P; rintro e w1 ⟨rfl, P⟩; refine ⟨_, rfl, ?_⟩) | ((with_reducible refine gate_callee (f := 88) rfl ?_); refine goesL_ (some 13) rfl rfl Try.func88 s2_ rfl #[.pointer (some ⟨g, 0, none⟩), .int .i64 10] rfl s3_ ?_; refine (pickK 10 m0 a1 b1 P hp1).mono ?_; clear P; rintro e w1 ⟨rfl, P⟩; refine ⟨_, rfl, ?_⟩))
 go_loopg [4, 5] k (fun kq v4 v5 w' => ∃ (n m a b : Int) (x y : List S63) (z : List S73) (C0 : Option Addr) (Cc0 : Nat) (C1 : Option Addr) (Cc1 : Nat) (C2 : Option Addr) (Cc2 : Nat), v4 = .int .i64 n ∧ v5 = .int .i64 m ∧ Aside0 (spec_l05DrawOk.l0 kq n m s0_0 a b x y z = some (r1, r2, r3, r4, r5)) ∧ Aside0 (kq ≤ k) ∧ PoolK w0 g s0_0 a b w w' [rbox g2 #[.slice none 0 0, .slice none 0 0, .slice none 0 0] 27, rbox g3 #[.slice C0 x.length Cc0, .slice C1 y.length Cc1, .slice C2 z.length Cc2] 27, rp w.heap.size C0 x.length Cc0 x C1 y.length Cc1 y C2 z.length Cc2 z])
 case atStart => exact ⟨n0, m0, a1, b1, [], [], [], none, 0, none, 0, none, 0, s1_, s1_, H', ⟨Nat.le_refl _⟩, (nilK P).pick [0, 1, 2] _ (by decide) rfl⟩
 case round =>
 clear P H' hp0 hp1 hI hB
 obtain ⟨n, m, a, b, x, y, z, C0, Cc0, C1, Cc1, C2, Cc2, rfl, rfl, HA, HK1, P⟩ := hrel
 obtain ⟨ce0, ce1, ce2, fe0, fe1, fe2⟩ := P.c3 1 rfl
 cases gk with
 | zero => exact absurd HA.out (by simp [spec_l05DrawOk.l0])
 | succ k1 =>
 have H := HA.out
 clear HA
 simp only [spec_l05DrawOk.l0] at H
 by_cases c1 : m > 0
 {
 rw [if_pos c1] at H
 have q1 := decide_eq_true c1
 clear c1
 obtain ⟨⟨mem, a2, b2⟩, hm, H⟩ := Option.bind_eq_some_iff.mp H
 obtain ⟨⟨t, a3, b3⟩, ht, H⟩ := Option.bind_eq_some_iff.mp H
 simp only [] at ht H
 by_cases c2 : t = 0
 {
 rw [if_pos c2] at H
 have c2b : (t == 0) = true := beq_iff_eq.mpr c2
 clear c2
 obtain ⟨⟨X, Y, Zz, ok⟩, hc, H⟩ := Option.bind_eq_some_iff.mp H
 simp only [] at hc H
 cases ok with
 | true =>
 rw [if_pos rfl] at H
 obtain ⟨⟨d, a9, b9⟩, hd, H⟩ := Option.bind_eq_some_iff.mp H
 simp only [] at hd H
 have H' := A_ H
 clear H
 go_wp2_with (first | ((with_reducible refine gate_callee (f := 89) rfl ?_); refine goesL_ (some 19) rfl rfl Try.func89 s2_ rfl #[.pointer (some ⟨g, 0, none⟩)] rfl s3_ ?_; refine (memberK mem a2 b2 P hm).mono ?_; clear P; rintro e w1 ⟨rfl, P⟩; refine ⟨_, rfl, ?_⟩) | ((with_reducible refine gate_dst (N := 7) rfl ?_); (try (refine gate_guard (by rfl) ?_; dsimp only)); refine bx_ 7 #[.slice none 0 0, .slice none 0 0, .slice none 0 0] 27 ?_; intro g7 hg w1 hbox hb; replace P := P.box hg hbox hb; clear hb hbox hg; obtain ⟨ce0, ce1, ce2, fe0, fe1, fe2⟩ := P.c3 3 rfl) | ((with_reducible refine gate_store (p := 7) rfl ?_); refine st3K P 3 rfl rfl rfl rfl (by go_simp; rfl) ?_; clear P; intro w1 P; obtain ⟨ce0, ce1, ce2, fe0, fe1, fe2⟩ := P.c3 3 rfl; obtain ⟨ce0b, ce1b, ce2b, fe0b, fe1b, fe2b⟩ := P.c3 1 rfl) | ((with_reducible refine gate_callee (f := 88) rfl ?_); refine goesL_ (some 22) rfl rfl Try.func88 s2_ rfl #[.pointer (some ⟨g, 0, none⟩), .int .i64 4] rfl s3_ ?_; refine (pickK 4 t a3 b3 P ht).mono ?_; clear P; rintro e w1 ⟨rfl, P⟩; refine ⟨_, rfl, ?_⟩; obtain ⟨ce0, ce1, ce2, fe0, fe1, fe2⟩ := P.c3 3 rfl) | ((with_reducible refine gate_callee (f := 79) rfl ?_); refine goesL_ (some 37) rfl rfl Try.func79 s2_ rfl #[.pointer (some ⟨g3, 0, none⟩), .int .i64 mem, .int .i64 n] rfl s3_ ?_; refine (typeK k1 mem n X Y Zz true P 1 2 rfl rfl hc).mono ?_; clear P; rintro e w1 ⟨D0, Dc0, D1, Dc1, D2, Dc2, rfl, P⟩; refine ⟨_, rfl, ?_⟩; obtain ⟨ce0, ce1, ce2, fe0, fe1, fe2⟩ := P.c3 3 rfl; obtain ⟨ce0b, ce1b, ce2b, fe0b, fe1b, fe2b⟩ := P.c3 1 rfl) | ((with_reducible refine gate_store (p := 7) rfl ?_); refine st3K P 3 rfl rfl rfl rfl (by go_simp; rfl) ?_; clear P; intro w1 P; obtain ⟨ce0, ce1, ce2, fe0, fe1, fe2⟩ := P.c3 3 rfl; obtain ⟨ce0b, ce1b, ce2b, fe0b, fe1b, fe2b⟩ := P.c3 1 rfl) | ((with_reducible refine gate_store (p := 3) rfl ?_); refine st3K P 1 rfl rfl rfl rfl (by go_simp; rfl) ?_; clear P; intro w1 P) | ((with_reducible refine gate_callee (f := 88) rfl ?_); refine goesL_ (some 53) rfl rfl Try.func88 s2_ rfl #[.pointer (some ⟨g, 0, none⟩), .int .i64 3] rfl s3_ ?_; refine (pickK 3 d a9 b9 P hd).mono ?_; clear P; rintro e w1 ⟨rfl, P⟩; refine ⟨_, rfl, ?_⟩))
 go_roundg k1
 case measure => have := HK1.out; omega
 case rel => exact ⟨wrap64 (n + d), wrap64 (m - 1), a9, b9, X, Y, Zz, D0, Dc0, D1, Dc1, D2, Dc2, s1_, s1_, H', ⟨by have := HK1.out; omega⟩, P.pick [0, 1, 4] _ (by decide) rfl⟩
 | false =>
 rw [if_neg (by decide)] at H
 obtain ⟨⟨d, a9, b9⟩, hd, H⟩ := Option.bind_eq_some_iff.mp H
 simp only [] at hd H
 have H' := A_ H
 clear H
 go_wp2_with (first | ((with_reducible refine gate_callee (f := 89) rfl ?_); refine goesL_ (some 19) rfl rfl Try.func89 s2_ rfl #[.pointer (some ⟨g, 0, none⟩)] rfl s3_ ?_; refine (memberK mem a2 b2 P hm).mono ?_; clear P; rintro e w1 ⟨rfl, P⟩; refine ⟨_, rfl, ?_⟩) | ((with_reducible refine gate_dst (N := 7) rfl ?_); (try (refine gate_guard (by rfl) ?_; dsimp only)); refine bx_ 7 #[.slice none 0 0, .slice none 0 0, .slice none 0 0] 27 ?_; intro g7 hg w1 hbox hb; replace P := P.box hg hbox hb; clear hb hbox hg; obtain ⟨ce0, ce1, ce2, fe0, fe1, fe2⟩ := P.c3 3 rfl) | ((with_reducible refine gate_store (p := 7) rfl ?_); refine st3K P 3 rfl rfl rfl rfl (by go_simp; rfl) ?_; clear P; intro w1 P; obtain ⟨ce0, ce1, ce2, fe0, fe1, fe2⟩ := P.c3 3 rfl; obtain ⟨ce0b, ce1b, ce2b, fe0b, fe1b, fe2b⟩ := P.c3 1 rfl) | ((with_reducible refine gate_callee (f := 88) rfl ?_); refine goesL_ (some 22) rfl rfl Try.func88 s2_ rfl #[.pointer (some ⟨g, 0, none⟩), .int .i64 4] rfl s3_ ?_; refine (pickK 4 t a3 b3 P ht).mono ?_; clear P; rintro e w1 ⟨rfl, P⟩; refine ⟨_, rfl, ?_⟩; obtain ⟨ce0, ce1, ce2, fe0, fe1, fe2⟩ := P.c3 3 rfl) | ((with_reducible refine gate_callee (f := 79) rfl ?_); refine goesL_ (some 37) rfl rfl Try.func79 s2_ rfl #[.pointer (some ⟨g3, 0, none⟩), .int .i64 mem, .int .i64 n] rfl s3_ ?_; refine (typeK k1 mem n X Y Zz false P 1 2 rfl rfl hc).mono ?_; clear P; rintro e w1 ⟨D0, Dc0, D1, Dc1, D2, Dc2, rfl, P⟩; refine ⟨_, rfl, ?_⟩; obtain ⟨ce0, ce1, ce2, fe0, fe1, fe2⟩ := P.c3 3 rfl; obtain ⟨ce0b, ce1b, ce2b, fe0b, fe1b, fe2b⟩ := P.c3 1 rfl) | ((with_reducible refine gate_store (p := 7) rfl ?_); refine st3K P 3 rfl rfl rfl rfl (by go_simp; rfl) ?_; clear P; intro w1 P; obtain ⟨ce0, ce1, ce2, fe0, fe1, fe2⟩ := P.c3 3 rfl; obtain ⟨ce0b, ce1b, ce2b, fe0b, fe1b, fe2b⟩ := P.c3 1 rfl) | ((with_reducible refine gate_callee (f := 88) rfl ?_); refine goesL_ (some 53) rfl rfl Try.func88 s2_ rfl #[.pointer (some ⟨g, 0, none⟩), .int .i64 3] rfl s3_ ?_; refine (pickK 3 d a9 b9 P hd).mono ?_; clear P; rintro e w1 ⟨rfl, P⟩; refine ⟨_, rfl, ?_⟩))
 go_roundg k1
 case measure => have := HK1.out; omega
 case rel => exact ⟨wrap64 (n + d), wrap64 (m - 1), a9, b9, x, y, z, C0, Cc0, C1, Cc1, C2, Cc2, s1_, s1_, H', ⟨by have := HK1.out; omega⟩, P.pick [0, 1, 2] _ (by decide) rfl⟩
 }
 {
 rw [if_neg c2] at H
 have c2b : (t == 0) = false := beq_eq_false_iff_ne.mpr c2
 clear c2
 by_cases c3 : t = 1
 {
 rw [if_pos c3] at H
 have c3b : (t == 1) = true := beq_iff_eq.mpr c3
 clear c3
 obtain ⟨⟨u, a4, b4⟩, hu, H⟩ := Option.bind_eq_some_iff.mp H
 simp only [] at hu H
 obtain ⟨⟨X, Y, Zz, ok⟩, hc, H⟩ := Option.bind_eq_some_iff.mp H
 simp only [] at hc H
 cases ok with
 | true =>
 rw [if_pos rfl] at H
 obtain ⟨⟨d, a9, b9⟩, hd, H⟩ := Option.bind_eq_some_iff.mp H
 simp only [] at hd H
 have H' := A_ H
 clear H
 go_wp2_with (first | ((with_reducible refine gate_callee (f := 89) rfl ?_); refine goesL_ (some 19) rfl rfl Try.func89 s2_ rfl #[.pointer (some ⟨g, 0, none⟩)] rfl s3_ ?_; refine (memberK mem a2 b2 P hm).mono ?_; clear P; rintro e w1 ⟨rfl, P⟩; refine ⟨_, rfl, ?_⟩) | ((with_reducible refine gate_dst (N := 7) rfl ?_); (try (refine gate_guard (by rfl) ?_; dsimp only)); refine bx_ 7 #[.slice none 0 0, .slice none 0 0, .slice none 0 0] 27 ?_; intro g7 hg w1 hbox hb; replace P := P.box hg hbox hb; clear hb hbox hg; obtain ⟨ce0, ce1, ce2, fe0, fe1, fe2⟩ := P.c3 3 rfl) | ((with_reducible refine gate_store (p := 7) rfl ?_); refine st3K P 3 rfl rfl rfl rfl (by go_simp; rfl) ?_; clear P; intro w1 P; obtain ⟨ce0, ce1, ce2, fe0, fe1, fe2⟩ := P.c3 3 rfl; obtain ⟨ce0b, ce1b, ce2b, fe0b, fe1b, fe2b⟩ := P.c3 1 rfl) | ((with_reducible refine gate_callee (f := 88) rfl ?_); refine goesL_ (some 22) rfl rfl Try.func88 s2_ rfl #[.pointer (some ⟨g, 0, none⟩), .int .i64 4] rfl s3_ ?_; refine (pickK 4 t a3 b3 P ht).mono ?_; clear P; rintro e w1 ⟨rfl, P⟩; refine ⟨_, rfl, ?_⟩; obtain ⟨ce0, ce1, ce2, fe0, fe1, fe2⟩ := P.c3 3 rfl) | ((with_reducible refine gate_callee (f := 88) rfl ?_); refine goesL_ (some 45) rfl rfl Try.func88 s2_ rfl #[.pointer (some ⟨g, 0, none⟩), .int .i64 12] rfl s3_ ?_; refine (pickK 12 u a4 b4 P hu).mono ?_; clear P; rintro e w1 ⟨rfl, P⟩; refine ⟨_, rfl, ?_⟩) | ((with_reducible refine gate_callee (f := 76) rfl ?_); refine goesL_ (some 46) rfl rfl Try.func76 s2_ rfl #[.pointer (some ⟨g3, 0, none⟩), .int .i64 mem, .int .i64 u] rfl s3_ ?_; refine (readK k1 mem u X Y Zz true P 1 2 rfl rfl hc).mono ?_; clear P; rintro e w1 ⟨D0, Dc0, D1, Dc1, D2, Dc2, rfl, P⟩; refine ⟨_, rfl, ?_⟩; obtain ⟨ce0, ce1, ce2, fe0, fe1, fe2⟩ := P.c3 3 rfl; obtain ⟨ce0b, ce1b, ce2b, fe0b, fe1b, fe2b⟩ := P.c3 1 rfl) | ((with_reducible refine gate_store (p := 7) rfl ?_); refine st3K P 3 rfl rfl rfl rfl (by go_simp; rfl) ?_; clear P; intro w1 P; obtain ⟨ce0, ce1, ce2, fe0, fe1, fe2⟩ := P.c3 3 rfl; obtain ⟨ce0b, ce1b, ce2b, fe0b, fe1b, fe2b⟩ := P.c3 1 rfl) | ((with_reducible refine gate_store (p := 3) rfl ?_); refine st3K P 1 rfl rfl rfl rfl (by go_simp; rfl) ?_; clear P; intro w1 P) | ((with_reducible refine gate_callee (f := 88) rfl ?_); refine goesL_ (some 53) rfl rfl Try.func88 s2_ rfl #[.pointer (some ⟨g, 0, none⟩), .int .i64 3] rfl s3_ ?_; refine (pickK 3 d a9 b9 P hd).mono ?_; clear P; rintro e w1 ⟨rfl, P⟩; refine ⟨_, rfl, ?_⟩))
 go_roundg k1
 case measure => have := HK1.out; omega
 case rel => exact ⟨wrap64 (n + d), wrap64 (m - 1), a9, b9, X, Y, Zz, D0, Dc0, D1, Dc1, D2, Dc2, s1_, s1_, H', ⟨by have := HK1.out; omega⟩, P.pick [0, 1, 4] _ (by decide) rfl⟩
 | false =>
 rw [if_neg (by decide)] at H
 obtain ⟨⟨d, a9, b9⟩, hd, H⟩ := Option.bind_eq_some_iff.mp H
 simp only [] at hd H
 have H' := A_ H
 clear H
 go_wp2_with (first | ((with_reducible refine gate_callee (f := 89) rfl ?_); refine goesL_ (some 19) rfl rfl Try.func89 s2_ rfl #[.pointer (some ⟨g, 0, none⟩)] rfl s3_ ?_; refine (memberK mem a2 b2 P hm).mono ?_; clear P; rintro e w1 ⟨rfl, P⟩; refine ⟨_, rfl, ?_⟩) | ((with_reducible refine gate_dst (N := 7) rfl ?_); (try (refine gate_guard (by rfl) ?_; dsimp only)); refine bx_ 7 #[.slice none 0 0, .slice none 0 0, .slice none 0 0] 27 ?_; intro g7 hg w1 hbox hb; replace P := P.box hg hbox hb; clear hb hbox hg; obtain ⟨ce0, ce1, ce2, fe0, fe1, fe2⟩ := P.c3 3 rfl) | ((with_reducible refine gate_store (p := 7) rfl ?_); refine st3K P 3 rfl rfl rfl rfl (by go_simp; rfl) ?_; clear P; intro w1 P; obtain ⟨ce0, ce1, ce2, fe0, fe1, fe2⟩ := P.c3 3 rfl; obtain ⟨ce0b, ce1b, ce2b, fe0b, fe1b, fe2b⟩ := P.c3 1 rfl) | ((with_reducible refine gate_callee (f := 88) rfl ?_); refine goesL_ (some 22) rfl rfl Try.func88 s2_ rfl #[.pointer (some ⟨g, 0, none⟩), .int .i64 4] rfl s3_ ?_; refine (pickK 4 t a3 b3 P ht).mono ?_; clear P; rintro e w1 ⟨rfl, P⟩; refine ⟨_, rfl, ?_⟩; obtain ⟨ce0, ce1, ce2, fe0, fe1, fe2⟩ := P.c3 3 rfl) | ((with_reducible refine gate_callee (f := 88) rfl ?_); refine goesL_ (some 45) rfl rfl Try.func88 s2_ rfl #[.pointer (some ⟨g, 0, none⟩), .int .i64 12] rfl s3_ ?_; refine (pickK 12 u a4 b4 P hu).mono ?_; clear P; rintro e w1 ⟨rfl, P⟩; refine ⟨_, rfl, ?_⟩) | ((with_reducible refine gate_callee (f := 76) rfl ?_); refine goesL_ (some 46) rfl rfl Try.func76 s2_ rfl #[.pointer (some ⟨g3, 0, none⟩), .int .i64 mem, .int .i64 u] rfl s3_ ?_; refine (readK k1 mem u X Y Zz false P 1 2 rfl rfl hc).mono ?_; clear P; rintro e w1 ⟨D0, Dc0, D1, Dc1, D2, Dc2, rfl, P⟩; refine ⟨_, rfl, ?_⟩; obtain ⟨ce0, ce1, ce2, fe0, fe1, fe2⟩ := P.c3 3 rfl; obtain ⟨ce0b, ce1b, ce2b, fe0b, fe1b, fe2b⟩ := P.c3 1 rfl) | ((with_reducible refine gate_store (p := 7) rfl ?_); refine st3K P 3 rfl rfl rfl rfl (by go_simp; rfl) ?_; clear P; intro w1 P; obtain ⟨ce0, ce1, ce2, fe0, fe1, fe2⟩ := P.c3 3 rfl; obtain ⟨ce0b, ce1b, ce2b, fe0b, fe1b, fe2b⟩ := P.c3 1 rfl) | ((with_reducible refine gate_callee (f := 88) rfl ?_); refine goesL_ (some 53) rfl rfl Try.func88 s2_ rfl #[.pointer (some ⟨g, 0, none⟩), .int .i64 3] rfl s3_ ?_; refine (pickK 3 d a9 b9 P hd).mono ?_; clear P; rintro e w1 ⟨rfl, P⟩; refine ⟨_, rfl, ?_⟩))
 go_roundg k1
 case measure => have := HK1.out; omega
 case rel => exact ⟨wrap64 (n + d), wrap64 (m - 1), a9, b9, x, y, z, C0, Cc0, C1, Cc1, C2, Cc2, s1_, s1_, H', ⟨by have := HK1.out; omega⟩, P.pick [0, 1, 2] _ (by decide) rfl⟩
 }
 {
 rw [if_neg c3] at H
 have c3b : (t == 1) = false := beq_eq_false_iff_ne.mpr c3
 clear c3
 obtain ⟨⟨u, a4, b4⟩, hu, H⟩ := Option.bind_eq_some_iff.mp H
 simp only [] at hu H
 obtain ⟨⟨X, Y, Zz, ok⟩, hc, H⟩ := Option.bind_eq_some_iff.mp H
 simp only [] at hc H
 cases ok with
 | true =>
 rw [if_pos rfl] at H
 obtain ⟨⟨d, a9, b9⟩, hd, H⟩ := Option.bind_eq_some_iff.mp H
 simp only [] at hd H
 have H' := A_ H
 clear H
 go_wp2_with (first | ((with_reducible refine gate_callee (f := 89) rfl ?_); refine goesL_ (some 19) rfl rfl Try.func89 s2_ rfl #[.pointer (some ⟨g, 0, none⟩)] rfl s3_ ?_; refine (memberK mem a2 b2 P hm).mono ?_; clear P; rintro e w1 ⟨rfl, P⟩; refine ⟨_, rfl, ?_⟩) | ((with_reducible refine gate_dst (N := 7) rfl ?_); (try (refine gate_guard (by rfl) ?_; dsimp only)); refine bx_ 7 #[.slice none 0 0, .slice none 0 0, .slice none 0 0] 27 ?_; intro g7 hg w1 hbox hb; replace P := P.box hg hbox hb; clear hb hbox hg; obtain ⟨ce0, ce1, ce2, fe0, fe1, fe2⟩ := P.c3 3 rfl) | ((with_reducible refine gate_store (p := 7) rfl ?_); refine st3K P 3 rfl rfl rfl rfl (by go_simp; rfl) ?_; clear P; intro w1 P; obtain ⟨ce0, ce1, ce2, fe0, fe1, fe2⟩ := P.c3 3 rfl; obtain ⟨ce0b, ce1b, ce2b, fe0b, fe1b, fe2b⟩ := P.c3 1 rfl) | ((with_reducible refine gate_callee (f := 88) rfl ?_); refine goesL_ (some 22) rfl rfl Try.func88 s2_ rfl #[.pointer (some ⟨g, 0, none⟩), .int .i64 4] rfl s3_ ?_; refine (pickK 4 t a3 b3 P ht).mono ?_; clear P; rintro e w1 ⟨rfl, P⟩; refine ⟨_, rfl, ?_⟩; obtain ⟨ce0, ce1, ce2, fe0, fe1, fe2⟩ := P.c3 3 rfl) | ((with_reducible refine gate_callee (f := 88) rfl ?_); refine goesL_ (some 27) rfl rfl Try.func88 s2_ rfl #[.pointer (some ⟨g, 0, none⟩), .int .i64 12] rfl s3_ ?_; refine (pickK 12 u a4 b4 P hu).mono ?_; clear P; rintro e w1 ⟨rfl, P⟩; refine ⟨_, rfl, ?_⟩) | ((with_reducible refine gate_callee (f := 75) rfl ?_); refine goesL_ (some 29) rfl rfl Try.func75 s2_ rfl #[.pointer (some ⟨g3, 0, none⟩), .int .i64 mem, .int .i64 n, .int .i64 (wrap64 (1 + u))] rfl s3_ ?_; refine (beatK k1 mem n (wrap64 (1 + u)) X Y Zz true P 1 2 rfl rfl hc).mono ?_; clear P; rintro e w1 ⟨D0, Dc0, D1, Dc1, D2, Dc2, rfl, P⟩; refine ⟨_, rfl, ?_⟩; obtain ⟨ce0, ce1, ce2, fe0, fe1, fe2⟩ := P.c3 3 rfl; obtain ⟨ce0b, ce1b, ce2b, fe0b, fe1b, fe2b⟩ := P.c3 1 rfl) | ((with_reducible refine gate_store (p := 7) rfl ?_); refine st3K P 3 rfl rfl rfl rfl (by go_simp; rfl) ?_; clear P; intro w1 P; obtain ⟨ce0, ce1, ce2, fe0, fe1, fe2⟩ := P.c3 3 rfl; obtain ⟨ce0b, ce1b, ce2b, fe0b, fe1b, fe2b⟩ := P.c3 1 rfl) | ((with_reducible refine gate_store (p := 3) rfl ?_); refine st3K P 1 rfl rfl rfl rfl (by go_simp; rfl) ?_; clear P; intro w1 P) | ((with_reducible refine gate_callee (f := 88) rfl ?_); refine goesL_ (some 53) rfl rfl Try.func88 s2_ rfl #[.pointer (some ⟨g, 0, none⟩), .int .i64 3] rfl s3_ ?_; refine (pickK 3 d a9 b9 P hd).mono ?_; clear P; rintro e w1 ⟨rfl, P⟩; refine ⟨_, rfl, ?_⟩))
 go_roundg k1
 case measure => have := HK1.out; omega
 case rel => exact ⟨wrap64 (n + d), wrap64 (m - 1), a9, b9, X, Y, Zz, D0, Dc0, D1, Dc1, D2, Dc2, s1_, s1_, H', ⟨by have := HK1.out; omega⟩, P.pick [0, 1, 4] _ (by decide) rfl⟩
 | false =>
 rw [if_neg (by decide)] at H
 obtain ⟨⟨d, a9, b9⟩, hd, H⟩ := Option.bind_eq_some_iff.mp H
 simp only [] at hd H
 have H' := A_ H
 clear H
 go_wp2_with (first | ((with_reducible refine gate_callee (f := 89) rfl ?_); refine goesL_ (some 19) rfl rfl Try.func89 s2_ rfl #[.pointer (some ⟨g, 0, none⟩)] rfl s3_ ?_; refine (memberK mem a2 b2 P hm).mono ?_; clear P; rintro e w1 ⟨rfl, P⟩; refine ⟨_, rfl, ?_⟩) | ((with_reducible refine gate_dst (N := 7) rfl ?_); (try (refine gate_guard (by rfl) ?_; dsimp only)); refine bx_ 7 #[.slice none 0 0, .slice none 0 0, .slice none 0 0] 27 ?_; intro g7 hg w1 hbox hb; replace P := P.box hg hbox hb; clear hb hbox hg; obtain ⟨ce0, ce1, ce2, fe0, fe1, fe2⟩ := P.c3 3 rfl) | ((with_reducible refine gate_store (p := 7) rfl ?_); refine st3K P 3 rfl rfl rfl rfl (by go_simp; rfl) ?_; clear P; intro w1 P; obtain ⟨ce0, ce1, ce2, fe0, fe1, fe2⟩ := P.c3 3 rfl; obtain ⟨ce0b, ce1b, ce2b, fe0b, fe1b, fe2b⟩ := P.c3 1 rfl) | ((with_reducible refine gate_callee (f := 88) rfl ?_); refine goesL_ (some 22) rfl rfl Try.func88 s2_ rfl #[.pointer (some ⟨g, 0, none⟩), .int .i64 4] rfl s3_ ?_; refine (pickK 4 t a3 b3 P ht).mono ?_; clear P; rintro e w1 ⟨rfl, P⟩; refine ⟨_, rfl, ?_⟩; obtain ⟨ce0, ce1, ce2, fe0, fe1, fe2⟩ := P.c3 3 rfl) | ((with_reducible refine gate_callee (f := 88) rfl ?_); refine goesL_ (some 27) rfl rfl Try.func88 s2_ rfl #[.pointer (some ⟨g, 0, none⟩), .int .i64 12] rfl s3_ ?_; refine (pickK 12 u a4 b4 P hu).mono ?_; clear P; rintro e w1 ⟨rfl, P⟩; refine ⟨_, rfl, ?_⟩) | ((with_reducible refine gate_callee (f := 75) rfl ?_); refine goesL_ (some 29) rfl rfl Try.func75 s2_ rfl #[.pointer (some ⟨g3, 0, none⟩), .int .i64 mem, .int .i64 n, .int .i64 (wrap64 (1 + u))] rfl s3_ ?_; refine (beatK k1 mem n (wrap64 (1 + u)) X Y Zz false P 1 2 rfl rfl hc).mono ?_; clear P; rintro e w1 ⟨D0, Dc0, D1, Dc1, D2, Dc2, rfl, P⟩; refine ⟨_, rfl, ?_⟩; obtain ⟨ce0, ce1, ce2, fe0, fe1, fe2⟩ := P.c3 3 rfl; obtain ⟨ce0b, ce1b, ce2b, fe0b, fe1b, fe2b⟩ := P.c3 1 rfl) | ((with_reducible refine gate_store (p := 7) rfl ?_); refine st3K P 3 rfl rfl rfl rfl (by go_simp; rfl) ?_; clear P; intro w1 P; obtain ⟨ce0, ce1, ce2, fe0, fe1, fe2⟩ := P.c3 3 rfl; obtain ⟨ce0b, ce1b, ce2b, fe0b, fe1b, fe2b⟩ := P.c3 1 rfl) | ((with_reducible refine gate_callee (f := 88) rfl ?_); refine goesL_ (some 53) rfl rfl Try.func88 s2_ rfl #[.pointer (some ⟨g, 0, none⟩), .int .i64 3] rfl s3_ ?_; refine (pickK 3 d a9 b9 P hd).mono ?_; clear P; rintro e w1 ⟨rfl, P⟩; refine ⟨_, rfl, ?_⟩))
 go_roundg k1
 case measure => have := HK1.out; omega
 case rel => exact ⟨wrap64 (n + d), wrap64 (m - 1), a9, b9, x, y, z, C0, Cc0, C1, Cc1, C2, Cc2, s1_, s1_, H', ⟨by have := HK1.out; omega⟩, P.pick [0, 1, 2] _ (by decide) rfl⟩
 }
 }
 }
 {
 rw [if_neg c1] at H
 have q1 := decide_eq_false c1
 clear c1
 obtain ⟨rfl, rfl, rfl, rfl, rfl⟩ : x = r1 ∧ y = r2 ∧ z = r3 ∧ a = r4 ∧ b = r5 := by simpa using H
 clear H
 obtain ⟨ce0b, ce1b, ce2b, fe0b, fe1b, fe2b⟩ := P.c3 0 rfl
 try go_wp2_with (first | ((with_reducible refine gate_store (p := 2) rfl ?_); refine st3K P 0 rfl rfl rfl rfl (by go_simp; rfl) ?_; clear P; intro w1 P))
 refine bodyPost_ret (results_cell_row rfl _ _ g2 27 #[.slice C0 x.length Cc0, .slice C1 y.length Cc1, .slice C2 z.length Cc2] (0, 0) _ rfl (P.cell 0 rfl) Try.underlying27 rfl s2_) rfl ?_
 exact outK P 2 rfl
 }

/-! ### spec_B10Presence: function 12 -/
def spec_B10Presence.f (k : Nat) (l0 : List Int) : Option ((List (S63)) × (List (S63)) × (List (S73))) := (spec_l00From.f l0).bind fun bt343 => ((spec_l05DrawOk.f k bt343.1 bt343.2.1 bt343.2.2).bind fun bt347 => (some (bt347.1, bt347.2.1, bt347.2.2.1)))
theorem spec_B10Presence.mono : ∀ a0 k, LeO (spec_B10Presence.f k a0) (spec_B10Presence.f (k + 1) a0) := by
  intro a0 k
  unfold spec_B10Presence.f
  repeat' first
      | (with_reducible exact spec_l05DrawOk.mono _ _ _ _)
      | (with_reducible exact LeO.refl _)
      | (with_reducible exact LeO.none _)
      | (with_reducible refine LeO.ite ?_ ?_)
      | (with_reducible refine LeO.bind ?_ (fun _ => ?_))
      | exact spec_l05DrawOk.mono _ _ _ _
      | exact LeO.none _
      | refine LeO.ite ?_ ?_
      | refine LeO.bind ?_ (fun _ => ?_)
set_option maxHeartbeats 8000000 in
set_option maxRecDepth 100000 in
theorem spec_B10Presence.calls (k : Nat) (A0 : Option Addr) (c0 : Nat) (l0 : List Int) (r1 : List (S63)) (r2 : List (S63)) (r3 : List (S73)) (w : World) (hr0 : Kd.C (Kd.int .u8) w A0 l0.length l0) (hc0 : l0.length ≤ c0) (h : spec_B10Presence.f k l0 = some (r1, r2, r3)) :
    Calls Try.prog 12 #[.slice A0 l0.length c0] w fun e w' => ∃ v0_ v1_ v2_ : Value, e = .returned (.agg #[v0_, v1_, v2_]) ∧ Kd.R k63 63 w' w.heap.size (fun k_ => some k_ ≠ (v1_ : Value).ownBlock) v0_ r1 ∧ Kd.R k63 63 w' w.heap.size (fun k_ => some k_ ≠ (v0_ : Value).ownBlock) v1_ r2 ∧ Kd.R k73 73 w' w.heap.size (fun _ => True) v2_ r3 ∧ Below w.heap.size w w' := by
  have hu27 := Try.underlying27
  have HR0 := A_ hr0
  have HC0 := A_ hc0
  clear hr0 hc0
  have HB := A_ (Below.refl w.heap.size w)
  have H : ((spec_l00From.f l0).bind fun bt343 => ((spec_l05DrawOk.f k bt343.1 bt343.2.1 bt343.2.2).bind fun bt347 => (some (bt347.1, bt347.2.1, bt347.2.2.1)))) = some (r1, r2, r3) := h
  clear h
  replace H := Option.bind_eq_some_iff.mp H
  obtain ⟨⟨t343, t344, t345⟩, A20, H⟩ := H
  replace H : ((spec_l05DrawOk.f k t343 t344 t345).bind fun bt347 => (some (bt347.1, bt347.2.1, bt347.2.2.1))) = some (r1, r2, r3) := H
  have A2 := A_ A20
  clear A20
  replace H := Option.bind_eq_some_iff.mp H
  obtain ⟨⟨t347, t350, t353, t356, t357⟩, A30, H⟩ := H
  replace H : (some (t347, t350, t353)) = some (r1, r2, r3) := H
  have A3 := A_ A30
  clear A30
  simp only [Option.some.injEq, Prod.mk.injEq] at H
  obtain ⟨rfl, rfl, rfl⟩ := H
  go_enter Try.func12, Try.ntmps12
  go_wp2_with (first | ((with_reducible refine gate_dst (N := 2) rfl ?_); refine box_event ?hg (N := 2) ?hd (cs := #[.slice none 0 0, .slice none 0 0, .slice none 0 0]) (t := 27) ?hr ?_; (case hd => rfl); (case hg => rfl); (case hr => first | (go_simp; done) | (go_simp; rfl)); intro gb342 hg w4 hbox hb; have GW342 := A_ ((by rw [hg]; exact (below_size (y1_ HB.out)) : w.heap.size ≤ gb342)); have GE342 := A_ ((by rw [hg]; exact (below_size (y1_ HB.out)) : w.heap.size ≤ gb342)); replace HB := A_ (below_step (y1_ HB.out) hb); have BK342 := A_ (hbox); clear hb hbox hg) | ((with_reducible refine gate_callee (f := 40) rfl ?_); refine goesL_ (some 5) rfl rfl Try.func40 (by kernel_rfl) rfl #[.slice A0 l0.length c0] rfl (by (try simp only [List.map_toArray, List.map_cons, List.map_nil]); first | done | rfl | (simp only [List.length_drop, List.length_take]; rfl)) ?_; (with_reducible refine (spec_l00From.calls _ _ l0 t343 t344 t345 w _ ?side1 ?side2 ?side3 A2.out).mono ?_); (case side1 => exact y1_ HB.out); (case side2 => exact HR0.out); (case side3 => exact HC0.out); rintro e w5 ⟨g346, rfl, hi, hb, hb2⟩; refine ⟨_, rfl, ?_⟩; have NB346_342 := A_ (IsS96.ne_blk hi (blk_below (g := gb342) (o := .cells #[.slice none 0 0, .slice none 0 0, .slice none 0 0] 27 (0, 0)) (b1_ BK342.out) hb2) (by decide)); have NB342_346 := A_ (Ne.symm (IsS96.ne_blk hi (blk_below (g := gb342) (o := .cells #[.slice none 0 0, .slice none 0 0, .slice none 0 0] 27 (0, 0)) (b1_ BK342.out) hb2) (by decide))); replace BK342 := A_ (blk_below (g := gb342) (o := .cells #[.slice none 0 0, .slice none 0 0, .slice none 0 0] 27 (0, 0)) (b1_ BK342.out) hb2); replace HB := A_ (hb); have HI346 := A_ (hi); (try clear hb); (try clear hb2); (try clear hk); (try clear hi)) | ((with_reducible refine gate_callee (f := 41) rfl ?_); refine goesL_ (some 7) rfl rfl Try.func41 (by kernel_rfl) rfl #[.pointer (some ⟨g346, 0, none⟩)] rfl (by (try simp only [List.map_toArray, List.map_cons, List.map_nil]); first | done | rfl | (simp only [List.length_drop, List.length_take]; rfl)) ?_; (with_reducible refine (spec_l05DrawOk.calls k g346 t343 t344 t345 t347 t350 t353 t356 t357 w _ ?side1 ?side2 A3.out).mono ?_); (case side1 => repeat (first | (with_reducible first | exact HI346.out | apply IsS96.alloc | apply IsS96.drewN | apply IsS96.drew | apply IsS96.set_1 | apply IsS96.set_2) | exact HI346.out)); (case side2 => repeat (first | (with_reducible first | exact HB.out | apply below_alloc | apply pw_below_drewN | apply below_drew1 | refine below_set ?_ (IsS96.ge HI346.out)) | exact HB.out)); rintro e w6 ⟨v348, v351, v354, rfl, ho0, ho1, ho2, hi, hb, hk⟩; refine ⟨_, rfl, ?_⟩; replace BK342 := A_ (KeepBut.blk hk (g' := gb342) (o := .cells #[.slice none 0 0, .slice none 0 0, .slice none 0 0] 27 (0, 0)) (b1_ BK342.out) NB342_346.out (by simp)); have HO349 := A_ (Kd.R_lower ho0 (below_size (by repeat (first | (with_reducible first | exact HB.out | apply below_alloc | apply pw_below_drewN | apply below_drew1 | refine below_set ?_ (IsS96.ge HI346.out)) | exact HB.out)))); have HO352 := A_ (Kd.R_lower ho1 (below_size (by repeat (first | (with_reducible first | exact HB.out | apply below_alloc | apply pw_below_drewN | apply below_drew1 | refine below_set ?_ (IsS96.ge HI346.out)) | exact HB.out)))); have HO355 := A_ (Kd.R_lower ho2 (below_size (by repeat (first | (with_reducible first | exact HB.out | apply below_alloc | apply pw_below_drewN | apply below_drew1 | refine below_set ?_ (IsS96.ge HI346.out)) | exact HB.out)))); replace HB := A_ (hb); replace HI346 := A_ (hi); (try clear hb); (try clear hb2); (try clear hk); (try clear hi); (try clear ho0); (try clear ho1); (try clear ho2); obtain ⟨Ao7, co7, eo7⟩ := Kd.R_slice HO349.out; subst eo7; have hnb8 := NB342_346.out; have hnc8 := NB346_342.out; have hcz9_0 : w6.cell? ⟨gb342, 0, none⟩ = some (.slice none 0 0) := (blk_cell BK342.out 0).trans rfl; have hcz9_1 : w6.cell? ⟨gb342, 1, none⟩ = some (.slice none 0 0) := (blk_cell BK342.out 1).trans rfl; have hcz9_2 : w6.cell? ⟨gb342, 2, none⟩ = some (.slice none 0 0) := (blk_cell BK342.out 2).trans rfl; have hfz9_0 := blk_frozen BK342.out 0; have hfz9_1 := blk_frozen BK342.out 1; have hfz9_2 := blk_frozen BK342.out 2; obtain ⟨Ao10, co10, eo10⟩ := Kd.R_slice HO352.out; subst eo10; obtain ⟨Ao11, co11, eo11⟩ := Kd.R_slice HO355.out; subst eo11))
  refine bodyPost_ret (results_cell_row rfl _ _ gb342 27 #[.slice Ao7 t347.length co7, .slice Ao10 t350.length co10, .slice Ao11 t353.length co11] (0, 0) _ rfl (by refine b1_ ?_; refine blk_put3 (cs := #[.slice none 0 0, .slice none 0 0, .slice none 0 0]) ?_ rfl; refine b1_ ?_; exact BK342.out) Try.underlying27 rfl (by kernel_rfl)) rfl ?_
  exact ⟨_, _, _, e1_, by refine b2_ ?_; exact Kd.R_mono (Kd.R_far3 (g := gb342) (Kd.R_types HO349.out BK342.out (by decide)) (fun _ hk => hk.2)) (fun _ hk => hk.1), by refine b2_ ?_; exact Kd.R_mono (Kd.R_far3 (g := gb342) (Kd.R_types HO352.out BK342.out (by decide)) (fun _ hk => hk.2)) (fun _ hk => hk.1), by refine b2_ ?_; exact Kd.R_mono (Kd.R_far3 (g := gb342) (Kd.R_types HO355.out BK342.out (by decide)) (fun _ hk => hk.2)) (fun _ hk => trivial), by repeat (first | (with_reducible first | exact HB.out | apply below_alloc | apply pw_below_drewN | apply below_drew1 | refine below_set ?_ (IsS96.ge HI346.out) | refine below_set ?_ GE342.out) | exact HB.out)⟩

/-! ### laws_b10At: function 13 -/
def laws_b10At.f (l0 : List Int) (a1 : Int) (a2 : Int) : Option (Int) := if a2 ≤ 1 then (some 0) else (if a1 < (l0.length : Int) then (if 0 ≤ a1 then (if a2 = 0 then (none) else (some (Int.tmod (wrap64 (rd l0 a1)) a2))) else (none)) else (if a2 = 0 then (none) else (some (Int.tmod (wrap64 ((wrap64 (a1 * 37)) + 11)) a2))))
set_option maxHeartbeats 8000000 in
set_option maxRecDepth 100000 in
theorem laws_b10At.calls (A0 : Option Addr) (c0 : Nat) (l0 : List Int) (a1 : Int) (a2 : Int) (r : Int) (w : World) (hr0 : Kd.C (Kd.int .u8) w A0 l0.length l0) (hc0 : l0.length ≤ c0) (h : laws_b10At.f l0 a1 a2 = some r) :
    Calls Try.prog 13 #[.slice A0 l0.length c0, .int .i64 a1, .int .i64 a2] w fun e w' => e = .returned (.int .i64 r) ∧ Drawn0 w w' := by
  have HR0 := A_ hr0
  have HC0 := A_ hc0
  clear hr0 hc0
  have H : (if a2 ≤ 1 then (some 0) else (if a1 < (l0.length : Int) then (if 0 ≤ a1 then (if a2 = 0 then (none) else (some (Int.tmod (wrap64 (rd l0 a1)) a2))) else (none)) else (if a2 = 0 then (none) else (some (Int.tmod (wrap64 ((wrap64 (a1 * 37)) + 11)) a2))))) = some r := h
  clear h
  by_cases c4 : a2 ≤ 1
  · rw [if_pos c4] at H
    have c4b0 : decide (a2 ≤ 1) = true := decide_eq_true c4
    clear c4
    obtain rfl := Option.some.inj H
    go_enter Try.func13, Try.ntmps13
    go_wp2
    go_ret
    exact ⟨by first | rfl | (simp; done) | (simp [*]; done), by repeat (first | exact Drawn0.refl _ | apply Drawn0.step)⟩
  · rw [if_neg c4] at H
    have c4b0 : decide (a2 ≤ 1) = false := decide_eq_false c4
    clear c4
    by_cases c5 : a1 < (l0.length : Int)
    · rw [if_pos c5] at H
      have c5b0 : decide (a1 < (l0.length : Int)) = true := decide_eq_true c5
      clear c5
      by_cases c6 : 0 ≤ a1
      · rw [if_pos c6] at H
        have c6b0 : decide (0 ≤ a1) = true := decide_eq_true c6
        clear c6
        by_cases c7 : a2 = 0
        · rw [if_pos c7] at H
          exact absurd H (by simp)
        · rw [if_neg c7] at H
          have c7b0 : (a2 == 0) = false := beq_eq_false_iff_ne.mpr c7
          have c7b1 : (a2 != 0) = true := bne_iff_ne.mpr c7
          obtain rfl := Option.some.inj H
          have p358 : 0 ≤ (a1 : Int) := o1_
          have q358 : a1 < (l0.length : Int) := o1_
          obtain ⟨ad358, e358, hx358_0⟩ := Kd.at_int HR0.out a1 p358 q358
          cases e358
          replace p358 := eq_true p358
          replace q358 := eq_true q358
          go_enter Try.func13, Try.ntmps13
          go_wp2
          go_ret
          exact ⟨by first | rfl | (simp; done) | (simp [*]; done), by repeat (first | exact Drawn0.refl _ | apply Drawn0.step)⟩
      · rw [if_neg c6] at H
        exact absurd H (by simp)
    · rw [if_neg c5] at H
      have c5b0 : decide (a1 < (l0.length : Int)) = false := decide_eq_false c5
      clear c5
      by_cases c8 : a2 = 0
      · rw [if_pos c8] at H
        exact absurd H (by simp)
      · rw [if_neg c8] at H
        have c8b0 : (a2 == 0) = false := beq_eq_false_iff_ne.mpr c8
        have c8b1 : (a2 != 0) = true := bne_iff_ne.mpr c8
        obtain rfl := Option.some.inj H
        go_enter Try.func13, Try.ntmps13
        go_wp2
        go_ret
        exact ⟨by first | rfl | (simp; done) | (simp [*]; done), by repeat (first | exact Drawn0.refl _ | apply Drawn0.step)⟩

/-! ### impl_in: function 46 -/
def impl_in.f (a0 : Int) (a1 : Int) (a2 : Int) : Option (Bool) := if a0 ≥ a1 then (some (decide (a0 ≤ a2))) else (some false)
set_option maxHeartbeats 8000000 in
set_option maxRecDepth 100000 in
theorem impl_in.calls (a0 : Int) (a1 : Int) (a2 : Int) (r : Bool) (w : World) (h : impl_in.f a0 a1 a2 = some r) :
    Calls Try.prog 46 #[.int .i64 a0, .int .i64 a1, .int .i64 a2] w fun e w' => e = .returned (.bool r) ∧ Drawn0 w w' := by
  have H : (if a0 ≥ a1 then (some (decide (a0 ≤ a2))) else (some false)) = some r := h
  clear h
  by_cases c4 : a0 ≥ a1
  · rw [if_pos c4] at H
    have c4b0 : decide (a1 ≤ a0) = true := decide_eq_true c4
    clear c4
    obtain rfl := Option.some.inj H
    go_enter Try.func46, Try.ntmps46
    go_wp2
    go_ret
    exact ⟨by first | rfl | (simp; done) | (simp [*]; done), by repeat (first | exact Drawn0.refl _ | apply Drawn0.step)⟩
  · rw [if_neg c4] at H
    have c4b0 : decide (a1 ≤ a0) = false := decide_eq_false c4
    clear c4
    obtain rfl := Option.some.inj H
    go_enter Try.func46, Try.ntmps46
    go_wp2
    go_ret
    exact ⟨by first | rfl | (simp; done) | (simp [*]; done), by repeat (first | exact Drawn0.refl _ | apply Drawn0.step)⟩

/-! ### impl_isMember: function 54 -/
def impl_isMember.f (a0 : Int) : Option (Bool) := (impl_in.f a0 1 1000).bind fun t359 => (some t359)
set_option maxHeartbeats 8000000 in
set_option maxRecDepth 100000 in
theorem impl_isMember.calls (a0 : Int) (r : Bool) (w : World) (h : impl_isMember.f a0 = some r) :
    Calls Try.prog 54 #[.int .i64 a0] w fun e w' => e = .returned (.bool r) ∧ Drawn0 w w' := by
  have H : ((impl_in.f a0 1 1000).bind fun t359 => (some t359)) = some r := h
  clear h
  replace H := Option.bind_eq_some_iff.mp H
  obtain ⟨t359, A20, H⟩ := H
  replace H : (some t359) = some r := H
  have A2 := A_ A20
  clear A20
  obtain rfl := Option.some.inj H
  go_enter Try.func54, Try.ntmps54
  go_wp2_with (first | ((with_reducible refine gate_callee (f := 46) rfl ?_); refine goesL_ (some 4) rfl rfl Try.func46 (by kernel_rfl) rfl #[.int .i64 a0, .int .i64 1, .int .i64 1000] rfl (by (try simp only [List.map_toArray, List.map_cons, List.map_nil]); first | done | rfl | (simp only [List.length_drop, List.length_take]; rfl)) ?_; (with_reducible refine (impl_in.calls a0 1 1000 t359 _ A2.out).mono ?_); rintro e w' ⟨rfl, ⟨nd, rfl⟩⟩; refine ⟨_, rfl, ?_⟩))
  go_ret
  exact ⟨by first | rfl | (simp; done) | (simp [*]; done), by repeat (first | exact Drawn0.refl _ | apply Drawn0.step)⟩

/-! ### impl_isTick: function 45 -/
def impl_isTick.f (a0 : Int) : Option (Bool) := (impl_in.f a0 0 1000000).bind fun t360 => (some t360)
set_option maxHeartbeats 8000000 in
set_option maxRecDepth 100000 in
theorem impl_isTick.calls (a0 : Int) (r : Bool) (w : World) (h : impl_isTick.f a0 = some r) :
    Calls Try.prog 45 #[.int .i64 a0] w fun e w' => e = .returned (.bool r) ∧ Drawn0 w w' := by
  have H : ((impl_in.f a0 0 1000000).bind fun t360 => (some t360)) = some r := h
  clear h
  replace H := Option.bind_eq_some_iff.mp H
  obtain ⟨t360, A20, H⟩ := H
  replace H : (some t360) = some r := H
  have A2 := A_ A20
  clear A20
  obtain rfl := Option.some.inj H
  go_enter Try.func45, Try.ntmps45
  go_wp2_with (first | ((with_reducible refine gate_callee (f := 46) rfl ?_); refine goesL_ (some 4) rfl rfl Try.func46 (by kernel_rfl) rfl #[.int .i64 a0, .int .i64 0, .int .i64 1000000] rfl (by (try simp only [List.map_toArray, List.map_cons, List.map_nil]); first | done | rfl | (simp only [List.length_drop, List.length_take]; rfl)) ?_; (with_reducible refine (impl_in.calls a0 0 1000000 t360 _ A2.out).mono ?_); rintro e w' ⟨rfl, ⟨nd, rfl⟩⟩; refine ⟨_, rfl, ?_⟩))
  go_ret
  exact ⟨by first | rfl | (simp; done) | (simp [*]; done), by repeat (first | exact Drawn0.refl _ | apply Drawn0.step)⟩

end Go.Proofs.Ytgfilednbllkmaa.QFnJoinedPresence
