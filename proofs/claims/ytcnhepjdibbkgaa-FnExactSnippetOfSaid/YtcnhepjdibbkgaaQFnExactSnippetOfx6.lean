-- written by a program of this session, on the lines of the kit's print
import Derived.Test.YtcnhepjdibbkgaaQFnExactSnippetOfx0
import Derived.Test.YtcnhepjdibbkgaaQFnExactSnippetOfx2
import Derived.Test.YtcnhepjdibbkgaaQFnExactSnippetOfx3
import Derived.Test.YtcnhepjdibbkgaaQFnExactSnippetOfx5
namespace Go.Proofs.Ytcnhepjdibbkgaa.QFnExactSnippetOf
open Go.RowKit Go.Proofs.YtcnhepjdibbkgaaW.PrintWords Go.Proofs.YtcnhepjdibbkgaaW.PrintLast Go.Proofs.YtcnhepjdibbkgaaW.PrintMore
attribute [local go_sem] max2_int min2_int max_two min_two max_three min_three max_four min_four   -- for this text's walks alone
set_option linter.unusedVariables false
set_option linter.unusedSimpArgs false

/-! ### laws_FnExactSnippetOf: function 6 -/
abbrev laws_FnExactSnippetOf.T : Bool := true
abbrev laws_FnExactSnippetOf.F : Bool := false
theorem laws_FnExactSnippetOf.s2_ {P : Prop} (h : P := by kernel_rfl) : P := h
theorem laws_FnExactSnippetOf.s3_ {P : Prop} (h : P := by (try simp only [List.map_toArray, List.map_cons, List.map_nil]); first | done | rfl | (simp only [List.length_drop, List.length_take]; rfl)) : P := h
theorem laws_FnExactSnippetOf.b2_ {P Q : Prop} (q : Q) (h : Q → P := by intro q_; (with_reducible repeat (first | apply Kd.R_alloc | apply Kd.R_drewN | apply Kd.R_drew)); exact q_) : P := h q
def laws_FnExactSnippetOf.j0 : Nat → List ByteArray → List ByteArray → Bool → Option (Bool)
  | 0, _, _, _ => none
  | k + 1, x1, x10, x45 => if x45 = true then (some false) else ((laws_toStringS.f k x1).bind fun t174 => ((laws_eqStringS.f k x10 t174).bind fun t177 => (if t177 = true then (some true) else (some false))))
def laws_FnExactSnippetOf.f (k : Nat) (a0 : ByteArray) (l1 : List ByteArray) (a2 : Int) : Option (Bool) := if (a0.size : Int) > 1048576 then (some true) else ((laws_szStringS.f k l1 1048576).bind fun t163 => (if t163 < 0 then (some true) else ((laws_toStringS.f k l1).bind fun t164 => ((spec_SnippetOf.f k a0 t164 a2).bind fun bt167 => ((laws_toStringS.f k l1).bind fun t169 => ((impl_SnippetOf.f k a0 t169 a2).bind fun bt172 => (if bt172.1.toList = bt167.1.toList then (laws_FnExactSnippetOf.j0 k l1 t169 (bt172.2 != bt167.2)) else (laws_FnExactSnippetOf.j0 k l1 t169 true))))))))
theorem laws_FnExactSnippetOf.mono_l : ∀ k, (∀ y0 y1 y2, LeO (laws_FnExactSnippetOf.j0 k y0 y1 y2) (laws_FnExactSnippetOf.j0 (k + 1) y0 y1 y2))
  | 0 => fun _ _ _ r h => by simp [laws_FnExactSnippetOf.j0] at h
  | k + 1 => by
    have ih0 := laws_FnExactSnippetOf.mono_l k
    · intro y0 y1 y2
      unfold laws_FnExactSnippetOf.j0
      repeat' first
      | (with_reducible exact ih0 _ _ _)
      | (with_reducible exact impl_SnippetOf.mono _ _ _ _)
      | (with_reducible exact laws_eqStringS.mono _ _ _)
      | (with_reducible exact laws_szStringS.mono _ _ _)
      | (with_reducible exact laws_toStringS.mono _ _)
      | (with_reducible exact spec_SnippetOf.mono _ _ _ _)
      | (with_reducible exact LeO.refl _)
      | (with_reducible exact LeO.none _)
      | (with_reducible refine LeO.ite ?_ ?_)
      | (with_reducible refine LeO.bind ?_ (fun _ => ?_))
      | exact ih0 _ _ _
      | exact impl_SnippetOf.mono _ _ _ _
      | exact laws_eqStringS.mono _ _ _
      | exact laws_szStringS.mono _ _ _
      | exact laws_toStringS.mono _ _
      | exact spec_SnippetOf.mono _ _ _ _
      | exact LeO.none _
      | refine LeO.ite ?_ ?_
      | refine LeO.bind ?_ (fun _ => ?_)
theorem laws_FnExactSnippetOf.mono : ∀ a0 a1 a2 k, LeO (laws_FnExactSnippetOf.f k a0 a1 a2) (laws_FnExactSnippetOf.f (k + 1) a0 a1 a2) := by
  intro a0 a1 a2 k
  have ih0 := laws_FnExactSnippetOf.mono_l k
  unfold laws_FnExactSnippetOf.f
  repeat' first
      | (with_reducible exact ih0 _ _ _)
      | (with_reducible exact impl_SnippetOf.mono _ _ _ _)
      | (with_reducible exact laws_eqStringS.mono _ _ _)
      | (with_reducible exact laws_szStringS.mono _ _ _)
      | (with_reducible exact laws_toStringS.mono _ _)
      | (with_reducible exact spec_SnippetOf.mono _ _ _ _)
      | (with_reducible exact LeO.refl _)
      | (with_reducible exact LeO.none _)
      | (with_reducible refine LeO.ite ?_ ?_)
      | (with_reducible refine LeO.bind ?_ (fun _ => ?_))
      | exact ih0 _ _ _
      | exact impl_SnippetOf.mono _ _ _ _
      | exact laws_eqStringS.mono _ _ _
      | exact laws_szStringS.mono _ _ _
      | exact laws_toStringS.mono _ _
      | exact spec_SnippetOf.mono _ _ _ _
      | exact LeO.none _
      | refine LeO.ite ?_ ?_
      | refine LeO.bind ?_ (fun _ => ?_)
set_option maxHeartbeats 8000000 in
set_option maxRecDepth 100000 in
theorem laws_FnExactSnippetOf.calls (k : Nat) (a0 : ByteArray) (A1 : Option Addr) (c1 : Nat) (l1 : List ByteArray) (a2 : Int) (r : Bool) (w : World) (hr1 : Kd.C Kd.string w A1 l1.length l1) (hc1 : l1.length ≤ c1) (h : laws_FnExactSnippetOf.f k a0 l1 a2 = some r) :
    Calls Try.prog 6 #[.string a0, .slice A1 l1.length c1, .int .i64 a2] w fun e w' => e = .returned (.bool r) ∧ Below w.heap.size w w' := by
 have HR1 := Aside0.mk hr1
 have HC1 := Aside0.mk hc1
 clear hr1 hc1
 have HB := Aside0.mk (Below.refl w.heap.size w)
 have H : (if (a0.size : Int) > 1048576 then (some true) else ((laws_szStringS.f k l1 1048576).bind fun t163 => (if t163 < 0 then (some true) else ((laws_toStringS.f k l1).bind fun t164 => ((spec_SnippetOf.f k a0 t164 a2).bind fun bt167 => ((laws_toStringS.f k l1).bind fun t169 => ((impl_SnippetOf.f k a0 t169 a2).bind fun bt172 => (if bt172.1.toList = bt167.1.toList then (laws_FnExactSnippetOf.j0 k l1 t169 (bt172.2 != bt167.2)) else (laws_FnExactSnippetOf.j0 k l1 t169 true))))))))) = some r := h
 clear h
 by_cases c4 : (a0.size : Int) > 1048576
 {
 rw [if_pos c4] at H
 have c4b0 : decide (1048576 < (a0.size : Int)) = true := decide_eq_true c4
 have c4b1 : decide (1048576 < a0.size) = true := decide_eq_true (by omega)
 clear c4
 obtain rfl := Option.some.inj H
 go_enter Try.func6, Try.ntmps6
 go_wp2
 go_ret
 exact ⟨by first | rfl | (simp [errW_none, errW_some] <;> rfl) | (simp [*, errW_none, errW_some] <;> rfl), by repeat (first | (with_reducible first | exact HB.out | apply below_alloc | apply pw_below_drewN | apply below_drew1) | exact HB.out)⟩}
 {
 rw [if_neg c4] at H
 have c4b0 : decide (1048576 < (a0.size : Int)) = false := decide_eq_false c4
 have c4b1 : decide (1048576 < a0.size) = false := decide_eq_false (by omega)
 clear c4
 replace H := Option.bind_eq_some_iff.mp H
 obtain ⟨t163, A50, H⟩ := H
 replace H : (if t163 < 0 then (some true) else ((laws_toStringS.f k l1).bind fun t164 => ((spec_SnippetOf.f k a0 t164 a2).bind fun bt167 => ((laws_toStringS.f k l1).bind fun t169 => ((impl_SnippetOf.f k a0 t169 a2).bind fun bt172 => (if bt172.1.toList = bt167.1.toList then (laws_FnExactSnippetOf.j0 k l1 t169 (bt172.2 != bt167.2)) else (laws_FnExactSnippetOf.j0 k l1 t169 true))))))) = some r := H
 have A5 := Aside0.mk A50
 clear A50
 by_cases c6 : t163 < 0
 {
 rw [if_pos c6] at H
 have c6b0 : decide (t163 < 0) = true := decide_eq_true c6
 clear c6
 obtain rfl := Option.some.inj H
 go_enter Try.func6, Try.ntmps6
 go_wp2_with (first | ((with_reducible refine gate_callee (f := 25) rfl ?_); refine goesL_ (some 18) rfl rfl Try.func25 s2_ rfl #[.slice A1 l1.length c1, .int .i64 1048576] rfl s3_ ?_; (with_reducible refine (laws_szStringS.calls k _ _ l1 1048576 t163 _ ?side1 ?side2 A5.out).mono ?_); (case side1 => repeat (first | exact HR1.out | (with_reducible refine Kd.C_alloc ?_ _) | (with_reducible refine Kd.C_drewN ?_ _) | (with_reducible refine Kd.C_drew ?_))); (case side2 => exact HC1.out); rintro e w' ⟨rfl, ⟨nd, rfl⟩⟩; refine ⟨_, rfl, ?_⟩))
 go_ret
 exact ⟨by first | rfl | (simp [errW_none, errW_some] <;> rfl) | (simp [*, errW_none, errW_some] <;> rfl), by repeat (first | (with_reducible first | exact HB.out | apply below_alloc | apply pw_below_drewN | apply below_drew1) | exact HB.out)⟩}
 {
 rw [if_neg c6] at H
 have c6b0 : decide (t163 < 0) = false := decide_eq_false c6
 clear c6
 replace H := Option.bind_eq_some_iff.mp H
 obtain ⟨t164, A70, H⟩ := H
 replace H : ((spec_SnippetOf.f k a0 t164 a2).bind fun bt167 => ((laws_toStringS.f k l1).bind fun t169 => ((impl_SnippetOf.f k a0 t169 a2).bind fun bt172 => (if bt172.1.toList = bt167.1.toList then (laws_FnExactSnippetOf.j0 k l1 t169 (bt172.2 != bt167.2)) else (laws_FnExactSnippetOf.j0 k l1 t169 true))))) = some r := H
 have A7 := Aside0.mk A70
 clear A70
 replace H := Option.bind_eq_some_iff.mp H
 obtain ⟨⟨t167, t168⟩, A80, H⟩ := H
 replace H : ((laws_toStringS.f k l1).bind fun t169 => ((impl_SnippetOf.f k a0 t169 a2).bind fun bt172 => (if bt172.1.toList = t167.toList then (laws_FnExactSnippetOf.j0 k l1 t169 (bt172.2 != t168)) else (laws_FnExactSnippetOf.j0 k l1 t169 true)))) = some r := H
 have A8 := Aside0.mk A80
 clear A80
 replace H := Option.bind_eq_some_iff.mp H
 obtain ⟨t169, A90, H⟩ := H
 replace H : ((impl_SnippetOf.f k a0 t169 a2).bind fun bt172 => (if bt172.1.toList = t167.toList then (laws_FnExactSnippetOf.j0 k l1 t169 (bt172.2 != t168)) else (laws_FnExactSnippetOf.j0 k l1 t169 true))) = some r := H
 have A9 := Aside0.mk A90
 clear A90
 replace H := Option.bind_eq_some_iff.mp H
 obtain ⟨⟨t172, t173⟩, A100, H⟩ := H
 replace H : (if t172.toList = t167.toList then (laws_FnExactSnippetOf.j0 k l1 t169 (t173 != t168)) else (laws_FnExactSnippetOf.j0 k l1 t169 true)) = some r := H
 have A10 := Aside0.mk A100
 clear A100
 have HC11 := Aside0.mk H
 clear H
 go_enter Try.func6, Try.ntmps6
 go_upto_region 10 with (first | ((with_reducible refine gate_callee (f := 25) rfl ?_); refine goesL_ (some 18) rfl rfl Try.func25 s2_ rfl #[.slice A1 l1.length c1, .int .i64 1048576] rfl s3_ ?_; (with_reducible refine (laws_szStringS.calls k _ _ l1 1048576 t163 _ ?side1 ?side2 A5.out).mono ?_); (case side1 => repeat (first | exact HR1.out | (with_reducible refine Kd.C_alloc ?_ _) | (with_reducible refine Kd.C_drewN ?_ _) | (with_reducible refine Kd.C_drew ?_))); (case side2 => exact HC1.out); rintro e w' ⟨rfl, ⟨nd, rfl⟩⟩; refine ⟨_, rfl, ?_⟩) | ((with_reducible refine gate_callee (f := 27) rfl ?_); refine goesL_ (some 24) rfl rfl Try.func27 s2_ rfl #[.slice A1 l1.length c1] rfl s3_ ?_; (with_reducible refine (laws_toStringS.calls k _ _ l1 t164 _ ?side1 ?side2 A7.out).mono ?_); (case side1 => repeat (first | exact HR1.out | (with_reducible refine Kd.C_alloc ?_ _) | (with_reducible refine Kd.C_drewN ?_ _) | (with_reducible refine Kd.C_drew ?_))); (case side2 => exact HC1.out); rintro e w12 ⟨v165, rfl, ho0, hb⟩; refine ⟨_, rfl, ?_⟩; have n0_ := Aside0.mk (Kd.R_lower ho0 (below_size (by repeat (first | (with_reducible first | exact HB.out | apply below_alloc | apply pw_below_drewN | apply below_drew1) | exact HB.out)))); have n1_ := Aside0.mk (below_step (by repeat (first | (with_reducible first | exact HB.out | apply below_alloc | apply pw_below_drewN | apply below_drew1) | exact HB.out)) hb); clear HB; have HO166 := n0_; have HB := n1_; clear n0_ n1_; (try clear hb); (try clear hb2); (try clear hk); (try clear hi); (try clear ho0); obtain ⟨Ao13, co13, eo13⟩ := Kd.R_slice HO166.out; subst eo13) | ((with_reducible refine gate_callee (f := 26) rfl ?_); refine goesL_ (some 26) rfl rfl Try.func26 s2_ rfl #[.string a0, .slice Ao13 t164.length co13, .int .i64 a2] rfl s3_ ?_; (with_reducible refine (spec_SnippetOf.calls k a0 _ _ t164 a2 t167 t168 _ ?side1 ?side2 A8.out).mono ?_); (case side1 => repeat (first | exact (Kd.R_reads' HO166.out).2.2 | (with_reducible refine Kd.C_alloc ?_ _) | (with_reducible refine Kd.C_drewN ?_ _) | (with_reducible refine Kd.C_drew ?_))); (case side2 => exact (Kd.R_reads' HO166.out).2.1); rintro e w14 ⟨rfl, hb⟩; refine ⟨_, rfl, ?_⟩; have n0_ := Aside0.mk (Kd.R_below (b2_ HO166.out) hb); have n1_ := Aside0.mk (below_step (by repeat (first | (with_reducible first | exact HB.out | apply below_alloc | apply pw_below_drewN | apply below_drew1) | exact HB.out)) hb); clear HO166; clear HB; have HO166 := n0_; have HB := n1_; clear n0_ n1_; (try clear hb); (try clear hb2); (try clear hk); (try clear hi)) | ((with_reducible refine gate_callee (f := 27) rfl ?_); refine goesL_ (some 30) rfl rfl Try.func27 s2_ rfl #[.slice A1 l1.length c1] rfl s3_ ?_; (with_reducible refine (laws_toStringS.calls k _ _ l1 t169 _ ?side1 ?side2 A9.out).mono ?_); (case side1 => repeat (first | exact (Kd.C_below HR1.out HB.out) | (with_reducible refine Kd.C_alloc ?_ _) | (with_reducible refine Kd.C_drewN ?_ _) | (with_reducible refine Kd.C_drew ?_))); (case side2 => exact HC1.out); rintro e w15 ⟨v170, rfl, ho0, hb⟩; refine ⟨_, rfl, ?_⟩; have n0_ := Aside0.mk (Kd.R_elder' (b2_ HO166.out) (Kd.R_base ho0) hb); have n1_ := Aside0.mk (Kd.R_lower (Kd.R_new' ho0 (Kd.R_lt (b2_ HO166.out))) (below_size (by repeat (first | (with_reducible first | exact HB.out | apply below_alloc | apply pw_below_drewN | apply below_drew1) | exact HB.out)))); have n2_ := Aside0.mk (below_step (by repeat (first | (with_reducible first | exact HB.out | apply below_alloc | apply pw_below_drewN | apply below_drew1) | exact HB.out)) hb); clear HO166; clear HB; have HO166 := n0_; have HO171 := n1_; have HB := n2_; clear n0_ n1_ n2_; (try clear hb); (try clear hb2); (try clear hk); (try clear hi); (try clear ho0); obtain ⟨Ao16, co16, eo16⟩ := Kd.R_slice HO171.out; subst eo16) | ((with_reducible refine gate_callee (f := 24) rfl ?_); refine goesL_ (some 35) rfl rfl Try.func24 s2_ rfl #[.string a0, .slice Ao16 t169.length co16, .int .i64 a2] rfl s3_ ?_; (with_reducible refine (impl_SnippetOf.calls k a0 _ _ t169 a2 t172 t173 _ ?side1 ?side2 A10.out).mono ?_); (case side1 => repeat (first | exact (Kd.R_reads' HO171.out).2.2 | (with_reducible refine Kd.C_alloc ?_ _) | (with_reducible refine Kd.C_drewN ?_ _) | (with_reducible refine Kd.C_drew ?_))); (case side2 => exact (Kd.R_reads' HO171.out).2.1); rintro e w17 ⟨rfl, hb⟩; refine ⟨_, rfl, ?_⟩; have n0_ := Aside0.mk (Kd.R_below (b2_ HO166.out) hb); have n1_ := Aside0.mk (Kd.R_below (b2_ HO171.out) hb); have n2_ := Aside0.mk (below_step (by repeat (first | (with_reducible first | exact HB.out | apply below_alloc | apply pw_below_drewN | apply below_drew1) | exact HB.out)) hb); clear HO166; clear HO171; clear HB; have HO166 := n0_; have HO171 := n1_; have HB := n2_; clear n0_ n1_ n2_; (try clear hb); (try clear hb2); (try clear hk); (try clear hi)))
 (try simp only [Act.put, List.setIfInBounds_toArray, List.set_cons_zero, List.set_cons_succ])
 go_cut [45] (fun v45 wc => ∃ (kq : Nat) (x45_10 : Bool), v45 = .bool x45_10 ∧ Aside0 (laws_FnExactSnippetOf.j0 kq l1 t169 x45_10 = some r) ∧ Aside0 (kq ≤ k) ∧ Aside0 (Kd.R Kd.string 9 wc w.heap.size (fun _ => True) (.slice Ao16 t169.length co16) t169) ∧ Aside0 (Below w.heap.size w wc))
 case first =>
  skip
  {
 have H := HC11.out
 clear HC11
 by_cases c18 : t172.toList = t167.toList
 {
 rw [if_pos c18] at H
 have c18b0 : (t172.toList == t167.toList) = true := beq_iff_eq.mpr c18
 have c18b1 : (t172.toList != t167.toList) = false := bne_eq_false_iff_eq.mpr c18
 clear c18
 (first | rw [c18b0] | (simp only [i64_w, i32_w]; rw [c18b0]) | skip)
 have H' := Aside0.mk H
 clear H
 go_wp2
 go_meet
 case rel => exact ⟨_, ((t173 != t168)), (by first | rfl | (simp; done) | (simp [*]; done)), H', ⟨by first | omega | exact Nat.le_refl _⟩, ⟨by (with_reducible repeat (first | apply Kd.R_alloc | apply Kd.R_drewN | apply Kd.R_drew)); exact Kd.R_mono HO171.out (fun _ hk => trivial)⟩, ⟨by repeat (first | (with_reducible first | exact HB.out | apply below_alloc | apply pw_below_drewN | apply below_drew1) | exact HB.out)⟩⟩}
 {
 rw [if_neg c18] at H
 have c18b0 : (t172.toList == t167.toList) = false := beq_eq_false_iff_ne.mpr c18
 have c18b1 : (t172.toList != t167.toList) = true := bne_iff_ne.mpr c18
 (first | rw [c18b0] | (simp only [i64_w, i32_w]; rw [c18b0]) | skip)
 have H' := Aside0.mk H
 clear H
 go_wp2
 go_meet
 case rel => exact ⟨_, (true), (by first | rfl | (simp; done) | (simp [*]; done)), H', ⟨by first | omega | exact Nat.le_refl _⟩, ⟨by (with_reducible repeat (first | apply Kd.R_alloc | apply Kd.R_drewN | apply Kd.R_drew)); exact Kd.R_mono HO171.out (fun _ hk => trivial)⟩, ⟨by repeat (first | (with_reducible first | exact HB.out | apply below_alloc | apply pw_below_drewN | apply below_drew1) | exact HB.out)⟩⟩}}
 case rest =>
  skip
  {
 clear HC11
 try clear c1
 try clear c2
 try clear p2
 try clear c4
 try clear c4b0
 try clear c4b1
 try clear c6
 try clear c6b0
 try clear c18
 try clear c18b0
 try clear c18b1
 obtain ⟨kq, x45_10, rfl, HA, HJ10, HO_10, HB⟩ := hcut
 cases kq with
 | zero => exact absurd HA.out (by simp [laws_FnExactSnippetOf.j0])
 | succ kj10 =>
  skip
  {
 have H := HA.out
 clear HA
 simp only [laws_FnExactSnippetOf.j0] at H
 by_cases c19 : x45_10 = true
 {
 subst c19
 have H1 : (some false) = some r := by rw [if_pos rfl] at H; exact H
 clear H
 have H := H1
 clear H1
 obtain rfl := Option.some.inj H
 go_wp2
 go_ret
 exact ⟨by first | rfl | (simp [errW_none, errW_some] <;> rfl) | (simp [*, errW_none, errW_some] <;> rfl), by repeat (first | (with_reducible first | exact HB.out | apply below_alloc | apply pw_below_drewN | apply below_drew1) | exact HB.out)⟩}
 {
 replace c19 := Bool.eq_false_iff.mpr c19
 subst c19
 have H1 : ((laws_toStringS.f kj10 l1).bind fun t174 => ((laws_eqStringS.f kj10 t169 t174).bind fun t177 => (if t177 = true then (some true) else (some false)))) = some r := by rw [if_neg (show ¬ (false = true) by decide)] at H; exact H
 clear H
 have H := H1
 clear H1
 replace H := Option.bind_eq_some_iff.mp H
 obtain ⟨t174, A200, H⟩ := H
 replace H : ((laws_eqStringS.f kj10 t169 t174).bind fun t177 => (if t177 = true then (some true) else (some false))) = some r := H
 have A20 := Aside0.mk A200
 clear A200
 replace H := Option.bind_eq_some_iff.mp H
 obtain ⟨t177, A210, H⟩ := H
 replace H : (if t177 = true then (some true) else (some false)) = some r := H
 have A21 := Aside0.mk A210
 clear A210
 by_cases c22 : t177 = true
 {
 subst c22
 have H1 : (some true) = some r := by rw [if_pos rfl] at H; exact H
 clear H
 have H := H1
 clear H1
 obtain rfl := Option.some.inj H
 go_wp2_with (first | ((with_reducible refine gate_callee (f := 27) rfl ?_); refine goesL_ (some 48) rfl rfl Try.func27 s2_ rfl #[.slice A1 l1.length c1] rfl s3_ ?_; (with_reducible refine (laws_toStringS.calls kj10 _ _ l1 t174 _ ?side1 ?side2 A20.out).mono ?_); (case side1 => repeat (first | exact (Kd.C_below HR1.out HB.out) | (with_reducible refine Kd.C_alloc ?_ _) | (with_reducible refine Kd.C_drewN ?_ _) | (with_reducible refine Kd.C_drew ?_))); (case side2 => exact HC1.out); rintro e w23 ⟨v175, rfl, ho0, hb⟩; refine ⟨_, rfl, ?_⟩; have n0_ := Aside0.mk (Kd.R_elder' (b2_ HO_10.out) (Kd.R_base ho0) hb); have n1_ := Aside0.mk (Kd.R_lower (Kd.R_new' ho0 (Kd.R_lt (b2_ HO_10.out))) (below_size (by repeat (first | (with_reducible first | exact HB.out | apply below_alloc | apply pw_below_drewN | apply below_drew1) | exact HB.out)))); have n2_ := Aside0.mk (below_step (by repeat (first | (with_reducible first | exact HB.out | apply below_alloc | apply pw_below_drewN | apply below_drew1) | exact HB.out)) hb); clear HO_10; clear HB; have HO_10 := n0_; have HO176 := n1_; have HB := n2_; clear n0_ n1_ n2_; (try clear hb); (try clear hb2); (try clear hk); (try clear hi); (try clear ho0); obtain ⟨Ao24, co24, eo24⟩ := Kd.R_slice HO176.out; subst eo24) | ((with_reducible refine gate_callee (f := 28) rfl ?_); refine goesL_ (some 49) rfl rfl Try.func28 s2_ rfl #[.slice Ao16 t169.length co16, .slice Ao24 t174.length co24] rfl s3_ ?_; (with_reducible refine (laws_eqStringS.calls kj10 _ _ t169 _ _ t174 true _ ?side1 ?side2 ?side3 ?side4 A21.out).mono ?_); (case side1 => repeat (first | exact (Kd.R_reads' HO_10.out).2.2 | (with_reducible refine Kd.C_alloc ?_ _) | (with_reducible refine Kd.C_drewN ?_ _) | (with_reducible refine Kd.C_drew ?_))); (case side2 => exact (Kd.R_reads' HO_10.out).2.1); (case side3 => repeat (first | exact (Kd.R_reads' HO176.out).2.2 | (with_reducible refine Kd.C_alloc ?_ _) | (with_reducible refine Kd.C_drewN ?_ _) | (with_reducible refine Kd.C_drew ?_))); (case side4 => exact (Kd.R_reads' HO176.out).2.1); rintro e w' ⟨rfl, ⟨nd, rfl⟩⟩; refine ⟨_, rfl, ?_⟩))
 go_ret
 exact ⟨by first | rfl | (simp [errW_none, errW_some] <;> rfl) | (simp [*, errW_none, errW_some] <;> rfl), by repeat (first | (with_reducible first | exact HB.out | apply below_alloc | apply pw_below_drewN | apply below_drew1) | exact HB.out)⟩}
 {
 replace c22 := Bool.eq_false_iff.mpr c22
 subst c22
 have H1 : (some false) = some r := by rw [if_neg (show ¬ (false = true) by decide)] at H; exact H
 clear H
 have H := H1
 clear H1
 obtain rfl := Option.some.inj H
 go_wp2_with (first | ((with_reducible refine gate_callee (f := 27) rfl ?_); refine goesL_ (some 48) rfl rfl Try.func27 s2_ rfl #[.slice A1 l1.length c1] rfl s3_ ?_; (with_reducible refine (laws_toStringS.calls kj10 _ _ l1 t174 _ ?side1 ?side2 A20.out).mono ?_); (case side1 => repeat (first | exact (Kd.C_below HR1.out HB.out) | (with_reducible refine Kd.C_alloc ?_ _) | (with_reducible refine Kd.C_drewN ?_ _) | (with_reducible refine Kd.C_drew ?_))); (case side2 => exact HC1.out); rintro e w25 ⟨v175, rfl, ho0, hb⟩; refine ⟨_, rfl, ?_⟩; have n0_ := Aside0.mk (Kd.R_elder' (b2_ HO_10.out) (Kd.R_base ho0) hb); have n1_ := Aside0.mk (Kd.R_lower (Kd.R_new' ho0 (Kd.R_lt (b2_ HO_10.out))) (below_size (by repeat (first | (with_reducible first | exact HB.out | apply below_alloc | apply pw_below_drewN | apply below_drew1) | exact HB.out)))); have n2_ := Aside0.mk (below_step (by repeat (first | (with_reducible first | exact HB.out | apply below_alloc | apply pw_below_drewN | apply below_drew1) | exact HB.out)) hb); clear HO_10; clear HB; have HO_10 := n0_; have HO176 := n1_; have HB := n2_; clear n0_ n1_ n2_; (try clear hb); (try clear hb2); (try clear hk); (try clear hi); (try clear ho0); obtain ⟨Ao26, co26, eo26⟩ := Kd.R_slice HO176.out; subst eo26) | ((with_reducible refine gate_callee (f := 28) rfl ?_); refine goesL_ (some 49) rfl rfl Try.func28 s2_ rfl #[.slice Ao16 t169.length co16, .slice Ao26 t174.length co26] rfl s3_ ?_; (with_reducible refine (laws_eqStringS.calls kj10 _ _ t169 _ _ t174 false _ ?side1 ?side2 ?side3 ?side4 A21.out).mono ?_); (case side1 => repeat (first | exact (Kd.R_reads' HO_10.out).2.2 | (with_reducible refine Kd.C_alloc ?_ _) | (with_reducible refine Kd.C_drewN ?_ _) | (with_reducible refine Kd.C_drew ?_))); (case side2 => exact (Kd.R_reads' HO_10.out).2.1); (case side3 => repeat (first | exact (Kd.R_reads' HO176.out).2.2 | (with_reducible refine Kd.C_alloc ?_ _) | (with_reducible refine Kd.C_drewN ?_ _) | (with_reducible refine Kd.C_drew ?_))); (case side4 => exact (Kd.R_reads' HO176.out).2.1); rintro e w' ⟨rfl, ⟨nd, rfl⟩⟩; refine ⟨_, rfl, ?_⟩))
 go_ret
 exact ⟨by first | rfl | (simp [errW_none, errW_some] <;> rfl) | (simp [*, errW_none, errW_some] <;> rfl), by repeat (first | (with_reducible first | exact HB.out | apply below_alloc | apply pw_below_drewN | apply below_drew1) | exact HB.out)⟩}}}}}}

/-- THE ONE PURE STATEMENT of laws_FnExactSnippetOf: yours. -/
def laws_FnExactSnippetOf.Pure : Prop := ∀ (a0 : ByteArray) (l1 : List ByteArray) (a2 : Int), (a0.size ≤ 140737488351232) → (l1.length ≤ maxLen ∧ l1.length * 16 ≤ 140737488351232 ∧ ∀ y0_ ∈ l1, y0_.size ≤ 140737488351232) → ((Lit.int .i64 a2).wf = true) → ∃ k, laws_FnExactSnippetOf.f k a0 l1 a2 = some true
theorem laws_FnExactSnippetOf.walk (P : laws_FnExactSnippetOf.Pure) (a0 : ByteArray) (A1 : Option Addr) (c1 : Nat) (l1 : List ByteArray) (a2 : Int) (w : World) (hr1 : Kd.C Kd.string w A1 l1.length l1) (hc1 : l1.length ≤ c1) (F0 : a0.size ≤ 140737488351232) (F1 : l1.length ≤ maxLen ∧ l1.length * 16 ≤ 140737488351232 ∧ ∀ y0_ ∈ l1, y0_.size ≤ 140737488351232) (F2 : (Lit.int .i64 a2).wf = true) :
    Calls Try.prog 6 #[.string a0, .slice A1 l1.length c1, .int .i64 a2] w fun e w' => e = .returned (.bool true) ∧ Below w.heap.size w w' := by
  obtain ⟨k, h⟩ := P a0 l1 a2 F0 F1 F2
  refine (laws_FnExactSnippetOf.calls k a0 A1 c1 l1 a2 true w hr1 hc1 h).mono ?_
  rintro e w' ⟨rfl, hd⟩
  exact ⟨rfl, hd⟩

end Go.Proofs.Ytcnhepjdibbkgaa.QFnExactSnippetOf
