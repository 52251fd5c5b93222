-- written by a program of this session, on the lines of the kit's print
import Derived.Test.YtgfilednbllkmaaRows
import Derived.Test.YtgfilednbllkmaaQFnExactJoinPresencex13
import Derived.Test.YtgfilednbllkmaaPureFnExactJoinPresence
import Derived.Test.YtgfilednbllkmaaOpn
import Derived.WalkKit
import Derived.ProofKit
import Derived.OpenShut
import Derived.ShutString
import Derived.ChangeOld
import Derived.Below
import Derived.SizedLaws
namespace Go.Proofs.Ytgfilednbllkmaa.fnExactJoinPresence
open Go.ChangeShapes Go.WideShapes Go.ChangeAt Go.RowKit Go.Proofs.Ytgfilednbllkmaa.Opn Go.Proofs.Ytgfilednbllkmaa.QFnExactJoinPresence Go.Proofs.YtgfilednbllkmaaW.PrintWords
open Go.ChangeMaps (open_string shut_string)
set_option linter.unusedVariables false
theorem own : ownKnob Try.prog.godebug = none := by kernel_rfl
theorem laidOut : laidOutB Try.prog = true := by kernel_rfl
set_option maxRecDepth 100000 in
theorem lifted (os : Os) (started : os.Started) (H : Type) (enc : TypeId × Value → H) :
    ReturnsInHanded {} Try.checked os 9 .any (Rows.fnExactJoinPresenceSpec.pre6 enc Try.prog Try.f9 Rows.fnExactJoinPresenceRow.domain false) (Rows.fnExactJoinPresenceSpec.post enc Try.prog Try.f9 false true false false) := by
  refine returnsInHanded_of_change_sized (C := Try.checked) own started (by kernel_rfl) Try.func9
    (ChangeSpec.witness6 (enc := enc) (C := Try.checked) false ⟨#[], #[.agg #[.slice none 0 0, .slice none 0 0, .slice none 0 0], .agg #[.slice none 0 0, .slice none 0 0, .slice none 0 0]], []⟩ 8 (by kernel_rfl) (by kernel_rfl) (by kernel_rfl) (by kernel_rfl)) ?_
  intro W base args ds gs before hval0 hW hcnd hsz0 _
  have hsz : (DataW.weightsEach Try.prog (Try.f9.params.toList ++ Rows.fnExactJoinPresenceSpec.plain.varTypes Try.prog) (ds ++ gs)).all (· ≤ reachBytes) = true := hsz0
  have hval : ∀ (j : Nat) t v, Try.f9.params[j]? = some t → args[j]? = some v → Value.okWide Try.prog W .any base t v := hval0
  have hW' := hW
  obtain ⟨p, q, hA0, hV, rfl, hfz, hnd⟩ := hW
  have hA : DataW.TrodAll enc Try.prog W 0 (fun _ => true) true Try.f9.params.toList args.toList ds p := hA0
  rw [Try.params9] at hA hval hsz
  obtain ⟨v0, vs0, d0, ds0, p0, q0, hargs, rfl, rfl, h0, r0⟩ := trodAll_cons hA
  obtain ⟨v1, vs1, d1, ds1, p1, q1, rfl, rfl, rfl, h1, r1⟩ := trodAll_cons r0
  obtain ⟨rfl, rfl, rfl⟩ := trodAll_nil r1
  obtain rfl : args = #[v0, v1] := by cases args; simp_all
  obtain ⟨rfl, rfl⟩ := trodVars_none hV
  obtain ⟨cs0, rfl, _⟩ := okWide_struct Try.underlying45 (hval 0 45 v0 rfl rfl)
  have k0 := h0
  have lt0 := trod_lt_ k0
  obtain ⟨b0, K0, F0⟩ := arg_open opens45 h0 hsz (j := 0) rfl rfl
  obtain ⟨A0_0, c0_0, A0_1, c0_1, A0_2, c0_2, hcs0, hc0_0, hr0_0, hc0_1, hr0_1, hc0_2, hr0_2⟩ := k45_open K0
  obtain rfl : cs0 = #[.slice A0_0 b0.f0.length c0_0, .slice A0_1 b0.f1.length c0_1, .slice A0_2 b0.f2.length c0_2] := by apply Array.ext'; simpa [Value.cells] using hcs0
  obtain ⟨cs1, rfl, _⟩ := okWide_struct Try.underlying45 (hval 1 45 v1 rfl rfl)
  have k1 := h1
  have lt1 := trod_lt_ k1
  obtain ⟨b1, K1, F1⟩ := arg_open opens45 h1 hsz (j := 1) rfl rfl
  obtain ⟨A1_0, c1_0, A1_1, c1_1, A1_2, c1_2, hcs1, hc1_0, hr1_0, hc1_1, hr1_1, hc1_2, hr1_2⟩ := k45_open K1
  obtain rfl : cs1 = #[.slice A1_0 b1.f0.length c1_0, .slice A1_1 b1.f1.length c1_1, .slice A1_2 b1.f2.length c1_2] := by apply Array.ext'; simpa [Value.cells] using hcs1
  clear hA0 hval0 hsz0 hsz
  refine (QFnExactJoinPresence.laws_FnExactJoinPresence.walk Pure.FnExactJoinPresence _ _ b0.f0 _ _ b0.f1 _ _ b0.f2 _ _ b1.f0 _ _ b1.f1 _ _ b1.f2 W hr0_0 hc0_0 hr0_1 hc0_1 hr0_2 hc0_2 hr1_0 hc1_0 hr1_1 hc1_1 hr1_2 hc1_2 F0.1 F0.2.1 F0.2.2 F1.1 F1.2.1 F1.2.2).mono fun e W' ⟨he, bel⟩ => ?_
  subst he
  exact ⟨_, rfl, _, _, _, [], _, [], hW', trodAll_mk1 (shut_bool Try.underlying4 _), (trodAll_cons_mk (Below.trod laidOut (by kernel_rfl) (of_decide_eq_true (by kernel_rfl)) k0 bel lt0) (trodAll_cons_mk (Below.trod laidOut (by kernel_rfl) (of_decide_eq_true (by kernel_rfl)) k1 bel lt1) trodAll_mk0)), rfl, bel.frame _, fun h => by cases h⟩
theorem over : Rows.fnExactJoinPresenceRow.holds Try.pinned (OpenSpec.ofChange Rows.fnExactJoinPresenceSpec) :=
  OpenClaim.holds_of_wide 9 Try.f9 rfl rfl rfl rfl rfl rfl rfl ⟨rfl, rfl, rfl, rfl, rfl⟩ rfl rfl rfl rfl rfl (by kernel_rfl) Try.func9 (by kernel_rfl)
    (of_decide_eq_true (by kernel_rfl)) (by unfold Func.isWrapper; first | (rw [if_pos (by decide +kernel)]; kernel_rfl) | (rw [if_neg (by decide +kernel)]; exact ⟨rfl, rfl⟩))
    (fun os started H enc _ => lifted os started H enc)
theorem proved : Rows.FnExactJoinPresenceSaid := over
#print axioms proved
end Go.Proofs.Ytgfilednbllkmaa.fnExactJoinPresence
namespace Go.Proofs.Ytgfilednbllkmaa
/-- The row, under a short name, for the claim. -/
theorem fnExactJoinPresence_holds : Rows.FnExactJoinPresenceSaid := fnExactJoinPresence.proved
end Go.Proofs.Ytgfilednbllkmaa
