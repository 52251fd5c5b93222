-- written by a program of this session, on the lines of the kit's print
import Derived.Test.YtgmbgpjebpgpkaaQFnExactRootOfx0
import Derived.Test.YtgmbgpjebpgpkaaQFnExactRootOfx2
import Derived.Test.YtgmbgpjebpgpkaaQFnExactRootOfx3
namespace Go.Proofs.Ytgmbgpjebpgpkaa.QFnExactRootOf
open Go.RowKit Go.Proofs.YtgmbgpjebpgpkaaW.PrintWords Go.Proofs.YtgmbgpjebpgpkaaW.PrintLast Go.Proofs.YtgmbgpjebpgpkaaW.PrintMore
attribute [local go_sem] max2_int min2_int max_two min_two max_three min_three max_four min_four   -- for this text's walks alone
set_option linter.unusedVariables false
set_option linter.unusedSimpArgs false

/-! ### spec_l03Message_v0: function 57 -/
abbrev spec_l03Message_v0.T : Bool := true
abbrev spec_l03Message_v0.F : Bool := false
theorem spec_l03Message_v0.s2_ {P : Prop} (h : P := by kernel_rfl) : P := h
theorem spec_l03Message_v0.s3_ {P : Prop} (h : P := by (try simp only [List.map_toArray, List.map_cons, List.map_nil]); first | done | rfl | (simp only [List.length_drop, List.length_take]; rfl)) : P := h
abbrev spec_l03Message_v0.m0_ : Array Bool := #[F,F,F,F,F,F,F,F,F,F,F,F,F,F,F,F,F,F,F,F,F,F,F,F,F,F,F,F,F,F,F,F,F,F,F,F,F,F,F,F,F,F,F,F,F,F,F,F,F,F,F]
abbrev spec_l03Message_v0.m1_ : Array Bool := #[T,F,F,F,F,F,F,F,F,F,F,F,F,F,F,F,F,F,F,F,F,F,F,F,F,F,F,F,F,F,F,F,F,F,F,F,F,F,F,F,F,F,F,F,F,F,F,F,F,F,F]
abbrev spec_l03Message_v0.m2_ : Array Bool := #[T,T,F,F,F,F,F,F,F,F,F,F,F,F,F,F,F,F,F,F,F,F,F,F,F,F,F,F,F,F,F,F,F,F,F,F,F,F,F,F,F,F,F,F,F,F,F,F,F,F,F]
abbrev spec_l03Message_v0.m3_ : Array Bool := #[T,T,T,F,F,F,F,F,F,F,F,F,F,F,F,F,F,F,F,F,F,F,F,F,F,F,F,F,F,F,F,F,F,F,F,F,F,F,F,F,F,F,F,F,F,F,F,F,F,F,F]
abbrev spec_l03Message_v0.m4_ : Array Bool := #[T,T,T,T,F,F,F,F,F,F,F,F,F,F,F,F,F,F,F,F,F,F,F,F,F,F,F,F,F,F,F,F,F,F,F,F,F,F,F,F,F,F,F,F,F,F,F,F,F,F,F]
abbrev spec_l03Message_v0.m5_ : Array Bool := #[T,T,T,T,T,F,F,F,F,F,F,F,F,F,F,F,F,F,F,F,F,F,F,F,F,F,F,F,F,F,F,F,F,F,F,F,F,F,F,F,F,F,F,F,F,F,F,F,F,F,F]
abbrev spec_l03Message_v0.m6_ : Array Bool := #[T,T,T,T,T,T,F,F,F,F,F,F,F,F,F,F,F,F,F,F,F,F,F,F,F,F,F,F,F,F,F,F,F,F,F,F,F,F,F,F,F,F,F,F,F,F,F,F,F,F,F]
abbrev spec_l03Message_v0.m7_ : Array Bool := #[T,T,T,T,T,T,T,F,F,F,F,F,F,F,F,F,F,F,F,F,F,F,F,F,F,F,F,F,F,F,F,F,F,F,F,F,F,F,F,F,F,F,F,F,F,F,F,F,F,F,F]
abbrev spec_l03Message_v0.m8_ : Array Bool := #[T,T,T,T,T,T,T,T,F,F,F,F,F,F,F,F,F,F,F,F,F,F,F,F,F,F,F,F,F,F,F,F,F,F,F,F,F,F,F,F,F,F,F,F,F,F,F,F,F,F,F]
abbrev spec_l03Message_v0.m9_ : Array Bool := #[T,T,T,T,T,T,T,T,T,F,F,F,F,F,F,F,F,F,F,F,F,F,F,F,F,F,F,F,F,F,F,F,F,F,F,F,F,F,F,F,F,F,F,F,F,F,F,F,F,F,F]
abbrev spec_l03Message_v0.m10_ : Array Bool := #[T,T,T,T,T,T,T,T,T,T,F,F,F,F,F,F,F,F,F,F,F,F,F,F,F,F,F,F,F,F,F,F,F,F,F,F,F,F,F,F,F,F,F,F,F,F,F,F,F,F,F]
abbrev spec_l03Message_v0.m11_ : Array Bool := #[T,T,T,T,T,T,T,T,T,T,T,F,F,F,F,F,F,F,F,F,F,F,F,F,F,F,F,F,F,F,F,F,F,F,F,F,F,F,F,F,F,F,F,F,F,F,F,F,F,F,F]
abbrev spec_l03Message_v0.m12_ : Array Bool := #[T,T,T,T,T,T,T,T,T,T,T,T,F,F,F,F,F,F,F,F,F,F,F,F,F,F,F,F,F,F,F,F,F,F,F,F,F,F,F,F,F,F,F,F,F,F,F,F,F,F,F]
abbrev spec_l03Message_v0.m13_ : Array Bool := #[T,T,T,T,T,T,T,T,T,T,T,T,T,F,F,F,F,F,F,F,F,F,F,F,F,F,F,F,F,F,F,F,F,F,F,F,F,F,F,F,F,F,F,F,F,F,F,F,F,F,F]
abbrev spec_l03Message_v0.m14_ : Array Bool := #[T,T,T,T,T,T,T,T,T,T,T,T,T,T,F,F,F,F,F,F,F,F,F,F,F,F,F,F,F,F,F,F,F,F,F,F,F,F,F,F,F,F,F,F,F,F,F,F,F,F,F]
abbrev spec_l03Message_v0.m15_ : Array Bool := #[T,T,T,T,T,T,T,T,T,T,T,T,T,T,T,F,F,F,F,F,F,F,F,F,F,F,F,F,F,F,F,F,F,F,F,F,F,F,F,F,F,F,F,F,F,F,F,F,F,F,F]
abbrev spec_l03Message_v0.m16_ : Array Bool := #[T,T,T,T,T,T,T,T,T,T,T,T,T,T,T,T,F,F,F,F,F,F,F,F,F,F,F,F,F,F,F,F,F,F,F,F,F,F,F,F,F,F,F,F,F,F,F,F,F,F,F]
abbrev spec_l03Message_v0.m17_ : Array Bool := #[T,T,T,T,T,T,T,T,T,T,T,T,T,T,T,T,T,F,F,F,F,F,F,F,F,F,F,F,F,F,F,F,F,F,F,F,F,F,F,F,F,F,F,F,F,F,F,F,F,F,F]
abbrev spec_l03Message_v0.m18_ : Array Bool := #[T,T,T,T,T,T,T,T,T,T,T,T,T,T,T,T,T,T,F,F,F,F,F,F,F,F,F,F,F,F,F,F,F,F,F,F,F,F,F,F,F,F,F,F,F,F,F,F,F,F,F]
abbrev spec_l03Message_v0.m19_ : Array Bool := #[T,T,T,T,T,T,T,T,T,T,T,T,T,T,T,T,T,T,T,F,F,F,F,F,F,F,F,F,F,F,F,F,F,F,F,F,F,F,F,F,F,F,F,F,F,F,F,F,F,F,F]
abbrev spec_l03Message_v0.m20_ : Array Bool := #[T,T,T,T,T,T,T,T,T,T,T,T,T,T,T,T,T,T,T,T,F,F,F,F,F,F,F,F,F,F,F,F,F,F,F,F,F,F,F,F,F,F,F,F,F,F,F,F,F,F,F]
abbrev spec_l03Message_v0.m21_ : Array Bool := #[T,T,T,T,T,T,T,T,T,T,T,T,T,T,T,T,T,T,T,T,T,F,F,F,F,F,F,F,F,F,F,F,F,F,F,F,F,F,F,F,F,F,F,F,F,F,F,F,F,F,F]
abbrev spec_l03Message_v0.m22_ : Array Bool := #[T,T,T,T,T,T,T,T,T,T,T,T,T,T,T,T,T,T,T,T,T,T,F,F,F,F,F,F,F,F,F,F,F,F,F,F,F,F,F,F,F,F,F,F,F,F,F,F,F,F,F]
abbrev spec_l03Message_v0.m23_ : Array Bool := #[T,T,T,T,T,T,T,T,T,T,T,T,T,T,T,T,T,T,T,T,T,T,T,F,F,F,F,F,F,F,F,F,F,F,F,F,F,F,F,F,F,F,F,F,F,F,F,F,F,F,F]
abbrev spec_l03Message_v0.m24_ : Array Bool := #[T,T,T,T,T,T,T,T,T,T,T,T,T,T,T,T,T,T,T,T,T,T,T,T,F,F,F,F,F,F,F,F,F,F,F,F,F,F,F,F,F,F,F,F,F,F,F,F,F,F,F]
abbrev spec_l03Message_v0.m25_ : Array Bool := #[T,T,T,T,T,T,T,T,T,T,T,T,T,T,T,T,T,T,T,T,T,T,T,T,T,F,F,F,F,F,F,F,F,F,F,F,F,F,F,F,F,F,F,F,F,F,F,F,F,F,F]
abbrev spec_l03Message_v0.m26_ : Array Bool := #[T,T,T,T,T,T,T,T,T,T,T,T,T,T,T,T,T,T,T,T,T,T,T,T,T,T,F,F,F,F,F,F,F,F,F,F,F,F,F,F,F,F,F,F,F,F,F,F,F,F,F]
abbrev spec_l03Message_v0.m27_ : Array Bool := #[T,T,T,T,T,T,T,T,T,T,T,T,T,T,T,T,T,T,T,T,T,T,T,T,T,T,T,F,F,F,F,F,F,F,F,F,F,F,F,F,F,F,F,F,F,F,F,F,F,F,F]
abbrev spec_l03Message_v0.m28_ : Array Bool := #[T,T,T,T,T,T,T,T,T,T,T,T,T,T,T,T,T,T,T,T,T,T,T,T,T,T,T,T,F,F,F,F,F,F,F,F,F,F,F,F,F,F,F,F,F,F,F,F,F,F,F]
abbrev spec_l03Message_v0.m29_ : Array Bool := #[T,T,T,T,T,T,T,T,T,T,T,T,T,T,T,T,T,T,T,T,T,T,T,T,T,T,T,T,T,F,F,F,F,F,F,F,F,F,F,F,F,F,F,F,F,F,F,F,F,F,F]
abbrev spec_l03Message_v0.m30_ : Array Bool := #[T,T,T,T,T,T,T,T,T,T,T,T,T,T,T,T,T,T,T,T,T,T,T,T,T,T,T,T,T,T,F,F,F,F,F,F,F,F,F,F,F,F,F,F,F,F,F,F,F,F,F]
abbrev spec_l03Message_v0.m31_ : Array Bool := #[T,T,T,T,T,T,T,T,T,T,T,T,T,T,T,T,T,T,T,T,T,T,T,T,T,T,T,T,T,T,T,F,F,F,F,F,F,F,F,F,F,F,F,F,F,F,F,F,F,F,F]
abbrev spec_l03Message_v0.m32_ : Array Bool := #[T,T,T,T,T,T,T,T,T,T,T,T,T,T,T,T,T,T,T,T,T,T,T,T,T,T,T,T,T,T,T,T,F,F,F,F,F,F,F,F,F,F,F,F,F,F,F,F,F,F,F]
abbrev spec_l03Message_v0.m33_ : Array Bool := #[T,T,T,T,T,T,T,T,T,T,T,T,T,T,T,T,T,T,T,T,T,T,T,T,T,T,T,T,T,T,T,T,T,F,F,F,F,F,F,F,F,F,F,F,F,F,F,F,F,F,F]
abbrev spec_l03Message_v0.m34_ : Array Bool := #[T,T,T,T,T,T,T,T,T,T,T,T,T,T,T,T,T,T,T,T,T,T,T,T,T,T,T,T,T,T,T,T,T,T,F,F,F,F,F,F,F,F,F,F,F,F,F,F,F,F,F]
abbrev spec_l03Message_v0.m35_ : Array Bool := #[T,T,T,T,T,T,T,T,T,T,T,T,T,T,T,T,T,T,T,T,T,T,T,T,T,T,T,T,T,T,T,T,T,T,T,F,F,F,F,F,F,F,F,F,F,F,F,F,F,F,F]
abbrev spec_l03Message_v0.m36_ : Array Bool := #[T,T,T,T,T,T,T,T,T,T,T,T,T,T,T,T,T,T,T,T,T,T,T,T,T,T,T,T,T,T,T,T,T,T,T,T,F,F,F,F,F,F,F,F,F,F,F,F,F,F,F]
abbrev spec_l03Message_v0.m37_ : Array Bool := #[T,T,T,T,T,T,T,T,T,T,T,T,T,T,T,T,T,T,T,T,T,T,T,T,T,T,T,T,T,T,T,T,T,T,T,T,T,F,F,F,F,F,F,F,F,F,F,F,F,F,F]
abbrev spec_l03Message_v0.m38_ : Array Bool := #[T,T,T,T,T,T,T,T,T,T,T,T,T,T,T,T,T,T,T,T,T,T,T,T,T,T,T,T,T,T,T,T,T,T,T,T,T,T,F,F,F,F,F,F,F,F,F,F,F,F,F]
abbrev spec_l03Message_v0.m39_ : Array Bool := #[T,T,T,T,T,T,T,T,T,T,T,T,T,T,T,T,T,T,T,T,T,T,T,T,T,T,T,T,T,T,T,T,T,T,T,T,T,T,T,F,F,F,F,F,F,F,F,F,F,F,F]
abbrev spec_l03Message_v0.m40_ : Array Bool := #[T,T,T,T,T,T,T,T,T,T,T,T,T,T,T,T,T,T,T,T,T,T,T,T,T,T,T,T,T,T,T,T,T,T,T,T,T,T,T,T,F,F,F,F,F,F,F,F,F,F,F]
abbrev spec_l03Message_v0.m41_ : Array Bool := #[T,T,T,T,T,T,T,T,T,T,T,T,T,T,T,T,T,T,T,T,T,T,T,T,T,T,T,T,T,T,T,T,T,T,T,T,T,T,T,T,T,F,F,F,F,F,F,F,F,F,F]
abbrev spec_l03Message_v0.m42_ : Array Bool := #[T,T,T,T,T,T,T,T,T,T,T,T,T,T,T,T,T,T,T,T,T,T,T,T,T,T,T,T,T,T,T,T,T,T,T,T,T,T,T,T,T,T,F,F,F,F,F,F,F,F,F]
abbrev spec_l03Message_v0.m43_ : Array Bool := #[T,T,T,T,T,T,T,T,T,T,T,T,T,T,T,T,T,T,T,T,T,T,T,T,T,T,T,T,T,T,T,T,T,T,T,T,T,T,T,T,T,T,F,T,F,F,F,F,F,F,F]
abbrev spec_l03Message_v0.m44_ : Array Bool := #[T,T,T,T,T,T,T,T,T,T,T,T,T,T,T,T,T,T,T,T,T,T,T,T,T,T,T,T,T,T,T,T,T,T,T,T,T,T,T,T,T,T,F,T,T,F,F,F,F,F,F]
abbrev spec_l03Message_v0.m45_ : Array Bool := #[T,T,T,T,T,T,T,T,T,T,T,T,T,T,T,T,T,T,T,T,T,T,T,T,T,T,T,T,T,T,T,T,T,T,T,T,T,T,T,T,T,T,F,T,T,T,F,F,F,F,F]
abbrev spec_l03Message_v0.m46_ : Array Bool := #[T,T,T,T,T,T,T,T,T,T,T,T,T,T,T,T,T,T,T,T,T,T,T,T,T,T,T,T,T,T,T,T,T,T,T,T,T,T,T,T,T,T,T,T,T,T,F,F,F,F,F]
abbrev spec_l03Message_v0.m47_ : Array Bool := #[T,T,T,T,T,T,T,T,T,T,T,T,T,T,T,T,T,T,T,T,T,T,T,T,T,T,T,T,T,T,T,T,T,T,T,T,T,T,T,T,T,T,T,T,T,T,T,F,F,F,F]
abbrev spec_l03Message_v0.m48_ : Array Bool := #[T,T,T,T,T,T,T,T,T,T,T,T,T,T,T,T,T,T,T,T,T,T,T,T,T,T,T,T,T,T,T,T,T,T,T,T,T,T,T,T,T,T,T,T,T,T,T,T,F,F,F]
abbrev spec_l03Message_v0.m49_ : Array Bool := #[T,T,T,T,T,T,T,T,T,T,T,T,T,T,T,T,T,T,T,T,T,T,T,T,T,T,T,T,T,T,T,T,T,T,T,T,T,T,T,T,T,T,T,T,T,T,T,T,T,F,F]
abbrev spec_l03Message_v0.m50_ : Array Bool := #[T,T,T,T,T,T,T,T,T,T,T,T,T,T,T,T,T,T,T,T,T,T,T,T,T,T,T,T,T,T,T,T,T,T,T,T,T,T,T,T,T,T,T,T,T,T,T,T,T,T,F]
abbrev spec_l03Message_v0.m51_ : Array Bool := #[T,T,T,T,T,T,T,T,T,T,T,T,T,T,T,T,T,T,T,T,T,T,T,T,T,T,T,T,T,T,T,T,T,T,T,T,T,T,T,T,T,T,T,T,T,T,T,T,T,T,T]
abbrev spec_l03Message_v0.m52_ : Array Bool := #[F,F,F,F,F,F,F,F,F,F,F,F,F,F,F,F,F,F,F,F,F,F,F,F,F]
abbrev spec_l03Message_v0.m53_ : Array Bool := #[T,F,F,F,F,F,F,F,F,F,F,F,F,F,F,F,F,F,F,F,F,F,F,F,F]
abbrev spec_l03Message_v0.m54_ : Array Bool := #[T,T,F,F,F,F,F,F,F,F,F,F,F,F,F,F,F,F,F,F,F,F,F,F,F]
abbrev spec_l03Message_v0.m55_ : Array Bool := #[T,T,T,F,F,F,F,F,F,F,F,F,F,F,F,F,F,F,F,F,F,F,F,F,F]
abbrev spec_l03Message_v0.m56_ : Array Bool := #[T,T,T,T,F,F,F,F,F,F,F,F,F,F,F,F,F,F,F,F,F,F,F,F,F]
abbrev spec_l03Message_v0.m57_ : Array Bool := #[T,T,T,T,T,F,F,F,F,F,F,F,F,F,F,F,F,F,F,F,F,F,F,F,F]
abbrev spec_l03Message_v0.m58_ : Array Bool := #[T,T,T,T,T,T,F,F,F,F,F,F,F,F,F,F,F,F,F,F,F,F,F,F,F]
abbrev spec_l03Message_v0.m59_ : Array Bool := #[T,T,T,T,T,T,T,F,F,F,F,F,F,F,F,F,F,F,F,F,F,F,F,F,F]
abbrev spec_l03Message_v0.m60_ : Array Bool := #[T,T,T,T,T,T,T,T,F,F,F,F,F,F,F,F,F,F,F,F,F,F,F,F,F]
abbrev spec_l03Message_v0.m61_ : Array Bool := #[T,T,T,T,T,T,T,T,T,F,F,F,F,F,F,F,F,F,F,F,F,F,F,F,F]
abbrev spec_l03Message_v0.m62_ : Array Bool := #[T,T,T,T,T,T,T,T,T,T,F,F,F,F,F,F,F,F,F,F,F,F,F,F,F]
abbrev spec_l03Message_v0.m63_ : Array Bool := #[T,T,T,T,T,T,T,T,T,T,T,F,F,F,F,F,F,F,F,F,F,F,F,F,F]
abbrev spec_l03Message_v0.m64_ : Array Bool := #[T,T,T,T,T,T,T,T,T,T,T,T,F,F,F,F,F,F,F,F,F,F,F,F,F]
abbrev spec_l03Message_v0.m65_ : Array Bool := #[T,T,T,T,T,T,T,T,T,T,T,T,T,F,F,F,F,F,F,F,F,F,F,F,F]
abbrev spec_l03Message_v0.m66_ : Array Bool := #[T,T,T,T,T,T,T,T,T,T,T,T,T,T,F,F,F,F,F,F,F,F,F,F,F]
abbrev spec_l03Message_v0.m67_ : Array Bool := #[T,T,T,T,T,T,T,T,T,T,T,T,T,T,T,F,F,F,F,F,F,F,F,F,F]
abbrev spec_l03Message_v0.m68_ : Array Bool := #[T,T,T,T,T,T,T,T,T,T,T,T,T,T,T,T,F,F,F,F,F,F,F,F,F]
abbrev spec_l03Message_v0.m69_ : Array Bool := #[T,T,T,T,T,T,T,T,T,T,T,T,T,T,T,T,T,F,F,F,F,F,F,F,F]
abbrev spec_l03Message_v0.m70_ : Array Bool := #[T,T,T,T,T,T,T,T,T,T,T,T,T,T,T,T,T,T,F,F,F,F,F,F,F]
abbrev spec_l03Message_v0.m71_ : Array Bool := #[T,T,T,T,T,T,T,T,T,T,T,T,T,T,T,T,T,T,T,F,F,F,F,F,F]
abbrev spec_l03Message_v0.m72_ : Array Bool := #[T,T,T,T,T,T,T,T,T,T,T,T,T,T,T,T,T,T,T,T,F,F,F,F,F]
abbrev spec_l03Message_v0.m73_ : Array Bool := #[T,T,T,T,T,T,T,T,T,T,T,T,T,T,T,T,T,T,T,T,T,F,F,F,F]
abbrev spec_l03Message_v0.m74_ : Array Bool := #[T,T,T,T,T,T,T,T,T,T,T,T,T,T,T,T,T,T,T,T,T,T,F,F,F]
abbrev spec_l03Message_v0.m75_ : Array Bool := #[T,T,T,T,T,T,T,T,T,T,T,T,T,T,T,T,T,T,T,T,T,T,T,F,F]
abbrev spec_l03Message_v0.m76_ : Array Bool := #[T,T,T,T,T,T,T,T,T,T,T,T,T,T,T,T,T,T,T,T,T,T,T,T,F]
abbrev spec_l03Message_v0.m77_ : Array Bool := #[T,T,T,T,T,T,T,T,T,T,T,T,T,T,T,T,T,T,T,T,T,T,T,T,T]
abbrev spec_l03Message_v0.m78_ : Array Bool := #[T,T,T,T,T,T,T,T,T,T,T,T,T,T,T,T,T,T,F,T,F,F,F,F,F]
abbrev spec_l03Message_v0.m79_ : Array Bool := #[T,T,T,T,T,T,T,T,T,T,T,T,T,T,T,T,T,T,F,T,T,F,F,F,F]
abbrev spec_l03Message_v0.m80_ : Array Bool := #[T,T,T,T,T,T,T,T,T,T,T,T,T,T,T,T,T,T,F,T,T,T,F,F,F]
abbrev spec_l03Message_v0.m81_ : Array Bool := #[T,T,T,T,T,T,T,T,T,T,T,T,T,T,T,T,T,T,T,T,T,T,T,T,T,T,T,T,T,T,T,T,T,T,T,T,T,T,T,T,T,T,T,F,F,F,F,F,F,F,F]
abbrev spec_l03Message_v0.m82_ : Array Bool := #[T,T,T,T,T,T,T,T,T,T,T,T,T,T,T,T,T,T,T,T,T,T,T,T,T,T,T,T,T,T,T,T,T,T,T,T,T,T,T,T,T,T,T,T,F,F,F,F,F,F,F]
abbrev spec_l03Message_v0.m83_ : Array Bool := #[T,T,T,T,T,T,T,T,T,T,T,T,T,T,T,T,T,T,T,T,T,T,T,T,T,T,T,T,T,T,T,T,T,T,T,T,T,T,T,T,T,T,T,T,T,F,F,F,F,F,F]
theorem spec_l03Message_v0.p1_ {P : Prop} (h : P := by simp only [Act.put, List.setIfInBounds_toArray, List.set_cons_zero, List.set_cons_succ, i64_w, i32_w]; rfl) : P := h
theorem spec_l03Message_v0.pu_ {P : Program} {md : Region.Mode} {ops : Array Oper} {Q : Exit → Act → World → Prop} {S : World → Prop} {ds : List Nat} {fuel : Nat} {l : Array Bool} {a : Act} {w : World} {oi : Oper} {a' : Act} {v : Value} (i N : Nat) (l' : Array Bool) (hc : anyB md ops l l' i = true) (h : wpAnyLast P md ops Q S ds fuel l' a' w) (hi : ops[i]? = some oi := by rfl) (hN : oi.dst = some N := by rfl) (hQ : ∀ c a w, Q (.panic c) (a.put oi.dst v) w → Q (.panic c) a w := by exact fun _ _ _ h => h) (hy : Yields P ops oi v a := by exact Or.inl ⟨by rfl, by intro w'; go_simp; with_reducible rfl⟩) (ha : a.put (some N) v = a' := by simp only [Act.put, List.setIfInBounds_toArray, List.set_cons_zero, List.set_cons_succ, i64_w, i32_w]; rfl) : wpAnyLast P md ops Q S ds (fuel + 1) l a w := pure_ l' hi hN hc hQ hy ha h
theorem spec_l03Message_v0.pn_ {P : Program} {md : Region.Mode} {ops : Array Oper} {Q : Exit → Act → World → Prop} {S : World → Prop} {ds : List Nat} {fuel : Nat} {l : Array Bool} {a : Act} {w : World} {oi : Oper} {a' : Act} (i N : Nat) (l' : Array Bool) (hc : anyB md ops l l' i = true) (h : wpAnyLast P md ops Q S ds fuel l' a' w) (hi : ops[i]? = some oi := by rfl) (hN : oi.dst = some N := by rfl) (hQ : ∀ c a w, Q (.panic c) (a.put oi.dst undef) w → Q (.panic c) a w := by exact fun _ _ _ h => h) (hy : Yields P ops oi undef a := by exact Or.inr ⟨by rfl, rfl⟩) (ha : a.put (some N) undef = a' := by simp only [Act.put, List.setIfInBounds_toArray, List.set_cons_zero, List.set_cons_succ, i64_w, i32_w]; rfl) : wpAnyLast P md ops Q S ds (fuel + 1) l a w := pure_ l' hi hN hc hQ hy ha h
def spec_l03Message_v0.f (k : Nat) (l0_0 : List (S81)) (a0_1 : Int) : Option (Bool) := if 0 ≤ a0_1 then (if a0_1 < (l0_0.length : Int) then ((spec_l00In.f ((rd_T81 l0_0 a0_1).f0) 1 1000000000).bind fun t176 => (if t176 = true then ((spec_l01Member.f ((rd_T81 l0_0 a0_1).f1)).bind fun t177 => (if t177 = true then ((spec_l01Tick.f ((rd_T81 l0_0 a0_1).f2)).bind fun t178 => (if t178 = true then ((spec_l01IsText.f k ((rd_T81 l0_0 a0_1).f3)).bind fun t179 => (if t179 = true then ((spec_l00In.f ((rd_T81 l0_0 a0_1).f4) 0 1000000000).bind fun t180 => (if t180 = true then ((spec_l00In.f ((rd_T81 l0_0 a0_1).f6) 0 (wrap64 (((rd_T81 l0_0 a0_1).f0) - 1))).bind fun t181 => (if t181 = true then (if (((rd_T81 l0_0 a0_1).f7).length : Int) > 20 then (some false) else ((spec_l01Members.f k ((rd_T81 l0_0 a0_1).f7)).bind fun t183 => (if t183 = true then ((spec_l00Has.f k ((rd_T81 l0_0 a0_1).f7) ((rd_T81 l0_0 a0_1).f1)).bind fun t184 => (if t184 = true then (some false) else (if ((rd_T81 l0_0 a0_1).f5 = true) then (if ((rd_T81 l0_0 a0_1).f3).toList = ([] : List UInt8) then (some ((((rd_T81 l0_0 a0_1).f7).length : Int) == 0)) else (some false)) else (some true)))) else (some false)))) else (some false))) else (some false))) else (some false))) else (some false))) else (some false))) else (some false))) else (none)) else (none)
theorem spec_l03Message_v0.mono : ∀ a0 a1 k, LeO (spec_l03Message_v0.f k a0 a1) (spec_l03Message_v0.f (k + 1) a0 a1) := by
  intro a0 a1 k
  unfold spec_l03Message_v0.f
  repeat' first
      | (with_reducible exact spec_l00Has.mono _ _ _)
      | (with_reducible exact spec_l01IsText.mono _ _)
      | (with_reducible exact spec_l01Members.mono _ _)
      | (with_reducible exact LeO.refl _)
      | (with_reducible exact LeO.none _)
      | (with_reducible refine LeO.ite ?_ ?_)
      | (with_reducible refine LeO.bind ?_ (fun _ => ?_))
      | exact spec_l00Has.mono _ _ _
      | exact spec_l01IsText.mono _ _
      | exact spec_l01Members.mono _ _
      | exact LeO.none _
      | refine LeO.ite ?_ ?_
      | refine LeO.bind ?_ (fun _ => ?_)
def spec_l03Message_v0.T1 : Bool × List (List Nat × List Nat) := (true, [([], []), ([0], [0]), ([1], [1]), ([2], [2]), ([3], [3]), ([4], [4]), ([5, 4], [5]), ([6], [6]), ([7, 6], [6, 7]), ([8, 6], [6, 8]), ([9, 6], [6, 9]), ([10, 6, 6], [6, 10]), ([11, 6], [6, 11]), ([6, 12], [6, 12]), ([13, 11], [13]), ([14], [14]), ([15, 14], [14, 15]), ([16, 14], [14, 16]), ([17, 14], [14, 17]), ([18, 14, 14], [14, 18]), ([19, 14], [14, 19]), ([14, 20], [14, 20]), ([21, 19], [21]), ([22], [22]), ([23, 22], [22, 23]), ([24, 22], [22, 24]), ([25, 22], [22, 25]), ([26, 22, 22], [22, 26]), ([27, 22], [22, 27]), ([22, 28], [22, 28]), ([29, 27], [29]), ([30], [30]), ([31, 30], [30, 31]), ([32, 30], [30, 32]), ([33, 30], [30, 33]), ([34, 30, 30], [30, 34]), ([35, 30], [30, 35]), ([30, 36], [30, 36]), ([37, 35], [37]), ([38], [38]), ([39, 38], [38, 39]), ([40, 38], [38, 40]), ([41, 38], [38, 41]), ([38], [38]), ([43, 38], [38, 43]), ([44, 38], [38, 44]), ([45, 38], [38, 45]), ([46, 38], [38, 46]), ([42, 47, 38, 38], [38, 42, 47]), ([48, 38], [38, 48]), ([38, 49], [38, 49])])
def spec_l03Message_v0.B1 : List Nat := [0, 1, 3, 7, 15, 31, 63, 127, 255, 511, 1023, 2047, 4095, 8191, 16383, 32767, 65535, 131071, 262143, 524287, 1048575, 2097151, 4194303, 8388607, 16777215, 33554431, 67108863, 134217727, 268435455, 536870911, 1073741823, 2147483647, 4294967295, 8589934591, 17179869183, 34359738367, 68719476735, 137438953471, 274877906943, 549755813887, 1099511627775, 2199023255551, 4398046511103, 549755813887, 9345848836095, 26938034880511, 62122406969343, 132491151147007, 281474976710655, 562949953421311, 1125899906842623]
theorem spec_l03Message_v0.tab1 : rtab .any (opsOf Try.f57 1) = spec_l03Message_v0.T1 := by kernel_rfl
theorem spec_l03Message_v0.bits1 : waitsOk spec_l03Message_v0.T1.2 spec_l03Message_v0.B1 = true := by kernel_rfl
def spec_l03Message_v0.T3 : Bool × List (List Nat × List Nat) := (true, [([], []), ([0], [0]), ([1], [1]), ([2], [2]), ([3], [3]), ([4], [4]), ([5], [5]), ([6], [6]), ([7, 6], [6, 7]), ([8, 6], [6, 8]), ([9, 6], [6, 9]), ([10, 6, 6], [6, 10]), ([11, 6], [6, 11]), ([6, 12], [6, 12]), ([13, 11], [13]), ([14], [14]), ([15, 14], [14, 15]), ([16, 14], [14, 16]), ([17, 14], [14, 17]), ([14], [14]), ([19, 14], [14, 19]), ([20, 14], [14, 20]), ([21, 14], [14, 21]), ([18, 22, 14, 14], [14, 18, 22]), ([14, 23], [14, 23])])
def spec_l03Message_v0.B3 : List Nat := [0, 1, 3, 7, 15, 31, 63, 127, 255, 511, 1023, 2047, 4095, 8191, 16383, 32767, 65535, 131071, 262143, 32767, 557055, 1605631, 3702783, 8388607, 16777215]
theorem spec_l03Message_v0.tab3 : rtab .any (opsOf Try.f57 3) = spec_l03Message_v0.T3 := by kernel_rfl
theorem spec_l03Message_v0.bits3 : waitsOk spec_l03Message_v0.T3.2 spec_l03Message_v0.B3 = true := by kernel_rfl
set_option maxHeartbeats 8000000 in
set_option maxRecDepth 100000 in
theorem spec_l03Message_v0.calls (k : Nat) (adp0_ : Addr) (c0_0 : Nat) (l0_0 : List (S81)) (a0_1 : Int) (r : Bool) (w : World) (hr0_0 : Kd.C k81 w (some adp0_) l0_0.length l0_0) (hc0_0 : l0_0.length ≤ c0_0) (h : spec_l03Message_v0.f k l0_0 a0_1 = some r) :
    Calls Try.prog 57 #[.pointer (some (adp0_.add (a0_1.toNat * 8)))] w fun e w' => e = .returned (.bool r) ∧ Below w.heap.size w w' := by
 have HR0_0 := Aside0.mk hr0_0
 have HC0_0 := Aside0.mk hc0_0
 clear hr0_0 hc0_0
 have HB := Aside0.mk (Below.refl w.heap.size w)
 have H : (if 0 ≤ a0_1 then (if a0_1 < (l0_0.length : Int) then ((spec_l00In.f ((rd_T81 l0_0 a0_1).f0) 1 1000000000).bind fun t176 => (if t176 = true then ((spec_l01Member.f ((rd_T81 l0_0 a0_1).f1)).bind fun t177 => (if t177 = true then ((spec_l01Tick.f ((rd_T81 l0_0 a0_1).f2)).bind fun t178 => (if t178 = true then ((spec_l01IsText.f k ((rd_T81 l0_0 a0_1).f3)).bind fun t179 => (if t179 = true then ((spec_l00In.f ((rd_T81 l0_0 a0_1).f4) 0 1000000000).bind fun t180 => (if t180 = true then ((spec_l00In.f ((rd_T81 l0_0 a0_1).f6) 0 (wrap64 (((rd_T81 l0_0 a0_1).f0) - 1))).bind fun t181 => (if t181 = true then (if (((rd_T81 l0_0 a0_1).f7).length : Int) > 20 then (some false) else ((spec_l01Members.f k ((rd_T81 l0_0 a0_1).f7)).bind fun t183 => (if t183 = true then ((spec_l00Has.f k ((rd_T81 l0_0 a0_1).f7) ((rd_T81 l0_0 a0_1).f1)).bind fun t184 => (if t184 = true then (some false) else (if ((rd_T81 l0_0 a0_1).f5 = true) then (if ((rd_T81 l0_0 a0_1).f3).toList = ([] : List UInt8) then (some ((((rd_T81 l0_0 a0_1).f7).length : Int) == 0)) else (some false)) else (some true)))) else (some false)))) else (some false))) else (some false))) else (some false))) else (some false))) else (some false))) else (some false))) else (none)) else (none)) = some r := h
 clear h
 by_cases c2 : 0 ≤ a0_1
 {
 rw [if_pos c2] at H
 have c2b0 : decide (0 ≤ a0_1) = true := decide_eq_true c2
 clear c2
 by_cases c3 : a0_1 < (l0_0.length : Int)
 {
 rw [if_pos c3] at H
 have c3b0 : decide (a0_1 < (l0_0.length : Int)) = true := decide_eq_true c3
 clear c3
 replace H := Option.bind_eq_some_iff.mp H
 obtain ⟨t176, A40, H⟩ := H
 replace H : (if t176 = true then ((spec_l01Member.f ((rd_T81 l0_0 a0_1).f1)).bind fun t177 => (if t177 = true then ((spec_l01Tick.f ((rd_T81 l0_0 a0_1).f2)).bind fun t178 => (if t178 = true then ((spec_l01IsText.f k ((rd_T81 l0_0 a0_1).f3)).bind fun t179 => (if t179 = true then ((spec_l00In.f ((rd_T81 l0_0 a0_1).f4) 0 1000000000).bind fun t180 => (if t180 = true then ((spec_l00In.f ((rd_T81 l0_0 a0_1).f6) 0 (wrap64 (((rd_T81 l0_0 a0_1).f0) - 1))).bind fun t181 => (if t181 = true then (if (((rd_T81 l0_0 a0_1).f7).length : Int) > 20 then (some false) else ((spec_l01Members.f k ((rd_T81 l0_0 a0_1).f7)).bind fun t183 => (if t183 = true then ((spec_l00Has.f k ((rd_T81 l0_0 a0_1).f7) ((rd_T81 l0_0 a0_1).f1)).bind fun t184 => (if t184 = true then (some false) else (if ((rd_T81 l0_0 a0_1).f5 = true) then (if ((rd_T81 l0_0 a0_1).f3).toList = ([] : List UInt8) then (some ((((rd_T81 l0_0 a0_1).f7).length : Int) == 0)) else (some false)) else (some true)))) else (some false)))) else (some false))) else (some false))) else (some false))) else (some false))) else (some false))) else (some false)) = some r := H
 have A4 := Aside0.mk A40
 clear A40
 by_cases c5 : t176 = true
 {
 subst c5
 have H1 : ((spec_l01Member.f ((rd_T81 l0_0 a0_1).f1)).bind fun t177 => (if t177 = true then ((spec_l01Tick.f ((rd_T81 l0_0 a0_1).f2)).bind fun t178 => (if t178 = true then ((spec_l01IsText.f k ((rd_T81 l0_0 a0_1).f3)).bind fun t179 => (if t179 = true then ((spec_l00In.f ((rd_T81 l0_0 a0_1).f4) 0 1000000000).bind fun t180 => (if t180 = true then ((spec_l00In.f ((rd_T81 l0_0 a0_1).f6) 0 (wrap64 (((rd_T81 l0_0 a0_1).f0) - 1))).bind fun t181 => (if t181 = true then (if (((rd_T81 l0_0 a0_1).f7).length : Int) > 20 then (some false) else ((spec_l01Members.f k ((rd_T81 l0_0 a0_1).f7)).bind fun t183 => (if t183 = true then ((spec_l00Has.f k ((rd_T81 l0_0 a0_1).f7) ((rd_T81 l0_0 a0_1).f1)).bind fun t184 => (if t184 = true then (some false) else (if ((rd_T81 l0_0 a0_1).f5 = true) then (if ((rd_T81 l0_0 a0_1).f3).toList = ([] : List UInt8) then (some ((((rd_T81 l0_0 a0_1).f7).length : Int) == 0)) else (some false)) else (some true)))) else (some false)))) else (some false))) else (some false))) else (some false))) else (some false))) else (some false))) = some r := by rw [if_pos rfl] at H; exact H
 clear H
 have H := H1
 clear H1
 replace H := Option.bind_eq_some_iff.mp H
 obtain ⟨t177, A60, H⟩ := H
 replace H : (if t177 = true then ((spec_l01Tick.f ((rd_T81 l0_0 a0_1).f2)).bind fun t178 => (if t178 = true then ((spec_l01IsText.f k ((rd_T81 l0_0 a0_1).f3)).bind fun t179 => (if t179 = true then ((spec_l00In.f ((rd_T81 l0_0 a0_1).f4) 0 1000000000).bind fun t180 => (if t180 = true then ((spec_l00In.f ((rd_T81 l0_0 a0_1).f6) 0 (wrap64 (((rd_T81 l0_0 a0_1).f0) - 1))).bind fun t181 => (if t181 = true then (if (((rd_T81 l0_0 a0_1).f7).length : Int) > 20 then (some false) else ((spec_l01Members.f k ((rd_T81 l0_0 a0_1).f7)).bind fun t183 => (if t183 = true then ((spec_l00Has.f k ((rd_T81 l0_0 a0_1).f7) ((rd_T81 l0_0 a0_1).f1)).bind fun t184 => (if t184 = true then (some false) else (if ((rd_T81 l0_0 a0_1).f5 = true) then (if ((rd_T81 l0_0 a0_1).f3).toList = ([] : List UInt8) then (some ((((rd_T81 l0_0 a0_1).f7).length : Int) == 0)) else (some false)) else (some true)))) else (some false)))) else (some false))) else (some false))) else (some false))) else (some false))) else (some false)) = some r := H
 have A6 := Aside0.mk A60
 clear A60
 by_cases c7 : t177 = true
 {
 subst c7
 have H1 : ((spec_l01Tick.f ((rd_T81 l0_0 a0_1).f2)).bind fun t178 => (if t178 = true then ((spec_l01IsText.f k ((rd_T81 l0_0 a0_1).f3)).bind fun t179 => (if t179 = true then ((spec_l00In.f ((rd_T81 l0_0 a0_1).f4) 0 1000000000).bind fun t180 => (if t180 = true then ((spec_l00In.f ((rd_T81 l0_0 a0_1).f6) 0 (wrap64 (((rd_T81 l0_0 a0_1).f0) - 1))).bind fun t181 => (if t181 = true then (if (((rd_T81 l0_0 a0_1).f7).length : Int) > 20 then (some false) else ((spec_l01Members.f k ((rd_T81 l0_0 a0_1).f7)).bind fun t183 => (if t183 = true then ((spec_l00Has.f k ((rd_T81 l0_0 a0_1).f7) ((rd_T81 l0_0 a0_1).f1)).bind fun t184 => (if t184 = true then (some false) else (if ((rd_T81 l0_0 a0_1).f5 = true) then (if ((rd_T81 l0_0 a0_1).f3).toList = ([] : List UInt8) then (some ((((rd_T81 l0_0 a0_1).f7).length : Int) == 0)) else (some false)) else (some true)))) else (some false)))) else (some false))) else (some false))) else (some false))) else (some false))) = some r := by rw [if_pos rfl] at H; exact H
 clear H
 have H := H1
 clear H1
 replace H := Option.bind_eq_some_iff.mp H
 obtain ⟨t178, A80, H⟩ := H
 replace H : (if t178 = true then ((spec_l01IsText.f k ((rd_T81 l0_0 a0_1).f3)).bind fun t179 => (if t179 = true then ((spec_l00In.f ((rd_T81 l0_0 a0_1).f4) 0 1000000000).bind fun t180 => (if t180 = true then ((spec_l00In.f ((rd_T81 l0_0 a0_1).f6) 0 (wrap64 (((rd_T81 l0_0 a0_1).f0) - 1))).bind fun t181 => (if t181 = true then (if (((rd_T81 l0_0 a0_1).f7).length : Int) > 20 then (some false) else ((spec_l01Members.f k ((rd_T81 l0_0 a0_1).f7)).bind fun t183 => (if t183 = true then ((spec_l00Has.f k ((rd_T81 l0_0 a0_1).f7) ((rd_T81 l0_0 a0_1).f1)).bind fun t184 => (if t184 = true then (some false) else (if ((rd_T81 l0_0 a0_1).f5 = true) then (if ((rd_T81 l0_0 a0_1).f3).toList = ([] : List UInt8) then (some ((((rd_T81 l0_0 a0_1).f7).length : Int) == 0)) else (some false)) else (some true)))) else (some false)))) else (some false))) else (some false))) else (some false))) else (some false)) = some r := H
 have A8 := Aside0.mk A80
 clear A80
 by_cases c9 : t178 = true
 {
 subst c9
 have H1 : ((spec_l01IsText.f k ((rd_T81 l0_0 a0_1).f3)).bind fun t179 => (if t179 = true then ((spec_l00In.f ((rd_T81 l0_0 a0_1).f4) 0 1000000000).bind fun t180 => (if t180 = true then ((spec_l00In.f ((rd_T81 l0_0 a0_1).f6) 0 (wrap64 (((rd_T81 l0_0 a0_1).f0) - 1))).bind fun t181 => (if t181 = true then (if (((rd_T81 l0_0 a0_1).f7).length : Int) > 20 then (some false) else ((spec_l01Members.f k ((rd_T81 l0_0 a0_1).f7)).bind fun t183 => (if t183 = true then ((spec_l00Has.f k ((rd_T81 l0_0 a0_1).f7) ((rd_T81 l0_0 a0_1).f1)).bind fun t184 => (if t184 = true then (some false) else (if ((rd_T81 l0_0 a0_1).f5 = true) then (if ((rd_T81 l0_0 a0_1).f3).toList = ([] : List UInt8) then (some ((((rd_T81 l0_0 a0_1).f7).length : Int) == 0)) else (some false)) else (some true)))) else (some false)))) else (some false))) else (some false))) else (some false))) = some r := by rw [if_pos rfl] at H; exact H
 clear H
 have H := H1
 clear H1
 replace H := Option.bind_eq_some_iff.mp H
 obtain ⟨t179, A100, H⟩ := H
 replace H : (if t179 = true then ((spec_l00In.f ((rd_T81 l0_0 a0_1).f4) 0 1000000000).bind fun t180 => (if t180 = true then ((spec_l00In.f ((rd_T81 l0_0 a0_1).f6) 0 (wrap64 (((rd_T81 l0_0 a0_1).f0) - 1))).bind fun t181 => (if t181 = true then (if (((rd_T81 l0_0 a0_1).f7).length : Int) > 20 then (some false) else ((spec_l01Members.f k ((rd_T81 l0_0 a0_1).f7)).bind fun t183 => (if t183 = true then ((spec_l00Has.f k ((rd_T81 l0_0 a0_1).f7) ((rd_T81 l0_0 a0_1).f1)).bind fun t184 => (if t184 = true then (some false) else (if ((rd_T81 l0_0 a0_1).f5 = true) then (if ((rd_T81 l0_0 a0_1).f3).toList = ([] : List UInt8) then (some ((((rd_T81 l0_0 a0_1).f7).length : Int) == 0)) else (some false)) else (some true)))) else (some false)))) else (some false))) else (some false))) else (some false)) = some r := H
 have A10 := Aside0.mk A100
 clear A100
 by_cases c11 : t179 = true
 {
 subst c11
 have H1 : ((spec_l00In.f ((rd_T81 l0_0 a0_1).f4) 0 1000000000).bind fun t180 => (if t180 = true then ((spec_l00In.f ((rd_T81 l0_0 a0_1).f6) 0 (wrap64 (((rd_T81 l0_0 a0_1).f0) - 1))).bind fun t181 => (if t181 = true then (if (((rd_T81 l0_0 a0_1).f7).length : Int) > 20 then (some false) else ((spec_l01Members.f k ((rd_T81 l0_0 a0_1).f7)).bind fun t183 => (if t183 = true then ((spec_l00Has.f k ((rd_T81 l0_0 a0_1).f7) ((rd_T81 l0_0 a0_1).f1)).bind fun t184 => (if t184 = true then (some false) else (if ((rd_T81 l0_0 a0_1).f5 = true) then (if ((rd_T81 l0_0 a0_1).f3).toList = ([] : List UInt8) then (some ((((rd_T81 l0_0 a0_1).f7).length : Int) == 0)) else (some false)) else (some true)))) else (some false)))) else (some false))) else (some false))) = some r := by rw [if_pos rfl] at H; exact H
 clear H
 have H := H1
 clear H1
 replace H := Option.bind_eq_some_iff.mp H
 obtain ⟨t180, A120, H⟩ := H
 replace H : (if t180 = true then ((spec_l00In.f ((rd_T81 l0_0 a0_1).f6) 0 (wrap64 (((rd_T81 l0_0 a0_1).f0) - 1))).bind fun t181 => (if t181 = true then (if (((rd_T81 l0_0 a0_1).f7).length : Int) > 20 then (some false) else ((spec_l01Members.f k ((rd_T81 l0_0 a0_1).f7)).bind fun t183 => (if t183 = true then ((spec_l00Has.f k ((rd_T81 l0_0 a0_1).f7) ((rd_T81 l0_0 a0_1).f1)).bind fun t184 => (if t184 = true then (some false) else (if ((rd_T81 l0_0 a0_1).f5 = true) then (if ((rd_T81 l0_0 a0_1).f3).toList = ([] : List UInt8) then (some ((((rd_T81 l0_0 a0_1).f7).length : Int) == 0)) else (some false)) else (some true)))) else (some false)))) else (some false))) else (some false)) = some r := H
 have A12 := Aside0.mk A120
 clear A120
 by_cases c13 : t180 = true
 {
 subst c13
 have H1 : ((spec_l00In.f ((rd_T81 l0_0 a0_1).f6) 0 (wrap64 (((rd_T81 l0_0 a0_1).f0) - 1))).bind fun t181 => (if t181 = true then (if (((rd_T81 l0_0 a0_1).f7).length : Int) > 20 then (some false) else ((spec_l01Members.f k ((rd_T81 l0_0 a0_1).f7)).bind fun t183 => (if t183 = true then ((spec_l00Has.f k ((rd_T81 l0_0 a0_1).f7) ((rd_T81 l0_0 a0_1).f1)).bind fun t184 => (if t184 = true then (some false) else (if ((rd_T81 l0_0 a0_1).f5 = true) then (if ((rd_T81 l0_0 a0_1).f3).toList = ([] : List UInt8) then (some ((((rd_T81 l0_0 a0_1).f7).length : Int) == 0)) else (some false)) else (some true)))) else (some false)))) else (some false))) = some r := by rw [if_pos rfl] at H; exact H
 clear H
 have H := H1
 clear H1
 replace H := Option.bind_eq_some_iff.mp H
 obtain ⟨t181, A140, H⟩ := H
 replace H : (if t181 = true then (if (((rd_T81 l0_0 a0_1).f7).length : Int) > 20 then (some false) else ((spec_l01Members.f k ((rd_T81 l0_0 a0_1).f7)).bind fun t183 => (if t183 = true then ((spec_l00Has.f k ((rd_T81 l0_0 a0_1).f7) ((rd_T81 l0_0 a0_1).f1)).bind fun t184 => (if t184 = true then (some false) else (if ((rd_T81 l0_0 a0_1).f5 = true) then (if ((rd_T81 l0_0 a0_1).f3).toList = ([] : List UInt8) then (some ((((rd_T81 l0_0 a0_1).f7).length : Int) == 0)) else (some false)) else (some true)))) else (some false)))) else (some false)) = some r := H
 have A14 := Aside0.mk A140
 clear A140
 by_cases c15 : t181 = true
 {
 subst c15
 have H1 : (if (((rd_T81 l0_0 a0_1).f7).length : Int) > 20 then (some false) else ((spec_l01Members.f k ((rd_T81 l0_0 a0_1).f7)).bind fun t183 => (if t183 = true then ((spec_l00Has.f k ((rd_T81 l0_0 a0_1).f7) ((rd_T81 l0_0 a0_1).f1)).bind fun t184 => (if t184 = true then (some false) else (if ((rd_T81 l0_0 a0_1).f5 = true) then (if ((rd_T81 l0_0 a0_1).f3).toList = ([] : List UInt8) then (some ((((rd_T81 l0_0 a0_1).f7).length : Int) == 0)) else (some false)) else (some true)))) else (some false)))) = some r := by rw [if_pos rfl] at H; exact H
 clear H
 have H := H1
 clear H1
 by_cases c16 : (((rd_T81 l0_0 a0_1).f7).length : Int) > 20
 {
 rw [if_pos c16] at H
 have c16b0 : decide (20 < (((rd_T81 l0_0 a0_1).f7).length : Int)) = true := decide_eq_true c16
 have c16b1 : decide (20 < ((rd_T81 l0_0 a0_1).f7).length) = true := decide_eq_true (by omega)
 clear c16
 obtain rfl := Option.some.inj H
 have p174 : 0 ≤ (a0_1 : Int) := of_decide_eq_true (by first | (with_reducible assumption) | assumption)
 have q174 : a0_1 < (l0_0.length : Int) := of_decide_eq_true (by first | (with_reducible assumption) | assumption)
 obtain ⟨ad174, A174_7, c174_7, e174, hx174_0, hx174_1, hx174_2, hx174_3, hx174_4, hx174_5, hx174_6, hx174_7, hl174_7, hi174_7⟩ := at_T81 HR0_0.out a0_1 p174 q174
 obtain rfl : adp0_ = ad174 := (by injection e174)
 have HR174_7 := Aside0.mk hi174_7
 have HC174_7 := Aside0.mk hl174_7
 clear hi174_7 hl174_7
 replace p174 := eq_true p174
 replace q174 := eq_true q174
 go_enter Try.func57, Try.ntmps57
 try go_wp2
 have n0_ := Aside0.mk (below_drew1 HB.out)
 clear HB
 have HB := n0_
 clear n0_
 have p175 : 0 ≤ (a0_1 : Int) := of_decide_eq_true (by first | (with_reducible assumption) | assumption)
 have q175 : a0_1 < (l0_0.length : Int) := of_decide_eq_true (by first | (with_reducible assumption) | assumption)
 obtain ⟨ad175, A175_7, c175_7, e175, hx175_0, hx175_1, hx175_2, hx175_3, hx175_4, hx175_5, hx175_6, hx175_7, hl175_7, hi175_7⟩ := at_T81 HR0_0.out a0_1 p175 q175
 have hw175_7 := hx175_7
 have hw175_6 := hx175_6
 have hw175_5 := hx175_5
 have hw175_4 := hx175_4
 have hw175_3 := hx175_3
 have hw175_2 := hx175_2
 have hw175_1 := hx175_1
 have hw175_0 := hx175_0
 obtain rfl : adp0_ = ad175 := (by injection e175)
 replace hx175_0 := (HB.out.cell (World.block_lt_of_cell? w _ hx175_0)).trans hx175_0
 replace hx175_1 := (HB.out.cell (World.block_lt_of_cell? w _ hx175_1)).trans hx175_1
 replace hx175_2 := (HB.out.cell (World.block_lt_of_cell? w _ hx175_2)).trans hx175_2
 replace hx175_3 := (HB.out.cell (World.block_lt_of_cell? w _ hx175_3)).trans hx175_3
 replace hx175_4 := (HB.out.cell (World.block_lt_of_cell? w _ hx175_4)).trans hx175_4
 replace hx175_5 := (HB.out.cell (World.block_lt_of_cell? w _ hx175_5)).trans hx175_5
 replace hx175_6 := (HB.out.cell (World.block_lt_of_cell? w _ hx175_6)).trans hx175_6
 replace hx175_7 := (HB.out.cell (World.block_lt_of_cell? w _ hx175_7)).trans hx175_7
 have HR175_7 := Aside0.mk hi175_7
 have HC175_7 := Aside0.mk hl175_7
 clear hi175_7 hl175_7
 replace p175 := eq_true p175
 replace q175 := eq_true q175
 refine start_ (n := 51) (S := fun w' => w'.cell? (adp0_.add ((a0_1).toNat * 8)) = some (.int .i64 ((rd_T81 l0_0 a0_1).f0)) ∧ w'.cell? ⟨(adp0_.add ((a0_1).toNat * 8)).block, (adp0_.add ((a0_1).toNat * 8)).off + 1, none⟩ = some (.int .i64 ((rd_T81 l0_0 a0_1).f1)) ∧ w'.cell? ⟨(adp0_.add ((a0_1).toNat * 8)).block, (adp0_.add ((a0_1).toNat * 8)).off + 2, none⟩ = some (.int .i64 ((rd_T81 l0_0 a0_1).f2)) ∧ w'.cell? ⟨(adp0_.add ((a0_1).toNat * 8)).block, (adp0_.add ((a0_1).toNat * 8)).off + 3, none⟩ = some (.string ((rd_T81 l0_0 a0_1).f3)) ∧ w'.cell? ⟨(adp0_.add ((a0_1).toNat * 8)).block, (adp0_.add ((a0_1).toNat * 8)).off + 4, none⟩ = some (.int .i64 ((rd_T81 l0_0 a0_1).f4)) ∧ w'.cell? ⟨(adp0_.add ((a0_1).toNat * 8)).block, (adp0_.add ((a0_1).toNat * 8)).off + 5, none⟩ = some (.bool ((rd_T81 l0_0 a0_1).f5)) ∧ w'.cell? ⟨(adp0_.add ((a0_1).toNat * 8)).block, (adp0_.add ((a0_1).toNat * 8)).off + 6, none⟩ = some (.int .i64 ((rd_T81 l0_0 a0_1).f6)) ∧ w'.cell? ⟨(adp0_.add ((a0_1).toNat * 8)).block, (adp0_.add ((a0_1).toNat * 8)).off + 7, none⟩ = some (.slice A175_7 ((rd_T81 l0_0 a0_1).f7).length c175_7)) (ds := []) m0_ s2_ rfl rfl ⟨((HB.out.cell (World.block_lt_of_cell? w _ hw175_0)).trans hw175_0), ((HB.out.cell (World.block_lt_of_cell? w _ hw175_1)).trans hw175_1), ((HB.out.cell (World.block_lt_of_cell? w _ hw175_2)).trans hw175_2), ((HB.out.cell (World.block_lt_of_cell? w _ hw175_3)).trans hw175_3), ((HB.out.cell (World.block_lt_of_cell? w _ hw175_4)).trans hw175_4), ((HB.out.cell (World.block_lt_of_cell? w _ hw175_5)).trans hw175_5), ((HB.out.cell (World.block_lt_of_cell? w _ hw175_6)).trans hw175_6), ((HB.out.cell (World.block_lt_of_cell? w _ hw175_7)).trans hw175_7)⟩ (fun hHeld => ?_); refine with_tabW spec_l03Message_v0.tab1 spec_l03Message_v0.bits1 (fun HT_ HW_ => ?_)
 generalize w.drew = w17 at HB HR175_7 hx175_0 hx175_1 hx175_2 hx175_3 hx175_4 hx175_5 hx175_6 hx175_7 hHeld ⊢
 refine pu_ 0 3 m1_ (any_of HT_.out s2_) ?_
 refine pu_ 1 4 m2_ (any_of HT_.out s2_) ?_
 refine pu_ 2 5 m3_ (any_of HT_.out s2_) ?_
 refine take_ (i := 3) (N := some 6) (v := ?_) (a' := ?_) m4_ rfl rfl (take_ofW HT_.out HW_.out s2_) (fun _ _ _ h => h) (Or.inl ⟨by rfl, ?_⟩) hHeld ?_ ?_
 rotate_left
 {
 rintro w' ⟨s0, s1, s2, s3, s4, s5, s6, s7⟩
 go_simp
 with_reducible rfl}
 rotate_left
 · exact p1_
 refine one_ (i := 4) (N := some 7) m5_ rfl rfl (one_of HT_.out s2_) (by decide) (fun K hK => ?_)
 refine goes_ Try.func52 s2_ rfl #[.int .i64 ((rd_T81 l0_0 a0_1).f0), .int .i64 1, .int .i64 1000000000] (by rfl) rfl rfl s3_ ?_
 with_reducible refine (spec_l00In.calls ((rd_T81 l0_0 a0_1).f0) 1 1000000000 true _ A4.out).mono ?_
 rintro e w' ⟨rfl, ⟨nd, rfl⟩⟩
 refine ⟨_, rfl, ?_⟩
 refine hK.out _ _ ⟨((HB.out.cell (World.block_lt_of_cell? w _ hw175_0)).trans hw175_0), ((HB.out.cell (World.block_lt_of_cell? w _ hw175_1)).trans hw175_1), ((HB.out.cell (World.block_lt_of_cell? w _ hw175_2)).trans hw175_2), ((HB.out.cell (World.block_lt_of_cell? w _ hw175_3)).trans hw175_3), ((HB.out.cell (World.block_lt_of_cell? w _ hw175_4)).trans hw175_4), ((HB.out.cell (World.block_lt_of_cell? w _ hw175_5)).trans hw175_5), ((HB.out.cell (World.block_lt_of_cell? w _ hw175_6)).trans hw175_6), ((HB.out.cell (World.block_lt_of_cell? w _ hw175_7)).trans hw175_7)⟩ (fun hHeld => ?_)
 clear hK K
 refine norm_ (a' := ?_) ?_ ?_
 rotate_left
 {
 show Act.put _ (some 7) _ = _
 simp only [Act.put, List.setIfInBounds_toArray, List.set_cons_zero, List.set_cons_succ, i64_w, i32_w]
 rfl}
 refine pu_ 5 8 m6_ (any_of HT_.out s2_) ?_
 refine pu_ 6 9 m7_ (any_of HT_.out s2_) ?_
 refine pu_ 7 10 m8_ (any_of HT_.out s2_) ?_
 refine pu_ 8 11 m9_ (any_of HT_.out s2_) ?_
 refine pu_ 9 12 m10_ (any_of HT_.out s2_) ?_
 refine take_ (i := 10) (N := some 13) (v := ?_) (a' := ?_) m11_ rfl rfl (take_ofW HT_.out HW_.out s2_) (fun _ _ _ h => h) (Or.inl ⟨by rfl, ?_⟩) hHeld ?_ ?_
 rotate_left
 {
 rintro w' ⟨s0, s1, s2, s3, s4, s5, s6, s7⟩
 go_simp
 with_reducible rfl}
 rotate_left
 · exact p1_
 refine one_ (i := 11) (N := some 14) m12_ rfl rfl (one_of HT_.out s2_) (by decide) (fun K hK => ?_)
 refine goes_ Try.func53 s2_ rfl #[.int .i64 ((rd_T81 l0_0 a0_1).f1)] (by rfl) rfl rfl s3_ ?_
 with_reducible refine (spec_l01Member.calls ((rd_T81 l0_0 a0_1).f1) true _ A6.out).mono ?_
 rintro e w' ⟨rfl, ⟨nd, rfl⟩⟩
 refine ⟨_, rfl, ?_⟩
 refine hK.out _ _ ⟨((HB.out.cell (World.block_lt_of_cell? w _ hw175_0)).trans hw175_0), ((HB.out.cell (World.block_lt_of_cell? w _ hw175_1)).trans hw175_1), ((HB.out.cell (World.block_lt_of_cell? w _ hw175_2)).trans hw175_2), ((HB.out.cell (World.block_lt_of_cell? w _ hw175_3)).trans hw175_3), ((HB.out.cell (World.block_lt_of_cell? w _ hw175_4)).trans hw175_4), ((HB.out.cell (World.block_lt_of_cell? w _ hw175_5)).trans hw175_5), ((HB.out.cell (World.block_lt_of_cell? w _ hw175_6)).trans hw175_6), ((HB.out.cell (World.block_lt_of_cell? w _ hw175_7)).trans hw175_7)⟩ (fun hHeld => ?_)
 clear hK K
 refine norm_ (a' := ?_) ?_ ?_
 rotate_left
 {
 show Act.put _ (some 14) _ = _
 simp only [Act.put, List.setIfInBounds_toArray, List.set_cons_zero, List.set_cons_succ, i64_w, i32_w]
 rfl}
 refine pu_ 12 15 m13_ (any_of HT_.out s2_) ?_
 refine pu_ 13 16 m14_ (any_of HT_.out s2_) ?_
 refine pu_ 14 17 m15_ (any_of HT_.out s2_) ?_
 refine pu_ 15 18 m16_ (any_of HT_.out s2_) ?_
 refine pu_ 16 19 m17_ (any_of HT_.out s2_) ?_
 refine pu_ 17 20 m18_ (any_of HT_.out s2_) ?_
 refine take_ (i := 18) (N := some 21) (v := ?_) (a' := ?_) m19_ rfl rfl (take_ofW HT_.out HW_.out s2_) (fun _ _ _ h => h) (Or.inl ⟨by rfl, ?_⟩) hHeld ?_ ?_
 rotate_left
 {
 rintro w' ⟨s0, s1, s2, s3, s4, s5, s6, s7⟩
 go_simp
 with_reducible rfl}
 rotate_left
 · exact p1_
 refine one_ (i := 19) (N := some 22) m20_ rfl rfl (one_of HT_.out s2_) (by decide) (fun K hK => ?_)
 refine goes_ Try.func54 s2_ rfl #[.int .i64 ((rd_T81 l0_0 a0_1).f2)] (by rfl) rfl rfl s3_ ?_
 with_reducible refine (spec_l01Tick.calls ((rd_T81 l0_0 a0_1).f2) true _ A8.out).mono ?_
 rintro e w' ⟨rfl, ⟨nd, rfl⟩⟩
 refine ⟨_, rfl, ?_⟩
 refine hK.out _ _ ⟨((HB.out.cell (World.block_lt_of_cell? w _ hw175_0)).trans hw175_0), ((HB.out.cell (World.block_lt_of_cell? w _ hw175_1)).trans hw175_1), ((HB.out.cell (World.block_lt_of_cell? w _ hw175_2)).trans hw175_2), ((HB.out.cell (World.block_lt_of_cell? w _ hw175_3)).trans hw175_3), ((HB.out.cell (World.block_lt_of_cell? w _ hw175_4)).trans hw175_4), ((HB.out.cell (World.block_lt_of_cell? w _ hw175_5)).trans hw175_5), ((HB.out.cell (World.block_lt_of_cell? w _ hw175_6)).trans hw175_6), ((HB.out.cell (World.block_lt_of_cell? w _ hw175_7)).trans hw175_7)⟩ (fun hHeld => ?_)
 clear hK K
 refine norm_ (a' := ?_) ?_ ?_
 rotate_left
 {
 show Act.put _ (some 22) _ = _
 simp only [Act.put, List.setIfInBounds_toArray, List.set_cons_zero, List.set_cons_succ, i64_w, i32_w]
 rfl}
 refine pu_ 20 23 m21_ (any_of HT_.out s2_) ?_
 refine pu_ 21 24 m22_ (any_of HT_.out s2_) ?_
 refine pu_ 22 25 m23_ (any_of HT_.out s2_) ?_
 refine pu_ 23 26 m24_ (any_of HT_.out s2_) ?_
 refine pu_ 24 27 m25_ (any_of HT_.out s2_) ?_
 refine pu_ 25 28 m26_ (any_of HT_.out s2_) ?_
 refine take_ (i := 26) (N := some 29) (v := ?_) (a' := ?_) m27_ rfl rfl (take_ofW HT_.out HW_.out s2_) (fun _ _ _ h => h) (Or.inl ⟨by rfl, ?_⟩) hHeld ?_ ?_
 rotate_left
 {
 rintro w' ⟨s0, s1, s2, s3, s4, s5, s6, s7⟩
 go_simp
 with_reducible rfl}
 rotate_left
 · exact p1_
 refine one_ (i := 27) (N := some 30) m28_ rfl rfl (one_of HT_.out s2_) (by decide) (fun K hK => ?_)
 refine goes_ Try.func55 s2_ rfl #[.string ((rd_T81 l0_0 a0_1).f3)] (by rfl) rfl rfl s3_ ?_
 with_reducible refine (spec_l01IsText.calls k ((rd_T81 l0_0 a0_1).f3) true _ A10.out).mono ?_
 rintro e w' ⟨rfl, ⟨nd, rfl⟩⟩
 refine ⟨_, rfl, ?_⟩
 refine hK.out _ _ ⟨((HB.out.cell (World.block_lt_of_cell? w _ hw175_0)).trans hw175_0), ((HB.out.cell (World.block_lt_of_cell? w _ hw175_1)).trans hw175_1), ((HB.out.cell (World.block_lt_of_cell? w _ hw175_2)).trans hw175_2), ((HB.out.cell (World.block_lt_of_cell? w _ hw175_3)).trans hw175_3), ((HB.out.cell (World.block_lt_of_cell? w _ hw175_4)).trans hw175_4), ((HB.out.cell (World.block_lt_of_cell? w _ hw175_5)).trans hw175_5), ((HB.out.cell (World.block_lt_of_cell? w _ hw175_6)).trans hw175_6), ((HB.out.cell (World.block_lt_of_cell? w _ hw175_7)).trans hw175_7)⟩ (fun hHeld => ?_)
 clear hK K
 refine norm_ (a' := ?_) ?_ ?_
 rotate_left
 {
 show Act.put _ (some 30) _ = _
 simp only [Act.put, List.setIfInBounds_toArray, List.set_cons_zero, List.set_cons_succ, i64_w, i32_w]
 rfl}
 refine pu_ 28 31 m29_ (any_of HT_.out s2_) ?_
 refine pu_ 29 32 m30_ (any_of HT_.out s2_) ?_
 refine pu_ 30 33 m31_ (any_of HT_.out s2_) ?_
 refine pu_ 31 34 m32_ (any_of HT_.out s2_) ?_
 refine pu_ 32 35 m33_ (any_of HT_.out s2_) ?_
 refine pu_ 33 36 m34_ (any_of HT_.out s2_) ?_
 refine take_ (i := 34) (N := some 37) (v := ?_) (a' := ?_) m35_ rfl rfl (take_ofW HT_.out HW_.out s2_) (fun _ _ _ h => h) (Or.inl ⟨by rfl, ?_⟩) hHeld ?_ ?_
 rotate_left
 {
 rintro w' ⟨s0, s1, s2, s3, s4, s5, s6, s7⟩
 go_simp
 with_reducible rfl}
 rotate_left
 · exact p1_
 refine one_ (i := 35) (N := some 38) m36_ rfl rfl (one_of HT_.out s2_) (by decide) (fun K hK => ?_)
 refine goes_ Try.func52 s2_ rfl #[.int .i64 ((rd_T81 l0_0 a0_1).f4), .int .i64 0, .int .i64 1000000000] (by rfl) rfl rfl s3_ ?_
 with_reducible refine (spec_l00In.calls ((rd_T81 l0_0 a0_1).f4) 0 1000000000 true _ A12.out).mono ?_
 rintro e w' ⟨rfl, ⟨nd, rfl⟩⟩
 refine ⟨_, rfl, ?_⟩
 refine hK.out _ _ ⟨((HB.out.cell (World.block_lt_of_cell? w _ hw175_0)).trans hw175_0), ((HB.out.cell (World.block_lt_of_cell? w _ hw175_1)).trans hw175_1), ((HB.out.cell (World.block_lt_of_cell? w _ hw175_2)).trans hw175_2), ((HB.out.cell (World.block_lt_of_cell? w _ hw175_3)).trans hw175_3), ((HB.out.cell (World.block_lt_of_cell? w _ hw175_4)).trans hw175_4), ((HB.out.cell (World.block_lt_of_cell? w _ hw175_5)).trans hw175_5), ((HB.out.cell (World.block_lt_of_cell? w _ hw175_6)).trans hw175_6), ((HB.out.cell (World.block_lt_of_cell? w _ hw175_7)).trans hw175_7)⟩ (fun hHeld => ?_)
 clear hK K
 refine norm_ (a' := ?_) ?_ ?_
 rotate_left
 {
 show Act.put _ (some 38) _ = _
 simp only [Act.put, List.setIfInBounds_toArray, List.set_cons_zero, List.set_cons_succ, i64_w, i32_w]
 rfl}
 refine pu_ 36 39 m37_ (any_of HT_.out s2_) ?_
 refine pu_ 37 40 m38_ (any_of HT_.out s2_) ?_
 refine pu_ 38 41 m39_ (any_of HT_.out s2_) ?_
 refine pu_ 39 42 m40_ (any_of HT_.out s2_) ?_
 refine pu_ 40 43 m41_ (any_of HT_.out s2_) ?_
 refine pu_ 41 44 m42_ (any_of HT_.out s2_) ?_
 refine pu_ 43 46 m43_ (any_of HT_.out s2_) ?_
 refine pu_ 44 47 m44_ (any_of HT_.out s2_) ?_
 refine pu_ 45 48 m45_ (any_of HT_.out s2_) ?_
 refine take_ (i := 42) (N := some 45) (v := ?_) (a' := ?_) m46_ rfl rfl (take_ofW HT_.out HW_.out s2_) (fun _ _ _ h => h) (Or.inl ⟨by rfl, ?_⟩) hHeld ?_ ?_
 rotate_left
 {
 rintro w' ⟨s0, s1, s2, s3, s4, s5, s6, s7⟩
 go_simp
 with_reducible rfl}
 rotate_left
 · exact p1_
 refine take_ (i := 46) (N := some 49) (v := ?_) (a' := ?_) m47_ rfl rfl (take_ofW HT_.out HW_.out s2_) (fun _ _ _ h => h) (Or.inl ⟨by rfl, ?_⟩) hHeld ?_ ?_
 rotate_left
 {
 rintro w' ⟨s0, s1, s2, s3, s4, s5, s6, s7⟩
 go_simp
 with_reducible rfl}
 rotate_left
 · exact p1_
 refine pu_ 47 50 m48_ (any_of HT_.out s2_) ?_
 refine one_ (i := 48) (N := some 51) m49_ rfl rfl (one_of HT_.out s2_) (by decide) (fun K hK => ?_)
 refine goes_ Try.func52 s2_ rfl #[.int .i64 ((rd_T81 l0_0 a0_1).f6), .int .i64 0, .int .i64 (wrap64 (((rd_T81 l0_0 a0_1).f0) - 1))] (by rfl) rfl rfl s3_ ?_
 with_reducible refine (spec_l00In.calls ((rd_T81 l0_0 a0_1).f6) 0 (wrap64 (((rd_T81 l0_0 a0_1).f0) - 1)) true _ A14.out).mono ?_
 rintro e w' ⟨rfl, ⟨nd, rfl⟩⟩
 refine ⟨_, rfl, ?_⟩
 refine hK.out _ _ ⟨((HB.out.cell (World.block_lt_of_cell? w _ hw175_0)).trans hw175_0), ((HB.out.cell (World.block_lt_of_cell? w _ hw175_1)).trans hw175_1), ((HB.out.cell (World.block_lt_of_cell? w _ hw175_2)).trans hw175_2), ((HB.out.cell (World.block_lt_of_cell? w _ hw175_3)).trans hw175_3), ((HB.out.cell (World.block_lt_of_cell? w _ hw175_4)).trans hw175_4), ((HB.out.cell (World.block_lt_of_cell? w _ hw175_5)).trans hw175_5), ((HB.out.cell (World.block_lt_of_cell? w _ hw175_6)).trans hw175_6), ((HB.out.cell (World.block_lt_of_cell? w _ hw175_7)).trans hw175_7)⟩ (fun hHeld => ?_)
 clear hK K
 refine norm_ (a' := ?_) ?_ ?_
 rotate_left
 {
 show Act.put _ (some 51) _ = _
 simp only [Act.put, List.setIfInBounds_toArray, List.set_cons_zero, List.set_cons_succ, i64_w, i32_w]
 rfl}
 refine pu_ 49 52 m50_ (any_of HT_.out s2_) ?_
 refine pu_ 50 53 m51_ (any_of HT_.out s2_) ?_
 refine done_ (done_of HT_.out s2_) ?_
 try go_wp2
 (try (rw [drewN_self w17]; generalize hq_ : World.drewN w17 _ = w17; have n0_ : Aside0 (Below w.heap.size w w17) := ⟨by rw [← hq_]; exact (by repeat (first | (with_reducible first | exact HB.out | apply below_alloc | apply pw_below_drewN | apply below_drew1) | exact HB.out))⟩; clear HB hq_; have HB := n0_; clear n0_))
 have n0_ := Aside0.mk (below_drew1 HB.out)
 clear HB
 have HB := n0_
 clear n0_
 have p182 : 0 ≤ (a0_1 : Int) := of_decide_eq_true (by first | (with_reducible assumption) | assumption)
 have q182 : a0_1 < (l0_0.length : Int) := of_decide_eq_true (by first | (with_reducible assumption) | assumption)
 obtain ⟨ad182, A182_7, c182_7, e182, hx182_0, hx182_1, hx182_2, hx182_3, hx182_4, hx182_5, hx182_6, hx182_7, hl182_7, hi182_7⟩ := at_T81 HR0_0.out a0_1 p182 q182
 have hw182_7 := hx182_7
 have hw182_6 := hx182_6
 have hw182_5 := hx182_5
 have hw182_4 := hx182_4
 have hw182_3 := hx182_3
 have hw182_2 := hx182_2
 have hw182_1 := hx182_1
 have hw182_0 := hx182_0
 obtain rfl : adp0_ = ad182 := (by injection e182)
 replace hx182_0 := (HB.out.cell (World.block_lt_of_cell? w _ hx182_0)).trans hx182_0
 replace hx182_1 := (HB.out.cell (World.block_lt_of_cell? w _ hx182_1)).trans hx182_1
 replace hx182_2 := (HB.out.cell (World.block_lt_of_cell? w _ hx182_2)).trans hx182_2
 replace hx182_3 := (HB.out.cell (World.block_lt_of_cell? w _ hx182_3)).trans hx182_3
 replace hx182_4 := (HB.out.cell (World.block_lt_of_cell? w _ hx182_4)).trans hx182_4
 replace hx182_5 := (HB.out.cell (World.block_lt_of_cell? w _ hx182_5)).trans hx182_5
 replace hx182_6 := (HB.out.cell (World.block_lt_of_cell? w _ hx182_6)).trans hx182_6
 replace hx182_7 := (HB.out.cell (World.block_lt_of_cell? w _ hx182_7)).trans hx182_7
 have HR182_7 := Aside0.mk hi182_7
 have HC182_7 := Aside0.mk hl182_7
 clear hi182_7 hl182_7
 replace p182 := eq_true p182
 replace q182 := eq_true q182
 refine start_ (n := 25) (S := fun w' => w'.cell? (adp0_.add ((a0_1).toNat * 8)) = some (.int .i64 ((rd_T81 l0_0 a0_1).f0)) ∧ w'.cell? ⟨(adp0_.add ((a0_1).toNat * 8)).block, (adp0_.add ((a0_1).toNat * 8)).off + 1, none⟩ = some (.int .i64 ((rd_T81 l0_0 a0_1).f1)) ∧ w'.cell? ⟨(adp0_.add ((a0_1).toNat * 8)).block, (adp0_.add ((a0_1).toNat * 8)).off + 2, none⟩ = some (.int .i64 ((rd_T81 l0_0 a0_1).f2)) ∧ w'.cell? ⟨(adp0_.add ((a0_1).toNat * 8)).block, (adp0_.add ((a0_1).toNat * 8)).off + 3, none⟩ = some (.string ((rd_T81 l0_0 a0_1).f3)) ∧ w'.cell? ⟨(adp0_.add ((a0_1).toNat * 8)).block, (adp0_.add ((a0_1).toNat * 8)).off + 4, none⟩ = some (.int .i64 ((rd_T81 l0_0 a0_1).f4)) ∧ w'.cell? ⟨(adp0_.add ((a0_1).toNat * 8)).block, (adp0_.add ((a0_1).toNat * 8)).off + 5, none⟩ = some (.bool ((rd_T81 l0_0 a0_1).f5)) ∧ w'.cell? ⟨(adp0_.add ((a0_1).toNat * 8)).block, (adp0_.add ((a0_1).toNat * 8)).off + 6, none⟩ = some (.int .i64 ((rd_T81 l0_0 a0_1).f6)) ∧ w'.cell? ⟨(adp0_.add ((a0_1).toNat * 8)).block, (adp0_.add ((a0_1).toNat * 8)).off + 7, none⟩ = some (.slice A182_7 ((rd_T81 l0_0 a0_1).f7).length c182_7)) (ds := []) m52_ s2_ rfl rfl ⟨((HB.out.cell (World.block_lt_of_cell? w _ hw182_0)).trans hw182_0), ((HB.out.cell (World.block_lt_of_cell? w _ hw182_1)).trans hw182_1), ((HB.out.cell (World.block_lt_of_cell? w _ hw182_2)).trans hw182_2), ((HB.out.cell (World.block_lt_of_cell? w _ hw182_3)).trans hw182_3), ((HB.out.cell (World.block_lt_of_cell? w _ hw182_4)).trans hw182_4), ((HB.out.cell (World.block_lt_of_cell? w _ hw182_5)).trans hw182_5), ((HB.out.cell (World.block_lt_of_cell? w _ hw182_6)).trans hw182_6), ((HB.out.cell (World.block_lt_of_cell? w _ hw182_7)).trans hw182_7)⟩ (fun hHeld => ?_); refine with_tabW spec_l03Message_v0.tab3 spec_l03Message_v0.bits3 (fun HT_ HW_ => ?_)
 generalize w17.drew = w18 at HB HR182_7 hx182_0 hx182_1 hx182_2 hx182_3 hx182_4 hx182_5 hx182_6 hx182_7 hHeld ⊢
 refine pu_ 0 54 m53_ (any_of HT_.out s2_) ?_
 refine pu_ 1 55 m54_ (any_of HT_.out s2_) ?_
 refine pu_ 2 56 m55_ (any_of HT_.out s2_) ?_
 refine take_ (i := 3) (N := some 57) (v := ?_) (a' := ?_) m56_ rfl rfl (take_ofW HT_.out HW_.out s2_) (fun _ _ _ h => h) (Or.inl ⟨by rfl, ?_⟩) hHeld ?_ ?_
 rotate_left
 {
 rintro w' ⟨s0, s1, s2, s3, s4, s5, s6, s7⟩
 go_simp
 with_reducible rfl}
 rotate_left
 · exact p1_
 refine pu_ 4 58 m57_ (any_of HT_.out s2_) ?_
 refine pu_ 5 59 m58_ (any_of HT_.out s2_) ?_
 refine pu_ 6 60 m59_ (any_of HT_.out s2_) ?_
 refine pn_ 7 61 m60_ (any_of HT_.out s2_) ?_
 refine pn_ 8 62 m61_ (any_of HT_.out s2_) ?_
 refine pn_ 9 63 m62_ (any_of HT_.out s2_) ?_
 refine pn_ 10 64 m63_ (any_of HT_.out s2_) ?_
 refine pn_ 11 65 m64_ (any_of HT_.out s2_) ?_
 refine pn_ 12 66 m65_ (any_of HT_.out s2_) ?_
 refine pu_ 13 67 m66_ (any_of HT_.out s2_) ?_
 refine pu_ 14 68 m67_ (any_of HT_.out s2_) ?_
 refine pn_ 15 69 m68_ (any_of HT_.out s2_) ?_
 refine pn_ 16 70 m69_ (any_of HT_.out s2_) ?_
 refine pn_ 17 71 m70_ (any_of HT_.out s2_) ?_
 refine pn_ 18 72 m71_ (any_of HT_.out s2_) ?_
 refine pn_ 19 73 m72_ (any_of HT_.out s2_) ?_
 refine pn_ 20 74 m73_ (any_of HT_.out s2_) ?_
 refine pn_ 21 75 m74_ (any_of HT_.out s2_) ?_
 refine pn_ 22 76 m75_ (any_of HT_.out s2_) ?_
 refine pn_ 23 77 m76_ (any_of HT_.out s2_) ?_
 refine pu_ 24 78 m77_ (any_of HT_.out s2_) ?_
 refine done_ (done_of HT_.out s2_) ?_
 try go_wp2
 go_ret
 exact ⟨by first | rfl | (simp [errW_none, errW_some] <;> rfl) | (simp [*, errW_none, errW_some] <;> rfl), by repeat (first | (with_reducible first | exact HB.out | apply below_alloc | apply pw_below_drewN | apply below_drew1) | exact HB.out)⟩}
 {
 rw [if_neg c16] at H
 have c16b0 : decide (20 < (((rd_T81 l0_0 a0_1).f7).length : Int)) = false := decide_eq_false c16
 have c16b1 : decide (20 < ((rd_T81 l0_0 a0_1).f7).length) = false := decide_eq_false (by omega)
 clear c16
 replace H := Option.bind_eq_some_iff.mp H
 obtain ⟨t183, A190, H⟩ := H
 replace H : (if t183 = true then ((spec_l00Has.f k ((rd_T81 l0_0 a0_1).f7) ((rd_T81 l0_0 a0_1).f1)).bind fun t184 => (if t184 = true then (some false) else (if ((rd_T81 l0_0 a0_1).f5 = true) then (if ((rd_T81 l0_0 a0_1).f3).toList = ([] : List UInt8) then (some ((((rd_T81 l0_0 a0_1).f7).length : Int) == 0)) else (some false)) else (some true)))) else (some false)) = some r := H
 have A19 := Aside0.mk A190
 clear A190
 by_cases c20 : t183 = true
 {
 subst c20
 have H1 : ((spec_l00Has.f k ((rd_T81 l0_0 a0_1).f7) ((rd_T81 l0_0 a0_1).f1)).bind fun t184 => (if t184 = true then (some false) else (if ((rd_T81 l0_0 a0_1).f5 = true) then (if ((rd_T81 l0_0 a0_1).f3).toList = ([] : List UInt8) then (some ((((rd_T81 l0_0 a0_1).f7).length : Int) == 0)) else (some false)) else (some true)))) = some r := by rw [if_pos rfl] at H; exact H
 clear H
 have H := H1
 clear H1
 replace H := Option.bind_eq_some_iff.mp H
 obtain ⟨t184, A210, H⟩ := H
 replace H : (if t184 = true then (some false) else (if ((rd_T81 l0_0 a0_1).f5 = true) then (if ((rd_T81 l0_0 a0_1).f3).toList = ([] : List UInt8) then (some ((((rd_T81 l0_0 a0_1).f7).length : Int) == 0)) else (some false)) else (some true))) = some r := H
 have A21 := Aside0.mk A210
 clear A210
 by_cases c22 : t184 = true
 {
 subst c22
 have H1 : (some false) = some r := by rw [if_pos rfl] at H; exact H
 clear H
 have H := H1
 clear H1
 obtain rfl := Option.some.inj H
 have p174 : 0 ≤ (a0_1 : Int) := of_decide_eq_true (by first | (with_reducible assumption) | assumption)
 have q174 : a0_1 < (l0_0.length : Int) := of_decide_eq_true (by first | (with_reducible assumption) | assumption)
 obtain ⟨ad174, A174_7, c174_7, e174, hx174_0, hx174_1, hx174_2, hx174_3, hx174_4, hx174_5, hx174_6, hx174_7, hl174_7, hi174_7⟩ := at_T81 HR0_0.out a0_1 p174 q174
 obtain rfl : adp0_ = ad174 := (by injection e174)
 have HR174_7 := Aside0.mk hi174_7
 have HC174_7 := Aside0.mk hl174_7
 clear hi174_7 hl174_7
 replace p174 := eq_true p174
 replace q174 := eq_true q174
 go_enter Try.func57, Try.ntmps57
 try go_wp2
 have n0_ := Aside0.mk (below_drew1 HB.out)
 clear HB
 have HB := n0_
 clear n0_
 have p175 : 0 ≤ (a0_1 : Int) := of_decide_eq_true (by first | (with_reducible assumption) | assumption)
 have q175 : a0_1 < (l0_0.length : Int) := of_decide_eq_true (by first | (with_reducible assumption) | assumption)
 obtain ⟨ad175, A175_7, c175_7, e175, hx175_0, hx175_1, hx175_2, hx175_3, hx175_4, hx175_5, hx175_6, hx175_7, hl175_7, hi175_7⟩ := at_T81 HR0_0.out a0_1 p175 q175
 have hw175_7 := hx175_7
 have hw175_6 := hx175_6
 have hw175_5 := hx175_5
 have hw175_4 := hx175_4
 have hw175_3 := hx175_3
 have hw175_2 := hx175_2
 have hw175_1 := hx175_1
 have hw175_0 := hx175_0
 obtain rfl : adp0_ = ad175 := (by injection e175)
 replace hx175_0 := (HB.out.cell (World.block_lt_of_cell? w _ hx175_0)).trans hx175_0
 replace hx175_1 := (HB.out.cell (World.block_lt_of_cell? w _ hx175_1)).trans hx175_1
 replace hx175_2 := (HB.out.cell (World.block_lt_of_cell? w _ hx175_2)).trans hx175_2
 replace hx175_3 := (HB.out.cell (World.block_lt_of_cell? w _ hx175_3)).trans hx175_3
 replace hx175_4 := (HB.out.cell (World.block_lt_of_cell? w _ hx175_4)).trans hx175_4
 replace hx175_5 := (HB.out.cell (World.block_lt_of_cell? w _ hx175_5)).trans hx175_5
 replace hx175_6 := (HB.out.cell (World.block_lt_of_cell? w _ hx175_6)).trans hx175_6
 replace hx175_7 := (HB.out.cell (World.block_lt_of_cell? w _ hx175_7)).trans hx175_7
 have HR175_7 := Aside0.mk hi175_7
 have HC175_7 := Aside0.mk hl175_7
 clear hi175_7 hl175_7
 replace p175 := eq_true p175
 replace q175 := eq_true q175
 refine start_ (n := 51) (S := fun w' => w'.cell? (adp0_.add ((a0_1).toNat * 8)) = some (.int .i64 ((rd_T81 l0_0 a0_1).f0)) ∧ w'.cell? ⟨(adp0_.add ((a0_1).toNat * 8)).block, (adp0_.add ((a0_1).toNat * 8)).off + 1, none⟩ = some (.int .i64 ((rd_T81 l0_0 a0_1).f1)) ∧ w'.cell? ⟨(adp0_.add ((a0_1).toNat * 8)).block, (adp0_.add ((a0_1).toNat * 8)).off + 2, none⟩ = some (.int .i64 ((rd_T81 l0_0 a0_1).f2)) ∧ w'.cell? ⟨(adp0_.add ((a0_1).toNat * 8)).block, (adp0_.add ((a0_1).toNat * 8)).off + 3, none⟩ = some (.string ((rd_T81 l0_0 a0_1).f3)) ∧ w'.cell? ⟨(adp0_.add ((a0_1).toNat * 8)).block, (adp0_.add ((a0_1).toNat * 8)).off + 4, none⟩ = some (.int .i64 ((rd_T81 l0_0 a0_1).f4)) ∧ w'.cell? ⟨(adp0_.add ((a0_1).toNat * 8)).block, (adp0_.add ((a0_1).toNat * 8)).off + 5, none⟩ = some (.bool ((rd_T81 l0_0 a0_1).f5)) ∧ w'.cell? ⟨(adp0_.add ((a0_1).toNat * 8)).block, (adp0_.add ((a0_1).toNat * 8)).off + 6, none⟩ = some (.int .i64 ((rd_T81 l0_0 a0_1).f6)) ∧ w'.cell? ⟨(adp0_.add ((a0_1).toNat * 8)).block, (adp0_.add ((a0_1).toNat * 8)).off + 7, none⟩ = some (.slice A175_7 ((rd_T81 l0_0 a0_1).f7).length c175_7)) (ds := []) m0_ s2_ rfl rfl ⟨((HB.out.cell (World.block_lt_of_cell? w _ hw175_0)).trans hw175_0), ((HB.out.cell (World.block_lt_of_cell? w _ hw175_1)).trans hw175_1), ((HB.out.cell (World.block_lt_of_cell? w _ hw175_2)).trans hw175_2), ((HB.out.cell (World.block_lt_of_cell? w _ hw175_3)).trans hw175_3), ((HB.out.cell (World.block_lt_of_cell? w _ hw175_4)).trans hw175_4), ((HB.out.cell (World.block_lt_of_cell? w _ hw175_5)).trans hw175_5), ((HB.out.cell (World.block_lt_of_cell? w _ hw175_6)).trans hw175_6), ((HB.out.cell (World.block_lt_of_cell? w _ hw175_7)).trans hw175_7)⟩ (fun hHeld => ?_); refine with_tabW spec_l03Message_v0.tab1 spec_l03Message_v0.bits1 (fun HT_ HW_ => ?_)
 generalize w.drew = w23 at HB HR175_7 hx175_0 hx175_1 hx175_2 hx175_3 hx175_4 hx175_5 hx175_6 hx175_7 hHeld ⊢
 refine pu_ 0 3 m1_ (any_of HT_.out s2_) ?_
 refine pu_ 1 4 m2_ (any_of HT_.out s2_) ?_
 refine pu_ 2 5 m3_ (any_of HT_.out s2_) ?_
 refine take_ (i := 3) (N := some 6) (v := ?_) (a' := ?_) m4_ rfl rfl (take_ofW HT_.out HW_.out s2_) (fun _ _ _ h => h) (Or.inl ⟨by rfl, ?_⟩) hHeld ?_ ?_
 rotate_left
 {
 rintro w' ⟨s0, s1, s2, s3, s4, s5, s6, s7⟩
 go_simp
 with_reducible rfl}
 rotate_left
 · exact p1_
 refine one_ (i := 4) (N := some 7) m5_ rfl rfl (one_of HT_.out s2_) (by decide) (fun K hK => ?_)
 refine goes_ Try.func52 s2_ rfl #[.int .i64 ((rd_T81 l0_0 a0_1).f0), .int .i64 1, .int .i64 1000000000] (by rfl) rfl rfl s3_ ?_
 with_reducible refine (spec_l00In.calls ((rd_T81 l0_0 a0_1).f0) 1 1000000000 true _ A4.out).mono ?_
 rintro e w' ⟨rfl, ⟨nd, rfl⟩⟩
 refine ⟨_, rfl, ?_⟩
 refine hK.out _ _ ⟨((HB.out.cell (World.block_lt_of_cell? w _ hw175_0)).trans hw175_0), ((HB.out.cell (World.block_lt_of_cell? w _ hw175_1)).trans hw175_1), ((HB.out.cell (World.block_lt_of_cell? w _ hw175_2)).trans hw175_2), ((HB.out.cell (World.block_lt_of_cell? w _ hw175_3)).trans hw175_3), ((HB.out.cell (World.block_lt_of_cell? w _ hw175_4)).trans hw175_4), ((HB.out.cell (World.block_lt_of_cell? w _ hw175_5)).trans hw175_5), ((HB.out.cell (World.block_lt_of_cell? w _ hw175_6)).trans hw175_6), ((HB.out.cell (World.block_lt_of_cell? w _ hw175_7)).trans hw175_7)⟩ (fun hHeld => ?_)
 clear hK K
 refine norm_ (a' := ?_) ?_ ?_
 rotate_left
 {
 show Act.put _ (some 7) _ = _
 simp only [Act.put, List.setIfInBounds_toArray, List.set_cons_zero, List.set_cons_succ, i64_w, i32_w]
 rfl}
 refine pu_ 5 8 m6_ (any_of HT_.out s2_) ?_
 refine pu_ 6 9 m7_ (any_of HT_.out s2_) ?_
 refine pu_ 7 10 m8_ (any_of HT_.out s2_) ?_
 refine pu_ 8 11 m9_ (any_of HT_.out s2_) ?_
 refine pu_ 9 12 m10_ (any_of HT_.out s2_) ?_
 refine take_ (i := 10) (N := some 13) (v := ?_) (a' := ?_) m11_ rfl rfl (take_ofW HT_.out HW_.out s2_) (fun _ _ _ h => h) (Or.inl ⟨by rfl, ?_⟩) hHeld ?_ ?_
 rotate_left
 {
 rintro w' ⟨s0, s1, s2, s3, s4, s5, s6, s7⟩
 go_simp
 with_reducible rfl}
 rotate_left
 · exact p1_
 refine one_ (i := 11) (N := some 14) m12_ rfl rfl (one_of HT_.out s2_) (by decide) (fun K hK => ?_)
 refine goes_ Try.func53 s2_ rfl #[.int .i64 ((rd_T81 l0_0 a0_1).f1)] (by rfl) rfl rfl s3_ ?_
 with_reducible refine (spec_l01Member.calls ((rd_T81 l0_0 a0_1).f1) true _ A6.out).mono ?_
 rintro e w' ⟨rfl, ⟨nd, rfl⟩⟩
 refine ⟨_, rfl, ?_⟩
 refine hK.out _ _ ⟨((HB.out.cell (World.block_lt_of_cell? w _ hw175_0)).trans hw175_0), ((HB.out.cell (World.block_lt_of_cell? w _ hw175_1)).trans hw175_1), ((HB.out.cell (World.block_lt_of_cell? w _ hw175_2)).trans hw175_2), ((HB.out.cell (World.block_lt_of_cell? w _ hw175_3)).trans hw175_3), ((HB.out.cell (World.block_lt_of_cell? w _ hw175_4)).trans hw175_4), ((HB.out.cell (World.block_lt_of_cell? w _ hw175_5)).trans hw175_5), ((HB.out.cell (World.block_lt_of_cell? w _ hw175_6)).trans hw175_6), ((HB.out.cell (World.block_lt_of_cell? w _ hw175_7)).trans hw175_7)⟩ (fun hHeld => ?_)
 clear hK K
 refine norm_ (a' := ?_) ?_ ?_
 rotate_left
 {
 show Act.put _ (some 14) _ = _
 simp only [Act.put, List.setIfInBounds_toArray, List.set_cons_zero, List.set_cons_succ, i64_w, i32_w]
 rfl}
 refine pu_ 12 15 m13_ (any_of HT_.out s2_) ?_
 refine pu_ 13 16 m14_ (any_of HT_.out s2_) ?_
 refine pu_ 14 17 m15_ (any_of HT_.out s2_) ?_
 refine pu_ 15 18 m16_ (any_of HT_.out s2_) ?_
 refine pu_ 16 19 m17_ (any_of HT_.out s2_) ?_
 refine pu_ 17 20 m18_ (any_of HT_.out s2_) ?_
 refine take_ (i := 18) (N := some 21) (v := ?_) (a' := ?_) m19_ rfl rfl (take_ofW HT_.out HW_.out s2_) (fun _ _ _ h => h) (Or.inl ⟨by rfl, ?_⟩) hHeld ?_ ?_
 rotate_left
 {
 rintro w' ⟨s0, s1, s2, s3, s4, s5, s6, s7⟩
 go_simp
 with_reducible rfl}
 rotate_left
 · exact p1_
 refine one_ (i := 19) (N := some 22) m20_ rfl rfl (one_of HT_.out s2_) (by decide) (fun K hK => ?_)
 refine goes_ Try.func54 s2_ rfl #[.int .i64 ((rd_T81 l0_0 a0_1).f2)] (by rfl) rfl rfl s3_ ?_
 with_reducible refine (spec_l01Tick.calls ((rd_T81 l0_0 a0_1).f2) true _ A8.out).mono ?_
 rintro e w' ⟨rfl, ⟨nd, rfl⟩⟩
 refine ⟨_, rfl, ?_⟩
 refine hK.out _ _ ⟨((HB.out.cell (World.block_lt_of_cell? w _ hw175_0)).trans hw175_0), ((HB.out.cell (World.block_lt_of_cell? w _ hw175_1)).trans hw175_1), ((HB.out.cell (World.block_lt_of_cell? w _ hw175_2)).trans hw175_2), ((HB.out.cell (World.block_lt_of_cell? w _ hw175_3)).trans hw175_3), ((HB.out.cell (World.block_lt_of_cell? w _ hw175_4)).trans hw175_4), ((HB.out.cell (World.block_lt_of_cell? w _ hw175_5)).trans hw175_5), ((HB.out.cell (World.block_lt_of_cell? w _ hw175_6)).trans hw175_6), ((HB.out.cell (World.block_lt_of_cell? w _ hw175_7)).trans hw175_7)⟩ (fun hHeld => ?_)
 clear hK K
 refine norm_ (a' := ?_) ?_ ?_
 rotate_left
 {
 show Act.put _ (some 22) _ = _
 simp only [Act.put, List.setIfInBounds_toArray, List.set_cons_zero, List.set_cons_succ, i64_w, i32_w]
 rfl}
 refine pu_ 20 23 m21_ (any_of HT_.out s2_) ?_
 refine pu_ 21 24 m22_ (any_of HT_.out s2_) ?_
 refine pu_ 22 25 m23_ (any_of HT_.out s2_) ?_
 refine pu_ 23 26 m24_ (any_of HT_.out s2_) ?_
 refine pu_ 24 27 m25_ (any_of HT_.out s2_) ?_
 refine pu_ 25 28 m26_ (any_of HT_.out s2_) ?_
 refine take_ (i := 26) (N := some 29) (v := ?_) (a' := ?_) m27_ rfl rfl (take_ofW HT_.out HW_.out s2_) (fun _ _ _ h => h) (Or.inl ⟨by rfl, ?_⟩) hHeld ?_ ?_
 rotate_left
 {
 rintro w' ⟨s0, s1, s2, s3, s4, s5, s6, s7⟩
 go_simp
 with_reducible rfl}
 rotate_left
 · exact p1_
 refine one_ (i := 27) (N := some 30) m28_ rfl rfl (one_of HT_.out s2_) (by decide) (fun K hK => ?_)
 refine goes_ Try.func55 s2_ rfl #[.string ((rd_T81 l0_0 a0_1).f3)] (by rfl) rfl rfl s3_ ?_
 with_reducible refine (spec_l01IsText.calls k ((rd_T81 l0_0 a0_1).f3) true _ A10.out).mono ?_
 rintro e w' ⟨rfl, ⟨nd, rfl⟩⟩
 refine ⟨_, rfl, ?_⟩
 refine hK.out _ _ ⟨((HB.out.cell (World.block_lt_of_cell? w _ hw175_0)).trans hw175_0), ((HB.out.cell (World.block_lt_of_cell? w _ hw175_1)).trans hw175_1), ((HB.out.cell (World.block_lt_of_cell? w _ hw175_2)).trans hw175_2), ((HB.out.cell (World.block_lt_of_cell? w _ hw175_3)).trans hw175_3), ((HB.out.cell (World.block_lt_of_cell? w _ hw175_4)).trans hw175_4), ((HB.out.cell (World.block_lt_of_cell? w _ hw175_5)).trans hw175_5), ((HB.out.cell (World.block_lt_of_cell? w _ hw175_6)).trans hw175_6), ((HB.out.cell (World.block_lt_of_cell? w _ hw175_7)).trans hw175_7)⟩ (fun hHeld => ?_)
 clear hK K
 refine norm_ (a' := ?_) ?_ ?_
 rotate_left
 {
 show Act.put _ (some 30) _ = _
 simp only [Act.put, List.setIfInBounds_toArray, List.set_cons_zero, List.set_cons_succ, i64_w, i32_w]
 rfl}
 refine pu_ 28 31 m29_ (any_of HT_.out s2_) ?_
 refine pu_ 29 32 m30_ (any_of HT_.out s2_) ?_
 refine pu_ 30 33 m31_ (any_of HT_.out s2_) ?_
 refine pu_ 31 34 m32_ (any_of HT_.out s2_) ?_
 refine pu_ 32 35 m33_ (any_of HT_.out s2_) ?_
 refine pu_ 33 36 m34_ (any_of HT_.out s2_) ?_
 refine take_ (i := 34) (N := some 37) (v := ?_) (a' := ?_) m35_ rfl rfl (take_ofW HT_.out HW_.out s2_) (fun _ _ _ h => h) (Or.inl ⟨by rfl, ?_⟩) hHeld ?_ ?_
 rotate_left
 {
 rintro w' ⟨s0, s1, s2, s3, s4, s5, s6, s7⟩
 go_simp
 with_reducible rfl}
 rotate_left
 · exact p1_
 refine one_ (i := 35) (N := some 38) m36_ rfl rfl (one_of HT_.out s2_) (by decide) (fun K hK => ?_)
 refine goes_ Try.func52 s2_ rfl #[.int .i64 ((rd_T81 l0_0 a0_1).f4), .int .i64 0, .int .i64 1000000000] (by rfl) rfl rfl s3_ ?_
 with_reducible refine (spec_l00In.calls ((rd_T81 l0_0 a0_1).f4) 0 1000000000 true _ A12.out).mono ?_
 rintro e w' ⟨rfl, ⟨nd, rfl⟩⟩
 refine ⟨_, rfl, ?_⟩
 refine hK.out _ _ ⟨((HB.out.cell (World.block_lt_of_cell? w _ hw175_0)).trans hw175_0), ((HB.out.cell (World.block_lt_of_cell? w _ hw175_1)).trans hw175_1), ((HB.out.cell (World.block_lt_of_cell? w _ hw175_2)).trans hw175_2), ((HB.out.cell (World.block_lt_of_cell? w _ hw175_3)).trans hw175_3), ((HB.out.cell (World.block_lt_of_cell? w _ hw175_4)).trans hw175_4), ((HB.out.cell (World.block_lt_of_cell? w _ hw175_5)).trans hw175_5), ((HB.out.cell (World.block_lt_of_cell? w _ hw175_6)).trans hw175_6), ((HB.out.cell (World.block_lt_of_cell? w _ hw175_7)).trans hw175_7)⟩ (fun hHeld => ?_)
 clear hK K
 refine norm_ (a' := ?_) ?_ ?_
 rotate_left
 {
 show Act.put _ (some 38) _ = _
 simp only [Act.put, List.setIfInBounds_toArray, List.set_cons_zero, List.set_cons_succ, i64_w, i32_w]
 rfl}
 refine pu_ 36 39 m37_ (any_of HT_.out s2_) ?_
 refine pu_ 37 40 m38_ (any_of HT_.out s2_) ?_
 refine pu_ 38 41 m39_ (any_of HT_.out s2_) ?_
 refine pu_ 39 42 m40_ (any_of HT_.out s2_) ?_
 refine pu_ 40 43 m41_ (any_of HT_.out s2_) ?_
 refine pu_ 41 44 m42_ (any_of HT_.out s2_) ?_
 refine pu_ 43 46 m43_ (any_of HT_.out s2_) ?_
 refine pu_ 44 47 m44_ (any_of HT_.out s2_) ?_
 refine pu_ 45 48 m45_ (any_of HT_.out s2_) ?_
 refine take_ (i := 42) (N := some 45) (v := ?_) (a' := ?_) m46_ rfl rfl (take_ofW HT_.out HW_.out s2_) (fun _ _ _ h => h) (Or.inl ⟨by rfl, ?_⟩) hHeld ?_ ?_
 rotate_left
 {
 rintro w' ⟨s0, s1, s2, s3, s4, s5, s6, s7⟩
 go_simp
 with_reducible rfl}
 rotate_left
 · exact p1_
 refine take_ (i := 46) (N := some 49) (v := ?_) (a' := ?_) m47_ rfl rfl (take_ofW HT_.out HW_.out s2_) (fun _ _ _ h => h) (Or.inl ⟨by rfl, ?_⟩) hHeld ?_ ?_
 rotate_left
 {
 rintro w' ⟨s0, s1, s2, s3, s4, s5, s6, s7⟩
 go_simp
 with_reducible rfl}
 rotate_left
 · exact p1_
 refine pu_ 47 50 m48_ (any_of HT_.out s2_) ?_
 refine one_ (i := 48) (N := some 51) m49_ rfl rfl (one_of HT_.out s2_) (by decide) (fun K hK => ?_)
 refine goes_ Try.func52 s2_ rfl #[.int .i64 ((rd_T81 l0_0 a0_1).f6), .int .i64 0, .int .i64 (wrap64 (((rd_T81 l0_0 a0_1).f0) - 1))] (by rfl) rfl rfl s3_ ?_
 with_reducible refine (spec_l00In.calls ((rd_T81 l0_0 a0_1).f6) 0 (wrap64 (((rd_T81 l0_0 a0_1).f0) - 1)) true _ A14.out).mono ?_
 rintro e w' ⟨rfl, ⟨nd, rfl⟩⟩
 refine ⟨_, rfl, ?_⟩
 refine hK.out _ _ ⟨((HB.out.cell (World.block_lt_of_cell? w _ hw175_0)).trans hw175_0), ((HB.out.cell (World.block_lt_of_cell? w _ hw175_1)).trans hw175_1), ((HB.out.cell (World.block_lt_of_cell? w _ hw175_2)).trans hw175_2), ((HB.out.cell (World.block_lt_of_cell? w _ hw175_3)).trans hw175_3), ((HB.out.cell (World.block_lt_of_cell? w _ hw175_4)).trans hw175_4), ((HB.out.cell (World.block_lt_of_cell? w _ hw175_5)).trans hw175_5), ((HB.out.cell (World.block_lt_of_cell? w _ hw175_6)).trans hw175_6), ((HB.out.cell (World.block_lt_of_cell? w _ hw175_7)).trans hw175_7)⟩ (fun hHeld => ?_)
 clear hK K
 refine norm_ (a' := ?_) ?_ ?_
 rotate_left
 {
 show Act.put _ (some 51) _ = _
 simp only [Act.put, List.setIfInBounds_toArray, List.set_cons_zero, List.set_cons_succ, i64_w, i32_w]
 rfl}
 refine pu_ 49 52 m50_ (any_of HT_.out s2_) ?_
 refine pu_ 50 53 m51_ (any_of HT_.out s2_) ?_
 refine done_ (done_of HT_.out s2_) ?_
 try go_wp2
 (try (rw [drewN_self w23]; generalize hq_ : World.drewN w23 _ = w23; have n0_ : Aside0 (Below w.heap.size w w23) := ⟨by rw [← hq_]; exact (by repeat (first | (with_reducible first | exact HB.out | apply below_alloc | apply pw_below_drewN | apply below_drew1) | exact HB.out))⟩; clear HB hq_; have HB := n0_; clear n0_))
 have n0_ := Aside0.mk (below_drew1 HB.out)
 clear HB
 have HB := n0_
 clear n0_
 have p182 : 0 ≤ (a0_1 : Int) := of_decide_eq_true (by first | (with_reducible assumption) | assumption)
 have q182 : a0_1 < (l0_0.length : Int) := of_decide_eq_true (by first | (with_reducible assumption) | assumption)
 obtain ⟨ad182, A182_7, c182_7, e182, hx182_0, hx182_1, hx182_2, hx182_3, hx182_4, hx182_5, hx182_6, hx182_7, hl182_7, hi182_7⟩ := at_T81 HR0_0.out a0_1 p182 q182
 have hw182_7 := hx182_7
 have hw182_6 := hx182_6
 have hw182_5 := hx182_5
 have hw182_4 := hx182_4
 have hw182_3 := hx182_3
 have hw182_2 := hx182_2
 have hw182_1 := hx182_1
 have hw182_0 := hx182_0
 obtain rfl : adp0_ = ad182 := (by injection e182)
 replace hx182_0 := (HB.out.cell (World.block_lt_of_cell? w _ hx182_0)).trans hx182_0
 replace hx182_1 := (HB.out.cell (World.block_lt_of_cell? w _ hx182_1)).trans hx182_1
 replace hx182_2 := (HB.out.cell (World.block_lt_of_cell? w _ hx182_2)).trans hx182_2
 replace hx182_3 := (HB.out.cell (World.block_lt_of_cell? w _ hx182_3)).trans hx182_3
 replace hx182_4 := (HB.out.cell (World.block_lt_of_cell? w _ hx182_4)).trans hx182_4
 replace hx182_5 := (HB.out.cell (World.block_lt_of_cell? w _ hx182_5)).trans hx182_5
 replace hx182_6 := (HB.out.cell (World.block_lt_of_cell? w _ hx182_6)).trans hx182_6
 replace hx182_7 := (HB.out.cell (World.block_lt_of_cell? w _ hx182_7)).trans hx182_7
 have HR182_7 := Aside0.mk hi182_7
 have HC182_7 := Aside0.mk hl182_7
 clear hi182_7 hl182_7
 replace p182 := eq_true p182
 replace q182 := eq_true q182
 refine start_ (n := 25) (S := fun w' => w'.cell? (adp0_.add ((a0_1).toNat * 8)) = some (.int .i64 ((rd_T81 l0_0 a0_1).f0)) ∧ w'.cell? ⟨(adp0_.add ((a0_1).toNat * 8)).block, (adp0_.add ((a0_1).toNat * 8)).off + 1, none⟩ = some (.int .i64 ((rd_T81 l0_0 a0_1).f1)) ∧ w'.cell? ⟨(adp0_.add ((a0_1).toNat * 8)).block, (adp0_.add ((a0_1).toNat * 8)).off + 2, none⟩ = some (.int .i64 ((rd_T81 l0_0 a0_1).f2)) ∧ w'.cell? ⟨(adp0_.add ((a0_1).toNat * 8)).block, (adp0_.add ((a0_1).toNat * 8)).off + 3, none⟩ = some (.string ((rd_T81 l0_0 a0_1).f3)) ∧ w'.cell? ⟨(adp0_.add ((a0_1).toNat * 8)).block, (adp0_.add ((a0_1).toNat * 8)).off + 4, none⟩ = some (.int .i64 ((rd_T81 l0_0 a0_1).f4)) ∧ w'.cell? ⟨(adp0_.add ((a0_1).toNat * 8)).block, (adp0_.add ((a0_1).toNat * 8)).off + 5, none⟩ = some (.bool ((rd_T81 l0_0 a0_1).f5)) ∧ w'.cell? ⟨(adp0_.add ((a0_1).toNat * 8)).block, (adp0_.add ((a0_1).toNat * 8)).off + 6, none⟩ = some (.int .i64 ((rd_T81 l0_0 a0_1).f6)) ∧ w'.cell? ⟨(adp0_.add ((a0_1).toNat * 8)).block, (adp0_.add ((a0_1).toNat * 8)).off + 7, none⟩ = some (.slice A182_7 ((rd_T81 l0_0 a0_1).f7).length c182_7)) (ds := []) m52_ s2_ rfl rfl ⟨((HB.out.cell (World.block_lt_of_cell? w _ hw182_0)).trans hw182_0), ((HB.out.cell (World.block_lt_of_cell? w _ hw182_1)).trans hw182_1), ((HB.out.cell (World.block_lt_of_cell? w _ hw182_2)).trans hw182_2), ((HB.out.cell (World.block_lt_of_cell? w _ hw182_3)).trans hw182_3), ((HB.out.cell (World.block_lt_of_cell? w _ hw182_4)).trans hw182_4), ((HB.out.cell (World.block_lt_of_cell? w _ hw182_5)).trans hw182_5), ((HB.out.cell (World.block_lt_of_cell? w _ hw182_6)).trans hw182_6), ((HB.out.cell (World.block_lt_of_cell? w _ hw182_7)).trans hw182_7)⟩ (fun hHeld => ?_); refine with_tabW spec_l03Message_v0.tab3 spec_l03Message_v0.bits3 (fun HT_ HW_ => ?_)
 generalize w23.drew = w24 at HB HR182_7 hx182_0 hx182_1 hx182_2 hx182_3 hx182_4 hx182_5 hx182_6 hx182_7 hHeld ⊢
 refine pu_ 0 54 m53_ (any_of HT_.out s2_) ?_
 refine pu_ 1 55 m54_ (any_of HT_.out s2_) ?_
 refine pu_ 2 56 m55_ (any_of HT_.out s2_) ?_
 refine take_ (i := 3) (N := some 57) (v := ?_) (a' := ?_) m56_ rfl rfl (take_ofW HT_.out HW_.out s2_) (fun _ _ _ h => h) (Or.inl ⟨by rfl, ?_⟩) hHeld ?_ ?_
 rotate_left
 {
 rintro w' ⟨s0, s1, s2, s3, s4, s5, s6, s7⟩
 go_simp
 with_reducible rfl}
 rotate_left
 · exact p1_
 refine pu_ 4 58 m57_ (any_of HT_.out s2_) ?_
 refine pu_ 5 59 m58_ (any_of HT_.out s2_) ?_
 refine pu_ 6 60 m59_ (any_of HT_.out s2_) ?_
 refine pu_ 7 61 m60_ (any_of HT_.out s2_) ?_
 refine pu_ 8 62 m61_ (any_of HT_.out s2_) ?_
 refine pu_ 9 63 m62_ (any_of HT_.out s2_) ?_
 refine take_ (i := 10) (N := some 64) (v := ?_) (a' := ?_) m63_ rfl rfl (take_ofW HT_.out HW_.out s2_) (fun _ _ _ h => h) (Or.inl ⟨by rfl, ?_⟩) hHeld ?_ ?_
 rotate_left
 {
 rintro w' ⟨s0, s1, s2, s3, s4, s5, s6, s7⟩
 go_simp
 with_reducible rfl}
 rotate_left
 · exact p1_
 refine one_ (i := 11) (N := some 65) m64_ rfl rfl (one_of HT_.out s2_) (by decide) (fun K hK => ?_)
 refine goes_ Try.func71 s2_ rfl #[.slice A182_7 ((rd_T81 l0_0 a0_1).f7).length c182_7] (by rfl) rfl rfl s3_ ?_
 with_reducible refine (spec_l01Members.calls k _ _ ((rd_T81 l0_0 a0_1).f7) true _ ?side1 ?side2 A19.out).mono ?_
 (case side1 => repeat (first | exact (Kd.C_below HR182_7.out HB.out) | (with_reducible refine Kd.C_alloc ?_ _) | (with_reducible refine Kd.C_drewN ?_ _) | (with_reducible refine Kd.C_drew ?_)))
 (case side2 => exact HC182_7.out)
 rintro e w' ⟨rfl, ⟨nd, rfl⟩⟩
 refine ⟨_, rfl, ?_⟩
 refine hK.out _ _ ⟨((HB.out.cell (World.block_lt_of_cell? w _ hw182_0)).trans hw182_0), ((HB.out.cell (World.block_lt_of_cell? w _ hw182_1)).trans hw182_1), ((HB.out.cell (World.block_lt_of_cell? w _ hw182_2)).trans hw182_2), ((HB.out.cell (World.block_lt_of_cell? w _ hw182_3)).trans hw182_3), ((HB.out.cell (World.block_lt_of_cell? w _ hw182_4)).trans hw182_4), ((HB.out.cell (World.block_lt_of_cell? w _ hw182_5)).trans hw182_5), ((HB.out.cell (World.block_lt_of_cell? w _ hw182_6)).trans hw182_6), ((HB.out.cell (World.block_lt_of_cell? w _ hw182_7)).trans hw182_7)⟩ (fun hHeld => ?_)
 clear hK K
 refine norm_ (a' := ?_) ?_ ?_
 rotate_left
 {
 show Act.put _ (some 65) _ = _
 simp only [Act.put, List.setIfInBounds_toArray, List.set_cons_zero, List.set_cons_succ, i64_w, i32_w]
 rfl}
 refine pu_ 12 66 m65_ (any_of HT_.out s2_) ?_
 refine pu_ 13 67 m66_ (any_of HT_.out s2_) ?_
 refine pu_ 14 68 m67_ (any_of HT_.out s2_) ?_
 refine pu_ 15 69 m68_ (any_of HT_.out s2_) ?_
 refine pu_ 16 70 m69_ (any_of HT_.out s2_) ?_
 refine pu_ 17 71 m70_ (any_of HT_.out s2_) ?_
 refine pu_ 19 73 m78_ (any_of HT_.out s2_) ?_
 refine pu_ 20 74 m79_ (any_of HT_.out s2_) ?_
 refine pu_ 21 75 m80_ (any_of HT_.out s2_) ?_
 refine take_ (i := 18) (N := some 72) (v := ?_) (a' := ?_) m74_ rfl rfl (take_ofW HT_.out HW_.out s2_) (fun _ _ _ h => h) (Or.inl ⟨by rfl, ?_⟩) hHeld ?_ ?_
 rotate_left
 {
 rintro w' ⟨s0, s1, s2, s3, s4, s5, s6, s7⟩
 go_simp
 with_reducible rfl}
 rotate_left
 · exact p1_
 refine take_ (i := 22) (N := some 76) (v := ?_) (a' := ?_) m75_ rfl rfl (take_ofW HT_.out HW_.out s2_) (fun _ _ _ h => h) (Or.inl ⟨by rfl, ?_⟩) hHeld ?_ ?_
 rotate_left
 {
 rintro w' ⟨s0, s1, s2, s3, s4, s5, s6, s7⟩
 go_simp
 with_reducible rfl}
 rotate_left
 · exact p1_
 refine one_ (i := 23) (N := some 77) m76_ rfl rfl (one_of HT_.out s2_) (by decide) (fun K hK => ?_)
 refine goes_ Try.func72 s2_ rfl #[.slice A182_7 ((rd_T81 l0_0 a0_1).f7).length c182_7, .int .i64 ((rd_T81 l0_0 a0_1).f1)] (by rfl) rfl rfl s3_ ?_
 with_reducible refine (spec_l00Has.calls k _ _ ((rd_T81 l0_0 a0_1).f7) ((rd_T81 l0_0 a0_1).f1) true _ ?side1 ?side2 A21.out).mono ?_
 (case side1 => repeat (first | exact (Kd.C_below HR182_7.out (by repeat (first | (with_reducible first | exact HB.out | apply below_alloc | apply pw_below_drewN | apply below_drew1) | exact HB.out))) | (with_reducible refine Kd.C_alloc ?_ _) | (with_reducible refine Kd.C_drewN ?_ _) | (with_reducible refine Kd.C_drew ?_)))
 (case side2 => exact HC182_7.out)
 rintro e w' ⟨rfl, ⟨nd, rfl⟩⟩
 refine ⟨_, rfl, ?_⟩
 refine hK.out _ _ ⟨((HB.out.cell (World.block_lt_of_cell? w _ hw182_0)).trans hw182_0), ((HB.out.cell (World.block_lt_of_cell? w _ hw182_1)).trans hw182_1), ((HB.out.cell (World.block_lt_of_cell? w _ hw182_2)).trans hw182_2), ((HB.out.cell (World.block_lt_of_cell? w _ hw182_3)).trans hw182_3), ((HB.out.cell (World.block_lt_of_cell? w _ hw182_4)).trans hw182_4), ((HB.out.cell (World.block_lt_of_cell? w _ hw182_5)).trans hw182_5), ((HB.out.cell (World.block_lt_of_cell? w _ hw182_6)).trans hw182_6), ((HB.out.cell (World.block_lt_of_cell? w _ hw182_7)).trans hw182_7)⟩ (fun hHeld => ?_)
 clear hK K
 refine norm_ (a' := ?_) ?_ ?_
 rotate_left
 {
 show Act.put _ (some 77) _ = _
 simp only [Act.put, List.setIfInBounds_toArray, List.set_cons_zero, List.set_cons_succ, i64_w, i32_w]
 rfl}
 refine pu_ 24 78 m77_ (any_of HT_.out s2_) ?_
 refine done_ (done_of HT_.out s2_) ?_
 try go_wp2
 go_ret
 exact ⟨by first | rfl | (simp [errW_none, errW_some] <;> rfl) | (simp [*, errW_none, errW_some] <;> rfl), by repeat (first | (with_reducible first | exact HB.out | apply below_alloc | apply pw_below_drewN | apply below_drew1) | exact HB.out)⟩}
 {
 replace c22 := Bool.eq_false_iff.mpr c22
 subst c22
 have H1 : (if ((rd_T81 l0_0 a0_1).f5 = true) then (if ((rd_T81 l0_0 a0_1).f3).toList = ([] : List UInt8) then (some ((((rd_T81 l0_0 a0_1).f7).length : Int) == 0)) else (some false)) else (some true)) = some r := by rw [if_neg (show ¬ (false = true) by decide)] at H; exact H
 clear H
 have H := H1
 clear H1
 obtain ⟨bq25, hbq25⟩ : ∃ b_ : Bool, b_ = ((rd_T81 l0_0 a0_1).f5) := ⟨_, rfl⟩
 replace H : (if (bq25 = true) then (if ((rd_T81 l0_0 a0_1).f3).toList = ([] : List UInt8) then (some ((((rd_T81 l0_0 a0_1).f7).length : Int) == 0)) else (some false)) else (some true)) = some r := by rw [← hbq25] at H; exact H
 have Nbq25 := Aside0.mk hbq25
 clear hbq25
 by_cases c26 : (bq25 = true)
 {
 subst c26
 have H1 : (if ((rd_T81 l0_0 a0_1).f3).toList = ([] : List UInt8) then (some ((((rd_T81 l0_0 a0_1).f7).length : Int) == 0)) else (some false)) = some r := by rw [if_pos rfl] at H; exact H
 clear H
 have H := H1
 clear H1
 by_cases c27 : ((rd_T81 l0_0 a0_1).f3).toList = ([] : List UInt8)
 {
 rw [if_pos c27] at H
 have c27b0 : (((rd_T81 l0_0 a0_1).f3).toList == ([] : List UInt8)) = true := beq_iff_eq.mpr c27
 have c27b1 : (((rd_T81 l0_0 a0_1).f3).toList != ([] : List UInt8)) = false := bne_eq_false_iff_eq.mpr c27
 clear c27
 obtain rfl := Option.some.inj H
 have p174 : 0 ≤ (a0_1 : Int) := of_decide_eq_true (by first | (with_reducible assumption) | assumption)
 have q174 : a0_1 < (l0_0.length : Int) := of_decide_eq_true (by first | (with_reducible assumption) | assumption)
 obtain ⟨ad174, A174_7, c174_7, e174, hx174_0, hx174_1, hx174_2, hx174_3, hx174_4, hx174_5, hx174_6, hx174_7, hl174_7, hi174_7⟩ := at_T81 HR0_0.out a0_1 p174 q174
 (try rw [← Nbq25.out] at hx174_5)
 obtain rfl : adp0_ = ad174 := (by injection e174)
 have HR174_7 := Aside0.mk hi174_7
 have HC174_7 := Aside0.mk hl174_7
 clear hi174_7 hl174_7
 replace p174 := eq_true p174
 replace q174 := eq_true q174
 go_enter Try.func57, Try.ntmps57
 try go_wp2
 have n0_ := Aside0.mk (below_drew1 HB.out)
 clear HB
 have HB := n0_
 clear n0_
 have p175 : 0 ≤ (a0_1 : Int) := of_decide_eq_true (by first | (with_reducible assumption) | assumption)
 have q175 : a0_1 < (l0_0.length : Int) := of_decide_eq_true (by first | (with_reducible assumption) | assumption)
 obtain ⟨ad175, A175_7, c175_7, e175, hx175_0, hx175_1, hx175_2, hx175_3, hx175_4, hx175_5, hx175_6, hx175_7, hl175_7, hi175_7⟩ := at_T81 HR0_0.out a0_1 p175 q175
 have hw175_7 := hx175_7
 have hw175_6 := hx175_6
 have hw175_5 := hx175_5
 (try rw [← Nbq25.out] at hw175_5)
 have hw175_4 := hx175_4
 have hw175_3 := hx175_3
 have hw175_2 := hx175_2
 have hw175_1 := hx175_1
 have hw175_0 := hx175_0
 (try rw [← Nbq25.out] at hx175_5)
 obtain rfl : adp0_ = ad175 := (by injection e175)
 replace hx175_0 := (HB.out.cell (World.block_lt_of_cell? w _ hx175_0)).trans hx175_0
 replace hx175_1 := (HB.out.cell (World.block_lt_of_cell? w _ hx175_1)).trans hx175_1
 replace hx175_2 := (HB.out.cell (World.block_lt_of_cell? w _ hx175_2)).trans hx175_2
 replace hx175_3 := (HB.out.cell (World.block_lt_of_cell? w _ hx175_3)).trans hx175_3
 replace hx175_4 := (HB.out.cell (World.block_lt_of_cell? w _ hx175_4)).trans hx175_4
 replace hx175_5 := (HB.out.cell (World.block_lt_of_cell? w _ hx175_5)).trans hx175_5
 replace hx175_6 := (HB.out.cell (World.block_lt_of_cell? w _ hx175_6)).trans hx175_6
 replace hx175_7 := (HB.out.cell (World.block_lt_of_cell? w _ hx175_7)).trans hx175_7
 have HR175_7 := Aside0.mk hi175_7
 have HC175_7 := Aside0.mk hl175_7
 clear hi175_7 hl175_7
 replace p175 := eq_true p175
 replace q175 := eq_true q175
 refine start_ (n := 51) (S := fun w' => w'.cell? (adp0_.add ((a0_1).toNat * 8)) = some (.int .i64 ((rd_T81 l0_0 a0_1).f0)) ∧ w'.cell? ⟨(adp0_.add ((a0_1).toNat * 8)).block, (adp0_.add ((a0_1).toNat * 8)).off + 1, none⟩ = some (.int .i64 ((rd_T81 l0_0 a0_1).f1)) ∧ w'.cell? ⟨(adp0_.add ((a0_1).toNat * 8)).block, (adp0_.add ((a0_1).toNat * 8)).off + 2, none⟩ = some (.int .i64 ((rd_T81 l0_0 a0_1).f2)) ∧ w'.cell? ⟨(adp0_.add ((a0_1).toNat * 8)).block, (adp0_.add ((a0_1).toNat * 8)).off + 3, none⟩ = some (.string ((rd_T81 l0_0 a0_1).f3)) ∧ w'.cell? ⟨(adp0_.add ((a0_1).toNat * 8)).block, (adp0_.add ((a0_1).toNat * 8)).off + 4, none⟩ = some (.int .i64 ((rd_T81 l0_0 a0_1).f4)) ∧ w'.cell? ⟨(adp0_.add ((a0_1).toNat * 8)).block, (adp0_.add ((a0_1).toNat * 8)).off + 5, none⟩ = some (.bool true) ∧ w'.cell? ⟨(adp0_.add ((a0_1).toNat * 8)).block, (adp0_.add ((a0_1).toNat * 8)).off + 6, none⟩ = some (.int .i64 ((rd_T81 l0_0 a0_1).f6)) ∧ w'.cell? ⟨(adp0_.add ((a0_1).toNat * 8)).block, (adp0_.add ((a0_1).toNat * 8)).off + 7, none⟩ = some (.slice A175_7 ((rd_T81 l0_0 a0_1).f7).length c175_7)) (ds := []) m0_ s2_ rfl rfl ⟨((HB.out.cell (World.block_lt_of_cell? w _ hw175_0)).trans hw175_0), ((HB.out.cell (World.block_lt_of_cell? w _ hw175_1)).trans hw175_1), ((HB.out.cell (World.block_lt_of_cell? w _ hw175_2)).trans hw175_2), ((HB.out.cell (World.block_lt_of_cell? w _ hw175_3)).trans hw175_3), ((HB.out.cell (World.block_lt_of_cell? w _ hw175_4)).trans hw175_4), ((HB.out.cell (World.block_lt_of_cell? w _ hw175_5)).trans hw175_5), ((HB.out.cell (World.block_lt_of_cell? w _ hw175_6)).trans hw175_6), ((HB.out.cell (World.block_lt_of_cell? w _ hw175_7)).trans hw175_7)⟩ (fun hHeld => ?_); refine with_tabW spec_l03Message_v0.tab1 spec_l03Message_v0.bits1 (fun HT_ HW_ => ?_)
 generalize w.drew = w28 at HB HR175_7 hx175_0 hx175_1 hx175_2 hx175_3 hx175_4 hx175_5 hx175_6 hx175_7 hHeld ⊢
 refine pu_ 0 3 m1_ (any_of HT_.out s2_) ?_
 refine pu_ 1 4 m2_ (any_of HT_.out s2_) ?_
 refine pu_ 2 5 m3_ (any_of HT_.out s2_) ?_
 refine take_ (i := 3) (N := some 6) (v := ?_) (a' := ?_) m4_ rfl rfl (take_ofW HT_.out HW_.out s2_) (fun _ _ _ h => h) (Or.inl ⟨by rfl, ?_⟩) hHeld ?_ ?_
 rotate_left
 {
 rintro w' ⟨s0, s1, s2, s3, s4, s5, s6, s7⟩
 go_simp
 with_reducible rfl}
 rotate_left
 · exact p1_
 refine one_ (i := 4) (N := some 7) m5_ rfl rfl (one_of HT_.out s2_) (by decide) (fun K hK => ?_)
 refine goes_ Try.func52 s2_ rfl #[.int .i64 ((rd_T81 l0_0 a0_1).f0), .int .i64 1, .int .i64 1000000000] (by rfl) rfl rfl s3_ ?_
 with_reducible refine (spec_l00In.calls ((rd_T81 l0_0 a0_1).f0) 1 1000000000 true _ A4.out).mono ?_
 rintro e w' ⟨rfl, ⟨nd, rfl⟩⟩
 refine ⟨_, rfl, ?_⟩
 refine hK.out _ _ ⟨((HB.out.cell (World.block_lt_of_cell? w _ hw175_0)).trans hw175_0), ((HB.out.cell (World.block_lt_of_cell? w _ hw175_1)).trans hw175_1), ((HB.out.cell (World.block_lt_of_cell? w _ hw175_2)).trans hw175_2), ((HB.out.cell (World.block_lt_of_cell? w _ hw175_3)).trans hw175_3), ((HB.out.cell (World.block_lt_of_cell? w _ hw175_4)).trans hw175_4), ((HB.out.cell (World.block_lt_of_cell? w _ hw175_5)).trans hw175_5), ((HB.out.cell (World.block_lt_of_cell? w _ hw175_6)).trans hw175_6), ((HB.out.cell (World.block_lt_of_cell? w _ hw175_7)).trans hw175_7)⟩ (fun hHeld => ?_)
 clear hK K
 refine norm_ (a' := ?_) ?_ ?_
 rotate_left
 {
 show Act.put _ (some 7) _ = _
 simp only [Act.put, List.setIfInBounds_toArray, List.set_cons_zero, List.set_cons_succ, i64_w, i32_w]
 rfl}
 refine pu_ 5 8 m6_ (any_of HT_.out s2_) ?_
 refine pu_ 6 9 m7_ (any_of HT_.out s2_) ?_
 refine pu_ 7 10 m8_ (any_of HT_.out s2_) ?_
 refine pu_ 8 11 m9_ (any_of HT_.out s2_) ?_
 refine pu_ 9 12 m10_ (any_of HT_.out s2_) ?_
 refine take_ (i := 10) (N := some 13) (v := ?_) (a' := ?_) m11_ rfl rfl (take_ofW HT_.out HW_.out s2_) (fun _ _ _ h => h) (Or.inl ⟨by rfl, ?_⟩) hHeld ?_ ?_
 rotate_left
 {
 rintro w' ⟨s0, s1, s2, s3, s4, s5, s6, s7⟩
 go_simp
 with_reducible rfl}
 rotate_left
 · exact p1_
 refine one_ (i := 11) (N := some 14) m12_ rfl rfl (one_of HT_.out s2_) (by decide) (fun K hK => ?_)
 refine goes_ Try.func53 s2_ rfl #[.int .i64 ((rd_T81 l0_0 a0_1).f1)] (by rfl) rfl rfl s3_ ?_
 with_reducible refine (spec_l01Member.calls ((rd_T81 l0_0 a0_1).f1) true _ A6.out).mono ?_
 rintro e w' ⟨rfl, ⟨nd, rfl⟩⟩
 refine ⟨_, rfl, ?_⟩
 refine hK.out _ _ ⟨((HB.out.cell (World.block_lt_of_cell? w _ hw175_0)).trans hw175_0), ((HB.out.cell (World.block_lt_of_cell? w _ hw175_1)).trans hw175_1), ((HB.out.cell (World.block_lt_of_cell? w _ hw175_2)).trans hw175_2), ((HB.out.cell (World.block_lt_of_cell? w _ hw175_3)).trans hw175_3), ((HB.out.cell (World.block_lt_of_cell? w _ hw175_4)).trans hw175_4), ((HB.out.cell (World.block_lt_of_cell? w _ hw175_5)).trans hw175_5), ((HB.out.cell (World.block_lt_of_cell? w _ hw175_6)).trans hw175_6), ((HB.out.cell (World.block_lt_of_cell? w _ hw175_7)).trans hw175_7)⟩ (fun hHeld => ?_)
 clear hK K
 refine norm_ (a' := ?_) ?_ ?_
 rotate_left
 {
 show Act.put _ (some 14) _ = _
 simp only [Act.put, List.setIfInBounds_toArray, List.set_cons_zero, List.set_cons_succ, i64_w, i32_w]
 rfl}
 refine pu_ 12 15 m13_ (any_of HT_.out s2_) ?_
 refine pu_ 13 16 m14_ (any_of HT_.out s2_) ?_
 refine pu_ 14 17 m15_ (any_of HT_.out s2_) ?_
 refine pu_ 15 18 m16_ (any_of HT_.out s2_) ?_
 refine pu_ 16 19 m17_ (any_of HT_.out s2_) ?_
 refine pu_ 17 20 m18_ (any_of HT_.out s2_) ?_
 refine take_ (i := 18) (N := some 21) (v := ?_) (a' := ?_) m19_ rfl rfl (take_ofW HT_.out HW_.out s2_) (fun _ _ _ h => h) (Or.inl ⟨by rfl, ?_⟩) hHeld ?_ ?_
 rotate_left
 {
 rintro w' ⟨s0, s1, s2, s3, s4, s5, s6, s7⟩
 go_simp
 with_reducible rfl}
 rotate_left
 · exact p1_
 refine one_ (i := 19) (N := some 22) m20_ rfl rfl (one_of HT_.out s2_) (by decide) (fun K hK => ?_)
 refine goes_ Try.func54 s2_ rfl #[.int .i64 ((rd_T81 l0_0 a0_1).f2)] (by rfl) rfl rfl s3_ ?_
 with_reducible refine (spec_l01Tick.calls ((rd_T81 l0_0 a0_1).f2) true _ A8.out).mono ?_
 rintro e w' ⟨rfl, ⟨nd, rfl⟩⟩
 refine ⟨_, rfl, ?_⟩
 refine hK.out _ _ ⟨((HB.out.cell (World.block_lt_of_cell? w _ hw175_0)).trans hw175_0), ((HB.out.cell (World.block_lt_of_cell? w _ hw175_1)).trans hw175_1), ((HB.out.cell (World.block_lt_of_cell? w _ hw175_2)).trans hw175_2), ((HB.out.cell (World.block_lt_of_cell? w _ hw175_3)).trans hw175_3), ((HB.out.cell (World.block_lt_of_cell? w _ hw175_4)).trans hw175_4), ((HB.out.cell (World.block_lt_of_cell? w _ hw175_5)).trans hw175_5), ((HB.out.cell (World.block_lt_of_cell? w _ hw175_6)).trans hw175_6), ((HB.out.cell (World.block_lt_of_cell? w _ hw175_7)).trans hw175_7)⟩ (fun hHeld => ?_)
 clear hK K
 refine norm_ (a' := ?_) ?_ ?_
 rotate_left
 {
 show Act.put _ (some 22) _ = _
 simp only [Act.put, List.setIfInBounds_toArray, List.set_cons_zero, List.set_cons_succ, i64_w, i32_w]
 rfl}
 refine pu_ 20 23 m21_ (any_of HT_.out s2_) ?_
 refine pu_ 21 24 m22_ (any_of HT_.out s2_) ?_
 refine pu_ 22 25 m23_ (any_of HT_.out s2_) ?_
 refine pu_ 23 26 m24_ (any_of HT_.out s2_) ?_
 refine pu_ 24 27 m25_ (any_of HT_.out s2_) ?_
 refine pu_ 25 28 m26_ (any_of HT_.out s2_) ?_
 refine take_ (i := 26) (N := some 29) (v := ?_) (a' := ?_) m27_ rfl rfl (take_ofW HT_.out HW_.out s2_) (fun _ _ _ h => h) (Or.inl ⟨by rfl, ?_⟩) hHeld ?_ ?_
 rotate_left
 {
 rintro w' ⟨s0, s1, s2, s3, s4, s5, s6, s7⟩
 go_simp
 with_reducible rfl}
 rotate_left
 · exact p1_
 refine one_ (i := 27) (N := some 30) m28_ rfl rfl (one_of HT_.out s2_) (by decide) (fun K hK => ?_)
 refine goes_ Try.func55 s2_ rfl #[.string ((rd_T81 l0_0 a0_1).f3)] (by rfl) rfl rfl s3_ ?_
 with_reducible refine (spec_l01IsText.calls k ((rd_T81 l0_0 a0_1).f3) true _ A10.out).mono ?_
 rintro e w' ⟨rfl, ⟨nd, rfl⟩⟩
 refine ⟨_, rfl, ?_⟩
 refine hK.out _ _ ⟨((HB.out.cell (World.block_lt_of_cell? w _ hw175_0)).trans hw175_0), ((HB.out.cell (World.block_lt_of_cell? w _ hw175_1)).trans hw175_1), ((HB.out.cell (World.block_lt_of_cell? w _ hw175_2)).trans hw175_2), ((HB.out.cell (World.block_lt_of_cell? w _ hw175_3)).trans hw175_3), ((HB.out.cell (World.block_lt_of_cell? w _ hw175_4)).trans hw175_4), ((HB.out.cell (World.block_lt_of_cell? w _ hw175_5)).trans hw175_5), ((HB.out.cell (World.block_lt_of_cell? w _ hw175_6)).trans hw175_6), ((HB.out.cell (World.block_lt_of_cell? w _ hw175_7)).trans hw175_7)⟩ (fun hHeld => ?_)
 clear hK K
 refine norm_ (a' := ?_) ?_ ?_
 rotate_left
 {
 show Act.put _ (some 30) _ = _
 simp only [Act.put, List.setIfInBounds_toArray, List.set_cons_zero, List.set_cons_succ, i64_w, i32_w]
 rfl}
 refine pu_ 28 31 m29_ (any_of HT_.out s2_) ?_
 refine pu_ 29 32 m30_ (any_of HT_.out s2_) ?_
 refine pu_ 30 33 m31_ (any_of HT_.out s2_) ?_
 refine pu_ 31 34 m32_ (any_of HT_.out s2_) ?_
 refine pu_ 32 35 m33_ (any_of HT_.out s2_) ?_
 refine pu_ 33 36 m34_ (any_of HT_.out s2_) ?_
 refine take_ (i := 34) (N := some 37) (v := ?_) (a' := ?_) m35_ rfl rfl (take_ofW HT_.out HW_.out s2_) (fun _ _ _ h => h) (Or.inl ⟨by rfl, ?_⟩) hHeld ?_ ?_
 rotate_left
 {
 rintro w' ⟨s0, s1, s2, s3, s4, s5, s6, s7⟩
 go_simp
 with_reducible rfl}
 rotate_left
 · exact p1_
 refine one_ (i := 35) (N := some 38) m36_ rfl rfl (one_of HT_.out s2_) (by decide) (fun K hK => ?_)
 refine goes_ Try.func52 s2_ rfl #[.int .i64 ((rd_T81 l0_0 a0_1).f4), .int .i64 0, .int .i64 1000000000] (by rfl) rfl rfl s3_ ?_
 with_reducible refine (spec_l00In.calls ((rd_T81 l0_0 a0_1).f4) 0 1000000000 true _ A12.out).mono ?_
 rintro e w' ⟨rfl, ⟨nd, rfl⟩⟩
 refine ⟨_, rfl, ?_⟩
 refine hK.out _ _ ⟨((HB.out.cell (World.block_lt_of_cell? w _ hw175_0)).trans hw175_0), ((HB.out.cell (World.block_lt_of_cell? w _ hw175_1)).trans hw175_1), ((HB.out.cell (World.block_lt_of_cell? w _ hw175_2)).trans hw175_2), ((HB.out.cell (World.block_lt_of_cell? w _ hw175_3)).trans hw175_3), ((HB.out.cell (World.block_lt_of_cell? w _ hw175_4)).trans hw175_4), ((HB.out.cell (World.block_lt_of_cell? w _ hw175_5)).trans hw175_5), ((HB.out.cell (World.block_lt_of_cell? w _ hw175_6)).trans hw175_6), ((HB.out.cell (World.block_lt_of_cell? w _ hw175_7)).trans hw175_7)⟩ (fun hHeld => ?_)
 clear hK K
 refine norm_ (a' := ?_) ?_ ?_
 rotate_left
 {
 show Act.put _ (some 38) _ = _
 simp only [Act.put, List.setIfInBounds_toArray, List.set_cons_zero, List.set_cons_succ, i64_w, i32_w]
 rfl}
 refine pu_ 36 39 m37_ (any_of HT_.out s2_) ?_
 refine pu_ 37 40 m38_ (any_of HT_.out s2_) ?_
 refine pu_ 38 41 m39_ (any_of HT_.out s2_) ?_
 refine pu_ 39 42 m40_ (any_of HT_.out s2_) ?_
 refine pu_ 40 43 m41_ (any_of HT_.out s2_) ?_
 refine pu_ 41 44 m42_ (any_of HT_.out s2_) ?_
 refine pu_ 43 46 m43_ (any_of HT_.out s2_) ?_
 refine pu_ 44 47 m44_ (any_of HT_.out s2_) ?_
 refine pu_ 45 48 m45_ (any_of HT_.out s2_) ?_
 refine take_ (i := 42) (N := some 45) (v := ?_) (a' := ?_) m46_ rfl rfl (take_ofW HT_.out HW_.out s2_) (fun _ _ _ h => h) (Or.inl ⟨by rfl, ?_⟩) hHeld ?_ ?_
 rotate_left
 {
 rintro w' ⟨s0, s1, s2, s3, s4, s5, s6, s7⟩
 go_simp
 with_reducible rfl}
 rotate_left
 · exact p1_
 refine take_ (i := 46) (N := some 49) (v := ?_) (a' := ?_) m47_ rfl rfl (take_ofW HT_.out HW_.out s2_) (fun _ _ _ h => h) (Or.inl ⟨by rfl, ?_⟩) hHeld ?_ ?_
 rotate_left
 {
 rintro w' ⟨s0, s1, s2, s3, s4, s5, s6, s7⟩
 go_simp
 with_reducible rfl}
 rotate_left
 · exact p1_
 refine pu_ 47 50 m48_ (any_of HT_.out s2_) ?_
 refine one_ (i := 48) (N := some 51) m49_ rfl rfl (one_of HT_.out s2_) (by decide) (fun K hK => ?_)
 refine goes_ Try.func52 s2_ rfl #[.int .i64 ((rd_T81 l0_0 a0_1).f6), .int .i64 0, .int .i64 (wrap64 (((rd_T81 l0_0 a0_1).f0) - 1))] (by rfl) rfl rfl s3_ ?_
 with_reducible refine (spec_l00In.calls ((rd_T81 l0_0 a0_1).f6) 0 (wrap64 (((rd_T81 l0_0 a0_1).f0) - 1)) true _ A14.out).mono ?_
 rintro e w' ⟨rfl, ⟨nd, rfl⟩⟩
 refine ⟨_, rfl, ?_⟩
 refine hK.out _ _ ⟨((HB.out.cell (World.block_lt_of_cell? w _ hw175_0)).trans hw175_0), ((HB.out.cell (World.block_lt_of_cell? w _ hw175_1)).trans hw175_1), ((HB.out.cell (World.block_lt_of_cell? w _ hw175_2)).trans hw175_2), ((HB.out.cell (World.block_lt_of_cell? w _ hw175_3)).trans hw175_3), ((HB.out.cell (World.block_lt_of_cell? w _ hw175_4)).trans hw175_4), ((HB.out.cell (World.block_lt_of_cell? w _ hw175_5)).trans hw175_5), ((HB.out.cell (World.block_lt_of_cell? w _ hw175_6)).trans hw175_6), ((HB.out.cell (World.block_lt_of_cell? w _ hw175_7)).trans hw175_7)⟩ (fun hHeld => ?_)
 clear hK K
 refine norm_ (a' := ?_) ?_ ?_
 rotate_left
 {
 show Act.put _ (some 51) _ = _
 simp only [Act.put, List.setIfInBounds_toArray, List.set_cons_zero, List.set_cons_succ, i64_w, i32_w]
 rfl}
 refine pu_ 49 52 m50_ (any_of HT_.out s2_) ?_
 refine pu_ 50 53 m51_ (any_of HT_.out s2_) ?_
 refine done_ (done_of HT_.out s2_) ?_
 try go_wp2
 (try (rw [drewN_self w28]; generalize hq_ : World.drewN w28 _ = w28; have n0_ : Aside0 (Below w.heap.size w w28) := ⟨by rw [← hq_]; exact (by repeat (first | (with_reducible first | exact HB.out | apply below_alloc | apply pw_below_drewN | apply below_drew1) | exact HB.out))⟩; clear HB hq_; have HB := n0_; clear n0_))
 have n0_ := Aside0.mk (below_drew1 HB.out)
 clear HB
 have HB := n0_
 clear n0_
 have p182 : 0 ≤ (a0_1 : Int) := of_decide_eq_true (by first | (with_reducible assumption) | assumption)
 have q182 : a0_1 < (l0_0.length : Int) := of_decide_eq_true (by first | (with_reducible assumption) | assumption)
 obtain ⟨ad182, A182_7, c182_7, e182, hx182_0, hx182_1, hx182_2, hx182_3, hx182_4, hx182_5, hx182_6, hx182_7, hl182_7, hi182_7⟩ := at_T81 HR0_0.out a0_1 p182 q182
 have hw182_7 := hx182_7
 have hw182_6 := hx182_6
 have hw182_5 := hx182_5
 (try rw [← Nbq25.out] at hw182_5)
 have hw182_4 := hx182_4
 have hw182_3 := hx182_3
 have hw182_2 := hx182_2
 have hw182_1 := hx182_1
 have hw182_0 := hx182_0
 (try rw [← Nbq25.out] at hx182_5)
 obtain rfl : adp0_ = ad182 := (by injection e182)
 replace hx182_0 := (HB.out.cell (World.block_lt_of_cell? w _ hx182_0)).trans hx182_0
 replace hx182_1 := (HB.out.cell (World.block_lt_of_cell? w _ hx182_1)).trans hx182_1
 replace hx182_2 := (HB.out.cell (World.block_lt_of_cell? w _ hx182_2)).trans hx182_2
 replace hx182_3 := (HB.out.cell (World.block_lt_of_cell? w _ hx182_3)).trans hx182_3
 replace hx182_4 := (HB.out.cell (World.block_lt_of_cell? w _ hx182_4)).trans hx182_4
 replace hx182_5 := (HB.out.cell (World.block_lt_of_cell? w _ hx182_5)).trans hx182_5
 replace hx182_6 := (HB.out.cell (World.block_lt_of_cell? w _ hx182_6)).trans hx182_6
 replace hx182_7 := (HB.out.cell (World.block_lt_of_cell? w _ hx182_7)).trans hx182_7
 have HR182_7 := Aside0.mk hi182_7
 have HC182_7 := Aside0.mk hl182_7
 clear hi182_7 hl182_7
 replace p182 := eq_true p182
 replace q182 := eq_true q182
 refine start_ (n := 25) (S := fun w' => w'.cell? (adp0_.add ((a0_1).toNat * 8)) = some (.int .i64 ((rd_T81 l0_0 a0_1).f0)) ∧ w'.cell? ⟨(adp0_.add ((a0_1).toNat * 8)).block, (adp0_.add ((a0_1).toNat * 8)).off + 1, none⟩ = some (.int .i64 ((rd_T81 l0_0 a0_1).f1)) ∧ w'.cell? ⟨(adp0_.add ((a0_1).toNat * 8)).block, (adp0_.add ((a0_1).toNat * 8)).off + 2, none⟩ = some (.int .i64 ((rd_T81 l0_0 a0_1).f2)) ∧ w'.cell? ⟨(adp0_.add ((a0_1).toNat * 8)).block, (adp0_.add ((a0_1).toNat * 8)).off + 3, none⟩ = some (.string ((rd_T81 l0_0 a0_1).f3)) ∧ w'.cell? ⟨(adp0_.add ((a0_1).toNat * 8)).block, (adp0_.add ((a0_1).toNat * 8)).off + 4, none⟩ = some (.int .i64 ((rd_T81 l0_0 a0_1).f4)) ∧ w'.cell? ⟨(adp0_.add ((a0_1).toNat * 8)).block, (adp0_.add ((a0_1).toNat * 8)).off + 5, none⟩ = some (.bool true) ∧ w'.cell? ⟨(adp0_.add ((a0_1).toNat * 8)).block, (adp0_.add ((a0_1).toNat * 8)).off + 6, none⟩ = some (.int .i64 ((rd_T81 l0_0 a0_1).f6)) ∧ w'.cell? ⟨(adp0_.add ((a0_1).toNat * 8)).block, (adp0_.add ((a0_1).toNat * 8)).off + 7, none⟩ = some (.slice A182_7 ((rd_T81 l0_0 a0_1).f7).length c182_7)) (ds := []) m52_ s2_ rfl rfl ⟨((HB.out.cell (World.block_lt_of_cell? w _ hw182_0)).trans hw182_0), ((HB.out.cell (World.block_lt_of_cell? w _ hw182_1)).trans hw182_1), ((HB.out.cell (World.block_lt_of_cell? w _ hw182_2)).trans hw182_2), ((HB.out.cell (World.block_lt_of_cell? w _ hw182_3)).trans hw182_3), ((HB.out.cell (World.block_lt_of_cell? w _ hw182_4)).trans hw182_4), ((HB.out.cell (World.block_lt_of_cell? w _ hw182_5)).trans hw182_5), ((HB.out.cell (World.block_lt_of_cell? w _ hw182_6)).trans hw182_6), ((HB.out.cell (World.block_lt_of_cell? w _ hw182_7)).trans hw182_7)⟩ (fun hHeld => ?_); refine with_tabW spec_l03Message_v0.tab3 spec_l03Message_v0.bits3 (fun HT_ HW_ => ?_)
 generalize w28.drew = w29 at HB HR182_7 hx182_0 hx182_1 hx182_2 hx182_3 hx182_4 hx182_5 hx182_6 hx182_7 hHeld ⊢
 refine pu_ 0 54 m53_ (any_of HT_.out s2_) ?_
 refine pu_ 1 55 m54_ (any_of HT_.out s2_) ?_
 refine pu_ 2 56 m55_ (any_of HT_.out s2_) ?_
 refine take_ (i := 3) (N := some 57) (v := ?_) (a' := ?_) m56_ rfl rfl (take_ofW HT_.out HW_.out s2_) (fun _ _ _ h => h) (Or.inl ⟨by rfl, ?_⟩) hHeld ?_ ?_
 rotate_left
 {
 rintro w' ⟨s0, s1, s2, s3, s4, s5, s6, s7⟩
 go_simp
 with_reducible rfl}
 rotate_left
 · exact p1_
 refine pu_ 4 58 m57_ (any_of HT_.out s2_) ?_
 refine pu_ 5 59 m58_ (any_of HT_.out s2_) ?_
 refine pu_ 6 60 m59_ (any_of HT_.out s2_) ?_
 refine pu_ 7 61 m60_ (any_of HT_.out s2_) ?_
 refine pu_ 8 62 m61_ (any_of HT_.out s2_) ?_
 refine pu_ 9 63 m62_ (any_of HT_.out s2_) ?_
 refine take_ (i := 10) (N := some 64) (v := ?_) (a' := ?_) m63_ rfl rfl (take_ofW HT_.out HW_.out s2_) (fun _ _ _ h => h) (Or.inl ⟨by rfl, ?_⟩) hHeld ?_ ?_
 rotate_left
 {
 rintro w' ⟨s0, s1, s2, s3, s4, s5, s6, s7⟩
 go_simp
 with_reducible rfl}
 rotate_left
 · exact p1_
 refine one_ (i := 11) (N := some 65) m64_ rfl rfl (one_of HT_.out s2_) (by decide) (fun K hK => ?_)
 refine goes_ Try.func71 s2_ rfl #[.slice A182_7 ((rd_T81 l0_0 a0_1).f7).length c182_7] (by rfl) rfl rfl s3_ ?_
 with_reducible refine (spec_l01Members.calls k _ _ ((rd_T81 l0_0 a0_1).f7) true _ ?side1 ?side2 A19.out).mono ?_
 (case side1 => repeat (first | exact (Kd.C_below HR182_7.out HB.out) | (with_reducible refine Kd.C_alloc ?_ _) | (with_reducible refine Kd.C_drewN ?_ _) | (with_reducible refine Kd.C_drew ?_)))
 (case side2 => exact HC182_7.out)
 rintro e w' ⟨rfl, ⟨nd, rfl⟩⟩
 refine ⟨_, rfl, ?_⟩
 refine hK.out _ _ ⟨((HB.out.cell (World.block_lt_of_cell? w _ hw182_0)).trans hw182_0), ((HB.out.cell (World.block_lt_of_cell? w _ hw182_1)).trans hw182_1), ((HB.out.cell (World.block_lt_of_cell? w _ hw182_2)).trans hw182_2), ((HB.out.cell (World.block_lt_of_cell? w _ hw182_3)).trans hw182_3), ((HB.out.cell (World.block_lt_of_cell? w _ hw182_4)).trans hw182_4), ((HB.out.cell (World.block_lt_of_cell? w _ hw182_5)).trans hw182_5), ((HB.out.cell (World.block_lt_of_cell? w _ hw182_6)).trans hw182_6), ((HB.out.cell (World.block_lt_of_cell? w _ hw182_7)).trans hw182_7)⟩ (fun hHeld => ?_)
 clear hK K
 refine norm_ (a' := ?_) ?_ ?_
 rotate_left
 {
 show Act.put _ (some 65) _ = _
 simp only [Act.put, List.setIfInBounds_toArray, List.set_cons_zero, List.set_cons_succ, i64_w, i32_w]
 rfl}
 refine pu_ 12 66 m65_ (any_of HT_.out s2_) ?_
 refine pu_ 13 67 m66_ (any_of HT_.out s2_) ?_
 refine pu_ 14 68 m67_ (any_of HT_.out s2_) ?_
 refine pu_ 15 69 m68_ (any_of HT_.out s2_) ?_
 refine pu_ 16 70 m69_ (any_of HT_.out s2_) ?_
 refine pu_ 17 71 m70_ (any_of HT_.out s2_) ?_
 refine pu_ 19 73 m78_ (any_of HT_.out s2_) ?_
 refine pu_ 20 74 m79_ (any_of HT_.out s2_) ?_
 refine pu_ 21 75 m80_ (any_of HT_.out s2_) ?_
 refine take_ (i := 18) (N := some 72) (v := ?_) (a' := ?_) m74_ rfl rfl (take_ofW HT_.out HW_.out s2_) (fun _ _ _ h => h) (Or.inl ⟨by rfl, ?_⟩) hHeld ?_ ?_
 rotate_left
 {
 rintro w' ⟨s0, s1, s2, s3, s4, s5, s6, s7⟩
 go_simp
 with_reducible rfl}
 rotate_left
 · exact p1_
 refine take_ (i := 22) (N := some 76) (v := ?_) (a' := ?_) m75_ rfl rfl (take_ofW HT_.out HW_.out s2_) (fun _ _ _ h => h) (Or.inl ⟨by rfl, ?_⟩) hHeld ?_ ?_
 rotate_left
 {
 rintro w' ⟨s0, s1, s2, s3, s4, s5, s6, s7⟩
 go_simp
 with_reducible rfl}
 rotate_left
 · exact p1_
 refine one_ (i := 23) (N := some 77) m76_ rfl rfl (one_of HT_.out s2_) (by decide) (fun K hK => ?_)
 refine goes_ Try.func72 s2_ rfl #[.slice A182_7 ((rd_T81 l0_0 a0_1).f7).length c182_7, .int .i64 ((rd_T81 l0_0 a0_1).f1)] (by rfl) rfl rfl s3_ ?_
 with_reducible refine (spec_l00Has.calls k _ _ ((rd_T81 l0_0 a0_1).f7) ((rd_T81 l0_0 a0_1).f1) false _ ?side1 ?side2 A21.out).mono ?_
 (case side1 => repeat (first | exact (Kd.C_below HR182_7.out (by repeat (first | (with_reducible first | exact HB.out | apply below_alloc | apply pw_below_drewN | apply below_drew1) | exact HB.out))) | (with_reducible refine Kd.C_alloc ?_ _) | (with_reducible refine Kd.C_drewN ?_ _) | (with_reducible refine Kd.C_drew ?_)))
 (case side2 => exact HC182_7.out)
 rintro e w' ⟨rfl, ⟨nd, rfl⟩⟩
 refine ⟨_, rfl, ?_⟩
 refine hK.out _ _ ⟨((HB.out.cell (World.block_lt_of_cell? w _ hw182_0)).trans hw182_0), ((HB.out.cell (World.block_lt_of_cell? w _ hw182_1)).trans hw182_1), ((HB.out.cell (World.block_lt_of_cell? w _ hw182_2)).trans hw182_2), ((HB.out.cell (World.block_lt_of_cell? w _ hw182_3)).trans hw182_3), ((HB.out.cell (World.block_lt_of_cell? w _ hw182_4)).trans hw182_4), ((HB.out.cell (World.block_lt_of_cell? w _ hw182_5)).trans hw182_5), ((HB.out.cell (World.block_lt_of_cell? w _ hw182_6)).trans hw182_6), ((HB.out.cell (World.block_lt_of_cell? w _ hw182_7)).trans hw182_7)⟩ (fun hHeld => ?_)
 clear hK K
 refine norm_ (a' := ?_) ?_ ?_
 rotate_left
 {
 show Act.put _ (some 77) _ = _
 simp only [Act.put, List.setIfInBounds_toArray, List.set_cons_zero, List.set_cons_succ, i64_w, i32_w]
 rfl}
 refine pu_ 24 78 m77_ (any_of HT_.out s2_) ?_
 refine done_ (done_of HT_.out s2_) ?_
 try go_wp2
 go_ret
 exact ⟨by first | rfl | (simp [errW_none, errW_some] <;> rfl) | (simp [*, errW_none, errW_some] <;> rfl), by repeat (first | (with_reducible first | exact HB.out | apply below_alloc | apply pw_below_drewN | apply below_drew1) | exact HB.out)⟩}
 {
 rw [if_neg c27] at H
 have c27b0 : (((rd_T81 l0_0 a0_1).f3).toList == ([] : List UInt8)) = false := beq_eq_false_iff_ne.mpr c27
 have c27b1 : (((rd_T81 l0_0 a0_1).f3).toList != ([] : List UInt8)) = true := bne_iff_ne.mpr c27
 obtain rfl := Option.some.inj H
 have p174 : 0 ≤ (a0_1 : Int) := of_decide_eq_true (by first | (with_reducible assumption) | assumption)
 have q174 : a0_1 < (l0_0.length : Int) := of_decide_eq_true (by first | (with_reducible assumption) | assumption)
 obtain ⟨ad174, A174_7, c174_7, e174, hx174_0, hx174_1, hx174_2, hx174_3, hx174_4, hx174_5, hx174_6, hx174_7, hl174_7, hi174_7⟩ := at_T81 HR0_0.out a0_1 p174 q174
 (try rw [← Nbq25.out] at hx174_5)
 obtain rfl : adp0_ = ad174 := (by injection e174)
 have HR174_7 := Aside0.mk hi174_7
 have HC174_7 := Aside0.mk hl174_7
 clear hi174_7 hl174_7
 replace p174 := eq_true p174
 replace q174 := eq_true q174
 go_enter Try.func57, Try.ntmps57
 try go_wp2
 have n0_ := Aside0.mk (below_drew1 HB.out)
 clear HB
 have HB := n0_
 clear n0_
 have p175 : 0 ≤ (a0_1 : Int) := of_decide_eq_true (by first | (with_reducible assumption) | assumption)
 have q175 : a0_1 < (l0_0.length : Int) := of_decide_eq_true (by first | (with_reducible assumption) | assumption)
 obtain ⟨ad175, A175_7, c175_7, e175, hx175_0, hx175_1, hx175_2, hx175_3, hx175_4, hx175_5, hx175_6, hx175_7, hl175_7, hi175_7⟩ := at_T81 HR0_0.out a0_1 p175 q175
 have hw175_7 := hx175_7
 have hw175_6 := hx175_6
 have hw175_5 := hx175_5
 (try rw [← Nbq25.out] at hw175_5)
 have hw175_4 := hx175_4
 have hw175_3 := hx175_3
 have hw175_2 := hx175_2
 have hw175_1 := hx175_1
 have hw175_0 := hx175_0
 (try rw [← Nbq25.out] at hx175_5)
 obtain rfl : adp0_ = ad175 := (by injection e175)
 replace hx175_0 := (HB.out.cell (World.block_lt_of_cell? w _ hx175_0)).trans hx175_0
 replace hx175_1 := (HB.out.cell (World.block_lt_of_cell? w _ hx175_1)).trans hx175_1
 replace hx175_2 := (HB.out.cell (World.block_lt_of_cell? w _ hx175_2)).trans hx175_2
 replace hx175_3 := (HB.out.cell (World.block_lt_of_cell? w _ hx175_3)).trans hx175_3
 replace hx175_4 := (HB.out.cell (World.block_lt_of_cell? w _ hx175_4)).trans hx175_4
 replace hx175_5 := (HB.out.cell (World.block_lt_of_cell? w _ hx175_5)).trans hx175_5
 replace hx175_6 := (HB.out.cell (World.block_lt_of_cell? w _ hx175_6)).trans hx175_6
 replace hx175_7 := (HB.out.cell (World.block_lt_of_cell? w _ hx175_7)).trans hx175_7
 have HR175_7 := Aside0.mk hi175_7
 have HC175_7 := Aside0.mk hl175_7
 clear hi175_7 hl175_7
 replace p175 := eq_true p175
 replace q175 := eq_true q175
 refine start_ (n := 51) (S := fun w' => w'.cell? (adp0_.add ((a0_1).toNat * 8)) = some (.int .i64 ((rd_T81 l0_0 a0_1).f0)) ∧ w'.cell? ⟨(adp0_.add ((a0_1).toNat * 8)).block, (adp0_.add ((a0_1).toNat * 8)).off + 1, none⟩ = some (.int .i64 ((rd_T81 l0_0 a0_1).f1)) ∧ w'.cell? ⟨(adp0_.add ((a0_1).toNat * 8)).block, (adp0_.add ((a0_1).toNat * 8)).off + 2, none⟩ = some (.int .i64 ((rd_T81 l0_0 a0_1).f2)) ∧ w'.cell? ⟨(adp0_.add ((a0_1).toNat * 8)).block, (adp0_.add ((a0_1).toNat * 8)).off + 3, none⟩ = some (.string ((rd_T81 l0_0 a0_1).f3)) ∧ w'.cell? ⟨(adp0_.add ((a0_1).toNat * 8)).block, (adp0_.add ((a0_1).toNat * 8)).off + 4, none⟩ = some (.int .i64 ((rd_T81 l0_0 a0_1).f4)) ∧ w'.cell? ⟨(adp0_.add ((a0_1).toNat * 8)).block, (adp0_.add ((a0_1).toNat * 8)).off + 5, none⟩ = some (.bool true) ∧ w'.cell? ⟨(adp0_.add ((a0_1).toNat * 8)).block, (adp0_.add ((a0_1).toNat * 8)).off + 6, none⟩ = some (.int .i64 ((rd_T81 l0_0 a0_1).f6)) ∧ w'.cell? ⟨(adp0_.add ((a0_1).toNat * 8)).block, (adp0_.add ((a0_1).toNat * 8)).off + 7, none⟩ = some (.slice A175_7 ((rd_T81 l0_0 a0_1).f7).length c175_7)) (ds := []) m0_ s2_ rfl rfl ⟨((HB.out.cell (World.block_lt_of_cell? w _ hw175_0)).trans hw175_0), ((HB.out.cell (World.block_lt_of_cell? w _ hw175_1)).trans hw175_1), ((HB.out.cell (World.block_lt_of_cell? w _ hw175_2)).trans hw175_2), ((HB.out.cell (World.block_lt_of_cell? w _ hw175_3)).trans hw175_3), ((HB.out.cell (World.block_lt_of_cell? w _ hw175_4)).trans hw175_4), ((HB.out.cell (World.block_lt_of_cell? w _ hw175_5)).trans hw175_5), ((HB.out.cell (World.block_lt_of_cell? w _ hw175_6)).trans hw175_6), ((HB.out.cell (World.block_lt_of_cell? w _ hw175_7)).trans hw175_7)⟩ (fun hHeld => ?_); refine with_tabW spec_l03Message_v0.tab1 spec_l03Message_v0.bits1 (fun HT_ HW_ => ?_)
 generalize w.drew = w30 at HB HR175_7 hx175_0 hx175_1 hx175_2 hx175_3 hx175_4 hx175_5 hx175_6 hx175_7 hHeld ⊢
 refine pu_ 0 3 m1_ (any_of HT_.out s2_) ?_
 refine pu_ 1 4 m2_ (any_of HT_.out s2_) ?_
 refine pu_ 2 5 m3_ (any_of HT_.out s2_) ?_
 refine take_ (i := 3) (N := some 6) (v := ?_) (a' := ?_) m4_ rfl rfl (take_ofW HT_.out HW_.out s2_) (fun _ _ _ h => h) (Or.inl ⟨by rfl, ?_⟩) hHeld ?_ ?_
 rotate_left
 {
 rintro w' ⟨s0, s1, s2, s3, s4, s5, s6, s7⟩
 go_simp
 with_reducible rfl}
 rotate_left
 · exact p1_
 refine one_ (i := 4) (N := some 7) m5_ rfl rfl (one_of HT_.out s2_) (by decide) (fun K hK => ?_)
 refine goes_ Try.func52 s2_ rfl #[.int .i64 ((rd_T81 l0_0 a0_1).f0), .int .i64 1, .int .i64 1000000000] (by rfl) rfl rfl s3_ ?_
 with_reducible refine (spec_l00In.calls ((rd_T81 l0_0 a0_1).f0) 1 1000000000 true _ A4.out).mono ?_
 rintro e w' ⟨rfl, ⟨nd, rfl⟩⟩
 refine ⟨_, rfl, ?_⟩
 refine hK.out _ _ ⟨((HB.out.cell (World.block_lt_of_cell? w _ hw175_0)).trans hw175_0), ((HB.out.cell (World.block_lt_of_cell? w _ hw175_1)).trans hw175_1), ((HB.out.cell (World.block_lt_of_cell? w _ hw175_2)).trans hw175_2), ((HB.out.cell (World.block_lt_of_cell? w _ hw175_3)).trans hw175_3), ((HB.out.cell (World.block_lt_of_cell? w _ hw175_4)).trans hw175_4), ((HB.out.cell (World.block_lt_of_cell? w _ hw175_5)).trans hw175_5), ((HB.out.cell (World.block_lt_of_cell? w _ hw175_6)).trans hw175_6), ((HB.out.cell (World.block_lt_of_cell? w _ hw175_7)).trans hw175_7)⟩ (fun hHeld => ?_)
 clear hK K
 refine norm_ (a' := ?_) ?_ ?_
 rotate_left
 {
 show Act.put _ (some 7) _ = _
 simp only [Act.put, List.setIfInBounds_toArray, List.set_cons_zero, List.set_cons_succ, i64_w, i32_w]
 rfl}
 refine pu_ 5 8 m6_ (any_of HT_.out s2_) ?_
 refine pu_ 6 9 m7_ (any_of HT_.out s2_) ?_
 refine pu_ 7 10 m8_ (any_of HT_.out s2_) ?_
 refine pu_ 8 11 m9_ (any_of HT_.out s2_) ?_
 refine pu_ 9 12 m10_ (any_of HT_.out s2_) ?_
 refine take_ (i := 10) (N := some 13) (v := ?_) (a' := ?_) m11_ rfl rfl (take_ofW HT_.out HW_.out s2_) (fun _ _ _ h => h) (Or.inl ⟨by rfl, ?_⟩) hHeld ?_ ?_
 rotate_left
 {
 rintro w' ⟨s0, s1, s2, s3, s4, s5, s6, s7⟩
 go_simp
 with_reducible rfl}
 rotate_left
 · exact p1_
 refine one_ (i := 11) (N := some 14) m12_ rfl rfl (one_of HT_.out s2_) (by decide) (fun K hK => ?_)
 refine goes_ Try.func53 s2_ rfl #[.int .i64 ((rd_T81 l0_0 a0_1).f1)] (by rfl) rfl rfl s3_ ?_
 with_reducible refine (spec_l01Member.calls ((rd_T81 l0_0 a0_1).f1) true _ A6.out).mono ?_
 rintro e w' ⟨rfl, ⟨nd, rfl⟩⟩
 refine ⟨_, rfl, ?_⟩
 refine hK.out _ _ ⟨((HB.out.cell (World.block_lt_of_cell? w _ hw175_0)).trans hw175_0), ((HB.out.cell (World.block_lt_of_cell? w _ hw175_1)).trans hw175_1), ((HB.out.cell (World.block_lt_of_cell? w _ hw175_2)).trans hw175_2), ((HB.out.cell (World.block_lt_of_cell? w _ hw175_3)).trans hw175_3), ((HB.out.cell (World.block_lt_of_cell? w _ hw175_4)).trans hw175_4), ((HB.out.cell (World.block_lt_of_cell? w _ hw175_5)).trans hw175_5), ((HB.out.cell (World.block_lt_of_cell? w _ hw175_6)).trans hw175_6), ((HB.out.cell (World.block_lt_of_cell? w _ hw175_7)).trans hw175_7)⟩ (fun hHeld => ?_)
 clear hK K
 refine norm_ (a' := ?_) ?_ ?_
 rotate_left
 {
 show Act.put _ (some 14) _ = _
 simp only [Act.put, List.setIfInBounds_toArray, List.set_cons_zero, List.set_cons_succ, i64_w, i32_w]
 rfl}
 refine pu_ 12 15 m13_ (any_of HT_.out s2_) ?_
 refine pu_ 13 16 m14_ (any_of HT_.out s2_) ?_
 refine pu_ 14 17 m15_ (any_of HT_.out s2_) ?_
 refine pu_ 15 18 m16_ (any_of HT_.out s2_) ?_
 refine pu_ 16 19 m17_ (any_of HT_.out s2_) ?_
 refine pu_ 17 20 m18_ (any_of HT_.out s2_) ?_
 refine take_ (i := 18) (N := some 21) (v := ?_) (a' := ?_) m19_ rfl rfl (take_ofW HT_.out HW_.out s2_) (fun _ _ _ h => h) (Or.inl ⟨by rfl, ?_⟩) hHeld ?_ ?_
 rotate_left
 {
 rintro w' ⟨s0, s1, s2, s3, s4, s5, s6, s7⟩
 go_simp
 with_reducible rfl}
 rotate_left
 · exact p1_
 refine one_ (i := 19) (N := some 22) m20_ rfl rfl (one_of HT_.out s2_) (by decide) (fun K hK => ?_)
 refine goes_ Try.func54 s2_ rfl #[.int .i64 ((rd_T81 l0_0 a0_1).f2)] (by rfl) rfl rfl s3_ ?_
 with_reducible refine (spec_l01Tick.calls ((rd_T81 l0_0 a0_1).f2) true _ A8.out).mono ?_
 rintro e w' ⟨rfl, ⟨nd, rfl⟩⟩
 refine ⟨_, rfl, ?_⟩
 refine hK.out _ _ ⟨((HB.out.cell (World.block_lt_of_cell? w _ hw175_0)).trans hw175_0), ((HB.out.cell (World.block_lt_of_cell? w _ hw175_1)).trans hw175_1), ((HB.out.cell (World.block_lt_of_cell? w _ hw175_2)).trans hw175_2), ((HB.out.cell (World.block_lt_of_cell? w _ hw175_3)).trans hw175_3), ((HB.out.cell (World.block_lt_of_cell? w _ hw175_4)).trans hw175_4), ((HB.out.cell (World.block_lt_of_cell? w _ hw175_5)).trans hw175_5), ((HB.out.cell (World.block_lt_of_cell? w _ hw175_6)).trans hw175_6), ((HB.out.cell (World.block_lt_of_cell? w _ hw175_7)).trans hw175_7)⟩ (fun hHeld => ?_)
 clear hK K
 refine norm_ (a' := ?_) ?_ ?_
 rotate_left
 {
 show Act.put _ (some 22) _ = _
 simp only [Act.put, List.setIfInBounds_toArray, List.set_cons_zero, List.set_cons_succ, i64_w, i32_w]
 rfl}
 refine pu_ 20 23 m21_ (any_of HT_.out s2_) ?_
 refine pu_ 21 24 m22_ (any_of HT_.out s2_) ?_
 refine pu_ 22 25 m23_ (any_of HT_.out s2_) ?_
 refine pu_ 23 26 m24_ (any_of HT_.out s2_) ?_
 refine pu_ 24 27 m25_ (any_of HT_.out s2_) ?_
 refine pu_ 25 28 m26_ (any_of HT_.out s2_) ?_
 refine take_ (i := 26) (N := some 29) (v := ?_) (a' := ?_) m27_ rfl rfl (take_ofW HT_.out HW_.out s2_) (fun _ _ _ h => h) (Or.inl ⟨by rfl, ?_⟩) hHeld ?_ ?_
 rotate_left
 {
 rintro w' ⟨s0, s1, s2, s3, s4, s5, s6, s7⟩
 go_simp
 with_reducible rfl}
 rotate_left
 · exact p1_
 refine one_ (i := 27) (N := some 30) m28_ rfl rfl (one_of HT_.out s2_) (by decide) (fun K hK => ?_)
 refine goes_ Try.func55 s2_ rfl #[.string ((rd_T81 l0_0 a0_1).f3)] (by rfl) rfl rfl s3_ ?_
 with_reducible refine (spec_l01IsText.calls k ((rd_T81 l0_0 a0_1).f3) true _ A10.out).mono ?_
 rintro e w' ⟨rfl, ⟨nd, rfl⟩⟩
 refine ⟨_, rfl, ?_⟩
 refine hK.out _ _ ⟨((HB.out.cell (World.block_lt_of_cell? w _ hw175_0)).trans hw175_0), ((HB.out.cell (World.block_lt_of_cell? w _ hw175_1)).trans hw175_1), ((HB.out.cell (World.block_lt_of_cell? w _ hw175_2)).trans hw175_2), ((HB.out.cell (World.block_lt_of_cell? w _ hw175_3)).trans hw175_3), ((HB.out.cell (World.block_lt_of_cell? w _ hw175_4)).trans hw175_4), ((HB.out.cell (World.block_lt_of_cell? w _ hw175_5)).trans hw175_5), ((HB.out.cell (World.block_lt_of_cell? w _ hw175_6)).trans hw175_6), ((HB.out.cell (World.block_lt_of_cell? w _ hw175_7)).trans hw175_7)⟩ (fun hHeld => ?_)
 clear hK K
 refine norm_ (a' := ?_) ?_ ?_
 rotate_left
 {
 show Act.put _ (some 30) _ = _
 simp only [Act.put, List.setIfInBounds_toArray, List.set_cons_zero, List.set_cons_succ, i64_w, i32_w]
 rfl}
 refine pu_ 28 31 m29_ (any_of HT_.out s2_) ?_
 refine pu_ 29 32 m30_ (any_of HT_.out s2_) ?_
 refine pu_ 30 33 m31_ (any_of HT_.out s2_) ?_
 refine pu_ 31 34 m32_ (any_of HT_.out s2_) ?_
 refine pu_ 32 35 m33_ (any_of HT_.out s2_) ?_
 refine pu_ 33 36 m34_ (any_of HT_.out s2_) ?_
 refine take_ (i := 34) (N := some 37) (v := ?_) (a' := ?_) m35_ rfl rfl (take_ofW HT_.out HW_.out s2_) (fun _ _ _ h => h) (Or.inl ⟨by rfl, ?_⟩) hHeld ?_ ?_
 rotate_left
 {
 rintro w' ⟨s0, s1, s2, s3, s4, s5, s6, s7⟩
 go_simp
 with_reducible rfl}
 rotate_left
 · exact p1_
 refine one_ (i := 35) (N := some 38) m36_ rfl rfl (one_of HT_.out s2_) (by decide) (fun K hK => ?_)
 refine goes_ Try.func52 s2_ rfl #[.int .i64 ((rd_T81 l0_0 a0_1).f4), .int .i64 0, .int .i64 1000000000] (by rfl) rfl rfl s3_ ?_
 with_reducible refine (spec_l00In.calls ((rd_T81 l0_0 a0_1).f4) 0 1000000000 true _ A12.out).mono ?_
 rintro e w' ⟨rfl, ⟨nd, rfl⟩⟩
 refine ⟨_, rfl, ?_⟩
 refine hK.out _ _ ⟨((HB.out.cell (World.block_lt_of_cell? w _ hw175_0)).trans hw175_0), ((HB.out.cell (World.block_lt_of_cell? w _ hw175_1)).trans hw175_1), ((HB.out.cell (World.block_lt_of_cell? w _ hw175_2)).trans hw175_2), ((HB.out.cell (World.block_lt_of_cell? w _ hw175_3)).trans hw175_3), ((HB.out.cell (World.block_lt_of_cell? w _ hw175_4)).trans hw175_4), ((HB.out.cell (World.block_lt_of_cell? w _ hw175_5)).trans hw175_5), ((HB.out.cell (World.block_lt_of_cell? w _ hw175_6)).trans hw175_6), ((HB.out.cell (World.block_lt_of_cell? w _ hw175_7)).trans hw175_7)⟩ (fun hHeld => ?_)
 clear hK K
 refine norm_ (a' := ?_) ?_ ?_
 rotate_left
 {
 show Act.put _ (some 38) _ = _
 simp only [Act.put, List.setIfInBounds_toArray, List.set_cons_zero, List.set_cons_succ, i64_w, i32_w]
 rfl}
 refine pu_ 36 39 m37_ (any_of HT_.out s2_) ?_
 refine pu_ 37 40 m38_ (any_of HT_.out s2_) ?_
 refine pu_ 38 41 m39_ (any_of HT_.out s2_) ?_
 refine pu_ 39 42 m40_ (any_of HT_.out s2_) ?_
 refine pu_ 40 43 m41_ (any_of HT_.out s2_) ?_
 refine pu_ 41 44 m42_ (any_of HT_.out s2_) ?_
 refine pu_ 43 46 m43_ (any_of HT_.out s2_) ?_
 refine pu_ 44 47 m44_ (any_of HT_.out s2_) ?_
 refine pu_ 45 48 m45_ (any_of HT_.out s2_) ?_
 refine take_ (i := 42) (N := some 45) (v := ?_) (a' := ?_) m46_ rfl rfl (take_ofW HT_.out HW_.out s2_) (fun _ _ _ h => h) (Or.inl ⟨by rfl, ?_⟩) hHeld ?_ ?_
 rotate_left
 {
 rintro w' ⟨s0, s1, s2, s3, s4, s5, s6, s7⟩
 go_simp
 with_reducible rfl}
 rotate_left
 · exact p1_
 refine take_ (i := 46) (N := some 49) (v := ?_) (a' := ?_) m47_ rfl rfl (take_ofW HT_.out HW_.out s2_) (fun _ _ _ h => h) (Or.inl ⟨by rfl, ?_⟩) hHeld ?_ ?_
 rotate_left
 {
 rintro w' ⟨s0, s1, s2, s3, s4, s5, s6, s7⟩
 go_simp
 with_reducible rfl}
 rotate_left
 · exact p1_
 refine pu_ 47 50 m48_ (any_of HT_.out s2_) ?_
 refine one_ (i := 48) (N := some 51) m49_ rfl rfl (one_of HT_.out s2_) (by decide) (fun K hK => ?_)
 refine goes_ Try.func52 s2_ rfl #[.int .i64 ((rd_T81 l0_0 a0_1).f6), .int .i64 0, .int .i64 (wrap64 (((rd_T81 l0_0 a0_1).f0) - 1))] (by rfl) rfl rfl s3_ ?_
 with_reducible refine (spec_l00In.calls ((rd_T81 l0_0 a0_1).f6) 0 (wrap64 (((rd_T81 l0_0 a0_1).f0) - 1)) true _ A14.out).mono ?_
 rintro e w' ⟨rfl, ⟨nd, rfl⟩⟩
 refine ⟨_, rfl, ?_⟩
 refine hK.out _ _ ⟨((HB.out.cell (World.block_lt_of_cell? w _ hw175_0)).trans hw175_0), ((HB.out.cell (World.block_lt_of_cell? w _ hw175_1)).trans hw175_1), ((HB.out.cell (World.block_lt_of_cell? w _ hw175_2)).trans hw175_2), ((HB.out.cell (World.block_lt_of_cell? w _ hw175_3)).trans hw175_3), ((HB.out.cell (World.block_lt_of_cell? w _ hw175_4)).trans hw175_4), ((HB.out.cell (World.block_lt_of_cell? w _ hw175_5)).trans hw175_5), ((HB.out.cell (World.block_lt_of_cell? w _ hw175_6)).trans hw175_6), ((HB.out.cell (World.block_lt_of_cell? w _ hw175_7)).trans hw175_7)⟩ (fun hHeld => ?_)
 clear hK K
 refine norm_ (a' := ?_) ?_ ?_
 rotate_left
 {
 show Act.put _ (some 51) _ = _
 simp only [Act.put, List.setIfInBounds_toArray, List.set_cons_zero, List.set_cons_succ, i64_w, i32_w]
 rfl}
 refine pu_ 49 52 m50_ (any_of HT_.out s2_) ?_
 refine pu_ 50 53 m51_ (any_of HT_.out s2_) ?_
 refine done_ (done_of HT_.out s2_) ?_
 try go_wp2
 (try (rw [drewN_self w30]; generalize hq_ : World.drewN w30 _ = w30; have n0_ : Aside0 (Below w.heap.size w w30) := ⟨by rw [← hq_]; exact (by repeat (first | (with_reducible first | exact HB.out | apply below_alloc | apply pw_below_drewN | apply below_drew1) | exact HB.out))⟩; clear HB hq_; have HB := n0_; clear n0_))
 have n0_ := Aside0.mk (below_drew1 HB.out)
 clear HB
 have HB := n0_
 clear n0_
 have p182 : 0 ≤ (a0_1 : Int) := of_decide_eq_true (by first | (with_reducible assumption) | assumption)
 have q182 : a0_1 < (l0_0.length : Int) := of_decide_eq_true (by first | (with_reducible assumption) | assumption)
 obtain ⟨ad182, A182_7, c182_7, e182, hx182_0, hx182_1, hx182_2, hx182_3, hx182_4, hx182_5, hx182_6, hx182_7, hl182_7, hi182_7⟩ := at_T81 HR0_0.out a0_1 p182 q182
 have hw182_7 := hx182_7
 have hw182_6 := hx182_6
 have hw182_5 := hx182_5
 (try rw [← Nbq25.out] at hw182_5)
 have hw182_4 := hx182_4
 have hw182_3 := hx182_3
 have hw182_2 := hx182_2
 have hw182_1 := hx182_1
 have hw182_0 := hx182_0
 (try rw [← Nbq25.out] at hx182_5)
 obtain rfl : adp0_ = ad182 := (by injection e182)
 replace hx182_0 := (HB.out.cell (World.block_lt_of_cell? w _ hx182_0)).trans hx182_0
 replace hx182_1 := (HB.out.cell (World.block_lt_of_cell? w _ hx182_1)).trans hx182_1
 replace hx182_2 := (HB.out.cell (World.block_lt_of_cell? w _ hx182_2)).trans hx182_2
 replace hx182_3 := (HB.out.cell (World.block_lt_of_cell? w _ hx182_3)).trans hx182_3
 replace hx182_4 := (HB.out.cell (World.block_lt_of_cell? w _ hx182_4)).trans hx182_4
 replace hx182_5 := (HB.out.cell (World.block_lt_of_cell? w _ hx182_5)).trans hx182_5
 replace hx182_6 := (HB.out.cell (World.block_lt_of_cell? w _ hx182_6)).trans hx182_6
 replace hx182_7 := (HB.out.cell (World.block_lt_of_cell? w _ hx182_7)).trans hx182_7
 have HR182_7 := Aside0.mk hi182_7
 have HC182_7 := Aside0.mk hl182_7
 clear hi182_7 hl182_7
 replace p182 := eq_true p182
 replace q182 := eq_true q182
 refine start_ (n := 25) (S := fun w' => w'.cell? (adp0_.add ((a0_1).toNat * 8)) = some (.int .i64 ((rd_T81 l0_0 a0_1).f0)) ∧ w'.cell? ⟨(adp0_.add ((a0_1).toNat * 8)).block, (adp0_.add ((a0_1).toNat * 8)).off + 1, none⟩ = some (.int .i64 ((rd_T81 l0_0 a0_1).f1)) ∧ w'.cell? ⟨(adp0_.add ((a0_1).toNat * 8)).block, (adp0_.add ((a0_1).toNat * 8)).off + 2, none⟩ = some (.int .i64 ((rd_T81 l0_0 a0_1).f2)) ∧ w'.cell? ⟨(adp0_.add ((a0_1).toNat * 8)).block, (adp0_.add ((a0_1).toNat * 8)).off + 3, none⟩ = some (.string ((rd_T81 l0_0 a0_1).f3)) ∧ w'.cell? ⟨(adp0_.add ((a0_1).toNat * 8)).block, (adp0_.add ((a0_1).toNat * 8)).off + 4, none⟩ = some (.int .i64 ((rd_T81 l0_0 a0_1).f4)) ∧ w'.cell? ⟨(adp0_.add ((a0_1).toNat * 8)).block, (adp0_.add ((a0_1).toNat * 8)).off + 5, none⟩ = some (.bool true) ∧ w'.cell? ⟨(adp0_.add ((a0_1).toNat * 8)).block, (adp0_.add ((a0_1).toNat * 8)).off + 6, none⟩ = some (.int .i64 ((rd_T81 l0_0 a0_1).f6)) ∧ w'.cell? ⟨(adp0_.add ((a0_1).toNat * 8)).block, (adp0_.add ((a0_1).toNat * 8)).off + 7, none⟩ = some (.slice A182_7 ((rd_T81 l0_0 a0_1).f7).length c182_7)) (ds := []) m52_ s2_ rfl rfl ⟨((HB.out.cell (World.block_lt_of_cell? w _ hw182_0)).trans hw182_0), ((HB.out.cell (World.block_lt_of_cell? w _ hw182_1)).trans hw182_1), ((HB.out.cell (World.block_lt_of_cell? w _ hw182_2)).trans hw182_2), ((HB.out.cell (World.block_lt_of_cell? w _ hw182_3)).trans hw182_3), ((HB.out.cell (World.block_lt_of_cell? w _ hw182_4)).trans hw182_4), ((HB.out.cell (World.block_lt_of_cell? w _ hw182_5)).trans hw182_5), ((HB.out.cell (World.block_lt_of_cell? w _ hw182_6)).trans hw182_6), ((HB.out.cell (World.block_lt_of_cell? w _ hw182_7)).trans hw182_7)⟩ (fun hHeld => ?_); refine with_tabW spec_l03Message_v0.tab3 spec_l03Message_v0.bits3 (fun HT_ HW_ => ?_)
 generalize w30.drew = w31 at HB HR182_7 hx182_0 hx182_1 hx182_2 hx182_3 hx182_4 hx182_5 hx182_6 hx182_7 hHeld ⊢
 refine pu_ 0 54 m53_ (any_of HT_.out s2_) ?_
 refine pu_ 1 55 m54_ (any_of HT_.out s2_) ?_
 refine pu_ 2 56 m55_ (any_of HT_.out s2_) ?_
 refine take_ (i := 3) (N := some 57) (v := ?_) (a' := ?_) m56_ rfl rfl (take_ofW HT_.out HW_.out s2_) (fun _ _ _ h => h) (Or.inl ⟨by rfl, ?_⟩) hHeld ?_ ?_
 rotate_left
 {
 rintro w' ⟨s0, s1, s2, s3, s4, s5, s6, s7⟩
 go_simp
 with_reducible rfl}
 rotate_left
 · exact p1_
 refine pu_ 4 58 m57_ (any_of HT_.out s2_) ?_
 refine pu_ 5 59 m58_ (any_of HT_.out s2_) ?_
 refine pu_ 6 60 m59_ (any_of HT_.out s2_) ?_
 refine pu_ 7 61 m60_ (any_of HT_.out s2_) ?_
 refine pu_ 8 62 m61_ (any_of HT_.out s2_) ?_
 refine pu_ 9 63 m62_ (any_of HT_.out s2_) ?_
 refine take_ (i := 10) (N := some 64) (v := ?_) (a' := ?_) m63_ rfl rfl (take_ofW HT_.out HW_.out s2_) (fun _ _ _ h => h) (Or.inl ⟨by rfl, ?_⟩) hHeld ?_ ?_
 rotate_left
 {
 rintro w' ⟨s0, s1, s2, s3, s4, s5, s6, s7⟩
 go_simp
 with_reducible rfl}
 rotate_left
 · exact p1_
 refine one_ (i := 11) (N := some 65) m64_ rfl rfl (one_of HT_.out s2_) (by decide) (fun K hK => ?_)
 refine goes_ Try.func71 s2_ rfl #[.slice A182_7 ((rd_T81 l0_0 a0_1).f7).length c182_7] (by rfl) rfl rfl s3_ ?_
 with_reducible refine (spec_l01Members.calls k _ _ ((rd_T81 l0_0 a0_1).f7) true _ ?side1 ?side2 A19.out).mono ?_
 (case side1 => repeat (first | exact (Kd.C_below HR182_7.out HB.out) | (with_reducible refine Kd.C_alloc ?_ _) | (with_reducible refine Kd.C_drewN ?_ _) | (with_reducible refine Kd.C_drew ?_)))
 (case side2 => exact HC182_7.out)
 rintro e w' ⟨rfl, ⟨nd, rfl⟩⟩
 refine ⟨_, rfl, ?_⟩
 refine hK.out _ _ ⟨((HB.out.cell (World.block_lt_of_cell? w _ hw182_0)).trans hw182_0), ((HB.out.cell (World.block_lt_of_cell? w _ hw182_1)).trans hw182_1), ((HB.out.cell (World.block_lt_of_cell? w _ hw182_2)).trans hw182_2), ((HB.out.cell (World.block_lt_of_cell? w _ hw182_3)).trans hw182_3), ((HB.out.cell (World.block_lt_of_cell? w _ hw182_4)).trans hw182_4), ((HB.out.cell (World.block_lt_of_cell? w _ hw182_5)).trans hw182_5), ((HB.out.cell (World.block_lt_of_cell? w _ hw182_6)).trans hw182_6), ((HB.out.cell (World.block_lt_of_cell? w _ hw182_7)).trans hw182_7)⟩ (fun hHeld => ?_)
 clear hK K
 refine norm_ (a' := ?_) ?_ ?_
 rotate_left
 {
 show Act.put _ (some 65) _ = _
 simp only [Act.put, List.setIfInBounds_toArray, List.set_cons_zero, List.set_cons_succ, i64_w, i32_w]
 rfl}
 refine pu_ 12 66 m65_ (any_of HT_.out s2_) ?_
 refine pu_ 13 67 m66_ (any_of HT_.out s2_) ?_
 refine pu_ 14 68 m67_ (any_of HT_.out s2_) ?_
 refine pu_ 15 69 m68_ (any_of HT_.out s2_) ?_
 refine pu_ 16 70 m69_ (any_of HT_.out s2_) ?_
 refine pu_ 17 71 m70_ (any_of HT_.out s2_) ?_
 refine pu_ 19 73 m78_ (any_of HT_.out s2_) ?_
 refine pu_ 20 74 m79_ (any_of HT_.out s2_) ?_
 refine pu_ 21 75 m80_ (any_of HT_.out s2_) ?_
 refine take_ (i := 18) (N := some 72) (v := ?_) (a' := ?_) m74_ rfl rfl (take_ofW HT_.out HW_.out s2_) (fun _ _ _ h => h) (Or.inl ⟨by rfl, ?_⟩) hHeld ?_ ?_
 rotate_left
 {
 rintro w' ⟨s0, s1, s2, s3, s4, s5, s6, s7⟩
 go_simp
 with_reducible rfl}
 rotate_left
 · exact p1_
 refine take_ (i := 22) (N := some 76) (v := ?_) (a' := ?_) m75_ rfl rfl (take_ofW HT_.out HW_.out s2_) (fun _ _ _ h => h) (Or.inl ⟨by rfl, ?_⟩) hHeld ?_ ?_
 rotate_left
 {
 rintro w' ⟨s0, s1, s2, s3, s4, s5, s6, s7⟩
 go_simp
 with_reducible rfl}
 rotate_left
 · exact p1_
 refine one_ (i := 23) (N := some 77) m76_ rfl rfl (one_of HT_.out s2_) (by decide) (fun K hK => ?_)
 refine goes_ Try.func72 s2_ rfl #[.slice A182_7 ((rd_T81 l0_0 a0_1).f7).length c182_7, .int .i64 ((rd_T81 l0_0 a0_1).f1)] (by rfl) rfl rfl s3_ ?_
 with_reducible refine (spec_l00Has.calls k _ _ ((rd_T81 l0_0 a0_1).f7) ((rd_T81 l0_0 a0_1).f1) false _ ?side1 ?side2 A21.out).mono ?_
 (case side1 => repeat (first | exact (Kd.C_below HR182_7.out (by repeat (first | (with_reducible first | exact HB.out | apply below_alloc | apply pw_below_drewN | apply below_drew1) | exact HB.out))) | (with_reducible refine Kd.C_alloc ?_ _) | (with_reducible refine Kd.C_drewN ?_ _) | (with_reducible refine Kd.C_drew ?_)))
 (case side2 => exact HC182_7.out)
 rintro e w' ⟨rfl, ⟨nd, rfl⟩⟩
 refine ⟨_, rfl, ?_⟩
 refine hK.out _ _ ⟨((HB.out.cell (World.block_lt_of_cell? w _ hw182_0)).trans hw182_0), ((HB.out.cell (World.block_lt_of_cell? w _ hw182_1)).trans hw182_1), ((HB.out.cell (World.block_lt_of_cell? w _ hw182_2)).trans hw182_2), ((HB.out.cell (World.block_lt_of_cell? w _ hw182_3)).trans hw182_3), ((HB.out.cell (World.block_lt_of_cell? w _ hw182_4)).trans hw182_4), ((HB.out.cell (World.block_lt_of_cell? w _ hw182_5)).trans hw182_5), ((HB.out.cell (World.block_lt_of_cell? w _ hw182_6)).trans hw182_6), ((HB.out.cell (World.block_lt_of_cell? w _ hw182_7)).trans hw182_7)⟩ (fun hHeld => ?_)
 clear hK K
 refine norm_ (a' := ?_) ?_ ?_
 rotate_left
 {
 show Act.put _ (some 77) _ = _
 simp only [Act.put, List.setIfInBounds_toArray, List.set_cons_zero, List.set_cons_succ, i64_w, i32_w]
 rfl}
 refine pu_ 24 78 m77_ (any_of HT_.out s2_) ?_
 refine done_ (done_of HT_.out s2_) ?_
 try go_wp2
 go_ret
 exact ⟨by first | rfl | (simp [errW_none, errW_some] <;> rfl) | (simp [*, errW_none, errW_some] <;> rfl), by repeat (first | (with_reducible first | exact HB.out | apply below_alloc | apply pw_below_drewN | apply below_drew1) | exact HB.out)⟩}}
 {
 replace c26 := Bool.eq_false_iff.mpr c26
 subst c26
 have H1 : (some true) = some r := by rw [if_neg (show ¬ (false = true) by decide)] at H; exact H
 clear H
 have H := H1
 clear H1
 obtain rfl := Option.some.inj H
 have p174 : 0 ≤ (a0_1 : Int) := of_decide_eq_true (by first | (with_reducible assumption) | assumption)
 have q174 : a0_1 < (l0_0.length : Int) := of_decide_eq_true (by first | (with_reducible assumption) | assumption)
 obtain ⟨ad174, A174_7, c174_7, e174, hx174_0, hx174_1, hx174_2, hx174_3, hx174_4, hx174_5, hx174_6, hx174_7, hl174_7, hi174_7⟩ := at_T81 HR0_0.out a0_1 p174 q174
 (try rw [← Nbq25.out] at hx174_5)
 obtain rfl : adp0_ = ad174 := (by injection e174)
 have HR174_7 := Aside0.mk hi174_7
 have HC174_7 := Aside0.mk hl174_7
 clear hi174_7 hl174_7
 replace p174 := eq_true p174
 replace q174 := eq_true q174
 go_enter Try.func57, Try.ntmps57
 try go_wp2
 have n0_ := Aside0.mk (below_drew1 HB.out)
 clear HB
 have HB := n0_
 clear n0_
 have p175 : 0 ≤ (a0_1 : Int) := of_decide_eq_true (by first | (with_reducible assumption) | assumption)
 have q175 : a0_1 < (l0_0.length : Int) := of_decide_eq_true (by first | (with_reducible assumption) | assumption)
 obtain ⟨ad175, A175_7, c175_7, e175, hx175_0, hx175_1, hx175_2, hx175_3, hx175_4, hx175_5, hx175_6, hx175_7, hl175_7, hi175_7⟩ := at_T81 HR0_0.out a0_1 p175 q175
 have hw175_7 := hx175_7
 have hw175_6 := hx175_6
 have hw175_5 := hx175_5
 (try rw [← Nbq25.out] at hw175_5)
 have hw175_4 := hx175_4
 have hw175_3 := hx175_3
 have hw175_2 := hx175_2
 have hw175_1 := hx175_1
 have hw175_0 := hx175_0
 (try rw [← Nbq25.out] at hx175_5)
 obtain rfl : adp0_ = ad175 := (by injection e175)
 replace hx175_0 := (HB.out.cell (World.block_lt_of_cell? w _ hx175_0)).trans hx175_0
 replace hx175_1 := (HB.out.cell (World.block_lt_of_cell? w _ hx175_1)).trans hx175_1
 replace hx175_2 := (HB.out.cell (World.block_lt_of_cell? w _ hx175_2)).trans hx175_2
 replace hx175_3 := (HB.out.cell (World.block_lt_of_cell? w _ hx175_3)).trans hx175_3
 replace hx175_4 := (HB.out.cell (World.block_lt_of_cell? w _ hx175_4)).trans hx175_4
 replace hx175_5 := (HB.out.cell (World.block_lt_of_cell? w _ hx175_5)).trans hx175_5
 replace hx175_6 := (HB.out.cell (World.block_lt_of_cell? w _ hx175_6)).trans hx175_6
 replace hx175_7 := (HB.out.cell (World.block_lt_of_cell? w _ hx175_7)).trans hx175_7
 have HR175_7 := Aside0.mk hi175_7
 have HC175_7 := Aside0.mk hl175_7
 clear hi175_7 hl175_7
 replace p175 := eq_true p175
 replace q175 := eq_true q175
 refine start_ (n := 51) (S := fun w' => w'.cell? (adp0_.add ((a0_1).toNat * 8)) = some (.int .i64 ((rd_T81 l0_0 a0_1).f0)) ∧ w'.cell? ⟨(adp0_.add ((a0_1).toNat * 8)).block, (adp0_.add ((a0_1).toNat * 8)).off + 1, none⟩ = some (.int .i64 ((rd_T81 l0_0 a0_1).f1)) ∧ w'.cell? ⟨(adp0_.add ((a0_1).toNat * 8)).block, (adp0_.add ((a0_1).toNat * 8)).off + 2, none⟩ = some (.int .i64 ((rd_T81 l0_0 a0_1).f2)) ∧ w'.cell? ⟨(adp0_.add ((a0_1).toNat * 8)).block, (adp0_.add ((a0_1).toNat * 8)).off + 3, none⟩ = some (.string ((rd_T81 l0_0 a0_1).f3)) ∧ w'.cell? ⟨(adp0_.add ((a0_1).toNat * 8)).block, (adp0_.add ((a0_1).toNat * 8)).off + 4, none⟩ = some (.int .i64 ((rd_T81 l0_0 a0_1).f4)) ∧ w'.cell? ⟨(adp0_.add ((a0_1).toNat * 8)).block, (adp0_.add ((a0_1).toNat * 8)).off + 5, none⟩ = some (.bool false) ∧ w'.cell? ⟨(adp0_.add ((a0_1).toNat * 8)).block, (adp0_.add ((a0_1).toNat * 8)).off + 6, none⟩ = some (.int .i64 ((rd_T81 l0_0 a0_1).f6)) ∧ w'.cell? ⟨(adp0_.add ((a0_1).toNat * 8)).block, (adp0_.add ((a0_1).toNat * 8)).off + 7, none⟩ = some (.slice A175_7 ((rd_T81 l0_0 a0_1).f7).length c175_7)) (ds := []) m0_ s2_ rfl rfl ⟨((HB.out.cell (World.block_lt_of_cell? w _ hw175_0)).trans hw175_0), ((HB.out.cell (World.block_lt_of_cell? w _ hw175_1)).trans hw175_1), ((HB.out.cell (World.block_lt_of_cell? w _ hw175_2)).trans hw175_2), ((HB.out.cell (World.block_lt_of_cell? w _ hw175_3)).trans hw175_3), ((HB.out.cell (World.block_lt_of_cell? w _ hw175_4)).trans hw175_4), ((HB.out.cell (World.block_lt_of_cell? w _ hw175_5)).trans hw175_5), ((HB.out.cell (World.block_lt_of_cell? w _ hw175_6)).trans hw175_6), ((HB.out.cell (World.block_lt_of_cell? w _ hw175_7)).trans hw175_7)⟩ (fun hHeld => ?_); refine with_tabW spec_l03Message_v0.tab1 spec_l03Message_v0.bits1 (fun HT_ HW_ => ?_)
 generalize w.drew = w32 at HB HR175_7 hx175_0 hx175_1 hx175_2 hx175_3 hx175_4 hx175_5 hx175_6 hx175_7 hHeld ⊢
 refine pu_ 0 3 m1_ (any_of HT_.out s2_) ?_
 refine pu_ 1 4 m2_ (any_of HT_.out s2_) ?_
 refine pu_ 2 5 m3_ (any_of HT_.out s2_) ?_
 refine take_ (i := 3) (N := some 6) (v := ?_) (a' := ?_) m4_ rfl rfl (take_ofW HT_.out HW_.out s2_) (fun _ _ _ h => h) (Or.inl ⟨by rfl, ?_⟩) hHeld ?_ ?_
 rotate_left
 {
 rintro w' ⟨s0, s1, s2, s3, s4, s5, s6, s7⟩
 go_simp
 with_reducible rfl}
 rotate_left
 · exact p1_
 refine one_ (i := 4) (N := some 7) m5_ rfl rfl (one_of HT_.out s2_) (by decide) (fun K hK => ?_)
 refine goes_ Try.func52 s2_ rfl #[.int .i64 ((rd_T81 l0_0 a0_1).f0), .int .i64 1, .int .i64 1000000000] (by rfl) rfl rfl s3_ ?_
 with_reducible refine (spec_l00In.calls ((rd_T81 l0_0 a0_1).f0) 1 1000000000 true _ A4.out).mono ?_
 rintro e w' ⟨rfl, ⟨nd, rfl⟩⟩
 refine ⟨_, rfl, ?_⟩
 refine hK.out _ _ ⟨((HB.out.cell (World.block_lt_of_cell? w _ hw175_0)).trans hw175_0), ((HB.out.cell (World.block_lt_of_cell? w _ hw175_1)).trans hw175_1), ((HB.out.cell (World.block_lt_of_cell? w _ hw175_2)).trans hw175_2), ((HB.out.cell (World.block_lt_of_cell? w _ hw175_3)).trans hw175_3), ((HB.out.cell (World.block_lt_of_cell? w _ hw175_4)).trans hw175_4), ((HB.out.cell (World.block_lt_of_cell? w _ hw175_5)).trans hw175_5), ((HB.out.cell (World.block_lt_of_cell? w _ hw175_6)).trans hw175_6), ((HB.out.cell (World.block_lt_of_cell? w _ hw175_7)).trans hw175_7)⟩ (fun hHeld => ?_)
 clear hK K
 refine norm_ (a' := ?_) ?_ ?_
 rotate_left
 {
 show Act.put _ (some 7) _ = _
 simp only [Act.put, List.setIfInBounds_toArray, List.set_cons_zero, List.set_cons_succ, i64_w, i32_w]
 rfl}
 refine pu_ 5 8 m6_ (any_of HT_.out s2_) ?_
 refine pu_ 6 9 m7_ (any_of HT_.out s2_) ?_
 refine pu_ 7 10 m8_ (any_of HT_.out s2_) ?_
 refine pu_ 8 11 m9_ (any_of HT_.out s2_) ?_
 refine pu_ 9 12 m10_ (any_of HT_.out s2_) ?_
 refine take_ (i := 10) (N := some 13) (v := ?_) (a' := ?_) m11_ rfl rfl (take_ofW HT_.out HW_.out s2_) (fun _ _ _ h => h) (Or.inl ⟨by rfl, ?_⟩) hHeld ?_ ?_
 rotate_left
 {
 rintro w' ⟨s0, s1, s2, s3, s4, s5, s6, s7⟩
 go_simp
 with_reducible rfl}
 rotate_left
 · exact p1_
 refine one_ (i := 11) (N := some 14) m12_ rfl rfl (one_of HT_.out s2_) (by decide) (fun K hK => ?_)
 refine goes_ Try.func53 s2_ rfl #[.int .i64 ((rd_T81 l0_0 a0_1).f1)] (by rfl) rfl rfl s3_ ?_
 with_reducible refine (spec_l01Member.calls ((rd_T81 l0_0 a0_1).f1) true _ A6.out).mono ?_
 rintro e w' ⟨rfl, ⟨nd, rfl⟩⟩
 refine ⟨_, rfl, ?_⟩
 refine hK.out _ _ ⟨((HB.out.cell (World.block_lt_of_cell? w _ hw175_0)).trans hw175_0), ((HB.out.cell (World.block_lt_of_cell? w _ hw175_1)).trans hw175_1), ((HB.out.cell (World.block_lt_of_cell? w _ hw175_2)).trans hw175_2), ((HB.out.cell (World.block_lt_of_cell? w _ hw175_3)).trans hw175_3), ((HB.out.cell (World.block_lt_of_cell? w _ hw175_4)).trans hw175_4), ((HB.out.cell (World.block_lt_of_cell? w _ hw175_5)).trans hw175_5), ((HB.out.cell (World.block_lt_of_cell? w _ hw175_6)).trans hw175_6), ((HB.out.cell (World.block_lt_of_cell? w _ hw175_7)).trans hw175_7)⟩ (fun hHeld => ?_)
 clear hK K
 refine norm_ (a' := ?_) ?_ ?_
 rotate_left
 {
 show Act.put _ (some 14) _ = _
 simp only [Act.put, List.setIfInBounds_toArray, List.set_cons_zero, List.set_cons_succ, i64_w, i32_w]
 rfl}
 refine pu_ 12 15 m13_ (any_of HT_.out s2_) ?_
 refine pu_ 13 16 m14_ (any_of HT_.out s2_) ?_
 refine pu_ 14 17 m15_ (any_of HT_.out s2_) ?_
 refine pu_ 15 18 m16_ (any_of HT_.out s2_) ?_
 refine pu_ 16 19 m17_ (any_of HT_.out s2_) ?_
 refine pu_ 17 20 m18_ (any_of HT_.out s2_) ?_
 refine take_ (i := 18) (N := some 21) (v := ?_) (a' := ?_) m19_ rfl rfl (take_ofW HT_.out HW_.out s2_) (fun _ _ _ h => h) (Or.inl ⟨by rfl, ?_⟩) hHeld ?_ ?_
 rotate_left
 {
 rintro w' ⟨s0, s1, s2, s3, s4, s5, s6, s7⟩
 go_simp
 with_reducible rfl}
 rotate_left
 · exact p1_
 refine one_ (i := 19) (N := some 22) m20_ rfl rfl (one_of HT_.out s2_) (by decide) (fun K hK => ?_)
 refine goes_ Try.func54 s2_ rfl #[.int .i64 ((rd_T81 l0_0 a0_1).f2)] (by rfl) rfl rfl s3_ ?_
 with_reducible refine (spec_l01Tick.calls ((rd_T81 l0_0 a0_1).f2) true _ A8.out).mono ?_
 rintro e w' ⟨rfl, ⟨nd, rfl⟩⟩
 refine ⟨_, rfl, ?_⟩
 refine hK.out _ _ ⟨((HB.out.cell (World.block_lt_of_cell? w _ hw175_0)).trans hw175_0), ((HB.out.cell (World.block_lt_of_cell? w _ hw175_1)).trans hw175_1), ((HB.out.cell (World.block_lt_of_cell? w _ hw175_2)).trans hw175_2), ((HB.out.cell (World.block_lt_of_cell? w _ hw175_3)).trans hw175_3), ((HB.out.cell (World.block_lt_of_cell? w _ hw175_4)).trans hw175_4), ((HB.out.cell (World.block_lt_of_cell? w _ hw175_5)).trans hw175_5), ((HB.out.cell (World.block_lt_of_cell? w _ hw175_6)).trans hw175_6), ((HB.out.cell (World.block_lt_of_cell? w _ hw175_7)).trans hw175_7)⟩ (fun hHeld => ?_)
 clear hK K
 refine norm_ (a' := ?_) ?_ ?_
 rotate_left
 {
 show Act.put _ (some 22) _ = _
 simp only [Act.put, List.setIfInBounds_toArray, List.set_cons_zero, List.set_cons_succ, i64_w, i32_w]
 rfl}
 refine pu_ 20 23 m21_ (any_of HT_.out s2_) ?_
 refine pu_ 21 24 m22_ (any_of HT_.out s2_) ?_
 refine pu_ 22 25 m23_ (any_of HT_.out s2_) ?_
 refine pu_ 23 26 m24_ (any_of HT_.out s2_) ?_
 refine pu_ 24 27 m25_ (any_of HT_.out s2_) ?_
 refine pu_ 25 28 m26_ (any_of HT_.out s2_) ?_
 refine take_ (i := 26) (N := some 29) (v := ?_) (a' := ?_) m27_ rfl rfl (take_ofW HT_.out HW_.out s2_) (fun _ _ _ h => h) (Or.inl ⟨by rfl, ?_⟩) hHeld ?_ ?_
 rotate_left
 {
 rintro w' ⟨s0, s1, s2, s3, s4, s5, s6, s7⟩
 go_simp
 with_reducible rfl}
 rotate_left
 · exact p1_
 refine one_ (i := 27) (N := some 30) m28_ rfl rfl (one_of HT_.out s2_) (by decide) (fun K hK => ?_)
 refine goes_ Try.func55 s2_ rfl #[.string ((rd_T81 l0_0 a0_1).f3)] (by rfl) rfl rfl s3_ ?_
 with_reducible refine (spec_l01IsText.calls k ((rd_T81 l0_0 a0_1).f3) true _ A10.out).mono ?_
 rintro e w' ⟨rfl, ⟨nd, rfl⟩⟩
 refine ⟨_, rfl, ?_⟩
 refine hK.out _ _ ⟨((HB.out.cell (World.block_lt_of_cell? w _ hw175_0)).trans hw175_0), ((HB.out.cell (World.block_lt_of_cell? w _ hw175_1)).trans hw175_1), ((HB.out.cell (World.block_lt_of_cell? w _ hw175_2)).trans hw175_2), ((HB.out.cell (World.block_lt_of_cell? w _ hw175_3)).trans hw175_3), ((HB.out.cell (World.block_lt_of_cell? w _ hw175_4)).trans hw175_4), ((HB.out.cell (World.block_lt_of_cell? w _ hw175_5)).trans hw175_5), ((HB.out.cell (World.block_lt_of_cell? w _ hw175_6)).trans hw175_6), ((HB.out.cell (World.block_lt_of_cell? w _ hw175_7)).trans hw175_7)⟩ (fun hHeld => ?_)
 clear hK K
 refine norm_ (a' := ?_) ?_ ?_
 rotate_left
 {
 show Act.put _ (some 30) _ = _
 simp only [Act.put, List.setIfInBounds_toArray, List.set_cons_zero, List.set_cons_succ, i64_w, i32_w]
 rfl}
 refine pu_ 28 31 m29_ (any_of HT_.out s2_) ?_
 refine pu_ 29 32 m30_ (any_of HT_.out s2_) ?_
 refine pu_ 30 33 m31_ (any_of HT_.out s2_) ?_
 refine pu_ 31 34 m32_ (any_of HT_.out s2_) ?_
 refine pu_ 32 35 m33_ (any_of HT_.out s2_) ?_
 refine pu_ 33 36 m34_ (any_of HT_.out s2_) ?_
 refine take_ (i := 34) (N := some 37) (v := ?_) (a' := ?_) m35_ rfl rfl (take_ofW HT_.out HW_.out s2_) (fun _ _ _ h => h) (Or.inl ⟨by rfl, ?_⟩) hHeld ?_ ?_
 rotate_left
 {
 rintro w' ⟨s0, s1, s2, s3, s4, s5, s6, s7⟩
 go_simp
 with_reducible rfl}
 rotate_left
 · exact p1_
 refine one_ (i := 35) (N := some 38) m36_ rfl rfl (one_of HT_.out s2_) (by decide) (fun K hK => ?_)
 refine goes_ Try.func52 s2_ rfl #[.int .i64 ((rd_T81 l0_0 a0_1).f4), .int .i64 0, .int .i64 1000000000] (by rfl) rfl rfl s3_ ?_
 with_reducible refine (spec_l00In.calls ((rd_T81 l0_0 a0_1).f4) 0 1000000000 true _ A12.out).mono ?_
 rintro e w' ⟨rfl, ⟨nd, rfl⟩⟩
 refine ⟨_, rfl, ?_⟩
 refine hK.out _ _ ⟨((HB.out.cell (World.block_lt_of_cell? w _ hw175_0)).trans hw175_0), ((HB.out.cell (World.block_lt_of_cell? w _ hw175_1)).trans hw175_1), ((HB.out.cell (World.block_lt_of_cell? w _ hw175_2)).trans hw175_2), ((HB.out.cell (World.block_lt_of_cell? w _ hw175_3)).trans hw175_3), ((HB.out.cell (World.block_lt_of_cell? w _ hw175_4)).trans hw175_4), ((HB.out.cell (World.block_lt_of_cell? w _ hw175_5)).trans hw175_5), ((HB.out.cell (World.block_lt_of_cell? w _ hw175_6)).trans hw175_6), ((HB.out.cell (World.block_lt_of_cell? w _ hw175_7)).trans hw175_7)⟩ (fun hHeld => ?_)
 clear hK K
 refine norm_ (a' := ?_) ?_ ?_
 rotate_left
 {
 show Act.put _ (some 38) _ = _
 simp only [Act.put, List.setIfInBounds_toArray, List.set_cons_zero, List.set_cons_succ, i64_w, i32_w]
 rfl}
 refine pu_ 36 39 m37_ (any_of HT_.out s2_) ?_
 refine pu_ 37 40 m38_ (any_of HT_.out s2_) ?_
 refine pu_ 38 41 m39_ (any_of HT_.out s2_) ?_
 refine pu_ 39 42 m40_ (any_of HT_.out s2_) ?_
 refine pu_ 40 43 m41_ (any_of HT_.out s2_) ?_
 refine pu_ 41 44 m42_ (any_of HT_.out s2_) ?_
 refine pu_ 43 46 m43_ (any_of HT_.out s2_) ?_
 refine pu_ 44 47 m44_ (any_of HT_.out s2_) ?_
 refine pu_ 45 48 m45_ (any_of HT_.out s2_) ?_
 refine take_ (i := 42) (N := some 45) (v := ?_) (a' := ?_) m46_ rfl rfl (take_ofW HT_.out HW_.out s2_) (fun _ _ _ h => h) (Or.inl ⟨by rfl, ?_⟩) hHeld ?_ ?_
 rotate_left
 {
 rintro w' ⟨s0, s1, s2, s3, s4, s5, s6, s7⟩
 go_simp
 with_reducible rfl}
 rotate_left
 · exact p1_
 refine take_ (i := 46) (N := some 49) (v := ?_) (a' := ?_) m47_ rfl rfl (take_ofW HT_.out HW_.out s2_) (fun _ _ _ h => h) (Or.inl ⟨by rfl, ?_⟩) hHeld ?_ ?_
 rotate_left
 {
 rintro w' ⟨s0, s1, s2, s3, s4, s5, s6, s7⟩
 go_simp
 with_reducible rfl}
 rotate_left
 · exact p1_
 refine pu_ 47 50 m48_ (any_of HT_.out s2_) ?_
 refine one_ (i := 48) (N := some 51) m49_ rfl rfl (one_of HT_.out s2_) (by decide) (fun K hK => ?_)
 refine goes_ Try.func52 s2_ rfl #[.int .i64 ((rd_T81 l0_0 a0_1).f6), .int .i64 0, .int .i64 (wrap64 (((rd_T81 l0_0 a0_1).f0) - 1))] (by rfl) rfl rfl s3_ ?_
 with_reducible refine (spec_l00In.calls ((rd_T81 l0_0 a0_1).f6) 0 (wrap64 (((rd_T81 l0_0 a0_1).f0) - 1)) true _ A14.out).mono ?_
 rintro e w' ⟨rfl, ⟨nd, rfl⟩⟩
 refine ⟨_, rfl, ?_⟩
 refine hK.out _ _ ⟨((HB.out.cell (World.block_lt_of_cell? w _ hw175_0)).trans hw175_0), ((HB.out.cell (World.block_lt_of_cell? w _ hw175_1)).trans hw175_1), ((HB.out.cell (World.block_lt_of_cell? w _ hw175_2)).trans hw175_2), ((HB.out.cell (World.block_lt_of_cell? w _ hw175_3)).trans hw175_3), ((HB.out.cell (World.block_lt_of_cell? w _ hw175_4)).trans hw175_4), ((HB.out.cell (World.block_lt_of_cell? w _ hw175_5)).trans hw175_5), ((HB.out.cell (World.block_lt_of_cell? w _ hw175_6)).trans hw175_6), ((HB.out.cell (World.block_lt_of_cell? w _ hw175_7)).trans hw175_7)⟩ (fun hHeld => ?_)
 clear hK K
 refine norm_ (a' := ?_) ?_ ?_
 rotate_left
 {
 show Act.put _ (some 51) _ = _
 simp only [Act.put, List.setIfInBounds_toArray, List.set_cons_zero, List.set_cons_succ, i64_w, i32_w]
 rfl}
 refine pu_ 49 52 m50_ (any_of HT_.out s2_) ?_
 refine pu_ 50 53 m51_ (any_of HT_.out s2_) ?_
 refine done_ (done_of HT_.out s2_) ?_
 try go_wp2
 (try (rw [drewN_self w32]; generalize hq_ : World.drewN w32 _ = w32; have n0_ : Aside0 (Below w.heap.size w w32) := ⟨by rw [← hq_]; exact (by repeat (first | (with_reducible first | exact HB.out | apply below_alloc | apply pw_below_drewN | apply below_drew1) | exact HB.out))⟩; clear HB hq_; have HB := n0_; clear n0_))
 have n0_ := Aside0.mk (below_drew1 HB.out)
 clear HB
 have HB := n0_
 clear n0_
 have p182 : 0 ≤ (a0_1 : Int) := of_decide_eq_true (by first | (with_reducible assumption) | assumption)
 have q182 : a0_1 < (l0_0.length : Int) := of_decide_eq_true (by first | (with_reducible assumption) | assumption)
 obtain ⟨ad182, A182_7, c182_7, e182, hx182_0, hx182_1, hx182_2, hx182_3, hx182_4, hx182_5, hx182_6, hx182_7, hl182_7, hi182_7⟩ := at_T81 HR0_0.out a0_1 p182 q182
 have hw182_7 := hx182_7
 have hw182_6 := hx182_6
 have hw182_5 := hx182_5
 (try rw [← Nbq25.out] at hw182_5)
 have hw182_4 := hx182_4
 have hw182_3 := hx182_3
 have hw182_2 := hx182_2
 have hw182_1 := hx182_1
 have hw182_0 := hx182_0
 (try rw [← Nbq25.out] at hx182_5)
 obtain rfl : adp0_ = ad182 := (by injection e182)
 replace hx182_0 := (HB.out.cell (World.block_lt_of_cell? w _ hx182_0)).trans hx182_0
 replace hx182_1 := (HB.out.cell (World.block_lt_of_cell? w _ hx182_1)).trans hx182_1
 replace hx182_2 := (HB.out.cell (World.block_lt_of_cell? w _ hx182_2)).trans hx182_2
 replace hx182_3 := (HB.out.cell (World.block_lt_of_cell? w _ hx182_3)).trans hx182_3
 replace hx182_4 := (HB.out.cell (World.block_lt_of_cell? w _ hx182_4)).trans hx182_4
 replace hx182_5 := (HB.out.cell (World.block_lt_of_cell? w _ hx182_5)).trans hx182_5
 replace hx182_6 := (HB.out.cell (World.block_lt_of_cell? w _ hx182_6)).trans hx182_6
 replace hx182_7 := (HB.out.cell (World.block_lt_of_cell? w _ hx182_7)).trans hx182_7
 have HR182_7 := Aside0.mk hi182_7
 have HC182_7 := Aside0.mk hl182_7
 clear hi182_7 hl182_7
 replace p182 := eq_true p182
 replace q182 := eq_true q182
 refine start_ (n := 25) (S := fun w' => w'.cell? (adp0_.add ((a0_1).toNat * 8)) = some (.int .i64 ((rd_T81 l0_0 a0_1).f0)) ∧ w'.cell? ⟨(adp0_.add ((a0_1).toNat * 8)).block, (adp0_.add ((a0_1).toNat * 8)).off + 1, none⟩ = some (.int .i64 ((rd_T81 l0_0 a0_1).f1)) ∧ w'.cell? ⟨(adp0_.add ((a0_1).toNat * 8)).block, (adp0_.add ((a0_1).toNat * 8)).off + 2, none⟩ = some (.int .i64 ((rd_T81 l0_0 a0_1).f2)) ∧ w'.cell? ⟨(adp0_.add ((a0_1).toNat * 8)).block, (adp0_.add ((a0_1).toNat * 8)).off + 3, none⟩ = some (.string ((rd_T81 l0_0 a0_1).f3)) ∧ w'.cell? ⟨(adp0_.add ((a0_1).toNat * 8)).block, (adp0_.add ((a0_1).toNat * 8)).off + 4, none⟩ = some (.int .i64 ((rd_T81 l0_0 a0_1).f4)) ∧ w'.cell? ⟨(adp0_.add ((a0_1).toNat * 8)).block, (adp0_.add ((a0_1).toNat * 8)).off + 5, none⟩ = some (.bool false) ∧ w'.cell? ⟨(adp0_.add ((a0_1).toNat * 8)).block, (adp0_.add ((a0_1).toNat * 8)).off + 6, none⟩ = some (.int .i64 ((rd_T81 l0_0 a0_1).f6)) ∧ w'.cell? ⟨(adp0_.add ((a0_1).toNat * 8)).block, (adp0_.add ((a0_1).toNat * 8)).off + 7, none⟩ = some (.slice A182_7 ((rd_T81 l0_0 a0_1).f7).length c182_7)) (ds := []) m52_ s2_ rfl rfl ⟨((HB.out.cell (World.block_lt_of_cell? w _ hw182_0)).trans hw182_0), ((HB.out.cell (World.block_lt_of_cell? w _ hw182_1)).trans hw182_1), ((HB.out.cell (World.block_lt_of_cell? w _ hw182_2)).trans hw182_2), ((HB.out.cell (World.block_lt_of_cell? w _ hw182_3)).trans hw182_3), ((HB.out.cell (World.block_lt_of_cell? w _ hw182_4)).trans hw182_4), ((HB.out.cell (World.block_lt_of_cell? w _ hw182_5)).trans hw182_5), ((HB.out.cell (World.block_lt_of_cell? w _ hw182_6)).trans hw182_6), ((HB.out.cell (World.block_lt_of_cell? w _ hw182_7)).trans hw182_7)⟩ (fun hHeld => ?_); refine with_tabW spec_l03Message_v0.tab3 spec_l03Message_v0.bits3 (fun HT_ HW_ => ?_)
 generalize w32.drew = w33 at HB HR182_7 hx182_0 hx182_1 hx182_2 hx182_3 hx182_4 hx182_5 hx182_6 hx182_7 hHeld ⊢
 refine pu_ 0 54 m53_ (any_of HT_.out s2_) ?_
 refine pu_ 1 55 m54_ (any_of HT_.out s2_) ?_
 refine pu_ 2 56 m55_ (any_of HT_.out s2_) ?_
 refine take_ (i := 3) (N := some 57) (v := ?_) (a' := ?_) m56_ rfl rfl (take_ofW HT_.out HW_.out s2_) (fun _ _ _ h => h) (Or.inl ⟨by rfl, ?_⟩) hHeld ?_ ?_
 rotate_left
 {
 rintro w' ⟨s0, s1, s2, s3, s4, s5, s6, s7⟩
 go_simp
 with_reducible rfl}
 rotate_left
 · exact p1_
 refine pu_ 4 58 m57_ (any_of HT_.out s2_) ?_
 refine pu_ 5 59 m58_ (any_of HT_.out s2_) ?_
 refine pu_ 6 60 m59_ (any_of HT_.out s2_) ?_
 refine pu_ 7 61 m60_ (any_of HT_.out s2_) ?_
 refine pu_ 8 62 m61_ (any_of HT_.out s2_) ?_
 refine pu_ 9 63 m62_ (any_of HT_.out s2_) ?_
 refine take_ (i := 10) (N := some 64) (v := ?_) (a' := ?_) m63_ rfl rfl (take_ofW HT_.out HW_.out s2_) (fun _ _ _ h => h) (Or.inl ⟨by rfl, ?_⟩) hHeld ?_ ?_
 rotate_left
 {
 rintro w' ⟨s0, s1, s2, s3, s4, s5, s6, s7⟩
 go_simp
 with_reducible rfl}
 rotate_left
 · exact p1_
 refine one_ (i := 11) (N := some 65) m64_ rfl rfl (one_of HT_.out s2_) (by decide) (fun K hK => ?_)
 refine goes_ Try.func71 s2_ rfl #[.slice A182_7 ((rd_T81 l0_0 a0_1).f7).length c182_7] (by rfl) rfl rfl s3_ ?_
 with_reducible refine (spec_l01Members.calls k _ _ ((rd_T81 l0_0 a0_1).f7) true _ ?side1 ?side2 A19.out).mono ?_
 (case side1 => repeat (first | exact (Kd.C_below HR182_7.out HB.out) | (with_reducible refine Kd.C_alloc ?_ _) | (with_reducible refine Kd.C_drewN ?_ _) | (with_reducible refine Kd.C_drew ?_)))
 (case side2 => exact HC182_7.out)
 rintro e w' ⟨rfl, ⟨nd, rfl⟩⟩
 refine ⟨_, rfl, ?_⟩
 refine hK.out _ _ ⟨((HB.out.cell (World.block_lt_of_cell? w _ hw182_0)).trans hw182_0), ((HB.out.cell (World.block_lt_of_cell? w _ hw182_1)).trans hw182_1), ((HB.out.cell (World.block_lt_of_cell? w _ hw182_2)).trans hw182_2), ((HB.out.cell (World.block_lt_of_cell? w _ hw182_3)).trans hw182_3), ((HB.out.cell (World.block_lt_of_cell? w _ hw182_4)).trans hw182_4), ((HB.out.cell (World.block_lt_of_cell? w _ hw182_5)).trans hw182_5), ((HB.out.cell (World.block_lt_of_cell? w _ hw182_6)).trans hw182_6), ((HB.out.cell (World.block_lt_of_cell? w _ hw182_7)).trans hw182_7)⟩ (fun hHeld => ?_)
 clear hK K
 refine norm_ (a' := ?_) ?_ ?_
 rotate_left
 {
 show Act.put _ (some 65) _ = _
 simp only [Act.put, List.setIfInBounds_toArray, List.set_cons_zero, List.set_cons_succ, i64_w, i32_w]
 rfl}
 refine pu_ 12 66 m65_ (any_of HT_.out s2_) ?_
 refine pu_ 13 67 m66_ (any_of HT_.out s2_) ?_
 refine pu_ 14 68 m67_ (any_of HT_.out s2_) ?_
 refine pu_ 15 69 m68_ (any_of HT_.out s2_) ?_
 refine pu_ 16 70 m69_ (any_of HT_.out s2_) ?_
 refine pu_ 17 71 m70_ (any_of HT_.out s2_) ?_
 refine pu_ 19 73 m78_ (any_of HT_.out s2_) ?_
 refine pu_ 20 74 m79_ (any_of HT_.out s2_) ?_
 refine pu_ 21 75 m80_ (any_of HT_.out s2_) ?_
 refine take_ (i := 18) (N := some 72) (v := ?_) (a' := ?_) m74_ rfl rfl (take_ofW HT_.out HW_.out s2_) (fun _ _ _ h => h) (Or.inl ⟨by rfl, ?_⟩) hHeld ?_ ?_
 rotate_left
 {
 rintro w' ⟨s0, s1, s2, s3, s4, s5, s6, s7⟩
 go_simp
 with_reducible rfl}
 rotate_left
 · exact p1_
 refine take_ (i := 22) (N := some 76) (v := ?_) (a' := ?_) m75_ rfl rfl (take_ofW HT_.out HW_.out s2_) (fun _ _ _ h => h) (Or.inl ⟨by rfl, ?_⟩) hHeld ?_ ?_
 rotate_left
 {
 rintro w' ⟨s0, s1, s2, s3, s4, s5, s6, s7⟩
 go_simp
 with_reducible rfl}
 rotate_left
 · exact p1_
 refine one_ (i := 23) (N := some 77) m76_ rfl rfl (one_of HT_.out s2_) (by decide) (fun K hK => ?_)
 refine goes_ Try.func72 s2_ rfl #[.slice A182_7 ((rd_T81 l0_0 a0_1).f7).length c182_7, .int .i64 ((rd_T81 l0_0 a0_1).f1)] (by rfl) rfl rfl s3_ ?_
 with_reducible refine (spec_l00Has.calls k _ _ ((rd_T81 l0_0 a0_1).f7) ((rd_T81 l0_0 a0_1).f1) false _ ?side1 ?side2 A21.out).mono ?_
 (case side1 => repeat (first | exact (Kd.C_below HR182_7.out (by repeat (first | (with_reducible first | exact HB.out | apply below_alloc | apply pw_below_drewN | apply below_drew1) | exact HB.out))) | (with_reducible refine Kd.C_alloc ?_ _) | (with_reducible refine Kd.C_drewN ?_ _) | (with_reducible refine Kd.C_drew ?_)))
 (case side2 => exact HC182_7.out)
 rintro e w' ⟨rfl, ⟨nd, rfl⟩⟩
 refine ⟨_, rfl, ?_⟩
 refine hK.out _ _ ⟨((HB.out.cell (World.block_lt_of_cell? w _ hw182_0)).trans hw182_0), ((HB.out.cell (World.block_lt_of_cell? w _ hw182_1)).trans hw182_1), ((HB.out.cell (World.block_lt_of_cell? w _ hw182_2)).trans hw182_2), ((HB.out.cell (World.block_lt_of_cell? w _ hw182_3)).trans hw182_3), ((HB.out.cell (World.block_lt_of_cell? w _ hw182_4)).trans hw182_4), ((HB.out.cell (World.block_lt_of_cell? w _ hw182_5)).trans hw182_5), ((HB.out.cell (World.block_lt_of_cell? w _ hw182_6)).trans hw182_6), ((HB.out.cell (World.block_lt_of_cell? w _ hw182_7)).trans hw182_7)⟩ (fun hHeld => ?_)
 clear hK K
 refine norm_ (a' := ?_) ?_ ?_
 rotate_left
 {
 show Act.put _ (some 77) _ = _
 simp only [Act.put, List.setIfInBounds_toArray, List.set_cons_zero, List.set_cons_succ, i64_w, i32_w]
 rfl}
 refine pu_ 24 78 m77_ (any_of HT_.out s2_) ?_
 refine done_ (done_of HT_.out s2_) ?_
 try go_wp2
 go_ret
 exact ⟨by first | rfl | (simp [errW_none, errW_some] <;> rfl) | (simp [*, errW_none, errW_some] <;> rfl), by repeat (first | (with_reducible first | exact HB.out | apply below_alloc | apply pw_below_drewN | apply below_drew1) | exact HB.out)⟩}}}
 {
 replace c20 := Bool.eq_false_iff.mpr c20
 subst c20
 have H1 : (some false) = some r := by rw [if_neg (show ¬ (false = true) by decide)] at H; exact H
 clear H
 have H := H1
 clear H1
 obtain rfl := Option.some.inj H
 have p174 : 0 ≤ (a0_1 : Int) := of_decide_eq_true (by first | (with_reducible assumption) | assumption)
 have q174 : a0_1 < (l0_0.length : Int) := of_decide_eq_true (by first | (with_reducible assumption) | assumption)
 obtain ⟨ad174, A174_7, c174_7, e174, hx174_0, hx174_1, hx174_2, hx174_3, hx174_4, hx174_5, hx174_6, hx174_7, hl174_7, hi174_7⟩ := at_T81 HR0_0.out a0_1 p174 q174
 obtain rfl : adp0_ = ad174 := (by injection e174)
 have HR174_7 := Aside0.mk hi174_7
 have HC174_7 := Aside0.mk hl174_7
 clear hi174_7 hl174_7
 replace p174 := eq_true p174
 replace q174 := eq_true q174
 go_enter Try.func57, Try.ntmps57
 try go_wp2
 have n0_ := Aside0.mk (below_drew1 HB.out)
 clear HB
 have HB := n0_
 clear n0_
 have p175 : 0 ≤ (a0_1 : Int) := of_decide_eq_true (by first | (with_reducible assumption) | assumption)
 have q175 : a0_1 < (l0_0.length : Int) := of_decide_eq_true (by first | (with_reducible assumption) | assumption)
 obtain ⟨ad175, A175_7, c175_7, e175, hx175_0, hx175_1, hx175_2, hx175_3, hx175_4, hx175_5, hx175_6, hx175_7, hl175_7, hi175_7⟩ := at_T81 HR0_0.out a0_1 p175 q175
 have hw175_7 := hx175_7
 have hw175_6 := hx175_6
 have hw175_5 := hx175_5
 have hw175_4 := hx175_4
 have hw175_3 := hx175_3
 have hw175_2 := hx175_2
 have hw175_1 := hx175_1
 have hw175_0 := hx175_0
 obtain rfl : adp0_ = ad175 := (by injection e175)
 replace hx175_0 := (HB.out.cell (World.block_lt_of_cell? w _ hx175_0)).trans hx175_0
 replace hx175_1 := (HB.out.cell (World.block_lt_of_cell? w _ hx175_1)).trans hx175_1
 replace hx175_2 := (HB.out.cell (World.block_lt_of_cell? w _ hx175_2)).trans hx175_2
 replace hx175_3 := (HB.out.cell (World.block_lt_of_cell? w _ hx175_3)).trans hx175_3
 replace hx175_4 := (HB.out.cell (World.block_lt_of_cell? w _ hx175_4)).trans hx175_4
 replace hx175_5 := (HB.out.cell (World.block_lt_of_cell? w _ hx175_5)).trans hx175_5
 replace hx175_6 := (HB.out.cell (World.block_lt_of_cell? w _ hx175_6)).trans hx175_6
 replace hx175_7 := (HB.out.cell (World.block_lt_of_cell? w _ hx175_7)).trans hx175_7
 have HR175_7 := Aside0.mk hi175_7
 have HC175_7 := Aside0.mk hl175_7
 clear hi175_7 hl175_7
 replace p175 := eq_true p175
 replace q175 := eq_true q175
 refine start_ (n := 51) (S := fun w' => w'.cell? (adp0_.add ((a0_1).toNat * 8)) = some (.int .i64 ((rd_T81 l0_0 a0_1).f0)) ∧ w'.cell? ⟨(adp0_.add ((a0_1).toNat * 8)).block, (adp0_.add ((a0_1).toNat * 8)).off + 1, none⟩ = some (.int .i64 ((rd_T81 l0_0 a0_1).f1)) ∧ w'.cell? ⟨(adp0_.add ((a0_1).toNat * 8)).block, (adp0_.add ((a0_1).toNat * 8)).off + 2, none⟩ = some (.int .i64 ((rd_T81 l0_0 a0_1).f2)) ∧ w'.cell? ⟨(adp0_.add ((a0_1).toNat * 8)).block, (adp0_.add ((a0_1).toNat * 8)).off + 3, none⟩ = some (.string ((rd_T81 l0_0 a0_1).f3)) ∧ w'.cell? ⟨(adp0_.add ((a0_1).toNat * 8)).block, (adp0_.add ((a0_1).toNat * 8)).off + 4, none⟩ = some (.int .i64 ((rd_T81 l0_0 a0_1).f4)) ∧ w'.cell? ⟨(adp0_.add ((a0_1).toNat * 8)).block, (adp0_.add ((a0_1).toNat * 8)).off + 5, none⟩ = some (.bool ((rd_T81 l0_0 a0_1).f5)) ∧ w'.cell? ⟨(adp0_.add ((a0_1).toNat * 8)).block, (adp0_.add ((a0_1).toNat * 8)).off + 6, none⟩ = some (.int .i64 ((rd_T81 l0_0 a0_1).f6)) ∧ w'.cell? ⟨(adp0_.add ((a0_1).toNat * 8)).block, (adp0_.add ((a0_1).toNat * 8)).off + 7, none⟩ = some (.slice A175_7 ((rd_T81 l0_0 a0_1).f7).length c175_7)) (ds := []) m0_ s2_ rfl rfl ⟨((HB.out.cell (World.block_lt_of_cell? w _ hw175_0)).trans hw175_0), ((HB.out.cell (World.block_lt_of_cell? w _ hw175_1)).trans hw175_1), ((HB.out.cell (World.block_lt_of_cell? w _ hw175_2)).trans hw175_2), ((HB.out.cell (World.block_lt_of_cell? w _ hw175_3)).trans hw175_3), ((HB.out.cell (World.block_lt_of_cell? w _ hw175_4)).trans hw175_4), ((HB.out.cell (World.block_lt_of_cell? w _ hw175_5)).trans hw175_5), ((HB.out.cell (World.block_lt_of_cell? w _ hw175_6)).trans hw175_6), ((HB.out.cell (World.block_lt_of_cell? w _ hw175_7)).trans hw175_7)⟩ (fun hHeld => ?_); refine with_tabW spec_l03Message_v0.tab1 spec_l03Message_v0.bits1 (fun HT_ HW_ => ?_)
 generalize w.drew = w34 at HB HR175_7 hx175_0 hx175_1 hx175_2 hx175_3 hx175_4 hx175_5 hx175_6 hx175_7 hHeld ⊢
 refine pu_ 0 3 m1_ (any_of HT_.out s2_) ?_
 refine pu_ 1 4 m2_ (any_of HT_.out s2_) ?_
 refine pu_ 2 5 m3_ (any_of HT_.out s2_) ?_
 refine take_ (i := 3) (N := some 6) (v := ?_) (a' := ?_) m4_ rfl rfl (take_ofW HT_.out HW_.out s2_) (fun _ _ _ h => h) (Or.inl ⟨by rfl, ?_⟩) hHeld ?_ ?_
 rotate_left
 {
 rintro w' ⟨s0, s1, s2, s3, s4, s5, s6, s7⟩
 go_simp
 with_reducible rfl}
 rotate_left
 · exact p1_
 refine one_ (i := 4) (N := some 7) m5_ rfl rfl (one_of HT_.out s2_) (by decide) (fun K hK => ?_)
 refine goes_ Try.func52 s2_ rfl #[.int .i64 ((rd_T81 l0_0 a0_1).f0), .int .i64 1, .int .i64 1000000000] (by rfl) rfl rfl s3_ ?_
 with_reducible refine (spec_l00In.calls ((rd_T81 l0_0 a0_1).f0) 1 1000000000 true _ A4.out).mono ?_
 rintro e w' ⟨rfl, ⟨nd, rfl⟩⟩
 refine ⟨_, rfl, ?_⟩
 refine hK.out _ _ ⟨((HB.out.cell (World.block_lt_of_cell? w _ hw175_0)).trans hw175_0), ((HB.out.cell (World.block_lt_of_cell? w _ hw175_1)).trans hw175_1), ((HB.out.cell (World.block_lt_of_cell? w _ hw175_2)).trans hw175_2), ((HB.out.cell (World.block_lt_of_cell? w _ hw175_3)).trans hw175_3), ((HB.out.cell (World.block_lt_of_cell? w _ hw175_4)).trans hw175_4), ((HB.out.cell (World.block_lt_of_cell? w _ hw175_5)).trans hw175_5), ((HB.out.cell (World.block_lt_of_cell? w _ hw175_6)).trans hw175_6), ((HB.out.cell (World.block_lt_of_cell? w _ hw175_7)).trans hw175_7)⟩ (fun hHeld => ?_)
 clear hK K
 refine norm_ (a' := ?_) ?_ ?_
 rotate_left
 {
 show Act.put _ (some 7) _ = _
 simp only [Act.put, List.setIfInBounds_toArray, List.set_cons_zero, List.set_cons_succ, i64_w, i32_w]
 rfl}
 refine pu_ 5 8 m6_ (any_of HT_.out s2_) ?_
 refine pu_ 6 9 m7_ (any_of HT_.out s2_) ?_
 refine pu_ 7 10 m8_ (any_of HT_.out s2_) ?_
 refine pu_ 8 11 m9_ (any_of HT_.out s2_) ?_
 refine pu_ 9 12 m10_ (any_of HT_.out s2_) ?_
 refine take_ (i := 10) (N := some 13) (v := ?_) (a' := ?_) m11_ rfl rfl (take_ofW HT_.out HW_.out s2_) (fun _ _ _ h => h) (Or.inl ⟨by rfl, ?_⟩) hHeld ?_ ?_
 rotate_left
 {
 rintro w' ⟨s0, s1, s2, s3, s4, s5, s6, s7⟩
 go_simp
 with_reducible rfl}
 rotate_left
 · exact p1_
 refine one_ (i := 11) (N := some 14) m12_ rfl rfl (one_of HT_.out s2_) (by decide) (fun K hK => ?_)
 refine goes_ Try.func53 s2_ rfl #[.int .i64 ((rd_T81 l0_0 a0_1).f1)] (by rfl) rfl rfl s3_ ?_
 with_reducible refine (spec_l01Member.calls ((rd_T81 l0_0 a0_1).f1) true _ A6.out).mono ?_
 rintro e w' ⟨rfl, ⟨nd, rfl⟩⟩
 refine ⟨_, rfl, ?_⟩
 refine hK.out _ _ ⟨((HB.out.cell (World.block_lt_of_cell? w _ hw175_0)).trans hw175_0), ((HB.out.cell (World.block_lt_of_cell? w _ hw175_1)).trans hw175_1), ((HB.out.cell (World.block_lt_of_cell? w _ hw175_2)).trans hw175_2), ((HB.out.cell (World.block_lt_of_cell? w _ hw175_3)).trans hw175_3), ((HB.out.cell (World.block_lt_of_cell? w _ hw175_4)).trans hw175_4), ((HB.out.cell (World.block_lt_of_cell? w _ hw175_5)).trans hw175_5), ((HB.out.cell (World.block_lt_of_cell? w _ hw175_6)).trans hw175_6), ((HB.out.cell (World.block_lt_of_cell? w _ hw175_7)).trans hw175_7)⟩ (fun hHeld => ?_)
 clear hK K
 refine norm_ (a' := ?_) ?_ ?_
 rotate_left
 {
 show Act.put _ (some 14) _ = _
 simp only [Act.put, List.setIfInBounds_toArray, List.set_cons_zero, List.set_cons_succ, i64_w, i32_w]
 rfl}
 refine pu_ 12 15 m13_ (any_of HT_.out s2_) ?_
 refine pu_ 13 16 m14_ (any_of HT_.out s2_) ?_
 refine pu_ 14 17 m15_ (any_of HT_.out s2_) ?_
 refine pu_ 15 18 m16_ (any_of HT_.out s2_) ?_
 refine pu_ 16 19 m17_ (any_of HT_.out s2_) ?_
 refine pu_ 17 20 m18_ (any_of HT_.out s2_) ?_
 refine take_ (i := 18) (N := some 21) (v := ?_) (a' := ?_) m19_ rfl rfl (take_ofW HT_.out HW_.out s2_) (fun _ _ _ h => h) (Or.inl ⟨by rfl, ?_⟩) hHeld ?_ ?_
 rotate_left
 {
 rintro w' ⟨s0, s1, s2, s3, s4, s5, s6, s7⟩
 go_simp
 with_reducible rfl}
 rotate_left
 · exact p1_
 refine one_ (i := 19) (N := some 22) m20_ rfl rfl (one_of HT_.out s2_) (by decide) (fun K hK => ?_)
 refine goes_ Try.func54 s2_ rfl #[.int .i64 ((rd_T81 l0_0 a0_1).f2)] (by rfl) rfl rfl s3_ ?_
 with_reducible refine (spec_l01Tick.calls ((rd_T81 l0_0 a0_1).f2) true _ A8.out).mono ?_
 rintro e w' ⟨rfl, ⟨nd, rfl⟩⟩
 refine ⟨_, rfl, ?_⟩
 refine hK.out _ _ ⟨((HB.out.cell (World.block_lt_of_cell? w _ hw175_0)).trans hw175_0), ((HB.out.cell (World.block_lt_of_cell? w _ hw175_1)).trans hw175_1), ((HB.out.cell (World.block_lt_of_cell? w _ hw175_2)).trans hw175_2), ((HB.out.cell (World.block_lt_of_cell? w _ hw175_3)).trans hw175_3), ((HB.out.cell (World.block_lt_of_cell? w _ hw175_4)).trans hw175_4), ((HB.out.cell (World.block_lt_of_cell? w _ hw175_5)).trans hw175_5), ((HB.out.cell (World.block_lt_of_cell? w _ hw175_6)).trans hw175_6), ((HB.out.cell (World.block_lt_of_cell? w _ hw175_7)).trans hw175_7)⟩ (fun hHeld => ?_)
 clear hK K
 refine norm_ (a' := ?_) ?_ ?_
 rotate_left
 {
 show Act.put _ (some 22) _ = _
 simp only [Act.put, List.setIfInBounds_toArray, List.set_cons_zero, List.set_cons_succ, i64_w, i32_w]
 rfl}
 refine pu_ 20 23 m21_ (any_of HT_.out s2_) ?_
 refine pu_ 21 24 m22_ (any_of HT_.out s2_) ?_
 refine pu_ 22 25 m23_ (any_of HT_.out s2_) ?_
 refine pu_ 23 26 m24_ (any_of HT_.out s2_) ?_
 refine pu_ 24 27 m25_ (any_of HT_.out s2_) ?_
 refine pu_ 25 28 m26_ (any_of HT_.out s2_) ?_
 refine take_ (i := 26) (N := some 29) (v := ?_) (a' := ?_) m27_ rfl rfl (take_ofW HT_.out HW_.out s2_) (fun _ _ _ h => h) (Or.inl ⟨by rfl, ?_⟩) hHeld ?_ ?_
 rotate_left
 {
 rintro w' ⟨s0, s1, s2, s3, s4, s5, s6, s7⟩
 go_simp
 with_reducible rfl}
 rotate_left
 · exact p1_
 refine one_ (i := 27) (N := some 30) m28_ rfl rfl (one_of HT_.out s2_) (by decide) (fun K hK => ?_)
 refine goes_ Try.func55 s2_ rfl #[.string ((rd_T81 l0_0 a0_1).f3)] (by rfl) rfl rfl s3_ ?_
 with_reducible refine (spec_l01IsText.calls k ((rd_T81 l0_0 a0_1).f3) true _ A10.out).mono ?_
 rintro e w' ⟨rfl, ⟨nd, rfl⟩⟩
 refine ⟨_, rfl, ?_⟩
 refine hK.out _ _ ⟨((HB.out.cell (World.block_lt_of_cell? w _ hw175_0)).trans hw175_0), ((HB.out.cell (World.block_lt_of_cell? w _ hw175_1)).trans hw175_1), ((HB.out.cell (World.block_lt_of_cell? w _ hw175_2)).trans hw175_2), ((HB.out.cell (World.block_lt_of_cell? w _ hw175_3)).trans hw175_3), ((HB.out.cell (World.block_lt_of_cell? w _ hw175_4)).trans hw175_4), ((HB.out.cell (World.block_lt_of_cell? w _ hw175_5)).trans hw175_5), ((HB.out.cell (World.block_lt_of_cell? w _ hw175_6)).trans hw175_6), ((HB.out.cell (World.block_lt_of_cell? w _ hw175_7)).trans hw175_7)⟩ (fun hHeld => ?_)
 clear hK K
 refine norm_ (a' := ?_) ?_ ?_
 rotate_left
 {
 show Act.put _ (some 30) _ = _
 simp only [Act.put, List.setIfInBounds_toArray, List.set_cons_zero, List.set_cons_succ, i64_w, i32_w]
 rfl}
 refine pu_ 28 31 m29_ (any_of HT_.out s2_) ?_
 refine pu_ 29 32 m30_ (any_of HT_.out s2_) ?_
 refine pu_ 30 33 m31_ (any_of HT_.out s2_) ?_
 refine pu_ 31 34 m32_ (any_of HT_.out s2_) ?_
 refine pu_ 32 35 m33_ (any_of HT_.out s2_) ?_
 refine pu_ 33 36 m34_ (any_of HT_.out s2_) ?_
 refine take_ (i := 34) (N := some 37) (v := ?_) (a' := ?_) m35_ rfl rfl (take_ofW HT_.out HW_.out s2_) (fun _ _ _ h => h) (Or.inl ⟨by rfl, ?_⟩) hHeld ?_ ?_
 rotate_left
 {
 rintro w' ⟨s0, s1, s2, s3, s4, s5, s6, s7⟩
 go_simp
 with_reducible rfl}
 rotate_left
 · exact p1_
 refine one_ (i := 35) (N := some 38) m36_ rfl rfl (one_of HT_.out s2_) (by decide) (fun K hK => ?_)
 refine goes_ Try.func52 s2_ rfl #[.int .i64 ((rd_T81 l0_0 a0_1).f4), .int .i64 0, .int .i64 1000000000] (by rfl) rfl rfl s3_ ?_
 with_reducible refine (spec_l00In.calls ((rd_T81 l0_0 a0_1).f4) 0 1000000000 true _ A12.out).mono ?_
 rintro e w' ⟨rfl, ⟨nd, rfl⟩⟩
 refine ⟨_, rfl, ?_⟩
 refine hK.out _ _ ⟨((HB.out.cell (World.block_lt_of_cell? w _ hw175_0)).trans hw175_0), ((HB.out.cell (World.block_lt_of_cell? w _ hw175_1)).trans hw175_1), ((HB.out.cell (World.block_lt_of_cell? w _ hw175_2)).trans hw175_2), ((HB.out.cell (World.block_lt_of_cell? w _ hw175_3)).trans hw175_3), ((HB.out.cell (World.block_lt_of_cell? w _ hw175_4)).trans hw175_4), ((HB.out.cell (World.block_lt_of_cell? w _ hw175_5)).trans hw175_5), ((HB.out.cell (World.block_lt_of_cell? w _ hw175_6)).trans hw175_6), ((HB.out.cell (World.block_lt_of_cell? w _ hw175_7)).trans hw175_7)⟩ (fun hHeld => ?_)
 clear hK K
 refine norm_ (a' := ?_) ?_ ?_
 rotate_left
 {
 show Act.put _ (some 38) _ = _
 simp only [Act.put, List.setIfInBounds_toArray, List.set_cons_zero, List.set_cons_succ, i64_w, i32_w]
 rfl}
 refine pu_ 36 39 m37_ (any_of HT_.out s2_) ?_
 refine pu_ 37 40 m38_ (any_of HT_.out s2_) ?_
 refine pu_ 38 41 m39_ (any_of HT_.out s2_) ?_
 refine pu_ 39 42 m40_ (any_of HT_.out s2_) ?_
 refine pu_ 40 43 m41_ (any_of HT_.out s2_) ?_
 refine pu_ 41 44 m42_ (any_of HT_.out s2_) ?_
 refine pu_ 43 46 m43_ (any_of HT_.out s2_) ?_
 refine pu_ 44 47 m44_ (any_of HT_.out s2_) ?_
 refine pu_ 45 48 m45_ (any_of HT_.out s2_) ?_
 refine take_ (i := 42) (N := some 45) (v := ?_) (a' := ?_) m46_ rfl rfl (take_ofW HT_.out HW_.out s2_) (fun _ _ _ h => h) (Or.inl ⟨by rfl, ?_⟩) hHeld ?_ ?_
 rotate_left
 {
 rintro w' ⟨s0, s1, s2, s3, s4, s5, s6, s7⟩
 go_simp
 with_reducible rfl}
 rotate_left
 · exact p1_
 refine take_ (i := 46) (N := some 49) (v := ?_) (a' := ?_) m47_ rfl rfl (take_ofW HT_.out HW_.out s2_) (fun _ _ _ h => h) (Or.inl ⟨by rfl, ?_⟩) hHeld ?_ ?_
 rotate_left
 {
 rintro w' ⟨s0, s1, s2, s3, s4, s5, s6, s7⟩
 go_simp
 with_reducible rfl}
 rotate_left
 · exact p1_
 refine pu_ 47 50 m48_ (any_of HT_.out s2_) ?_
 refine one_ (i := 48) (N := some 51) m49_ rfl rfl (one_of HT_.out s2_) (by decide) (fun K hK => ?_)
 refine goes_ Try.func52 s2_ rfl #[.int .i64 ((rd_T81 l0_0 a0_1).f6), .int .i64 0, .int .i64 (wrap64 (((rd_T81 l0_0 a0_1).f0) - 1))] (by rfl) rfl rfl s3_ ?_
 with_reducible refine (spec_l00In.calls ((rd_T81 l0_0 a0_1).f6) 0 (wrap64 (((rd_T81 l0_0 a0_1).f0) - 1)) true _ A14.out).mono ?_
 rintro e w' ⟨rfl, ⟨nd, rfl⟩⟩
 refine ⟨_, rfl, ?_⟩
 refine hK.out _ _ ⟨((HB.out.cell (World.block_lt_of_cell? w _ hw175_0)).trans hw175_0), ((HB.out.cell (World.block_lt_of_cell? w _ hw175_1)).trans hw175_1), ((HB.out.cell (World.block_lt_of_cell? w _ hw175_2)).trans hw175_2), ((HB.out.cell (World.block_lt_of_cell? w _ hw175_3)).trans hw175_3), ((HB.out.cell (World.block_lt_of_cell? w _ hw175_4)).trans hw175_4), ((HB.out.cell (World.block_lt_of_cell? w _ hw175_5)).trans hw175_5), ((HB.out.cell (World.block_lt_of_cell? w _ hw175_6)).trans hw175_6), ((HB.out.cell (World.block_lt_of_cell? w _ hw175_7)).trans hw175_7)⟩ (fun hHeld => ?_)
 clear hK K
 refine norm_ (a' := ?_) ?_ ?_
 rotate_left
 {
 show Act.put _ (some 51) _ = _
 simp only [Act.put, List.setIfInBounds_toArray, List.set_cons_zero, List.set_cons_succ, i64_w, i32_w]
 rfl}
 refine pu_ 49 52 m50_ (any_of HT_.out s2_) ?_
 refine pu_ 50 53 m51_ (any_of HT_.out s2_) ?_
 refine done_ (done_of HT_.out s2_) ?_
 try go_wp2
 (try (rw [drewN_self w34]; generalize hq_ : World.drewN w34 _ = w34; have n0_ : Aside0 (Below w.heap.size w w34) := ⟨by rw [← hq_]; exact (by repeat (first | (with_reducible first | exact HB.out | apply below_alloc | apply pw_below_drewN | apply below_drew1) | exact HB.out))⟩; clear HB hq_; have HB := n0_; clear n0_))
 have n0_ := Aside0.mk (below_drew1 HB.out)
 clear HB
 have HB := n0_
 clear n0_
 have p182 : 0 ≤ (a0_1 : Int) := of_decide_eq_true (by first | (with_reducible assumption) | assumption)
 have q182 : a0_1 < (l0_0.length : Int) := of_decide_eq_true (by first | (with_reducible assumption) | assumption)
 obtain ⟨ad182, A182_7, c182_7, e182, hx182_0, hx182_1, hx182_2, hx182_3, hx182_4, hx182_5, hx182_6, hx182_7, hl182_7, hi182_7⟩ := at_T81 HR0_0.out a0_1 p182 q182
 have hw182_7 := hx182_7
 have hw182_6 := hx182_6
 have hw182_5 := hx182_5
 have hw182_4 := hx182_4
 have hw182_3 := hx182_3
 have hw182_2 := hx182_2
 have hw182_1 := hx182_1
 have hw182_0 := hx182_0
 obtain rfl : adp0_ = ad182 := (by injection e182)
 replace hx182_0 := (HB.out.cell (World.block_lt_of_cell? w _ hx182_0)).trans hx182_0
 replace hx182_1 := (HB.out.cell (World.block_lt_of_cell? w _ hx182_1)).trans hx182_1
 replace hx182_2 := (HB.out.cell (World.block_lt_of_cell? w _ hx182_2)).trans hx182_2
 replace hx182_3 := (HB.out.cell (World.block_lt_of_cell? w _ hx182_3)).trans hx182_3
 replace hx182_4 := (HB.out.cell (World.block_lt_of_cell? w _ hx182_4)).trans hx182_4
 replace hx182_5 := (HB.out.cell (World.block_lt_of_cell? w _ hx182_5)).trans hx182_5
 replace hx182_6 := (HB.out.cell (World.block_lt_of_cell? w _ hx182_6)).trans hx182_6
 replace hx182_7 := (HB.out.cell (World.block_lt_of_cell? w _ hx182_7)).trans hx182_7
 have HR182_7 := Aside0.mk hi182_7
 have HC182_7 := Aside0.mk hl182_7
 clear hi182_7 hl182_7
 replace p182 := eq_true p182
 replace q182 := eq_true q182
 refine start_ (n := 25) (S := fun w' => w'.cell? (adp0_.add ((a0_1).toNat * 8)) = some (.int .i64 ((rd_T81 l0_0 a0_1).f0)) ∧ w'.cell? ⟨(adp0_.add ((a0_1).toNat * 8)).block, (adp0_.add ((a0_1).toNat * 8)).off + 1, none⟩ = some (.int .i64 ((rd_T81 l0_0 a0_1).f1)) ∧ w'.cell? ⟨(adp0_.add ((a0_1).toNat * 8)).block, (adp0_.add ((a0_1).toNat * 8)).off + 2, none⟩ = some (.int .i64 ((rd_T81 l0_0 a0_1).f2)) ∧ w'.cell? ⟨(adp0_.add ((a0_1).toNat * 8)).block, (adp0_.add ((a0_1).toNat * 8)).off + 3, none⟩ = some (.string ((rd_T81 l0_0 a0_1).f3)) ∧ w'.cell? ⟨(adp0_.add ((a0_1).toNat * 8)).block, (adp0_.add ((a0_1).toNat * 8)).off + 4, none⟩ = some (.int .i64 ((rd_T81 l0_0 a0_1).f4)) ∧ w'.cell? ⟨(adp0_.add ((a0_1).toNat * 8)).block, (adp0_.add ((a0_1).toNat * 8)).off + 5, none⟩ = some (.bool ((rd_T81 l0_0 a0_1).f5)) ∧ w'.cell? ⟨(adp0_.add ((a0_1).toNat * 8)).block, (adp0_.add ((a0_1).toNat * 8)).off + 6, none⟩ = some (.int .i64 ((rd_T81 l0_0 a0_1).f6)) ∧ w'.cell? ⟨(adp0_.add ((a0_1).toNat * 8)).block, (adp0_.add ((a0_1).toNat * 8)).off + 7, none⟩ = some (.slice A182_7 ((rd_T81 l0_0 a0_1).f7).length c182_7)) (ds := []) m52_ s2_ rfl rfl ⟨((HB.out.cell (World.block_lt_of_cell? w _ hw182_0)).trans hw182_0), ((HB.out.cell (World.block_lt_of_cell? w _ hw182_1)).trans hw182_1), ((HB.out.cell (World.block_lt_of_cell? w _ hw182_2)).trans hw182_2), ((HB.out.cell (World.block_lt_of_cell? w _ hw182_3)).trans hw182_3), ((HB.out.cell (World.block_lt_of_cell? w _ hw182_4)).trans hw182_4), ((HB.out.cell (World.block_lt_of_cell? w _ hw182_5)).trans hw182_5), ((HB.out.cell (World.block_lt_of_cell? w _ hw182_6)).trans hw182_6), ((HB.out.cell (World.block_lt_of_cell? w _ hw182_7)).trans hw182_7)⟩ (fun hHeld => ?_); refine with_tabW spec_l03Message_v0.tab3 spec_l03Message_v0.bits3 (fun HT_ HW_ => ?_)
 generalize w34.drew = w35 at HB HR182_7 hx182_0 hx182_1 hx182_2 hx182_3 hx182_4 hx182_5 hx182_6 hx182_7 hHeld ⊢
 refine pu_ 0 54 m53_ (any_of HT_.out s2_) ?_
 refine pu_ 1 55 m54_ (any_of HT_.out s2_) ?_
 refine pu_ 2 56 m55_ (any_of HT_.out s2_) ?_
 refine take_ (i := 3) (N := some 57) (v := ?_) (a' := ?_) m56_ rfl rfl (take_ofW HT_.out HW_.out s2_) (fun _ _ _ h => h) (Or.inl ⟨by rfl, ?_⟩) hHeld ?_ ?_
 rotate_left
 {
 rintro w' ⟨s0, s1, s2, s3, s4, s5, s6, s7⟩
 go_simp
 with_reducible rfl}
 rotate_left
 · exact p1_
 refine pu_ 4 58 m57_ (any_of HT_.out s2_) ?_
 refine pu_ 5 59 m58_ (any_of HT_.out s2_) ?_
 refine pu_ 6 60 m59_ (any_of HT_.out s2_) ?_
 refine pu_ 7 61 m60_ (any_of HT_.out s2_) ?_
 refine pu_ 8 62 m61_ (any_of HT_.out s2_) ?_
 refine pu_ 9 63 m62_ (any_of HT_.out s2_) ?_
 refine take_ (i := 10) (N := some 64) (v := ?_) (a' := ?_) m63_ rfl rfl (take_ofW HT_.out HW_.out s2_) (fun _ _ _ h => h) (Or.inl ⟨by rfl, ?_⟩) hHeld ?_ ?_
 rotate_left
 {
 rintro w' ⟨s0, s1, s2, s3, s4, s5, s6, s7⟩
 go_simp
 with_reducible rfl}
 rotate_left
 · exact p1_
 refine one_ (i := 11) (N := some 65) m64_ rfl rfl (one_of HT_.out s2_) (by decide) (fun K hK => ?_)
 refine goes_ Try.func71 s2_ rfl #[.slice A182_7 ((rd_T81 l0_0 a0_1).f7).length c182_7] (by rfl) rfl rfl s3_ ?_
 with_reducible refine (spec_l01Members.calls k _ _ ((rd_T81 l0_0 a0_1).f7) false _ ?side1 ?side2 A19.out).mono ?_
 (case side1 => repeat (first | exact (Kd.C_below HR182_7.out HB.out) | (with_reducible refine Kd.C_alloc ?_ _) | (with_reducible refine Kd.C_drewN ?_ _) | (with_reducible refine Kd.C_drew ?_)))
 (case side2 => exact HC182_7.out)
 rintro e w' ⟨rfl, ⟨nd, rfl⟩⟩
 refine ⟨_, rfl, ?_⟩
 refine hK.out _ _ ⟨((HB.out.cell (World.block_lt_of_cell? w _ hw182_0)).trans hw182_0), ((HB.out.cell (World.block_lt_of_cell? w _ hw182_1)).trans hw182_1), ((HB.out.cell (World.block_lt_of_cell? w _ hw182_2)).trans hw182_2), ((HB.out.cell (World.block_lt_of_cell? w _ hw182_3)).trans hw182_3), ((HB.out.cell (World.block_lt_of_cell? w _ hw182_4)).trans hw182_4), ((HB.out.cell (World.block_lt_of_cell? w _ hw182_5)).trans hw182_5), ((HB.out.cell (World.block_lt_of_cell? w _ hw182_6)).trans hw182_6), ((HB.out.cell (World.block_lt_of_cell? w _ hw182_7)).trans hw182_7)⟩ (fun hHeld => ?_)
 clear hK K
 refine norm_ (a' := ?_) ?_ ?_
 rotate_left
 {
 show Act.put _ (some 65) _ = _
 simp only [Act.put, List.setIfInBounds_toArray, List.set_cons_zero, List.set_cons_succ, i64_w, i32_w]
 rfl}
 refine pu_ 12 66 m65_ (any_of HT_.out s2_) ?_
 refine pu_ 13 67 m66_ (any_of HT_.out s2_) ?_
 refine pu_ 14 68 m67_ (any_of HT_.out s2_) ?_
 refine pn_ 15 69 m68_ (any_of HT_.out s2_) ?_
 refine pn_ 16 70 m69_ (any_of HT_.out s2_) ?_
 refine pn_ 17 71 m70_ (any_of HT_.out s2_) ?_
 refine pn_ 18 72 m71_ (any_of HT_.out s2_) ?_
 refine pn_ 19 73 m72_ (any_of HT_.out s2_) ?_
 refine pn_ 20 74 m73_ (any_of HT_.out s2_) ?_
 refine pn_ 21 75 m74_ (any_of HT_.out s2_) ?_
 refine pn_ 22 76 m75_ (any_of HT_.out s2_) ?_
 refine pn_ 23 77 m76_ (any_of HT_.out s2_) ?_
 refine pu_ 24 78 m77_ (any_of HT_.out s2_) ?_
 refine done_ (done_of HT_.out s2_) ?_
 try go_wp2
 go_ret
 exact ⟨by first | rfl | (simp [errW_none, errW_some] <;> rfl) | (simp [*, errW_none, errW_some] <;> rfl), by repeat (first | (with_reducible first | exact HB.out | apply below_alloc | apply pw_below_drewN | apply below_drew1) | exact HB.out)⟩}}}
 {
 replace c15 := Bool.eq_false_iff.mpr c15
 subst c15
 have H1 : (some false) = some r := by rw [if_neg (show ¬ (false = true) by decide)] at H; exact H
 clear H
 have H := H1
 clear H1
 obtain rfl := Option.some.inj H
 have p174 : 0 ≤ (a0_1 : Int) := of_decide_eq_true (by first | (with_reducible assumption) | assumption)
 have q174 : a0_1 < (l0_0.length : Int) := of_decide_eq_true (by first | (with_reducible assumption) | assumption)
 obtain ⟨ad174, A174_7, c174_7, e174, hx174_0, hx174_1, hx174_2, hx174_3, hx174_4, hx174_5, hx174_6, hx174_7, hl174_7, hi174_7⟩ := at_T81 HR0_0.out a0_1 p174 q174
 obtain rfl : adp0_ = ad174 := (by injection e174)
 have HR174_7 := Aside0.mk hi174_7
 have HC174_7 := Aside0.mk hl174_7
 clear hi174_7 hl174_7
 replace p174 := eq_true p174
 replace q174 := eq_true q174
 go_enter Try.func57, Try.ntmps57
 try go_wp2
 have n0_ := Aside0.mk (below_drew1 HB.out)
 clear HB
 have HB := n0_
 clear n0_
 have p175 : 0 ≤ (a0_1 : Int) := of_decide_eq_true (by first | (with_reducible assumption) | assumption)
 have q175 : a0_1 < (l0_0.length : Int) := of_decide_eq_true (by first | (with_reducible assumption) | assumption)
 obtain ⟨ad175, A175_7, c175_7, e175, hx175_0, hx175_1, hx175_2, hx175_3, hx175_4, hx175_5, hx175_6, hx175_7, hl175_7, hi175_7⟩ := at_T81 HR0_0.out a0_1 p175 q175
 have hw175_7 := hx175_7
 have hw175_6 := hx175_6
 have hw175_5 := hx175_5
 have hw175_4 := hx175_4
 have hw175_3 := hx175_3
 have hw175_2 := hx175_2
 have hw175_1 := hx175_1
 have hw175_0 := hx175_0
 obtain rfl : adp0_ = ad175 := (by injection e175)
 replace hx175_0 := (HB.out.cell (World.block_lt_of_cell? w _ hx175_0)).trans hx175_0
 replace hx175_1 := (HB.out.cell (World.block_lt_of_cell? w _ hx175_1)).trans hx175_1
 replace hx175_2 := (HB.out.cell (World.block_lt_of_cell? w _ hx175_2)).trans hx175_2
 replace hx175_3 := (HB.out.cell (World.block_lt_of_cell? w _ hx175_3)).trans hx175_3
 replace hx175_4 := (HB.out.cell (World.block_lt_of_cell? w _ hx175_4)).trans hx175_4
 replace hx175_5 := (HB.out.cell (World.block_lt_of_cell? w _ hx175_5)).trans hx175_5
 replace hx175_6 := (HB.out.cell (World.block_lt_of_cell? w _ hx175_6)).trans hx175_6
 replace hx175_7 := (HB.out.cell (World.block_lt_of_cell? w _ hx175_7)).trans hx175_7
 have HR175_7 := Aside0.mk hi175_7
 have HC175_7 := Aside0.mk hl175_7
 clear hi175_7 hl175_7
 replace p175 := eq_true p175
 replace q175 := eq_true q175
 refine start_ (n := 51) (S := fun w' => w'.cell? (adp0_.add ((a0_1).toNat * 8)) = some (.int .i64 ((rd_T81 l0_0 a0_1).f0)) ∧ w'.cell? ⟨(adp0_.add ((a0_1).toNat * 8)).block, (adp0_.add ((a0_1).toNat * 8)).off + 1, none⟩ = some (.int .i64 ((rd_T81 l0_0 a0_1).f1)) ∧ w'.cell? ⟨(adp0_.add ((a0_1).toNat * 8)).block, (adp0_.add ((a0_1).toNat * 8)).off + 2, none⟩ = some (.int .i64 ((rd_T81 l0_0 a0_1).f2)) ∧ w'.cell? ⟨(adp0_.add ((a0_1).toNat * 8)).block, (adp0_.add ((a0_1).toNat * 8)).off + 3, none⟩ = some (.string ((rd_T81 l0_0 a0_1).f3)) ∧ w'.cell? ⟨(adp0_.add ((a0_1).toNat * 8)).block, (adp0_.add ((a0_1).toNat * 8)).off + 4, none⟩ = some (.int .i64 ((rd_T81 l0_0 a0_1).f4)) ∧ w'.cell? ⟨(adp0_.add ((a0_1).toNat * 8)).block, (adp0_.add ((a0_1).toNat * 8)).off + 5, none⟩ = some (.bool ((rd_T81 l0_0 a0_1).f5)) ∧ w'.cell? ⟨(adp0_.add ((a0_1).toNat * 8)).block, (adp0_.add ((a0_1).toNat * 8)).off + 6, none⟩ = some (.int .i64 ((rd_T81 l0_0 a0_1).f6)) ∧ w'.cell? ⟨(adp0_.add ((a0_1).toNat * 8)).block, (adp0_.add ((a0_1).toNat * 8)).off + 7, none⟩ = some (.slice A175_7 ((rd_T81 l0_0 a0_1).f7).length c175_7)) (ds := []) m0_ s2_ rfl rfl ⟨((HB.out.cell (World.block_lt_of_cell? w _ hw175_0)).trans hw175_0), ((HB.out.cell (World.block_lt_of_cell? w _ hw175_1)).trans hw175_1), ((HB.out.cell (World.block_lt_of_cell? w _ hw175_2)).trans hw175_2), ((HB.out.cell (World.block_lt_of_cell? w _ hw175_3)).trans hw175_3), ((HB.out.cell (World.block_lt_of_cell? w _ hw175_4)).trans hw175_4), ((HB.out.cell (World.block_lt_of_cell? w _ hw175_5)).trans hw175_5), ((HB.out.cell (World.block_lt_of_cell? w _ hw175_6)).trans hw175_6), ((HB.out.cell (World.block_lt_of_cell? w _ hw175_7)).trans hw175_7)⟩ (fun hHeld => ?_); refine with_tabW spec_l03Message_v0.tab1 spec_l03Message_v0.bits1 (fun HT_ HW_ => ?_)
 generalize w.drew = w36 at HB HR175_7 hx175_0 hx175_1 hx175_2 hx175_3 hx175_4 hx175_5 hx175_6 hx175_7 hHeld ⊢
 refine pu_ 0 3 m1_ (any_of HT_.out s2_) ?_
 refine pu_ 1 4 m2_ (any_of HT_.out s2_) ?_
 refine pu_ 2 5 m3_ (any_of HT_.out s2_) ?_
 refine take_ (i := 3) (N := some 6) (v := ?_) (a' := ?_) m4_ rfl rfl (take_ofW HT_.out HW_.out s2_) (fun _ _ _ h => h) (Or.inl ⟨by rfl, ?_⟩) hHeld ?_ ?_
 rotate_left
 {
 rintro w' ⟨s0, s1, s2, s3, s4, s5, s6, s7⟩
 go_simp
 with_reducible rfl}
 rotate_left
 · exact p1_
 refine one_ (i := 4) (N := some 7) m5_ rfl rfl (one_of HT_.out s2_) (by decide) (fun K hK => ?_)
 refine goes_ Try.func52 s2_ rfl #[.int .i64 ((rd_T81 l0_0 a0_1).f0), .int .i64 1, .int .i64 1000000000] (by rfl) rfl rfl s3_ ?_
 with_reducible refine (spec_l00In.calls ((rd_T81 l0_0 a0_1).f0) 1 1000000000 true _ A4.out).mono ?_
 rintro e w' ⟨rfl, ⟨nd, rfl⟩⟩
 refine ⟨_, rfl, ?_⟩
 refine hK.out _ _ ⟨((HB.out.cell (World.block_lt_of_cell? w _ hw175_0)).trans hw175_0), ((HB.out.cell (World.block_lt_of_cell? w _ hw175_1)).trans hw175_1), ((HB.out.cell (World.block_lt_of_cell? w _ hw175_2)).trans hw175_2), ((HB.out.cell (World.block_lt_of_cell? w _ hw175_3)).trans hw175_3), ((HB.out.cell (World.block_lt_of_cell? w _ hw175_4)).trans hw175_4), ((HB.out.cell (World.block_lt_of_cell? w _ hw175_5)).trans hw175_5), ((HB.out.cell (World.block_lt_of_cell? w _ hw175_6)).trans hw175_6), ((HB.out.cell (World.block_lt_of_cell? w _ hw175_7)).trans hw175_7)⟩ (fun hHeld => ?_)
 clear hK K
 refine norm_ (a' := ?_) ?_ ?_
 rotate_left
 {
 show Act.put _ (some 7) _ = _
 simp only [Act.put, List.setIfInBounds_toArray, List.set_cons_zero, List.set_cons_succ, i64_w, i32_w]
 rfl}
 refine pu_ 5 8 m6_ (any_of HT_.out s2_) ?_
 refine pu_ 6 9 m7_ (any_of HT_.out s2_) ?_
 refine pu_ 7 10 m8_ (any_of HT_.out s2_) ?_
 refine pu_ 8 11 m9_ (any_of HT_.out s2_) ?_
 refine pu_ 9 12 m10_ (any_of HT_.out s2_) ?_
 refine take_ (i := 10) (N := some 13) (v := ?_) (a' := ?_) m11_ rfl rfl (take_ofW HT_.out HW_.out s2_) (fun _ _ _ h => h) (Or.inl ⟨by rfl, ?_⟩) hHeld ?_ ?_
 rotate_left
 {
 rintro w' ⟨s0, s1, s2, s3, s4, s5, s6, s7⟩
 go_simp
 with_reducible rfl}
 rotate_left
 · exact p1_
 refine one_ (i := 11) (N := some 14) m12_ rfl rfl (one_of HT_.out s2_) (by decide) (fun K hK => ?_)
 refine goes_ Try.func53 s2_ rfl #[.int .i64 ((rd_T81 l0_0 a0_1).f1)] (by rfl) rfl rfl s3_ ?_
 with_reducible refine (spec_l01Member.calls ((rd_T81 l0_0 a0_1).f1) true _ A6.out).mono ?_
 rintro e w' ⟨rfl, ⟨nd, rfl⟩⟩
 refine ⟨_, rfl, ?_⟩
 refine hK.out _ _ ⟨((HB.out.cell (World.block_lt_of_cell? w _ hw175_0)).trans hw175_0), ((HB.out.cell (World.block_lt_of_cell? w _ hw175_1)).trans hw175_1), ((HB.out.cell (World.block_lt_of_cell? w _ hw175_2)).trans hw175_2), ((HB.out.cell (World.block_lt_of_cell? w _ hw175_3)).trans hw175_3), ((HB.out.cell (World.block_lt_of_cell? w _ hw175_4)).trans hw175_4), ((HB.out.cell (World.block_lt_of_cell? w _ hw175_5)).trans hw175_5), ((HB.out.cell (World.block_lt_of_cell? w _ hw175_6)).trans hw175_6), ((HB.out.cell (World.block_lt_of_cell? w _ hw175_7)).trans hw175_7)⟩ (fun hHeld => ?_)
 clear hK K
 refine norm_ (a' := ?_) ?_ ?_
 rotate_left
 {
 show Act.put _ (some 14) _ = _
 simp only [Act.put, List.setIfInBounds_toArray, List.set_cons_zero, List.set_cons_succ, i64_w, i32_w]
 rfl}
 refine pu_ 12 15 m13_ (any_of HT_.out s2_) ?_
 refine pu_ 13 16 m14_ (any_of HT_.out s2_) ?_
 refine pu_ 14 17 m15_ (any_of HT_.out s2_) ?_
 refine pu_ 15 18 m16_ (any_of HT_.out s2_) ?_
 refine pu_ 16 19 m17_ (any_of HT_.out s2_) ?_
 refine pu_ 17 20 m18_ (any_of HT_.out s2_) ?_
 refine take_ (i := 18) (N := some 21) (v := ?_) (a' := ?_) m19_ rfl rfl (take_ofW HT_.out HW_.out s2_) (fun _ _ _ h => h) (Or.inl ⟨by rfl, ?_⟩) hHeld ?_ ?_
 rotate_left
 {
 rintro w' ⟨s0, s1, s2, s3, s4, s5, s6, s7⟩
 go_simp
 with_reducible rfl}
 rotate_left
 · exact p1_
 refine one_ (i := 19) (N := some 22) m20_ rfl rfl (one_of HT_.out s2_) (by decide) (fun K hK => ?_)
 refine goes_ Try.func54 s2_ rfl #[.int .i64 ((rd_T81 l0_0 a0_1).f2)] (by rfl) rfl rfl s3_ ?_
 with_reducible refine (spec_l01Tick.calls ((rd_T81 l0_0 a0_1).f2) true _ A8.out).mono ?_
 rintro e w' ⟨rfl, ⟨nd, rfl⟩⟩
 refine ⟨_, rfl, ?_⟩
 refine hK.out _ _ ⟨((HB.out.cell (World.block_lt_of_cell? w _ hw175_0)).trans hw175_0), ((HB.out.cell (World.block_lt_of_cell? w _ hw175_1)).trans hw175_1), ((HB.out.cell (World.block_lt_of_cell? w _ hw175_2)).trans hw175_2), ((HB.out.cell (World.block_lt_of_cell? w _ hw175_3)).trans hw175_3), ((HB.out.cell (World.block_lt_of_cell? w _ hw175_4)).trans hw175_4), ((HB.out.cell (World.block_lt_of_cell? w _ hw175_5)).trans hw175_5), ((HB.out.cell (World.block_lt_of_cell? w _ hw175_6)).trans hw175_6), ((HB.out.cell (World.block_lt_of_cell? w _ hw175_7)).trans hw175_7)⟩ (fun hHeld => ?_)
 clear hK K
 refine norm_ (a' := ?_) ?_ ?_
 rotate_left
 {
 show Act.put _ (some 22) _ = _
 simp only [Act.put, List.setIfInBounds_toArray, List.set_cons_zero, List.set_cons_succ, i64_w, i32_w]
 rfl}
 refine pu_ 20 23 m21_ (any_of HT_.out s2_) ?_
 refine pu_ 21 24 m22_ (any_of HT_.out s2_) ?_
 refine pu_ 22 25 m23_ (any_of HT_.out s2_) ?_
 refine pu_ 23 26 m24_ (any_of HT_.out s2_) ?_
 refine pu_ 24 27 m25_ (any_of HT_.out s2_) ?_
 refine pu_ 25 28 m26_ (any_of HT_.out s2_) ?_
 refine take_ (i := 26) (N := some 29) (v := ?_) (a' := ?_) m27_ rfl rfl (take_ofW HT_.out HW_.out s2_) (fun _ _ _ h => h) (Or.inl ⟨by rfl, ?_⟩) hHeld ?_ ?_
 rotate_left
 {
 rintro w' ⟨s0, s1, s2, s3, s4, s5, s6, s7⟩
 go_simp
 with_reducible rfl}
 rotate_left
 · exact p1_
 refine one_ (i := 27) (N := some 30) m28_ rfl rfl (one_of HT_.out s2_) (by decide) (fun K hK => ?_)
 refine goes_ Try.func55 s2_ rfl #[.string ((rd_T81 l0_0 a0_1).f3)] (by rfl) rfl rfl s3_ ?_
 with_reducible refine (spec_l01IsText.calls k ((rd_T81 l0_0 a0_1).f3) true _ A10.out).mono ?_
 rintro e w' ⟨rfl, ⟨nd, rfl⟩⟩
 refine ⟨_, rfl, ?_⟩
 refine hK.out _ _ ⟨((HB.out.cell (World.block_lt_of_cell? w _ hw175_0)).trans hw175_0), ((HB.out.cell (World.block_lt_of_cell? w _ hw175_1)).trans hw175_1), ((HB.out.cell (World.block_lt_of_cell? w _ hw175_2)).trans hw175_2), ((HB.out.cell (World.block_lt_of_cell? w _ hw175_3)).trans hw175_3), ((HB.out.cell (World.block_lt_of_cell? w _ hw175_4)).trans hw175_4), ((HB.out.cell (World.block_lt_of_cell? w _ hw175_5)).trans hw175_5), ((HB.out.cell (World.block_lt_of_cell? w _ hw175_6)).trans hw175_6), ((HB.out.cell (World.block_lt_of_cell? w _ hw175_7)).trans hw175_7)⟩ (fun hHeld => ?_)
 clear hK K
 refine norm_ (a' := ?_) ?_ ?_
 rotate_left
 {
 show Act.put _ (some 30) _ = _
 simp only [Act.put, List.setIfInBounds_toArray, List.set_cons_zero, List.set_cons_succ, i64_w, i32_w]
 rfl}
 refine pu_ 28 31 m29_ (any_of HT_.out s2_) ?_
 refine pu_ 29 32 m30_ (any_of HT_.out s2_) ?_
 refine pu_ 30 33 m31_ (any_of HT_.out s2_) ?_
 refine pu_ 31 34 m32_ (any_of HT_.out s2_) ?_
 refine pu_ 32 35 m33_ (any_of HT_.out s2_) ?_
 refine pu_ 33 36 m34_ (any_of HT_.out s2_) ?_
 refine take_ (i := 34) (N := some 37) (v := ?_) (a' := ?_) m35_ rfl rfl (take_ofW HT_.out HW_.out s2_) (fun _ _ _ h => h) (Or.inl ⟨by rfl, ?_⟩) hHeld ?_ ?_
 rotate_left
 {
 rintro w' ⟨s0, s1, s2, s3, s4, s5, s6, s7⟩
 go_simp
 with_reducible rfl}
 rotate_left
 · exact p1_
 refine one_ (i := 35) (N := some 38) m36_ rfl rfl (one_of HT_.out s2_) (by decide) (fun K hK => ?_)
 refine goes_ Try.func52 s2_ rfl #[.int .i64 ((rd_T81 l0_0 a0_1).f4), .int .i64 0, .int .i64 1000000000] (by rfl) rfl rfl s3_ ?_
 with_reducible refine (spec_l00In.calls ((rd_T81 l0_0 a0_1).f4) 0 1000000000 true _ A12.out).mono ?_
 rintro e w' ⟨rfl, ⟨nd, rfl⟩⟩
 refine ⟨_, rfl, ?_⟩
 refine hK.out _ _ ⟨((HB.out.cell (World.block_lt_of_cell? w _ hw175_0)).trans hw175_0), ((HB.out.cell (World.block_lt_of_cell? w _ hw175_1)).trans hw175_1), ((HB.out.cell (World.block_lt_of_cell? w _ hw175_2)).trans hw175_2), ((HB.out.cell (World.block_lt_of_cell? w _ hw175_3)).trans hw175_3), ((HB.out.cell (World.block_lt_of_cell? w _ hw175_4)).trans hw175_4), ((HB.out.cell (World.block_lt_of_cell? w _ hw175_5)).trans hw175_5), ((HB.out.cell (World.block_lt_of_cell? w _ hw175_6)).trans hw175_6), ((HB.out.cell (World.block_lt_of_cell? w _ hw175_7)).trans hw175_7)⟩ (fun hHeld => ?_)
 clear hK K
 refine norm_ (a' := ?_) ?_ ?_
 rotate_left
 {
 show Act.put _ (some 38) _ = _
 simp only [Act.put, List.setIfInBounds_toArray, List.set_cons_zero, List.set_cons_succ, i64_w, i32_w]
 rfl}
 refine pu_ 36 39 m37_ (any_of HT_.out s2_) ?_
 refine pu_ 37 40 m38_ (any_of HT_.out s2_) ?_
 refine pu_ 38 41 m39_ (any_of HT_.out s2_) ?_
 refine pu_ 39 42 m40_ (any_of HT_.out s2_) ?_
 refine pu_ 40 43 m41_ (any_of HT_.out s2_) ?_
 refine pu_ 41 44 m42_ (any_of HT_.out s2_) ?_
 refine pu_ 43 46 m43_ (any_of HT_.out s2_) ?_
 refine pu_ 44 47 m44_ (any_of HT_.out s2_) ?_
 refine pu_ 45 48 m45_ (any_of HT_.out s2_) ?_
 refine take_ (i := 42) (N := some 45) (v := ?_) (a' := ?_) m46_ rfl rfl (take_ofW HT_.out HW_.out s2_) (fun _ _ _ h => h) (Or.inl ⟨by rfl, ?_⟩) hHeld ?_ ?_
 rotate_left
 {
 rintro w' ⟨s0, s1, s2, s3, s4, s5, s6, s7⟩
 go_simp
 with_reducible rfl}
 rotate_left
 · exact p1_
 refine take_ (i := 46) (N := some 49) (v := ?_) (a' := ?_) m47_ rfl rfl (take_ofW HT_.out HW_.out s2_) (fun _ _ _ h => h) (Or.inl ⟨by rfl, ?_⟩) hHeld ?_ ?_
 rotate_left
 {
 rintro w' ⟨s0, s1, s2, s3, s4, s5, s6, s7⟩
 go_simp
 with_reducible rfl}
 rotate_left
 · exact p1_
 refine pu_ 47 50 m48_ (any_of HT_.out s2_) ?_
 refine one_ (i := 48) (N := some 51) m49_ rfl rfl (one_of HT_.out s2_) (by decide) (fun K hK => ?_)
 refine goes_ Try.func52 s2_ rfl #[.int .i64 ((rd_T81 l0_0 a0_1).f6), .int .i64 0, .int .i64 (wrap64 (((rd_T81 l0_0 a0_1).f0) - 1))] (by rfl) rfl rfl s3_ ?_
 with_reducible refine (spec_l00In.calls ((rd_T81 l0_0 a0_1).f6) 0 (wrap64 (((rd_T81 l0_0 a0_1).f0) - 1)) false _ A14.out).mono ?_
 rintro e w' ⟨rfl, ⟨nd, rfl⟩⟩
 refine ⟨_, rfl, ?_⟩
 refine hK.out _ _ ⟨((HB.out.cell (World.block_lt_of_cell? w _ hw175_0)).trans hw175_0), ((HB.out.cell (World.block_lt_of_cell? w _ hw175_1)).trans hw175_1), ((HB.out.cell (World.block_lt_of_cell? w _ hw175_2)).trans hw175_2), ((HB.out.cell (World.block_lt_of_cell? w _ hw175_3)).trans hw175_3), ((HB.out.cell (World.block_lt_of_cell? w _ hw175_4)).trans hw175_4), ((HB.out.cell (World.block_lt_of_cell? w _ hw175_5)).trans hw175_5), ((HB.out.cell (World.block_lt_of_cell? w _ hw175_6)).trans hw175_6), ((HB.out.cell (World.block_lt_of_cell? w _ hw175_7)).trans hw175_7)⟩ (fun hHeld => ?_)
 clear hK K
 refine norm_ (a' := ?_) ?_ ?_
 rotate_left
 {
 show Act.put _ (some 51) _ = _
 simp only [Act.put, List.setIfInBounds_toArray, List.set_cons_zero, List.set_cons_succ, i64_w, i32_w]
 rfl}
 refine pu_ 49 52 m50_ (any_of HT_.out s2_) ?_
 refine pu_ 50 53 m51_ (any_of HT_.out s2_) ?_
 refine done_ (done_of HT_.out s2_) ?_
 try go_wp2
 go_ret
 exact ⟨by first | rfl | (simp [errW_none, errW_some] <;> rfl) | (simp [*, errW_none, errW_some] <;> rfl), by repeat (first | (with_reducible first | exact HB.out | apply below_alloc | apply pw_below_drewN | apply below_drew1) | exact HB.out)⟩}}
 {
 replace c13 := Bool.eq_false_iff.mpr c13
 subst c13
 have H1 : (some false) = some r := by rw [if_neg (show ¬ (false = true) by decide)] at H; exact H
 clear H
 have H := H1
 clear H1
 obtain rfl := Option.some.inj H
 have p174 : 0 ≤ (a0_1 : Int) := of_decide_eq_true (by first | (with_reducible assumption) | assumption)
 have q174 : a0_1 < (l0_0.length : Int) := of_decide_eq_true (by first | (with_reducible assumption) | assumption)
 obtain ⟨ad174, A174_7, c174_7, e174, hx174_0, hx174_1, hx174_2, hx174_3, hx174_4, hx174_5, hx174_6, hx174_7, hl174_7, hi174_7⟩ := at_T81 HR0_0.out a0_1 p174 q174
 obtain rfl : adp0_ = ad174 := (by injection e174)
 have HR174_7 := Aside0.mk hi174_7
 have HC174_7 := Aside0.mk hl174_7
 clear hi174_7 hl174_7
 replace p174 := eq_true p174
 replace q174 := eq_true q174
 go_enter Try.func57, Try.ntmps57
 try go_wp2
 have n0_ := Aside0.mk (below_drew1 HB.out)
 clear HB
 have HB := n0_
 clear n0_
 have p175 : 0 ≤ (a0_1 : Int) := of_decide_eq_true (by first | (with_reducible assumption) | assumption)
 have q175 : a0_1 < (l0_0.length : Int) := of_decide_eq_true (by first | (with_reducible assumption) | assumption)
 obtain ⟨ad175, A175_7, c175_7, e175, hx175_0, hx175_1, hx175_2, hx175_3, hx175_4, hx175_5, hx175_6, hx175_7, hl175_7, hi175_7⟩ := at_T81 HR0_0.out a0_1 p175 q175
 have hw175_7 := hx175_7
 have hw175_6 := hx175_6
 have hw175_5 := hx175_5
 have hw175_4 := hx175_4
 have hw175_3 := hx175_3
 have hw175_2 := hx175_2
 have hw175_1 := hx175_1
 have hw175_0 := hx175_0
 obtain rfl : adp0_ = ad175 := (by injection e175)
 replace hx175_0 := (HB.out.cell (World.block_lt_of_cell? w _ hx175_0)).trans hx175_0
 replace hx175_1 := (HB.out.cell (World.block_lt_of_cell? w _ hx175_1)).trans hx175_1
 replace hx175_2 := (HB.out.cell (World.block_lt_of_cell? w _ hx175_2)).trans hx175_2
 replace hx175_3 := (HB.out.cell (World.block_lt_of_cell? w _ hx175_3)).trans hx175_3
 replace hx175_4 := (HB.out.cell (World.block_lt_of_cell? w _ hx175_4)).trans hx175_4
 replace hx175_5 := (HB.out.cell (World.block_lt_of_cell? w _ hx175_5)).trans hx175_5
 replace hx175_6 := (HB.out.cell (World.block_lt_of_cell? w _ hx175_6)).trans hx175_6
 replace hx175_7 := (HB.out.cell (World.block_lt_of_cell? w _ hx175_7)).trans hx175_7
 have HR175_7 := Aside0.mk hi175_7
 have HC175_7 := Aside0.mk hl175_7
 clear hi175_7 hl175_7
 replace p175 := eq_true p175
 replace q175 := eq_true q175
 refine start_ (n := 51) (S := fun w' => w'.cell? (adp0_.add ((a0_1).toNat * 8)) = some (.int .i64 ((rd_T81 l0_0 a0_1).f0)) ∧ w'.cell? ⟨(adp0_.add ((a0_1).toNat * 8)).block, (adp0_.add ((a0_1).toNat * 8)).off + 1, none⟩ = some (.int .i64 ((rd_T81 l0_0 a0_1).f1)) ∧ w'.cell? ⟨(adp0_.add ((a0_1).toNat * 8)).block, (adp0_.add ((a0_1).toNat * 8)).off + 2, none⟩ = some (.int .i64 ((rd_T81 l0_0 a0_1).f2)) ∧ w'.cell? ⟨(adp0_.add ((a0_1).toNat * 8)).block, (adp0_.add ((a0_1).toNat * 8)).off + 3, none⟩ = some (.string ((rd_T81 l0_0 a0_1).f3)) ∧ w'.cell? ⟨(adp0_.add ((a0_1).toNat * 8)).block, (adp0_.add ((a0_1).toNat * 8)).off + 4, none⟩ = some (.int .i64 ((rd_T81 l0_0 a0_1).f4)) ∧ w'.cell? ⟨(adp0_.add ((a0_1).toNat * 8)).block, (adp0_.add ((a0_1).toNat * 8)).off + 5, none⟩ = some (.bool ((rd_T81 l0_0 a0_1).f5)) ∧ w'.cell? ⟨(adp0_.add ((a0_1).toNat * 8)).block, (adp0_.add ((a0_1).toNat * 8)).off + 6, none⟩ = some (.int .i64 ((rd_T81 l0_0 a0_1).f6)) ∧ w'.cell? ⟨(adp0_.add ((a0_1).toNat * 8)).block, (adp0_.add ((a0_1).toNat * 8)).off + 7, none⟩ = some (.slice A175_7 ((rd_T81 l0_0 a0_1).f7).length c175_7)) (ds := []) m0_ s2_ rfl rfl ⟨((HB.out.cell (World.block_lt_of_cell? w _ hw175_0)).trans hw175_0), ((HB.out.cell (World.block_lt_of_cell? w _ hw175_1)).trans hw175_1), ((HB.out.cell (World.block_lt_of_cell? w _ hw175_2)).trans hw175_2), ((HB.out.cell (World.block_lt_of_cell? w _ hw175_3)).trans hw175_3), ((HB.out.cell (World.block_lt_of_cell? w _ hw175_4)).trans hw175_4), ((HB.out.cell (World.block_lt_of_cell? w _ hw175_5)).trans hw175_5), ((HB.out.cell (World.block_lt_of_cell? w _ hw175_6)).trans hw175_6), ((HB.out.cell (World.block_lt_of_cell? w _ hw175_7)).trans hw175_7)⟩ (fun hHeld => ?_); refine with_tabW spec_l03Message_v0.tab1 spec_l03Message_v0.bits1 (fun HT_ HW_ => ?_)
 generalize w.drew = w37 at HB HR175_7 hx175_0 hx175_1 hx175_2 hx175_3 hx175_4 hx175_5 hx175_6 hx175_7 hHeld ⊢
 refine pu_ 0 3 m1_ (any_of HT_.out s2_) ?_
 refine pu_ 1 4 m2_ (any_of HT_.out s2_) ?_
 refine pu_ 2 5 m3_ (any_of HT_.out s2_) ?_
 refine take_ (i := 3) (N := some 6) (v := ?_) (a' := ?_) m4_ rfl rfl (take_ofW HT_.out HW_.out s2_) (fun _ _ _ h => h) (Or.inl ⟨by rfl, ?_⟩) hHeld ?_ ?_
 rotate_left
 {
 rintro w' ⟨s0, s1, s2, s3, s4, s5, s6, s7⟩
 go_simp
 with_reducible rfl}
 rotate_left
 · exact p1_
 refine one_ (i := 4) (N := some 7) m5_ rfl rfl (one_of HT_.out s2_) (by decide) (fun K hK => ?_)
 refine goes_ Try.func52 s2_ rfl #[.int .i64 ((rd_T81 l0_0 a0_1).f0), .int .i64 1, .int .i64 1000000000] (by rfl) rfl rfl s3_ ?_
 with_reducible refine (spec_l00In.calls ((rd_T81 l0_0 a0_1).f0) 1 1000000000 true _ A4.out).mono ?_
 rintro e w' ⟨rfl, ⟨nd, rfl⟩⟩
 refine ⟨_, rfl, ?_⟩
 refine hK.out _ _ ⟨((HB.out.cell (World.block_lt_of_cell? w _ hw175_0)).trans hw175_0), ((HB.out.cell (World.block_lt_of_cell? w _ hw175_1)).trans hw175_1), ((HB.out.cell (World.block_lt_of_cell? w _ hw175_2)).trans hw175_2), ((HB.out.cell (World.block_lt_of_cell? w _ hw175_3)).trans hw175_3), ((HB.out.cell (World.block_lt_of_cell? w _ hw175_4)).trans hw175_4), ((HB.out.cell (World.block_lt_of_cell? w _ hw175_5)).trans hw175_5), ((HB.out.cell (World.block_lt_of_cell? w _ hw175_6)).trans hw175_6), ((HB.out.cell (World.block_lt_of_cell? w _ hw175_7)).trans hw175_7)⟩ (fun hHeld => ?_)
 clear hK K
 refine norm_ (a' := ?_) ?_ ?_
 rotate_left
 {
 show Act.put _ (some 7) _ = _
 simp only [Act.put, List.setIfInBounds_toArray, List.set_cons_zero, List.set_cons_succ, i64_w, i32_w]
 rfl}
 refine pu_ 5 8 m6_ (any_of HT_.out s2_) ?_
 refine pu_ 6 9 m7_ (any_of HT_.out s2_) ?_
 refine pu_ 7 10 m8_ (any_of HT_.out s2_) ?_
 refine pu_ 8 11 m9_ (any_of HT_.out s2_) ?_
 refine pu_ 9 12 m10_ (any_of HT_.out s2_) ?_
 refine take_ (i := 10) (N := some 13) (v := ?_) (a' := ?_) m11_ rfl rfl (take_ofW HT_.out HW_.out s2_) (fun _ _ _ h => h) (Or.inl ⟨by rfl, ?_⟩) hHeld ?_ ?_
 rotate_left
 {
 rintro w' ⟨s0, s1, s2, s3, s4, s5, s6, s7⟩
 go_simp
 with_reducible rfl}
 rotate_left
 · exact p1_
 refine one_ (i := 11) (N := some 14) m12_ rfl rfl (one_of HT_.out s2_) (by decide) (fun K hK => ?_)
 refine goes_ Try.func53 s2_ rfl #[.int .i64 ((rd_T81 l0_0 a0_1).f1)] (by rfl) rfl rfl s3_ ?_
 with_reducible refine (spec_l01Member.calls ((rd_T81 l0_0 a0_1).f1) true _ A6.out).mono ?_
 rintro e w' ⟨rfl, ⟨nd, rfl⟩⟩
 refine ⟨_, rfl, ?_⟩
 refine hK.out _ _ ⟨((HB.out.cell (World.block_lt_of_cell? w _ hw175_0)).trans hw175_0), ((HB.out.cell (World.block_lt_of_cell? w _ hw175_1)).trans hw175_1), ((HB.out.cell (World.block_lt_of_cell? w _ hw175_2)).trans hw175_2), ((HB.out.cell (World.block_lt_of_cell? w _ hw175_3)).trans hw175_3), ((HB.out.cell (World.block_lt_of_cell? w _ hw175_4)).trans hw175_4), ((HB.out.cell (World.block_lt_of_cell? w _ hw175_5)).trans hw175_5), ((HB.out.cell (World.block_lt_of_cell? w _ hw175_6)).trans hw175_6), ((HB.out.cell (World.block_lt_of_cell? w _ hw175_7)).trans hw175_7)⟩ (fun hHeld => ?_)
 clear hK K
 refine norm_ (a' := ?_) ?_ ?_
 rotate_left
 {
 show Act.put _ (some 14) _ = _
 simp only [Act.put, List.setIfInBounds_toArray, List.set_cons_zero, List.set_cons_succ, i64_w, i32_w]
 rfl}
 refine pu_ 12 15 m13_ (any_of HT_.out s2_) ?_
 refine pu_ 13 16 m14_ (any_of HT_.out s2_) ?_
 refine pu_ 14 17 m15_ (any_of HT_.out s2_) ?_
 refine pu_ 15 18 m16_ (any_of HT_.out s2_) ?_
 refine pu_ 16 19 m17_ (any_of HT_.out s2_) ?_
 refine pu_ 17 20 m18_ (any_of HT_.out s2_) ?_
 refine take_ (i := 18) (N := some 21) (v := ?_) (a' := ?_) m19_ rfl rfl (take_ofW HT_.out HW_.out s2_) (fun _ _ _ h => h) (Or.inl ⟨by rfl, ?_⟩) hHeld ?_ ?_
 rotate_left
 {
 rintro w' ⟨s0, s1, s2, s3, s4, s5, s6, s7⟩
 go_simp
 with_reducible rfl}
 rotate_left
 · exact p1_
 refine one_ (i := 19) (N := some 22) m20_ rfl rfl (one_of HT_.out s2_) (by decide) (fun K hK => ?_)
 refine goes_ Try.func54 s2_ rfl #[.int .i64 ((rd_T81 l0_0 a0_1).f2)] (by rfl) rfl rfl s3_ ?_
 with_reducible refine (spec_l01Tick.calls ((rd_T81 l0_0 a0_1).f2) true _ A8.out).mono ?_
 rintro e w' ⟨rfl, ⟨nd, rfl⟩⟩
 refine ⟨_, rfl, ?_⟩
 refine hK.out _ _ ⟨((HB.out.cell (World.block_lt_of_cell? w _ hw175_0)).trans hw175_0), ((HB.out.cell (World.block_lt_of_cell? w _ hw175_1)).trans hw175_1), ((HB.out.cell (World.block_lt_of_cell? w _ hw175_2)).trans hw175_2), ((HB.out.cell (World.block_lt_of_cell? w _ hw175_3)).trans hw175_3), ((HB.out.cell (World.block_lt_of_cell? w _ hw175_4)).trans hw175_4), ((HB.out.cell (World.block_lt_of_cell? w _ hw175_5)).trans hw175_5), ((HB.out.cell (World.block_lt_of_cell? w _ hw175_6)).trans hw175_6), ((HB.out.cell (World.block_lt_of_cell? w _ hw175_7)).trans hw175_7)⟩ (fun hHeld => ?_)
 clear hK K
 refine norm_ (a' := ?_) ?_ ?_
 rotate_left
 {
 show Act.put _ (some 22) _ = _
 simp only [Act.put, List.setIfInBounds_toArray, List.set_cons_zero, List.set_cons_succ, i64_w, i32_w]
 rfl}
 refine pu_ 20 23 m21_ (any_of HT_.out s2_) ?_
 refine pu_ 21 24 m22_ (any_of HT_.out s2_) ?_
 refine pu_ 22 25 m23_ (any_of HT_.out s2_) ?_
 refine pu_ 23 26 m24_ (any_of HT_.out s2_) ?_
 refine pu_ 24 27 m25_ (any_of HT_.out s2_) ?_
 refine pu_ 25 28 m26_ (any_of HT_.out s2_) ?_
 refine take_ (i := 26) (N := some 29) (v := ?_) (a' := ?_) m27_ rfl rfl (take_ofW HT_.out HW_.out s2_) (fun _ _ _ h => h) (Or.inl ⟨by rfl, ?_⟩) hHeld ?_ ?_
 rotate_left
 {
 rintro w' ⟨s0, s1, s2, s3, s4, s5, s6, s7⟩
 go_simp
 with_reducible rfl}
 rotate_left
 · exact p1_
 refine one_ (i := 27) (N := some 30) m28_ rfl rfl (one_of HT_.out s2_) (by decide) (fun K hK => ?_)
 refine goes_ Try.func55 s2_ rfl #[.string ((rd_T81 l0_0 a0_1).f3)] (by rfl) rfl rfl s3_ ?_
 with_reducible refine (spec_l01IsText.calls k ((rd_T81 l0_0 a0_1).f3) true _ A10.out).mono ?_
 rintro e w' ⟨rfl, ⟨nd, rfl⟩⟩
 refine ⟨_, rfl, ?_⟩
 refine hK.out _ _ ⟨((HB.out.cell (World.block_lt_of_cell? w _ hw175_0)).trans hw175_0), ((HB.out.cell (World.block_lt_of_cell? w _ hw175_1)).trans hw175_1), ((HB.out.cell (World.block_lt_of_cell? w _ hw175_2)).trans hw175_2), ((HB.out.cell (World.block_lt_of_cell? w _ hw175_3)).trans hw175_3), ((HB.out.cell (World.block_lt_of_cell? w _ hw175_4)).trans hw175_4), ((HB.out.cell (World.block_lt_of_cell? w _ hw175_5)).trans hw175_5), ((HB.out.cell (World.block_lt_of_cell? w _ hw175_6)).trans hw175_6), ((HB.out.cell (World.block_lt_of_cell? w _ hw175_7)).trans hw175_7)⟩ (fun hHeld => ?_)
 clear hK K
 refine norm_ (a' := ?_) ?_ ?_
 rotate_left
 {
 show Act.put _ (some 30) _ = _
 simp only [Act.put, List.setIfInBounds_toArray, List.set_cons_zero, List.set_cons_succ, i64_w, i32_w]
 rfl}
 refine pu_ 28 31 m29_ (any_of HT_.out s2_) ?_
 refine pu_ 29 32 m30_ (any_of HT_.out s2_) ?_
 refine pu_ 30 33 m31_ (any_of HT_.out s2_) ?_
 refine pu_ 31 34 m32_ (any_of HT_.out s2_) ?_
 refine pu_ 32 35 m33_ (any_of HT_.out s2_) ?_
 refine pu_ 33 36 m34_ (any_of HT_.out s2_) ?_
 refine take_ (i := 34) (N := some 37) (v := ?_) (a' := ?_) m35_ rfl rfl (take_ofW HT_.out HW_.out s2_) (fun _ _ _ h => h) (Or.inl ⟨by rfl, ?_⟩) hHeld ?_ ?_
 rotate_left
 {
 rintro w' ⟨s0, s1, s2, s3, s4, s5, s6, s7⟩
 go_simp
 with_reducible rfl}
 rotate_left
 · exact p1_
 refine one_ (i := 35) (N := some 38) m36_ rfl rfl (one_of HT_.out s2_) (by decide) (fun K hK => ?_)
 refine goes_ Try.func52 s2_ rfl #[.int .i64 ((rd_T81 l0_0 a0_1).f4), .int .i64 0, .int .i64 1000000000] (by rfl) rfl rfl s3_ ?_
 with_reducible refine (spec_l00In.calls ((rd_T81 l0_0 a0_1).f4) 0 1000000000 false _ A12.out).mono ?_
 rintro e w' ⟨rfl, ⟨nd, rfl⟩⟩
 refine ⟨_, rfl, ?_⟩
 refine hK.out _ _ ⟨((HB.out.cell (World.block_lt_of_cell? w _ hw175_0)).trans hw175_0), ((HB.out.cell (World.block_lt_of_cell? w _ hw175_1)).trans hw175_1), ((HB.out.cell (World.block_lt_of_cell? w _ hw175_2)).trans hw175_2), ((HB.out.cell (World.block_lt_of_cell? w _ hw175_3)).trans hw175_3), ((HB.out.cell (World.block_lt_of_cell? w _ hw175_4)).trans hw175_4), ((HB.out.cell (World.block_lt_of_cell? w _ hw175_5)).trans hw175_5), ((HB.out.cell (World.block_lt_of_cell? w _ hw175_6)).trans hw175_6), ((HB.out.cell (World.block_lt_of_cell? w _ hw175_7)).trans hw175_7)⟩ (fun hHeld => ?_)
 clear hK K
 refine norm_ (a' := ?_) ?_ ?_
 rotate_left
 {
 show Act.put _ (some 38) _ = _
 simp only [Act.put, List.setIfInBounds_toArray, List.set_cons_zero, List.set_cons_succ, i64_w, i32_w]
 rfl}
 refine pu_ 36 39 m37_ (any_of HT_.out s2_) ?_
 refine pu_ 37 40 m38_ (any_of HT_.out s2_) ?_
 refine pu_ 38 41 m39_ (any_of HT_.out s2_) ?_
 refine pn_ 39 42 m40_ (any_of HT_.out s2_) ?_
 refine pn_ 40 43 m41_ (any_of HT_.out s2_) ?_
 refine pn_ 41 44 m42_ (any_of HT_.out s2_) ?_
 refine pn_ 42 45 m81_ (any_of HT_.out s2_) ?_
 refine pn_ 43 46 m82_ (any_of HT_.out s2_) ?_
 refine pn_ 44 47 m83_ (any_of HT_.out s2_) ?_
 refine pn_ 45 48 m46_ (any_of HT_.out s2_) ?_
 refine pn_ 46 49 m47_ (any_of HT_.out s2_) ?_
 refine pn_ 47 50 m48_ (any_of HT_.out s2_) ?_
 refine pn_ 48 51 m49_ (any_of HT_.out s2_) ?_
 refine pn_ 49 52 m50_ (any_of HT_.out s2_) ?_
 refine pu_ 50 53 m51_ (any_of HT_.out s2_) ?_
 refine done_ (done_of HT_.out s2_) ?_
 try go_wp2
 go_ret
 exact ⟨by first | rfl | (simp [errW_none, errW_some] <;> rfl) | (simp [*, errW_none, errW_some] <;> rfl), by repeat (first | (with_reducible first | exact HB.out | apply below_alloc | apply pw_below_drewN | apply below_drew1) | exact HB.out)⟩}}
 {
 replace c11 := Bool.eq_false_iff.mpr c11
 subst c11
 have H1 : (some false) = some r := by rw [if_neg (show ¬ (false = true) by decide)] at H; exact H
 clear H
 have H := H1
 clear H1
 obtain rfl := Option.some.inj H
 have p174 : 0 ≤ (a0_1 : Int) := of_decide_eq_true (by first | (with_reducible assumption) | assumption)
 have q174 : a0_1 < (l0_0.length : Int) := of_decide_eq_true (by first | (with_reducible assumption) | assumption)
 obtain ⟨ad174, A174_7, c174_7, e174, hx174_0, hx174_1, hx174_2, hx174_3, hx174_4, hx174_5, hx174_6, hx174_7, hl174_7, hi174_7⟩ := at_T81 HR0_0.out a0_1 p174 q174
 obtain rfl : adp0_ = ad174 := (by injection e174)
 have HR174_7 := Aside0.mk hi174_7
 have HC174_7 := Aside0.mk hl174_7
 clear hi174_7 hl174_7
 replace p174 := eq_true p174
 replace q174 := eq_true q174
 go_enter Try.func57, Try.ntmps57
 try go_wp2
 have n0_ := Aside0.mk (below_drew1 HB.out)
 clear HB
 have HB := n0_
 clear n0_
 have p175 : 0 ≤ (a0_1 : Int) := of_decide_eq_true (by first | (with_reducible assumption) | assumption)
 have q175 : a0_1 < (l0_0.length : Int) := of_decide_eq_true (by first | (with_reducible assumption) | assumption)
 obtain ⟨ad175, A175_7, c175_7, e175, hx175_0, hx175_1, hx175_2, hx175_3, hx175_4, hx175_5, hx175_6, hx175_7, hl175_7, hi175_7⟩ := at_T81 HR0_0.out a0_1 p175 q175
 have hw175_7 := hx175_7
 have hw175_6 := hx175_6
 have hw175_5 := hx175_5
 have hw175_4 := hx175_4
 have hw175_3 := hx175_3
 have hw175_2 := hx175_2
 have hw175_1 := hx175_1
 have hw175_0 := hx175_0
 obtain rfl : adp0_ = ad175 := (by injection e175)
 replace hx175_0 := (HB.out.cell (World.block_lt_of_cell? w _ hx175_0)).trans hx175_0
 replace hx175_1 := (HB.out.cell (World.block_lt_of_cell? w _ hx175_1)).trans hx175_1
 replace hx175_2 := (HB.out.cell (World.block_lt_of_cell? w _ hx175_2)).trans hx175_2
 replace hx175_3 := (HB.out.cell (World.block_lt_of_cell? w _ hx175_3)).trans hx175_3
 replace hx175_4 := (HB.out.cell (World.block_lt_of_cell? w _ hx175_4)).trans hx175_4
 replace hx175_5 := (HB.out.cell (World.block_lt_of_cell? w _ hx175_5)).trans hx175_5
 replace hx175_6 := (HB.out.cell (World.block_lt_of_cell? w _ hx175_6)).trans hx175_6
 replace hx175_7 := (HB.out.cell (World.block_lt_of_cell? w _ hx175_7)).trans hx175_7
 have HR175_7 := Aside0.mk hi175_7
 have HC175_7 := Aside0.mk hl175_7
 clear hi175_7 hl175_7
 replace p175 := eq_true p175
 replace q175 := eq_true q175
 refine start_ (n := 51) (S := fun w' => w'.cell? (adp0_.add ((a0_1).toNat * 8)) = some (.int .i64 ((rd_T81 l0_0 a0_1).f0)) ∧ w'.cell? ⟨(adp0_.add ((a0_1).toNat * 8)).block, (adp0_.add ((a0_1).toNat * 8)).off + 1, none⟩ = some (.int .i64 ((rd_T81 l0_0 a0_1).f1)) ∧ w'.cell? ⟨(adp0_.add ((a0_1).toNat * 8)).block, (adp0_.add ((a0_1).toNat * 8)).off + 2, none⟩ = some (.int .i64 ((rd_T81 l0_0 a0_1).f2)) ∧ w'.cell? ⟨(adp0_.add ((a0_1).toNat * 8)).block, (adp0_.add ((a0_1).toNat * 8)).off + 3, none⟩ = some (.string ((rd_T81 l0_0 a0_1).f3)) ∧ w'.cell? ⟨(adp0_.add ((a0_1).toNat * 8)).block, (adp0_.add ((a0_1).toNat * 8)).off + 4, none⟩ = some (.int .i64 ((rd_T81 l0_0 a0_1).f4)) ∧ w'.cell? ⟨(adp0_.add ((a0_1).toNat * 8)).block, (adp0_.add ((a0_1).toNat * 8)).off + 5, none⟩ = some (.bool ((rd_T81 l0_0 a0_1).f5)) ∧ w'.cell? ⟨(adp0_.add ((a0_1).toNat * 8)).block, (adp0_.add ((a0_1).toNat * 8)).off + 6, none⟩ = some (.int .i64 ((rd_T81 l0_0 a0_1).f6)) ∧ w'.cell? ⟨(adp0_.add ((a0_1).toNat * 8)).block, (adp0_.add ((a0_1).toNat * 8)).off + 7, none⟩ = some (.slice A175_7 ((rd_T81 l0_0 a0_1).f7).length c175_7)) (ds := []) m0_ s2_ rfl rfl ⟨((HB.out.cell (World.block_lt_of_cell? w _ hw175_0)).trans hw175_0), ((HB.out.cell (World.block_lt_of_cell? w _ hw175_1)).trans hw175_1), ((HB.out.cell (World.block_lt_of_cell? w _ hw175_2)).trans hw175_2), ((HB.out.cell (World.block_lt_of_cell? w _ hw175_3)).trans hw175_3), ((HB.out.cell (World.block_lt_of_cell? w _ hw175_4)).trans hw175_4), ((HB.out.cell (World.block_lt_of_cell? w _ hw175_5)).trans hw175_5), ((HB.out.cell (World.block_lt_of_cell? w _ hw175_6)).trans hw175_6), ((HB.out.cell (World.block_lt_of_cell? w _ hw175_7)).trans hw175_7)⟩ (fun hHeld => ?_); refine with_tabW spec_l03Message_v0.tab1 spec_l03Message_v0.bits1 (fun HT_ HW_ => ?_)
 generalize w.drew = w38 at HB HR175_7 hx175_0 hx175_1 hx175_2 hx175_3 hx175_4 hx175_5 hx175_6 hx175_7 hHeld ⊢
 refine pu_ 0 3 m1_ (any_of HT_.out s2_) ?_
 refine pu_ 1 4 m2_ (any_of HT_.out s2_) ?_
 refine pu_ 2 5 m3_ (any_of HT_.out s2_) ?_
 refine take_ (i := 3) (N := some 6) (v := ?_) (a' := ?_) m4_ rfl rfl (take_ofW HT_.out HW_.out s2_) (fun _ _ _ h => h) (Or.inl ⟨by rfl, ?_⟩) hHeld ?_ ?_
 rotate_left
 {
 rintro w' ⟨s0, s1, s2, s3, s4, s5, s6, s7⟩
 go_simp
 with_reducible rfl}
 rotate_left
 · exact p1_
 refine one_ (i := 4) (N := some 7) m5_ rfl rfl (one_of HT_.out s2_) (by decide) (fun K hK => ?_)
 refine goes_ Try.func52 s2_ rfl #[.int .i64 ((rd_T81 l0_0 a0_1).f0), .int .i64 1, .int .i64 1000000000] (by rfl) rfl rfl s3_ ?_
 with_reducible refine (spec_l00In.calls ((rd_T81 l0_0 a0_1).f0) 1 1000000000 true _ A4.out).mono ?_
 rintro e w' ⟨rfl, ⟨nd, rfl⟩⟩
 refine ⟨_, rfl, ?_⟩
 refine hK.out _ _ ⟨((HB.out.cell (World.block_lt_of_cell? w _ hw175_0)).trans hw175_0), ((HB.out.cell (World.block_lt_of_cell? w _ hw175_1)).trans hw175_1), ((HB.out.cell (World.block_lt_of_cell? w _ hw175_2)).trans hw175_2), ((HB.out.cell (World.block_lt_of_cell? w _ hw175_3)).trans hw175_3), ((HB.out.cell (World.block_lt_of_cell? w _ hw175_4)).trans hw175_4), ((HB.out.cell (World.block_lt_of_cell? w _ hw175_5)).trans hw175_5), ((HB.out.cell (World.block_lt_of_cell? w _ hw175_6)).trans hw175_6), ((HB.out.cell (World.block_lt_of_cell? w _ hw175_7)).trans hw175_7)⟩ (fun hHeld => ?_)
 clear hK K
 refine norm_ (a' := ?_) ?_ ?_
 rotate_left
 {
 show Act.put _ (some 7) _ = _
 simp only [Act.put, List.setIfInBounds_toArray, List.set_cons_zero, List.set_cons_succ, i64_w, i32_w]
 rfl}
 refine pu_ 5 8 m6_ (any_of HT_.out s2_) ?_
 refine pu_ 6 9 m7_ (any_of HT_.out s2_) ?_
 refine pu_ 7 10 m8_ (any_of HT_.out s2_) ?_
 refine pu_ 8 11 m9_ (any_of HT_.out s2_) ?_
 refine pu_ 9 12 m10_ (any_of HT_.out s2_) ?_
 refine take_ (i := 10) (N := some 13) (v := ?_) (a' := ?_) m11_ rfl rfl (take_ofW HT_.out HW_.out s2_) (fun _ _ _ h => h) (Or.inl ⟨by rfl, ?_⟩) hHeld ?_ ?_
 rotate_left
 {
 rintro w' ⟨s0, s1, s2, s3, s4, s5, s6, s7⟩
 go_simp
 with_reducible rfl}
 rotate_left
 · exact p1_
 refine one_ (i := 11) (N := some 14) m12_ rfl rfl (one_of HT_.out s2_) (by decide) (fun K hK => ?_)
 refine goes_ Try.func53 s2_ rfl #[.int .i64 ((rd_T81 l0_0 a0_1).f1)] (by rfl) rfl rfl s3_ ?_
 with_reducible refine (spec_l01Member.calls ((rd_T81 l0_0 a0_1).f1) true _ A6.out).mono ?_
 rintro e w' ⟨rfl, ⟨nd, rfl⟩⟩
 refine ⟨_, rfl, ?_⟩
 refine hK.out _ _ ⟨((HB.out.cell (World.block_lt_of_cell? w _ hw175_0)).trans hw175_0), ((HB.out.cell (World.block_lt_of_cell? w _ hw175_1)).trans hw175_1), ((HB.out.cell (World.block_lt_of_cell? w _ hw175_2)).trans hw175_2), ((HB.out.cell (World.block_lt_of_cell? w _ hw175_3)).trans hw175_3), ((HB.out.cell (World.block_lt_of_cell? w _ hw175_4)).trans hw175_4), ((HB.out.cell (World.block_lt_of_cell? w _ hw175_5)).trans hw175_5), ((HB.out.cell (World.block_lt_of_cell? w _ hw175_6)).trans hw175_6), ((HB.out.cell (World.block_lt_of_cell? w _ hw175_7)).trans hw175_7)⟩ (fun hHeld => ?_)
 clear hK K
 refine norm_ (a' := ?_) ?_ ?_
 rotate_left
 {
 show Act.put _ (some 14) _ = _
 simp only [Act.put, List.setIfInBounds_toArray, List.set_cons_zero, List.set_cons_succ, i64_w, i32_w]
 rfl}
 refine pu_ 12 15 m13_ (any_of HT_.out s2_) ?_
 refine pu_ 13 16 m14_ (any_of HT_.out s2_) ?_
 refine pu_ 14 17 m15_ (any_of HT_.out s2_) ?_
 refine pu_ 15 18 m16_ (any_of HT_.out s2_) ?_
 refine pu_ 16 19 m17_ (any_of HT_.out s2_) ?_
 refine pu_ 17 20 m18_ (any_of HT_.out s2_) ?_
 refine take_ (i := 18) (N := some 21) (v := ?_) (a' := ?_) m19_ rfl rfl (take_ofW HT_.out HW_.out s2_) (fun _ _ _ h => h) (Or.inl ⟨by rfl, ?_⟩) hHeld ?_ ?_
 rotate_left
 {
 rintro w' ⟨s0, s1, s2, s3, s4, s5, s6, s7⟩
 go_simp
 with_reducible rfl}
 rotate_left
 · exact p1_
 refine one_ (i := 19) (N := some 22) m20_ rfl rfl (one_of HT_.out s2_) (by decide) (fun K hK => ?_)
 refine goes_ Try.func54 s2_ rfl #[.int .i64 ((rd_T81 l0_0 a0_1).f2)] (by rfl) rfl rfl s3_ ?_
 with_reducible refine (spec_l01Tick.calls ((rd_T81 l0_0 a0_1).f2) true _ A8.out).mono ?_
 rintro e w' ⟨rfl, ⟨nd, rfl⟩⟩
 refine ⟨_, rfl, ?_⟩
 refine hK.out _ _ ⟨((HB.out.cell (World.block_lt_of_cell? w _ hw175_0)).trans hw175_0), ((HB.out.cell (World.block_lt_of_cell? w _ hw175_1)).trans hw175_1), ((HB.out.cell (World.block_lt_of_cell? w _ hw175_2)).trans hw175_2), ((HB.out.cell (World.block_lt_of_cell? w _ hw175_3)).trans hw175_3), ((HB.out.cell (World.block_lt_of_cell? w _ hw175_4)).trans hw175_4), ((HB.out.cell (World.block_lt_of_cell? w _ hw175_5)).trans hw175_5), ((HB.out.cell (World.block_lt_of_cell? w _ hw175_6)).trans hw175_6), ((HB.out.cell (World.block_lt_of_cell? w _ hw175_7)).trans hw175_7)⟩ (fun hHeld => ?_)
 clear hK K
 refine norm_ (a' := ?_) ?_ ?_
 rotate_left
 {
 show Act.put _ (some 22) _ = _
 simp only [Act.put, List.setIfInBounds_toArray, List.set_cons_zero, List.set_cons_succ, i64_w, i32_w]
 rfl}
 refine pu_ 20 23 m21_ (any_of HT_.out s2_) ?_
 refine pu_ 21 24 m22_ (any_of HT_.out s2_) ?_
 refine pu_ 22 25 m23_ (any_of HT_.out s2_) ?_
 refine pu_ 23 26 m24_ (any_of HT_.out s2_) ?_
 refine pu_ 24 27 m25_ (any_of HT_.out s2_) ?_
 refine pu_ 25 28 m26_ (any_of HT_.out s2_) ?_
 refine take_ (i := 26) (N := some 29) (v := ?_) (a' := ?_) m27_ rfl rfl (take_ofW HT_.out HW_.out s2_) (fun _ _ _ h => h) (Or.inl ⟨by rfl, ?_⟩) hHeld ?_ ?_
 rotate_left
 {
 rintro w' ⟨s0, s1, s2, s3, s4, s5, s6, s7⟩
 go_simp
 with_reducible rfl}
 rotate_left
 · exact p1_
 refine one_ (i := 27) (N := some 30) m28_ rfl rfl (one_of HT_.out s2_) (by decide) (fun K hK => ?_)
 refine goes_ Try.func55 s2_ rfl #[.string ((rd_T81 l0_0 a0_1).f3)] (by rfl) rfl rfl s3_ ?_
 with_reducible refine (spec_l01IsText.calls k ((rd_T81 l0_0 a0_1).f3) false _ A10.out).mono ?_
 rintro e w' ⟨rfl, ⟨nd, rfl⟩⟩
 refine ⟨_, rfl, ?_⟩
 refine hK.out _ _ ⟨((HB.out.cell (World.block_lt_of_cell? w _ hw175_0)).trans hw175_0), ((HB.out.cell (World.block_lt_of_cell? w _ hw175_1)).trans hw175_1), ((HB.out.cell (World.block_lt_of_cell? w _ hw175_2)).trans hw175_2), ((HB.out.cell (World.block_lt_of_cell? w _ hw175_3)).trans hw175_3), ((HB.out.cell (World.block_lt_of_cell? w _ hw175_4)).trans hw175_4), ((HB.out.cell (World.block_lt_of_cell? w _ hw175_5)).trans hw175_5), ((HB.out.cell (World.block_lt_of_cell? w _ hw175_6)).trans hw175_6), ((HB.out.cell (World.block_lt_of_cell? w _ hw175_7)).trans hw175_7)⟩ (fun hHeld => ?_)
 clear hK K
 refine norm_ (a' := ?_) ?_ ?_
 rotate_left
 {
 show Act.put _ (some 30) _ = _
 simp only [Act.put, List.setIfInBounds_toArray, List.set_cons_zero, List.set_cons_succ, i64_w, i32_w]
 rfl}
 refine pu_ 28 31 m29_ (any_of HT_.out s2_) ?_
 refine pu_ 29 32 m30_ (any_of HT_.out s2_) ?_
 refine pu_ 30 33 m31_ (any_of HT_.out s2_) ?_
 refine pn_ 31 34 m32_ (any_of HT_.out s2_) ?_
 refine pn_ 32 35 m33_ (any_of HT_.out s2_) ?_
 refine pn_ 33 36 m34_ (any_of HT_.out s2_) ?_
 refine pn_ 34 37 m35_ (any_of HT_.out s2_) ?_
 refine pn_ 35 38 m36_ (any_of HT_.out s2_) ?_
 refine pn_ 36 39 m37_ (any_of HT_.out s2_) ?_
 refine pu_ 37 40 m38_ (any_of HT_.out s2_) ?_
 refine pu_ 38 41 m39_ (any_of HT_.out s2_) ?_
 refine pn_ 39 42 m40_ (any_of HT_.out s2_) ?_
 refine pn_ 40 43 m41_ (any_of HT_.out s2_) ?_
 refine pn_ 41 44 m42_ (any_of HT_.out s2_) ?_
 refine pn_ 42 45 m81_ (any_of HT_.out s2_) ?_
 refine pn_ 43 46 m82_ (any_of HT_.out s2_) ?_
 refine pn_ 44 47 m83_ (any_of HT_.out s2_) ?_
 refine pn_ 45 48 m46_ (any_of HT_.out s2_) ?_
 refine pn_ 46 49 m47_ (any_of HT_.out s2_) ?_
 refine pn_ 47 50 m48_ (any_of HT_.out s2_) ?_
 refine pn_ 48 51 m49_ (any_of HT_.out s2_) ?_
 refine pn_ 49 52 m50_ (any_of HT_.out s2_) ?_
 refine pu_ 50 53 m51_ (any_of HT_.out s2_) ?_
 refine done_ (done_of HT_.out s2_) ?_
 try go_wp2
 go_ret
 exact ⟨by first | rfl | (simp [errW_none, errW_some] <;> rfl) | (simp [*, errW_none, errW_some] <;> rfl), by repeat (first | (with_reducible first | exact HB.out | apply below_alloc | apply pw_below_drewN | apply below_drew1) | exact HB.out)⟩}}
 {
 replace c9 := Bool.eq_false_iff.mpr c9
 subst c9
 have H1 : (some false) = some r := by rw [if_neg (show ¬ (false = true) by decide)] at H; exact H
 clear H
 have H := H1
 clear H1
 obtain rfl := Option.some.inj H
 have p174 : 0 ≤ (a0_1 : Int) := of_decide_eq_true (by first | (with_reducible assumption) | assumption)
 have q174 : a0_1 < (l0_0.length : Int) := of_decide_eq_true (by first | (with_reducible assumption) | assumption)
 obtain ⟨ad174, A174_7, c174_7, e174, hx174_0, hx174_1, hx174_2, hx174_3, hx174_4, hx174_5, hx174_6, hx174_7, hl174_7, hi174_7⟩ := at_T81 HR0_0.out a0_1 p174 q174
 obtain rfl : adp0_ = ad174 := (by injection e174)
 have HR174_7 := Aside0.mk hi174_7
 have HC174_7 := Aside0.mk hl174_7
 clear hi174_7 hl174_7
 replace p174 := eq_true p174
 replace q174 := eq_true q174
 go_enter Try.func57, Try.ntmps57
 try go_wp2
 have n0_ := Aside0.mk (below_drew1 HB.out)
 clear HB
 have HB := n0_
 clear n0_
 have p175 : 0 ≤ (a0_1 : Int) := of_decide_eq_true (by first | (with_reducible assumption) | assumption)
 have q175 : a0_1 < (l0_0.length : Int) := of_decide_eq_true (by first | (with_reducible assumption) | assumption)
 obtain ⟨ad175, A175_7, c175_7, e175, hx175_0, hx175_1, hx175_2, hx175_3, hx175_4, hx175_5, hx175_6, hx175_7, hl175_7, hi175_7⟩ := at_T81 HR0_0.out a0_1 p175 q175
 have hw175_7 := hx175_7
 have hw175_6 := hx175_6
 have hw175_5 := hx175_5
 have hw175_4 := hx175_4
 have hw175_3 := hx175_3
 have hw175_2 := hx175_2
 have hw175_1 := hx175_1
 have hw175_0 := hx175_0
 obtain rfl : adp0_ = ad175 := (by injection e175)
 replace hx175_0 := (HB.out.cell (World.block_lt_of_cell? w _ hx175_0)).trans hx175_0
 replace hx175_1 := (HB.out.cell (World.block_lt_of_cell? w _ hx175_1)).trans hx175_1
 replace hx175_2 := (HB.out.cell (World.block_lt_of_cell? w _ hx175_2)).trans hx175_2
 replace hx175_3 := (HB.out.cell (World.block_lt_of_cell? w _ hx175_3)).trans hx175_3
 replace hx175_4 := (HB.out.cell (World.block_lt_of_cell? w _ hx175_4)).trans hx175_4
 replace hx175_5 := (HB.out.cell (World.block_lt_of_cell? w _ hx175_5)).trans hx175_5
 replace hx175_6 := (HB.out.cell (World.block_lt_of_cell? w _ hx175_6)).trans hx175_6
 replace hx175_7 := (HB.out.cell (World.block_lt_of_cell? w _ hx175_7)).trans hx175_7
 have HR175_7 := Aside0.mk hi175_7
 have HC175_7 := Aside0.mk hl175_7
 clear hi175_7 hl175_7
 replace p175 := eq_true p175
 replace q175 := eq_true q175
 refine start_ (n := 51) (S := fun w' => w'.cell? (adp0_.add ((a0_1).toNat * 8)) = some (.int .i64 ((rd_T81 l0_0 a0_1).f0)) ∧ w'.cell? ⟨(adp0_.add ((a0_1).toNat * 8)).block, (adp0_.add ((a0_1).toNat * 8)).off + 1, none⟩ = some (.int .i64 ((rd_T81 l0_0 a0_1).f1)) ∧ w'.cell? ⟨(adp0_.add ((a0_1).toNat * 8)).block, (adp0_.add ((a0_1).toNat * 8)).off + 2, none⟩ = some (.int .i64 ((rd_T81 l0_0 a0_1).f2)) ∧ w'.cell? ⟨(adp0_.add ((a0_1).toNat * 8)).block, (adp0_.add ((a0_1).toNat * 8)).off + 3, none⟩ = some (.string ((rd_T81 l0_0 a0_1).f3)) ∧ w'.cell? ⟨(adp0_.add ((a0_1).toNat * 8)).block, (adp0_.add ((a0_1).toNat * 8)).off + 4, none⟩ = some (.int .i64 ((rd_T81 l0_0 a0_1).f4)) ∧ w'.cell? ⟨(adp0_.add ((a0_1).toNat * 8)).block, (adp0_.add ((a0_1).toNat * 8)).off + 5, none⟩ = some (.bool ((rd_T81 l0_0 a0_1).f5)) ∧ w'.cell? ⟨(adp0_.add ((a0_1).toNat * 8)).block, (adp0_.add ((a0_1).toNat * 8)).off + 6, none⟩ = some (.int .i64 ((rd_T81 l0_0 a0_1).f6)) ∧ w'.cell? ⟨(adp0_.add ((a0_1).toNat * 8)).block, (adp0_.add ((a0_1).toNat * 8)).off + 7, none⟩ = some (.slice A175_7 ((rd_T81 l0_0 a0_1).f7).length c175_7)) (ds := []) m0_ s2_ rfl rfl ⟨((HB.out.cell (World.block_lt_of_cell? w _ hw175_0)).trans hw175_0), ((HB.out.cell (World.block_lt_of_cell? w _ hw175_1)).trans hw175_1), ((HB.out.cell (World.block_lt_of_cell? w _ hw175_2)).trans hw175_2), ((HB.out.cell (World.block_lt_of_cell? w _ hw175_3)).trans hw175_3), ((HB.out.cell (World.block_lt_of_cell? w _ hw175_4)).trans hw175_4), ((HB.out.cell (World.block_lt_of_cell? w _ hw175_5)).trans hw175_5), ((HB.out.cell (World.block_lt_of_cell? w _ hw175_6)).trans hw175_6), ((HB.out.cell (World.block_lt_of_cell? w _ hw175_7)).trans hw175_7)⟩ (fun hHeld => ?_); refine with_tabW spec_l03Message_v0.tab1 spec_l03Message_v0.bits1 (fun HT_ HW_ => ?_)
 generalize w.drew = w39 at HB HR175_7 hx175_0 hx175_1 hx175_2 hx175_3 hx175_4 hx175_5 hx175_6 hx175_7 hHeld ⊢
 refine pu_ 0 3 m1_ (any_of HT_.out s2_) ?_
 refine pu_ 1 4 m2_ (any_of HT_.out s2_) ?_
 refine pu_ 2 5 m3_ (any_of HT_.out s2_) ?_
 refine take_ (i := 3) (N := some 6) (v := ?_) (a' := ?_) m4_ rfl rfl (take_ofW HT_.out HW_.out s2_) (fun _ _ _ h => h) (Or.inl ⟨by rfl, ?_⟩) hHeld ?_ ?_
 rotate_left
 {
 rintro w' ⟨s0, s1, s2, s3, s4, s5, s6, s7⟩
 go_simp
 with_reducible rfl}
 rotate_left
 · exact p1_
 refine one_ (i := 4) (N := some 7) m5_ rfl rfl (one_of HT_.out s2_) (by decide) (fun K hK => ?_)
 refine goes_ Try.func52 s2_ rfl #[.int .i64 ((rd_T81 l0_0 a0_1).f0), .int .i64 1, .int .i64 1000000000] (by rfl) rfl rfl s3_ ?_
 with_reducible refine (spec_l00In.calls ((rd_T81 l0_0 a0_1).f0) 1 1000000000 true _ A4.out).mono ?_
 rintro e w' ⟨rfl, ⟨nd, rfl⟩⟩
 refine ⟨_, rfl, ?_⟩
 refine hK.out _ _ ⟨((HB.out.cell (World.block_lt_of_cell? w _ hw175_0)).trans hw175_0), ((HB.out.cell (World.block_lt_of_cell? w _ hw175_1)).trans hw175_1), ((HB.out.cell (World.block_lt_of_cell? w _ hw175_2)).trans hw175_2), ((HB.out.cell (World.block_lt_of_cell? w _ hw175_3)).trans hw175_3), ((HB.out.cell (World.block_lt_of_cell? w _ hw175_4)).trans hw175_4), ((HB.out.cell (World.block_lt_of_cell? w _ hw175_5)).trans hw175_5), ((HB.out.cell (World.block_lt_of_cell? w _ hw175_6)).trans hw175_6), ((HB.out.cell (World.block_lt_of_cell? w _ hw175_7)).trans hw175_7)⟩ (fun hHeld => ?_)
 clear hK K
 refine norm_ (a' := ?_) ?_ ?_
 rotate_left
 {
 show Act.put _ (some 7) _ = _
 simp only [Act.put, List.setIfInBounds_toArray, List.set_cons_zero, List.set_cons_succ, i64_w, i32_w]
 rfl}
 refine pu_ 5 8 m6_ (any_of HT_.out s2_) ?_
 refine pu_ 6 9 m7_ (any_of HT_.out s2_) ?_
 refine pu_ 7 10 m8_ (any_of HT_.out s2_) ?_
 refine pu_ 8 11 m9_ (any_of HT_.out s2_) ?_
 refine pu_ 9 12 m10_ (any_of HT_.out s2_) ?_
 refine take_ (i := 10) (N := some 13) (v := ?_) (a' := ?_) m11_ rfl rfl (take_ofW HT_.out HW_.out s2_) (fun _ _ _ h => h) (Or.inl ⟨by rfl, ?_⟩) hHeld ?_ ?_
 rotate_left
 {
 rintro w' ⟨s0, s1, s2, s3, s4, s5, s6, s7⟩
 go_simp
 with_reducible rfl}
 rotate_left
 · exact p1_
 refine one_ (i := 11) (N := some 14) m12_ rfl rfl (one_of HT_.out s2_) (by decide) (fun K hK => ?_)
 refine goes_ Try.func53 s2_ rfl #[.int .i64 ((rd_T81 l0_0 a0_1).f1)] (by rfl) rfl rfl s3_ ?_
 with_reducible refine (spec_l01Member.calls ((rd_T81 l0_0 a0_1).f1) true _ A6.out).mono ?_
 rintro e w' ⟨rfl, ⟨nd, rfl⟩⟩
 refine ⟨_, rfl, ?_⟩
 refine hK.out _ _ ⟨((HB.out.cell (World.block_lt_of_cell? w _ hw175_0)).trans hw175_0), ((HB.out.cell (World.block_lt_of_cell? w _ hw175_1)).trans hw175_1), ((HB.out.cell (World.block_lt_of_cell? w _ hw175_2)).trans hw175_2), ((HB.out.cell (World.block_lt_of_cell? w _ hw175_3)).trans hw175_3), ((HB.out.cell (World.block_lt_of_cell? w _ hw175_4)).trans hw175_4), ((HB.out.cell (World.block_lt_of_cell? w _ hw175_5)).trans hw175_5), ((HB.out.cell (World.block_lt_of_cell? w _ hw175_6)).trans hw175_6), ((HB.out.cell (World.block_lt_of_cell? w _ hw175_7)).trans hw175_7)⟩ (fun hHeld => ?_)
 clear hK K
 refine norm_ (a' := ?_) ?_ ?_
 rotate_left
 {
 show Act.put _ (some 14) _ = _
 simp only [Act.put, List.setIfInBounds_toArray, List.set_cons_zero, List.set_cons_succ, i64_w, i32_w]
 rfl}
 refine pu_ 12 15 m13_ (any_of HT_.out s2_) ?_
 refine pu_ 13 16 m14_ (any_of HT_.out s2_) ?_
 refine pu_ 14 17 m15_ (any_of HT_.out s2_) ?_
 refine pu_ 15 18 m16_ (any_of HT_.out s2_) ?_
 refine pu_ 16 19 m17_ (any_of HT_.out s2_) ?_
 refine pu_ 17 20 m18_ (any_of HT_.out s2_) ?_
 refine take_ (i := 18) (N := some 21) (v := ?_) (a' := ?_) m19_ rfl rfl (take_ofW HT_.out HW_.out s2_) (fun _ _ _ h => h) (Or.inl ⟨by rfl, ?_⟩) hHeld ?_ ?_
 rotate_left
 {
 rintro w' ⟨s0, s1, s2, s3, s4, s5, s6, s7⟩
 go_simp
 with_reducible rfl}
 rotate_left
 · exact p1_
 refine one_ (i := 19) (N := some 22) m20_ rfl rfl (one_of HT_.out s2_) (by decide) (fun K hK => ?_)
 refine goes_ Try.func54 s2_ rfl #[.int .i64 ((rd_T81 l0_0 a0_1).f2)] (by rfl) rfl rfl s3_ ?_
 with_reducible refine (spec_l01Tick.calls ((rd_T81 l0_0 a0_1).f2) false _ A8.out).mono ?_
 rintro e w' ⟨rfl, ⟨nd, rfl⟩⟩
 refine ⟨_, rfl, ?_⟩
 refine hK.out _ _ ⟨((HB.out.cell (World.block_lt_of_cell? w _ hw175_0)).trans hw175_0), ((HB.out.cell (World.block_lt_of_cell? w _ hw175_1)).trans hw175_1), ((HB.out.cell (World.block_lt_of_cell? w _ hw175_2)).trans hw175_2), ((HB.out.cell (World.block_lt_of_cell? w _ hw175_3)).trans hw175_3), ((HB.out.cell (World.block_lt_of_cell? w _ hw175_4)).trans hw175_4), ((HB.out.cell (World.block_lt_of_cell? w _ hw175_5)).trans hw175_5), ((HB.out.cell (World.block_lt_of_cell? w _ hw175_6)).trans hw175_6), ((HB.out.cell (World.block_lt_of_cell? w _ hw175_7)).trans hw175_7)⟩ (fun hHeld => ?_)
 clear hK K
 refine norm_ (a' := ?_) ?_ ?_
 rotate_left
 {
 show Act.put _ (some 22) _ = _
 simp only [Act.put, List.setIfInBounds_toArray, List.set_cons_zero, List.set_cons_succ, i64_w, i32_w]
 rfl}
 refine pu_ 20 23 m21_ (any_of HT_.out s2_) ?_
 refine pu_ 21 24 m22_ (any_of HT_.out s2_) ?_
 refine pu_ 22 25 m23_ (any_of HT_.out s2_) ?_
 refine pn_ 23 26 m24_ (any_of HT_.out s2_) ?_
 refine pn_ 24 27 m25_ (any_of HT_.out s2_) ?_
 refine pn_ 25 28 m26_ (any_of HT_.out s2_) ?_
 refine pn_ 26 29 m27_ (any_of HT_.out s2_) ?_
 refine pn_ 27 30 m28_ (any_of HT_.out s2_) ?_
 refine pn_ 28 31 m29_ (any_of HT_.out s2_) ?_
 refine pu_ 29 32 m30_ (any_of HT_.out s2_) ?_
 refine pu_ 30 33 m31_ (any_of HT_.out s2_) ?_
 refine pn_ 31 34 m32_ (any_of HT_.out s2_) ?_
 refine pn_ 32 35 m33_ (any_of HT_.out s2_) ?_
 refine pn_ 33 36 m34_ (any_of HT_.out s2_) ?_
 refine pn_ 34 37 m35_ (any_of HT_.out s2_) ?_
 refine pn_ 35 38 m36_ (any_of HT_.out s2_) ?_
 refine pn_ 36 39 m37_ (any_of HT_.out s2_) ?_
 refine pu_ 37 40 m38_ (any_of HT_.out s2_) ?_
 refine pu_ 38 41 m39_ (any_of HT_.out s2_) ?_
 refine pn_ 39 42 m40_ (any_of HT_.out s2_) ?_
 refine pn_ 40 43 m41_ (any_of HT_.out s2_) ?_
 refine pn_ 41 44 m42_ (any_of HT_.out s2_) ?_
 refine pn_ 42 45 m81_ (any_of HT_.out s2_) ?_
 refine pn_ 43 46 m82_ (any_of HT_.out s2_) ?_
 refine pn_ 44 47 m83_ (any_of HT_.out s2_) ?_
 refine pn_ 45 48 m46_ (any_of HT_.out s2_) ?_
 refine pn_ 46 49 m47_ (any_of HT_.out s2_) ?_
 refine pn_ 47 50 m48_ (any_of HT_.out s2_) ?_
 refine pn_ 48 51 m49_ (any_of HT_.out s2_) ?_
 refine pn_ 49 52 m50_ (any_of HT_.out s2_) ?_
 refine pu_ 50 53 m51_ (any_of HT_.out s2_) ?_
 refine done_ (done_of HT_.out s2_) ?_
 try go_wp2
 go_ret
 exact ⟨by first | rfl | (simp [errW_none, errW_some] <;> rfl) | (simp [*, errW_none, errW_some] <;> rfl), by repeat (first | (with_reducible first | exact HB.out | apply below_alloc | apply pw_below_drewN | apply below_drew1) | exact HB.out)⟩}}
 {
 replace c7 := Bool.eq_false_iff.mpr c7
 subst c7
 have H1 : (some false) = some r := by rw [if_neg (show ¬ (false = true) by decide)] at H; exact H
 clear H
 have H := H1
 clear H1
 obtain rfl := Option.some.inj H
 have p174 : 0 ≤ (a0_1 : Int) := of_decide_eq_true (by first | (with_reducible assumption) | assumption)
 have q174 : a0_1 < (l0_0.length : Int) := of_decide_eq_true (by first | (with_reducible assumption) | assumption)
 obtain ⟨ad174, A174_7, c174_7, e174, hx174_0, hx174_1, hx174_2, hx174_3, hx174_4, hx174_5, hx174_6, hx174_7, hl174_7, hi174_7⟩ := at_T81 HR0_0.out a0_1 p174 q174
 obtain rfl : adp0_ = ad174 := (by injection e174)
 have HR174_7 := Aside0.mk hi174_7
 have HC174_7 := Aside0.mk hl174_7
 clear hi174_7 hl174_7
 replace p174 := eq_true p174
 replace q174 := eq_true q174
 go_enter Try.func57, Try.ntmps57
 try go_wp2
 have n0_ := Aside0.mk (below_drew1 HB.out)
 clear HB
 have HB := n0_
 clear n0_
 have p175 : 0 ≤ (a0_1 : Int) := of_decide_eq_true (by first | (with_reducible assumption) | assumption)
 have q175 : a0_1 < (l0_0.length : Int) := of_decide_eq_true (by first | (with_reducible assumption) | assumption)
 obtain ⟨ad175, A175_7, c175_7, e175, hx175_0, hx175_1, hx175_2, hx175_3, hx175_4, hx175_5, hx175_6, hx175_7, hl175_7, hi175_7⟩ := at_T81 HR0_0.out a0_1 p175 q175
 have hw175_7 := hx175_7
 have hw175_6 := hx175_6
 have hw175_5 := hx175_5
 have hw175_4 := hx175_4
 have hw175_3 := hx175_3
 have hw175_2 := hx175_2
 have hw175_1 := hx175_1
 have hw175_0 := hx175_0
 obtain rfl : adp0_ = ad175 := (by injection e175)
 replace hx175_0 := (HB.out.cell (World.block_lt_of_cell? w _ hx175_0)).trans hx175_0
 replace hx175_1 := (HB.out.cell (World.block_lt_of_cell? w _ hx175_1)).trans hx175_1
 replace hx175_2 := (HB.out.cell (World.block_lt_of_cell? w _ hx175_2)).trans hx175_2
 replace hx175_3 := (HB.out.cell (World.block_lt_of_cell? w _ hx175_3)).trans hx175_3
 replace hx175_4 := (HB.out.cell (World.block_lt_of_cell? w _ hx175_4)).trans hx175_4
 replace hx175_5 := (HB.out.cell (World.block_lt_of_cell? w _ hx175_5)).trans hx175_5
 replace hx175_6 := (HB.out.cell (World.block_lt_of_cell? w _ hx175_6)).trans hx175_6
 replace hx175_7 := (HB.out.cell (World.block_lt_of_cell? w _ hx175_7)).trans hx175_7
 have HR175_7 := Aside0.mk hi175_7
 have HC175_7 := Aside0.mk hl175_7
 clear hi175_7 hl175_7
 replace p175 := eq_true p175
 replace q175 := eq_true q175
 refine start_ (n := 51) (S := fun w' => w'.cell? (adp0_.add ((a0_1).toNat * 8)) = some (.int .i64 ((rd_T81 l0_0 a0_1).f0)) ∧ w'.cell? ⟨(adp0_.add ((a0_1).toNat * 8)).block, (adp0_.add ((a0_1).toNat * 8)).off + 1, none⟩ = some (.int .i64 ((rd_T81 l0_0 a0_1).f1)) ∧ w'.cell? ⟨(adp0_.add ((a0_1).toNat * 8)).block, (adp0_.add ((a0_1).toNat * 8)).off + 2, none⟩ = some (.int .i64 ((rd_T81 l0_0 a0_1).f2)) ∧ w'.cell? ⟨(adp0_.add ((a0_1).toNat * 8)).block, (adp0_.add ((a0_1).toNat * 8)).off + 3, none⟩ = some (.string ((rd_T81 l0_0 a0_1).f3)) ∧ w'.cell? ⟨(adp0_.add ((a0_1).toNat * 8)).block, (adp0_.add ((a0_1).toNat * 8)).off + 4, none⟩ = some (.int .i64 ((rd_T81 l0_0 a0_1).f4)) ∧ w'.cell? ⟨(adp0_.add ((a0_1).toNat * 8)).block, (adp0_.add ((a0_1).toNat * 8)).off + 5, none⟩ = some (.bool ((rd_T81 l0_0 a0_1).f5)) ∧ w'.cell? ⟨(adp0_.add ((a0_1).toNat * 8)).block, (adp0_.add ((a0_1).toNat * 8)).off + 6, none⟩ = some (.int .i64 ((rd_T81 l0_0 a0_1).f6)) ∧ w'.cell? ⟨(adp0_.add ((a0_1).toNat * 8)).block, (adp0_.add ((a0_1).toNat * 8)).off + 7, none⟩ = some (.slice A175_7 ((rd_T81 l0_0 a0_1).f7).length c175_7)) (ds := []) m0_ s2_ rfl rfl ⟨((HB.out.cell (World.block_lt_of_cell? w _ hw175_0)).trans hw175_0), ((HB.out.cell (World.block_lt_of_cell? w _ hw175_1)).trans hw175_1), ((HB.out.cell (World.block_lt_of_cell? w _ hw175_2)).trans hw175_2), ((HB.out.cell (World.block_lt_of_cell? w _ hw175_3)).trans hw175_3), ((HB.out.cell (World.block_lt_of_cell? w _ hw175_4)).trans hw175_4), ((HB.out.cell (World.block_lt_of_cell? w _ hw175_5)).trans hw175_5), ((HB.out.cell (World.block_lt_of_cell? w _ hw175_6)).trans hw175_6), ((HB.out.cell (World.block_lt_of_cell? w _ hw175_7)).trans hw175_7)⟩ (fun hHeld => ?_); refine with_tabW spec_l03Message_v0.tab1 spec_l03Message_v0.bits1 (fun HT_ HW_ => ?_)
 generalize w.drew = w40 at HB HR175_7 hx175_0 hx175_1 hx175_2 hx175_3 hx175_4 hx175_5 hx175_6 hx175_7 hHeld ⊢
 refine pu_ 0 3 m1_ (any_of HT_.out s2_) ?_
 refine pu_ 1 4 m2_ (any_of HT_.out s2_) ?_
 refine pu_ 2 5 m3_ (any_of HT_.out s2_) ?_
 refine take_ (i := 3) (N := some 6) (v := ?_) (a' := ?_) m4_ rfl rfl (take_ofW HT_.out HW_.out s2_) (fun _ _ _ h => h) (Or.inl ⟨by rfl, ?_⟩) hHeld ?_ ?_
 rotate_left
 {
 rintro w' ⟨s0, s1, s2, s3, s4, s5, s6, s7⟩
 go_simp
 with_reducible rfl}
 rotate_left
 · exact p1_
 refine one_ (i := 4) (N := some 7) m5_ rfl rfl (one_of HT_.out s2_) (by decide) (fun K hK => ?_)
 refine goes_ Try.func52 s2_ rfl #[.int .i64 ((rd_T81 l0_0 a0_1).f0), .int .i64 1, .int .i64 1000000000] (by rfl) rfl rfl s3_ ?_
 with_reducible refine (spec_l00In.calls ((rd_T81 l0_0 a0_1).f0) 1 1000000000 true _ A4.out).mono ?_
 rintro e w' ⟨rfl, ⟨nd, rfl⟩⟩
 refine ⟨_, rfl, ?_⟩
 refine hK.out _ _ ⟨((HB.out.cell (World.block_lt_of_cell? w _ hw175_0)).trans hw175_0), ((HB.out.cell (World.block_lt_of_cell? w _ hw175_1)).trans hw175_1), ((HB.out.cell (World.block_lt_of_cell? w _ hw175_2)).trans hw175_2), ((HB.out.cell (World.block_lt_of_cell? w _ hw175_3)).trans hw175_3), ((HB.out.cell (World.block_lt_of_cell? w _ hw175_4)).trans hw175_4), ((HB.out.cell (World.block_lt_of_cell? w _ hw175_5)).trans hw175_5), ((HB.out.cell (World.block_lt_of_cell? w _ hw175_6)).trans hw175_6), ((HB.out.cell (World.block_lt_of_cell? w _ hw175_7)).trans hw175_7)⟩ (fun hHeld => ?_)
 clear hK K
 refine norm_ (a' := ?_) ?_ ?_
 rotate_left
 {
 show Act.put _ (some 7) _ = _
 simp only [Act.put, List.setIfInBounds_toArray, List.set_cons_zero, List.set_cons_succ, i64_w, i32_w]
 rfl}
 refine pu_ 5 8 m6_ (any_of HT_.out s2_) ?_
 refine pu_ 6 9 m7_ (any_of HT_.out s2_) ?_
 refine pu_ 7 10 m8_ (any_of HT_.out s2_) ?_
 refine pu_ 8 11 m9_ (any_of HT_.out s2_) ?_
 refine pu_ 9 12 m10_ (any_of HT_.out s2_) ?_
 refine take_ (i := 10) (N := some 13) (v := ?_) (a' := ?_) m11_ rfl rfl (take_ofW HT_.out HW_.out s2_) (fun _ _ _ h => h) (Or.inl ⟨by rfl, ?_⟩) hHeld ?_ ?_
 rotate_left
 {
 rintro w' ⟨s0, s1, s2, s3, s4, s5, s6, s7⟩
 go_simp
 with_reducible rfl}
 rotate_left
 · exact p1_
 refine one_ (i := 11) (N := some 14) m12_ rfl rfl (one_of HT_.out s2_) (by decide) (fun K hK => ?_)
 refine goes_ Try.func53 s2_ rfl #[.int .i64 ((rd_T81 l0_0 a0_1).f1)] (by rfl) rfl rfl s3_ ?_
 with_reducible refine (spec_l01Member.calls ((rd_T81 l0_0 a0_1).f1) false _ A6.out).mono ?_
 rintro e w' ⟨rfl, ⟨nd, rfl⟩⟩
 refine ⟨_, rfl, ?_⟩
 refine hK.out _ _ ⟨((HB.out.cell (World.block_lt_of_cell? w _ hw175_0)).trans hw175_0), ((HB.out.cell (World.block_lt_of_cell? w _ hw175_1)).trans hw175_1), ((HB.out.cell (World.block_lt_of_cell? w _ hw175_2)).trans hw175_2), ((HB.out.cell (World.block_lt_of_cell? w _ hw175_3)).trans hw175_3), ((HB.out.cell (World.block_lt_of_cell? w _ hw175_4)).trans hw175_4), ((HB.out.cell (World.block_lt_of_cell? w _ hw175_5)).trans hw175_5), ((HB.out.cell (World.block_lt_of_cell? w _ hw175_6)).trans hw175_6), ((HB.out.cell (World.block_lt_of_cell? w _ hw175_7)).trans hw175_7)⟩ (fun hHeld => ?_)
 clear hK K
 refine norm_ (a' := ?_) ?_ ?_
 rotate_left
 {
 show Act.put _ (some 14) _ = _
 simp only [Act.put, List.setIfInBounds_toArray, List.set_cons_zero, List.set_cons_succ, i64_w, i32_w]
 rfl}
 refine pu_ 12 15 m13_ (any_of HT_.out s2_) ?_
 refine pu_ 13 16 m14_ (any_of HT_.out s2_) ?_
 refine pu_ 14 17 m15_ (any_of HT_.out s2_) ?_
 refine pn_ 15 18 m16_ (any_of HT_.out s2_) ?_
 refine pn_ 16 19 m17_ (any_of HT_.out s2_) ?_
 refine pn_ 17 20 m18_ (any_of HT_.out s2_) ?_
 refine pn_ 18 21 m19_ (any_of HT_.out s2_) ?_
 refine pn_ 19 22 m20_ (any_of HT_.out s2_) ?_
 refine pn_ 20 23 m21_ (any_of HT_.out s2_) ?_
 refine pu_ 21 24 m22_ (any_of HT_.out s2_) ?_
 refine pu_ 22 25 m23_ (any_of HT_.out s2_) ?_
 refine pn_ 23 26 m24_ (any_of HT_.out s2_) ?_
 refine pn_ 24 27 m25_ (any_of HT_.out s2_) ?_
 refine pn_ 25 28 m26_ (any_of HT_.out s2_) ?_
 refine pn_ 26 29 m27_ (any_of HT_.out s2_) ?_
 refine pn_ 27 30 m28_ (any_of HT_.out s2_) ?_
 refine pn_ 28 31 m29_ (any_of HT_.out s2_) ?_
 refine pu_ 29 32 m30_ (any_of HT_.out s2_) ?_
 refine pu_ 30 33 m31_ (any_of HT_.out s2_) ?_
 refine pn_ 31 34 m32_ (any_of HT_.out s2_) ?_
 refine pn_ 32 35 m33_ (any_of HT_.out s2_) ?_
 refine pn_ 33 36 m34_ (any_of HT_.out s2_) ?_
 refine pn_ 34 37 m35_ (any_of HT_.out s2_) ?_
 refine pn_ 35 38 m36_ (any_of HT_.out s2_) ?_
 refine pn_ 36 39 m37_ (any_of HT_.out s2_) ?_
 refine pu_ 37 40 m38_ (any_of HT_.out s2_) ?_
 refine pu_ 38 41 m39_ (any_of HT_.out s2_) ?_
 refine pn_ 39 42 m40_ (any_of HT_.out s2_) ?_
 refine pn_ 40 43 m41_ (any_of HT_.out s2_) ?_
 refine pn_ 41 44 m42_ (any_of HT_.out s2_) ?_
 refine pn_ 42 45 m81_ (any_of HT_.out s2_) ?_
 refine pn_ 43 46 m82_ (any_of HT_.out s2_) ?_
 refine pn_ 44 47 m83_ (any_of HT_.out s2_) ?_
 refine pn_ 45 48 m46_ (any_of HT_.out s2_) ?_
 refine pn_ 46 49 m47_ (any_of HT_.out s2_) ?_
 refine pn_ 47 50 m48_ (any_of HT_.out s2_) ?_
 refine pn_ 48 51 m49_ (any_of HT_.out s2_) ?_
 refine pn_ 49 52 m50_ (any_of HT_.out s2_) ?_
 refine pu_ 50 53 m51_ (any_of HT_.out s2_) ?_
 refine done_ (done_of HT_.out s2_) ?_
 try go_wp2
 go_ret
 exact ⟨by first | rfl | (simp [errW_none, errW_some] <;> rfl) | (simp [*, errW_none, errW_some] <;> rfl), by repeat (first | (with_reducible first | exact HB.out | apply below_alloc | apply pw_below_drewN | apply below_drew1) | exact HB.out)⟩}}
 {
 replace c5 := Bool.eq_false_iff.mpr c5
 subst c5
 have H1 : (some false) = some r := by rw [if_neg (show ¬ (false = true) by decide)] at H; exact H
 clear H
 have H := H1
 clear H1
 obtain rfl := Option.some.inj H
 have p174 : 0 ≤ (a0_1 : Int) := of_decide_eq_true (by first | (with_reducible assumption) | assumption)
 have q174 : a0_1 < (l0_0.length : Int) := of_decide_eq_true (by first | (with_reducible assumption) | assumption)
 obtain ⟨ad174, A174_7, c174_7, e174, hx174_0, hx174_1, hx174_2, hx174_3, hx174_4, hx174_5, hx174_6, hx174_7, hl174_7, hi174_7⟩ := at_T81 HR0_0.out a0_1 p174 q174
 obtain rfl : adp0_ = ad174 := (by injection e174)
 have HR174_7 := Aside0.mk hi174_7
 have HC174_7 := Aside0.mk hl174_7
 clear hi174_7 hl174_7
 replace p174 := eq_true p174
 replace q174 := eq_true q174
 go_enter Try.func57, Try.ntmps57
 try go_wp2
 have n0_ := Aside0.mk (below_drew1 HB.out)
 clear HB
 have HB := n0_
 clear n0_
 have p175 : 0 ≤ (a0_1 : Int) := of_decide_eq_true (by first | (with_reducible assumption) | assumption)
 have q175 : a0_1 < (l0_0.length : Int) := of_decide_eq_true (by first | (with_reducible assumption) | assumption)
 obtain ⟨ad175, A175_7, c175_7, e175, hx175_0, hx175_1, hx175_2, hx175_3, hx175_4, hx175_5, hx175_6, hx175_7, hl175_7, hi175_7⟩ := at_T81 HR0_0.out a0_1 p175 q175
 have hw175_7 := hx175_7
 have hw175_6 := hx175_6
 have hw175_5 := hx175_5
 have hw175_4 := hx175_4
 have hw175_3 := hx175_3
 have hw175_2 := hx175_2
 have hw175_1 := hx175_1
 have hw175_0 := hx175_0
 obtain rfl : adp0_ = ad175 := (by injection e175)
 replace hx175_0 := (HB.out.cell (World.block_lt_of_cell? w _ hx175_0)).trans hx175_0
 replace hx175_1 := (HB.out.cell (World.block_lt_of_cell? w _ hx175_1)).trans hx175_1
 replace hx175_2 := (HB.out.cell (World.block_lt_of_cell? w _ hx175_2)).trans hx175_2
 replace hx175_3 := (HB.out.cell (World.block_lt_of_cell? w _ hx175_3)).trans hx175_3
 replace hx175_4 := (HB.out.cell (World.block_lt_of_cell? w _ hx175_4)).trans hx175_4
 replace hx175_5 := (HB.out.cell (World.block_lt_of_cell? w _ hx175_5)).trans hx175_5
 replace hx175_6 := (HB.out.cell (World.block_lt_of_cell? w _ hx175_6)).trans hx175_6
 replace hx175_7 := (HB.out.cell (World.block_lt_of_cell? w _ hx175_7)).trans hx175_7
 have HR175_7 := Aside0.mk hi175_7
 have HC175_7 := Aside0.mk hl175_7
 clear hi175_7 hl175_7
 replace p175 := eq_true p175
 replace q175 := eq_true q175
 refine start_ (n := 51) (S := fun w' => w'.cell? (adp0_.add ((a0_1).toNat * 8)) = some (.int .i64 ((rd_T81 l0_0 a0_1).f0)) ∧ w'.cell? ⟨(adp0_.add ((a0_1).toNat * 8)).block, (adp0_.add ((a0_1).toNat * 8)).off + 1, none⟩ = some (.int .i64 ((rd_T81 l0_0 a0_1).f1)) ∧ w'.cell? ⟨(adp0_.add ((a0_1).toNat * 8)).block, (adp0_.add ((a0_1).toNat * 8)).off + 2, none⟩ = some (.int .i64 ((rd_T81 l0_0 a0_1).f2)) ∧ w'.cell? ⟨(adp0_.add ((a0_1).toNat * 8)).block, (adp0_.add ((a0_1).toNat * 8)).off + 3, none⟩ = some (.string ((rd_T81 l0_0 a0_1).f3)) ∧ w'.cell? ⟨(adp0_.add ((a0_1).toNat * 8)).block, (adp0_.add ((a0_1).toNat * 8)).off + 4, none⟩ = some (.int .i64 ((rd_T81 l0_0 a0_1).f4)) ∧ w'.cell? ⟨(adp0_.add ((a0_1).toNat * 8)).block, (adp0_.add ((a0_1).toNat * 8)).off + 5, none⟩ = some (.bool ((rd_T81 l0_0 a0_1).f5)) ∧ w'.cell? ⟨(adp0_.add ((a0_1).toNat * 8)).block, (adp0_.add ((a0_1).toNat * 8)).off + 6, none⟩ = some (.int .i64 ((rd_T81 l0_0 a0_1).f6)) ∧ w'.cell? ⟨(adp0_.add ((a0_1).toNat * 8)).block, (adp0_.add ((a0_1).toNat * 8)).off + 7, none⟩ = some (.slice A175_7 ((rd_T81 l0_0 a0_1).f7).length c175_7)) (ds := []) m0_ s2_ rfl rfl ⟨((HB.out.cell (World.block_lt_of_cell? w _ hw175_0)).trans hw175_0), ((HB.out.cell (World.block_lt_of_cell? w _ hw175_1)).trans hw175_1), ((HB.out.cell (World.block_lt_of_cell? w _ hw175_2)).trans hw175_2), ((HB.out.cell (World.block_lt_of_cell? w _ hw175_3)).trans hw175_3), ((HB.out.cell (World.block_lt_of_cell? w _ hw175_4)).trans hw175_4), ((HB.out.cell (World.block_lt_of_cell? w _ hw175_5)).trans hw175_5), ((HB.out.cell (World.block_lt_of_cell? w _ hw175_6)).trans hw175_6), ((HB.out.cell (World.block_lt_of_cell? w _ hw175_7)).trans hw175_7)⟩ (fun hHeld => ?_); refine with_tabW spec_l03Message_v0.tab1 spec_l03Message_v0.bits1 (fun HT_ HW_ => ?_)
 generalize w.drew = w41 at HB HR175_7 hx175_0 hx175_1 hx175_2 hx175_3 hx175_4 hx175_5 hx175_6 hx175_7 hHeld ⊢
 refine pu_ 0 3 m1_ (any_of HT_.out s2_) ?_
 refine pu_ 1 4 m2_ (any_of HT_.out s2_) ?_
 refine pu_ 2 5 m3_ (any_of HT_.out s2_) ?_
 refine take_ (i := 3) (N := some 6) (v := ?_) (a' := ?_) m4_ rfl rfl (take_ofW HT_.out HW_.out s2_) (fun _ _ _ h => h) (Or.inl ⟨by rfl, ?_⟩) hHeld ?_ ?_
 rotate_left
 {
 rintro w' ⟨s0, s1, s2, s3, s4, s5, s6, s7⟩
 go_simp
 with_reducible rfl}
 rotate_left
 · exact p1_
 refine one_ (i := 4) (N := some 7) m5_ rfl rfl (one_of HT_.out s2_) (by decide) (fun K hK => ?_)
 refine goes_ Try.func52 s2_ rfl #[.int .i64 ((rd_T81 l0_0 a0_1).f0), .int .i64 1, .int .i64 1000000000] (by rfl) rfl rfl s3_ ?_
 with_reducible refine (spec_l00In.calls ((rd_T81 l0_0 a0_1).f0) 1 1000000000 false _ A4.out).mono ?_
 rintro e w' ⟨rfl, ⟨nd, rfl⟩⟩
 refine ⟨_, rfl, ?_⟩
 refine hK.out _ _ ⟨((HB.out.cell (World.block_lt_of_cell? w _ hw175_0)).trans hw175_0), ((HB.out.cell (World.block_lt_of_cell? w _ hw175_1)).trans hw175_1), ((HB.out.cell (World.block_lt_of_cell? w _ hw175_2)).trans hw175_2), ((HB.out.cell (World.block_lt_of_cell? w _ hw175_3)).trans hw175_3), ((HB.out.cell (World.block_lt_of_cell? w _ hw175_4)).trans hw175_4), ((HB.out.cell (World.block_lt_of_cell? w _ hw175_5)).trans hw175_5), ((HB.out.cell (World.block_lt_of_cell? w _ hw175_6)).trans hw175_6), ((HB.out.cell (World.block_lt_of_cell? w _ hw175_7)).trans hw175_7)⟩ (fun hHeld => ?_)
 clear hK K
 refine norm_ (a' := ?_) ?_ ?_
 rotate_left
 {
 show Act.put _ (some 7) _ = _
 simp only [Act.put, List.setIfInBounds_toArray, List.set_cons_zero, List.set_cons_succ, i64_w, i32_w]
 rfl}
 refine pu_ 5 8 m6_ (any_of HT_.out s2_) ?_
 refine pu_ 6 9 m7_ (any_of HT_.out s2_) ?_
 refine pn_ 7 10 m8_ (any_of HT_.out s2_) ?_
 refine pn_ 8 11 m9_ (any_of HT_.out s2_) ?_
 refine pn_ 9 12 m10_ (any_of HT_.out s2_) ?_
 refine pn_ 10 13 m11_ (any_of HT_.out s2_) ?_
 refine pn_ 11 14 m12_ (any_of HT_.out s2_) ?_
 refine pn_ 12 15 m13_ (any_of HT_.out s2_) ?_
 refine pu_ 13 16 m14_ (any_of HT_.out s2_) ?_
 refine pu_ 14 17 m15_ (any_of HT_.out s2_) ?_
 refine pn_ 15 18 m16_ (any_of HT_.out s2_) ?_
 refine pn_ 16 19 m17_ (any_of HT_.out s2_) ?_
 refine pn_ 17 20 m18_ (any_of HT_.out s2_) ?_
 refine pn_ 18 21 m19_ (any_of HT_.out s2_) ?_
 refine pn_ 19 22 m20_ (any_of HT_.out s2_) ?_
 refine pn_ 20 23 m21_ (any_of HT_.out s2_) ?_
 refine pu_ 21 24 m22_ (any_of HT_.out s2_) ?_
 refine pu_ 22 25 m23_ (any_of HT_.out s2_) ?_
 refine pn_ 23 26 m24_ (any_of HT_.out s2_) ?_
 refine pn_ 24 27 m25_ (any_of HT_.out s2_) ?_
 refine pn_ 25 28 m26_ (any_of HT_.out s2_) ?_
 refine pn_ 26 29 m27_ (any_of HT_.out s2_) ?_
 refine pn_ 27 30 m28_ (any_of HT_.out s2_) ?_
 refine pn_ 28 31 m29_ (any_of HT_.out s2_) ?_
 refine pu_ 29 32 m30_ (any_of HT_.out s2_) ?_
 refine pu_ 30 33 m31_ (any_of HT_.out s2_) ?_
 refine pn_ 31 34 m32_ (any_of HT_.out s2_) ?_
 refine pn_ 32 35 m33_ (any_of HT_.out s2_) ?_
 refine pn_ 33 36 m34_ (any_of HT_.out s2_) ?_
 refine pn_ 34 37 m35_ (any_of HT_.out s2_) ?_
 refine pn_ 35 38 m36_ (any_of HT_.out s2_) ?_
 refine pn_ 36 39 m37_ (any_of HT_.out s2_) ?_
 refine pu_ 37 40 m38_ (any_of HT_.out s2_) ?_
 refine pu_ 38 41 m39_ (any_of HT_.out s2_) ?_
 refine pn_ 39 42 m40_ (any_of HT_.out s2_) ?_
 refine pn_ 40 43 m41_ (any_of HT_.out s2_) ?_
 refine pn_ 41 44 m42_ (any_of HT_.out s2_) ?_
 refine pn_ 42 45 m81_ (any_of HT_.out s2_) ?_
 refine pn_ 43 46 m82_ (any_of HT_.out s2_) ?_
 refine pn_ 44 47 m83_ (any_of HT_.out s2_) ?_
 refine pn_ 45 48 m46_ (any_of HT_.out s2_) ?_
 refine pn_ 46 49 m47_ (any_of HT_.out s2_) ?_
 refine pn_ 47 50 m48_ (any_of HT_.out s2_) ?_
 refine pn_ 48 51 m49_ (any_of HT_.out s2_) ?_
 refine pn_ 49 52 m50_ (any_of HT_.out s2_) ?_
 refine pu_ 50 53 m51_ (any_of HT_.out s2_) ?_
 refine done_ (done_of HT_.out s2_) ?_
 try go_wp2
 go_ret
 exact ⟨by first | rfl | (simp [errW_none, errW_some] <;> rfl) | (simp [*, errW_none, errW_some] <;> rfl), by repeat (first | (with_reducible first | exact HB.out | apply below_alloc | apply pw_below_drewN | apply below_drew1) | exact HB.out)⟩}}
 {
 rw [if_neg c3] at H
 exact absurd H (by simp)}}
 {
 rw [if_neg c2] at H
 exact absurd H (by simp)}

end Go.Proofs.Ytgmbgpjebpgpkaa.QFnExactRootOf
