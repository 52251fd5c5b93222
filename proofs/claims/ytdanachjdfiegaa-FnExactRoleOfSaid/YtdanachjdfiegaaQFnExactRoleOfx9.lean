-- written by a program of this session, on the lines of the kit's print
import Derived.Test.YtdanachjdfiegaaQFnExactRoleOfx0
import Derived.Test.YtdanachjdfiegaaQFnExactRoleOfx5
import Derived.Test.YtdanachjdfiegaaQFnExactRoleOfx7
import Derived.Test.YtdanachjdfiegaaQFnExactRoleOfx8
namespace Go.Proofs.Ytdanachjdfiegaa.QFnExactRoleOf
open Go.RowKit Go.Proofs.YtdanachjdfiegaaW.PrintWords Go.Proofs.YtdanachjdfiegaaW.PrintLast Go.Proofs.YtdanachjdfiegaaW.PrintMore
attribute [local go_sem] max2_int min2_int max_two min_two max_three min_three max_four min_four   -- for this text's walks alone
set_option linter.unusedVariables false
set_option linter.unusedSimpArgs false

/-! ### spec_l02Is: function 54 -/
abbrev spec_l02Is.T : Bool := true
abbrev spec_l02Is.F : Bool := false
theorem spec_l02Is.s1_ {P : Prop} (h : P := by first | rfl | (simp; done) | (simp [*]; done)) : P := h
theorem spec_l02Is.s2_ {P : Prop} (h : P := by kernel_rfl) : P := h
theorem spec_l02Is.s3_ {P : Prop} (h : P := by (try simp only [List.map_toArray, List.map_cons, List.map_nil]); first | done | rfl | (simp only [List.length_drop, List.length_take]; rfl)) : P := h
abbrev spec_l02Is.m0_ : Array Bool := #[F,F,F,F,F,F,F,F,F,F,F,F,F,F,F,F,F,F,F,F,F,F,F,F,F,F,F,F,F,F,F,F,F,F,F,F,F,F,F,F,F,F,F,F,F,F,F,F,F,F,F]
abbrev spec_l02Is.m1_ : Array Bool := #[T,F,F,F,F,F,F,F,F,F,F,F,F,F,F,F,F,F,F,F,F,F,F,F,F,F,F,F,F,F,F,F,F,F,F,F,F,F,F,F,F,F,F,F,F,F,F,F,F,F,F]
abbrev spec_l02Is.m2_ : Array Bool := #[T,T,F,F,F,F,F,F,F,F,F,F,F,F,F,F,F,F,F,F,F,F,F,F,F,F,F,F,F,F,F,F,F,F,F,F,F,F,F,F,F,F,F,F,F,F,F,F,F,F,F]
abbrev spec_l02Is.m3_ : Array Bool := #[T,T,T,F,F,F,F,F,F,F,F,F,F,F,F,F,F,F,F,F,F,F,F,F,F,F,F,F,F,F,F,F,F,F,F,F,F,F,F,F,F,F,F,F,F,F,F,F,F,F,F]
abbrev spec_l02Is.m4_ : Array Bool := #[T,T,T,T,F,F,F,F,F,F,F,F,F,F,F,F,F,F,F,F,F,F,F,F,F,F,F,F,F,F,F,F,F,F,F,F,F,F,F,F,F,F,F,F,F,F,F,F,F,F,F]
abbrev spec_l02Is.m5_ : Array Bool := #[T,T,T,T,T,F,F,F,F,F,F,F,F,F,F,F,F,F,F,F,F,F,F,F,F,F,F,F,F,F,F,F,F,F,F,F,F,F,F,F,F,F,F,F,F,F,F,F,F,F,F]
abbrev spec_l02Is.m6_ : Array Bool := #[T,T,T,T,T,T,F,F,F,F,F,F,F,F,F,F,F,F,F,F,F,F,F,F,F,F,F,F,F,F,F,F,F,F,F,F,F,F,F,F,F,F,F,F,F,F,F,F,F,F,F]
abbrev spec_l02Is.m7_ : Array Bool := #[T,T,T,T,T,T,T,F,F,F,F,F,F,F,F,F,F,F,F,F,F,F,F,F,F,F,F,F,F,F,F,F,F,F,F,F,F,F,F,F,F,F,F,F,F,F,F,F,F,F,F]
abbrev spec_l02Is.m8_ : Array Bool := #[T,T,T,T,T,T,T,T,F,F,F,F,F,F,F,F,F,F,F,F,F,F,F,F,F,F,F,F,F,F,F,F,F,F,F,F,F,F,F,F,F,F,F,F,F,F,F,F,F,F,F]
abbrev spec_l02Is.m9_ : Array Bool := #[T,T,T,T,T,T,T,T,T,F,F,F,F,F,F,F,F,F,F,F,F,F,F,F,F,F,F,F,F,F,F,F,F,F,F,F,F,F,F,F,F,F,F,F,F,F,F,F,F,F,F]
abbrev spec_l02Is.m10_ : Array Bool := #[T,T,T,T,T,T,T,T,T,T,F,F,F,F,F,F,F,F,F,F,F,F,F,F,F,F,F,F,F,F,F,F,F,F,F,F,F,F,F,F,F,F,F,F,F,F,F,F,F,F,F]
abbrev spec_l02Is.m11_ : Array Bool := #[T,T,T,T,T,T,T,T,T,T,T,F,F,F,F,F,F,F,F,F,F,F,F,F,F,F,F,F,F,F,F,F,F,F,F,F,F,F,F,F,F,F,F,F,F,F,F,F,F,F,F]
abbrev spec_l02Is.m12_ : Array Bool := #[T,T,T,T,T,T,T,T,T,T,T,T,F,F,F,F,F,F,F,F,F,F,F,F,F,F,F,F,F,F,F,F,F,F,F,F,F,F,F,F,F,F,F,F,F,F,F,F,F,F,F]
abbrev spec_l02Is.m13_ : Array Bool := #[T,T,T,T,T,T,T,T,T,T,T,T,T,F,F,F,F,F,F,F,F,F,F,F,F,F,F,F,F,F,F,F,F,F,F,F,F,F,F,F,F,F,F,F,F,F,F,F,F,F,F]
abbrev spec_l02Is.m14_ : Array Bool := #[T,T,T,T,T,T,T,T,T,T,T,T,T,T,F,F,F,F,F,F,F,F,F,F,F,F,F,F,F,F,F,F,F,F,F,F,F,F,F,F,F,F,F,F,F,F,F,F,F,F,F]
abbrev spec_l02Is.m15_ : Array Bool := #[T,T,T,T,T,T,T,T,T,T,T,T,T,T,T,F,F,F,F,F,F,F,F,F,F,F,F,F,F,F,F,F,F,F,F,F,F,F,F,F,F,F,F,F,F,F,F,F,F,F,F]
abbrev spec_l02Is.m16_ : Array Bool := #[T,T,T,T,T,T,T,T,T,T,T,T,T,T,T,T,F,F,F,F,F,F,F,F,F,F,F,F,F,F,F,F,F,F,F,F,F,F,F,F,F,F,F,F,F,F,F,F,F,F,F]
abbrev spec_l02Is.m17_ : Array Bool := #[T,T,T,T,T,T,T,T,T,T,T,T,T,T,T,T,T,F,F,F,F,F,F,F,F,F,F,F,F,F,F,F,F,F,F,F,F,F,F,F,F,F,F,F,F,F,F,F,F,F,F]
abbrev spec_l02Is.m18_ : Array Bool := #[T,T,T,T,T,T,T,T,T,T,T,T,T,T,T,T,T,T,F,F,F,F,F,F,F,F,F,F,F,F,F,F,F,F,F,F,F,F,F,F,F,F,F,F,F,F,F,F,F,F,F]
abbrev spec_l02Is.m19_ : Array Bool := #[T,T,T,T,T,T,T,T,T,T,T,T,T,T,T,T,T,T,T,F,F,F,F,F,F,F,F,F,F,F,F,F,F,F,F,F,F,F,F,F,F,F,F,F,F,F,F,F,F,F,F]
abbrev spec_l02Is.m20_ : Array Bool := #[T,T,T,T,T,T,T,T,T,T,T,T,T,T,T,T,T,T,T,T,F,F,F,F,F,F,F,F,F,F,F,F,F,F,F,F,F,F,F,F,F,F,F,F,F,F,F,F,F,F,F]
abbrev spec_l02Is.m21_ : Array Bool := #[T,T,T,T,T,T,T,T,T,T,T,T,T,T,T,T,T,T,T,T,T,F,F,F,F,F,F,F,F,F,F,F,F,F,F,F,F,F,F,F,F,F,F,F,F,F,F,F,F,F,F]
abbrev spec_l02Is.m22_ : Array Bool := #[T,T,T,T,T,T,T,T,T,T,T,T,T,T,T,T,T,T,T,T,T,T,F,F,F,F,F,F,F,F,F,F,F,F,F,F,F,F,F,F,F,F,F,F,F,F,F,F,F,F,F]
abbrev spec_l02Is.m23_ : Array Bool := #[T,T,T,T,T,T,T,T,T,T,T,T,T,T,T,T,T,T,T,T,T,T,T,F,F,F,F,F,F,F,F,F,F,F,F,F,F,F,F,F,F,F,F,F,F,F,F,F,F,F,F]
abbrev spec_l02Is.m24_ : Array Bool := #[T,T,T,T,T,T,T,T,T,T,T,T,T,T,T,T,T,T,T,T,T,T,T,T,F,F,F,F,F,F,F,F,F,F,F,F,F,F,F,F,F,F,F,F,F,F,F,F,F,F,F]
abbrev spec_l02Is.m25_ : Array Bool := #[T,T,T,T,T,T,T,T,T,T,T,T,T,T,T,T,T,T,T,T,T,T,T,T,T,F,F,F,F,F,F,F,F,F,F,F,F,F,F,F,F,F,F,F,F,F,F,F,F,F,F]
abbrev spec_l02Is.m26_ : Array Bool := #[T,T,T,T,T,T,T,T,T,T,T,T,T,T,T,T,T,T,T,T,T,T,T,T,T,T,F,F,F,F,F,F,F,F,F,F,F,F,F,F,F,F,F,F,F,F,F,F,F,F,F]
abbrev spec_l02Is.m27_ : Array Bool := #[T,T,T,T,T,T,T,T,T,T,T,T,T,T,T,T,T,T,T,T,T,T,T,T,T,T,T,F,F,F,F,F,F,F,F,F,F,F,F,F,F,F,F,F,F,F,F,F,F,F,F]
abbrev spec_l02Is.m28_ : Array Bool := #[T,T,T,T,T,T,T,T,T,T,T,T,T,T,T,T,T,T,T,T,T,T,T,T,T,T,T,T,F,F,F,F,F,F,F,F,F,F,F,F,F,F,F,F,F,F,F,F,F,F,F]
abbrev spec_l02Is.m29_ : Array Bool := #[T,T,T,T,T,T,T,T,T,T,T,T,T,T,T,T,T,T,T,T,T,T,T,T,T,T,T,T,T,F,F,F,F,F,F,F,F,F,F,F,F,F,F,F,F,F,F,F,F,F,F]
abbrev spec_l02Is.m30_ : Array Bool := #[T,T,T,T,T,T,T,T,T,T,T,T,T,T,T,T,T,T,T,T,T,T,T,T,T,T,T,T,T,F,T,F,F,F,F,F,F,F,F,F,F,F,F,F,F,F,F,F,F,F,F]
abbrev spec_l02Is.m31_ : Array Bool := #[T,T,T,T,T,T,T,T,T,T,T,T,T,T,T,T,T,T,T,T,T,T,T,T,T,T,T,T,T,F,T,T,F,F,F,F,F,F,F,F,F,F,F,F,F,F,F,F,F,F,F]
abbrev spec_l02Is.m32_ : Array Bool := #[T,T,T,T,T,T,T,T,T,T,T,T,T,T,T,T,T,T,T,T,T,T,T,T,T,T,T,T,T,F,T,T,F,F,F,T,F,F,F,F,F,F,F,F,F,F,F,F,F,F,F]
abbrev spec_l02Is.m33_ : Array Bool := #[T,T,T,T,T,T,T,T,T,T,T,T,T,T,T,T,T,T,T,T,T,T,T,T,T,T,T,T,T,F,T,T,F,F,F,T,T,F,F,F,F,F,F,F,F,F,F,F,F,F,F]
abbrev spec_l02Is.m34_ : Array Bool := #[T,T,T,T,T,T,T,T,T,T,T,T,T,T,T,T,T,T,T,T,T,T,T,T,T,T,T,T,T,F,T,T,F,F,F,T,T,T,F,F,F,F,F,F,F,F,F,F,F,F,F]
abbrev spec_l02Is.m35_ : Array Bool := #[T,T,T,T,T,T,T,T,T,T,T,T,T,T,T,T,T,T,T,T,T,T,T,T,T,T,T,T,T,T,T,T,F,F,F,T,T,T,F,F,F,F,F,F,F,F,F,F,F,F,F]
abbrev spec_l02Is.m36_ : Array Bool := #[T,T,T,T,T,T,T,T,T,T,T,T,T,T,T,T,T,T,T,T,T,T,T,T,T,T,T,T,T,T,T,T,T,F,F,T,T,T,F,F,F,F,F,F,F,F,F,F,F,F,F]
abbrev spec_l02Is.m37_ : Array Bool := #[T,T,T,T,T,T,T,T,T,T,T,T,T,T,T,T,T,T,T,T,T,T,T,T,T,T,T,T,T,T,T,T,T,T,F,T,T,T,F,F,F,F,F,F,F,F,F,F,F,F,F]
abbrev spec_l02Is.m38_ : Array Bool := #[T,T,T,T,T,T,T,T,T,T,T,T,T,T,T,T,T,T,T,T,T,T,T,T,T,T,T,T,T,T,T,T,T,T,T,T,T,T,F,F,F,F,F,F,F,F,F,F,F,F,F]
abbrev spec_l02Is.m39_ : Array Bool := #[T,T,T,T,T,T,T,T,T,T,T,T,T,T,T,T,T,T,T,T,T,T,T,T,T,T,T,T,T,T,T,T,T,T,T,T,T,T,T,F,F,F,F,F,F,F,F,F,F,F,F]
abbrev spec_l02Is.m40_ : Array Bool := #[T,T,T,T,T,T,T,T,T,T,T,T,T,T,T,T,T,T,T,T,T,T,T,T,T,T,T,T,T,T,T,T,T,T,T,T,T,T,T,T,F,F,F,F,F,F,F,F,F,F,F]
abbrev spec_l02Is.m41_ : Array Bool := #[T,T,T,T,T,T,T,T,T,T,T,T,T,T,T,T,T,T,T,T,T,T,T,T,T,T,T,T,T,T,T,T,T,T,T,T,T,T,T,T,T,F,F,F,F,F,F,F,F,F,F]
abbrev spec_l02Is.m42_ : Array Bool := #[T,T,T,T,T,T,T,T,T,T,T,T,T,T,T,T,T,T,T,T,T,T,T,T,T,T,T,T,T,T,T,T,T,T,T,T,T,T,T,T,T,T,F,F,F,F,F,F,F,F,F]
abbrev spec_l02Is.m43_ : Array Bool := #[T,T,T,T,T,T,T,T,T,T,T,T,T,T,T,T,T,T,T,T,T,T,T,T,T,T,T,T,T,T,T,T,T,T,T,T,T,T,T,T,T,T,T,F,F,F,F,F,F,F,F]
abbrev spec_l02Is.m44_ : Array Bool := #[T,T,T,T,T,T,T,T,T,T,T,T,T,T,T,T,T,T,T,T,T,T,T,T,T,T,T,T,T,T,T,T,T,T,T,T,T,T,T,T,T,T,T,T,F,F,F,F,F,F,F]
abbrev spec_l02Is.m45_ : Array Bool := #[T,T,T,T,T,T,T,T,T,T,T,T,T,T,T,T,T,T,T,T,T,T,T,T,T,T,T,T,T,T,T,T,T,T,T,T,T,T,T,T,T,T,T,T,T,F,F,F,F,F,F]
abbrev spec_l02Is.m46_ : Array Bool := #[T,T,T,T,T,T,T,T,T,T,T,T,T,T,T,T,T,T,T,T,T,T,T,T,T,T,T,T,T,T,T,T,T,T,T,T,T,T,T,T,T,T,T,T,T,T,F,F,F,F,F]
abbrev spec_l02Is.m47_ : Array Bool := #[T,T,T,T,T,T,T,T,T,T,T,T,T,T,T,T,T,T,T,T,T,T,T,T,T,T,T,T,T,T,T,T,T,T,T,T,T,T,T,T,T,T,T,T,T,T,T,F,F,F,F]
abbrev spec_l02Is.m48_ : Array Bool := #[T,T,T,T,T,T,T,T,T,T,T,T,T,T,T,T,T,T,T,T,T,T,T,T,T,T,T,T,T,T,T,T,T,T,T,T,T,T,T,T,T,T,T,T,T,T,T,T,F,F,F]
abbrev spec_l02Is.m49_ : Array Bool := #[T,T,T,T,T,T,T,T,T,T,T,T,T,T,T,T,T,T,T,T,T,T,T,T,T,T,T,T,T,T,T,T,T,T,T,T,T,T,T,T,T,T,T,T,T,T,T,T,T,F,F]
abbrev spec_l02Is.m50_ : Array Bool := #[T,T,T,T,T,T,T,T,T,T,T,T,T,T,T,T,T,T,T,T,T,T,T,T,T,T,T,T,T,T,T,T,T,T,T,T,T,T,T,T,T,T,T,T,T,T,T,T,T,T,F]
abbrev spec_l02Is.m51_ : Array Bool := #[T,T,T,T,T,T,T,T,T,T,T,T,T,T,T,T,T,T,T,T,T,T,T,T,T,T,T,T,T,T,T,T,T,T,T,T,T,T,T,T,T,T,T,T,T,T,T,T,T,T,T]
abbrev spec_l02Is.m52_ : Array Bool := #[T,T,T,T,T,T,T,T,T,T,T,T,T,T,T,T,T,T,T,T,T,T,T,T,T,T,T,T,T,T,F,F,F,F,F,F,F,F,F,F,F,F,F,F,F,F,F,F,F,F,F]
abbrev spec_l02Is.m53_ : Array Bool := #[T,T,T,T,T,T,T,T,T,T,T,T,T,T,T,T,T,T,T,T,T,T,T,T,T,T,T,T,T,T,T,F,F,F,F,F,F,F,F,F,F,F,F,F,F,F,F,F,F,F,F]
abbrev spec_l02Is.m54_ : Array Bool := #[T,T,T,T,T,T,T,T,T,T,T,T,T,T,T,T,T,T,T,T,T,T,T,T,T,T,T,T,T,T,T,T,F,F,F,F,F,F,F,F,F,F,F,F,F,F,F,F,F,F,F]
abbrev spec_l02Is.m55_ : Array Bool := #[T,T,T,T,T,T,T,T,T,T,T,T,T,T,T,T,T,T,T,T,T,T,T,T,T,T,T,T,T,T,T,T,T,F,F,F,F,F,F,F,F,F,F,F,F,F,F,F,F,F,F]
abbrev spec_l02Is.m56_ : Array Bool := #[T,T,T,T,T,T,T,T,T,T,T,T,T,T,T,T,T,T,T,T,T,T,T,T,T,T,T,T,T,T,T,T,T,T,F,F,F,F,F,F,F,F,F,F,F,F,F,F,F,F,F]
abbrev spec_l02Is.m57_ : Array Bool := #[T,T,T,T,T,T,T,T,T,T,T,T,T,T,T,T,T,T,T,T,T,T,T,T,T,T,T,T,T,T,T,T,T,T,T,F,F,F,F,F,F,F,F,F,F,F,F,F,F,F,F]
abbrev spec_l02Is.m58_ : Array Bool := #[T,T,T,T,T,T,T,T,T,T,T,T,T,T,T,T,T,T,T,T,T,T,T,T,T,T,T,T,T,T,T,T,T,T,T,T,F,F,F,F,F,F,F,F,F,F,F,F,F,F,F]
abbrev spec_l02Is.m59_ : Array Bool := #[T,T,T,T,T,T,T,T,T,T,T,T,T,T,T,T,T,T,T,T,T,T,T,T,T,T,T,T,T,T,T,T,T,T,T,T,T,F,F,F,F,F,F,F,F,F,F,F,F,F,F]
abbrev spec_l02Is.m60_ : Array Bool := #[F,F,F,F,F,F,F,F,F,F,F,F,F,F,F,F,F,F,F,F,F,F,F,F,F,F,F,F,F,F,F,F,F,F,F,F,F,F,F,F,F,F,F,F,F,F,F,F,F,F,F,F]
abbrev spec_l02Is.m61_ : Array Bool := #[T,F,F,F,F,F,F,F,F,F,F,F,F,F,F,F,F,F,F,F,F,F,F,F,F,F,F,F,F,F,F,F,F,F,F,F,F,F,F,F,F,F,F,F,F,F,F,F,F,F,F,F]
abbrev spec_l02Is.m62_ : Array Bool := #[T,T,F,F,F,F,F,F,F,F,F,F,F,F,F,F,F,F,F,F,F,F,F,F,F,F,F,F,F,F,F,F,F,F,F,F,F,F,F,F,F,F,F,F,F,F,F,F,F,F,F,F]
abbrev spec_l02Is.m63_ : Array Bool := #[T,T,T,F,F,F,F,F,F,F,F,F,F,F,F,F,F,F,F,F,F,F,F,F,F,F,F,F,F,F,F,F,F,F,F,F,F,F,F,F,F,F,F,F,F,F,F,F,F,F,F,F]
abbrev spec_l02Is.m64_ : Array Bool := #[T,T,T,T,F,F,F,F,F,F,F,F,F,F,F,F,F,F,F,F,F,F,F,F,F,F,F,F,F,F,F,F,F,F,F,F,F,F,F,F,F,F,F,F,F,F,F,F,F,F,F,F]
abbrev spec_l02Is.m65_ : Array Bool := #[T,T,T,T,T,F,F,F,F,F,F,F,F,F,F,F,F,F,F,F,F,F,F,F,F,F,F,F,F,F,F,F,F,F,F,F,F,F,F,F,F,F,F,F,F,F,F,F,F,F,F,F]
abbrev spec_l02Is.m66_ : Array Bool := #[T,T,T,T,T,T,F,F,F,F,F,F,F,F,F,F,F,F,F,F,F,F,F,F,F,F,F,F,F,F,F,F,F,F,F,F,F,F,F,F,F,F,F,F,F,F,F,F,F,F,F,F]
abbrev spec_l02Is.m67_ : Array Bool := #[T,T,T,T,T,T,T,F,F,F,F,F,F,F,F,F,F,F,F,F,F,F,F,F,F,F,F,F,F,F,F,F,F,F,F,F,F,F,F,F,F,F,F,F,F,F,F,F,F,F,F,F]
abbrev spec_l02Is.m68_ : Array Bool := #[T,T,T,T,T,T,T,T,F,F,F,F,F,F,F,F,F,F,F,F,F,F,F,F,F,F,F,F,F,F,F,F,F,F,F,F,F,F,F,F,F,F,F,F,F,F,F,F,F,F,F,F]
abbrev spec_l02Is.m69_ : Array Bool := #[T,T,T,T,T,T,T,T,T,F,F,F,F,F,F,F,F,F,F,F,F,F,F,F,F,F,F,F,F,F,F,F,F,F,F,F,F,F,F,F,F,F,F,F,F,F,F,F,F,F,F,F]
abbrev spec_l02Is.m70_ : Array Bool := #[T,T,T,T,T,T,T,T,T,T,F,F,F,F,F,F,F,F,F,F,F,F,F,F,F,F,F,F,F,F,F,F,F,F,F,F,F,F,F,F,F,F,F,F,F,F,F,F,F,F,F,F]
abbrev spec_l02Is.m71_ : Array Bool := #[T,T,T,T,T,T,T,T,T,T,T,F,F,F,F,F,F,F,F,F,F,F,F,F,F,F,F,F,F,F,F,F,F,F,F,F,F,F,F,F,F,F,F,F,F,F,F,F,F,F,F,F]
abbrev spec_l02Is.m72_ : Array Bool := #[T,T,T,T,T,T,T,T,T,T,T,T,F,F,F,F,F,F,F,F,F,F,F,F,F,F,F,F,F,F,F,F,F,F,F,F,F,F,F,F,F,F,F,F,F,F,F,F,F,F,F,F]
abbrev spec_l02Is.m73_ : Array Bool := #[T,T,T,T,T,T,T,T,T,T,T,T,T,F,F,F,F,F,F,F,F,F,F,F,F,F,F,F,F,F,F,F,F,F,F,F,F,F,F,F,F,F,F,F,F,F,F,F,F,F,F,F]
abbrev spec_l02Is.m74_ : Array Bool := #[T,T,T,T,T,T,T,T,T,T,T,T,T,T,F,F,F,F,F,F,F,F,F,F,F,F,F,F,F,F,F,F,F,F,F,F,F,F,F,F,F,F,F,F,F,F,F,F,F,F,F,F]
abbrev spec_l02Is.m75_ : Array Bool := #[T,T,T,T,T,T,T,T,T,T,T,T,T,T,T,F,F,F,F,F,F,F,F,F,F,F,F,F,F,F,F,F,F,F,F,F,F,F,F,F,F,F,F,F,F,F,F,F,F,F,F,F]
abbrev spec_l02Is.m76_ : Array Bool := #[T,T,T,T,T,T,T,T,T,T,T,T,T,T,T,T,F,F,F,F,F,F,F,F,F,F,F,F,F,F,F,F,F,F,F,F,F,F,F,F,F,F,F,F,F,F,F,F,F,F,F,F]
abbrev spec_l02Is.m77_ : Array Bool := #[T,T,T,T,T,T,T,T,T,T,T,T,T,T,T,T,T,F,F,F,F,F,F,F,F,F,F,F,F,F,F,F,F,F,F,F,F,F,F,F,F,F,F,F,F,F,F,F,F,F,F,F]
abbrev spec_l02Is.m78_ : Array Bool := #[T,T,T,T,T,T,T,T,T,T,T,T,T,T,T,T,T,T,F,F,F,F,F,F,F,F,F,F,F,F,F,F,F,F,F,F,F,F,F,F,F,F,F,F,F,F,F,F,F,F,F,F]
abbrev spec_l02Is.m79_ : Array Bool := #[T,T,T,T,T,T,T,T,T,T,T,T,T,T,T,T,T,T,T,F,F,F,F,F,F,F,F,F,F,F,F,F,F,F,F,F,F,F,F,F,F,F,F,F,F,F,F,F,F,F,F,F]
abbrev spec_l02Is.m80_ : Array Bool := #[T,T,T,T,T,T,T,T,T,T,T,T,T,T,T,T,T,T,T,T,F,F,F,F,F,F,F,F,F,F,F,F,F,F,F,F,F,F,F,F,F,F,F,F,F,F,F,F,F,F,F,F]
abbrev spec_l02Is.m81_ : Array Bool := #[T,T,T,T,T,T,T,T,T,T,T,T,T,T,T,T,T,T,T,T,T,F,F,F,F,F,F,F,F,F,F,F,F,F,F,F,F,F,F,F,F,F,F,F,F,F,F,F,F,F,F,F]
abbrev spec_l02Is.m82_ : Array Bool := #[T,T,T,T,T,T,T,T,T,T,T,T,T,T,T,T,T,T,T,T,T,F,T,F,F,F,F,F,F,F,F,F,F,F,F,F,F,F,F,F,F,F,F,F,F,F,F,F,F,F,F,F]
abbrev spec_l02Is.m83_ : Array Bool := #[T,T,T,T,T,T,T,T,T,T,T,T,T,T,T,T,T,T,T,T,T,F,T,T,F,F,F,F,F,F,F,F,F,F,F,F,F,F,F,F,F,F,F,F,F,F,F,F,F,F,F,F]
abbrev spec_l02Is.m84_ : Array Bool := #[T,T,T,T,T,T,T,T,T,T,T,T,T,T,T,T,T,T,T,T,T,F,T,T,F,F,F,T,F,F,F,F,F,F,F,F,F,F,F,F,F,F,F,F,F,F,F,F,F,F,F,F]
abbrev spec_l02Is.m85_ : Array Bool := #[T,T,T,T,T,T,T,T,T,T,T,T,T,T,T,T,T,T,T,T,T,F,T,T,F,F,F,T,T,F,F,F,F,F,F,F,F,F,F,F,F,F,F,F,F,F,F,F,F,F,F,F]
abbrev spec_l02Is.m86_ : Array Bool := #[T,T,T,T,T,T,T,T,T,T,T,T,T,T,T,T,T,T,T,T,T,F,T,T,F,F,F,T,T,T,F,F,F,F,F,F,F,F,F,F,F,F,F,F,F,F,F,F,F,F,F,F]
abbrev spec_l02Is.m87_ : Array Bool := #[T,T,T,T,T,T,T,T,T,T,T,T,T,T,T,T,T,T,T,T,T,T,T,T,F,F,F,T,T,T,F,F,F,F,F,F,F,F,F,F,F,F,F,F,F,F,F,F,F,F,F,F]
abbrev spec_l02Is.m88_ : Array Bool := #[T,T,T,T,T,T,T,T,T,T,T,T,T,T,T,T,T,T,T,T,T,T,T,T,T,F,F,T,T,T,F,F,F,F,F,F,F,F,F,F,F,F,F,F,F,F,F,F,F,F,F,F]
abbrev spec_l02Is.m89_ : Array Bool := #[T,T,T,T,T,T,T,T,T,T,T,T,T,T,T,T,T,T,T,T,T,T,T,T,T,T,F,T,T,T,F,F,F,F,F,F,F,F,F,F,F,F,F,F,F,F,F,F,F,F,F,F]
abbrev spec_l02Is.m90_ : Array Bool := #[T,T,T,T,T,T,T,T,T,T,T,T,T,T,T,T,T,T,T,T,T,T,T,T,T,T,T,T,T,T,F,F,F,F,F,F,F,F,F,F,F,F,F,F,F,F,F,F,F,F,F,F]
abbrev spec_l02Is.m91_ : Array Bool := #[T,T,T,T,T,T,T,T,T,T,T,T,T,T,T,T,T,T,T,T,T,T,T,T,T,T,T,T,T,T,T,F,F,F,F,F,F,F,F,F,F,F,F,F,F,F,F,F,F,F,F,F]
abbrev spec_l02Is.m92_ : Array Bool := #[T,T,T,T,T,T,T,T,T,T,T,T,T,T,T,T,T,T,T,T,T,T,T,T,T,T,T,T,T,T,T,T,F,F,F,F,F,F,F,F,F,F,F,F,F,F,F,F,F,F,F,F]
abbrev spec_l02Is.m93_ : Array Bool := #[T,T,T,T,T,T,T,T,T,T,T,T,T,T,T,T,T,T,T,T,T,T,T,T,T,T,T,T,T,T,T,T,T,F,F,F,F,F,F,F,F,F,F,F,F,F,F,F,F,F,F,F]
abbrev spec_l02Is.m94_ : Array Bool := #[T,T,T,T,T,T,T,T,T,T,T,T,T,T,T,T,T,T,T,T,T,T,T,T,T,T,T,T,T,T,T,T,T,T,F,F,F,F,F,F,F,F,F,F,F,F,F,F,F,F,F,F]
abbrev spec_l02Is.m95_ : Array Bool := #[T,T,T,T,T,T,T,T,T,T,T,T,T,T,T,T,T,T,T,T,T,T,T,T,T,T,T,T,T,T,T,T,T,T,T,F,F,F,F,F,F,F,F,F,F,F,F,F,F,F,F,F]
abbrev spec_l02Is.m96_ : Array Bool := #[T,T,T,T,T,T,T,T,T,T,T,T,T,T,T,T,T,T,T,T,T,T,T,T,T,T,T,T,T,T,T,T,T,T,T,T,F,F,F,F,F,F,F,F,F,F,F,F,F,F,F,F]
abbrev spec_l02Is.m97_ : Array Bool := #[T,T,T,T,T,T,T,T,T,T,T,T,T,T,T,T,T,T,T,T,T,T,T,T,T,T,T,T,T,T,T,T,T,T,T,T,T,F,F,F,F,F,F,F,F,F,F,F,F,F,F,F]
abbrev spec_l02Is.m98_ : Array Bool := #[T,T,T,T,T,T,T,T,T,T,T,T,T,T,T,T,T,T,T,T,T,T,T,T,T,T,T,T,T,T,T,T,T,T,T,T,T,T,F,F,F,F,F,F,F,F,F,F,F,F,F,F]
abbrev spec_l02Is.m99_ : Array Bool := #[T,T,T,T,T,T,T,T,T,T,T,T,T,T,T,T,T,T,T,T,T,T,T,T,T,T,T,T,T,T,T,T,T,T,T,T,T,T,T,F,F,F,F,F,F,F,F,F,F,F,F,F]
abbrev spec_l02Is.m100_ : Array Bool := #[T,T,T,T,T,T,T,T,T,T,T,T,T,T,T,T,T,T,T,T,T,T,T,T,T,T,T,T,T,T,T,T,T,T,T,T,T,T,T,T,F,F,F,F,F,F,F,F,F,F,F,F]
abbrev spec_l02Is.m101_ : Array Bool := #[T,T,T,T,T,T,T,T,T,T,T,T,T,T,T,T,T,T,T,T,T,T,T,T,T,T,T,T,T,T,T,T,T,T,T,T,T,T,T,T,T,F,F,F,F,F,F,F,F,F,F,F]
abbrev spec_l02Is.m102_ : Array Bool := #[T,T,T,T,T,T,T,T,T,T,T,T,T,T,T,T,T,T,T,T,T,T,T,T,T,T,T,T,T,T,T,T,T,T,T,T,T,T,T,T,T,T,F,F,F,F,F,F,F,F,F,F]
abbrev spec_l02Is.m103_ : Array Bool := #[T,T,T,T,T,T,T,T,T,T,T,T,T,T,T,T,T,T,T,T,T,T,T,T,T,T,T,T,T,T,T,T,T,T,T,T,T,T,T,T,T,T,T,F,F,F,F,F,F,F,F,F]
abbrev spec_l02Is.m104_ : Array Bool := #[T,T,T,T,T,T,T,T,T,T,T,T,T,T,T,T,T,T,T,T,T,T,T,T,T,T,T,T,T,T,T,T,T,T,T,T,T,T,T,T,T,T,T,T,F,F,F,F,F,F,F,F]
abbrev spec_l02Is.m105_ : Array Bool := #[T,T,T,T,T,T,T,T,T,T,T,T,T,T,T,T,T,T,T,T,T,T,T,T,T,T,T,T,T,T,T,T,T,T,T,T,T,T,T,T,T,T,T,T,T,F,F,F,F,F,F,F]
abbrev spec_l02Is.m106_ : Array Bool := #[T,T,T,T,T,T,T,T,T,T,T,T,T,T,T,T,T,T,T,T,T,T,T,T,T,T,T,T,T,T,T,T,T,T,T,T,T,T,T,T,T,T,T,T,T,T,F,F,F,F,F,F]
abbrev spec_l02Is.m107_ : Array Bool := #[T,T,T,T,T,T,T,T,T,T,T,T,T,T,T,T,T,T,T,T,T,T,T,T,T,T,T,T,T,T,T,T,T,T,T,T,T,T,T,T,T,T,T,T,T,T,T,F,F,F,F,F]
abbrev spec_l02Is.m108_ : Array Bool := #[T,T,T,T,T,T,T,T,T,T,T,T,T,T,T,T,T,T,T,T,T,T,T,T,T,T,T,T,T,T,T,T,T,T,T,T,T,T,T,T,T,T,T,T,T,T,T,T,F,F,F,F]
abbrev spec_l02Is.m109_ : Array Bool := #[T,T,T,T,T,T,T,T,T,T,T,T,T,T,T,T,T,T,T,T,T,T,T,T,T,T,T,T,T,T,T,T,T,T,T,T,T,T,T,T,T,T,T,T,T,T,T,T,T,F,F,F]
abbrev spec_l02Is.m110_ : Array Bool := #[T,T,T,T,T,T,T,T,T,T,T,T,T,T,T,T,T,T,T,T,T,T,T,T,T,T,T,T,T,T,T,T,T,T,T,T,T,T,T,T,T,T,T,T,T,T,T,T,T,T,F,F]
abbrev spec_l02Is.m111_ : Array Bool := #[T,T,T,T,T,T,T,T,T,T,T,T,T,T,T,T,T,T,T,T,T,T,T,T,T,T,T,T,T,T,T,T,T,T,T,T,T,T,T,T,T,T,T,T,T,T,T,T,T,T,T,F]
abbrev spec_l02Is.m112_ : Array Bool := #[T,T,T,T,T,T,T,T,T,T,T,T,T,T,T,T,T,T,T,T,T,T,T,T,T,T,T,T,T,T,T,T,T,T,T,T,T,T,T,T,T,T,T,T,T,T,T,T,T,T,T,T]
abbrev spec_l02Is.m113_ : Array Bool := #[T,T,T,T,T,T,T,T,T,T,T,T,T,T,T,T,T,T,T,T,T,T,F,F,F,F,F,F,F,F,F,F,F,F,F,F,F,F,F,F,F,F,F,F,F,F,F,F,F,F,F,F]
abbrev spec_l02Is.m114_ : Array Bool := #[T,T,T,T,T,T,T,T,T,T,T,T,T,T,T,T,T,T,T,T,T,T,T,F,F,F,F,F,F,F,F,F,F,F,F,F,F,F,F,F,F,F,F,F,F,F,F,F,F,F,F,F]
abbrev spec_l02Is.m115_ : Array Bool := #[T,T,T,T,T,T,T,T,T,T,T,T,T,T,T,T,T,T,T,T,T,T,T,T,F,F,F,F,F,F,F,F,F,F,F,F,F,F,F,F,F,F,F,F,F,F,F,F,F,F,F,F]
abbrev spec_l02Is.m116_ : Array Bool := #[T,T,T,T,T,T,T,T,T,T,T,T,T,T,T,T,T,T,T,T,T,T,T,T,T,F,F,F,F,F,F,F,F,F,F,F,F,F,F,F,F,F,F,F,F,F,F,F,F,F,F,F]
abbrev spec_l02Is.m117_ : Array Bool := #[T,T,T,T,T,T,T,T,T,T,T,T,T,T,T,T,T,T,T,T,T,T,T,T,T,T,F,F,F,F,F,F,F,F,F,F,F,F,F,F,F,F,F,F,F,F,F,F,F,F,F,F]
abbrev spec_l02Is.m118_ : Array Bool := #[T,T,T,T,T,T,T,T,T,T,T,T,T,T,T,T,T,T,T,T,T,T,T,T,T,T,T,F,F,F,F,F,F,F,F,F,F,F,F,F,F,F,F,F,F,F,F,F,F,F,F,F]
abbrev spec_l02Is.m119_ : Array Bool := #[T,T,T,T,T,T,T,T,T,T,T,T,T,T,T,T,T,T,T,T,T,T,T,T,T,T,T,T,F,F,F,F,F,F,F,F,F,F,F,F,F,F,F,F,F,F,F,F,F,F,F,F]
abbrev spec_l02Is.m120_ : Array Bool := #[T,T,T,T,T,T,T,T,T,T,T,T,T,T,T,T,T,T,T,T,T,T,T,T,T,T,T,T,T,F,F,F,F,F,F,F,F,F,F,F,F,F,F,F,F,F,F,F,F,F,F,F]
theorem spec_l02Is.p1_ {P : Prop} (h : P := by simp only [Act.put, List.setIfInBounds_toArray, List.set_cons_zero, List.set_cons_succ, i64_w, i32_w]; rfl) : P := h
theorem spec_l02Is.b1_ {P Q : Prop} (q : Q) (h : Q → P := by intro q_; (with_reducible repeat (first | refine blk_drewN ?_ _ | refine blk_drew ?_ | refine blk_alloc ?_ _)); exact q_) : P := h q
theorem spec_l02Is.pu_ {P : Program} {md : Region.Mode} {ops : Array Oper} {Q : Exit → Act → World → Prop} {S : World → Prop} {ds : List Nat} {fuel : Nat} {l : Array Bool} {a : Act} {w : World} {oi : Oper} {a' : Act} {v : Value} (i N : Nat) (l' : Array Bool) (hc : anyB md ops l l' i = true) (h : wpAnyLast P md ops Q S ds fuel l' a' w) (hi : ops[i]? = some oi := by rfl) (hN : oi.dst = some N := by rfl) (hQ : ∀ c a w, Q (.panic c) (a.put oi.dst v) w → Q (.panic c) a w := by exact fun _ _ _ h => h) (hy : Yields P ops oi v a := by exact Or.inl ⟨by rfl, by intro w'; go_simp; with_reducible rfl⟩) (ha : a.put (some N) v = a' := by simp only [Act.put, List.setIfInBounds_toArray, List.set_cons_zero, List.set_cons_succ, i64_w, i32_w]; rfl) : wpAnyLast P md ops Q S ds (fuel + 1) l a w := pure_ l' hi hN hc hQ hy ha h
theorem spec_l02Is.pn_ {P : Program} {md : Region.Mode} {ops : Array Oper} {Q : Exit → Act → World → Prop} {S : World → Prop} {ds : List Nat} {fuel : Nat} {l : Array Bool} {a : Act} {w : World} {oi : Oper} {a' : Act} (i N : Nat) (l' : Array Bool) (hc : anyB md ops l l' i = true) (h : wpAnyLast P md ops Q S ds fuel l' a' w) (hi : ops[i]? = some oi := by rfl) (hN : oi.dst = some N := by rfl) (hQ : ∀ c a w, Q (.panic c) (a.put oi.dst undef) w → Q (.panic c) a w := by exact fun _ _ _ h => h) (hy : Yields P ops oi undef a := by exact Or.inr ⟨by rfl, rfl⟩) (ha : a.put (some N) undef = a' := by simp only [Act.put, List.setIfInBounds_toArray, List.set_cons_zero, List.set_cons_succ, i64_w, i32_w]; rfl) : wpAnyLast P md ops Q S ds (fuel + 1) l a w := pure_ l' hi hN hc hQ hy ha h
mutual
def spec_l02Is.j0 : Nat → Bool → Bool → List (S36) → List (S71) → List (S73) → Option (Bool)
  | 0, _, _, _, _, _ => none
  | k + 1, x25, x1000, x1001, x1002, x1003 => if x25 = true then (some false) else (spec_l02Is.l0 k 0 x1000 x1001 x1002 x1003)
def spec_l02Is.l0 : Nat → Int → Bool → List (S36) → List (S71) → List (S73) → Option (Bool)
  | 0, _, _, _, _, _ => none
  | k + 1, x3, x1000, x1001, x1002, x1003 => if x3 < (x1002.length : Int) then (if 0 ≤ x3 then ((spec_l02Id.f ((rd_T71 x1002 x3).f0)).bind fun t246 => (if t246 = true then ((spec_l02Id.f ((rd_T71 x1002 x3).f1)).bind fun t247 => (if t247 = true then ((spec_l02Tick.f ((rd_T71 x1002 x3).f2)).bind fun t248 => (if t248 = true then (if x3 > 0 then (if 0 ≤ (wrap64 (x3 - 1)) then (if (wrap64 (x3 - 1)) < (x1002.length : Int) then (if ((rd_T71 x1002 (wrap64 (x3 - 1))).f0) ≥ ((rd_T71 x1002 x3).f0) then (spec_l02Is.j2 k x3 true x1000 x1001 x1002 x1003) else ((spec_l02Find.f k x1000 x1001 x1002 x1003 ((rd_T71 x1002 x3).f0)).bind fun t250 => (spec_l02Is.j2 k x3 (decide (t250 ≥ 0)) x1000 x1001 x1002 x1003))) else (none)) else (none)) else ((spec_l02Find.f k x1000 x1001 x1002 x1003 ((rd_T71 x1002 x3).f0)).bind fun t251 => (spec_l02Is.j2 k x3 (decide (t251 ≥ 0)) x1000 x1001 x1002 x1003))) else (spec_l02Is.j2 k x3 true x1000 x1001 x1002 x1003))) else (spec_l02Is.j2 k x3 true x1000 x1001 x1002 x1003))) else (spec_l02Is.j2 k x3 true x1000 x1001 x1002 x1003))) else (none)) else (spec_l02Is.l1 k 0 x1000 x1001 x1002 x1003)
def spec_l02Is.j2 : Nat → Int → Bool → Bool → List (S36) → List (S71) → List (S73) → Option (Bool)
  | 0, _, _, _, _, _, _ => none
  | k + 1, x3, x91, x1000, x1001, x1002, x1003 => if x91 = true then (some false) else (spec_l02Is.l0 k (wrap64 (x3 + 1)) x1000 x1001 x1002 x1003)
def spec_l02Is.l1 : Nat → Int → Bool → List (S36) → List (S71) → List (S73) → Option (Bool)
  | 0, _, _, _, _, _ => none
  | k + 1, x5, x1000, x1001, x1002, x1003 => if x5 < (x1003.length : Int) then (if 0 ≤ x5 then ((spec_l02Id.f ((rd_T73 x1003 x5).f0)).bind fun t254 => (if t254 = true then ((spec_l02Tick.f ((rd_T73 x1003 x5).f1)).bind fun t255 => (if t255 = true then (if x5 > 0 then (if 0 ≤ (wrap64 (x5 - 1)) then (if (wrap64 (x5 - 1)) < (x1003.length : Int) then (if ((rd_T73 x1003 (wrap64 (x5 - 1))).f0) ≥ ((rd_T73 x1003 x5).f0) then (spec_l02Is.j4 k x5 true x1000 x1001 x1002 x1003) else ((spec_l02Find.f k x1000 x1001 x1002 x1003 ((rd_T73 x1003 x5).f0)).bind fun t257 => (if t257 ≥ 0 then (spec_l02Is.j4 k x5 true x1000 x1001 x1002 x1003) else ((spec_l02Invited.f k x1000 x1001 x1002 x1003 ((rd_T73 x1003 x5).f0)).bind fun t258 => (spec_l02Is.j4 k x5 (decide (t258 ≥ 0)) x1000 x1001 x1002 x1003))))) else (none)) else (none)) else ((spec_l02Find.f k x1000 x1001 x1002 x1003 ((rd_T73 x1003 x5).f0)).bind fun t259 => (if t259 ≥ 0 then (spec_l02Is.j4 k x5 true x1000 x1001 x1002 x1003) else ((spec_l02Invited.f k x1000 x1001 x1002 x1003 ((rd_T73 x1003 x5).f0)).bind fun t260 => (spec_l02Is.j4 k x5 (decide (t260 ≥ 0)) x1000 x1001 x1002 x1003))))) else (spec_l02Is.j4 k x5 true x1000 x1001 x1002 x1003))) else (spec_l02Is.j4 k x5 true x1000 x1001 x1002 x1003))) else (none)) else (some true)
def spec_l02Is.j4 : Nat → Int → Bool → Bool → List (S36) → List (S71) → List (S73) → Option (Bool)
  | 0, _, _, _, _, _, _ => none
  | k + 1, x5, x158, x1000, x1001, x1002, x1003 => if x158 = true then (some false) else (spec_l02Is.l1 k (wrap64 (x5 + 1)) x1000 x1001 x1002 x1003)
end
def spec_l02Is.f (k : Nat) (a0_0 : Bool) (l0_1 : List (S36)) (l0_2 : List (S71)) (l0_3 : List (S73)) : Option (Bool) := (spec_l02Members.f k a0_0 l0_1 l0_2 l0_3).bind fun t243 => (if t243 = true then (if (l0_2.length : Int) > 16 then (spec_l02Is.j0 k true a0_0 l0_1 l0_2 l0_3) else (spec_l02Is.j0 k (decide ((l0_3.length : Int) > 16)) a0_0 l0_1 l0_2 l0_3)) else (spec_l02Is.j0 k true a0_0 l0_1 l0_2 l0_3))
theorem spec_l02Is.mono_l : ∀ k, (∀ y0 y1 y2 y3 y4, LeO (spec_l02Is.j0 k y0 y1 y2 y3 y4) (spec_l02Is.j0 (k + 1) y0 y1 y2 y3 y4)) ∧ (∀ y0 y1 y2 y3 y4, LeO (spec_l02Is.l0 k y0 y1 y2 y3 y4) (spec_l02Is.l0 (k + 1) y0 y1 y2 y3 y4)) ∧ (∀ y0 y1 y2 y3 y4 y5, LeO (spec_l02Is.j2 k y0 y1 y2 y3 y4 y5) (spec_l02Is.j2 (k + 1) y0 y1 y2 y3 y4 y5)) ∧ (∀ y0 y1 y2 y3 y4, LeO (spec_l02Is.l1 k y0 y1 y2 y3 y4) (spec_l02Is.l1 (k + 1) y0 y1 y2 y3 y4)) ∧ (∀ y0 y1 y2 y3 y4 y5, LeO (spec_l02Is.j4 k y0 y1 y2 y3 y4 y5) (spec_l02Is.j4 (k + 1) y0 y1 y2 y3 y4 y5))
  | 0 => ⟨fun _ _ _ _ _ r h => by simp [spec_l02Is.j0] at h, fun _ _ _ _ _ r h => by simp [spec_l02Is.l0] at h, fun _ _ _ _ _ _ r h => by simp [spec_l02Is.j2] at h, fun _ _ _ _ _ r h => by simp [spec_l02Is.l1] at h, fun _ _ _ _ _ _ r h => by simp [spec_l02Is.j4] at h⟩
  | k + 1 => by
    obtain ⟨ih0, ih1, ih2, ih3, ih4⟩ := spec_l02Is.mono_l k
    refine ⟨?_, ?_, ?_, ?_, ?_⟩
    · intro y0 y1 y2 y3 y4
      unfold spec_l02Is.j0
      repeat' first
      | (with_reducible exact ih0 _ _ _ _ _)
      | (with_reducible exact ih1 _ _ _ _ _)
      | (with_reducible exact ih2 _ _ _ _ _ _)
      | (with_reducible exact ih3 _ _ _ _ _)
      | (with_reducible exact ih4 _ _ _ _ _ _)
      | (with_reducible exact spec_l02Find.mono _ _ _ _ _ _)
      | (with_reducible exact spec_l02Invited.mono _ _ _ _ _ _)
      | (with_reducible exact spec_l02Members.mono _ _ _ _ _)
      | (with_reducible exact LeO.refl _)
      | (with_reducible exact LeO.none _)
      | (with_reducible refine LeO.ite ?_ ?_)
      | (with_reducible refine LeO.bind ?_ (fun _ => ?_))
      | exact ih0 _ _ _ _ _
      | exact ih1 _ _ _ _ _
      | exact ih2 _ _ _ _ _ _
      | exact ih3 _ _ _ _ _
      | exact ih4 _ _ _ _ _ _
      | exact spec_l02Find.mono _ _ _ _ _ _
      | exact spec_l02Invited.mono _ _ _ _ _ _
      | exact spec_l02Members.mono _ _ _ _ _
      | exact LeO.none _
      | refine LeO.ite ?_ ?_
      | refine LeO.bind ?_ (fun _ => ?_)
    · intro y0 y1 y2 y3 y4
      unfold spec_l02Is.l0
      repeat' first
      | (with_reducible exact ih0 _ _ _ _ _)
      | (with_reducible exact ih1 _ _ _ _ _)
      | (with_reducible exact ih2 _ _ _ _ _ _)
      | (with_reducible exact ih3 _ _ _ _ _)
      | (with_reducible exact ih4 _ _ _ _ _ _)
      | (with_reducible exact spec_l02Find.mono _ _ _ _ _ _)
      | (with_reducible exact spec_l02Invited.mono _ _ _ _ _ _)
      | (with_reducible exact spec_l02Members.mono _ _ _ _ _)
      | (with_reducible exact LeO.refl _)
      | (with_reducible exact LeO.none _)
      | (with_reducible refine LeO.ite ?_ ?_)
      | (with_reducible refine LeO.bind ?_ (fun _ => ?_))
      | exact ih0 _ _ _ _ _
      | exact ih1 _ _ _ _ _
      | exact ih2 _ _ _ _ _ _
      | exact ih3 _ _ _ _ _
      | exact ih4 _ _ _ _ _ _
      | exact spec_l02Find.mono _ _ _ _ _ _
      | exact spec_l02Invited.mono _ _ _ _ _ _
      | exact spec_l02Members.mono _ _ _ _ _
      | exact LeO.none _
      | refine LeO.ite ?_ ?_
      | refine LeO.bind ?_ (fun _ => ?_)
    · intro y0 y1 y2 y3 y4 y5
      unfold spec_l02Is.j2
      repeat' first
      | (with_reducible exact ih0 _ _ _ _ _)
      | (with_reducible exact ih1 _ _ _ _ _)
      | (with_reducible exact ih2 _ _ _ _ _ _)
      | (with_reducible exact ih3 _ _ _ _ _)
      | (with_reducible exact ih4 _ _ _ _ _ _)
      | (with_reducible exact spec_l02Find.mono _ _ _ _ _ _)
      | (with_reducible exact spec_l02Invited.mono _ _ _ _ _ _)
      | (with_reducible exact spec_l02Members.mono _ _ _ _ _)
      | (with_reducible exact LeO.refl _)
      | (with_reducible exact LeO.none _)
      | (with_reducible refine LeO.ite ?_ ?_)
      | (with_reducible refine LeO.bind ?_ (fun _ => ?_))
      | exact ih0 _ _ _ _ _
      | exact ih1 _ _ _ _ _
      | exact ih2 _ _ _ _ _ _
      | exact ih3 _ _ _ _ _
      | exact ih4 _ _ _ _ _ _
      | exact spec_l02Find.mono _ _ _ _ _ _
      | exact spec_l02Invited.mono _ _ _ _ _ _
      | exact spec_l02Members.mono _ _ _ _ _
      | exact LeO.none _
      | refine LeO.ite ?_ ?_
      | refine LeO.bind ?_ (fun _ => ?_)
    · intro y0 y1 y2 y3 y4
      unfold spec_l02Is.l1
      repeat' first
      | (with_reducible exact ih0 _ _ _ _ _)
      | (with_reducible exact ih1 _ _ _ _ _)
      | (with_reducible exact ih2 _ _ _ _ _ _)
      | (with_reducible exact ih3 _ _ _ _ _)
      | (with_reducible exact ih4 _ _ _ _ _ _)
      | (with_reducible exact spec_l02Find.mono _ _ _ _ _ _)
      | (with_reducible exact spec_l02Invited.mono _ _ _ _ _ _)
      | (with_reducible exact spec_l02Members.mono _ _ _ _ _)
      | (with_reducible exact LeO.refl _)
      | (with_reducible exact LeO.none _)
      | (with_reducible refine LeO.ite ?_ ?_)
      | (with_reducible refine LeO.bind ?_ (fun _ => ?_))
      | exact ih0 _ _ _ _ _
      | exact ih1 _ _ _ _ _
      | exact ih2 _ _ _ _ _ _
      | exact ih3 _ _ _ _ _
      | exact ih4 _ _ _ _ _ _
      | exact spec_l02Find.mono _ _ _ _ _ _
      | exact spec_l02Invited.mono _ _ _ _ _ _
      | exact spec_l02Members.mono _ _ _ _ _
      | exact LeO.none _
      | refine LeO.ite ?_ ?_
      | refine LeO.bind ?_ (fun _ => ?_)
    · intro y0 y1 y2 y3 y4 y5
      unfold spec_l02Is.j4
      repeat' first
      | (with_reducible exact ih0 _ _ _ _ _)
      | (with_reducible exact ih1 _ _ _ _ _)
      | (with_reducible exact ih2 _ _ _ _ _ _)
      | (with_reducible exact ih3 _ _ _ _ _)
      | (with_reducible exact ih4 _ _ _ _ _ _)
      | (with_reducible exact spec_l02Find.mono _ _ _ _ _ _)
      | (with_reducible exact spec_l02Invited.mono _ _ _ _ _ _)
      | (with_reducible exact spec_l02Members.mono _ _ _ _ _)
      | (with_reducible exact LeO.refl _)
      | (with_reducible exact LeO.none _)
      | (with_reducible refine LeO.ite ?_ ?_)
      | (with_reducible refine LeO.bind ?_ (fun _ => ?_))
      | exact ih0 _ _ _ _ _
      | exact ih1 _ _ _ _ _
      | exact ih2 _ _ _ _ _ _
      | exact ih3 _ _ _ _ _
      | exact ih4 _ _ _ _ _ _
      | exact spec_l02Find.mono _ _ _ _ _ _
      | exact spec_l02Invited.mono _ _ _ _ _ _
      | exact spec_l02Members.mono _ _ _ _ _
      | exact LeO.none _
      | refine LeO.ite ?_ ?_
      | refine LeO.bind ?_ (fun _ => ?_)
theorem spec_l02Is.mono : ∀ a0 a1 a2 a3 k, LeO (spec_l02Is.f k a0 a1 a2 a3) (spec_l02Is.f (k + 1) a0 a1 a2 a3) := by
  intro a0 a1 a2 a3 k
  obtain ⟨ih0, ih1, ih2, ih3, ih4⟩ := spec_l02Is.mono_l k
  unfold spec_l02Is.f
  repeat' first
      | (with_reducible exact ih0 _ _ _ _ _)
      | (with_reducible exact ih1 _ _ _ _ _)
      | (with_reducible exact ih2 _ _ _ _ _ _)
      | (with_reducible exact ih3 _ _ _ _ _)
      | (with_reducible exact ih4 _ _ _ _ _ _)
      | (with_reducible exact spec_l02Find.mono _ _ _ _ _ _)
      | (with_reducible exact spec_l02Invited.mono _ _ _ _ _ _)
      | (with_reducible exact spec_l02Members.mono _ _ _ _ _)
      | (with_reducible exact LeO.refl _)
      | (with_reducible exact LeO.none _)
      | (with_reducible refine LeO.ite ?_ ?_)
      | (with_reducible refine LeO.bind ?_ (fun _ => ?_))
      | exact ih0 _ _ _ _ _
      | exact ih1 _ _ _ _ _
      | exact ih2 _ _ _ _ _ _
      | exact ih3 _ _ _ _ _
      | exact ih4 _ _ _ _ _ _
      | exact spec_l02Find.mono _ _ _ _ _ _
      | exact spec_l02Invited.mono _ _ _ _ _ _
      | exact spec_l02Members.mono _ _ _ _ _
      | exact LeO.none _
      | refine LeO.ite ?_ ?_
      | refine LeO.bind ?_ (fun _ => ?_)
def spec_l02Is.T7 : Bool × List (List Nat × List Nat) := (true, [([], []), ([0], [0]), ([1], [1]), ([2], [2]), ([3], [3]), ([4], [4]), ([5, 4], [5]), ([6], [6]), ([7, 6], [6, 7]), ([8, 6], [6, 8]), ([9, 6], [6, 9]), ([10, 6, 6], [6, 10]), ([11, 6], [6, 11]), ([6, 12], [6, 12]), ([13, 11], [13]), ([14], [14]), ([15, 14], [14, 15]), ([16, 14], [14, 16]), ([17, 14], [14, 17]), ([18, 14, 14], [14, 18]), ([19, 14], [14, 19]), ([14, 20], [14, 20]), ([21, 19], [21]), ([22], [22]), ([23, 22], [22, 23]), ([24, 22, 22], [22, 24]), ([25], [25]), ([26, 25], [25, 26]), ([27, 25], [25, 27]), ([28, 25], [25, 28]), ([25], [25]), ([30, 25], [25, 30]), ([29, 31, 25], [25, 29, 31]), ([32, 25], [25, 32]), ([33, 25], [25, 33]), ([25], [25]), ([35, 25], [25, 35]), ([36, 25], [25, 36]), ([37, 25], [25, 37]), ([34, 38, 25], [25, 34, 38]), ([25, 39, 22], [22, 25, 39]), ([22, 40], [22, 40]), ([41, 25], [41]), ([42], [42]), ([42], [42]), ([44, 42], [42, 44]), ([45, 42], [42, 45]), ([46, 42], [42, 46]), ([43, 47, 42, 42], [42, 43, 47]), ([48, 42], [42, 48]), ([42, 49], [42, 49])])
def spec_l02Is.B7 : List Nat := [0, 1, 3, 7, 15, 31, 63, 127, 255, 511, 1023, 2047, 4095, 8191, 16383, 32767, 65535, 131071, 262143, 524287, 1048575, 2097151, 4194303, 8388607, 16777215, 33554431, 67108863, 134217727, 268435455, 536870911, 67108863, 1140850687, 4294967295, 8589934591, 17179869183, 67108863, 34426847231, 103146323967, 240585277439, 549755813887, 1099511627775, 2199023255551, 4398046511103, 8796093022207, 8796093022207, 26388279066623, 61572651155455, 131941395333119, 281474976710655, 562949953421311, 1125899906842623]
theorem spec_l02Is.tab7 : rtab .any (opsOf Try.f54 7) = spec_l02Is.T7 := by kernel_rfl
theorem spec_l02Is.bits7 : waitsOk spec_l02Is.T7.2 spec_l02Is.B7 = true := by kernel_rfl
def spec_l02Is.T13 : Bool × List (List Nat × List Nat) := (true, [([], []), ([0], [0]), ([1], [1]), ([2], [2]), ([3], [3]), ([4], [4]), ([5, 4], [5]), ([6], [6]), ([7, 6], [6, 7]), ([8, 6], [6, 8]), ([9, 6], [6, 9]), ([10, 6, 6], [6, 10]), ([11, 6], [6, 11]), ([6, 12], [6, 12]), ([13, 11], [13]), ([14], [14]), ([15, 14], [14, 15]), ([16, 14, 14], [14, 16]), ([17], [17]), ([18, 17], [17, 18]), ([19, 17], [17, 19]), ([20, 17], [17, 20]), ([17], [17]), ([22, 17], [17, 22]), ([21, 23, 17], [17, 21, 23]), ([24, 17], [17, 24]), ([25, 17], [17, 25]), ([17], [17]), ([27, 17], [17, 27]), ([28, 17], [17, 28]), ([29, 17], [17, 29]), ([26, 30, 17], [17, 26, 30]), ([17, 31, 14], [14, 17, 31]), ([14, 32], [14, 32]), ([33, 17], [33]), ([34], [34]), ([34], [34]), ([36, 34], [34, 36]), ([37, 34], [34, 37]), ([38, 34], [34, 38]), ([35, 39, 34, 34], [34, 35, 39]), ([40, 34], [34, 40]), ([34, 41], [34, 41]), ([42, 40], [42]), ([43], [43]), ([43], [43]), ([45, 43], [43, 45]), ([46, 43], [43, 46]), ([47, 43], [43, 47]), ([44, 48, 43, 43], [43, 44, 48]), ([49, 43], [43, 49]), ([43, 50], [43, 50])])
def spec_l02Is.B13 : List Nat := [0, 1, 3, 7, 15, 31, 63, 127, 255, 511, 1023, 2047, 4095, 8191, 16383, 32767, 65535, 131071, 262143, 524287, 1048575, 2097151, 262143, 4456447, 16777215, 33554431, 67108863, 262143, 134479871, 402915327, 939786239, 2147483647, 4294967295, 8589934591, 17179869183, 34359738367, 34359738367, 103079215103, 240518168575, 515396075519, 1099511627775, 2199023255551, 4398046511103, 8796093022207, 17592186044415, 17592186044415, 52776558133247, 123145302310911, 263882790666239, 562949953421311, 1125899906842623, 2251799813685247]
theorem spec_l02Is.tab13 : rtab .any (opsOf Try.f54 13) = spec_l02Is.T13 := by kernel_rfl
theorem spec_l02Is.bits13 : waitsOk spec_l02Is.T13.2 spec_l02Is.B13 = true := by kernel_rfl
set_option maxHeartbeats 40000000 in
set_option maxRecDepth 100000 in
theorem spec_l02Is.calls (k : Nat) (g0_ : Nat) (a0_0 : Bool) (A0_1 : Option Addr) (c0_1 : Nat) (l0_1 : List (S36)) (A0_2 : Option Addr) (c0_2 : Nat) (l0_2 : List (S71)) (A0_3 : Option Addr) (c0_3 : Nat) (l0_3 : List (S73)) (r : Bool) (w : World) (hbk0 : w.heap[g0_]? = some (.cells #[.bool a0_0, .slice A0_1 l0_1.length c0_1, .slice A0_2 l0_2.length c0_2, .slice A0_3 l0_3.length c0_3] 28 (0, 0))) (hr0_1 : Kd.C k36 w A0_1 l0_1.length l0_1) (hc0_1 : l0_1.length ≤ c0_1) (hr0_2 : Kd.C k71 w A0_2 l0_2.length l0_2) (hc0_2 : l0_2.length ≤ c0_2) (hr0_3 : Kd.C k73 w A0_3 l0_3.length l0_3) (hc0_3 : l0_3.length ≤ c0_3) (h : spec_l02Is.f k a0_0 l0_1 l0_2 l0_3 = some r) :
    Calls Try.prog 54 #[.pointer (some ⟨g0_, 0, none⟩)] w fun e w' => e = .returned (.bool r) ∧ Below w.heap.size w w' := by
 have HR0_1 := Aside0.mk hr0_1
 have HC0_1 := Aside0.mk hc0_1
 clear hr0_1 hc0_1
 have HR0_2 := Aside0.mk hr0_2
 have HC0_2 := Aside0.mk hc0_2
 clear hr0_2 hc0_2
 have HR0_3 := Aside0.mk hr0_3
 have HC0_3 := Aside0.mk hc0_3
 clear hr0_3 hc0_3
 have BK0 := Aside0.mk hbk0
 clear hbk0
 have HB := Aside0.mk (Below.refl w.heap.size w)
 have H : ((spec_l02Members.f k a0_0 l0_1 l0_2 l0_3).bind fun t243 => (if t243 = true then (if (l0_2.length : Int) > 16 then (spec_l02Is.j0 k true a0_0 l0_1 l0_2 l0_3) else (spec_l02Is.j0 k (decide ((l0_3.length : Int) > 16)) a0_0 l0_1 l0_2 l0_3)) else (spec_l02Is.j0 k true a0_0 l0_1 l0_2 l0_3))) = some r := h
 clear h
 have HC2 := Aside0.mk H
 clear H
 go_enter Try.func54, Try.ntmps54
 go_upto_region 1 with (fail)
 go_cut [25] (fun v25 wc => ∃ (kq : Nat) (x25_1 : Bool) (x1000_1 : Bool), v25 = .bool x25_1 ∧ Aside0 (spec_l02Is.j0 kq x25_1 x1000_1 l0_1 l0_2 l0_3 = some r) ∧ Aside0 (kq ≤ k) ∧ Aside0 (wc.heap[g0_]? = some (.cells #[.bool x1000_1, (.slice A0_1 l0_1.length c0_1), (.slice A0_2 l0_2.length c0_2), (.slice A0_3 l0_3.length c0_3)] 28 (0, 0))) ∧ Aside0 (Below w.heap.size w wc))
 case first =>
  as_aux_lemma =>
   skip
   {
 have H := HC2.out
 clear HC2
 replace H := Option.bind_eq_some_iff.mp H
 obtain ⟨t243, A30, H⟩ := H
 replace H : (if t243 = true then (if (l0_2.length : Int) > 16 then (spec_l02Is.j0 k true a0_0 l0_1 l0_2 l0_3) else (spec_l02Is.j0 k (decide ((l0_3.length : Int) > 16)) a0_0 l0_1 l0_2 l0_3)) else (spec_l02Is.j0 k true a0_0 l0_1 l0_2 l0_3)) = some r := H
 have A3 := Aside0.mk A30
 clear A30
 by_cases c4 : t243 = true
 {
 subst c4
 have H1 : (if (l0_2.length : Int) > 16 then (spec_l02Is.j0 k true a0_0 l0_1 l0_2 l0_3) else (spec_l02Is.j0 k (decide ((l0_3.length : Int) > 16)) a0_0 l0_1 l0_2 l0_3)) = some r := by rw [if_pos rfl] at H; exact H
 clear H
 have H := H1
 clear H1
 by_cases c5 : (l0_2.length : Int) > 16
 {
 rw [if_pos c5] at H
 have c5b0 : decide (16 < (l0_2.length : Int)) = true := decide_eq_true c5
 have c5b1 : decide (16 < l0_2.length) = true := decide_eq_true (by omega)
 clear c5
 (first | rw [c5b0] | (simp only [i64_w, i32_w]; rw [c5b0]) | skip)
 have H' := Aside0.mk H
 clear H
 go_wp2_with (first | ((with_reducible refine gate_callee (f := 81) rfl ?_); refine goesL_ (some 8) rfl rfl Try.func81 s2_ rfl #[.pointer (some ⟨g0_, 0, none⟩)] rfl s3_ ?_; (with_reducible refine (spec_l02Members.calls k g0_ a0_0 A0_1 c0_1 l0_1 A0_2 c0_2 l0_2 A0_3 c0_3 l0_3 true _ ?side1 ?side2 ?side3 ?side4 ?side5 ?side6 ?side7 A3.out).mono ?_); (case side1 => exact (b1_ BK0.out)); (case side2 => repeat (first | exact (Kd.C_below HR0_1.out HB.out) | (with_reducible refine Kd.C_alloc ?_ _) | (with_reducible refine Kd.C_drewN ?_ _) | (with_reducible refine Kd.C_drew ?_))); (case side3 => exact HC0_1.out); (case side4 => repeat (first | exact (Kd.C_below HR0_2.out HB.out) | (with_reducible refine Kd.C_alloc ?_ _) | (with_reducible refine Kd.C_drewN ?_ _) | (with_reducible refine Kd.C_drew ?_))); (case side5 => exact HC0_2.out); (case side6 => repeat (first | exact (Kd.C_below HR0_3.out HB.out) | (with_reducible refine Kd.C_alloc ?_ _) | (with_reducible refine Kd.C_drewN ?_ _) | (with_reducible refine Kd.C_drew ?_))); (case side7 => exact HC0_3.out); rintro e w6 ⟨rfl, hb⟩; refine ⟨_, rfl, ?_⟩; have n0_ := Aside0.mk (blk_below (g := g0_) (o := .cells #[.bool a0_0, .slice A0_1 l0_1.length c0_1, .slice A0_2 l0_2.length c0_2, .slice A0_3 l0_3.length c0_3] 28 (0, 0)) (b1_ BK0.out) hb); have n1_ := Aside0.mk (below_step (by repeat (first | (with_reducible first | exact HB.out | apply below_alloc | apply pw_below_drewN | apply below_drew1 | refine below_set ?_ GE0.out) | exact HB.out)) hb); clear BK0; clear HB; have BK0 := n0_; have HB := n1_; clear n0_ n1_; (try clear hb); (try clear hb2); (try clear hk); (try clear hi); have hcz7_0 : w6.cell? ⟨g0_, 0, none⟩ = some (.bool a0_0) := (blk_cell BK0.out 0).trans rfl; have hcz7_1 : w6.cell? ⟨g0_, 1, none⟩ = some (.slice A0_1 l0_1.length c0_1) := (blk_cell BK0.out 1).trans rfl; have hcz7_2 : w6.cell? ⟨g0_, 2, none⟩ = some (.slice A0_2 l0_2.length c0_2) := (blk_cell BK0.out 2).trans rfl; have hcz7_3 : w6.cell? ⟨g0_, 3, none⟩ = some (.slice A0_3 l0_3.length c0_3) := (blk_cell BK0.out 3).trans rfl; have hfz7_0 := blk_frozen BK0.out 0; have hfz7_1 := blk_frozen BK0.out 1; have hfz7_2 := blk_frozen BK0.out 2; have hfz7_3 := blk_frozen BK0.out 3))
 go_meet
 case rel => exact ⟨_, (true), (a0_0), s1_, H', ⟨by first | omega | exact Nat.le_refl _⟩, ⟨b1_ BK0.out⟩, ⟨by repeat (first | (with_reducible first | exact HB.out | apply below_alloc | apply pw_below_drewN | apply below_drew1 | refine below_set ?_ GE0.out) | exact HB.out)⟩⟩}
 {
 rw [if_neg c5] at H
 have c5b0 : decide (16 < (l0_2.length : Int)) = false := decide_eq_false c5
 have c5b1 : decide (16 < l0_2.length) = false := decide_eq_false (by omega)
 clear c5
 (first | rw [c5b0] | (simp only [i64_w, i32_w]; rw [c5b0]) | skip)
 have H' := Aside0.mk H
 clear H
 go_wp2_with (first | ((with_reducible refine gate_callee (f := 81) rfl ?_); refine goesL_ (some 8) rfl rfl Try.func81 s2_ rfl #[.pointer (some ⟨g0_, 0, none⟩)] rfl s3_ ?_; (with_reducible refine (spec_l02Members.calls k g0_ a0_0 A0_1 c0_1 l0_1 A0_2 c0_2 l0_2 A0_3 c0_3 l0_3 true _ ?side1 ?side2 ?side3 ?side4 ?side5 ?side6 ?side7 A3.out).mono ?_); (case side1 => exact (b1_ BK0.out)); (case side2 => repeat (first | exact (Kd.C_below HR0_1.out HB.out) | (with_reducible refine Kd.C_alloc ?_ _) | (with_reducible refine Kd.C_drewN ?_ _) | (with_reducible refine Kd.C_drew ?_))); (case side3 => exact HC0_1.out); (case side4 => repeat (first | exact (Kd.C_below HR0_2.out HB.out) | (with_reducible refine Kd.C_alloc ?_ _) | (with_reducible refine Kd.C_drewN ?_ _) | (with_reducible refine Kd.C_drew ?_))); (case side5 => exact HC0_2.out); (case side6 => repeat (first | exact (Kd.C_below HR0_3.out HB.out) | (with_reducible refine Kd.C_alloc ?_ _) | (with_reducible refine Kd.C_drewN ?_ _) | (with_reducible refine Kd.C_drew ?_))); (case side7 => exact HC0_3.out); rintro e w8 ⟨rfl, hb⟩; refine ⟨_, rfl, ?_⟩; have n0_ := Aside0.mk (blk_below (g := g0_) (o := .cells #[.bool a0_0, .slice A0_1 l0_1.length c0_1, .slice A0_2 l0_2.length c0_2, .slice A0_3 l0_3.length c0_3] 28 (0, 0)) (b1_ BK0.out) hb); have n1_ := Aside0.mk (below_step (by repeat (first | (with_reducible first | exact HB.out | apply below_alloc | apply pw_below_drewN | apply below_drew1 | refine below_set ?_ GE0.out) | exact HB.out)) hb); clear BK0; clear HB; have BK0 := n0_; have HB := n1_; clear n0_ n1_; (try clear hb); (try clear hb2); (try clear hk); (try clear hi); have hcz9_0 : w8.cell? ⟨g0_, 0, none⟩ = some (.bool a0_0) := (blk_cell BK0.out 0).trans rfl; have hcz9_1 : w8.cell? ⟨g0_, 1, none⟩ = some (.slice A0_1 l0_1.length c0_1) := (blk_cell BK0.out 1).trans rfl; have hcz9_2 : w8.cell? ⟨g0_, 2, none⟩ = some (.slice A0_2 l0_2.length c0_2) := (blk_cell BK0.out 2).trans rfl; have hcz9_3 : w8.cell? ⟨g0_, 3, none⟩ = some (.slice A0_3 l0_3.length c0_3) := (blk_cell BK0.out 3).trans rfl; have hfz9_0 := blk_frozen BK0.out 0; have hfz9_1 := blk_frozen BK0.out 1; have hfz9_2 := blk_frozen BK0.out 2; have hfz9_3 := blk_frozen BK0.out 3))
 go_meet
 case rel => exact ⟨_, (decide ((l0_3.length : Int) > 16)), (a0_0), s1_, H', ⟨by first | omega | exact Nat.le_refl _⟩, ⟨b1_ BK0.out⟩, ⟨by repeat (first | (with_reducible first | exact HB.out | apply below_alloc | apply pw_below_drewN | apply below_drew1 | refine below_set ?_ GE0.out) | exact HB.out)⟩⟩}}
 {
 replace c4 := Bool.eq_false_iff.mpr c4
 subst c4
 have H1 : (spec_l02Is.j0 k true a0_0 l0_1 l0_2 l0_3) = some r := by rw [if_neg (show ¬ (false = true) by decide)] at H; exact H
 clear H
 have H := H1
 clear H1
 have H' := Aside0.mk H
 clear H
 go_wp2_with (first | ((with_reducible refine gate_callee (f := 81) rfl ?_); refine goesL_ (some 8) rfl rfl Try.func81 s2_ rfl #[.pointer (some ⟨g0_, 0, none⟩)] rfl s3_ ?_; (with_reducible refine (spec_l02Members.calls k g0_ a0_0 A0_1 c0_1 l0_1 A0_2 c0_2 l0_2 A0_3 c0_3 l0_3 false _ ?side1 ?side2 ?side3 ?side4 ?side5 ?side6 ?side7 A3.out).mono ?_); (case side1 => exact (b1_ BK0.out)); (case side2 => repeat (first | exact (Kd.C_below HR0_1.out HB.out) | (with_reducible refine Kd.C_alloc ?_ _) | (with_reducible refine Kd.C_drewN ?_ _) | (with_reducible refine Kd.C_drew ?_))); (case side3 => exact HC0_1.out); (case side4 => repeat (first | exact (Kd.C_below HR0_2.out HB.out) | (with_reducible refine Kd.C_alloc ?_ _) | (with_reducible refine Kd.C_drewN ?_ _) | (with_reducible refine Kd.C_drew ?_))); (case side5 => exact HC0_2.out); (case side6 => repeat (first | exact (Kd.C_below HR0_3.out HB.out) | (with_reducible refine Kd.C_alloc ?_ _) | (with_reducible refine Kd.C_drewN ?_ _) | (with_reducible refine Kd.C_drew ?_))); (case side7 => exact HC0_3.out); rintro e w10 ⟨rfl, hb⟩; refine ⟨_, rfl, ?_⟩; have n0_ := Aside0.mk (blk_below (g := g0_) (o := .cells #[.bool a0_0, .slice A0_1 l0_1.length c0_1, .slice A0_2 l0_2.length c0_2, .slice A0_3 l0_3.length c0_3] 28 (0, 0)) (b1_ BK0.out) hb); have n1_ := Aside0.mk (below_step (by repeat (first | (with_reducible first | exact HB.out | apply below_alloc | apply pw_below_drewN | apply below_drew1 | refine below_set ?_ GE0.out) | exact HB.out)) hb); clear BK0; clear HB; have BK0 := n0_; have HB := n1_; clear n0_ n1_; (try clear hb); (try clear hb2); (try clear hk); (try clear hi)))
 go_meet
 case rel => exact ⟨_, (true), (a0_0), s1_, H', ⟨by first | omega | exact Nat.le_refl _⟩, ⟨b1_ BK0.out⟩, ⟨by repeat (first | (with_reducible first | exact HB.out | apply below_alloc | apply pw_below_drewN | apply below_drew1 | refine below_set ?_ GE0.out) | exact HB.out)⟩⟩}}
 case rest =>
  skip
  {
 clear HC2
 try clear p2
 try clear c4
 try clear c5
 try clear c5b0
 try clear c5b1
 try clear c8
 try clear hcz7_0
 try clear hcz7_1
 try clear hcz7_2
 try clear hcz7_3
 try clear hcz9_0
 try clear hcz9_1
 try clear hcz9_2
 try clear hcz9_3
 try clear hfz7_0
 try clear hfz7_1
 try clear hfz7_2
 try clear hfz7_3
 try clear hfz9_0
 try clear hfz9_1
 try clear hfz9_2
 try clear hfz9_3
 obtain ⟨kq, x25_1, x1000_1, rfl, HA, HJ1, BK0, HB⟩ := hcut
 cases kq with
 | zero => exact absurd HA.out (by simp [spec_l02Is.j0])
 | succ kj1 =>
  skip
  {
 have H := HA.out
 clear HA
 simp only [spec_l02Is.j0] at H
 by_cases c11 : x25_1 = true
 {
 subst c11
 have H1 : (some false) = some r := by rw [if_pos rfl] at H; exact H
 clear H
 have H := H1
 clear H1
 obtain rfl := Option.some.inj H
 go_wp2
 go_ret
 exact ⟨by first | rfl | (simp [errW_none, errW_some] <;> rfl) | (simp [*, errW_none, errW_some] <;> rfl), by repeat (first | (with_reducible first | exact HB.out | apply below_alloc | apply pw_below_drewN | apply below_drew1 | refine below_set ?_ GE0.out) | exact HB.out)⟩}
 {
 replace c11 := Bool.eq_false_iff.mpr c11
 subst c11
 have H1 : (spec_l02Is.l0 kj1 0 x1000_1 l0_1 l0_2 l0_3) = some r := by rw [if_neg (show ¬ (false = true) by decide)] at H; exact H
 clear H
 have H := H1
 clear H1
 have H' := Aside0.mk H
 clear H
 go_wp2
 go_loopg [3] kj1 (fun kq v3 w' => ∃ (x3_2 : Int) (x1000_2 : Bool), v3 = .int .i64 x3_2 ∧ Aside0 (spec_l02Is.l0 kq x3_2 x1000_2 l0_1 l0_2 l0_3 = some r) ∧ Aside0 (kq ≤ kj1) ∧ Aside0 (w'.heap[g0_]? = some (.cells #[.bool x1000_2, (.slice A0_1 l0_1.length c0_1), (.slice A0_2 l0_2.length c0_2), (.slice A0_3 l0_3.length c0_3)] 28 (0, 0))) ∧ Aside0 (Below w.heap.size w w'))
 case atStart => exact ⟨(0), (x1000_1), s1_, H', ⟨Nat.le_refl _⟩, ⟨b1_ BK0.out⟩, ⟨by repeat (first | (with_reducible first | exact HB.out | apply below_alloc | apply pw_below_drewN | apply below_drew1 | refine below_set ?_ GE0.out) | exact HB.out)⟩⟩
 case round =>
  skip
  {
 clear H'
 try clear c1
 try clear p2
 try clear c4
 try clear c5
 try clear c5b0
 try clear c5b1
 try clear c8
 try clear c11
 try clear hcz7_0
 try clear hcz7_1
 try clear hcz7_2
 try clear hcz7_3
 try clear hcz9_0
 try clear hcz9_1
 try clear hcz9_2
 try clear hcz9_3
 try clear hfz7_0
 try clear hfz7_1
 try clear hfz7_2
 try clear hfz7_3
 try clear hfz9_0
 try clear hfz9_1
 try clear hfz9_2
 try clear hfz9_3
 try clear p2
 obtain ⟨x3_2, x1000_2, rfl, HA, HK2, BK0, HB⟩ := hrel
 cases gk with
 | zero => exact absurd HA.out (by simp [spec_l02Is.l0])
 | succ k2 =>
  skip
  {
 have H := HA.out
 clear HA
 simp only [spec_l02Is.l0] at H
 by_cases c12 : x3_2 < (l0_2.length : Int)
 {
 rw [if_pos c12] at H
 have c12b0 : decide (x3_2 < (l0_2.length : Int)) = true := decide_eq_true c12
 clear c12
 by_cases c13 : 0 ≤ x3_2
 {
 rw [if_pos c13] at H
 have c13b0 : decide (0 ≤ x3_2) = true := decide_eq_true c13
 clear c13
 have HC14 := Aside0.mk H
 clear H
 have hcz15_0 : wr.cell? ⟨g0_, 0, none⟩ = some (.bool x1000_2) := (blk_cell BK0.out 0).trans rfl
 have hcz15_1 : wr.cell? ⟨g0_, 1, none⟩ = some (.slice A0_1 l0_1.length c0_1) := (blk_cell BK0.out 1).trans rfl
 have hcz15_2 : wr.cell? ⟨g0_, 2, none⟩ = some (.slice A0_2 l0_2.length c0_2) := (blk_cell BK0.out 2).trans rfl
 have hcz15_3 : wr.cell? ⟨g0_, 3, none⟩ = some (.slice A0_3 l0_3.length c0_3) := (blk_cell BK0.out 3).trans rfl
 have hfz15_0 := blk_frozen BK0.out 0
 have hfz15_1 := blk_frozen BK0.out 1
 have hfz15_2 := blk_frozen BK0.out 2
 have hfz15_3 := blk_frozen BK0.out 3
 have p244 : 0 ≤ (x3_2 : Int) := of_decide_eq_true (by first | (with_reducible assumption) | assumption)
 have q244 : x3_2 < (l0_2.length : Int) := of_decide_eq_true (by first | (with_reducible assumption) | assumption)
 obtain ⟨ad244, e244, hx244_0, hx244_1, hx244_2⟩ := at_T71 HR0_2.out x3_2 p244 q244
 cases e244
 replace hx244_0 := (HB.out.cell (World.block_lt_of_cell? w _ hx244_0)).trans hx244_0
 replace hx244_1 := (HB.out.cell (World.block_lt_of_cell? w _ hx244_1)).trans hx244_1
 replace hx244_2 := (HB.out.cell (World.block_lt_of_cell? w _ hx244_2)).trans hx244_2
 replace p244 := eq_true p244
 replace q244 := eq_true q244
 go_upto_region 7 with (fail)
 go_cut [91] (fun v91 wc => ∃ (kq : Nat) (x91_13 : Bool) (x1000_13 : Bool), v91 = .bool x91_13 ∧ Aside0 (spec_l02Is.j2 kq x3_2 x91_13 x1000_13 l0_1 l0_2 l0_3 = some r) ∧ Aside0 (kq ≤ k2) ∧ Aside0 (wc.heap[g0_]? = some (.cells #[.bool x1000_13, (.slice A0_1 l0_1.length c0_1), (.slice (some ad244) l0_2.length c0_2), (.slice A0_3 l0_3.length c0_3)] 28 (0, 0))) ∧ Aside0 (Below w.heap.size w wc))
 case first =>
  as_aux_lemma =>
   skip
   {
 have H := HC14.out
 clear HC14
 replace H := Option.bind_eq_some_iff.mp H
 obtain ⟨t246, A160, H⟩ := H
 replace H : (if t246 = true then ((spec_l02Id.f ((rd_T71 l0_2 x3_2).f1)).bind fun t247 => (if t247 = true then ((spec_l02Tick.f ((rd_T71 l0_2 x3_2).f2)).bind fun t248 => (if t248 = true then (if x3_2 > 0 then (if 0 ≤ (wrap64 (x3_2 - 1)) then (if (wrap64 (x3_2 - 1)) < (l0_2.length : Int) then (if ((rd_T71 l0_2 (wrap64 (x3_2 - 1))).f0) ≥ ((rd_T71 l0_2 x3_2).f0) then (spec_l02Is.j2 k2 x3_2 true x1000_2 l0_1 l0_2 l0_3) else ((spec_l02Find.f k2 x1000_2 l0_1 l0_2 l0_3 ((rd_T71 l0_2 x3_2).f0)).bind fun t250 => (spec_l02Is.j2 k2 x3_2 (decide (t250 ≥ 0)) x1000_2 l0_1 l0_2 l0_3))) else (none)) else (none)) else ((spec_l02Find.f k2 x1000_2 l0_1 l0_2 l0_3 ((rd_T71 l0_2 x3_2).f0)).bind fun t251 => (spec_l02Is.j2 k2 x3_2 (decide (t251 ≥ 0)) x1000_2 l0_1 l0_2 l0_3))) else (spec_l02Is.j2 k2 x3_2 true x1000_2 l0_1 l0_2 l0_3))) else (spec_l02Is.j2 k2 x3_2 true x1000_2 l0_1 l0_2 l0_3))) else (spec_l02Is.j2 k2 x3_2 true x1000_2 l0_1 l0_2 l0_3)) = some r := H
 have A16 := Aside0.mk A160
 clear A160
 by_cases c17 : t246 = true
 {
 subst c17
 have H1 : ((spec_l02Id.f ((rd_T71 l0_2 x3_2).f1)).bind fun t247 => (if t247 = true then ((spec_l02Tick.f ((rd_T71 l0_2 x3_2).f2)).bind fun t248 => (if t248 = true then (if x3_2 > 0 then (if 0 ≤ (wrap64 (x3_2 - 1)) then (if (wrap64 (x3_2 - 1)) < (l0_2.length : Int) then (if ((rd_T71 l0_2 (wrap64 (x3_2 - 1))).f0) ≥ ((rd_T71 l0_2 x3_2).f0) then (spec_l02Is.j2 k2 x3_2 true x1000_2 l0_1 l0_2 l0_3) else ((spec_l02Find.f k2 x1000_2 l0_1 l0_2 l0_3 ((rd_T71 l0_2 x3_2).f0)).bind fun t250 => (spec_l02Is.j2 k2 x3_2 (decide (t250 ≥ 0)) x1000_2 l0_1 l0_2 l0_3))) else (none)) else (none)) else ((spec_l02Find.f k2 x1000_2 l0_1 l0_2 l0_3 ((rd_T71 l0_2 x3_2).f0)).bind fun t251 => (spec_l02Is.j2 k2 x3_2 (decide (t251 ≥ 0)) x1000_2 l0_1 l0_2 l0_3))) else (spec_l02Is.j2 k2 x3_2 true x1000_2 l0_1 l0_2 l0_3))) else (spec_l02Is.j2 k2 x3_2 true x1000_2 l0_1 l0_2 l0_3))) = some r := by rw [if_pos rfl] at H; exact H
 clear H
 have H := H1
 clear H1
 replace H := Option.bind_eq_some_iff.mp H
 obtain ⟨t247, A180, H⟩ := H
 replace H : (if t247 = true then ((spec_l02Tick.f ((rd_T71 l0_2 x3_2).f2)).bind fun t248 => (if t248 = true then (if x3_2 > 0 then (if 0 ≤ (wrap64 (x3_2 - 1)) then (if (wrap64 (x3_2 - 1)) < (l0_2.length : Int) then (if ((rd_T71 l0_2 (wrap64 (x3_2 - 1))).f0) ≥ ((rd_T71 l0_2 x3_2).f0) then (spec_l02Is.j2 k2 x3_2 true x1000_2 l0_1 l0_2 l0_3) else ((spec_l02Find.f k2 x1000_2 l0_1 l0_2 l0_3 ((rd_T71 l0_2 x3_2).f0)).bind fun t250 => (spec_l02Is.j2 k2 x3_2 (decide (t250 ≥ 0)) x1000_2 l0_1 l0_2 l0_3))) else (none)) else (none)) else ((spec_l02Find.f k2 x1000_2 l0_1 l0_2 l0_3 ((rd_T71 l0_2 x3_2).f0)).bind fun t251 => (spec_l02Is.j2 k2 x3_2 (decide (t251 ≥ 0)) x1000_2 l0_1 l0_2 l0_3))) else (spec_l02Is.j2 k2 x3_2 true x1000_2 l0_1 l0_2 l0_3))) else (spec_l02Is.j2 k2 x3_2 true x1000_2 l0_1 l0_2 l0_3)) = some r := H
 have A18 := Aside0.mk A180
 clear A180
 by_cases c19 : t247 = true
 {
 subst c19
 have H1 : ((spec_l02Tick.f ((rd_T71 l0_2 x3_2).f2)).bind fun t248 => (if t248 = true then (if x3_2 > 0 then (if 0 ≤ (wrap64 (x3_2 - 1)) then (if (wrap64 (x3_2 - 1)) < (l0_2.length : Int) then (if ((rd_T71 l0_2 (wrap64 (x3_2 - 1))).f0) ≥ ((rd_T71 l0_2 x3_2).f0) then (spec_l02Is.j2 k2 x3_2 true x1000_2 l0_1 l0_2 l0_3) else ((spec_l02Find.f k2 x1000_2 l0_1 l0_2 l0_3 ((rd_T71 l0_2 x3_2).f0)).bind fun t250 => (spec_l02Is.j2 k2 x3_2 (decide (t250 ≥ 0)) x1000_2 l0_1 l0_2 l0_3))) else (none)) else (none)) else ((spec_l02Find.f k2 x1000_2 l0_1 l0_2 l0_3 ((rd_T71 l0_2 x3_2).f0)).bind fun t251 => (spec_l02Is.j2 k2 x3_2 (decide (t251 ≥ 0)) x1000_2 l0_1 l0_2 l0_3))) else (spec_l02Is.j2 k2 x3_2 true x1000_2 l0_1 l0_2 l0_3))) = some r := by rw [if_pos rfl] at H; exact H
 clear H
 have H := H1
 clear H1
 replace H := Option.bind_eq_some_iff.mp H
 obtain ⟨t248, A200, H⟩ := H
 replace H : (if t248 = true then (if x3_2 > 0 then (if 0 ≤ (wrap64 (x3_2 - 1)) then (if (wrap64 (x3_2 - 1)) < (l0_2.length : Int) then (if ((rd_T71 l0_2 (wrap64 (x3_2 - 1))).f0) ≥ ((rd_T71 l0_2 x3_2).f0) then (spec_l02Is.j2 k2 x3_2 true x1000_2 l0_1 l0_2 l0_3) else ((spec_l02Find.f k2 x1000_2 l0_1 l0_2 l0_3 ((rd_T71 l0_2 x3_2).f0)).bind fun t250 => (spec_l02Is.j2 k2 x3_2 (decide (t250 ≥ 0)) x1000_2 l0_1 l0_2 l0_3))) else (none)) else (none)) else ((spec_l02Find.f k2 x1000_2 l0_1 l0_2 l0_3 ((rd_T71 l0_2 x3_2).f0)).bind fun t251 => (spec_l02Is.j2 k2 x3_2 (decide (t251 ≥ 0)) x1000_2 l0_1 l0_2 l0_3))) else (spec_l02Is.j2 k2 x3_2 true x1000_2 l0_1 l0_2 l0_3)) = some r := H
 have A20 := Aside0.mk A200
 clear A200
 by_cases c21 : t248 = true
 {
 subst c21
 have H1 : (if x3_2 > 0 then (if 0 ≤ (wrap64 (x3_2 - 1)) then (if (wrap64 (x3_2 - 1)) < (l0_2.length : Int) then (if ((rd_T71 l0_2 (wrap64 (x3_2 - 1))).f0) ≥ ((rd_T71 l0_2 x3_2).f0) then (spec_l02Is.j2 k2 x3_2 true x1000_2 l0_1 l0_2 l0_3) else ((spec_l02Find.f k2 x1000_2 l0_1 l0_2 l0_3 ((rd_T71 l0_2 x3_2).f0)).bind fun t250 => (spec_l02Is.j2 k2 x3_2 (decide (t250 ≥ 0)) x1000_2 l0_1 l0_2 l0_3))) else (none)) else (none)) else ((spec_l02Find.f k2 x1000_2 l0_1 l0_2 l0_3 ((rd_T71 l0_2 x3_2).f0)).bind fun t251 => (spec_l02Is.j2 k2 x3_2 (decide (t251 ≥ 0)) x1000_2 l0_1 l0_2 l0_3))) = some r := by rw [if_pos rfl] at H; exact H
 clear H
 have H := H1
 clear H1
 by_cases c22 : x3_2 > 0
 {
 rw [if_pos c22] at H
 have c22b0 : decide (0 < x3_2) = true := decide_eq_true c22
 clear c22
 (first | rw [c22b0] | (simp only [i64_w, i32_w]; rw [c22b0]) | skip)
 obtain ⟨ji23, hji23⟩ : ∃ j_ : Int, (wrap64 (x3_2 - 1)) = j_ := ⟨_, rfl⟩
 replace H : (if 0 ≤ (ji23) then (if (ji23) < (l0_2.length : Int) then (if ((rd_T71 l0_2 (ji23)).f0) ≥ ((rd_T71 l0_2 x3_2).f0) then (spec_l02Is.j2 k2 x3_2 true x1000_2 l0_1 l0_2 l0_3) else ((spec_l02Find.f k2 x1000_2 l0_1 l0_2 l0_3 ((rd_T71 l0_2 x3_2).f0)).bind fun t250 => (spec_l02Is.j2 k2 x3_2 (decide (t250 ≥ 0)) x1000_2 l0_1 l0_2 l0_3))) else (none)) else (none)) = some r := by first | (rw [hji23] at H; exact H) | (simp only [hji23] at H ⊢; exact H)
 (try rw [hji23] at A16)
 (try rw [hji23] at A18)
 (try rw [hji23] at A20)
 have hji23w : (IntKind.i64.wrap (x3_2 - 1)) = ji23 := (i64_w _).trans hji23
 by_cases c24 : 0 ≤ (ji23)
 {
 rw [if_pos c24] at H
 have c24b0 : decide (0 ≤ (ji23)) = true := decide_eq_true c24
 clear c24
 by_cases c25 : (ji23) < (l0_2.length : Int)
 {
 rw [if_pos c25] at H
 have c25b0 : decide ((ji23) < (l0_2.length : Int)) = true := decide_eq_true c25
 clear c25
 by_cases c26 : ((rd_T71 l0_2 (ji23)).f0) ≥ ((rd_T71 l0_2 x3_2).f0)
 {
 rw [if_pos c26] at H
 have c26b0 : decide (((rd_T71 l0_2 x3_2).f0) ≤ ((rd_T71 l0_2 (ji23)).f0)) = true := decide_eq_true c26
 clear c26
 have H' := Aside0.mk H
 clear H
 try go_wp2
 have n0_ := Aside0.mk (blk_drew BK0.out)
 have n1_ := Aside0.mk (below_drew1 HB.out)
 clear BK0
 clear HB
 have BK0 := n0_
 have HB := n1_
 clear n0_ n1_
 have p245 : 0 ≤ (x3_2 : Int) := of_decide_eq_true (by first | (with_reducible assumption) | assumption)
 have q245 : x3_2 < (l0_2.length : Int) := of_decide_eq_true (by first | (with_reducible assumption) | assumption)
 obtain ⟨ad245, e245, hx245_0, hx245_1, hx245_2⟩ := at_T71 HR0_2.out x3_2 p245 q245
 have hw245_2 := hx245_2
 have hw245_1 := hx245_1
 have hw245_0 := hx245_0
 obtain rfl : ad244 = ad245 := (by injection e245)
 replace hx245_0 := (HB.out.cell (World.block_lt_of_cell? w _ hx245_0)).trans hx245_0
 replace hx245_1 := (HB.out.cell (World.block_lt_of_cell? w _ hx245_1)).trans hx245_1
 replace hx245_2 := (HB.out.cell (World.block_lt_of_cell? w _ hx245_2)).trans hx245_2
 replace p245 := eq_true p245
 replace q245 := eq_true q245
 have p249 : 0 ≤ ((ji23) : Int) := of_decide_eq_true (by first | (with_reducible assumption) | assumption)
 have q249 : (ji23) < (l0_2.length : Int) := of_decide_eq_true (by first | (with_reducible assumption) | assumption)
 obtain ⟨ad249, e249, hx249_0, hx249_1, hx249_2⟩ := at_T71 HR0_2.out (ji23) p249 q249
 have hw249_2 := hx249_2
 have hw249_1 := hx249_1
 have hw249_0 := hx249_0
 obtain rfl : ad244 = ad249 := (by injection e249)
 replace hx249_0 := (HB.out.cell (World.block_lt_of_cell? w _ hx249_0)).trans hx249_0
 replace hx249_1 := (HB.out.cell (World.block_lt_of_cell? w _ hx249_1)).trans hx249_1
 replace hx249_2 := (HB.out.cell (World.block_lt_of_cell? w _ hx249_2)).trans hx249_2
 replace p249 := eq_true p249
 replace q249 := eq_true q249
 refine start_ (n := 51) (S := fun w' => w'.cell? ⟨g0_, 0, none⟩ = some (.bool x1000_2) ∧ w'.cell? ⟨g0_, 1, none⟩ = some (.slice A0_1 l0_1.length c0_1) ∧ w'.cell? ⟨g0_, 2, none⟩ = some (.slice (some ad244) l0_2.length c0_2) ∧ w'.cell? ⟨g0_, 3, none⟩ = some (.slice A0_3 l0_3.length c0_3) ∧ w'.cell? (ad244.add ((x3_2).toNat * 3)) = some (.int .i64 ((rd_T71 l0_2 x3_2).f0)) ∧ w'.cell? ⟨(ad244.add ((x3_2).toNat * 3)).block, (ad244.add ((x3_2).toNat * 3)).off + 1, none⟩ = some (.int .i64 ((rd_T71 l0_2 x3_2).f1)) ∧ w'.cell? ⟨(ad244.add ((x3_2).toNat * 3)).block, (ad244.add ((x3_2).toNat * 3)).off + 2, none⟩ = some (.int .i64 ((rd_T71 l0_2 x3_2).f2)) ∧ w'.cell? (ad244.add (((ji23)).toNat * 3)) = some (.int .i64 ((rd_T71 l0_2 (ji23)).f0)) ∧ w'.cell? ⟨(ad244.add (((ji23)).toNat * 3)).block, (ad244.add (((ji23)).toNat * 3)).off + 1, none⟩ = some (.int .i64 ((rd_T71 l0_2 (ji23)).f1)) ∧ w'.cell? ⟨(ad244.add (((ji23)).toNat * 3)).block, (ad244.add (((ji23)).toNat * 3)).off + 2, none⟩ = some (.int .i64 ((rd_T71 l0_2 (ji23)).f2))) (ds := []) m0_ s2_ rfl rfl ⟨(blk_cell BK0.out 0).trans rfl, (blk_cell BK0.out 1).trans rfl, (blk_cell BK0.out 2).trans rfl, (blk_cell BK0.out 3).trans rfl, ((HB.out.cell (World.block_lt_of_cell? w _ hw245_0)).trans hw245_0), ((HB.out.cell (World.block_lt_of_cell? w _ hw245_1)).trans hw245_1), ((HB.out.cell (World.block_lt_of_cell? w _ hw245_2)).trans hw245_2), ((HB.out.cell (World.block_lt_of_cell? w _ hw249_0)).trans hw249_0), ((HB.out.cell (World.block_lt_of_cell? w _ hw249_1)).trans hw249_1), ((HB.out.cell (World.block_lt_of_cell? w _ hw249_2)).trans hw249_2)⟩ (fun hHeld => ?_); refine with_tabW spec_l02Is.tab7 spec_l02Is.bits7 (fun HT_ HW_ => ?_)
 generalize wr.drew = w27 at BK0 HB hx245_0 hx245_1 hx245_2 hx249_0 hx249_1 hx249_2 hHeld ⊢
 refine pu_ 0 41 m1_ (any_of HT_.out s2_) ?_
 refine pu_ 1 42 m2_ (any_of HT_.out s2_) ?_
 refine pu_ 2 43 m3_ (any_of HT_.out s2_) ?_
 refine take_ (i := 3) (N := some 44) (v := ?_) (a' := ?_) m4_ rfl rfl (take_ofW HT_.out HW_.out s2_) (fun _ _ _ h => h) (Or.inl ⟨by rfl, ?_⟩) hHeld ?_ ?_
 rotate_left
 {
 rintro w' ⟨s0, s1, s2, s3, s4, s5, s6, s7, s8, s9⟩
 go_simp
 with_reducible rfl}
 rotate_left
 · exact p1_
 refine one_ (i := 4) (N := some 45) m5_ rfl rfl (one_of HT_.out s2_) (by decide) (fun K hK => ?_)
 refine goes_ Try.func40 s2_ rfl #[.int .i64 ((rd_T71 l0_2 x3_2).f0)] (by rfl) rfl rfl s3_ ?_
 with_reducible refine (spec_l02Id.calls ((rd_T71 l0_2 x3_2).f0) true _ A16.out).mono ?_
 rintro e w' ⟨rfl, ⟨nd, rfl⟩⟩
 refine ⟨_, rfl, ?_⟩
 refine hK.out _ _ ⟨(blk_cell BK0.out 0).trans rfl, (blk_cell BK0.out 1).trans rfl, (blk_cell BK0.out 2).trans rfl, (blk_cell BK0.out 3).trans rfl, ((HB.out.cell (World.block_lt_of_cell? w _ hw245_0)).trans hw245_0), ((HB.out.cell (World.block_lt_of_cell? w _ hw245_1)).trans hw245_1), ((HB.out.cell (World.block_lt_of_cell? w _ hw245_2)).trans hw245_2), ((HB.out.cell (World.block_lt_of_cell? w _ hw249_0)).trans hw249_0), ((HB.out.cell (World.block_lt_of_cell? w _ hw249_1)).trans hw249_1), ((HB.out.cell (World.block_lt_of_cell? w _ hw249_2)).trans hw249_2)⟩ (fun hHeld => ?_)
 clear hK K
 refine norm_ (a' := ?_) ?_ ?_
 rotate_left
 {
 show Act.put _ (some 45) _ = _
 simp only [Act.put, List.setIfInBounds_toArray, List.set_cons_zero, List.set_cons_succ, i64_w, i32_w]
 rfl}
 refine pu_ 5 46 m6_ (any_of HT_.out s2_) ?_
 refine pu_ 6 47 m7_ (any_of HT_.out s2_) ?_
 refine pu_ 7 48 m8_ (any_of HT_.out s2_) ?_
 refine pu_ 8 49 m9_ (any_of HT_.out s2_) ?_
 refine pu_ 9 50 m10_ (any_of HT_.out s2_) ?_
 refine take_ (i := 10) (N := some 51) (v := ?_) (a' := ?_) m11_ rfl rfl (take_ofW HT_.out HW_.out s2_) (fun _ _ _ h => h) (Or.inl ⟨by rfl, ?_⟩) hHeld ?_ ?_
 rotate_left
 {
 rintro w' ⟨s0, s1, s2, s3, s4, s5, s6, s7, s8, s9⟩
 go_simp
 with_reducible rfl}
 rotate_left
 · exact p1_
 refine one_ (i := 11) (N := some 52) m12_ rfl rfl (one_of HT_.out s2_) (by decide) (fun K hK => ?_)
 refine goes_ Try.func40 s2_ rfl #[.int .i64 ((rd_T71 l0_2 x3_2).f1)] (by rfl) rfl rfl s3_ ?_
 with_reducible refine (spec_l02Id.calls ((rd_T71 l0_2 x3_2).f1) true _ A18.out).mono ?_
 rintro e w' ⟨rfl, ⟨nd, rfl⟩⟩
 refine ⟨_, rfl, ?_⟩
 refine hK.out _ _ ⟨(blk_cell BK0.out 0).trans rfl, (blk_cell BK0.out 1).trans rfl, (blk_cell BK0.out 2).trans rfl, (blk_cell BK0.out 3).trans rfl, ((HB.out.cell (World.block_lt_of_cell? w _ hw245_0)).trans hw245_0), ((HB.out.cell (World.block_lt_of_cell? w _ hw245_1)).trans hw245_1), ((HB.out.cell (World.block_lt_of_cell? w _ hw245_2)).trans hw245_2), ((HB.out.cell (World.block_lt_of_cell? w _ hw249_0)).trans hw249_0), ((HB.out.cell (World.block_lt_of_cell? w _ hw249_1)).trans hw249_1), ((HB.out.cell (World.block_lt_of_cell? w _ hw249_2)).trans hw249_2)⟩ (fun hHeld => ?_)
 clear hK K
 refine norm_ (a' := ?_) ?_ ?_
 rotate_left
 {
 show Act.put _ (some 52) _ = _
 simp only [Act.put, List.setIfInBounds_toArray, List.set_cons_zero, List.set_cons_succ, i64_w, i32_w]
 rfl}
 refine pu_ 12 53 m13_ (any_of HT_.out s2_) ?_
 refine pu_ 13 54 m14_ (any_of HT_.out s2_) ?_
 refine pu_ 14 55 m15_ (any_of HT_.out s2_) ?_
 refine pu_ 15 56 m16_ (any_of HT_.out s2_) ?_
 refine pu_ 16 57 m17_ (any_of HT_.out s2_) ?_
 refine pu_ 17 58 m18_ (any_of HT_.out s2_) ?_
 refine take_ (i := 18) (N := some 59) (v := ?_) (a' := ?_) m19_ rfl rfl (take_ofW HT_.out HW_.out s2_) (fun _ _ _ h => h) (Or.inl ⟨by rfl, ?_⟩) hHeld ?_ ?_
 rotate_left
 {
 rintro w' ⟨s0, s1, s2, s3, s4, s5, s6, s7, s8, s9⟩
 go_simp
 with_reducible rfl}
 rotate_left
 · exact p1_
 refine one_ (i := 19) (N := some 60) m20_ rfl rfl (one_of HT_.out s2_) (by decide) (fun K hK => ?_)
 refine goes_ Try.func41 s2_ rfl #[.int .i64 ((rd_T71 l0_2 x3_2).f2)] (by rfl) rfl rfl s3_ ?_
 with_reducible refine (spec_l02Tick.calls ((rd_T71 l0_2 x3_2).f2) true _ A20.out).mono ?_
 rintro e w' ⟨rfl, ⟨nd, rfl⟩⟩
 refine ⟨_, rfl, ?_⟩
 refine hK.out _ _ ⟨(blk_cell BK0.out 0).trans rfl, (blk_cell BK0.out 1).trans rfl, (blk_cell BK0.out 2).trans rfl, (blk_cell BK0.out 3).trans rfl, ((HB.out.cell (World.block_lt_of_cell? w _ hw245_0)).trans hw245_0), ((HB.out.cell (World.block_lt_of_cell? w _ hw245_1)).trans hw245_1), ((HB.out.cell (World.block_lt_of_cell? w _ hw245_2)).trans hw245_2), ((HB.out.cell (World.block_lt_of_cell? w _ hw249_0)).trans hw249_0), ((HB.out.cell (World.block_lt_of_cell? w _ hw249_1)).trans hw249_1), ((HB.out.cell (World.block_lt_of_cell? w _ hw249_2)).trans hw249_2)⟩ (fun hHeld => ?_)
 clear hK K
 refine norm_ (a' := ?_) ?_ ?_
 rotate_left
 {
 show Act.put _ (some 60) _ = _
 simp only [Act.put, List.setIfInBounds_toArray, List.set_cons_zero, List.set_cons_succ, i64_w, i32_w]
 rfl}
 refine pu_ 20 61 m21_ (any_of HT_.out s2_) ?_
 refine pu_ 21 62 m22_ (any_of HT_.out s2_) ?_
 refine pu_ 22 63 m23_ (any_of HT_.out s2_) ?_
 refine pu_ 23 64 m24_ (any_of HT_.out s2_) ?_
 refine pu_ 24 65 m25_ (any_of HT_.out s2_) ?_
 refine pu_ 25 66 m26_ (any_of HT_.out s2_) ?_
 refine pu_ 26 67 m27_ (any_of HT_.out s2_) ?_
 refine pu_ 27 68 m28_ (any_of HT_.out s2_) ?_
 refine pu_ 28 69 m29_ (any_of HT_.out s2_) ?_
 refine pu_ 30 71 m30_ (any_of HT_.out s2_) ?_
 refine pu_ 31 72 m31_ (any_of HT_.out s2_) ?_
 refine pu_ 35 76 m32_ (any_of HT_.out s2_) ?_
 refine pu_ 36 77 m33_ (any_of HT_.out s2_) ?_
 refine pu_ 37 78 m34_ (any_of HT_.out s2_) ?_
 refine take_ (i := 29) (N := some 70) (v := ?_) (a' := ?_) m35_ rfl rfl (take_ofW HT_.out HW_.out s2_) (fun _ _ _ h => h) (Or.inl ⟨by rfl, ?_⟩) hHeld ?_ ?_
 rotate_left
 {
 rintro w' ⟨s0, s1, s2, s3, s4, s5, s6, s7, s8, s9⟩
 go_simp
 with_reducible rfl}
 rotate_left
 · exact p1_
 refine pu_ 32 73 m36_ (any_of HT_.out s2_) ?_
 refine pu_ 33 74 m37_ (any_of HT_.out s2_) ?_
 refine take_ (i := 34) (N := some 75) (v := ?_) (a' := ?_) m38_ rfl rfl (take_ofW HT_.out HW_.out s2_) (fun _ _ _ h => h) (Or.inl ⟨by rfl, ?_⟩) hHeld ?_ ?_
 rotate_left
 {
 rintro w' ⟨s0, s1, s2, s3, s4, s5, s6, s7, s8, s9⟩
 go_simp
 with_reducible rfl}
 rotate_left
 · exact p1_
 refine take_ (i := 38) (N := some 79) (v := ?_) (a' := ?_) m39_ rfl rfl (take_ofW HT_.out HW_.out s2_) (fun _ _ _ h => h) (Or.inl ⟨by rfl, ?_⟩) hHeld ?_ ?_
 rotate_left
 {
 rintro w' ⟨s0, s1, s2, s3, s4, s5, s6, s7, s8, s9⟩
 go_simp
 with_reducible rfl}
 rotate_left
 · exact p1_
 refine pu_ 39 80 m40_ (any_of HT_.out s2_) ?_
 refine pu_ 40 81 m41_ (any_of HT_.out s2_) ?_
 refine pu_ 41 82 m42_ (any_of HT_.out s2_) ?_
 refine pu_ 42 83 m43_ (any_of HT_.out s2_) ?_
 refine pn_ 43 84 m44_ (any_of HT_.out s2_) ?_
 refine pn_ 44 85 m45_ (any_of HT_.out s2_) ?_
 refine pn_ 45 86 m46_ (any_of HT_.out s2_) ?_
 refine pn_ 46 87 m47_ (any_of HT_.out s2_) ?_
 refine pn_ 47 88 m48_ (any_of HT_.out s2_) ?_
 refine pn_ 48 89 m49_ (any_of HT_.out s2_) ?_
 refine pn_ 49 90 m50_ (any_of HT_.out s2_) ?_
 refine pu_ 50 91 m51_ (any_of HT_.out s2_) ?_
 refine done_ (done_of HT_.out s2_) ?_
 try go_wp2
 go_meet
 case rel => exact ⟨_, (true), (x1000_2), s1_, H', ⟨by have := HJ1.out; have := HK2.out; first | omega | exact Nat.le_refl _⟩, ⟨b1_ BK0.out⟩, ⟨by repeat (first | (with_reducible first | exact HB.out | apply below_alloc | apply pw_below_drewN | apply below_drew1 | refine below_set ?_ GE0.out) | exact HB.out)⟩⟩}
 {
 rw [if_neg c26] at H
 have c26b0 : decide (((rd_T71 l0_2 x3_2).f0) ≤ ((rd_T71 l0_2 (ji23)).f0)) = false := decide_eq_false c26
 clear c26
 replace H := Option.bind_eq_some_iff.mp H
 obtain ⟨t250, A280, H⟩ := H
 replace H : (spec_l02Is.j2 k2 x3_2 (decide (t250 ≥ 0)) x1000_2 l0_1 l0_2 l0_3) = some r := H
 have A28 := Aside0.mk A280
 clear A280
 have H' := Aside0.mk H
 clear H
 try go_wp2
 have n0_ := Aside0.mk (blk_drew BK0.out)
 have n1_ := Aside0.mk (below_drew1 HB.out)
 clear BK0
 clear HB
 have BK0 := n0_
 have HB := n1_
 clear n0_ n1_
 have p245 : 0 ≤ (x3_2 : Int) := of_decide_eq_true (by first | (with_reducible assumption) | assumption)
 have q245 : x3_2 < (l0_2.length : Int) := of_decide_eq_true (by first | (with_reducible assumption) | assumption)
 obtain ⟨ad245, e245, hx245_0, hx245_1, hx245_2⟩ := at_T71 HR0_2.out x3_2 p245 q245
 have hw245_2 := hx245_2
 have hw245_1 := hx245_1
 have hw245_0 := hx245_0
 obtain rfl : ad244 = ad245 := (by injection e245)
 replace hx245_0 := (HB.out.cell (World.block_lt_of_cell? w _ hx245_0)).trans hx245_0
 replace hx245_1 := (HB.out.cell (World.block_lt_of_cell? w _ hx245_1)).trans hx245_1
 replace hx245_2 := (HB.out.cell (World.block_lt_of_cell? w _ hx245_2)).trans hx245_2
 replace p245 := eq_true p245
 replace q245 := eq_true q245
 have p249 : 0 ≤ ((ji23) : Int) := of_decide_eq_true (by first | (with_reducible assumption) | assumption)
 have q249 : (ji23) < (l0_2.length : Int) := of_decide_eq_true (by first | (with_reducible assumption) | assumption)
 obtain ⟨ad249, e249, hx249_0, hx249_1, hx249_2⟩ := at_T71 HR0_2.out (ji23) p249 q249
 have hw249_2 := hx249_2
 have hw249_1 := hx249_1
 have hw249_0 := hx249_0
 obtain rfl : ad244 = ad249 := (by injection e249)
 replace hx249_0 := (HB.out.cell (World.block_lt_of_cell? w _ hx249_0)).trans hx249_0
 replace hx249_1 := (HB.out.cell (World.block_lt_of_cell? w _ hx249_1)).trans hx249_1
 replace hx249_2 := (HB.out.cell (World.block_lt_of_cell? w _ hx249_2)).trans hx249_2
 replace p249 := eq_true p249
 replace q249 := eq_true q249
 refine start_ (n := 51) (S := fun w' => w'.cell? ⟨g0_, 0, none⟩ = some (.bool x1000_2) ∧ w'.cell? ⟨g0_, 1, none⟩ = some (.slice A0_1 l0_1.length c0_1) ∧ w'.cell? ⟨g0_, 2, none⟩ = some (.slice (some ad244) l0_2.length c0_2) ∧ w'.cell? ⟨g0_, 3, none⟩ = some (.slice A0_3 l0_3.length c0_3) ∧ w'.cell? (ad244.add ((x3_2).toNat * 3)) = some (.int .i64 ((rd_T71 l0_2 x3_2).f0)) ∧ w'.cell? ⟨(ad244.add ((x3_2).toNat * 3)).block, (ad244.add ((x3_2).toNat * 3)).off + 1, none⟩ = some (.int .i64 ((rd_T71 l0_2 x3_2).f1)) ∧ w'.cell? ⟨(ad244.add ((x3_2).toNat * 3)).block, (ad244.add ((x3_2).toNat * 3)).off + 2, none⟩ = some (.int .i64 ((rd_T71 l0_2 x3_2).f2)) ∧ w'.cell? (ad244.add (((ji23)).toNat * 3)) = some (.int .i64 ((rd_T71 l0_2 (ji23)).f0)) ∧ w'.cell? ⟨(ad244.add (((ji23)).toNat * 3)).block, (ad244.add (((ji23)).toNat * 3)).off + 1, none⟩ = some (.int .i64 ((rd_T71 l0_2 (ji23)).f1)) ∧ w'.cell? ⟨(ad244.add (((ji23)).toNat * 3)).block, (ad244.add (((ji23)).toNat * 3)).off + 2, none⟩ = some (.int .i64 ((rd_T71 l0_2 (ji23)).f2))) (ds := []) m0_ s2_ rfl rfl ⟨(blk_cell BK0.out 0).trans rfl, (blk_cell BK0.out 1).trans rfl, (blk_cell BK0.out 2).trans rfl, (blk_cell BK0.out 3).trans rfl, ((HB.out.cell (World.block_lt_of_cell? w _ hw245_0)).trans hw245_0), ((HB.out.cell (World.block_lt_of_cell? w _ hw245_1)).trans hw245_1), ((HB.out.cell (World.block_lt_of_cell? w _ hw245_2)).trans hw245_2), ((HB.out.cell (World.block_lt_of_cell? w _ hw249_0)).trans hw249_0), ((HB.out.cell (World.block_lt_of_cell? w _ hw249_1)).trans hw249_1), ((HB.out.cell (World.block_lt_of_cell? w _ hw249_2)).trans hw249_2)⟩ (fun hHeld => ?_); refine with_tabW spec_l02Is.tab7 spec_l02Is.bits7 (fun HT_ HW_ => ?_)
 generalize wr.drew = w29 at BK0 HB hx245_0 hx245_1 hx245_2 hx249_0 hx249_1 hx249_2 hHeld ⊢
 refine pu_ 0 41 m1_ (any_of HT_.out s2_) ?_
 refine pu_ 1 42 m2_ (any_of HT_.out s2_) ?_
 refine pu_ 2 43 m3_ (any_of HT_.out s2_) ?_
 refine take_ (i := 3) (N := some 44) (v := ?_) (a' := ?_) m4_ rfl rfl (take_ofW HT_.out HW_.out s2_) (fun _ _ _ h => h) (Or.inl ⟨by rfl, ?_⟩) hHeld ?_ ?_
 rotate_left
 {
 rintro w' ⟨s0, s1, s2, s3, s4, s5, s6, s7, s8, s9⟩
 go_simp
 with_reducible rfl}
 rotate_left
 · exact p1_
 refine one_ (i := 4) (N := some 45) m5_ rfl rfl (one_of HT_.out s2_) (by decide) (fun K hK => ?_)
 refine goes_ Try.func40 s2_ rfl #[.int .i64 ((rd_T71 l0_2 x3_2).f0)] (by rfl) rfl rfl s3_ ?_
 with_reducible refine (spec_l02Id.calls ((rd_T71 l0_2 x3_2).f0) true _ A16.out).mono ?_
 rintro e w' ⟨rfl, ⟨nd, rfl⟩⟩
 refine ⟨_, rfl, ?_⟩
 refine hK.out _ _ ⟨(blk_cell BK0.out 0).trans rfl, (blk_cell BK0.out 1).trans rfl, (blk_cell BK0.out 2).trans rfl, (blk_cell BK0.out 3).trans rfl, ((HB.out.cell (World.block_lt_of_cell? w _ hw245_0)).trans hw245_0), ((HB.out.cell (World.block_lt_of_cell? w _ hw245_1)).trans hw245_1), ((HB.out.cell (World.block_lt_of_cell? w _ hw245_2)).trans hw245_2), ((HB.out.cell (World.block_lt_of_cell? w _ hw249_0)).trans hw249_0), ((HB.out.cell (World.block_lt_of_cell? w _ hw249_1)).trans hw249_1), ((HB.out.cell (World.block_lt_of_cell? w _ hw249_2)).trans hw249_2)⟩ (fun hHeld => ?_)
 clear hK K
 refine norm_ (a' := ?_) ?_ ?_
 rotate_left
 {
 show Act.put _ (some 45) _ = _
 simp only [Act.put, List.setIfInBounds_toArray, List.set_cons_zero, List.set_cons_succ, i64_w, i32_w]
 rfl}
 refine pu_ 5 46 m6_ (any_of HT_.out s2_) ?_
 refine pu_ 6 47 m7_ (any_of HT_.out s2_) ?_
 refine pu_ 7 48 m8_ (any_of HT_.out s2_) ?_
 refine pu_ 8 49 m9_ (any_of HT_.out s2_) ?_
 refine pu_ 9 50 m10_ (any_of HT_.out s2_) ?_
 refine take_ (i := 10) (N := some 51) (v := ?_) (a' := ?_) m11_ rfl rfl (take_ofW HT_.out HW_.out s2_) (fun _ _ _ h => h) (Or.inl ⟨by rfl, ?_⟩) hHeld ?_ ?_
 rotate_left
 {
 rintro w' ⟨s0, s1, s2, s3, s4, s5, s6, s7, s8, s9⟩
 go_simp
 with_reducible rfl}
 rotate_left
 · exact p1_
 refine one_ (i := 11) (N := some 52) m12_ rfl rfl (one_of HT_.out s2_) (by decide) (fun K hK => ?_)
 refine goes_ Try.func40 s2_ rfl #[.int .i64 ((rd_T71 l0_2 x3_2).f1)] (by rfl) rfl rfl s3_ ?_
 with_reducible refine (spec_l02Id.calls ((rd_T71 l0_2 x3_2).f1) true _ A18.out).mono ?_
 rintro e w' ⟨rfl, ⟨nd, rfl⟩⟩
 refine ⟨_, rfl, ?_⟩
 refine hK.out _ _ ⟨(blk_cell BK0.out 0).trans rfl, (blk_cell BK0.out 1).trans rfl, (blk_cell BK0.out 2).trans rfl, (blk_cell BK0.out 3).trans rfl, ((HB.out.cell (World.block_lt_of_cell? w _ hw245_0)).trans hw245_0), ((HB.out.cell (World.block_lt_of_cell? w _ hw245_1)).trans hw245_1), ((HB.out.cell (World.block_lt_of_cell? w _ hw245_2)).trans hw245_2), ((HB.out.cell (World.block_lt_of_cell? w _ hw249_0)).trans hw249_0), ((HB.out.cell (World.block_lt_of_cell? w _ hw249_1)).trans hw249_1), ((HB.out.cell (World.block_lt_of_cell? w _ hw249_2)).trans hw249_2)⟩ (fun hHeld => ?_)
 clear hK K
 refine norm_ (a' := ?_) ?_ ?_
 rotate_left
 {
 show Act.put _ (some 52) _ = _
 simp only [Act.put, List.setIfInBounds_toArray, List.set_cons_zero, List.set_cons_succ, i64_w, i32_w]
 rfl}
 refine pu_ 12 53 m13_ (any_of HT_.out s2_) ?_
 refine pu_ 13 54 m14_ (any_of HT_.out s2_) ?_
 refine pu_ 14 55 m15_ (any_of HT_.out s2_) ?_
 refine pu_ 15 56 m16_ (any_of HT_.out s2_) ?_
 refine pu_ 16 57 m17_ (any_of HT_.out s2_) ?_
 refine pu_ 17 58 m18_ (any_of HT_.out s2_) ?_
 refine take_ (i := 18) (N := some 59) (v := ?_) (a' := ?_) m19_ rfl rfl (take_ofW HT_.out HW_.out s2_) (fun _ _ _ h => h) (Or.inl ⟨by rfl, ?_⟩) hHeld ?_ ?_
 rotate_left
 {
 rintro w' ⟨s0, s1, s2, s3, s4, s5, s6, s7, s8, s9⟩
 go_simp
 with_reducible rfl}
 rotate_left
 · exact p1_
 refine one_ (i := 19) (N := some 60) m20_ rfl rfl (one_of HT_.out s2_) (by decide) (fun K hK => ?_)
 refine goes_ Try.func41 s2_ rfl #[.int .i64 ((rd_T71 l0_2 x3_2).f2)] (by rfl) rfl rfl s3_ ?_
 with_reducible refine (spec_l02Tick.calls ((rd_T71 l0_2 x3_2).f2) true _ A20.out).mono ?_
 rintro e w' ⟨rfl, ⟨nd, rfl⟩⟩
 refine ⟨_, rfl, ?_⟩
 refine hK.out _ _ ⟨(blk_cell BK0.out 0).trans rfl, (blk_cell BK0.out 1).trans rfl, (blk_cell BK0.out 2).trans rfl, (blk_cell BK0.out 3).trans rfl, ((HB.out.cell (World.block_lt_of_cell? w _ hw245_0)).trans hw245_0), ((HB.out.cell (World.block_lt_of_cell? w _ hw245_1)).trans hw245_1), ((HB.out.cell (World.block_lt_of_cell? w _ hw245_2)).trans hw245_2), ((HB.out.cell (World.block_lt_of_cell? w _ hw249_0)).trans hw249_0), ((HB.out.cell (World.block_lt_of_cell? w _ hw249_1)).trans hw249_1), ((HB.out.cell (World.block_lt_of_cell? w _ hw249_2)).trans hw249_2)⟩ (fun hHeld => ?_)
 clear hK K
 refine norm_ (a' := ?_) ?_ ?_
 rotate_left
 {
 show Act.put _ (some 60) _ = _
 simp only [Act.put, List.setIfInBounds_toArray, List.set_cons_zero, List.set_cons_succ, i64_w, i32_w]
 rfl}
 refine pu_ 20 61 m21_ (any_of HT_.out s2_) ?_
 refine pu_ 21 62 m22_ (any_of HT_.out s2_) ?_
 refine pu_ 22 63 m23_ (any_of HT_.out s2_) ?_
 refine pu_ 23 64 m24_ (any_of HT_.out s2_) ?_
 refine pu_ 24 65 m25_ (any_of HT_.out s2_) ?_
 refine pu_ 25 66 m26_ (any_of HT_.out s2_) ?_
 refine pu_ 26 67 m27_ (any_of HT_.out s2_) ?_
 refine pu_ 27 68 m28_ (any_of HT_.out s2_) ?_
 refine pu_ 28 69 m29_ (any_of HT_.out s2_) ?_
 refine pu_ 30 71 m30_ (any_of HT_.out s2_) ?_
 refine pu_ 31 72 m31_ (any_of HT_.out s2_) ?_
 refine pu_ 35 76 m32_ (any_of HT_.out s2_) ?_
 refine pu_ 36 77 m33_ (any_of HT_.out s2_) ?_
 refine pu_ 37 78 m34_ (any_of HT_.out s2_) ?_
 refine take_ (i := 29) (N := some 70) (v := ?_) (a' := ?_) m35_ rfl rfl (take_ofW HT_.out HW_.out s2_) (fun _ _ _ h => h) (Or.inl ⟨by rfl, ?_⟩) hHeld ?_ ?_
 rotate_left
 {
 rintro w' ⟨s0, s1, s2, s3, s4, s5, s6, s7, s8, s9⟩
 go_simp
 with_reducible rfl}
 rotate_left
 · exact p1_
 refine pu_ 32 73 m36_ (any_of HT_.out s2_) ?_
 refine pu_ 33 74 m37_ (any_of HT_.out s2_) ?_
 refine take_ (i := 34) (N := some 75) (v := ?_) (a' := ?_) m38_ rfl rfl (take_ofW HT_.out HW_.out s2_) (fun _ _ _ h => h) (Or.inl ⟨by rfl, ?_⟩) hHeld ?_ ?_
 rotate_left
 {
 rintro w' ⟨s0, s1, s2, s3, s4, s5, s6, s7, s8, s9⟩
 go_simp
 with_reducible rfl}
 rotate_left
 · exact p1_
 refine take_ (i := 38) (N := some 79) (v := ?_) (a' := ?_) m39_ rfl rfl (take_ofW HT_.out HW_.out s2_) (fun _ _ _ h => h) (Or.inl ⟨by rfl, ?_⟩) hHeld ?_ ?_
 rotate_left
 {
 rintro w' ⟨s0, s1, s2, s3, s4, s5, s6, s7, s8, s9⟩
 go_simp
 with_reducible rfl}
 rotate_left
 · exact p1_
 refine pu_ 39 80 m40_ (any_of HT_.out s2_) ?_
 refine pu_ 40 81 m41_ (any_of HT_.out s2_) ?_
 refine pu_ 41 82 m42_ (any_of HT_.out s2_) ?_
 refine pu_ 42 83 m43_ (any_of HT_.out s2_) ?_
 refine pu_ 43 84 m44_ (any_of HT_.out s2_) ?_
 refine pu_ 44 85 m45_ (any_of HT_.out s2_) ?_
 refine pu_ 45 86 m46_ (any_of HT_.out s2_) ?_
 refine pu_ 46 87 m47_ (any_of HT_.out s2_) ?_
 refine take_ (i := 47) (N := some 88) (v := ?_) (a' := ?_) m48_ rfl rfl (take_ofW HT_.out HW_.out s2_) (fun _ _ _ h => h) (Or.inl ⟨by rfl, ?_⟩) hHeld ?_ ?_
 rotate_left
 {
 rintro w' ⟨s0, s1, s2, s3, s4, s5, s6, s7, s8, s9⟩
 go_simp
 with_reducible rfl}
 rotate_left
 · exact p1_
 refine one_ (i := 48) (N := some 89) m49_ rfl rfl (one_of HT_.out s2_) (by decide) (fun K hK => ?_)
 refine goes_ Try.func58 s2_ rfl #[.pointer (some ⟨g0_, 0, none⟩), .int .i64 ((rd_T71 l0_2 x3_2).f0)] (by rfl) rfl rfl s3_ ?_
 with_reducible refine (spec_l02Find.calls k2 g0_ x1000_2 A0_1 c0_1 l0_1 (some ad244) c0_2 l0_2 A0_3 c0_3 l0_3 ((rd_T71 l0_2 x3_2).f0) t250 _ ?side1 ?side2 ?side3 ?side4 ?side5 ?side6 ?side7 A28.out).mono ?_
 (case side1 => exact (b1_ BK0.out))
 (case side2 => repeat (first | exact (Kd.C_below HR0_1.out (by repeat (first | (with_reducible first | exact HB.out | apply below_alloc | apply pw_below_drewN | apply below_drew1 | refine below_set ?_ GE0.out) | exact HB.out))) | (with_reducible refine Kd.C_alloc ?_ _) | (with_reducible refine Kd.C_drewN ?_ _) | (with_reducible refine Kd.C_drew ?_)))
 (case side3 => exact HC0_1.out)
 (case side4 => repeat (first | exact (Kd.C_below HR0_2.out (by repeat (first | (with_reducible first | exact HB.out | apply below_alloc | apply pw_below_drewN | apply below_drew1 | refine below_set ?_ GE0.out) | exact HB.out))) | (with_reducible refine Kd.C_alloc ?_ _) | (with_reducible refine Kd.C_drewN ?_ _) | (with_reducible refine Kd.C_drew ?_)))
 (case side5 => exact HC0_2.out)
 (case side6 => repeat (first | exact (Kd.C_below HR0_3.out (by repeat (first | (with_reducible first | exact HB.out | apply below_alloc | apply pw_below_drewN | apply below_drew1 | refine below_set ?_ GE0.out) | exact HB.out))) | (with_reducible refine Kd.C_alloc ?_ _) | (with_reducible refine Kd.C_drewN ?_ _) | (with_reducible refine Kd.C_drew ?_)))
 (case side7 => exact HC0_3.out)
 rintro e w30 ⟨rfl, hb⟩
 refine ⟨_, rfl, ?_⟩
 have n0_ := Aside0.mk (blk_below (g := g0_) (o := .cells #[.bool x1000_2, .slice A0_1 l0_1.length c0_1, .slice (some ad244) l0_2.length c0_2, .slice A0_3 l0_3.length c0_3] 28 (0, 0)) (b1_ BK0.out) hb)
 have n1_ := Aside0.mk (below_step (by repeat (first | (with_reducible first | exact HB.out | apply below_alloc | apply pw_below_drewN | apply below_drew1 | refine below_set ?_ GE0.out) | exact HB.out)) hb)
 clear BK0
 clear HB
 have BK0 := n0_
 have HB := n1_
 clear n0_ n1_
 (try clear hb)
 (try clear hb2)
 (try clear hk)
 (try clear hi)
 refine hK.out _ _ ⟨(blk_cell BK0.out 0).trans rfl, (blk_cell BK0.out 1).trans rfl, (blk_cell BK0.out 2).trans rfl, (blk_cell BK0.out 3).trans rfl, ((HB.out.cell (World.block_lt_of_cell? w _ hw245_0)).trans hw245_0), ((HB.out.cell (World.block_lt_of_cell? w _ hw245_1)).trans hw245_1), ((HB.out.cell (World.block_lt_of_cell? w _ hw245_2)).trans hw245_2), ((HB.out.cell (World.block_lt_of_cell? w _ hw249_0)).trans hw249_0), ((HB.out.cell (World.block_lt_of_cell? w _ hw249_1)).trans hw249_1), ((HB.out.cell (World.block_lt_of_cell? w _ hw249_2)).trans hw249_2)⟩ (fun hHeld => ?_)
 clear hK K
 refine norm_ (a' := ?_) ?_ ?_
 rotate_left
 {
 show Act.put _ (some 89) _ = _
 simp only [Act.put, List.setIfInBounds_toArray, List.set_cons_zero, List.set_cons_succ, i64_w, i32_w]
 rfl}
 refine pu_ 49 90 m50_ (any_of HT_.out s2_) ?_
 refine pu_ 50 91 m51_ (any_of HT_.out s2_) ?_
 refine done_ (done_of HT_.out s2_) ?_
 try go_wp2
 go_meet
 case rel => exact ⟨_, (decide (t250 ≥ 0)), (x1000_2), s1_, H', ⟨by have := HJ1.out; have := HK2.out; first | omega | exact Nat.le_refl _⟩, ⟨b1_ BK0.out⟩, ⟨by repeat (first | (with_reducible first | exact HB.out | apply below_alloc | apply pw_below_drewN | apply below_drew1 | refine below_set ?_ GE0.out) | exact HB.out)⟩⟩}}
 {
 rw [if_neg c25] at H
 exact absurd H (by simp)}}
 {
 rw [if_neg c24] at H
 exact absurd H (by simp)}}
 {
 rw [if_neg c22] at H
 have c22b0 : decide (0 < x3_2) = false := decide_eq_false c22
 clear c22
 (first | rw [c22b0] | (simp only [i64_w, i32_w]; rw [c22b0]) | skip)
 replace H := Option.bind_eq_some_iff.mp H
 obtain ⟨t251, A310, H⟩ := H
 replace H : (spec_l02Is.j2 k2 x3_2 (decide (t251 ≥ 0)) x1000_2 l0_1 l0_2 l0_3) = some r := H
 have A31 := Aside0.mk A310
 clear A310
 have H' := Aside0.mk H
 clear H
 try go_wp2
 have n0_ := Aside0.mk (blk_drew BK0.out)
 have n1_ := Aside0.mk (below_drew1 HB.out)
 clear BK0
 clear HB
 have BK0 := n0_
 have HB := n1_
 clear n0_ n1_
 have p245 : 0 ≤ (x3_2 : Int) := of_decide_eq_true (by first | (with_reducible assumption) | assumption)
 have q245 : x3_2 < (l0_2.length : Int) := of_decide_eq_true (by first | (with_reducible assumption) | assumption)
 obtain ⟨ad245, e245, hx245_0, hx245_1, hx245_2⟩ := at_T71 HR0_2.out x3_2 p245 q245
 have hw245_2 := hx245_2
 have hw245_1 := hx245_1
 have hw245_0 := hx245_0
 obtain rfl : ad244 = ad245 := (by injection e245)
 replace hx245_0 := (HB.out.cell (World.block_lt_of_cell? w _ hx245_0)).trans hx245_0
 replace hx245_1 := (HB.out.cell (World.block_lt_of_cell? w _ hx245_1)).trans hx245_1
 replace hx245_2 := (HB.out.cell (World.block_lt_of_cell? w _ hx245_2)).trans hx245_2
 replace p245 := eq_true p245
 replace q245 := eq_true q245
 refine start_ (n := 51) (S := fun w' => w'.cell? (ad244.add ((x3_2).toNat * 3)) = some (.int .i64 ((rd_T71 l0_2 x3_2).f0)) ∧ w'.cell? ⟨(ad244.add ((x3_2).toNat * 3)).block, (ad244.add ((x3_2).toNat * 3)).off + 1, none⟩ = some (.int .i64 ((rd_T71 l0_2 x3_2).f1)) ∧ w'.cell? ⟨(ad244.add ((x3_2).toNat * 3)).block, (ad244.add ((x3_2).toNat * 3)).off + 2, none⟩ = some (.int .i64 ((rd_T71 l0_2 x3_2).f2))) (ds := []) m0_ s2_ rfl rfl ⟨((HB.out.cell (World.block_lt_of_cell? w _ hw245_0)).trans hw245_0), ((HB.out.cell (World.block_lt_of_cell? w _ hw245_1)).trans hw245_1), ((HB.out.cell (World.block_lt_of_cell? w _ hw245_2)).trans hw245_2)⟩ (fun hHeld => ?_); refine with_tabW spec_l02Is.tab7 spec_l02Is.bits7 (fun HT_ HW_ => ?_)
 generalize wr.drew = w32 at BK0 HB hx245_0 hx245_1 hx245_2 hHeld ⊢
 refine pu_ 0 41 m1_ (any_of HT_.out s2_) ?_
 refine pu_ 1 42 m2_ (any_of HT_.out s2_) ?_
 refine pu_ 2 43 m3_ (any_of HT_.out s2_) ?_
 refine take_ (i := 3) (N := some 44) (v := ?_) (a' := ?_) m4_ rfl rfl (take_ofW HT_.out HW_.out s2_) (fun _ _ _ h => h) (Or.inl ⟨by rfl, ?_⟩) hHeld ?_ ?_
 rotate_left
 {
 rintro w' ⟨s0, s1, s2⟩
 go_simp
 with_reducible rfl}
 rotate_left
 · exact p1_
 refine one_ (i := 4) (N := some 45) m5_ rfl rfl (one_of HT_.out s2_) (by decide) (fun K hK => ?_)
 refine goes_ Try.func40 s2_ rfl #[.int .i64 ((rd_T71 l0_2 x3_2).f0)] (by rfl) rfl rfl s3_ ?_
 with_reducible refine (spec_l02Id.calls ((rd_T71 l0_2 x3_2).f0) true _ A16.out).mono ?_
 rintro e w' ⟨rfl, ⟨nd, rfl⟩⟩
 refine ⟨_, rfl, ?_⟩
 refine hK.out _ _ ⟨((HB.out.cell (World.block_lt_of_cell? w _ hw245_0)).trans hw245_0), ((HB.out.cell (World.block_lt_of_cell? w _ hw245_1)).trans hw245_1), ((HB.out.cell (World.block_lt_of_cell? w _ hw245_2)).trans hw245_2)⟩ (fun hHeld => ?_)
 clear hK K
 refine norm_ (a' := ?_) ?_ ?_
 rotate_left
 {
 show Act.put _ (some 45) _ = _
 simp only [Act.put, List.setIfInBounds_toArray, List.set_cons_zero, List.set_cons_succ, i64_w, i32_w]
 rfl}
 refine pu_ 5 46 m6_ (any_of HT_.out s2_) ?_
 refine pu_ 6 47 m7_ (any_of HT_.out s2_) ?_
 refine pu_ 7 48 m8_ (any_of HT_.out s2_) ?_
 refine pu_ 8 49 m9_ (any_of HT_.out s2_) ?_
 refine pu_ 9 50 m10_ (any_of HT_.out s2_) ?_
 refine take_ (i := 10) (N := some 51) (v := ?_) (a' := ?_) m11_ rfl rfl (take_ofW HT_.out HW_.out s2_) (fun _ _ _ h => h) (Or.inl ⟨by rfl, ?_⟩) hHeld ?_ ?_
 rotate_left
 {
 rintro w' ⟨s0, s1, s2⟩
 go_simp
 with_reducible rfl}
 rotate_left
 · exact p1_
 refine one_ (i := 11) (N := some 52) m12_ rfl rfl (one_of HT_.out s2_) (by decide) (fun K hK => ?_)
 refine goes_ Try.func40 s2_ rfl #[.int .i64 ((rd_T71 l0_2 x3_2).f1)] (by rfl) rfl rfl s3_ ?_
 with_reducible refine (spec_l02Id.calls ((rd_T71 l0_2 x3_2).f1) true _ A18.out).mono ?_
 rintro e w' ⟨rfl, ⟨nd, rfl⟩⟩
 refine ⟨_, rfl, ?_⟩
 refine hK.out _ _ ⟨((HB.out.cell (World.block_lt_of_cell? w _ hw245_0)).trans hw245_0), ((HB.out.cell (World.block_lt_of_cell? w _ hw245_1)).trans hw245_1), ((HB.out.cell (World.block_lt_of_cell? w _ hw245_2)).trans hw245_2)⟩ (fun hHeld => ?_)
 clear hK K
 refine norm_ (a' := ?_) ?_ ?_
 rotate_left
 {
 show Act.put _ (some 52) _ = _
 simp only [Act.put, List.setIfInBounds_toArray, List.set_cons_zero, List.set_cons_succ, i64_w, i32_w]
 rfl}
 refine pu_ 12 53 m13_ (any_of HT_.out s2_) ?_
 refine pu_ 13 54 m14_ (any_of HT_.out s2_) ?_
 refine pu_ 14 55 m15_ (any_of HT_.out s2_) ?_
 refine pu_ 15 56 m16_ (any_of HT_.out s2_) ?_
 refine pu_ 16 57 m17_ (any_of HT_.out s2_) ?_
 refine pu_ 17 58 m18_ (any_of HT_.out s2_) ?_
 refine take_ (i := 18) (N := some 59) (v := ?_) (a' := ?_) m19_ rfl rfl (take_ofW HT_.out HW_.out s2_) (fun _ _ _ h => h) (Or.inl ⟨by rfl, ?_⟩) hHeld ?_ ?_
 rotate_left
 {
 rintro w' ⟨s0, s1, s2⟩
 go_simp
 with_reducible rfl}
 rotate_left
 · exact p1_
 refine one_ (i := 19) (N := some 60) m20_ rfl rfl (one_of HT_.out s2_) (by decide) (fun K hK => ?_)
 refine goes_ Try.func41 s2_ rfl #[.int .i64 ((rd_T71 l0_2 x3_2).f2)] (by rfl) rfl rfl s3_ ?_
 with_reducible refine (spec_l02Tick.calls ((rd_T71 l0_2 x3_2).f2) true _ A20.out).mono ?_
 rintro e w' ⟨rfl, ⟨nd, rfl⟩⟩
 refine ⟨_, rfl, ?_⟩
 refine hK.out _ _ ⟨((HB.out.cell (World.block_lt_of_cell? w _ hw245_0)).trans hw245_0), ((HB.out.cell (World.block_lt_of_cell? w _ hw245_1)).trans hw245_1), ((HB.out.cell (World.block_lt_of_cell? w _ hw245_2)).trans hw245_2)⟩ (fun hHeld => ?_)
 clear hK K
 refine norm_ (a' := ?_) ?_ ?_
 rotate_left
 {
 show Act.put _ (some 60) _ = _
 simp only [Act.put, List.setIfInBounds_toArray, List.set_cons_zero, List.set_cons_succ, i64_w, i32_w]
 rfl}
 refine pu_ 20 61 m21_ (any_of HT_.out s2_) ?_
 refine pu_ 21 62 m22_ (any_of HT_.out s2_) ?_
 refine pu_ 22 63 m23_ (any_of HT_.out s2_) ?_
 refine pu_ 23 64 m24_ (any_of HT_.out s2_) ?_
 refine pu_ 24 65 m25_ (any_of HT_.out s2_) ?_
 refine pu_ 25 66 m26_ (any_of HT_.out s2_) ?_
 refine pn_ 26 67 m27_ (any_of HT_.out s2_) ?_
 refine pn_ 27 68 m28_ (any_of HT_.out s2_) ?_
 refine pn_ 28 69 m29_ (any_of HT_.out s2_) ?_
 refine pn_ 29 70 m52_ (any_of HT_.out s2_) ?_
 refine pn_ 30 71 m53_ (any_of HT_.out s2_) ?_
 refine pn_ 31 72 m54_ (any_of HT_.out s2_) ?_
 refine pn_ 32 73 m55_ (any_of HT_.out s2_) ?_
 refine pn_ 33 74 m56_ (any_of HT_.out s2_) ?_
 refine pn_ 34 75 m57_ (any_of HT_.out s2_) ?_
 refine pn_ 35 76 m58_ (any_of HT_.out s2_) ?_
 refine pn_ 36 77 m59_ (any_of HT_.out s2_) ?_
 refine pn_ 37 78 m38_ (any_of HT_.out s2_) ?_
 refine pn_ 38 79 m39_ (any_of HT_.out s2_) ?_
 refine pn_ 39 80 m40_ (any_of HT_.out s2_) ?_
 refine pu_ 40 81 m41_ (any_of HT_.out s2_) ?_
 refine pu_ 41 82 m42_ (any_of HT_.out s2_) ?_
 refine pu_ 42 83 m43_ (any_of HT_.out s2_) ?_
 refine pu_ 43 84 m44_ (any_of HT_.out s2_) ?_
 refine pu_ 44 85 m45_ (any_of HT_.out s2_) ?_
 refine pu_ 45 86 m46_ (any_of HT_.out s2_) ?_
 refine pu_ 46 87 m47_ (any_of HT_.out s2_) ?_
 refine take_ (i := 47) (N := some 88) (v := ?_) (a' := ?_) m48_ rfl rfl (take_ofW HT_.out HW_.out s2_) (fun _ _ _ h => h) (Or.inl ⟨by rfl, ?_⟩) hHeld ?_ ?_
 rotate_left
 {
 rintro w' ⟨s0, s1, s2⟩
 go_simp
 with_reducible rfl}
 rotate_left
 · exact p1_
 refine one_ (i := 48) (N := some 89) m49_ rfl rfl (one_of HT_.out s2_) (by decide) (fun K hK => ?_)
 refine goes_ Try.func58 s2_ rfl #[.pointer (some ⟨g0_, 0, none⟩), .int .i64 ((rd_T71 l0_2 x3_2).f0)] (by rfl) rfl rfl s3_ ?_
 with_reducible refine (spec_l02Find.calls k2 g0_ x1000_2 A0_1 c0_1 l0_1 (some ad244) c0_2 l0_2 A0_3 c0_3 l0_3 ((rd_T71 l0_2 x3_2).f0) t251 _ ?side1 ?side2 ?side3 ?side4 ?side5 ?side6 ?side7 A31.out).mono ?_
 (case side1 => exact (b1_ BK0.out))
 (case side2 => repeat (first | exact (Kd.C_below HR0_1.out (by repeat (first | (with_reducible first | exact HB.out | apply below_alloc | apply pw_below_drewN | apply below_drew1 | refine below_set ?_ GE0.out) | exact HB.out))) | (with_reducible refine Kd.C_alloc ?_ _) | (with_reducible refine Kd.C_drewN ?_ _) | (with_reducible refine Kd.C_drew ?_)))
 (case side3 => exact HC0_1.out)
 (case side4 => repeat (first | exact (Kd.C_below HR0_2.out (by repeat (first | (with_reducible first | exact HB.out | apply below_alloc | apply pw_below_drewN | apply below_drew1 | refine below_set ?_ GE0.out) | exact HB.out))) | (with_reducible refine Kd.C_alloc ?_ _) | (with_reducible refine Kd.C_drewN ?_ _) | (with_reducible refine Kd.C_drew ?_)))
 (case side5 => exact HC0_2.out)
 (case side6 => repeat (first | exact (Kd.C_below HR0_3.out (by repeat (first | (with_reducible first | exact HB.out | apply below_alloc | apply pw_below_drewN | apply below_drew1 | refine below_set ?_ GE0.out) | exact HB.out))) | (with_reducible refine Kd.C_alloc ?_ _) | (with_reducible refine Kd.C_drewN ?_ _) | (with_reducible refine Kd.C_drew ?_)))
 (case side7 => exact HC0_3.out)
 rintro e w33 ⟨rfl, hb⟩
 refine ⟨_, rfl, ?_⟩
 have n0_ := Aside0.mk (blk_below (g := g0_) (o := .cells #[.bool x1000_2, .slice A0_1 l0_1.length c0_1, .slice (some ad244) l0_2.length c0_2, .slice A0_3 l0_3.length c0_3] 28 (0, 0)) (b1_ BK0.out) hb)
 have n1_ := Aside0.mk (below_step (by repeat (first | (with_reducible first | exact HB.out | apply below_alloc | apply pw_below_drewN | apply below_drew1 | refine below_set ?_ GE0.out) | exact HB.out)) hb)
 clear BK0
 clear HB
 have BK0 := n0_
 have HB := n1_
 clear n0_ n1_
 (try clear hb)
 (try clear hb2)
 (try clear hk)
 (try clear hi)
 refine hK.out _ _ ⟨((HB.out.cell (World.block_lt_of_cell? w _ hw245_0)).trans hw245_0), ((HB.out.cell (World.block_lt_of_cell? w _ hw245_1)).trans hw245_1), ((HB.out.cell (World.block_lt_of_cell? w _ hw245_2)).trans hw245_2)⟩ (fun hHeld => ?_)
 clear hK K
 refine norm_ (a' := ?_) ?_ ?_
 rotate_left
 {
 show Act.put _ (some 89) _ = _
 simp only [Act.put, List.setIfInBounds_toArray, List.set_cons_zero, List.set_cons_succ, i64_w, i32_w]
 rfl}
 refine pu_ 49 90 m50_ (any_of HT_.out s2_) ?_
 refine pu_ 50 91 m51_ (any_of HT_.out s2_) ?_
 refine done_ (done_of HT_.out s2_) ?_
 try go_wp2
 go_meet
 case rel => exact ⟨_, (decide (t251 ≥ 0)), (x1000_2), s1_, H', ⟨by have := HJ1.out; have := HK2.out; first | omega | exact Nat.le_refl _⟩, ⟨b1_ BK0.out⟩, ⟨by repeat (first | (with_reducible first | exact HB.out | apply below_alloc | apply pw_below_drewN | apply below_drew1 | refine below_set ?_ GE0.out) | exact HB.out)⟩⟩}}
 {
 replace c21 := Bool.eq_false_iff.mpr c21
 subst c21
 have H1 : (spec_l02Is.j2 k2 x3_2 true x1000_2 l0_1 l0_2 l0_3) = some r := by rw [if_neg (show ¬ (false = true) by decide)] at H; exact H
 clear H
 have H := H1
 clear H1
 have H' := Aside0.mk H
 clear H
 try go_wp2
 have n0_ := Aside0.mk (blk_drew BK0.out)
 have n1_ := Aside0.mk (below_drew1 HB.out)
 clear BK0
 clear HB
 have BK0 := n0_
 have HB := n1_
 clear n0_ n1_
 have p245 : 0 ≤ (x3_2 : Int) := of_decide_eq_true (by first | (with_reducible assumption) | assumption)
 have q245 : x3_2 < (l0_2.length : Int) := of_decide_eq_true (by first | (with_reducible assumption) | assumption)
 obtain ⟨ad245, e245, hx245_0, hx245_1, hx245_2⟩ := at_T71 HR0_2.out x3_2 p245 q245
 have hw245_2 := hx245_2
 have hw245_1 := hx245_1
 have hw245_0 := hx245_0
 obtain rfl : ad244 = ad245 := (by injection e245)
 replace hx245_0 := (HB.out.cell (World.block_lt_of_cell? w _ hx245_0)).trans hx245_0
 replace hx245_1 := (HB.out.cell (World.block_lt_of_cell? w _ hx245_1)).trans hx245_1
 replace hx245_2 := (HB.out.cell (World.block_lt_of_cell? w _ hx245_2)).trans hx245_2
 replace p245 := eq_true p245
 replace q245 := eq_true q245
 refine start_ (n := 51) (S := fun w' => w'.cell? (ad244.add ((x3_2).toNat * 3)) = some (.int .i64 ((rd_T71 l0_2 x3_2).f0)) ∧ w'.cell? ⟨(ad244.add ((x3_2).toNat * 3)).block, (ad244.add ((x3_2).toNat * 3)).off + 1, none⟩ = some (.int .i64 ((rd_T71 l0_2 x3_2).f1)) ∧ w'.cell? ⟨(ad244.add ((x3_2).toNat * 3)).block, (ad244.add ((x3_2).toNat * 3)).off + 2, none⟩ = some (.int .i64 ((rd_T71 l0_2 x3_2).f2))) (ds := []) m0_ s2_ rfl rfl ⟨((HB.out.cell (World.block_lt_of_cell? w _ hw245_0)).trans hw245_0), ((HB.out.cell (World.block_lt_of_cell? w _ hw245_1)).trans hw245_1), ((HB.out.cell (World.block_lt_of_cell? w _ hw245_2)).trans hw245_2)⟩ (fun hHeld => ?_); refine with_tabW spec_l02Is.tab7 spec_l02Is.bits7 (fun HT_ HW_ => ?_)
 generalize wr.drew = w34 at BK0 HB hx245_0 hx245_1 hx245_2 hHeld ⊢
 refine pu_ 0 41 m1_ (any_of HT_.out s2_) ?_
 refine pu_ 1 42 m2_ (any_of HT_.out s2_) ?_
 refine pu_ 2 43 m3_ (any_of HT_.out s2_) ?_
 refine take_ (i := 3) (N := some 44) (v := ?_) (a' := ?_) m4_ rfl rfl (take_ofW HT_.out HW_.out s2_) (fun _ _ _ h => h) (Or.inl ⟨by rfl, ?_⟩) hHeld ?_ ?_
 rotate_left
 {
 rintro w' ⟨s0, s1, s2⟩
 go_simp
 with_reducible rfl}
 rotate_left
 · exact p1_
 refine one_ (i := 4) (N := some 45) m5_ rfl rfl (one_of HT_.out s2_) (by decide) (fun K hK => ?_)
 refine goes_ Try.func40 s2_ rfl #[.int .i64 ((rd_T71 l0_2 x3_2).f0)] (by rfl) rfl rfl s3_ ?_
 with_reducible refine (spec_l02Id.calls ((rd_T71 l0_2 x3_2).f0) true _ A16.out).mono ?_
 rintro e w' ⟨rfl, ⟨nd, rfl⟩⟩
 refine ⟨_, rfl, ?_⟩
 refine hK.out _ _ ⟨((HB.out.cell (World.block_lt_of_cell? w _ hw245_0)).trans hw245_0), ((HB.out.cell (World.block_lt_of_cell? w _ hw245_1)).trans hw245_1), ((HB.out.cell (World.block_lt_of_cell? w _ hw245_2)).trans hw245_2)⟩ (fun hHeld => ?_)
 clear hK K
 refine norm_ (a' := ?_) ?_ ?_
 rotate_left
 {
 show Act.put _ (some 45) _ = _
 simp only [Act.put, List.setIfInBounds_toArray, List.set_cons_zero, List.set_cons_succ, i64_w, i32_w]
 rfl}
 refine pu_ 5 46 m6_ (any_of HT_.out s2_) ?_
 refine pu_ 6 47 m7_ (any_of HT_.out s2_) ?_
 refine pu_ 7 48 m8_ (any_of HT_.out s2_) ?_
 refine pu_ 8 49 m9_ (any_of HT_.out s2_) ?_
 refine pu_ 9 50 m10_ (any_of HT_.out s2_) ?_
 refine take_ (i := 10) (N := some 51) (v := ?_) (a' := ?_) m11_ rfl rfl (take_ofW HT_.out HW_.out s2_) (fun _ _ _ h => h) (Or.inl ⟨by rfl, ?_⟩) hHeld ?_ ?_
 rotate_left
 {
 rintro w' ⟨s0, s1, s2⟩
 go_simp
 with_reducible rfl}
 rotate_left
 · exact p1_
 refine one_ (i := 11) (N := some 52) m12_ rfl rfl (one_of HT_.out s2_) (by decide) (fun K hK => ?_)
 refine goes_ Try.func40 s2_ rfl #[.int .i64 ((rd_T71 l0_2 x3_2).f1)] (by rfl) rfl rfl s3_ ?_
 with_reducible refine (spec_l02Id.calls ((rd_T71 l0_2 x3_2).f1) true _ A18.out).mono ?_
 rintro e w' ⟨rfl, ⟨nd, rfl⟩⟩
 refine ⟨_, rfl, ?_⟩
 refine hK.out _ _ ⟨((HB.out.cell (World.block_lt_of_cell? w _ hw245_0)).trans hw245_0), ((HB.out.cell (World.block_lt_of_cell? w _ hw245_1)).trans hw245_1), ((HB.out.cell (World.block_lt_of_cell? w _ hw245_2)).trans hw245_2)⟩ (fun hHeld => ?_)
 clear hK K
 refine norm_ (a' := ?_) ?_ ?_
 rotate_left
 {
 show Act.put _ (some 52) _ = _
 simp only [Act.put, List.setIfInBounds_toArray, List.set_cons_zero, List.set_cons_succ, i64_w, i32_w]
 rfl}
 refine pu_ 12 53 m13_ (any_of HT_.out s2_) ?_
 refine pu_ 13 54 m14_ (any_of HT_.out s2_) ?_
 refine pu_ 14 55 m15_ (any_of HT_.out s2_) ?_
 refine pu_ 15 56 m16_ (any_of HT_.out s2_) ?_
 refine pu_ 16 57 m17_ (any_of HT_.out s2_) ?_
 refine pu_ 17 58 m18_ (any_of HT_.out s2_) ?_
 refine take_ (i := 18) (N := some 59) (v := ?_) (a' := ?_) m19_ rfl rfl (take_ofW HT_.out HW_.out s2_) (fun _ _ _ h => h) (Or.inl ⟨by rfl, ?_⟩) hHeld ?_ ?_
 rotate_left
 {
 rintro w' ⟨s0, s1, s2⟩
 go_simp
 with_reducible rfl}
 rotate_left
 · exact p1_
 refine one_ (i := 19) (N := some 60) m20_ rfl rfl (one_of HT_.out s2_) (by decide) (fun K hK => ?_)
 refine goes_ Try.func41 s2_ rfl #[.int .i64 ((rd_T71 l0_2 x3_2).f2)] (by rfl) rfl rfl s3_ ?_
 with_reducible refine (spec_l02Tick.calls ((rd_T71 l0_2 x3_2).f2) false _ A20.out).mono ?_
 rintro e w' ⟨rfl, ⟨nd, rfl⟩⟩
 refine ⟨_, rfl, ?_⟩
 refine hK.out _ _ ⟨((HB.out.cell (World.block_lt_of_cell? w _ hw245_0)).trans hw245_0), ((HB.out.cell (World.block_lt_of_cell? w _ hw245_1)).trans hw245_1), ((HB.out.cell (World.block_lt_of_cell? w _ hw245_2)).trans hw245_2)⟩ (fun hHeld => ?_)
 clear hK K
 refine norm_ (a' := ?_) ?_ ?_
 rotate_left
 {
 show Act.put _ (some 60) _ = _
 simp only [Act.put, List.setIfInBounds_toArray, List.set_cons_zero, List.set_cons_succ, i64_w, i32_w]
 rfl}
 refine pu_ 20 61 m21_ (any_of HT_.out s2_) ?_
 refine pu_ 21 62 m22_ (any_of HT_.out s2_) ?_
 refine pu_ 22 63 m23_ (any_of HT_.out s2_) ?_
 refine pn_ 23 64 m24_ (any_of HT_.out s2_) ?_
 refine pn_ 24 65 m25_ (any_of HT_.out s2_) ?_
 refine pn_ 25 66 m26_ (any_of HT_.out s2_) ?_
 refine pn_ 26 67 m27_ (any_of HT_.out s2_) ?_
 refine pn_ 27 68 m28_ (any_of HT_.out s2_) ?_
 refine pn_ 28 69 m29_ (any_of HT_.out s2_) ?_
 refine pn_ 29 70 m52_ (any_of HT_.out s2_) ?_
 refine pn_ 30 71 m53_ (any_of HT_.out s2_) ?_
 refine pn_ 31 72 m54_ (any_of HT_.out s2_) ?_
 refine pn_ 32 73 m55_ (any_of HT_.out s2_) ?_
 refine pn_ 33 74 m56_ (any_of HT_.out s2_) ?_
 refine pn_ 34 75 m57_ (any_of HT_.out s2_) ?_
 refine pn_ 35 76 m58_ (any_of HT_.out s2_) ?_
 refine pn_ 36 77 m59_ (any_of HT_.out s2_) ?_
 refine pn_ 37 78 m38_ (any_of HT_.out s2_) ?_
 refine pn_ 38 79 m39_ (any_of HT_.out s2_) ?_
 refine pn_ 39 80 m40_ (any_of HT_.out s2_) ?_
 refine pn_ 40 81 m41_ (any_of HT_.out s2_) ?_
 refine pu_ 41 82 m42_ (any_of HT_.out s2_) ?_
 refine pu_ 42 83 m43_ (any_of HT_.out s2_) ?_
 refine pn_ 43 84 m44_ (any_of HT_.out s2_) ?_
 refine pn_ 44 85 m45_ (any_of HT_.out s2_) ?_
 refine pn_ 45 86 m46_ (any_of HT_.out s2_) ?_
 refine pn_ 46 87 m47_ (any_of HT_.out s2_) ?_
 refine pn_ 47 88 m48_ (any_of HT_.out s2_) ?_
 refine pn_ 48 89 m49_ (any_of HT_.out s2_) ?_
 refine pn_ 49 90 m50_ (any_of HT_.out s2_) ?_
 refine pu_ 50 91 m51_ (any_of HT_.out s2_) ?_
 refine done_ (done_of HT_.out s2_) ?_
 try go_wp2
 go_meet
 case rel => exact ⟨_, (true), (x1000_2), s1_, H', ⟨by have := HJ1.out; have := HK2.out; first | omega | exact Nat.le_refl _⟩, ⟨b1_ BK0.out⟩, ⟨by repeat (first | (with_reducible first | exact HB.out | apply below_alloc | apply pw_below_drewN | apply below_drew1 | refine below_set ?_ GE0.out) | exact HB.out)⟩⟩}}
 {
 replace c19 := Bool.eq_false_iff.mpr c19
 subst c19
 have H1 : (spec_l02Is.j2 k2 x3_2 true x1000_2 l0_1 l0_2 l0_3) = some r := by rw [if_neg (show ¬ (false = true) by decide)] at H; exact H
 clear H
 have H := H1
 clear H1
 have H' := Aside0.mk H
 clear H
 try go_wp2
 have n0_ := Aside0.mk (blk_drew BK0.out)
 have n1_ := Aside0.mk (below_drew1 HB.out)
 clear BK0
 clear HB
 have BK0 := n0_
 have HB := n1_
 clear n0_ n1_
 have p245 : 0 ≤ (x3_2 : Int) := of_decide_eq_true (by first | (with_reducible assumption) | assumption)
 have q245 : x3_2 < (l0_2.length : Int) := of_decide_eq_true (by first | (with_reducible assumption) | assumption)
 obtain ⟨ad245, e245, hx245_0, hx245_1, hx245_2⟩ := at_T71 HR0_2.out x3_2 p245 q245
 have hw245_2 := hx245_2
 have hw245_1 := hx245_1
 have hw245_0 := hx245_0
 obtain rfl : ad244 = ad245 := (by injection e245)
 replace hx245_0 := (HB.out.cell (World.block_lt_of_cell? w _ hx245_0)).trans hx245_0
 replace hx245_1 := (HB.out.cell (World.block_lt_of_cell? w _ hx245_1)).trans hx245_1
 replace hx245_2 := (HB.out.cell (World.block_lt_of_cell? w _ hx245_2)).trans hx245_2
 replace p245 := eq_true p245
 replace q245 := eq_true q245
 refine start_ (n := 51) (S := fun w' => w'.cell? (ad244.add ((x3_2).toNat * 3)) = some (.int .i64 ((rd_T71 l0_2 x3_2).f0)) ∧ w'.cell? ⟨(ad244.add ((x3_2).toNat * 3)).block, (ad244.add ((x3_2).toNat * 3)).off + 1, none⟩ = some (.int .i64 ((rd_T71 l0_2 x3_2).f1)) ∧ w'.cell? ⟨(ad244.add ((x3_2).toNat * 3)).block, (ad244.add ((x3_2).toNat * 3)).off + 2, none⟩ = some (.int .i64 ((rd_T71 l0_2 x3_2).f2))) (ds := []) m0_ s2_ rfl rfl ⟨((HB.out.cell (World.block_lt_of_cell? w _ hw245_0)).trans hw245_0), ((HB.out.cell (World.block_lt_of_cell? w _ hw245_1)).trans hw245_1), ((HB.out.cell (World.block_lt_of_cell? w _ hw245_2)).trans hw245_2)⟩ (fun hHeld => ?_); refine with_tabW spec_l02Is.tab7 spec_l02Is.bits7 (fun HT_ HW_ => ?_)
 generalize wr.drew = w35 at BK0 HB hx245_0 hx245_1 hx245_2 hHeld ⊢
 refine pu_ 0 41 m1_ (any_of HT_.out s2_) ?_
 refine pu_ 1 42 m2_ (any_of HT_.out s2_) ?_
 refine pu_ 2 43 m3_ (any_of HT_.out s2_) ?_
 refine take_ (i := 3) (N := some 44) (v := ?_) (a' := ?_) m4_ rfl rfl (take_ofW HT_.out HW_.out s2_) (fun _ _ _ h => h) (Or.inl ⟨by rfl, ?_⟩) hHeld ?_ ?_
 rotate_left
 {
 rintro w' ⟨s0, s1, s2⟩
 go_simp
 with_reducible rfl}
 rotate_left
 · exact p1_
 refine one_ (i := 4) (N := some 45) m5_ rfl rfl (one_of HT_.out s2_) (by decide) (fun K hK => ?_)
 refine goes_ Try.func40 s2_ rfl #[.int .i64 ((rd_T71 l0_2 x3_2).f0)] (by rfl) rfl rfl s3_ ?_
 with_reducible refine (spec_l02Id.calls ((rd_T71 l0_2 x3_2).f0) true _ A16.out).mono ?_
 rintro e w' ⟨rfl, ⟨nd, rfl⟩⟩
 refine ⟨_, rfl, ?_⟩
 refine hK.out _ _ ⟨((HB.out.cell (World.block_lt_of_cell? w _ hw245_0)).trans hw245_0), ((HB.out.cell (World.block_lt_of_cell? w _ hw245_1)).trans hw245_1), ((HB.out.cell (World.block_lt_of_cell? w _ hw245_2)).trans hw245_2)⟩ (fun hHeld => ?_)
 clear hK K
 refine norm_ (a' := ?_) ?_ ?_
 rotate_left
 {
 show Act.put _ (some 45) _ = _
 simp only [Act.put, List.setIfInBounds_toArray, List.set_cons_zero, List.set_cons_succ, i64_w, i32_w]
 rfl}
 refine pu_ 5 46 m6_ (any_of HT_.out s2_) ?_
 refine pu_ 6 47 m7_ (any_of HT_.out s2_) ?_
 refine pu_ 7 48 m8_ (any_of HT_.out s2_) ?_
 refine pu_ 8 49 m9_ (any_of HT_.out s2_) ?_
 refine pu_ 9 50 m10_ (any_of HT_.out s2_) ?_
 refine take_ (i := 10) (N := some 51) (v := ?_) (a' := ?_) m11_ rfl rfl (take_ofW HT_.out HW_.out s2_) (fun _ _ _ h => h) (Or.inl ⟨by rfl, ?_⟩) hHeld ?_ ?_
 rotate_left
 {
 rintro w' ⟨s0, s1, s2⟩
 go_simp
 with_reducible rfl}
 rotate_left
 · exact p1_
 refine one_ (i := 11) (N := some 52) m12_ rfl rfl (one_of HT_.out s2_) (by decide) (fun K hK => ?_)
 refine goes_ Try.func40 s2_ rfl #[.int .i64 ((rd_T71 l0_2 x3_2).f1)] (by rfl) rfl rfl s3_ ?_
 with_reducible refine (spec_l02Id.calls ((rd_T71 l0_2 x3_2).f1) false _ A18.out).mono ?_
 rintro e w' ⟨rfl, ⟨nd, rfl⟩⟩
 refine ⟨_, rfl, ?_⟩
 refine hK.out _ _ ⟨((HB.out.cell (World.block_lt_of_cell? w _ hw245_0)).trans hw245_0), ((HB.out.cell (World.block_lt_of_cell? w _ hw245_1)).trans hw245_1), ((HB.out.cell (World.block_lt_of_cell? w _ hw245_2)).trans hw245_2)⟩ (fun hHeld => ?_)
 clear hK K
 refine norm_ (a' := ?_) ?_ ?_
 rotate_left
 {
 show Act.put _ (some 52) _ = _
 simp only [Act.put, List.setIfInBounds_toArray, List.set_cons_zero, List.set_cons_succ, i64_w, i32_w]
 rfl}
 refine pu_ 12 53 m13_ (any_of HT_.out s2_) ?_
 refine pu_ 13 54 m14_ (any_of HT_.out s2_) ?_
 refine pu_ 14 55 m15_ (any_of HT_.out s2_) ?_
 refine pn_ 15 56 m16_ (any_of HT_.out s2_) ?_
 refine pn_ 16 57 m17_ (any_of HT_.out s2_) ?_
 refine pn_ 17 58 m18_ (any_of HT_.out s2_) ?_
 refine pn_ 18 59 m19_ (any_of HT_.out s2_) ?_
 refine pn_ 19 60 m20_ (any_of HT_.out s2_) ?_
 refine pn_ 20 61 m21_ (any_of HT_.out s2_) ?_
 refine pu_ 21 62 m22_ (any_of HT_.out s2_) ?_
 refine pu_ 22 63 m23_ (any_of HT_.out s2_) ?_
 refine pn_ 23 64 m24_ (any_of HT_.out s2_) ?_
 refine pn_ 24 65 m25_ (any_of HT_.out s2_) ?_
 refine pn_ 25 66 m26_ (any_of HT_.out s2_) ?_
 refine pn_ 26 67 m27_ (any_of HT_.out s2_) ?_
 refine pn_ 27 68 m28_ (any_of HT_.out s2_) ?_
 refine pn_ 28 69 m29_ (any_of HT_.out s2_) ?_
 refine pn_ 29 70 m52_ (any_of HT_.out s2_) ?_
 refine pn_ 30 71 m53_ (any_of HT_.out s2_) ?_
 refine pn_ 31 72 m54_ (any_of HT_.out s2_) ?_
 refine pn_ 32 73 m55_ (any_of HT_.out s2_) ?_
 refine pn_ 33 74 m56_ (any_of HT_.out s2_) ?_
 refine pn_ 34 75 m57_ (any_of HT_.out s2_) ?_
 refine pn_ 35 76 m58_ (any_of HT_.out s2_) ?_
 refine pn_ 36 77 m59_ (any_of HT_.out s2_) ?_
 refine pn_ 37 78 m38_ (any_of HT_.out s2_) ?_
 refine pn_ 38 79 m39_ (any_of HT_.out s2_) ?_
 refine pn_ 39 80 m40_ (any_of HT_.out s2_) ?_
 refine pn_ 40 81 m41_ (any_of HT_.out s2_) ?_
 refine pu_ 41 82 m42_ (any_of HT_.out s2_) ?_
 refine pu_ 42 83 m43_ (any_of HT_.out s2_) ?_
 refine pn_ 43 84 m44_ (any_of HT_.out s2_) ?_
 refine pn_ 44 85 m45_ (any_of HT_.out s2_) ?_
 refine pn_ 45 86 m46_ (any_of HT_.out s2_) ?_
 refine pn_ 46 87 m47_ (any_of HT_.out s2_) ?_
 refine pn_ 47 88 m48_ (any_of HT_.out s2_) ?_
 refine pn_ 48 89 m49_ (any_of HT_.out s2_) ?_
 refine pn_ 49 90 m50_ (any_of HT_.out s2_) ?_
 refine pu_ 50 91 m51_ (any_of HT_.out s2_) ?_
 refine done_ (done_of HT_.out s2_) ?_
 try go_wp2
 go_meet
 case rel => exact ⟨_, (true), (x1000_2), s1_, H', ⟨by have := HJ1.out; have := HK2.out; first | omega | exact Nat.le_refl _⟩, ⟨b1_ BK0.out⟩, ⟨by repeat (first | (with_reducible first | exact HB.out | apply below_alloc | apply pw_below_drewN | apply below_drew1 | refine below_set ?_ GE0.out) | exact HB.out)⟩⟩}}
 {
 replace c17 := Bool.eq_false_iff.mpr c17
 subst c17
 have H1 : (spec_l02Is.j2 k2 x3_2 true x1000_2 l0_1 l0_2 l0_3) = some r := by rw [if_neg (show ¬ (false = true) by decide)] at H; exact H
 clear H
 have H := H1
 clear H1
 have H' := Aside0.mk H
 clear H
 try go_wp2
 have n0_ := Aside0.mk (blk_drew BK0.out)
 have n1_ := Aside0.mk (below_drew1 HB.out)
 clear BK0
 clear HB
 have BK0 := n0_
 have HB := n1_
 clear n0_ n1_
 have p245 : 0 ≤ (x3_2 : Int) := of_decide_eq_true (by first | (with_reducible assumption) | assumption)
 have q245 : x3_2 < (l0_2.length : Int) := of_decide_eq_true (by first | (with_reducible assumption) | assumption)
 obtain ⟨ad245, e245, hx245_0, hx245_1, hx245_2⟩ := at_T71 HR0_2.out x3_2 p245 q245
 have hw245_2 := hx245_2
 have hw245_1 := hx245_1
 have hw245_0 := hx245_0
 obtain rfl : ad244 = ad245 := (by injection e245)
 replace hx245_0 := (HB.out.cell (World.block_lt_of_cell? w _ hx245_0)).trans hx245_0
 replace hx245_1 := (HB.out.cell (World.block_lt_of_cell? w _ hx245_1)).trans hx245_1
 replace hx245_2 := (HB.out.cell (World.block_lt_of_cell? w _ hx245_2)).trans hx245_2
 replace p245 := eq_true p245
 replace q245 := eq_true q245
 refine start_ (n := 51) (S := fun w' => w'.cell? (ad244.add ((x3_2).toNat * 3)) = some (.int .i64 ((rd_T71 l0_2 x3_2).f0)) ∧ w'.cell? ⟨(ad244.add ((x3_2).toNat * 3)).block, (ad244.add ((x3_2).toNat * 3)).off + 1, none⟩ = some (.int .i64 ((rd_T71 l0_2 x3_2).f1)) ∧ w'.cell? ⟨(ad244.add ((x3_2).toNat * 3)).block, (ad244.add ((x3_2).toNat * 3)).off + 2, none⟩ = some (.int .i64 ((rd_T71 l0_2 x3_2).f2))) (ds := []) m0_ s2_ rfl rfl ⟨((HB.out.cell (World.block_lt_of_cell? w _ hw245_0)).trans hw245_0), ((HB.out.cell (World.block_lt_of_cell? w _ hw245_1)).trans hw245_1), ((HB.out.cell (World.block_lt_of_cell? w _ hw245_2)).trans hw245_2)⟩ (fun hHeld => ?_); refine with_tabW spec_l02Is.tab7 spec_l02Is.bits7 (fun HT_ HW_ => ?_)
 generalize wr.drew = w36 at BK0 HB hx245_0 hx245_1 hx245_2 hHeld ⊢
 refine pu_ 0 41 m1_ (any_of HT_.out s2_) ?_
 refine pu_ 1 42 m2_ (any_of HT_.out s2_) ?_
 refine pu_ 2 43 m3_ (any_of HT_.out s2_) ?_
 refine take_ (i := 3) (N := some 44) (v := ?_) (a' := ?_) m4_ rfl rfl (take_ofW HT_.out HW_.out s2_) (fun _ _ _ h => h) (Or.inl ⟨by rfl, ?_⟩) hHeld ?_ ?_
 rotate_left
 {
 rintro w' ⟨s0, s1, s2⟩
 go_simp
 with_reducible rfl}
 rotate_left
 · exact p1_
 refine one_ (i := 4) (N := some 45) m5_ rfl rfl (one_of HT_.out s2_) (by decide) (fun K hK => ?_)
 refine goes_ Try.func40 s2_ rfl #[.int .i64 ((rd_T71 l0_2 x3_2).f0)] (by rfl) rfl rfl s3_ ?_
 with_reducible refine (spec_l02Id.calls ((rd_T71 l0_2 x3_2).f0) false _ A16.out).mono ?_
 rintro e w' ⟨rfl, ⟨nd, rfl⟩⟩
 refine ⟨_, rfl, ?_⟩
 refine hK.out _ _ ⟨((HB.out.cell (World.block_lt_of_cell? w _ hw245_0)).trans hw245_0), ((HB.out.cell (World.block_lt_of_cell? w _ hw245_1)).trans hw245_1), ((HB.out.cell (World.block_lt_of_cell? w _ hw245_2)).trans hw245_2)⟩ (fun hHeld => ?_)
 clear hK K
 refine norm_ (a' := ?_) ?_ ?_
 rotate_left
 {
 show Act.put _ (some 45) _ = _
 simp only [Act.put, List.setIfInBounds_toArray, List.set_cons_zero, List.set_cons_succ, i64_w, i32_w]
 rfl}
 refine pu_ 5 46 m6_ (any_of HT_.out s2_) ?_
 refine pu_ 6 47 m7_ (any_of HT_.out s2_) ?_
 refine pn_ 7 48 m8_ (any_of HT_.out s2_) ?_
 refine pn_ 8 49 m9_ (any_of HT_.out s2_) ?_
 refine pn_ 9 50 m10_ (any_of HT_.out s2_) ?_
 refine pn_ 10 51 m11_ (any_of HT_.out s2_) ?_
 refine pn_ 11 52 m12_ (any_of HT_.out s2_) ?_
 refine pn_ 12 53 m13_ (any_of HT_.out s2_) ?_
 refine pu_ 13 54 m14_ (any_of HT_.out s2_) ?_
 refine pu_ 14 55 m15_ (any_of HT_.out s2_) ?_
 refine pn_ 15 56 m16_ (any_of HT_.out s2_) ?_
 refine pn_ 16 57 m17_ (any_of HT_.out s2_) ?_
 refine pn_ 17 58 m18_ (any_of HT_.out s2_) ?_
 refine pn_ 18 59 m19_ (any_of HT_.out s2_) ?_
 refine pn_ 19 60 m20_ (any_of HT_.out s2_) ?_
 refine pn_ 20 61 m21_ (any_of HT_.out s2_) ?_
 refine pu_ 21 62 m22_ (any_of HT_.out s2_) ?_
 refine pu_ 22 63 m23_ (any_of HT_.out s2_) ?_
 refine pn_ 23 64 m24_ (any_of HT_.out s2_) ?_
 refine pn_ 24 65 m25_ (any_of HT_.out s2_) ?_
 refine pn_ 25 66 m26_ (any_of HT_.out s2_) ?_
 refine pn_ 26 67 m27_ (any_of HT_.out s2_) ?_
 refine pn_ 27 68 m28_ (any_of HT_.out s2_) ?_
 refine pn_ 28 69 m29_ (any_of HT_.out s2_) ?_
 refine pn_ 29 70 m52_ (any_of HT_.out s2_) ?_
 refine pn_ 30 71 m53_ (any_of HT_.out s2_) ?_
 refine pn_ 31 72 m54_ (any_of HT_.out s2_) ?_
 refine pn_ 32 73 m55_ (any_of HT_.out s2_) ?_
 refine pn_ 33 74 m56_ (any_of HT_.out s2_) ?_
 refine pn_ 34 75 m57_ (any_of HT_.out s2_) ?_
 refine pn_ 35 76 m58_ (any_of HT_.out s2_) ?_
 refine pn_ 36 77 m59_ (any_of HT_.out s2_) ?_
 refine pn_ 37 78 m38_ (any_of HT_.out s2_) ?_
 refine pn_ 38 79 m39_ (any_of HT_.out s2_) ?_
 refine pn_ 39 80 m40_ (any_of HT_.out s2_) ?_
 refine pn_ 40 81 m41_ (any_of HT_.out s2_) ?_
 refine pu_ 41 82 m42_ (any_of HT_.out s2_) ?_
 refine pu_ 42 83 m43_ (any_of HT_.out s2_) ?_
 refine pn_ 43 84 m44_ (any_of HT_.out s2_) ?_
 refine pn_ 44 85 m45_ (any_of HT_.out s2_) ?_
 refine pn_ 45 86 m46_ (any_of HT_.out s2_) ?_
 refine pn_ 46 87 m47_ (any_of HT_.out s2_) ?_
 refine pn_ 47 88 m48_ (any_of HT_.out s2_) ?_
 refine pn_ 48 89 m49_ (any_of HT_.out s2_) ?_
 refine pn_ 49 90 m50_ (any_of HT_.out s2_) ?_
 refine pu_ 50 91 m51_ (any_of HT_.out s2_) ?_
 refine done_ (done_of HT_.out s2_) ?_
 try go_wp2
 go_meet
 case rel => exact ⟨_, (true), (x1000_2), s1_, H', ⟨by have := HJ1.out; have := HK2.out; first | omega | exact Nat.le_refl _⟩, ⟨b1_ BK0.out⟩, ⟨by repeat (first | (with_reducible first | exact HB.out | apply below_alloc | apply pw_below_drewN | apply below_drew1 | refine below_set ?_ GE0.out) | exact HB.out)⟩⟩}}
 case rest =>
  skip
  {
 clear HC14
 try clear c1
 try clear p2
 try clear q2
 try clear hx2
 try clear c4
 try clear c17
 try clear p24
 try clear q24
 try clear hx24
 try clear hx245_0
 try clear hx245_1
 try clear hx245_2
 try clear p245
 try clear q245
 obtain ⟨kq, x91_13, x1000_13, rfl, HA, HJ13, BK0, HB⟩ := hcut
 cases kq with
 | zero => exact absurd HA.out (by simp [spec_l02Is.j2])
 | succ kj13 =>
  skip
  {
 have H := HA.out
 clear HA
 simp only [spec_l02Is.j2] at H
 by_cases c37 : x91_13 = true
 {
 subst c37
 have H1 : (some false) = some r := by rw [if_pos rfl] at H; exact H
 clear H
 have H := H1
 clear H1
 obtain rfl := Option.some.inj H
 go_wp2
 go_ret
 exact ⟨by first | rfl | (simp [errW_none, errW_some] <;> rfl) | (simp [*, errW_none, errW_some] <;> rfl), by repeat (first | (with_reducible first | exact HB.out | apply below_alloc | apply pw_below_drewN | apply below_drew1 | refine below_set ?_ GE0.out) | exact HB.out)⟩}
 {
 replace c37 := Bool.eq_false_iff.mpr c37
 subst c37
 have H1 : (spec_l02Is.l0 kj13 (wrap64 (x3_2 + 1)) x1000_13 l0_1 l0_2 l0_3) = some r := by rw [if_neg (show ¬ (false = true) by decide)] at H; exact H
 clear H
 have H := H1
 clear H1
 have H' := Aside0.mk H
 clear H
 go_wp2
 go_roundg kj13
 case measure => have := HJ1.out; have := HK2.out; have := HJ13.out; omega
 case rel => exact ⟨(wrap64 (x3_2 + 1)), (x1000_13), s1_, H', ⟨by have := HJ1.out; have := HK2.out; have := HJ13.out; omega⟩, ⟨b1_ BK0.out⟩, ⟨by repeat (first | (with_reducible first | exact HB.out | apply below_alloc | apply pw_below_drewN | apply below_drew1 | refine below_set ?_ GE0.out) | exact HB.out)⟩⟩}}}}
 {
 rw [if_neg c13] at H
 exact absurd H (by simp)}}
 {
 rw [if_neg c12] at H
 have c12b0 : decide (x3_2 < (l0_2.length : Int)) = false := decide_eq_false c12
 clear c12
 have H' := Aside0.mk H
 clear H
 have hcz38_0 : wr.cell? ⟨g0_, 0, none⟩ = some (.bool x1000_2) := (blk_cell BK0.out 0).trans rfl
 have hcz38_1 : wr.cell? ⟨g0_, 1, none⟩ = some (.slice A0_1 l0_1.length c0_1) := (blk_cell BK0.out 1).trans rfl
 have hcz38_2 : wr.cell? ⟨g0_, 2, none⟩ = some (.slice A0_2 l0_2.length c0_2) := (blk_cell BK0.out 2).trans rfl
 have hcz38_3 : wr.cell? ⟨g0_, 3, none⟩ = some (.slice A0_3 l0_3.length c0_3) := (blk_cell BK0.out 3).trans rfl
 have hfz38_0 := blk_frozen BK0.out 0
 have hfz38_1 := blk_frozen BK0.out 1
 have hfz38_2 := blk_frozen BK0.out 2
 have hfz38_3 := blk_frozen BK0.out 3
 go_wp2
 go_loopg [5] k2 (fun kq v5 w' => ∃ (x5_3 : Int) (x1000_3 : Bool), v5 = .int .i64 x5_3 ∧ Aside0 (spec_l02Is.l1 kq x5_3 x1000_3 l0_1 l0_2 l0_3 = some r) ∧ Aside0 (kq ≤ k2) ∧ Aside0 (w'.heap[g0_]? = some (.cells #[.bool x1000_3, (.slice A0_1 l0_1.length c0_1), (.slice A0_2 l0_2.length c0_2), (.slice A0_3 l0_3.length c0_3)] 28 (0, 0))) ∧ Aside0 (Below w.heap.size w w'))
 case atStart => exact ⟨(0), (x1000_2), s1_, H', ⟨Nat.le_refl _⟩, ⟨b1_ BK0.out⟩, ⟨by repeat (first | (with_reducible first | exact HB.out | apply below_alloc | apply pw_below_drewN | apply below_drew1 | refine below_set ?_ GE0.out) | exact HB.out)⟩⟩
 case round =>
  skip
  {
 clear H'
 try clear c1
 try clear p2
 try clear q2
 try clear hx2
 try clear c3
 try clear c4
 try clear p6
 try clear c12
 try clear c12b0
 try clear c13
 try clear c17
 try clear p24
 try clear q24
 try clear hx24
 try clear c37
 try clear hcz38_0
 try clear hcz38_1
 try clear hcz38_2
 try clear hcz38_3
 try clear hfz38_0
 try clear hfz38_1
 try clear hfz38_2
 try clear hfz38_3
 try clear hx245_0
 try clear hx245_1
 try clear hx245_2
 try clear p2
 try clear p24
 try clear p245
 try clear q2
 try clear q24
 try clear q245
 obtain ⟨x5_3, x1000_3, rfl, HA, HK3, BK0, HB⟩ := hrel
 cases gk with
 | zero => exact absurd HA.out (by simp [spec_l02Is.l1])
 | succ k3 =>
  skip
  {
 have H := HA.out
 clear HA
 simp only [spec_l02Is.l1] at H
 by_cases c39 : x5_3 < (l0_3.length : Int)
 {
 rw [if_pos c39] at H
 have c39b0 : decide (x5_3 < (l0_3.length : Int)) = true := decide_eq_true c39
 clear c39
 by_cases c40 : 0 ≤ x5_3
 {
 rw [if_pos c40] at H
 have c40b0 : decide (0 ≤ x5_3) = true := decide_eq_true c40
 clear c40
 have HC41 := Aside0.mk H
 clear H
 have hcz42_0 : wr.cell? ⟨g0_, 0, none⟩ = some (.bool x1000_3) := (blk_cell BK0.out 0).trans rfl
 have hcz42_1 : wr.cell? ⟨g0_, 1, none⟩ = some (.slice A0_1 l0_1.length c0_1) := (blk_cell BK0.out 1).trans rfl
 have hcz42_2 : wr.cell? ⟨g0_, 2, none⟩ = some (.slice A0_2 l0_2.length c0_2) := (blk_cell BK0.out 2).trans rfl
 have hcz42_3 : wr.cell? ⟨g0_, 3, none⟩ = some (.slice A0_3 l0_3.length c0_3) := (blk_cell BK0.out 3).trans rfl
 have hfz42_0 := blk_frozen BK0.out 0
 have hfz42_1 := blk_frozen BK0.out 1
 have hfz42_2 := blk_frozen BK0.out 2
 have hfz42_3 := blk_frozen BK0.out 3
 have p252 : 0 ≤ (x5_3 : Int) := of_decide_eq_true (by first | (with_reducible assumption) | assumption)
 have q252 : x5_3 < (l0_3.length : Int) := of_decide_eq_true (by first | (with_reducible assumption) | assumption)
 obtain ⟨ad252, e252, hx252_0, hx252_1⟩ := at_T73 HR0_3.out x5_3 p252 q252
 cases e252
 replace hx252_0 := (HB.out.cell (World.block_lt_of_cell? w _ hx252_0)).trans hx252_0
 replace hx252_1 := (HB.out.cell (World.block_lt_of_cell? w _ hx252_1)).trans hx252_1
 replace p252 := eq_true p252
 replace q252 := eq_true q252
 go_upto_region 13 with (fail)
 go_cut [158] (fun v158 wc => ∃ (kq : Nat) (x158_40 : Bool) (x1000_40 : Bool), v158 = .bool x158_40 ∧ Aside0 (spec_l02Is.j4 kq x5_3 x158_40 x1000_40 l0_1 l0_2 l0_3 = some r) ∧ Aside0 (kq ≤ k3) ∧ Aside0 (wc.heap[g0_]? = some (.cells #[.bool x1000_40, (.slice A0_1 l0_1.length c0_1), (.slice A0_2 l0_2.length c0_2), (.slice (some ad252) l0_3.length c0_3)] 28 (0, 0))) ∧ Aside0 (Below w.heap.size w wc))
 case first =>
  as_aux_lemma =>
   skip
   {
 have H := HC41.out
 clear HC41
 replace H := Option.bind_eq_some_iff.mp H
 obtain ⟨t254, A430, H⟩ := H
 replace H : (if t254 = true then ((spec_l02Tick.f ((rd_T73 l0_3 x5_3).f1)).bind fun t255 => (if t255 = true then (if x5_3 > 0 then (if 0 ≤ (wrap64 (x5_3 - 1)) then (if (wrap64 (x5_3 - 1)) < (l0_3.length : Int) then (if ((rd_T73 l0_3 (wrap64 (x5_3 - 1))).f0) ≥ ((rd_T73 l0_3 x5_3).f0) then (spec_l02Is.j4 k3 x5_3 true x1000_3 l0_1 l0_2 l0_3) else ((spec_l02Find.f k3 x1000_3 l0_1 l0_2 l0_3 ((rd_T73 l0_3 x5_3).f0)).bind fun t257 => (if t257 ≥ 0 then (spec_l02Is.j4 k3 x5_3 true x1000_3 l0_1 l0_2 l0_3) else ((spec_l02Invited.f k3 x1000_3 l0_1 l0_2 l0_3 ((rd_T73 l0_3 x5_3).f0)).bind fun t258 => (spec_l02Is.j4 k3 x5_3 (decide (t258 ≥ 0)) x1000_3 l0_1 l0_2 l0_3))))) else (none)) else (none)) else ((spec_l02Find.f k3 x1000_3 l0_1 l0_2 l0_3 ((rd_T73 l0_3 x5_3).f0)).bind fun t259 => (if t259 ≥ 0 then (spec_l02Is.j4 k3 x5_3 true x1000_3 l0_1 l0_2 l0_3) else ((spec_l02Invited.f k3 x1000_3 l0_1 l0_2 l0_3 ((rd_T73 l0_3 x5_3).f0)).bind fun t260 => (spec_l02Is.j4 k3 x5_3 (decide (t260 ≥ 0)) x1000_3 l0_1 l0_2 l0_3))))) else (spec_l02Is.j4 k3 x5_3 true x1000_3 l0_1 l0_2 l0_3))) else (spec_l02Is.j4 k3 x5_3 true x1000_3 l0_1 l0_2 l0_3)) = some r := H
 have A43 := Aside0.mk A430
 clear A430
 by_cases c44 : t254 = true
 {
 subst c44
 have H1 : ((spec_l02Tick.f ((rd_T73 l0_3 x5_3).f1)).bind fun t255 => (if t255 = true then (if x5_3 > 0 then (if 0 ≤ (wrap64 (x5_3 - 1)) then (if (wrap64 (x5_3 - 1)) < (l0_3.length : Int) then (if ((rd_T73 l0_3 (wrap64 (x5_3 - 1))).f0) ≥ ((rd_T73 l0_3 x5_3).f0) then (spec_l02Is.j4 k3 x5_3 true x1000_3 l0_1 l0_2 l0_3) else ((spec_l02Find.f k3 x1000_3 l0_1 l0_2 l0_3 ((rd_T73 l0_3 x5_3).f0)).bind fun t257 => (if t257 ≥ 0 then (spec_l02Is.j4 k3 x5_3 true x1000_3 l0_1 l0_2 l0_3) else ((spec_l02Invited.f k3 x1000_3 l0_1 l0_2 l0_3 ((rd_T73 l0_3 x5_3).f0)).bind fun t258 => (spec_l02Is.j4 k3 x5_3 (decide (t258 ≥ 0)) x1000_3 l0_1 l0_2 l0_3))))) else (none)) else (none)) else ((spec_l02Find.f k3 x1000_3 l0_1 l0_2 l0_3 ((rd_T73 l0_3 x5_3).f0)).bind fun t259 => (if t259 ≥ 0 then (spec_l02Is.j4 k3 x5_3 true x1000_3 l0_1 l0_2 l0_3) else ((spec_l02Invited.f k3 x1000_3 l0_1 l0_2 l0_3 ((rd_T73 l0_3 x5_3).f0)).bind fun t260 => (spec_l02Is.j4 k3 x5_3 (decide (t260 ≥ 0)) x1000_3 l0_1 l0_2 l0_3))))) else (spec_l02Is.j4 k3 x5_3 true x1000_3 l0_1 l0_2 l0_3))) = some r := by rw [if_pos rfl] at H; exact H
 clear H
 have H := H1
 clear H1
 replace H := Option.bind_eq_some_iff.mp H
 obtain ⟨t255, A450, H⟩ := H
 replace H : (if t255 = true then (if x5_3 > 0 then (if 0 ≤ (wrap64 (x5_3 - 1)) then (if (wrap64 (x5_3 - 1)) < (l0_3.length : Int) then (if ((rd_T73 l0_3 (wrap64 (x5_3 - 1))).f0) ≥ ((rd_T73 l0_3 x5_3).f0) then (spec_l02Is.j4 k3 x5_3 true x1000_3 l0_1 l0_2 l0_3) else ((spec_l02Find.f k3 x1000_3 l0_1 l0_2 l0_3 ((rd_T73 l0_3 x5_3).f0)).bind fun t257 => (if t257 ≥ 0 then (spec_l02Is.j4 k3 x5_3 true x1000_3 l0_1 l0_2 l0_3) else ((spec_l02Invited.f k3 x1000_3 l0_1 l0_2 l0_3 ((rd_T73 l0_3 x5_3).f0)).bind fun t258 => (spec_l02Is.j4 k3 x5_3 (decide (t258 ≥ 0)) x1000_3 l0_1 l0_2 l0_3))))) else (none)) else (none)) else ((spec_l02Find.f k3 x1000_3 l0_1 l0_2 l0_3 ((rd_T73 l0_3 x5_3).f0)).bind fun t259 => (if t259 ≥ 0 then (spec_l02Is.j4 k3 x5_3 true x1000_3 l0_1 l0_2 l0_3) else ((spec_l02Invited.f k3 x1000_3 l0_1 l0_2 l0_3 ((rd_T73 l0_3 x5_3).f0)).bind fun t260 => (spec_l02Is.j4 k3 x5_3 (decide (t260 ≥ 0)) x1000_3 l0_1 l0_2 l0_3))))) else (spec_l02Is.j4 k3 x5_3 true x1000_3 l0_1 l0_2 l0_3)) = some r := H
 have A45 := Aside0.mk A450
 clear A450
 by_cases c46 : t255 = true
 {
 subst c46
 have H1 : (if x5_3 > 0 then (if 0 ≤ (wrap64 (x5_3 - 1)) then (if (wrap64 (x5_3 - 1)) < (l0_3.length : Int) then (if ((rd_T73 l0_3 (wrap64 (x5_3 - 1))).f0) ≥ ((rd_T73 l0_3 x5_3).f0) then (spec_l02Is.j4 k3 x5_3 true x1000_3 l0_1 l0_2 l0_3) else ((spec_l02Find.f k3 x1000_3 l0_1 l0_2 l0_3 ((rd_T73 l0_3 x5_3).f0)).bind fun t257 => (if t257 ≥ 0 then (spec_l02Is.j4 k3 x5_3 true x1000_3 l0_1 l0_2 l0_3) else ((spec_l02Invited.f k3 x1000_3 l0_1 l0_2 l0_3 ((rd_T73 l0_3 x5_3).f0)).bind fun t258 => (spec_l02Is.j4 k3 x5_3 (decide (t258 ≥ 0)) x1000_3 l0_1 l0_2 l0_3))))) else (none)) else (none)) else ((spec_l02Find.f k3 x1000_3 l0_1 l0_2 l0_3 ((rd_T73 l0_3 x5_3).f0)).bind fun t259 => (if t259 ≥ 0 then (spec_l02Is.j4 k3 x5_3 true x1000_3 l0_1 l0_2 l0_3) else ((spec_l02Invited.f k3 x1000_3 l0_1 l0_2 l0_3 ((rd_T73 l0_3 x5_3).f0)).bind fun t260 => (spec_l02Is.j4 k3 x5_3 (decide (t260 ≥ 0)) x1000_3 l0_1 l0_2 l0_3))))) = some r := by rw [if_pos rfl] at H; exact H
 clear H
 have H := H1
 clear H1
 by_cases c47 : x5_3 > 0
 {
 rw [if_pos c47] at H
 have c47b0 : decide (0 < x5_3) = true := decide_eq_true c47
 clear c47
 (first | rw [c47b0] | (simp only [i64_w, i32_w]; rw [c47b0]) | skip)
 obtain ⟨ji48, hji48⟩ : ∃ j_ : Int, (wrap64 (x5_3 - 1)) = j_ := ⟨_, rfl⟩
 replace H : (if 0 ≤ (ji48) then (if (ji48) < (l0_3.length : Int) then (if ((rd_T73 l0_3 (ji48)).f0) ≥ ((rd_T73 l0_3 x5_3).f0) then (spec_l02Is.j4 k3 x5_3 true x1000_3 l0_1 l0_2 l0_3) else ((spec_l02Find.f k3 x1000_3 l0_1 l0_2 l0_3 ((rd_T73 l0_3 x5_3).f0)).bind fun t257 => (if t257 ≥ 0 then (spec_l02Is.j4 k3 x5_3 true x1000_3 l0_1 l0_2 l0_3) else ((spec_l02Invited.f k3 x1000_3 l0_1 l0_2 l0_3 ((rd_T73 l0_3 x5_3).f0)).bind fun t258 => (spec_l02Is.j4 k3 x5_3 (decide (t258 ≥ 0)) x1000_3 l0_1 l0_2 l0_3))))) else (none)) else (none)) = some r := by first | (rw [hji48] at H; exact H) | (simp only [hji48] at H ⊢; exact H)
 (try rw [hji48] at A43)
 (try rw [hji48] at A45)
 have hji48w : (IntKind.i64.wrap (x5_3 - 1)) = ji48 := (i64_w _).trans hji48
 by_cases c49 : 0 ≤ (ji48)
 {
 rw [if_pos c49] at H
 have c49b0 : decide (0 ≤ (ji48)) = true := decide_eq_true c49
 clear c49
 by_cases c50 : (ji48) < (l0_3.length : Int)
 {
 rw [if_pos c50] at H
 have c50b0 : decide ((ji48) < (l0_3.length : Int)) = true := decide_eq_true c50
 clear c50
 by_cases c51 : ((rd_T73 l0_3 (ji48)).f0) ≥ ((rd_T73 l0_3 x5_3).f0)
 {
 rw [if_pos c51] at H
 have c51b0 : decide (((rd_T73 l0_3 x5_3).f0) ≤ ((rd_T73 l0_3 (ji48)).f0)) = true := decide_eq_true c51
 clear c51
 have H' := Aside0.mk H
 clear H
 try go_wp2
 have n0_ := Aside0.mk (blk_drew BK0.out)
 have n1_ := Aside0.mk (below_drew1 HB.out)
 clear BK0
 clear HB
 have BK0 := n0_
 have HB := n1_
 clear n0_ n1_
 have p253 : 0 ≤ (x5_3 : Int) := of_decide_eq_true (by first | (with_reducible assumption) | assumption)
 have q253 : x5_3 < (l0_3.length : Int) := of_decide_eq_true (by first | (with_reducible assumption) | assumption)
 obtain ⟨ad253, e253, hx253_0, hx253_1⟩ := at_T73 HR0_3.out x5_3 p253 q253
 have hw253_1 := hx253_1
 have hw253_0 := hx253_0
 obtain rfl : ad252 = ad253 := (by injection e253)
 replace hx253_0 := (HB.out.cell (World.block_lt_of_cell? w _ hx253_0)).trans hx253_0
 replace hx253_1 := (HB.out.cell (World.block_lt_of_cell? w _ hx253_1)).trans hx253_1
 replace p253 := eq_true p253
 replace q253 := eq_true q253
 have p256 : 0 ≤ ((ji48) : Int) := of_decide_eq_true (by first | (with_reducible assumption) | assumption)
 have q256 : (ji48) < (l0_3.length : Int) := of_decide_eq_true (by first | (with_reducible assumption) | assumption)
 obtain ⟨ad256, e256, hx256_0, hx256_1⟩ := at_T73 HR0_3.out (ji48) p256 q256
 have hw256_1 := hx256_1
 have hw256_0 := hx256_0
 obtain rfl : ad252 = ad256 := (by injection e256)
 replace hx256_0 := (HB.out.cell (World.block_lt_of_cell? w _ hx256_0)).trans hx256_0
 replace hx256_1 := (HB.out.cell (World.block_lt_of_cell? w _ hx256_1)).trans hx256_1
 replace p256 := eq_true p256
 replace q256 := eq_true q256
 refine start_ (n := 52) (S := fun w' => w'.cell? ⟨g0_, 0, none⟩ = some (.bool x1000_3) ∧ w'.cell? ⟨g0_, 1, none⟩ = some (.slice A0_1 l0_1.length c0_1) ∧ w'.cell? ⟨g0_, 2, none⟩ = some (.slice A0_2 l0_2.length c0_2) ∧ w'.cell? ⟨g0_, 3, none⟩ = some (.slice (some ad252) l0_3.length c0_3) ∧ w'.cell? (ad252.add ((x5_3).toNat * 2)) = some (.int .i64 ((rd_T73 l0_3 x5_3).f0)) ∧ w'.cell? ⟨(ad252.add ((x5_3).toNat * 2)).block, (ad252.add ((x5_3).toNat * 2)).off + 1, none⟩ = some (.int .i64 ((rd_T73 l0_3 x5_3).f1)) ∧ w'.cell? (ad252.add (((ji48)).toNat * 2)) = some (.int .i64 ((rd_T73 l0_3 (ji48)).f0)) ∧ w'.cell? ⟨(ad252.add (((ji48)).toNat * 2)).block, (ad252.add (((ji48)).toNat * 2)).off + 1, none⟩ = some (.int .i64 ((rd_T73 l0_3 (ji48)).f1))) (ds := []) m60_ s2_ rfl rfl ⟨(blk_cell BK0.out 0).trans rfl, (blk_cell BK0.out 1).trans rfl, (blk_cell BK0.out 2).trans rfl, (blk_cell BK0.out 3).trans rfl, ((HB.out.cell (World.block_lt_of_cell? w _ hw253_0)).trans hw253_0), ((HB.out.cell (World.block_lt_of_cell? w _ hw253_1)).trans hw253_1), ((HB.out.cell (World.block_lt_of_cell? w _ hw256_0)).trans hw256_0), ((HB.out.cell (World.block_lt_of_cell? w _ hw256_1)).trans hw256_1)⟩ (fun hHeld => ?_); refine with_tabW spec_l02Is.tab13 spec_l02Is.bits13 (fun HT_ HW_ => ?_)
 generalize wr.drew = w52 at BK0 HB hx253_0 hx253_1 hx256_0 hx256_1 hHeld ⊢
 refine pu_ 0 107 m61_ (any_of HT_.out s2_) ?_
 refine pu_ 1 108 m62_ (any_of HT_.out s2_) ?_
 refine pu_ 2 109 m63_ (any_of HT_.out s2_) ?_
 refine take_ (i := 3) (N := some 110) (v := ?_) (a' := ?_) m64_ rfl rfl (take_ofW HT_.out HW_.out s2_) (fun _ _ _ h => h) (Or.inl ⟨by rfl, ?_⟩) hHeld ?_ ?_
 rotate_left
 {
 rintro w' ⟨s0, s1, s2, s3, s4, s5, s6, s7⟩
 go_simp
 with_reducible rfl}
 rotate_left
 · exact p1_
 refine one_ (i := 4) (N := some 111) m65_ rfl rfl (one_of HT_.out s2_) (by decide) (fun K hK => ?_)
 refine goes_ Try.func40 s2_ rfl #[.int .i64 ((rd_T73 l0_3 x5_3).f0)] (by rfl) rfl rfl s3_ ?_
 with_reducible refine (spec_l02Id.calls ((rd_T73 l0_3 x5_3).f0) true _ A43.out).mono ?_
 rintro e w' ⟨rfl, ⟨nd, rfl⟩⟩
 refine ⟨_, rfl, ?_⟩
 refine hK.out _ _ ⟨(blk_cell BK0.out 0).trans rfl, (blk_cell BK0.out 1).trans rfl, (blk_cell BK0.out 2).trans rfl, (blk_cell BK0.out 3).trans rfl, ((HB.out.cell (World.block_lt_of_cell? w _ hw253_0)).trans hw253_0), ((HB.out.cell (World.block_lt_of_cell? w _ hw253_1)).trans hw253_1), ((HB.out.cell (World.block_lt_of_cell? w _ hw256_0)).trans hw256_0), ((HB.out.cell (World.block_lt_of_cell? w _ hw256_1)).trans hw256_1)⟩ (fun hHeld => ?_)
 clear hK K
 refine norm_ (a' := ?_) ?_ ?_
 rotate_left
 {
 show Act.put _ (some 111) _ = _
 simp only [Act.put, List.setIfInBounds_toArray, List.set_cons_zero, List.set_cons_succ, i64_w, i32_w]
 rfl}
 refine pu_ 5 112 m66_ (any_of HT_.out s2_) ?_
 refine pu_ 6 113 m67_ (any_of HT_.out s2_) ?_
 refine pu_ 7 114 m68_ (any_of HT_.out s2_) ?_
 refine pu_ 8 115 m69_ (any_of HT_.out s2_) ?_
 refine pu_ 9 116 m70_ (any_of HT_.out s2_) ?_
 refine take_ (i := 10) (N := some 117) (v := ?_) (a' := ?_) m71_ rfl rfl (take_ofW HT_.out HW_.out s2_) (fun _ _ _ h => h) (Or.inl ⟨by rfl, ?_⟩) hHeld ?_ ?_
 rotate_left
 {
 rintro w' ⟨s0, s1, s2, s3, s4, s5, s6, s7⟩
 go_simp
 with_reducible rfl}
 rotate_left
 · exact p1_
 refine one_ (i := 11) (N := some 118) m72_ rfl rfl (one_of HT_.out s2_) (by decide) (fun K hK => ?_)
 refine goes_ Try.func41 s2_ rfl #[.int .i64 ((rd_T73 l0_3 x5_3).f1)] (by rfl) rfl rfl s3_ ?_
 with_reducible refine (spec_l02Tick.calls ((rd_T73 l0_3 x5_3).f1) true _ A45.out).mono ?_
 rintro e w' ⟨rfl, ⟨nd, rfl⟩⟩
 refine ⟨_, rfl, ?_⟩
 refine hK.out _ _ ⟨(blk_cell BK0.out 0).trans rfl, (blk_cell BK0.out 1).trans rfl, (blk_cell BK0.out 2).trans rfl, (blk_cell BK0.out 3).trans rfl, ((HB.out.cell (World.block_lt_of_cell? w _ hw253_0)).trans hw253_0), ((HB.out.cell (World.block_lt_of_cell? w _ hw253_1)).trans hw253_1), ((HB.out.cell (World.block_lt_of_cell? w _ hw256_0)).trans hw256_0), ((HB.out.cell (World.block_lt_of_cell? w _ hw256_1)).trans hw256_1)⟩ (fun hHeld => ?_)
 clear hK K
 refine norm_ (a' := ?_) ?_ ?_
 rotate_left
 {
 show Act.put _ (some 118) _ = _
 simp only [Act.put, List.setIfInBounds_toArray, List.set_cons_zero, List.set_cons_succ, i64_w, i32_w]
 rfl}
 refine pu_ 12 119 m73_ (any_of HT_.out s2_) ?_
 refine pu_ 13 120 m74_ (any_of HT_.out s2_) ?_
 refine pu_ 14 121 m75_ (any_of HT_.out s2_) ?_
 refine pu_ 15 122 m76_ (any_of HT_.out s2_) ?_
 refine pu_ 16 123 m77_ (any_of HT_.out s2_) ?_
 refine pu_ 17 124 m78_ (any_of HT_.out s2_) ?_
 refine pu_ 18 125 m79_ (any_of HT_.out s2_) ?_
 refine pu_ 19 126 m80_ (any_of HT_.out s2_) ?_
 refine pu_ 20 127 m81_ (any_of HT_.out s2_) ?_
 refine pu_ 22 129 m82_ (any_of HT_.out s2_) ?_
 refine pu_ 23 130 m83_ (any_of HT_.out s2_) ?_
 refine pu_ 27 134 m84_ (any_of HT_.out s2_) ?_
 refine pu_ 28 135 m85_ (any_of HT_.out s2_) ?_
 refine pu_ 29 136 m86_ (any_of HT_.out s2_) ?_
 refine take_ (i := 21) (N := some 128) (v := ?_) (a' := ?_) m87_ rfl rfl (take_ofW HT_.out HW_.out s2_) (fun _ _ _ h => h) (Or.inl ⟨by rfl, ?_⟩) hHeld ?_ ?_
 rotate_left
 {
 rintro w' ⟨s0, s1, s2, s3, s4, s5, s6, s7⟩
 go_simp
 with_reducible rfl}
 rotate_left
 · exact p1_
 refine pu_ 24 131 m88_ (any_of HT_.out s2_) ?_
 refine pu_ 25 132 m89_ (any_of HT_.out s2_) ?_
 refine take_ (i := 26) (N := some 133) (v := ?_) (a' := ?_) m90_ rfl rfl (take_ofW HT_.out HW_.out s2_) (fun _ _ _ h => h) (Or.inl ⟨by rfl, ?_⟩) hHeld ?_ ?_
 rotate_left
 {
 rintro w' ⟨s0, s1, s2, s3, s4, s5, s6, s7⟩
 go_simp
 with_reducible rfl}
 rotate_left
 · exact p1_
 refine take_ (i := 30) (N := some 137) (v := ?_) (a' := ?_) m91_ rfl rfl (take_ofW HT_.out HW_.out s2_) (fun _ _ _ h => h) (Or.inl ⟨by rfl, ?_⟩) hHeld ?_ ?_
 rotate_left
 {
 rintro w' ⟨s0, s1, s2, s3, s4, s5, s6, s7⟩
 go_simp
 with_reducible rfl}
 rotate_left
 · exact p1_
 refine pu_ 31 138 m92_ (any_of HT_.out s2_) ?_
 refine pu_ 32 139 m93_ (any_of HT_.out s2_) ?_
 refine pu_ 33 140 m94_ (any_of HT_.out s2_) ?_
 refine pu_ 34 141 m95_ (any_of HT_.out s2_) ?_
 refine pn_ 35 142 m96_ (any_of HT_.out s2_) ?_
 refine pn_ 36 143 m97_ (any_of HT_.out s2_) ?_
 refine pn_ 37 144 m98_ (any_of HT_.out s2_) ?_
 refine pn_ 38 145 m99_ (any_of HT_.out s2_) ?_
 refine pn_ 39 146 m100_ (any_of HT_.out s2_) ?_
 refine pn_ 40 147 m101_ (any_of HT_.out s2_) ?_
 refine pn_ 41 148 m102_ (any_of HT_.out s2_) ?_
 refine pu_ 42 149 m103_ (any_of HT_.out s2_) ?_
 refine pu_ 43 150 m104_ (any_of HT_.out s2_) ?_
 refine pn_ 44 151 m105_ (any_of HT_.out s2_) ?_
 refine pn_ 45 152 m106_ (any_of HT_.out s2_) ?_
 refine pn_ 46 153 m107_ (any_of HT_.out s2_) ?_
 refine pn_ 47 154 m108_ (any_of HT_.out s2_) ?_
 refine pn_ 48 155 m109_ (any_of HT_.out s2_) ?_
 refine pn_ 49 156 m110_ (any_of HT_.out s2_) ?_
 refine pn_ 50 157 m111_ (any_of HT_.out s2_) ?_
 refine pu_ 51 158 m112_ (any_of HT_.out s2_) ?_
 refine done_ (done_of HT_.out s2_) ?_
 try go_wp2
 go_meet
 case rel => exact ⟨_, (true), (x1000_3), s1_, H', ⟨by have := HJ1.out; have := HK2.out; have := HK3.out; first | omega | exact Nat.le_refl _⟩, ⟨b1_ BK0.out⟩, ⟨by repeat (first | (with_reducible first | exact HB.out | apply below_alloc | apply pw_below_drewN | apply below_drew1 | refine below_set ?_ GE0.out) | exact HB.out)⟩⟩}
 {
 rw [if_neg c51] at H
 have c51b0 : decide (((rd_T73 l0_3 x5_3).f0) ≤ ((rd_T73 l0_3 (ji48)).f0)) = false := decide_eq_false c51
 clear c51
 replace H := Option.bind_eq_some_iff.mp H
 obtain ⟨t257, A530, H⟩ := H
 replace H : (if t257 ≥ 0 then (spec_l02Is.j4 k3 x5_3 true x1000_3 l0_1 l0_2 l0_3) else ((spec_l02Invited.f k3 x1000_3 l0_1 l0_2 l0_3 ((rd_T73 l0_3 x5_3).f0)).bind fun t258 => (spec_l02Is.j4 k3 x5_3 (decide (t258 ≥ 0)) x1000_3 l0_1 l0_2 l0_3))) = some r := H
 have A53 := Aside0.mk A530
 clear A530
 by_cases c54 : t257 ≥ 0
 {
 rw [if_pos c54] at H
 have c54b0 : decide (0 ≤ t257) = true := decide_eq_true c54
 clear c54
 have H' := Aside0.mk H
 clear H
 try go_wp2
 have n0_ := Aside0.mk (blk_drew BK0.out)
 have n1_ := Aside0.mk (below_drew1 HB.out)
 clear BK0
 clear HB
 have BK0 := n0_
 have HB := n1_
 clear n0_ n1_
 have p253 : 0 ≤ (x5_3 : Int) := of_decide_eq_true (by first | (with_reducible assumption) | assumption)
 have q253 : x5_3 < (l0_3.length : Int) := of_decide_eq_true (by first | (with_reducible assumption) | assumption)
 obtain ⟨ad253, e253, hx253_0, hx253_1⟩ := at_T73 HR0_3.out x5_3 p253 q253
 have hw253_1 := hx253_1
 have hw253_0 := hx253_0
 obtain rfl : ad252 = ad253 := (by injection e253)
 replace hx253_0 := (HB.out.cell (World.block_lt_of_cell? w _ hx253_0)).trans hx253_0
 replace hx253_1 := (HB.out.cell (World.block_lt_of_cell? w _ hx253_1)).trans hx253_1
 replace p253 := eq_true p253
 replace q253 := eq_true q253
 have p256 : 0 ≤ ((ji48) : Int) := of_decide_eq_true (by first | (with_reducible assumption) | assumption)
 have q256 : (ji48) < (l0_3.length : Int) := of_decide_eq_true (by first | (with_reducible assumption) | assumption)
 obtain ⟨ad256, e256, hx256_0, hx256_1⟩ := at_T73 HR0_3.out (ji48) p256 q256
 have hw256_1 := hx256_1
 have hw256_0 := hx256_0
 obtain rfl : ad252 = ad256 := (by injection e256)
 replace hx256_0 := (HB.out.cell (World.block_lt_of_cell? w _ hx256_0)).trans hx256_0
 replace hx256_1 := (HB.out.cell (World.block_lt_of_cell? w _ hx256_1)).trans hx256_1
 replace p256 := eq_true p256
 replace q256 := eq_true q256
 refine start_ (n := 52) (S := fun w' => w'.cell? ⟨g0_, 0, none⟩ = some (.bool x1000_3) ∧ w'.cell? ⟨g0_, 1, none⟩ = some (.slice A0_1 l0_1.length c0_1) ∧ w'.cell? ⟨g0_, 2, none⟩ = some (.slice A0_2 l0_2.length c0_2) ∧ w'.cell? ⟨g0_, 3, none⟩ = some (.slice (some ad252) l0_3.length c0_3) ∧ w'.cell? (ad252.add ((x5_3).toNat * 2)) = some (.int .i64 ((rd_T73 l0_3 x5_3).f0)) ∧ w'.cell? ⟨(ad252.add ((x5_3).toNat * 2)).block, (ad252.add ((x5_3).toNat * 2)).off + 1, none⟩ = some (.int .i64 ((rd_T73 l0_3 x5_3).f1)) ∧ w'.cell? (ad252.add (((ji48)).toNat * 2)) = some (.int .i64 ((rd_T73 l0_3 (ji48)).f0)) ∧ w'.cell? ⟨(ad252.add (((ji48)).toNat * 2)).block, (ad252.add (((ji48)).toNat * 2)).off + 1, none⟩ = some (.int .i64 ((rd_T73 l0_3 (ji48)).f1))) (ds := []) m60_ s2_ rfl rfl ⟨(blk_cell BK0.out 0).trans rfl, (blk_cell BK0.out 1).trans rfl, (blk_cell BK0.out 2).trans rfl, (blk_cell BK0.out 3).trans rfl, ((HB.out.cell (World.block_lt_of_cell? w _ hw253_0)).trans hw253_0), ((HB.out.cell (World.block_lt_of_cell? w _ hw253_1)).trans hw253_1), ((HB.out.cell (World.block_lt_of_cell? w _ hw256_0)).trans hw256_0), ((HB.out.cell (World.block_lt_of_cell? w _ hw256_1)).trans hw256_1)⟩ (fun hHeld => ?_); refine with_tabW spec_l02Is.tab13 spec_l02Is.bits13 (fun HT_ HW_ => ?_)
 generalize wr.drew = w55 at BK0 HB hx253_0 hx253_1 hx256_0 hx256_1 hHeld ⊢
 refine pu_ 0 107 m61_ (any_of HT_.out s2_) ?_
 refine pu_ 1 108 m62_ (any_of HT_.out s2_) ?_
 refine pu_ 2 109 m63_ (any_of HT_.out s2_) ?_
 refine take_ (i := 3) (N := some 110) (v := ?_) (a' := ?_) m64_ rfl rfl (take_ofW HT_.out HW_.out s2_) (fun _ _ _ h => h) (Or.inl ⟨by rfl, ?_⟩) hHeld ?_ ?_
 rotate_left
 {
 rintro w' ⟨s0, s1, s2, s3, s4, s5, s6, s7⟩
 go_simp
 with_reducible rfl}
 rotate_left
 · exact p1_
 refine one_ (i := 4) (N := some 111) m65_ rfl rfl (one_of HT_.out s2_) (by decide) (fun K hK => ?_)
 refine goes_ Try.func40 s2_ rfl #[.int .i64 ((rd_T73 l0_3 x5_3).f0)] (by rfl) rfl rfl s3_ ?_
 with_reducible refine (spec_l02Id.calls ((rd_T73 l0_3 x5_3).f0) true _ A43.out).mono ?_
 rintro e w' ⟨rfl, ⟨nd, rfl⟩⟩
 refine ⟨_, rfl, ?_⟩
 refine hK.out _ _ ⟨(blk_cell BK0.out 0).trans rfl, (blk_cell BK0.out 1).trans rfl, (blk_cell BK0.out 2).trans rfl, (blk_cell BK0.out 3).trans rfl, ((HB.out.cell (World.block_lt_of_cell? w _ hw253_0)).trans hw253_0), ((HB.out.cell (World.block_lt_of_cell? w _ hw253_1)).trans hw253_1), ((HB.out.cell (World.block_lt_of_cell? w _ hw256_0)).trans hw256_0), ((HB.out.cell (World.block_lt_of_cell? w _ hw256_1)).trans hw256_1)⟩ (fun hHeld => ?_)
 clear hK K
 refine norm_ (a' := ?_) ?_ ?_
 rotate_left
 {
 show Act.put _ (some 111) _ = _
 simp only [Act.put, List.setIfInBounds_toArray, List.set_cons_zero, List.set_cons_succ, i64_w, i32_w]
 rfl}
 refine pu_ 5 112 m66_ (any_of HT_.out s2_) ?_
 refine pu_ 6 113 m67_ (any_of HT_.out s2_) ?_
 refine pu_ 7 114 m68_ (any_of HT_.out s2_) ?_
 refine pu_ 8 115 m69_ (any_of HT_.out s2_) ?_
 refine pu_ 9 116 m70_ (any_of HT_.out s2_) ?_
 refine take_ (i := 10) (N := some 117) (v := ?_) (a' := ?_) m71_ rfl rfl (take_ofW HT_.out HW_.out s2_) (fun _ _ _ h => h) (Or.inl ⟨by rfl, ?_⟩) hHeld ?_ ?_
 rotate_left
 {
 rintro w' ⟨s0, s1, s2, s3, s4, s5, s6, s7⟩
 go_simp
 with_reducible rfl}
 rotate_left
 · exact p1_
 refine one_ (i := 11) (N := some 118) m72_ rfl rfl (one_of HT_.out s2_) (by decide) (fun K hK => ?_)
 refine goes_ Try.func41 s2_ rfl #[.int .i64 ((rd_T73 l0_3 x5_3).f1)] (by rfl) rfl rfl s3_ ?_
 with_reducible refine (spec_l02Tick.calls ((rd_T73 l0_3 x5_3).f1) true _ A45.out).mono ?_
 rintro e w' ⟨rfl, ⟨nd, rfl⟩⟩
 refine ⟨_, rfl, ?_⟩
 refine hK.out _ _ ⟨(blk_cell BK0.out 0).trans rfl, (blk_cell BK0.out 1).trans rfl, (blk_cell BK0.out 2).trans rfl, (blk_cell BK0.out 3).trans rfl, ((HB.out.cell (World.block_lt_of_cell? w _ hw253_0)).trans hw253_0), ((HB.out.cell (World.block_lt_of_cell? w _ hw253_1)).trans hw253_1), ((HB.out.cell (World.block_lt_of_cell? w _ hw256_0)).trans hw256_0), ((HB.out.cell (World.block_lt_of_cell? w _ hw256_1)).trans hw256_1)⟩ (fun hHeld => ?_)
 clear hK K
 refine norm_ (a' := ?_) ?_ ?_
 rotate_left
 {
 show Act.put _ (some 118) _ = _
 simp only [Act.put, List.setIfInBounds_toArray, List.set_cons_zero, List.set_cons_succ, i64_w, i32_w]
 rfl}
 refine pu_ 12 119 m73_ (any_of HT_.out s2_) ?_
 refine pu_ 13 120 m74_ (any_of HT_.out s2_) ?_
 refine pu_ 14 121 m75_ (any_of HT_.out s2_) ?_
 refine pu_ 15 122 m76_ (any_of HT_.out s2_) ?_
 refine pu_ 16 123 m77_ (any_of HT_.out s2_) ?_
 refine pu_ 17 124 m78_ (any_of HT_.out s2_) ?_
 refine pu_ 18 125 m79_ (any_of HT_.out s2_) ?_
 refine pu_ 19 126 m80_ (any_of HT_.out s2_) ?_
 refine pu_ 20 127 m81_ (any_of HT_.out s2_) ?_
 refine pu_ 22 129 m82_ (any_of HT_.out s2_) ?_
 refine pu_ 23 130 m83_ (any_of HT_.out s2_) ?_
 refine pu_ 27 134 m84_ (any_of HT_.out s2_) ?_
 refine pu_ 28 135 m85_ (any_of HT_.out s2_) ?_
 refine pu_ 29 136 m86_ (any_of HT_.out s2_) ?_
 refine take_ (i := 21) (N := some 128) (v := ?_) (a' := ?_) m87_ rfl rfl (take_ofW HT_.out HW_.out s2_) (fun _ _ _ h => h) (Or.inl ⟨by rfl, ?_⟩) hHeld ?_ ?_
 rotate_left
 {
 rintro w' ⟨s0, s1, s2, s3, s4, s5, s6, s7⟩
 go_simp
 with_reducible rfl}
 rotate_left
 · exact p1_
 refine pu_ 24 131 m88_ (any_of HT_.out s2_) ?_
 refine pu_ 25 132 m89_ (any_of HT_.out s2_) ?_
 refine take_ (i := 26) (N := some 133) (v := ?_) (a' := ?_) m90_ rfl rfl (take_ofW HT_.out HW_.out s2_) (fun _ _ _ h => h) (Or.inl ⟨by rfl, ?_⟩) hHeld ?_ ?_
 rotate_left
 {
 rintro w' ⟨s0, s1, s2, s3, s4, s5, s6, s7⟩
 go_simp
 with_reducible rfl}
 rotate_left
 · exact p1_
 refine take_ (i := 30) (N := some 137) (v := ?_) (a' := ?_) m91_ rfl rfl (take_ofW HT_.out HW_.out s2_) (fun _ _ _ h => h) (Or.inl ⟨by rfl, ?_⟩) hHeld ?_ ?_
 rotate_left
 {
 rintro w' ⟨s0, s1, s2, s3, s4, s5, s6, s7⟩
 go_simp
 with_reducible rfl}
 rotate_left
 · exact p1_
 refine pu_ 31 138 m92_ (any_of HT_.out s2_) ?_
 refine pu_ 32 139 m93_ (any_of HT_.out s2_) ?_
 refine pu_ 33 140 m94_ (any_of HT_.out s2_) ?_
 refine pu_ 34 141 m95_ (any_of HT_.out s2_) ?_
 refine pu_ 35 142 m96_ (any_of HT_.out s2_) ?_
 refine pu_ 36 143 m97_ (any_of HT_.out s2_) ?_
 refine pu_ 37 144 m98_ (any_of HT_.out s2_) ?_
 refine pu_ 38 145 m99_ (any_of HT_.out s2_) ?_
 refine take_ (i := 39) (N := some 146) (v := ?_) (a' := ?_) m100_ rfl rfl (take_ofW HT_.out HW_.out s2_) (fun _ _ _ h => h) (Or.inl ⟨by rfl, ?_⟩) hHeld ?_ ?_
 rotate_left
 {
 rintro w' ⟨s0, s1, s2, s3, s4, s5, s6, s7⟩
 go_simp
 with_reducible rfl}
 rotate_left
 · exact p1_
 refine one_ (i := 40) (N := some 147) m101_ rfl rfl (one_of HT_.out s2_) (by decide) (fun K hK => ?_)
 refine goes_ Try.func58 s2_ rfl #[.pointer (some ⟨g0_, 0, none⟩), .int .i64 ((rd_T73 l0_3 x5_3).f0)] (by rfl) rfl rfl s3_ ?_
 with_reducible refine (spec_l02Find.calls k3 g0_ x1000_3 A0_1 c0_1 l0_1 A0_2 c0_2 l0_2 (some ad252) c0_3 l0_3 ((rd_T73 l0_3 x5_3).f0) t257 _ ?side1 ?side2 ?side3 ?side4 ?side5 ?side6 ?side7 A53.out).mono ?_
 (case side1 => exact (b1_ BK0.out))
 (case side2 => repeat (first | exact (Kd.C_below HR0_1.out (by repeat (first | (with_reducible first | exact HB.out | apply below_alloc | apply pw_below_drewN | apply below_drew1 | refine below_set ?_ GE0.out) | exact HB.out))) | (with_reducible refine Kd.C_alloc ?_ _) | (with_reducible refine Kd.C_drewN ?_ _) | (with_reducible refine Kd.C_drew ?_)))
 (case side3 => exact HC0_1.out)
 (case side4 => repeat (first | exact (Kd.C_below HR0_2.out (by repeat (first | (with_reducible first | exact HB.out | apply below_alloc | apply pw_below_drewN | apply below_drew1 | refine below_set ?_ GE0.out) | exact HB.out))) | (with_reducible refine Kd.C_alloc ?_ _) | (with_reducible refine Kd.C_drewN ?_ _) | (with_reducible refine Kd.C_drew ?_)))
 (case side5 => exact HC0_2.out)
 (case side6 => repeat (first | exact (Kd.C_below HR0_3.out (by repeat (first | (with_reducible first | exact HB.out | apply below_alloc | apply pw_below_drewN | apply below_drew1 | refine below_set ?_ GE0.out) | exact HB.out))) | (with_reducible refine Kd.C_alloc ?_ _) | (with_reducible refine Kd.C_drewN ?_ _) | (with_reducible refine Kd.C_drew ?_)))
 (case side7 => exact HC0_3.out)
 rintro e w56 ⟨rfl, hb⟩
 refine ⟨_, rfl, ?_⟩
 have n0_ := Aside0.mk (blk_below (g := g0_) (o := .cells #[.bool x1000_3, .slice A0_1 l0_1.length c0_1, .slice A0_2 l0_2.length c0_2, .slice (some ad252) l0_3.length c0_3] 28 (0, 0)) (b1_ BK0.out) hb)
 have n1_ := Aside0.mk (below_step (by repeat (first | (with_reducible first | exact HB.out | apply below_alloc | apply pw_below_drewN | apply below_drew1 | refine below_set ?_ GE0.out) | exact HB.out)) hb)
 clear BK0
 clear HB
 have BK0 := n0_
 have HB := n1_
 clear n0_ n1_
 (try clear hb)
 (try clear hb2)
 (try clear hk)
 (try clear hi)
 refine hK.out _ _ ⟨(blk_cell BK0.out 0).trans rfl, (blk_cell BK0.out 1).trans rfl, (blk_cell BK0.out 2).trans rfl, (blk_cell BK0.out 3).trans rfl, ((HB.out.cell (World.block_lt_of_cell? w _ hw253_0)).trans hw253_0), ((HB.out.cell (World.block_lt_of_cell? w _ hw253_1)).trans hw253_1), ((HB.out.cell (World.block_lt_of_cell? w _ hw256_0)).trans hw256_0), ((HB.out.cell (World.block_lt_of_cell? w _ hw256_1)).trans hw256_1)⟩ (fun hHeld => ?_)
 clear hK K
 refine norm_ (a' := ?_) ?_ ?_
 rotate_left
 {
 show Act.put _ (some 147) _ = _
 simp only [Act.put, List.setIfInBounds_toArray, List.set_cons_zero, List.set_cons_succ, i64_w, i32_w]
 rfl}
 refine pu_ 41 148 m102_ (any_of HT_.out s2_) ?_
 refine pu_ 42 149 m103_ (any_of HT_.out s2_) ?_
 refine pu_ 43 150 m104_ (any_of HT_.out s2_) ?_
 refine pn_ 44 151 m105_ (any_of HT_.out s2_) ?_
 refine pn_ 45 152 m106_ (any_of HT_.out s2_) ?_
 refine pn_ 46 153 m107_ (any_of HT_.out s2_) ?_
 refine pn_ 47 154 m108_ (any_of HT_.out s2_) ?_
 refine pn_ 48 155 m109_ (any_of HT_.out s2_) ?_
 refine pn_ 49 156 m110_ (any_of HT_.out s2_) ?_
 refine pn_ 50 157 m111_ (any_of HT_.out s2_) ?_
 refine pu_ 51 158 m112_ (any_of HT_.out s2_) ?_
 refine done_ (done_of HT_.out s2_) ?_
 try go_wp2
 go_meet
 case rel => exact ⟨_, (true), (x1000_3), s1_, H', ⟨by have := HJ1.out; have := HK2.out; have := HK3.out; first | omega | exact Nat.le_refl _⟩, ⟨b1_ BK0.out⟩, ⟨by repeat (first | (with_reducible first | exact HB.out | apply below_alloc | apply pw_below_drewN | apply below_drew1 | refine below_set ?_ GE0.out) | exact HB.out)⟩⟩}
 {
 rw [if_neg c54] at H
 have c54b0 : decide (0 ≤ t257) = false := decide_eq_false c54
 clear c54
 replace H := Option.bind_eq_some_iff.mp H
 obtain ⟨t258, A570, H⟩ := H
 replace H : (spec_l02Is.j4 k3 x5_3 (decide (t258 ≥ 0)) x1000_3 l0_1 l0_2 l0_3) = some r := H
 have A57 := Aside0.mk A570
 clear A570
 have H' := Aside0.mk H
 clear H
 try go_wp2
 have n0_ := Aside0.mk (blk_drew BK0.out)
 have n1_ := Aside0.mk (below_drew1 HB.out)
 clear BK0
 clear HB
 have BK0 := n0_
 have HB := n1_
 clear n0_ n1_
 have p253 : 0 ≤ (x5_3 : Int) := of_decide_eq_true (by first | (with_reducible assumption) | assumption)
 have q253 : x5_3 < (l0_3.length : Int) := of_decide_eq_true (by first | (with_reducible assumption) | assumption)
 obtain ⟨ad253, e253, hx253_0, hx253_1⟩ := at_T73 HR0_3.out x5_3 p253 q253
 have hw253_1 := hx253_1
 have hw253_0 := hx253_0
 obtain rfl : ad252 = ad253 := (by injection e253)
 replace hx253_0 := (HB.out.cell (World.block_lt_of_cell? w _ hx253_0)).trans hx253_0
 replace hx253_1 := (HB.out.cell (World.block_lt_of_cell? w _ hx253_1)).trans hx253_1
 replace p253 := eq_true p253
 replace q253 := eq_true q253
 have p256 : 0 ≤ ((ji48) : Int) := of_decide_eq_true (by first | (with_reducible assumption) | assumption)
 have q256 : (ji48) < (l0_3.length : Int) := of_decide_eq_true (by first | (with_reducible assumption) | assumption)
 obtain ⟨ad256, e256, hx256_0, hx256_1⟩ := at_T73 HR0_3.out (ji48) p256 q256
 have hw256_1 := hx256_1
 have hw256_0 := hx256_0
 obtain rfl : ad252 = ad256 := (by injection e256)
 replace hx256_0 := (HB.out.cell (World.block_lt_of_cell? w _ hx256_0)).trans hx256_0
 replace hx256_1 := (HB.out.cell (World.block_lt_of_cell? w _ hx256_1)).trans hx256_1
 replace p256 := eq_true p256
 replace q256 := eq_true q256
 refine start_ (n := 52) (S := fun w' => w'.cell? ⟨g0_, 0, none⟩ = some (.bool x1000_3) ∧ w'.cell? ⟨g0_, 1, none⟩ = some (.slice A0_1 l0_1.length c0_1) ∧ w'.cell? ⟨g0_, 2, none⟩ = some (.slice A0_2 l0_2.length c0_2) ∧ w'.cell? ⟨g0_, 3, none⟩ = some (.slice (some ad252) l0_3.length c0_3) ∧ w'.cell? (ad252.add ((x5_3).toNat * 2)) = some (.int .i64 ((rd_T73 l0_3 x5_3).f0)) ∧ w'.cell? ⟨(ad252.add ((x5_3).toNat * 2)).block, (ad252.add ((x5_3).toNat * 2)).off + 1, none⟩ = some (.int .i64 ((rd_T73 l0_3 x5_3).f1)) ∧ w'.cell? (ad252.add (((ji48)).toNat * 2)) = some (.int .i64 ((rd_T73 l0_3 (ji48)).f0)) ∧ w'.cell? ⟨(ad252.add (((ji48)).toNat * 2)).block, (ad252.add (((ji48)).toNat * 2)).off + 1, none⟩ = some (.int .i64 ((rd_T73 l0_3 (ji48)).f1))) (ds := []) m60_ s2_ rfl rfl ⟨(blk_cell BK0.out 0).trans rfl, (blk_cell BK0.out 1).trans rfl, (blk_cell BK0.out 2).trans rfl, (blk_cell BK0.out 3).trans rfl, ((HB.out.cell (World.block_lt_of_cell? w _ hw253_0)).trans hw253_0), ((HB.out.cell (World.block_lt_of_cell? w _ hw253_1)).trans hw253_1), ((HB.out.cell (World.block_lt_of_cell? w _ hw256_0)).trans hw256_0), ((HB.out.cell (World.block_lt_of_cell? w _ hw256_1)).trans hw256_1)⟩ (fun hHeld => ?_); refine with_tabW spec_l02Is.tab13 spec_l02Is.bits13 (fun HT_ HW_ => ?_)
 generalize wr.drew = w58 at BK0 HB hx253_0 hx253_1 hx256_0 hx256_1 hHeld ⊢
 refine pu_ 0 107 m61_ (any_of HT_.out s2_) ?_
 refine pu_ 1 108 m62_ (any_of HT_.out s2_) ?_
 refine pu_ 2 109 m63_ (any_of HT_.out s2_) ?_
 refine take_ (i := 3) (N := some 110) (v := ?_) (a' := ?_) m64_ rfl rfl (take_ofW HT_.out HW_.out s2_) (fun _ _ _ h => h) (Or.inl ⟨by rfl, ?_⟩) hHeld ?_ ?_
 rotate_left
 {
 rintro w' ⟨s0, s1, s2, s3, s4, s5, s6, s7⟩
 go_simp
 with_reducible rfl}
 rotate_left
 · exact p1_
 refine one_ (i := 4) (N := some 111) m65_ rfl rfl (one_of HT_.out s2_) (by decide) (fun K hK => ?_)
 refine goes_ Try.func40 s2_ rfl #[.int .i64 ((rd_T73 l0_3 x5_3).f0)] (by rfl) rfl rfl s3_ ?_
 with_reducible refine (spec_l02Id.calls ((rd_T73 l0_3 x5_3).f0) true _ A43.out).mono ?_
 rintro e w' ⟨rfl, ⟨nd, rfl⟩⟩
 refine ⟨_, rfl, ?_⟩
 refine hK.out _ _ ⟨(blk_cell BK0.out 0).trans rfl, (blk_cell BK0.out 1).trans rfl, (blk_cell BK0.out 2).trans rfl, (blk_cell BK0.out 3).trans rfl, ((HB.out.cell (World.block_lt_of_cell? w _ hw253_0)).trans hw253_0), ((HB.out.cell (World.block_lt_of_cell? w _ hw253_1)).trans hw253_1), ((HB.out.cell (World.block_lt_of_cell? w _ hw256_0)).trans hw256_0), ((HB.out.cell (World.block_lt_of_cell? w _ hw256_1)).trans hw256_1)⟩ (fun hHeld => ?_)
 clear hK K
 refine norm_ (a' := ?_) ?_ ?_
 rotate_left
 {
 show Act.put _ (some 111) _ = _
 simp only [Act.put, List.setIfInBounds_toArray, List.set_cons_zero, List.set_cons_succ, i64_w, i32_w]
 rfl}
 refine pu_ 5 112 m66_ (any_of HT_.out s2_) ?_
 refine pu_ 6 113 m67_ (any_of HT_.out s2_) ?_
 refine pu_ 7 114 m68_ (any_of HT_.out s2_) ?_
 refine pu_ 8 115 m69_ (any_of HT_.out s2_) ?_
 refine pu_ 9 116 m70_ (any_of HT_.out s2_) ?_
 refine take_ (i := 10) (N := some 117) (v := ?_) (a' := ?_) m71_ rfl rfl (take_ofW HT_.out HW_.out s2_) (fun _ _ _ h => h) (Or.inl ⟨by rfl, ?_⟩) hHeld ?_ ?_
 rotate_left
 {
 rintro w' ⟨s0, s1, s2, s3, s4, s5, s6, s7⟩
 go_simp
 with_reducible rfl}
 rotate_left
 · exact p1_
 refine one_ (i := 11) (N := some 118) m72_ rfl rfl (one_of HT_.out s2_) (by decide) (fun K hK => ?_)
 refine goes_ Try.func41 s2_ rfl #[.int .i64 ((rd_T73 l0_3 x5_3).f1)] (by rfl) rfl rfl s3_ ?_
 with_reducible refine (spec_l02Tick.calls ((rd_T73 l0_3 x5_3).f1) true _ A45.out).mono ?_
 rintro e w' ⟨rfl, ⟨nd, rfl⟩⟩
 refine ⟨_, rfl, ?_⟩
 refine hK.out _ _ ⟨(blk_cell BK0.out 0).trans rfl, (blk_cell BK0.out 1).trans rfl, (blk_cell BK0.out 2).trans rfl, (blk_cell BK0.out 3).trans rfl, ((HB.out.cell (World.block_lt_of_cell? w _ hw253_0)).trans hw253_0), ((HB.out.cell (World.block_lt_of_cell? w _ hw253_1)).trans hw253_1), ((HB.out.cell (World.block_lt_of_cell? w _ hw256_0)).trans hw256_0), ((HB.out.cell (World.block_lt_of_cell? w _ hw256_1)).trans hw256_1)⟩ (fun hHeld => ?_)
 clear hK K
 refine norm_ (a' := ?_) ?_ ?_
 rotate_left
 {
 show Act.put _ (some 118) _ = _
 simp only [Act.put, List.setIfInBounds_toArray, List.set_cons_zero, List.set_cons_succ, i64_w, i32_w]
 rfl}
 refine pu_ 12 119 m73_ (any_of HT_.out s2_) ?_
 refine pu_ 13 120 m74_ (any_of HT_.out s2_) ?_
 refine pu_ 14 121 m75_ (any_of HT_.out s2_) ?_
 refine pu_ 15 122 m76_ (any_of HT_.out s2_) ?_
 refine pu_ 16 123 m77_ (any_of HT_.out s2_) ?_
 refine pu_ 17 124 m78_ (any_of HT_.out s2_) ?_
 refine pu_ 18 125 m79_ (any_of HT_.out s2_) ?_
 refine pu_ 19 126 m80_ (any_of HT_.out s2_) ?_
 refine pu_ 20 127 m81_ (any_of HT_.out s2_) ?_
 refine pu_ 22 129 m82_ (any_of HT_.out s2_) ?_
 refine pu_ 23 130 m83_ (any_of HT_.out s2_) ?_
 refine pu_ 27 134 m84_ (any_of HT_.out s2_) ?_
 refine pu_ 28 135 m85_ (any_of HT_.out s2_) ?_
 refine pu_ 29 136 m86_ (any_of HT_.out s2_) ?_
 refine take_ (i := 21) (N := some 128) (v := ?_) (a' := ?_) m87_ rfl rfl (take_ofW HT_.out HW_.out s2_) (fun _ _ _ h => h) (Or.inl ⟨by rfl, ?_⟩) hHeld ?_ ?_
 rotate_left
 {
 rintro w' ⟨s0, s1, s2, s3, s4, s5, s6, s7⟩
 go_simp
 with_reducible rfl}
 rotate_left
 · exact p1_
 refine pu_ 24 131 m88_ (any_of HT_.out s2_) ?_
 refine pu_ 25 132 m89_ (any_of HT_.out s2_) ?_
 refine take_ (i := 26) (N := some 133) (v := ?_) (a' := ?_) m90_ rfl rfl (take_ofW HT_.out HW_.out s2_) (fun _ _ _ h => h) (Or.inl ⟨by rfl, ?_⟩) hHeld ?_ ?_
 rotate_left
 {
 rintro w' ⟨s0, s1, s2, s3, s4, s5, s6, s7⟩
 go_simp
 with_reducible rfl}
 rotate_left
 · exact p1_
 refine take_ (i := 30) (N := some 137) (v := ?_) (a' := ?_) m91_ rfl rfl (take_ofW HT_.out HW_.out s2_) (fun _ _ _ h => h) (Or.inl ⟨by rfl, ?_⟩) hHeld ?_ ?_
 rotate_left
 {
 rintro w' ⟨s0, s1, s2, s3, s4, s5, s6, s7⟩
 go_simp
 with_reducible rfl}
 rotate_left
 · exact p1_
 refine pu_ 31 138 m92_ (any_of HT_.out s2_) ?_
 refine pu_ 32 139 m93_ (any_of HT_.out s2_) ?_
 refine pu_ 33 140 m94_ (any_of HT_.out s2_) ?_
 refine pu_ 34 141 m95_ (any_of HT_.out s2_) ?_
 refine pu_ 35 142 m96_ (any_of HT_.out s2_) ?_
 refine pu_ 36 143 m97_ (any_of HT_.out s2_) ?_
 refine pu_ 37 144 m98_ (any_of HT_.out s2_) ?_
 refine pu_ 38 145 m99_ (any_of HT_.out s2_) ?_
 refine take_ (i := 39) (N := some 146) (v := ?_) (a' := ?_) m100_ rfl rfl (take_ofW HT_.out HW_.out s2_) (fun _ _ _ h => h) (Or.inl ⟨by rfl, ?_⟩) hHeld ?_ ?_
 rotate_left
 {
 rintro w' ⟨s0, s1, s2, s3, s4, s5, s6, s7⟩
 go_simp
 with_reducible rfl}
 rotate_left
 · exact p1_
 refine one_ (i := 40) (N := some 147) m101_ rfl rfl (one_of HT_.out s2_) (by decide) (fun K hK => ?_)
 refine goes_ Try.func58 s2_ rfl #[.pointer (some ⟨g0_, 0, none⟩), .int .i64 ((rd_T73 l0_3 x5_3).f0)] (by rfl) rfl rfl s3_ ?_
 with_reducible refine (spec_l02Find.calls k3 g0_ x1000_3 A0_1 c0_1 l0_1 A0_2 c0_2 l0_2 (some ad252) c0_3 l0_3 ((rd_T73 l0_3 x5_3).f0) t257 _ ?side1 ?side2 ?side3 ?side4 ?side5 ?side6 ?side7 A53.out).mono ?_
 (case side1 => exact (b1_ BK0.out))
 (case side2 => repeat (first | exact (Kd.C_below HR0_1.out (by repeat (first | (with_reducible first | exact HB.out | apply below_alloc | apply pw_below_drewN | apply below_drew1 | refine below_set ?_ GE0.out) | exact HB.out))) | (with_reducible refine Kd.C_alloc ?_ _) | (with_reducible refine Kd.C_drewN ?_ _) | (with_reducible refine Kd.C_drew ?_)))
 (case side3 => exact HC0_1.out)
 (case side4 => repeat (first | exact (Kd.C_below HR0_2.out (by repeat (first | (with_reducible first | exact HB.out | apply below_alloc | apply pw_below_drewN | apply below_drew1 | refine below_set ?_ GE0.out) | exact HB.out))) | (with_reducible refine Kd.C_alloc ?_ _) | (with_reducible refine Kd.C_drewN ?_ _) | (with_reducible refine Kd.C_drew ?_)))
 (case side5 => exact HC0_2.out)
 (case side6 => repeat (first | exact (Kd.C_below HR0_3.out (by repeat (first | (with_reducible first | exact HB.out | apply below_alloc | apply pw_below_drewN | apply below_drew1 | refine below_set ?_ GE0.out) | exact HB.out))) | (with_reducible refine Kd.C_alloc ?_ _) | (with_reducible refine Kd.C_drewN ?_ _) | (with_reducible refine Kd.C_drew ?_)))
 (case side7 => exact HC0_3.out)
 rintro e w59 ⟨rfl, hb⟩
 refine ⟨_, rfl, ?_⟩
 have n0_ := Aside0.mk (blk_below (g := g0_) (o := .cells #[.bool x1000_3, .slice A0_1 l0_1.length c0_1, .slice A0_2 l0_2.length c0_2, .slice (some ad252) l0_3.length c0_3] 28 (0, 0)) (b1_ BK0.out) hb)
 have n1_ := Aside0.mk (below_step (by repeat (first | (with_reducible first | exact HB.out | apply below_alloc | apply pw_below_drewN | apply below_drew1 | refine below_set ?_ GE0.out) | exact HB.out)) hb)
 clear BK0
 clear HB
 have BK0 := n0_
 have HB := n1_
 clear n0_ n1_
 (try clear hb)
 (try clear hb2)
 (try clear hk)
 (try clear hi)
 refine hK.out _ _ ⟨(blk_cell BK0.out 0).trans rfl, (blk_cell BK0.out 1).trans rfl, (blk_cell BK0.out 2).trans rfl, (blk_cell BK0.out 3).trans rfl, ((HB.out.cell (World.block_lt_of_cell? w _ hw253_0)).trans hw253_0), ((HB.out.cell (World.block_lt_of_cell? w _ hw253_1)).trans hw253_1), ((HB.out.cell (World.block_lt_of_cell? w _ hw256_0)).trans hw256_0), ((HB.out.cell (World.block_lt_of_cell? w _ hw256_1)).trans hw256_1)⟩ (fun hHeld => ?_)
 clear hK K
 refine norm_ (a' := ?_) ?_ ?_
 rotate_left
 {
 show Act.put _ (some 147) _ = _
 simp only [Act.put, List.setIfInBounds_toArray, List.set_cons_zero, List.set_cons_succ, i64_w, i32_w]
 rfl}
 refine pu_ 41 148 m102_ (any_of HT_.out s2_) ?_
 refine pu_ 42 149 m103_ (any_of HT_.out s2_) ?_
 refine pu_ 43 150 m104_ (any_of HT_.out s2_) ?_
 refine pu_ 44 151 m105_ (any_of HT_.out s2_) ?_
 refine pu_ 45 152 m106_ (any_of HT_.out s2_) ?_
 refine pu_ 46 153 m107_ (any_of HT_.out s2_) ?_
 refine pu_ 47 154 m108_ (any_of HT_.out s2_) ?_
 refine take_ (i := 48) (N := some 155) (v := ?_) (a' := ?_) m109_ rfl rfl (take_ofW HT_.out HW_.out s2_) (fun _ _ _ h => h) (Or.inl ⟨by rfl, ?_⟩) hHeld ?_ ?_
 rotate_left
 {
 rintro w' ⟨s0, s1, s2, s3, s4, s5, s6, s7⟩
 go_simp
 with_reducible rfl}
 rotate_left
 · exact p1_
 refine one_ (i := 49) (N := some 156) m110_ rfl rfl (one_of HT_.out s2_) (by decide) (fun K hK => ?_)
 refine goes_ Try.func82 s2_ rfl #[.pointer (some ⟨g0_, 0, none⟩), .int .i64 ((rd_T73 l0_3 x5_3).f0)] (by rfl) rfl rfl s3_ ?_
 with_reducible refine (spec_l02Invited.calls k3 g0_ x1000_3 A0_1 c0_1 l0_1 A0_2 c0_2 l0_2 (some ad252) c0_3 l0_3 ((rd_T73 l0_3 x5_3).f0) t258 _ ?side1 ?side2 ?side3 ?side4 ?side5 ?side6 ?side7 A57.out).mono ?_
 (case side1 => exact (b1_ BK0.out))
 (case side2 => repeat (first | exact (Kd.C_below HR0_1.out HB.out) | (with_reducible refine Kd.C_alloc ?_ _) | (with_reducible refine Kd.C_drewN ?_ _) | (with_reducible refine Kd.C_drew ?_)))
 (case side3 => exact HC0_1.out)
 (case side4 => repeat (first | exact (Kd.C_below HR0_2.out HB.out) | (with_reducible refine Kd.C_alloc ?_ _) | (with_reducible refine Kd.C_drewN ?_ _) | (with_reducible refine Kd.C_drew ?_)))
 (case side5 => exact HC0_2.out)
 (case side6 => repeat (first | exact (Kd.C_below HR0_3.out HB.out) | (with_reducible refine Kd.C_alloc ?_ _) | (with_reducible refine Kd.C_drewN ?_ _) | (with_reducible refine Kd.C_drew ?_)))
 (case side7 => exact HC0_3.out)
 rintro e w60 ⟨rfl, hb⟩
 refine ⟨_, rfl, ?_⟩
 have n0_ := Aside0.mk (blk_below (g := g0_) (o := .cells #[.bool x1000_3, .slice A0_1 l0_1.length c0_1, .slice A0_2 l0_2.length c0_2, .slice (some ad252) l0_3.length c0_3] 28 (0, 0)) (b1_ BK0.out) hb)
 have n1_ := Aside0.mk (below_step (by repeat (first | (with_reducible first | exact HB.out | apply below_alloc | apply pw_below_drewN | apply below_drew1 | refine below_set ?_ GE0.out) | exact HB.out)) hb)
 clear BK0
 clear HB
 have BK0 := n0_
 have HB := n1_
 clear n0_ n1_
 (try clear hb)
 (try clear hb2)
 (try clear hk)
 (try clear hi)
 refine hK.out _ _ ⟨(blk_cell BK0.out 0).trans rfl, (blk_cell BK0.out 1).trans rfl, (blk_cell BK0.out 2).trans rfl, (blk_cell BK0.out 3).trans rfl, ((HB.out.cell (World.block_lt_of_cell? w _ hw253_0)).trans hw253_0), ((HB.out.cell (World.block_lt_of_cell? w _ hw253_1)).trans hw253_1), ((HB.out.cell (World.block_lt_of_cell? w _ hw256_0)).trans hw256_0), ((HB.out.cell (World.block_lt_of_cell? w _ hw256_1)).trans hw256_1)⟩ (fun hHeld => ?_)
 clear hK K
 refine norm_ (a' := ?_) ?_ ?_
 rotate_left
 {
 show Act.put _ (some 156) _ = _
 simp only [Act.put, List.setIfInBounds_toArray, List.set_cons_zero, List.set_cons_succ, i64_w, i32_w]
 rfl}
 refine pu_ 50 157 m111_ (any_of HT_.out s2_) ?_
 refine pu_ 51 158 m112_ (any_of HT_.out s2_) ?_
 refine done_ (done_of HT_.out s2_) ?_
 try go_wp2
 go_meet
 case rel => exact ⟨_, (decide (t258 ≥ 0)), (x1000_3), s1_, H', ⟨by have := HJ1.out; have := HK2.out; have := HK3.out; first | omega | exact Nat.le_refl _⟩, ⟨b1_ BK0.out⟩, ⟨by repeat (first | (with_reducible first | exact HB.out | apply below_alloc | apply pw_below_drewN | apply below_drew1 | refine below_set ?_ GE0.out) | exact HB.out)⟩⟩}}}
 {
 rw [if_neg c50] at H
 exact absurd H (by simp)}}
 {
 rw [if_neg c49] at H
 exact absurd H (by simp)}}
 {
 rw [if_neg c47] at H
 have c47b0 : decide (0 < x5_3) = false := decide_eq_false c47
 clear c47
 (first | rw [c47b0] | (simp only [i64_w, i32_w]; rw [c47b0]) | skip)
 replace H := Option.bind_eq_some_iff.mp H
 obtain ⟨t259, A610, H⟩ := H
 replace H : (if t259 ≥ 0 then (spec_l02Is.j4 k3 x5_3 true x1000_3 l0_1 l0_2 l0_3) else ((spec_l02Invited.f k3 x1000_3 l0_1 l0_2 l0_3 ((rd_T73 l0_3 x5_3).f0)).bind fun t260 => (spec_l02Is.j4 k3 x5_3 (decide (t260 ≥ 0)) x1000_3 l0_1 l0_2 l0_3))) = some r := H
 have A61 := Aside0.mk A610
 clear A610
 by_cases c62 : t259 ≥ 0
 {
 rw [if_pos c62] at H
 have c62b0 : decide (0 ≤ t259) = true := decide_eq_true c62
 clear c62
 have H' := Aside0.mk H
 clear H
 try go_wp2
 have n0_ := Aside0.mk (blk_drew BK0.out)
 have n1_ := Aside0.mk (below_drew1 HB.out)
 clear BK0
 clear HB
 have BK0 := n0_
 have HB := n1_
 clear n0_ n1_
 have p253 : 0 ≤ (x5_3 : Int) := of_decide_eq_true (by first | (with_reducible assumption) | assumption)
 have q253 : x5_3 < (l0_3.length : Int) := of_decide_eq_true (by first | (with_reducible assumption) | assumption)
 obtain ⟨ad253, e253, hx253_0, hx253_1⟩ := at_T73 HR0_3.out x5_3 p253 q253
 have hw253_1 := hx253_1
 have hw253_0 := hx253_0
 obtain rfl : ad252 = ad253 := (by injection e253)
 replace hx253_0 := (HB.out.cell (World.block_lt_of_cell? w _ hx253_0)).trans hx253_0
 replace hx253_1 := (HB.out.cell (World.block_lt_of_cell? w _ hx253_1)).trans hx253_1
 replace p253 := eq_true p253
 replace q253 := eq_true q253
 refine start_ (n := 52) (S := fun w' => w'.cell? (ad252.add ((x5_3).toNat * 2)) = some (.int .i64 ((rd_T73 l0_3 x5_3).f0)) ∧ w'.cell? ⟨(ad252.add ((x5_3).toNat * 2)).block, (ad252.add ((x5_3).toNat * 2)).off + 1, none⟩ = some (.int .i64 ((rd_T73 l0_3 x5_3).f1))) (ds := []) m60_ s2_ rfl rfl ⟨((HB.out.cell (World.block_lt_of_cell? w _ hw253_0)).trans hw253_0), ((HB.out.cell (World.block_lt_of_cell? w _ hw253_1)).trans hw253_1)⟩ (fun hHeld => ?_); refine with_tabW spec_l02Is.tab13 spec_l02Is.bits13 (fun HT_ HW_ => ?_)
 generalize wr.drew = w63 at BK0 HB hx253_0 hx253_1 hHeld ⊢
 refine pu_ 0 107 m61_ (any_of HT_.out s2_) ?_
 refine pu_ 1 108 m62_ (any_of HT_.out s2_) ?_
 refine pu_ 2 109 m63_ (any_of HT_.out s2_) ?_
 refine take_ (i := 3) (N := some 110) (v := ?_) (a' := ?_) m64_ rfl rfl (take_ofW HT_.out HW_.out s2_) (fun _ _ _ h => h) (Or.inl ⟨by rfl, ?_⟩) hHeld ?_ ?_
 rotate_left
 {
 rintro w' ⟨s0, s1⟩
 go_simp
 with_reducible rfl}
 rotate_left
 · exact p1_
 refine one_ (i := 4) (N := some 111) m65_ rfl rfl (one_of HT_.out s2_) (by decide) (fun K hK => ?_)
 refine goes_ Try.func40 s2_ rfl #[.int .i64 ((rd_T73 l0_3 x5_3).f0)] (by rfl) rfl rfl s3_ ?_
 with_reducible refine (spec_l02Id.calls ((rd_T73 l0_3 x5_3).f0) true _ A43.out).mono ?_
 rintro e w' ⟨rfl, ⟨nd, rfl⟩⟩
 refine ⟨_, rfl, ?_⟩
 refine hK.out _ _ ⟨((HB.out.cell (World.block_lt_of_cell? w _ hw253_0)).trans hw253_0), ((HB.out.cell (World.block_lt_of_cell? w _ hw253_1)).trans hw253_1)⟩ (fun hHeld => ?_)
 clear hK K
 refine norm_ (a' := ?_) ?_ ?_
 rotate_left
 {
 show Act.put _ (some 111) _ = _
 simp only [Act.put, List.setIfInBounds_toArray, List.set_cons_zero, List.set_cons_succ, i64_w, i32_w]
 rfl}
 refine pu_ 5 112 m66_ (any_of HT_.out s2_) ?_
 refine pu_ 6 113 m67_ (any_of HT_.out s2_) ?_
 refine pu_ 7 114 m68_ (any_of HT_.out s2_) ?_
 refine pu_ 8 115 m69_ (any_of HT_.out s2_) ?_
 refine pu_ 9 116 m70_ (any_of HT_.out s2_) ?_
 refine take_ (i := 10) (N := some 117) (v := ?_) (a' := ?_) m71_ rfl rfl (take_ofW HT_.out HW_.out s2_) (fun _ _ _ h => h) (Or.inl ⟨by rfl, ?_⟩) hHeld ?_ ?_
 rotate_left
 {
 rintro w' ⟨s0, s1⟩
 go_simp
 with_reducible rfl}
 rotate_left
 · exact p1_
 refine one_ (i := 11) (N := some 118) m72_ rfl rfl (one_of HT_.out s2_) (by decide) (fun K hK => ?_)
 refine goes_ Try.func41 s2_ rfl #[.int .i64 ((rd_T73 l0_3 x5_3).f1)] (by rfl) rfl rfl s3_ ?_
 with_reducible refine (spec_l02Tick.calls ((rd_T73 l0_3 x5_3).f1) true _ A45.out).mono ?_
 rintro e w' ⟨rfl, ⟨nd, rfl⟩⟩
 refine ⟨_, rfl, ?_⟩
 refine hK.out _ _ ⟨((HB.out.cell (World.block_lt_of_cell? w _ hw253_0)).trans hw253_0), ((HB.out.cell (World.block_lt_of_cell? w _ hw253_1)).trans hw253_1)⟩ (fun hHeld => ?_)
 clear hK K
 refine norm_ (a' := ?_) ?_ ?_
 rotate_left
 {
 show Act.put _ (some 118) _ = _
 simp only [Act.put, List.setIfInBounds_toArray, List.set_cons_zero, List.set_cons_succ, i64_w, i32_w]
 rfl}
 refine pu_ 12 119 m73_ (any_of HT_.out s2_) ?_
 refine pu_ 13 120 m74_ (any_of HT_.out s2_) ?_
 refine pu_ 14 121 m75_ (any_of HT_.out s2_) ?_
 refine pu_ 15 122 m76_ (any_of HT_.out s2_) ?_
 refine pu_ 16 123 m77_ (any_of HT_.out s2_) ?_
 refine pu_ 17 124 m78_ (any_of HT_.out s2_) ?_
 refine pn_ 18 125 m79_ (any_of HT_.out s2_) ?_
 refine pn_ 19 126 m80_ (any_of HT_.out s2_) ?_
 refine pn_ 20 127 m81_ (any_of HT_.out s2_) ?_
 refine pn_ 21 128 m113_ (any_of HT_.out s2_) ?_
 refine pn_ 22 129 m114_ (any_of HT_.out s2_) ?_
 refine pn_ 23 130 m115_ (any_of HT_.out s2_) ?_
 refine pn_ 24 131 m116_ (any_of HT_.out s2_) ?_
 refine pn_ 25 132 m117_ (any_of HT_.out s2_) ?_
 refine pn_ 26 133 m118_ (any_of HT_.out s2_) ?_
 refine pn_ 27 134 m119_ (any_of HT_.out s2_) ?_
 refine pn_ 28 135 m120_ (any_of HT_.out s2_) ?_
 refine pn_ 29 136 m90_ (any_of HT_.out s2_) ?_
 refine pn_ 30 137 m91_ (any_of HT_.out s2_) ?_
 refine pn_ 31 138 m92_ (any_of HT_.out s2_) ?_
 refine pu_ 32 139 m93_ (any_of HT_.out s2_) ?_
 refine pu_ 33 140 m94_ (any_of HT_.out s2_) ?_
 refine pu_ 34 141 m95_ (any_of HT_.out s2_) ?_
 refine pu_ 35 142 m96_ (any_of HT_.out s2_) ?_
 refine pu_ 36 143 m97_ (any_of HT_.out s2_) ?_
 refine pu_ 37 144 m98_ (any_of HT_.out s2_) ?_
 refine pu_ 38 145 m99_ (any_of HT_.out s2_) ?_
 refine take_ (i := 39) (N := some 146) (v := ?_) (a' := ?_) m100_ rfl rfl (take_ofW HT_.out HW_.out s2_) (fun _ _ _ h => h) (Or.inl ⟨by rfl, ?_⟩) hHeld ?_ ?_
 rotate_left
 {
 rintro w' ⟨s0, s1⟩
 go_simp
 with_reducible rfl}
 rotate_left
 · exact p1_
 refine one_ (i := 40) (N := some 147) m101_ rfl rfl (one_of HT_.out s2_) (by decide) (fun K hK => ?_)
 refine goes_ Try.func58 s2_ rfl #[.pointer (some ⟨g0_, 0, none⟩), .int .i64 ((rd_T73 l0_3 x5_3).f0)] (by rfl) rfl rfl s3_ ?_
 with_reducible refine (spec_l02Find.calls k3 g0_ x1000_3 A0_1 c0_1 l0_1 A0_2 c0_2 l0_2 (some ad252) c0_3 l0_3 ((rd_T73 l0_3 x5_3).f0) t259 _ ?side1 ?side2 ?side3 ?side4 ?side5 ?side6 ?side7 A61.out).mono ?_
 (case side1 => exact (b1_ BK0.out))
 (case side2 => repeat (first | exact (Kd.C_below HR0_1.out (by repeat (first | (with_reducible first | exact HB.out | apply below_alloc | apply pw_below_drewN | apply below_drew1 | refine below_set ?_ GE0.out) | exact HB.out))) | (with_reducible refine Kd.C_alloc ?_ _) | (with_reducible refine Kd.C_drewN ?_ _) | (with_reducible refine Kd.C_drew ?_)))
 (case side3 => exact HC0_1.out)
 (case side4 => repeat (first | exact (Kd.C_below HR0_2.out (by repeat (first | (with_reducible first | exact HB.out | apply below_alloc | apply pw_below_drewN | apply below_drew1 | refine below_set ?_ GE0.out) | exact HB.out))) | (with_reducible refine Kd.C_alloc ?_ _) | (with_reducible refine Kd.C_drewN ?_ _) | (with_reducible refine Kd.C_drew ?_)))
 (case side5 => exact HC0_2.out)
 (case side6 => repeat (first | exact (Kd.C_below HR0_3.out (by repeat (first | (with_reducible first | exact HB.out | apply below_alloc | apply pw_below_drewN | apply below_drew1 | refine below_set ?_ GE0.out) | exact HB.out))) | (with_reducible refine Kd.C_alloc ?_ _) | (with_reducible refine Kd.C_drewN ?_ _) | (with_reducible refine Kd.C_drew ?_)))
 (case side7 => exact HC0_3.out)
 rintro e w64 ⟨rfl, hb⟩
 refine ⟨_, rfl, ?_⟩
 have n0_ := Aside0.mk (blk_below (g := g0_) (o := .cells #[.bool x1000_3, .slice A0_1 l0_1.length c0_1, .slice A0_2 l0_2.length c0_2, .slice (some ad252) l0_3.length c0_3] 28 (0, 0)) (b1_ BK0.out) hb)
 have n1_ := Aside0.mk (below_step (by repeat (first | (with_reducible first | exact HB.out | apply below_alloc | apply pw_below_drewN | apply below_drew1 | refine below_set ?_ GE0.out) | exact HB.out)) hb)
 clear BK0
 clear HB
 have BK0 := n0_
 have HB := n1_
 clear n0_ n1_
 (try clear hb)
 (try clear hb2)
 (try clear hk)
 (try clear hi)
 refine hK.out _ _ ⟨((HB.out.cell (World.block_lt_of_cell? w _ hw253_0)).trans hw253_0), ((HB.out.cell (World.block_lt_of_cell? w _ hw253_1)).trans hw253_1)⟩ (fun hHeld => ?_)
 clear hK K
 refine norm_ (a' := ?_) ?_ ?_
 rotate_left
 {
 show Act.put _ (some 147) _ = _
 simp only [Act.put, List.setIfInBounds_toArray, List.set_cons_zero, List.set_cons_succ, i64_w, i32_w]
 rfl}
 refine pu_ 41 148 m102_ (any_of HT_.out s2_) ?_
 refine pu_ 42 149 m103_ (any_of HT_.out s2_) ?_
 refine pu_ 43 150 m104_ (any_of HT_.out s2_) ?_
 refine pn_ 44 151 m105_ (any_of HT_.out s2_) ?_
 refine pn_ 45 152 m106_ (any_of HT_.out s2_) ?_
 refine pn_ 46 153 m107_ (any_of HT_.out s2_) ?_
 refine pn_ 47 154 m108_ (any_of HT_.out s2_) ?_
 refine pn_ 48 155 m109_ (any_of HT_.out s2_) ?_
 refine pn_ 49 156 m110_ (any_of HT_.out s2_) ?_
 refine pn_ 50 157 m111_ (any_of HT_.out s2_) ?_
 refine pu_ 51 158 m112_ (any_of HT_.out s2_) ?_
 refine done_ (done_of HT_.out s2_) ?_
 try go_wp2
 go_meet
 case rel => exact ⟨_, (true), (x1000_3), s1_, H', ⟨by have := HJ1.out; have := HK2.out; have := HK3.out; first | omega | exact Nat.le_refl _⟩, ⟨b1_ BK0.out⟩, ⟨by repeat (first | (with_reducible first | exact HB.out | apply below_alloc | apply pw_below_drewN | apply below_drew1 | refine below_set ?_ GE0.out) | exact HB.out)⟩⟩}
 {
 rw [if_neg c62] at H
 have c62b0 : decide (0 ≤ t259) = false := decide_eq_false c62
 clear c62
 replace H := Option.bind_eq_some_iff.mp H
 obtain ⟨t260, A650, H⟩ := H
 replace H : (spec_l02Is.j4 k3 x5_3 (decide (t260 ≥ 0)) x1000_3 l0_1 l0_2 l0_3) = some r := H
 have A65 := Aside0.mk A650
 clear A650
 have H' := Aside0.mk H
 clear H
 try go_wp2
 have n0_ := Aside0.mk (blk_drew BK0.out)
 have n1_ := Aside0.mk (below_drew1 HB.out)
 clear BK0
 clear HB
 have BK0 := n0_
 have HB := n1_
 clear n0_ n1_
 have p253 : 0 ≤ (x5_3 : Int) := of_decide_eq_true (by first | (with_reducible assumption) | assumption)
 have q253 : x5_3 < (l0_3.length : Int) := of_decide_eq_true (by first | (with_reducible assumption) | assumption)
 obtain ⟨ad253, e253, hx253_0, hx253_1⟩ := at_T73 HR0_3.out x5_3 p253 q253
 have hw253_1 := hx253_1
 have hw253_0 := hx253_0
 obtain rfl : ad252 = ad253 := (by injection e253)
 replace hx253_0 := (HB.out.cell (World.block_lt_of_cell? w _ hx253_0)).trans hx253_0
 replace hx253_1 := (HB.out.cell (World.block_lt_of_cell? w _ hx253_1)).trans hx253_1
 replace p253 := eq_true p253
 replace q253 := eq_true q253
 refine start_ (n := 52) (S := fun w' => w'.cell? (ad252.add ((x5_3).toNat * 2)) = some (.int .i64 ((rd_T73 l0_3 x5_3).f0)) ∧ w'.cell? ⟨(ad252.add ((x5_3).toNat * 2)).block, (ad252.add ((x5_3).toNat * 2)).off + 1, none⟩ = some (.int .i64 ((rd_T73 l0_3 x5_3).f1))) (ds := []) m60_ s2_ rfl rfl ⟨((HB.out.cell (World.block_lt_of_cell? w _ hw253_0)).trans hw253_0), ((HB.out.cell (World.block_lt_of_cell? w _ hw253_1)).trans hw253_1)⟩ (fun hHeld => ?_); refine with_tabW spec_l02Is.tab13 spec_l02Is.bits13 (fun HT_ HW_ => ?_)
 generalize wr.drew = w66 at BK0 HB hx253_0 hx253_1 hHeld ⊢
 refine pu_ 0 107 m61_ (any_of HT_.out s2_) ?_
 refine pu_ 1 108 m62_ (any_of HT_.out s2_) ?_
 refine pu_ 2 109 m63_ (any_of HT_.out s2_) ?_
 refine take_ (i := 3) (N := some 110) (v := ?_) (a' := ?_) m64_ rfl rfl (take_ofW HT_.out HW_.out s2_) (fun _ _ _ h => h) (Or.inl ⟨by rfl, ?_⟩) hHeld ?_ ?_
 rotate_left
 {
 rintro w' ⟨s0, s1⟩
 go_simp
 with_reducible rfl}
 rotate_left
 · exact p1_
 refine one_ (i := 4) (N := some 111) m65_ rfl rfl (one_of HT_.out s2_) (by decide) (fun K hK => ?_)
 refine goes_ Try.func40 s2_ rfl #[.int .i64 ((rd_T73 l0_3 x5_3).f0)] (by rfl) rfl rfl s3_ ?_
 with_reducible refine (spec_l02Id.calls ((rd_T73 l0_3 x5_3).f0) true _ A43.out).mono ?_
 rintro e w' ⟨rfl, ⟨nd, rfl⟩⟩
 refine ⟨_, rfl, ?_⟩
 refine hK.out _ _ ⟨((HB.out.cell (World.block_lt_of_cell? w _ hw253_0)).trans hw253_0), ((HB.out.cell (World.block_lt_of_cell? w _ hw253_1)).trans hw253_1)⟩ (fun hHeld => ?_)
 clear hK K
 refine norm_ (a' := ?_) ?_ ?_
 rotate_left
 {
 show Act.put _ (some 111) _ = _
 simp only [Act.put, List.setIfInBounds_toArray, List.set_cons_zero, List.set_cons_succ, i64_w, i32_w]
 rfl}
 refine pu_ 5 112 m66_ (any_of HT_.out s2_) ?_
 refine pu_ 6 113 m67_ (any_of HT_.out s2_) ?_
 refine pu_ 7 114 m68_ (any_of HT_.out s2_) ?_
 refine pu_ 8 115 m69_ (any_of HT_.out s2_) ?_
 refine pu_ 9 116 m70_ (any_of HT_.out s2_) ?_
 refine take_ (i := 10) (N := some 117) (v := ?_) (a' := ?_) m71_ rfl rfl (take_ofW HT_.out HW_.out s2_) (fun _ _ _ h => h) (Or.inl ⟨by rfl, ?_⟩) hHeld ?_ ?_
 rotate_left
 {
 rintro w' ⟨s0, s1⟩
 go_simp
 with_reducible rfl}
 rotate_left
 · exact p1_
 refine one_ (i := 11) (N := some 118) m72_ rfl rfl (one_of HT_.out s2_) (by decide) (fun K hK => ?_)
 refine goes_ Try.func41 s2_ rfl #[.int .i64 ((rd_T73 l0_3 x5_3).f1)] (by rfl) rfl rfl s3_ ?_
 with_reducible refine (spec_l02Tick.calls ((rd_T73 l0_3 x5_3).f1) true _ A45.out).mono ?_
 rintro e w' ⟨rfl, ⟨nd, rfl⟩⟩
 refine ⟨_, rfl, ?_⟩
 refine hK.out _ _ ⟨((HB.out.cell (World.block_lt_of_cell? w _ hw253_0)).trans hw253_0), ((HB.out.cell (World.block_lt_of_cell? w _ hw253_1)).trans hw253_1)⟩ (fun hHeld => ?_)
 clear hK K
 refine norm_ (a' := ?_) ?_ ?_
 rotate_left
 {
 show Act.put _ (some 118) _ = _
 simp only [Act.put, List.setIfInBounds_toArray, List.set_cons_zero, List.set_cons_succ, i64_w, i32_w]
 rfl}
 refine pu_ 12 119 m73_ (any_of HT_.out s2_) ?_
 refine pu_ 13 120 m74_ (any_of HT_.out s2_) ?_
 refine pu_ 14 121 m75_ (any_of HT_.out s2_) ?_
 refine pu_ 15 122 m76_ (any_of HT_.out s2_) ?_
 refine pu_ 16 123 m77_ (any_of HT_.out s2_) ?_
 refine pu_ 17 124 m78_ (any_of HT_.out s2_) ?_
 refine pn_ 18 125 m79_ (any_of HT_.out s2_) ?_
 refine pn_ 19 126 m80_ (any_of HT_.out s2_) ?_
 refine pn_ 20 127 m81_ (any_of HT_.out s2_) ?_
 refine pn_ 21 128 m113_ (any_of HT_.out s2_) ?_
 refine pn_ 22 129 m114_ (any_of HT_.out s2_) ?_
 refine pn_ 23 130 m115_ (any_of HT_.out s2_) ?_
 refine pn_ 24 131 m116_ (any_of HT_.out s2_) ?_
 refine pn_ 25 132 m117_ (any_of HT_.out s2_) ?_
 refine pn_ 26 133 m118_ (any_of HT_.out s2_) ?_
 refine pn_ 27 134 m119_ (any_of HT_.out s2_) ?_
 refine pn_ 28 135 m120_ (any_of HT_.out s2_) ?_
 refine pn_ 29 136 m90_ (any_of HT_.out s2_) ?_
 refine pn_ 30 137 m91_ (any_of HT_.out s2_) ?_
 refine pn_ 31 138 m92_ (any_of HT_.out s2_) ?_
 refine pu_ 32 139 m93_ (any_of HT_.out s2_) ?_
 refine pu_ 33 140 m94_ (any_of HT_.out s2_) ?_
 refine pu_ 34 141 m95_ (any_of HT_.out s2_) ?_
 refine pu_ 35 142 m96_ (any_of HT_.out s2_) ?_
 refine pu_ 36 143 m97_ (any_of HT_.out s2_) ?_
 refine pu_ 37 144 m98_ (any_of HT_.out s2_) ?_
 refine pu_ 38 145 m99_ (any_of HT_.out s2_) ?_
 refine take_ (i := 39) (N := some 146) (v := ?_) (a' := ?_) m100_ rfl rfl (take_ofW HT_.out HW_.out s2_) (fun _ _ _ h => h) (Or.inl ⟨by rfl, ?_⟩) hHeld ?_ ?_
 rotate_left
 {
 rintro w' ⟨s0, s1⟩
 go_simp
 with_reducible rfl}
 rotate_left
 · exact p1_
 refine one_ (i := 40) (N := some 147) m101_ rfl rfl (one_of HT_.out s2_) (by decide) (fun K hK => ?_)
 refine goes_ Try.func58 s2_ rfl #[.pointer (some ⟨g0_, 0, none⟩), .int .i64 ((rd_T73 l0_3 x5_3).f0)] (by rfl) rfl rfl s3_ ?_
 with_reducible refine (spec_l02Find.calls k3 g0_ x1000_3 A0_1 c0_1 l0_1 A0_2 c0_2 l0_2 (some ad252) c0_3 l0_3 ((rd_T73 l0_3 x5_3).f0) t259 _ ?side1 ?side2 ?side3 ?side4 ?side5 ?side6 ?side7 A61.out).mono ?_
 (case side1 => exact (b1_ BK0.out))
 (case side2 => repeat (first | exact (Kd.C_below HR0_1.out (by repeat (first | (with_reducible first | exact HB.out | apply below_alloc | apply pw_below_drewN | apply below_drew1 | refine below_set ?_ GE0.out) | exact HB.out))) | (with_reducible refine Kd.C_alloc ?_ _) | (with_reducible refine Kd.C_drewN ?_ _) | (with_reducible refine Kd.C_drew ?_)))
 (case side3 => exact HC0_1.out)
 (case side4 => repeat (first | exact (Kd.C_below HR0_2.out (by repeat (first | (with_reducible first | exact HB.out | apply below_alloc | apply pw_below_drewN | apply below_drew1 | refine below_set ?_ GE0.out) | exact HB.out))) | (with_reducible refine Kd.C_alloc ?_ _) | (with_reducible refine Kd.C_drewN ?_ _) | (with_reducible refine Kd.C_drew ?_)))
 (case side5 => exact HC0_2.out)
 (case side6 => repeat (first | exact (Kd.C_below HR0_3.out (by repeat (first | (with_reducible first | exact HB.out | apply below_alloc | apply pw_below_drewN | apply below_drew1 | refine below_set ?_ GE0.out) | exact HB.out))) | (with_reducible refine Kd.C_alloc ?_ _) | (with_reducible refine Kd.C_drewN ?_ _) | (with_reducible refine Kd.C_drew ?_)))
 (case side7 => exact HC0_3.out)
 rintro e w67 ⟨rfl, hb⟩
 refine ⟨_, rfl, ?_⟩
 have n0_ := Aside0.mk (blk_below (g := g0_) (o := .cells #[.bool x1000_3, .slice A0_1 l0_1.length c0_1, .slice A0_2 l0_2.length c0_2, .slice (some ad252) l0_3.length c0_3] 28 (0, 0)) (b1_ BK0.out) hb)
 have n1_ := Aside0.mk (below_step (by repeat (first | (with_reducible first | exact HB.out | apply below_alloc | apply pw_below_drewN | apply below_drew1 | refine below_set ?_ GE0.out) | exact HB.out)) hb)
 clear BK0
 clear HB
 have BK0 := n0_
 have HB := n1_
 clear n0_ n1_
 (try clear hb)
 (try clear hb2)
 (try clear hk)
 (try clear hi)
 refine hK.out _ _ ⟨((HB.out.cell (World.block_lt_of_cell? w _ hw253_0)).trans hw253_0), ((HB.out.cell (World.block_lt_of_cell? w _ hw253_1)).trans hw253_1)⟩ (fun hHeld => ?_)
 clear hK K
 refine norm_ (a' := ?_) ?_ ?_
 rotate_left
 {
 show Act.put _ (some 147) _ = _
 simp only [Act.put, List.setIfInBounds_toArray, List.set_cons_zero, List.set_cons_succ, i64_w, i32_w]
 rfl}
 refine pu_ 41 148 m102_ (any_of HT_.out s2_) ?_
 refine pu_ 42 149 m103_ (any_of HT_.out s2_) ?_
 refine pu_ 43 150 m104_ (any_of HT_.out s2_) ?_
 refine pu_ 44 151 m105_ (any_of HT_.out s2_) ?_
 refine pu_ 45 152 m106_ (any_of HT_.out s2_) ?_
 refine pu_ 46 153 m107_ (any_of HT_.out s2_) ?_
 refine pu_ 47 154 m108_ (any_of HT_.out s2_) ?_
 refine take_ (i := 48) (N := some 155) (v := ?_) (a' := ?_) m109_ rfl rfl (take_ofW HT_.out HW_.out s2_) (fun _ _ _ h => h) (Or.inl ⟨by rfl, ?_⟩) hHeld ?_ ?_
 rotate_left
 {
 rintro w' ⟨s0, s1⟩
 go_simp
 with_reducible rfl}
 rotate_left
 · exact p1_
 refine one_ (i := 49) (N := some 156) m110_ rfl rfl (one_of HT_.out s2_) (by decide) (fun K hK => ?_)
 refine goes_ Try.func82 s2_ rfl #[.pointer (some ⟨g0_, 0, none⟩), .int .i64 ((rd_T73 l0_3 x5_3).f0)] (by rfl) rfl rfl s3_ ?_
 with_reducible refine (spec_l02Invited.calls k3 g0_ x1000_3 A0_1 c0_1 l0_1 A0_2 c0_2 l0_2 (some ad252) c0_3 l0_3 ((rd_T73 l0_3 x5_3).f0) t260 _ ?side1 ?side2 ?side3 ?side4 ?side5 ?side6 ?side7 A65.out).mono ?_
 (case side1 => exact (b1_ BK0.out))
 (case side2 => repeat (first | exact (Kd.C_below HR0_1.out HB.out) | (with_reducible refine Kd.C_alloc ?_ _) | (with_reducible refine Kd.C_drewN ?_ _) | (with_reducible refine Kd.C_drew ?_)))
 (case side3 => exact HC0_1.out)
 (case side4 => repeat (first | exact (Kd.C_below HR0_2.out HB.out) | (with_reducible refine Kd.C_alloc ?_ _) | (with_reducible refine Kd.C_drewN ?_ _) | (with_reducible refine Kd.C_drew ?_)))
 (case side5 => exact HC0_2.out)
 (case side6 => repeat (first | exact (Kd.C_below HR0_3.out HB.out) | (with_reducible refine Kd.C_alloc ?_ _) | (with_reducible refine Kd.C_drewN ?_ _) | (with_reducible refine Kd.C_drew ?_)))
 (case side7 => exact HC0_3.out)
 rintro e w68 ⟨rfl, hb⟩
 refine ⟨_, rfl, ?_⟩
 have n0_ := Aside0.mk (blk_below (g := g0_) (o := .cells #[.bool x1000_3, .slice A0_1 l0_1.length c0_1, .slice A0_2 l0_2.length c0_2, .slice (some ad252) l0_3.length c0_3] 28 (0, 0)) (b1_ BK0.out) hb)
 have n1_ := Aside0.mk (below_step (by repeat (first | (with_reducible first | exact HB.out | apply below_alloc | apply pw_below_drewN | apply below_drew1 | refine below_set ?_ GE0.out) | exact HB.out)) hb)
 clear BK0
 clear HB
 have BK0 := n0_
 have HB := n1_
 clear n0_ n1_
 (try clear hb)
 (try clear hb2)
 (try clear hk)
 (try clear hi)
 refine hK.out _ _ ⟨((HB.out.cell (World.block_lt_of_cell? w _ hw253_0)).trans hw253_0), ((HB.out.cell (World.block_lt_of_cell? w _ hw253_1)).trans hw253_1)⟩ (fun hHeld => ?_)
 clear hK K
 refine norm_ (a' := ?_) ?_ ?_
 rotate_left
 {
 show Act.put _ (some 156) _ = _
 simp only [Act.put, List.setIfInBounds_toArray, List.set_cons_zero, List.set_cons_succ, i64_w, i32_w]
 rfl}
 refine pu_ 50 157 m111_ (any_of HT_.out s2_) ?_
 refine pu_ 51 158 m112_ (any_of HT_.out s2_) ?_
 refine done_ (done_of HT_.out s2_) ?_
 try go_wp2
 go_meet
 case rel => exact ⟨_, (decide (t260 ≥ 0)), (x1000_3), s1_, H', ⟨by have := HJ1.out; have := HK2.out; have := HK3.out; first | omega | exact Nat.le_refl _⟩, ⟨b1_ BK0.out⟩, ⟨by repeat (first | (with_reducible first | exact HB.out | apply below_alloc | apply pw_below_drewN | apply below_drew1 | refine below_set ?_ GE0.out) | exact HB.out)⟩⟩}}}
 {
 replace c46 := Bool.eq_false_iff.mpr c46
 subst c46
 have H1 : (spec_l02Is.j4 k3 x5_3 true x1000_3 l0_1 l0_2 l0_3) = some r := by rw [if_neg (show ¬ (false = true) by decide)] at H; exact H
 clear H
 have H := H1
 clear H1
 have H' := Aside0.mk H
 clear H
 try go_wp2
 have n0_ := Aside0.mk (blk_drew BK0.out)
 have n1_ := Aside0.mk (below_drew1 HB.out)
 clear BK0
 clear HB
 have BK0 := n0_
 have HB := n1_
 clear n0_ n1_
 have p253 : 0 ≤ (x5_3 : Int) := of_decide_eq_true (by first | (with_reducible assumption) | assumption)
 have q253 : x5_3 < (l0_3.length : Int) := of_decide_eq_true (by first | (with_reducible assumption) | assumption)
 obtain ⟨ad253, e253, hx253_0, hx253_1⟩ := at_T73 HR0_3.out x5_3 p253 q253
 have hw253_1 := hx253_1
 have hw253_0 := hx253_0
 obtain rfl : ad252 = ad253 := (by injection e253)
 replace hx253_0 := (HB.out.cell (World.block_lt_of_cell? w _ hx253_0)).trans hx253_0
 replace hx253_1 := (HB.out.cell (World.block_lt_of_cell? w _ hx253_1)).trans hx253_1
 replace p253 := eq_true p253
 replace q253 := eq_true q253
 refine start_ (n := 52) (S := fun w' => w'.cell? (ad252.add ((x5_3).toNat * 2)) = some (.int .i64 ((rd_T73 l0_3 x5_3).f0)) ∧ w'.cell? ⟨(ad252.add ((x5_3).toNat * 2)).block, (ad252.add ((x5_3).toNat * 2)).off + 1, none⟩ = some (.int .i64 ((rd_T73 l0_3 x5_3).f1))) (ds := []) m60_ s2_ rfl rfl ⟨((HB.out.cell (World.block_lt_of_cell? w _ hw253_0)).trans hw253_0), ((HB.out.cell (World.block_lt_of_cell? w _ hw253_1)).trans hw253_1)⟩ (fun hHeld => ?_); refine with_tabW spec_l02Is.tab13 spec_l02Is.bits13 (fun HT_ HW_ => ?_)
 generalize wr.drew = w69 at BK0 HB hx253_0 hx253_1 hHeld ⊢
 refine pu_ 0 107 m61_ (any_of HT_.out s2_) ?_
 refine pu_ 1 108 m62_ (any_of HT_.out s2_) ?_
 refine pu_ 2 109 m63_ (any_of HT_.out s2_) ?_
 refine take_ (i := 3) (N := some 110) (v := ?_) (a' := ?_) m64_ rfl rfl (take_ofW HT_.out HW_.out s2_) (fun _ _ _ h => h) (Or.inl ⟨by rfl, ?_⟩) hHeld ?_ ?_
 rotate_left
 {
 rintro w' ⟨s0, s1⟩
 go_simp
 with_reducible rfl}
 rotate_left
 · exact p1_
 refine one_ (i := 4) (N := some 111) m65_ rfl rfl (one_of HT_.out s2_) (by decide) (fun K hK => ?_)
 refine goes_ Try.func40 s2_ rfl #[.int .i64 ((rd_T73 l0_3 x5_3).f0)] (by rfl) rfl rfl s3_ ?_
 with_reducible refine (spec_l02Id.calls ((rd_T73 l0_3 x5_3).f0) true _ A43.out).mono ?_
 rintro e w' ⟨rfl, ⟨nd, rfl⟩⟩
 refine ⟨_, rfl, ?_⟩
 refine hK.out _ _ ⟨((HB.out.cell (World.block_lt_of_cell? w _ hw253_0)).trans hw253_0), ((HB.out.cell (World.block_lt_of_cell? w _ hw253_1)).trans hw253_1)⟩ (fun hHeld => ?_)
 clear hK K
 refine norm_ (a' := ?_) ?_ ?_
 rotate_left
 {
 show Act.put _ (some 111) _ = _
 simp only [Act.put, List.setIfInBounds_toArray, List.set_cons_zero, List.set_cons_succ, i64_w, i32_w]
 rfl}
 refine pu_ 5 112 m66_ (any_of HT_.out s2_) ?_
 refine pu_ 6 113 m67_ (any_of HT_.out s2_) ?_
 refine pu_ 7 114 m68_ (any_of HT_.out s2_) ?_
 refine pu_ 8 115 m69_ (any_of HT_.out s2_) ?_
 refine pu_ 9 116 m70_ (any_of HT_.out s2_) ?_
 refine take_ (i := 10) (N := some 117) (v := ?_) (a' := ?_) m71_ rfl rfl (take_ofW HT_.out HW_.out s2_) (fun _ _ _ h => h) (Or.inl ⟨by rfl, ?_⟩) hHeld ?_ ?_
 rotate_left
 {
 rintro w' ⟨s0, s1⟩
 go_simp
 with_reducible rfl}
 rotate_left
 · exact p1_
 refine one_ (i := 11) (N := some 118) m72_ rfl rfl (one_of HT_.out s2_) (by decide) (fun K hK => ?_)
 refine goes_ Try.func41 s2_ rfl #[.int .i64 ((rd_T73 l0_3 x5_3).f1)] (by rfl) rfl rfl s3_ ?_
 with_reducible refine (spec_l02Tick.calls ((rd_T73 l0_3 x5_3).f1) false _ A45.out).mono ?_
 rintro e w' ⟨rfl, ⟨nd, rfl⟩⟩
 refine ⟨_, rfl, ?_⟩
 refine hK.out _ _ ⟨((HB.out.cell (World.block_lt_of_cell? w _ hw253_0)).trans hw253_0), ((HB.out.cell (World.block_lt_of_cell? w _ hw253_1)).trans hw253_1)⟩ (fun hHeld => ?_)
 clear hK K
 refine norm_ (a' := ?_) ?_ ?_
 rotate_left
 {
 show Act.put _ (some 118) _ = _
 simp only [Act.put, List.setIfInBounds_toArray, List.set_cons_zero, List.set_cons_succ, i64_w, i32_w]
 rfl}
 refine pu_ 12 119 m73_ (any_of HT_.out s2_) ?_
 refine pu_ 13 120 m74_ (any_of HT_.out s2_) ?_
 refine pu_ 14 121 m75_ (any_of HT_.out s2_) ?_
 refine pn_ 15 122 m76_ (any_of HT_.out s2_) ?_
 refine pn_ 16 123 m77_ (any_of HT_.out s2_) ?_
 refine pn_ 17 124 m78_ (any_of HT_.out s2_) ?_
 refine pn_ 18 125 m79_ (any_of HT_.out s2_) ?_
 refine pn_ 19 126 m80_ (any_of HT_.out s2_) ?_
 refine pn_ 20 127 m81_ (any_of HT_.out s2_) ?_
 refine pn_ 21 128 m113_ (any_of HT_.out s2_) ?_
 refine pn_ 22 129 m114_ (any_of HT_.out s2_) ?_
 refine pn_ 23 130 m115_ (any_of HT_.out s2_) ?_
 refine pn_ 24 131 m116_ (any_of HT_.out s2_) ?_
 refine pn_ 25 132 m117_ (any_of HT_.out s2_) ?_
 refine pn_ 26 133 m118_ (any_of HT_.out s2_) ?_
 refine pn_ 27 134 m119_ (any_of HT_.out s2_) ?_
 refine pn_ 28 135 m120_ (any_of HT_.out s2_) ?_
 refine pn_ 29 136 m90_ (any_of HT_.out s2_) ?_
 refine pn_ 30 137 m91_ (any_of HT_.out s2_) ?_
 refine pn_ 31 138 m92_ (any_of HT_.out s2_) ?_
 refine pn_ 32 139 m93_ (any_of HT_.out s2_) ?_
 refine pu_ 33 140 m94_ (any_of HT_.out s2_) ?_
 refine pu_ 34 141 m95_ (any_of HT_.out s2_) ?_
 refine pn_ 35 142 m96_ (any_of HT_.out s2_) ?_
 refine pn_ 36 143 m97_ (any_of HT_.out s2_) ?_
 refine pn_ 37 144 m98_ (any_of HT_.out s2_) ?_
 refine pn_ 38 145 m99_ (any_of HT_.out s2_) ?_
 refine pn_ 39 146 m100_ (any_of HT_.out s2_) ?_
 refine pn_ 40 147 m101_ (any_of HT_.out s2_) ?_
 refine pn_ 41 148 m102_ (any_of HT_.out s2_) ?_
 refine pu_ 42 149 m103_ (any_of HT_.out s2_) ?_
 refine pu_ 43 150 m104_ (any_of HT_.out s2_) ?_
 refine pn_ 44 151 m105_ (any_of HT_.out s2_) ?_
 refine pn_ 45 152 m106_ (any_of HT_.out s2_) ?_
 refine pn_ 46 153 m107_ (any_of HT_.out s2_) ?_
 refine pn_ 47 154 m108_ (any_of HT_.out s2_) ?_
 refine pn_ 48 155 m109_ (any_of HT_.out s2_) ?_
 refine pn_ 49 156 m110_ (any_of HT_.out s2_) ?_
 refine pn_ 50 157 m111_ (any_of HT_.out s2_) ?_
 refine pu_ 51 158 m112_ (any_of HT_.out s2_) ?_
 refine done_ (done_of HT_.out s2_) ?_
 try go_wp2
 go_meet
 case rel => exact ⟨_, (true), (x1000_3), s1_, H', ⟨by have := HJ1.out; have := HK2.out; have := HK3.out; first | omega | exact Nat.le_refl _⟩, ⟨b1_ BK0.out⟩, ⟨by repeat (first | (with_reducible first | exact HB.out | apply below_alloc | apply pw_below_drewN | apply below_drew1 | refine below_set ?_ GE0.out) | exact HB.out)⟩⟩}}
 {
 replace c44 := Bool.eq_false_iff.mpr c44
 subst c44
 have H1 : (spec_l02Is.j4 k3 x5_3 true x1000_3 l0_1 l0_2 l0_3) = some r := by rw [if_neg (show ¬ (false = true) by decide)] at H; exact H
 clear H
 have H := H1
 clear H1
 have H' := Aside0.mk H
 clear H
 try go_wp2
 have n0_ := Aside0.mk (blk_drew BK0.out)
 have n1_ := Aside0.mk (below_drew1 HB.out)
 clear BK0
 clear HB
 have BK0 := n0_
 have HB := n1_
 clear n0_ n1_
 have p253 : 0 ≤ (x5_3 : Int) := of_decide_eq_true (by first | (with_reducible assumption) | assumption)
 have q253 : x5_3 < (l0_3.length : Int) := of_decide_eq_true (by first | (with_reducible assumption) | assumption)
 obtain ⟨ad253, e253, hx253_0, hx253_1⟩ := at_T73 HR0_3.out x5_3 p253 q253
 have hw253_1 := hx253_1
 have hw253_0 := hx253_0
 obtain rfl : ad252 = ad253 := (by injection e253)
 replace hx253_0 := (HB.out.cell (World.block_lt_of_cell? w _ hx253_0)).trans hx253_0
 replace hx253_1 := (HB.out.cell (World.block_lt_of_cell? w _ hx253_1)).trans hx253_1
 replace p253 := eq_true p253
 replace q253 := eq_true q253
 refine start_ (n := 52) (S := fun w' => w'.cell? (ad252.add ((x5_3).toNat * 2)) = some (.int .i64 ((rd_T73 l0_3 x5_3).f0)) ∧ w'.cell? ⟨(ad252.add ((x5_3).toNat * 2)).block, (ad252.add ((x5_3).toNat * 2)).off + 1, none⟩ = some (.int .i64 ((rd_T73 l0_3 x5_3).f1))) (ds := []) m60_ s2_ rfl rfl ⟨((HB.out.cell (World.block_lt_of_cell? w _ hw253_0)).trans hw253_0), ((HB.out.cell (World.block_lt_of_cell? w _ hw253_1)).trans hw253_1)⟩ (fun hHeld => ?_); refine with_tabW spec_l02Is.tab13 spec_l02Is.bits13 (fun HT_ HW_ => ?_)
 generalize wr.drew = w70 at BK0 HB hx253_0 hx253_1 hHeld ⊢
 refine pu_ 0 107 m61_ (any_of HT_.out s2_) ?_
 refine pu_ 1 108 m62_ (any_of HT_.out s2_) ?_
 refine pu_ 2 109 m63_ (any_of HT_.out s2_) ?_
 refine take_ (i := 3) (N := some 110) (v := ?_) (a' := ?_) m64_ rfl rfl (take_ofW HT_.out HW_.out s2_) (fun _ _ _ h => h) (Or.inl ⟨by rfl, ?_⟩) hHeld ?_ ?_
 rotate_left
 {
 rintro w' ⟨s0, s1⟩
 go_simp
 with_reducible rfl}
 rotate_left
 · exact p1_
 refine one_ (i := 4) (N := some 111) m65_ rfl rfl (one_of HT_.out s2_) (by decide) (fun K hK => ?_)
 refine goes_ Try.func40 s2_ rfl #[.int .i64 ((rd_T73 l0_3 x5_3).f0)] (by rfl) rfl rfl s3_ ?_
 with_reducible refine (spec_l02Id.calls ((rd_T73 l0_3 x5_3).f0) false _ A43.out).mono ?_
 rintro e w' ⟨rfl, ⟨nd, rfl⟩⟩
 refine ⟨_, rfl, ?_⟩
 refine hK.out _ _ ⟨((HB.out.cell (World.block_lt_of_cell? w _ hw253_0)).trans hw253_0), ((HB.out.cell (World.block_lt_of_cell? w _ hw253_1)).trans hw253_1)⟩ (fun hHeld => ?_)
 clear hK K
 refine norm_ (a' := ?_) ?_ ?_
 rotate_left
 {
 show Act.put _ (some 111) _ = _
 simp only [Act.put, List.setIfInBounds_toArray, List.set_cons_zero, List.set_cons_succ, i64_w, i32_w]
 rfl}
 refine pu_ 5 112 m66_ (any_of HT_.out s2_) ?_
 refine pu_ 6 113 m67_ (any_of HT_.out s2_) ?_
 refine pn_ 7 114 m68_ (any_of HT_.out s2_) ?_
 refine pn_ 8 115 m69_ (any_of HT_.out s2_) ?_
 refine pn_ 9 116 m70_ (any_of HT_.out s2_) ?_
 refine pn_ 10 117 m71_ (any_of HT_.out s2_) ?_
 refine pn_ 11 118 m72_ (any_of HT_.out s2_) ?_
 refine pn_ 12 119 m73_ (any_of HT_.out s2_) ?_
 refine pu_ 13 120 m74_ (any_of HT_.out s2_) ?_
 refine pu_ 14 121 m75_ (any_of HT_.out s2_) ?_
 refine pn_ 15 122 m76_ (any_of HT_.out s2_) ?_
 refine pn_ 16 123 m77_ (any_of HT_.out s2_) ?_
 refine pn_ 17 124 m78_ (any_of HT_.out s2_) ?_
 refine pn_ 18 125 m79_ (any_of HT_.out s2_) ?_
 refine pn_ 19 126 m80_ (any_of HT_.out s2_) ?_
 refine pn_ 20 127 m81_ (any_of HT_.out s2_) ?_
 refine pn_ 21 128 m113_ (any_of HT_.out s2_) ?_
 refine pn_ 22 129 m114_ (any_of HT_.out s2_) ?_
 refine pn_ 23 130 m115_ (any_of HT_.out s2_) ?_
 refine pn_ 24 131 m116_ (any_of HT_.out s2_) ?_
 refine pn_ 25 132 m117_ (any_of HT_.out s2_) ?_
 refine pn_ 26 133 m118_ (any_of HT_.out s2_) ?_
 refine pn_ 27 134 m119_ (any_of HT_.out s2_) ?_
 refine pn_ 28 135 m120_ (any_of HT_.out s2_) ?_
 refine pn_ 29 136 m90_ (any_of HT_.out s2_) ?_
 refine pn_ 30 137 m91_ (any_of HT_.out s2_) ?_
 refine pn_ 31 138 m92_ (any_of HT_.out s2_) ?_
 refine pn_ 32 139 m93_ (any_of HT_.out s2_) ?_
 refine pu_ 33 140 m94_ (any_of HT_.out s2_) ?_
 refine pu_ 34 141 m95_ (any_of HT_.out s2_) ?_
 refine pn_ 35 142 m96_ (any_of HT_.out s2_) ?_
 refine pn_ 36 143 m97_ (any_of HT_.out s2_) ?_
 refine pn_ 37 144 m98_ (any_of HT_.out s2_) ?_
 refine pn_ 38 145 m99_ (any_of HT_.out s2_) ?_
 refine pn_ 39 146 m100_ (any_of HT_.out s2_) ?_
 refine pn_ 40 147 m101_ (any_of HT_.out s2_) ?_
 refine pn_ 41 148 m102_ (any_of HT_.out s2_) ?_
 refine pu_ 42 149 m103_ (any_of HT_.out s2_) ?_
 refine pu_ 43 150 m104_ (any_of HT_.out s2_) ?_
 refine pn_ 44 151 m105_ (any_of HT_.out s2_) ?_
 refine pn_ 45 152 m106_ (any_of HT_.out s2_) ?_
 refine pn_ 46 153 m107_ (any_of HT_.out s2_) ?_
 refine pn_ 47 154 m108_ (any_of HT_.out s2_) ?_
 refine pn_ 48 155 m109_ (any_of HT_.out s2_) ?_
 refine pn_ 49 156 m110_ (any_of HT_.out s2_) ?_
 refine pn_ 50 157 m111_ (any_of HT_.out s2_) ?_
 refine pu_ 51 158 m112_ (any_of HT_.out s2_) ?_
 refine done_ (done_of HT_.out s2_) ?_
 try go_wp2
 go_meet
 case rel => exact ⟨_, (true), (x1000_3), s1_, H', ⟨by have := HJ1.out; have := HK2.out; have := HK3.out; first | omega | exact Nat.le_refl _⟩, ⟨b1_ BK0.out⟩, ⟨by repeat (first | (with_reducible first | exact HB.out | apply below_alloc | apply pw_below_drewN | apply below_drew1 | refine below_set ?_ GE0.out) | exact HB.out)⟩⟩}}
 case rest =>
  skip
  {
 clear HC41
 try clear p2
 try clear q2
 try clear hx2
 try clear c4
 try clear p25
 try clear q25
 try clear hx25
 try clear c40
 try clear c41
 try clear c44
 try clear hx253_0
 try clear hx253_1
 try clear p253
 try clear q253
 obtain ⟨kq, x158_40, x1000_40, rfl, HA, HJ40, BK0, HB⟩ := hcut
 cases kq with
 | zero => exact absurd HA.out (by simp [spec_l02Is.j4])
 | succ kj40 =>
  skip
  {
 have H := HA.out
 clear HA
 simp only [spec_l02Is.j4] at H
 by_cases c71 : x158_40 = true
 {
 subst c71
 have H1 : (some false) = some r := by rw [if_pos rfl] at H; exact H
 clear H
 have H := H1
 clear H1
 obtain rfl := Option.some.inj H
 go_wp2
 go_ret
 exact ⟨by first | rfl | (simp [errW_none, errW_some] <;> rfl) | (simp [*, errW_none, errW_some] <;> rfl), by repeat (first | (with_reducible first | exact HB.out | apply below_alloc | apply pw_below_drewN | apply below_drew1 | refine below_set ?_ GE0.out) | exact HB.out)⟩}
 {
 replace c71 := Bool.eq_false_iff.mpr c71
 subst c71
 have H1 : (spec_l02Is.l1 kj40 (wrap64 (x5_3 + 1)) x1000_40 l0_1 l0_2 l0_3) = some r := by rw [if_neg (show ¬ (false = true) by decide)] at H; exact H
 clear H
 have H := H1
 clear H1
 have H' := Aside0.mk H
 clear H
 go_wp2
 go_roundg kj40
 case measure => have := HJ1.out; have := HK2.out; have := HK3.out; have := HJ40.out; omega
 case rel => exact ⟨(wrap64 (x5_3 + 1)), (x1000_40), s1_, H', ⟨by have := HJ1.out; have := HK2.out; have := HK3.out; have := HJ40.out; omega⟩, ⟨b1_ BK0.out⟩, ⟨by repeat (first | (with_reducible first | exact HB.out | apply below_alloc | apply pw_below_drewN | apply below_drew1 | refine below_set ?_ GE0.out) | exact HB.out)⟩⟩}}}}
 {
 rw [if_neg c40] at H
 exact absurd H (by simp)}}
 {
 rw [if_neg c39] at H
 have c39b0 : decide (x5_3 < (l0_3.length : Int)) = false := decide_eq_false c39
 clear c39
 obtain rfl := Option.some.inj H
 have hcz72_0 : wr.cell? ⟨g0_, 0, none⟩ = some (.bool x1000_3) := (blk_cell BK0.out 0).trans rfl
 have hcz72_1 : wr.cell? ⟨g0_, 1, none⟩ = some (.slice A0_1 l0_1.length c0_1) := (blk_cell BK0.out 1).trans rfl
 have hcz72_2 : wr.cell? ⟨g0_, 2, none⟩ = some (.slice A0_2 l0_2.length c0_2) := (blk_cell BK0.out 2).trans rfl
 have hcz72_3 : wr.cell? ⟨g0_, 3, none⟩ = some (.slice A0_3 l0_3.length c0_3) := (blk_cell BK0.out 3).trans rfl
 have hfz72_0 := blk_frozen BK0.out 0
 have hfz72_1 := blk_frozen BK0.out 1
 have hfz72_2 := blk_frozen BK0.out 2
 have hfz72_3 := blk_frozen BK0.out 3
 go_wp2
 go_ret
 exact ⟨by first | rfl | (simp [errW_none, errW_some] <;> rfl) | (simp [*, errW_none, errW_some] <;> rfl), by repeat (first | (with_reducible first | exact HB.out | apply below_alloc | apply pw_below_drewN | apply below_drew1 | refine below_set ?_ GE0.out) | exact HB.out)⟩}}}}}}}}}

end Go.Proofs.Ytdanachjdfiegaa.QFnExactRoleOf
