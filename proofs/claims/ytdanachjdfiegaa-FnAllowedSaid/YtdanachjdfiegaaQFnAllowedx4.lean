-- written by a program of this session, on the lines of the kit's print
import Derived.Test.YtdanachjdfiegaaQFnAllowedx0
import Derived.Test.YtdanachjdfiegaaQFnAllowedx2
import Derived.Test.YtdanachjdfiegaaQFnAllowedx3
namespace Go.Proofs.Ytdanachjdfiegaa.QFnAllowed
open Go.RowKit Go.Proofs.YtdanachjdfiegaaW.PrintWords Go.Proofs.YtdanachjdfiegaaW.PrintLast Go.Proofs.YtdanachjdfiegaaW.PrintMore
attribute [local go_sem] max2_int min2_int max_two min_two max_three min_three max_four min_four   -- for this text's walks alone
set_option linter.unusedVariables false
set_option linter.unusedSimpArgs false

/-! ### impl_ValidRoom: function 11 -/
abbrev impl_ValidRoom.T : Bool := true
abbrev impl_ValidRoom.F : Bool := false
theorem impl_ValidRoom.s1_ {P : Prop} (h : P := by first | rfl | (simp; done) | (simp [*]; done)) : P := h
theorem impl_ValidRoom.s2_ {P : Prop} (h : P := by kernel_rfl) : P := h
theorem impl_ValidRoom.s3_ {P : Prop} (h : P := by (try simp only [List.map_toArray, List.map_cons, List.map_nil]); first | done | rfl | (simp only [List.length_drop, List.length_take]; rfl)) : P := h
abbrev impl_ValidRoom.m0_ : Array Bool := #[F,F,F,F,F,F,F,F,F,F,F,F,F,F,F,F,F,F,F,F,F,F,F,F,F,F,F,F,F,F,F,F,F,F,F,F,F,F]
abbrev impl_ValidRoom.m1_ : Array Bool := #[T,F,F,F,F,F,F,F,F,F,F,F,F,F,F,F,F,F,F,F,F,F,F,F,F,F,F,F,F,F,F,F,F,F,F,F,F,F]
abbrev impl_ValidRoom.m2_ : Array Bool := #[T,T,F,F,F,F,F,F,F,F,F,F,F,F,F,F,F,F,F,F,F,F,F,F,F,F,F,F,F,F,F,F,F,F,F,F,F,F]
abbrev impl_ValidRoom.m3_ : Array Bool := #[T,T,T,F,F,F,F,F,F,F,F,F,F,F,F,F,F,F,F,F,F,F,F,F,F,F,F,F,F,F,F,F,F,F,F,F,F,F]
abbrev impl_ValidRoom.m4_ : Array Bool := #[T,T,T,T,F,F,F,F,F,F,F,F,F,F,F,F,F,F,F,F,F,F,F,F,F,F,F,F,F,F,F,F,F,F,F,F,F,F]
abbrev impl_ValidRoom.m5_ : Array Bool := #[T,T,T,T,T,F,F,F,F,F,F,F,F,F,F,F,F,F,F,F,F,F,F,F,F,F,F,F,F,F,F,F,F,F,F,F,F,F]
abbrev impl_ValidRoom.m6_ : Array Bool := #[T,T,T,T,T,T,F,F,F,F,F,F,F,F,F,F,F,F,F,F,F,F,F,F,F,F,F,F,F,F,F,F,F,F,F,F,F,F]
abbrev impl_ValidRoom.m7_ : Array Bool := #[T,T,T,T,T,T,T,F,F,F,F,F,F,F,F,F,F,F,F,F,F,F,F,F,F,F,F,F,F,F,F,F,F,F,F,F,F,F]
abbrev impl_ValidRoom.m8_ : Array Bool := #[T,T,T,T,T,T,T,T,F,F,F,F,F,F,F,F,F,F,F,F,F,F,F,F,F,F,F,F,F,F,F,F,F,F,F,F,F,F]
abbrev impl_ValidRoom.m9_ : Array Bool := #[T,T,T,T,T,T,T,T,T,F,F,F,F,F,F,F,F,F,F,F,F,F,F,F,F,F,F,F,F,F,F,F,F,F,F,F,F,F]
abbrev impl_ValidRoom.m10_ : Array Bool := #[T,T,T,T,T,T,T,T,T,T,F,F,F,F,F,F,F,F,F,F,F,F,F,F,F,F,F,F,F,F,F,F,F,F,F,F,F,F]
abbrev impl_ValidRoom.m11_ : Array Bool := #[T,T,T,T,T,T,T,T,T,T,T,F,F,F,F,F,F,F,F,F,F,F,F,F,F,F,F,F,F,F,F,F,F,F,F,F,F,F]
abbrev impl_ValidRoom.m12_ : Array Bool := #[T,T,T,T,T,T,T,T,T,T,T,T,F,F,F,F,F,F,F,F,F,F,F,F,F,F,F,F,F,F,F,F,F,F,F,F,F,F]
abbrev impl_ValidRoom.m13_ : Array Bool := #[T,T,T,T,T,T,T,T,T,T,T,T,T,F,F,F,F,F,F,F,F,F,F,F,F,F,F,F,F,F,F,F,F,F,F,F,F,F]
abbrev impl_ValidRoom.m14_ : Array Bool := #[T,T,T,T,T,T,T,T,T,T,T,T,T,T,F,F,F,F,F,F,F,F,F,F,F,F,F,F,F,F,F,F,F,F,F,F,F,F]
abbrev impl_ValidRoom.m15_ : Array Bool := #[T,T,T,T,T,T,T,T,T,T,T,T,T,T,T,F,F,F,F,F,F,F,F,F,F,F,F,F,F,F,F,F,F,F,F,F,F,F]
abbrev impl_ValidRoom.m16_ : Array Bool := #[T,T,T,T,T,T,T,T,T,T,T,T,T,T,T,T,F,F,F,F,F,F,F,F,F,F,F,F,F,F,F,F,F,F,F,F,F,F]
abbrev impl_ValidRoom.m17_ : Array Bool := #[T,T,T,T,T,T,T,T,T,T,T,T,T,T,T,T,T,F,F,F,F,F,F,F,F,F,F,F,F,F,F,F,F,F,F,F,F,F]
abbrev impl_ValidRoom.m18_ : Array Bool := #[T,T,T,T,T,T,T,T,T,T,T,T,T,T,T,T,T,T,F,F,F,F,F,F,F,F,F,F,F,F,F,F,F,F,F,F,F,F]
abbrev impl_ValidRoom.m19_ : Array Bool := #[T,T,T,T,T,T,T,T,T,T,T,T,T,T,T,T,T,T,T,F,F,F,F,F,F,F,F,F,F,F,F,F,F,F,F,F,F,F]
abbrev impl_ValidRoom.m20_ : Array Bool := #[T,T,T,T,T,T,T,T,T,T,T,T,T,T,T,T,T,T,T,T,F,F,F,F,F,F,F,F,F,F,F,F,F,F,F,F,F,F]
abbrev impl_ValidRoom.m21_ : Array Bool := #[T,T,T,T,T,T,T,T,T,T,T,T,T,T,T,T,T,T,T,T,T,F,F,F,F,F,F,F,F,F,F,F,F,F,F,F,F,F]
abbrev impl_ValidRoom.m22_ : Array Bool := #[T,T,T,T,T,T,T,T,T,T,T,T,T,T,T,T,T,T,T,T,T,T,F,F,F,F,F,F,F,F,F,F,F,F,F,F,F,F]
abbrev impl_ValidRoom.m23_ : Array Bool := #[T,T,T,T,T,T,T,T,T,T,T,T,T,T,T,T,T,T,T,T,T,T,T,F,F,F,F,F,F,F,F,F,F,F,F,F,F,F]
abbrev impl_ValidRoom.m24_ : Array Bool := #[T,T,T,T,T,T,T,T,T,T,T,T,T,T,T,T,T,T,T,T,T,T,T,T,F,F,F,F,F,F,F,F,F,F,F,F,F,F]
abbrev impl_ValidRoom.m25_ : Array Bool := #[T,T,T,T,T,T,T,T,T,T,T,T,T,T,T,T,T,T,T,T,T,T,T,T,T,F,F,F,F,F,F,F,F,F,F,F,F,F]
abbrev impl_ValidRoom.m26_ : Array Bool := #[T,T,T,T,T,T,T,T,T,T,T,T,T,T,T,T,T,T,T,T,T,T,T,T,T,T,F,F,F,F,F,F,F,F,F,F,F,F]
abbrev impl_ValidRoom.m27_ : Array Bool := #[T,T,T,T,T,T,T,T,T,T,T,T,T,T,T,T,T,T,T,T,T,T,T,T,T,T,T,F,F,F,F,F,F,F,F,F,F,F]
abbrev impl_ValidRoom.m28_ : Array Bool := #[T,T,T,T,T,T,T,T,T,T,T,T,T,T,T,T,T,T,T,T,T,T,T,T,T,T,T,T,T,T,T,T,T,T,F,F,F,F]
abbrev impl_ValidRoom.m29_ : Array Bool := #[T,T,T,T,T,T,T,T,T,T,T,T,T,T,T,T,T,T,T,T,T,T,T,T,T,T,T,T,T,T,T,T,T,T,T,F,F,F]
abbrev impl_ValidRoom.m30_ : Array Bool := #[T,T,T,T,T,T,T,T,T,T,T,T,T,T,T,T,T,T,T,T,T,T,T,T,T,T,T,T,T,T,T,T,T,T,T,T,F,F]
abbrev impl_ValidRoom.m31_ : Array Bool := #[T,T,T,T,T,T,T,T,T,T,T,T,T,T,T,T,T,T,T,T,T,T,T,T,T,T,T,T,T,T,T,T,T,T,T,T,T,F]
abbrev impl_ValidRoom.m32_ : Array Bool := #[T,T,T,T,T,T,T,T,T,T,T,T,T,T,T,T,T,T,T,T,T,T,T,T,T,T,T,T,T,T,T,T,T,T,T,T,T,T]
abbrev impl_ValidRoom.m33_ : Array Bool := #[T,T,T,T,T,T,T,T,T,T,T,T,T,T,T,T,T,T,T,T,T,T,T,T,T,T,T,T,F,F,F,F,F,F,F,F,F,F]
abbrev impl_ValidRoom.m34_ : Array Bool := #[T,T,T,T,T,T,T,T,T,T,T,T,T,T,T,T,T,T,T,T,T,T,T,T,T,T,T,T,T,F,F,F,F,F,F,F,F,F]
abbrev impl_ValidRoom.m35_ : Array Bool := #[T,T,T,T,T,T,T,T,T,T,T,T,T,T,T,T,T,T,T,T,T,T,T,T,T,T,T,T,T,T,F,F,F,F,F,F,F,F]
abbrev impl_ValidRoom.m36_ : Array Bool := #[T,T,T,T,T,T,T,T,T,T,T,T,T,T,T,T,T,T,T,T,T,T,T,T,T,T,T,T,T,T,T,F,F,F,F,F,F,F]
abbrev impl_ValidRoom.m37_ : Array Bool := #[T,T,T,T,T,T,T,T,T,T,T,T,T,T,T,T,T,T,T,T,T,T,T,T,T,T,T,T,T,T,T,T,F,F,F,F,F,F]
abbrev impl_ValidRoom.m38_ : Array Bool := #[T,T,T,T,T,T,T,T,T,T,T,T,T,T,T,T,T,T,T,T,T,T,T,T,T,T,T,T,T,T,T,T,T,F,F,F,F,F]
abbrev impl_ValidRoom.m39_ : Array Bool := #[F,F,F,F,F,F,F,F,F,F,F,F,F,F,F,F,F,F,F,F,F,F,F,F,F,F,F,F,F,F,F,F,F,F,F,F,F]
abbrev impl_ValidRoom.m40_ : Array Bool := #[T,F,F,F,F,F,F,F,F,F,F,F,F,F,F,F,F,F,F,F,F,F,F,F,F,F,F,F,F,F,F,F,F,F,F,F,F]
abbrev impl_ValidRoom.m41_ : Array Bool := #[T,T,F,F,F,F,F,F,F,F,F,F,F,F,F,F,F,F,F,F,F,F,F,F,F,F,F,F,F,F,F,F,F,F,F,F,F]
abbrev impl_ValidRoom.m42_ : Array Bool := #[T,T,T,F,F,F,F,F,F,F,F,F,F,F,F,F,F,F,F,F,F,F,F,F,F,F,F,F,F,F,F,F,F,F,F,F,F]
abbrev impl_ValidRoom.m43_ : Array Bool := #[T,T,T,T,F,F,F,F,F,F,F,F,F,F,F,F,F,F,F,F,F,F,F,F,F,F,F,F,F,F,F,F,F,F,F,F,F]
abbrev impl_ValidRoom.m44_ : Array Bool := #[T,T,T,T,T,F,F,F,F,F,F,F,F,F,F,F,F,F,F,F,F,F,F,F,F,F,F,F,F,F,F,F,F,F,F,F,F]
abbrev impl_ValidRoom.m45_ : Array Bool := #[T,T,T,T,T,T,F,F,F,F,F,F,F,F,F,F,F,F,F,F,F,F,F,F,F,F,F,F,F,F,F,F,F,F,F,F,F]
abbrev impl_ValidRoom.m46_ : Array Bool := #[T,T,T,T,T,T,T,F,F,F,F,F,F,F,F,F,F,F,F,F,F,F,F,F,F,F,F,F,F,F,F,F,F,F,F,F,F]
abbrev impl_ValidRoom.m47_ : Array Bool := #[T,T,T,T,T,T,T,T,F,F,F,F,F,F,F,F,F,F,F,F,F,F,F,F,F,F,F,F,F,F,F,F,F,F,F,F,F]
abbrev impl_ValidRoom.m48_ : Array Bool := #[T,T,T,T,T,T,T,T,T,F,F,F,F,F,F,F,F,F,F,F,F,F,F,F,F,F,F,F,F,F,F,F,F,F,F,F,F]
abbrev impl_ValidRoom.m49_ : Array Bool := #[T,T,T,T,T,T,T,T,T,T,F,F,F,F,F,F,F,F,F,F,F,F,F,F,F,F,F,F,F,F,F,F,F,F,F,F,F]
abbrev impl_ValidRoom.m50_ : Array Bool := #[T,T,T,T,T,T,T,T,T,T,T,F,F,F,F,F,F,F,F,F,F,F,F,F,F,F,F,F,F,F,F,F,F,F,F,F,F]
abbrev impl_ValidRoom.m51_ : Array Bool := #[T,T,T,T,T,T,T,T,T,T,T,T,F,F,F,F,F,F,F,F,F,F,F,F,F,F,F,F,F,F,F,F,F,F,F,F,F]
abbrev impl_ValidRoom.m52_ : Array Bool := #[T,T,T,T,T,T,T,T,T,T,T,T,T,F,F,F,F,F,F,F,F,F,F,F,F,F,F,F,F,F,F,F,F,F,F,F,F]
abbrev impl_ValidRoom.m53_ : Array Bool := #[T,T,T,T,T,T,T,T,T,T,T,T,T,T,F,F,F,F,F,F,F,F,F,F,F,F,F,F,F,F,F,F,F,F,F,F,F]
abbrev impl_ValidRoom.m54_ : Array Bool := #[T,T,T,T,T,T,T,T,T,T,T,T,T,T,T,F,F,F,F,F,F,F,F,F,F,F,F,F,F,F,F,F,F,F,F,F,F]
abbrev impl_ValidRoom.m55_ : Array Bool := #[T,T,T,T,T,T,T,T,T,T,T,T,T,T,T,T,F,F,F,F,F,F,F,F,F,F,F,F,F,F,F,F,F,F,F,F,F]
abbrev impl_ValidRoom.m56_ : Array Bool := #[T,T,T,T,T,T,T,T,T,T,T,T,T,T,T,T,T,F,F,F,F,F,F,F,F,F,F,F,F,F,F,F,F,F,F,F,F]
abbrev impl_ValidRoom.m57_ : Array Bool := #[T,T,T,T,T,T,T,T,T,T,T,T,T,T,T,T,T,T,F,F,F,F,F,F,F,F,F,F,F,F,F,F,F,F,F,F,F]
abbrev impl_ValidRoom.m58_ : Array Bool := #[T,T,T,T,T,T,T,T,T,T,T,T,T,T,T,T,T,T,T,F,F,F,F,F,F,F,F,F,F,F,F,F,F,F,F,F,F]
abbrev impl_ValidRoom.m59_ : Array Bool := #[T,T,T,T,T,T,T,T,T,T,T,T,T,T,T,T,T,T,T,T,F,F,F,F,F,F,F,F,F,F,F,F,F,F,F,F,F]
abbrev impl_ValidRoom.m60_ : Array Bool := #[T,T,T,T,T,T,T,T,T,T,T,T,T,T,T,T,T,T,T,T,T,F,F,F,F,F,F,F,F,F,F,F,F,F,F,F,F]
abbrev impl_ValidRoom.m61_ : Array Bool := #[T,T,T,T,T,T,T,T,T,T,T,T,T,T,T,T,T,T,T,T,T,T,F,F,F,F,F,F,F,F,F,F,F,F,F,F,F]
abbrev impl_ValidRoom.m62_ : Array Bool := #[T,T,T,T,T,T,T,T,T,T,T,T,T,T,T,T,T,T,T,T,T,T,T,F,F,F,F,F,F,F,F,F,F,F,F,F,F]
abbrev impl_ValidRoom.m63_ : Array Bool := #[T,T,T,T,T,T,T,T,T,T,T,T,T,T,T,T,T,T,T,T,T,T,T,T,F,F,F,F,F,F,F,F,F,F,F,F,F]
abbrev impl_ValidRoom.m64_ : Array Bool := #[T,T,T,T,T,T,T,T,T,T,T,T,T,T,T,T,T,T,T,T,T,T,T,T,T,F,F,F,F,F,F,F,F,F,F,F,F]
abbrev impl_ValidRoom.m65_ : Array Bool := #[T,T,T,T,T,T,T,T,T,T,T,T,T,T,T,T,T,T,T,T,T,T,T,T,T,T,F,F,F,F,F,F,F,F,F,F,F]
abbrev impl_ValidRoom.m66_ : Array Bool := #[T,T,T,T,T,T,T,T,T,T,T,T,T,T,T,T,T,T,T,T,T,T,T,T,T,T,T,F,F,F,F,F,F,F,F,F,F]
abbrev impl_ValidRoom.m67_ : Array Bool := #[T,T,T,T,T,T,T,T,T,T,T,T,T,T,T,T,T,T,T,T,T,T,T,T,T,T,T,T,F,F,F,F,F,F,F,F,F]
abbrev impl_ValidRoom.m68_ : Array Bool := #[T,T,T,T,T,T,T,T,T,T,T,T,T,T,T,T,T,T,T,T,T,T,T,T,T,T,T,T,T,F,F,F,F,F,F,F,F]
abbrev impl_ValidRoom.m69_ : Array Bool := #[T,T,T,T,T,T,T,T,T,T,T,T,T,T,T,T,T,T,T,T,T,T,T,T,T,T,T,T,T,T,F,F,F,F,F,F,F]
abbrev impl_ValidRoom.m70_ : Array Bool := #[T,T,T,T,T,T,T,T,T,T,T,T,T,T,T,T,T,T,T,T,T,T,T,T,T,T,T,T,T,T,T,F,F,F,F,F,F]
abbrev impl_ValidRoom.m71_ : Array Bool := #[T,T,T,T,T,T,T,T,T,T,T,T,T,T,T,T,T,T,T,T,T,T,T,T,T,T,T,T,T,T,T,T,F,F,F,F,F]
abbrev impl_ValidRoom.m72_ : Array Bool := #[T,T,T,T,T,T,T,T,T,T,T,T,T,T,T,T,T,T,T,T,T,T,T,T,T,T,T,T,T,T,T,T,T,F,F,F,F]
abbrev impl_ValidRoom.m73_ : Array Bool := #[T,T,T,T,T,T,T,T,T,T,T,T,T,T,T,T,T,T,T,T,T,T,T,T,T,T,T,T,T,T,T,T,T,T,F,F,F]
abbrev impl_ValidRoom.m74_ : Array Bool := #[T,T,T,T,T,T,T,T,T,T,T,T,T,T,T,T,T,T,T,T,T,T,T,T,T,T,T,T,T,T,T,T,T,T,T,F,F]
abbrev impl_ValidRoom.m75_ : Array Bool := #[T,T,T,T,T,T,T,T,T,T,T,T,T,T,T,T,T,T,T,T,T,T,T,T,T,T,T,T,T,T,T,T,T,T,T,T,F]
abbrev impl_ValidRoom.m76_ : Array Bool := #[T,T,T,T,T,T,T,T,T,T,T,T,T,T,T,T,T,T,T,T,T,T,T,T,T,T,T,T,T,T,T,T,T,T,T,T,T]
abbrev impl_ValidRoom.m77_ : Array Bool := #[F,F,F,F,F,F,F,F,F,F,F,F,F,F,F,F,F,F,F,F,F,F,F,F,F,F,F,F,F,F,F,F,F,F,F,F]
abbrev impl_ValidRoom.m78_ : Array Bool := #[T,F,F,F,F,F,F,F,F,F,F,F,F,F,F,F,F,F,F,F,F,F,F,F,F,F,F,F,F,F,F,F,F,F,F,F]
abbrev impl_ValidRoom.m79_ : Array Bool := #[T,T,F,F,F,F,F,F,F,F,F,F,F,F,F,F,F,F,F,F,F,F,F,F,F,F,F,F,F,F,F,F,F,F,F,F]
abbrev impl_ValidRoom.m80_ : Array Bool := #[T,T,T,F,F,F,F,F,F,F,F,F,F,F,F,F,F,F,F,F,F,F,F,F,F,F,F,F,F,F,F,F,F,F,F,F]
abbrev impl_ValidRoom.m81_ : Array Bool := #[T,T,T,T,F,F,F,F,F,F,F,F,F,F,F,F,F,F,F,F,F,F,F,F,F,F,F,F,F,F,F,F,F,F,F,F]
abbrev impl_ValidRoom.m82_ : Array Bool := #[T,T,T,T,T,F,F,F,F,F,F,F,F,F,F,F,F,F,F,F,F,F,F,F,F,F,F,F,F,F,F,F,F,F,F,F]
abbrev impl_ValidRoom.m83_ : Array Bool := #[T,T,T,T,T,T,F,F,F,F,F,F,F,F,F,F,F,F,F,F,F,F,F,F,F,F,F,F,F,F,F,F,F,F,F,F]
abbrev impl_ValidRoom.m84_ : Array Bool := #[T,T,T,T,T,T,T,F,F,F,F,F,F,F,F,F,F,F,F,F,F,F,F,F,F,F,F,F,F,F,F,F,F,F,F,F]
abbrev impl_ValidRoom.m85_ : Array Bool := #[T,T,T,T,T,T,T,T,F,F,F,F,F,F,F,F,F,F,F,F,F,F,F,F,F,F,F,F,F,F,F,F,F,F,F,F]
abbrev impl_ValidRoom.m86_ : Array Bool := #[T,T,T,T,T,T,T,T,T,F,F,F,F,F,F,F,F,F,F,F,F,F,F,F,F,F,F,F,F,F,F,F,F,F,F,F]
abbrev impl_ValidRoom.m87_ : Array Bool := #[T,T,T,T,T,T,T,T,T,T,F,F,F,F,F,F,F,F,F,F,F,F,F,F,F,F,F,F,F,F,F,F,F,F,F,F]
abbrev impl_ValidRoom.m88_ : Array Bool := #[T,T,T,T,T,T,T,T,T,T,T,F,F,F,F,F,F,F,F,F,F,F,F,F,F,F,F,F,F,F,F,F,F,F,F,F]
abbrev impl_ValidRoom.m89_ : Array Bool := #[T,T,T,T,T,T,T,T,T,T,T,T,F,F,F,F,F,F,F,F,F,F,F,F,F,F,F,F,F,F,F,F,F,F,F,F]
abbrev impl_ValidRoom.m90_ : Array Bool := #[T,T,T,T,T,T,T,T,T,T,T,T,T,F,F,F,F,F,F,F,F,F,F,F,F,F,F,F,F,F,F,F,F,F,F,F]
abbrev impl_ValidRoom.m91_ : Array Bool := #[T,T,T,T,T,T,T,T,T,T,T,T,T,T,F,F,F,F,F,F,F,F,F,F,F,F,F,F,F,F,F,F,F,F,F,F]
abbrev impl_ValidRoom.m92_ : Array Bool := #[T,T,T,T,T,T,T,T,T,T,T,T,T,T,T,F,F,F,F,F,F,F,F,F,F,F,F,F,F,F,F,F,F,F,F,F]
abbrev impl_ValidRoom.m93_ : Array Bool := #[T,T,T,T,T,T,T,T,T,T,T,T,T,T,T,T,F,F,F,F,F,F,F,F,F,F,F,F,F,F,F,F,F,F,F,F]
abbrev impl_ValidRoom.m94_ : Array Bool := #[T,T,T,T,T,T,T,T,T,T,T,T,T,T,T,T,T,F,F,F,F,F,F,F,F,F,F,F,F,F,F,F,F,F,F,F]
abbrev impl_ValidRoom.m95_ : Array Bool := #[T,T,T,T,T,T,T,T,T,T,T,T,T,T,T,T,T,T,F,F,F,F,F,F,F,F,F,F,F,F,F,F,F,F,F,F]
abbrev impl_ValidRoom.m96_ : Array Bool := #[T,T,T,T,T,T,T,T,T,T,T,T,T,T,T,T,T,T,T,F,F,F,F,F,F,F,F,F,F,F,F,F,F,F,F,F]
abbrev impl_ValidRoom.m97_ : Array Bool := #[T,T,T,T,T,T,T,T,T,T,T,T,T,T,T,T,T,T,T,T,F,F,F,F,F,F,F,F,F,F,F,F,F,F,F,F]
abbrev impl_ValidRoom.m98_ : Array Bool := #[T,T,T,T,T,T,T,T,T,T,T,T,T,T,T,T,T,T,T,T,T,F,F,F,F,F,F,F,F,F,F,F,F,F,F,F]
abbrev impl_ValidRoom.m99_ : Array Bool := #[T,T,T,T,T,T,T,T,T,T,T,T,T,T,T,T,T,T,T,T,T,T,F,F,F,F,F,F,F,F,F,F,F,F,F,F]
abbrev impl_ValidRoom.m100_ : Array Bool := #[T,T,T,T,T,T,T,T,T,T,T,T,T,T,T,T,T,T,T,T,T,T,T,F,F,F,F,F,F,F,F,F,F,F,F,F]
abbrev impl_ValidRoom.m101_ : Array Bool := #[T,T,T,T,T,T,T,T,T,T,T,T,T,T,T,T,T,T,T,T,T,T,T,T,F,F,F,F,F,F,F,F,F,F,F,F]
abbrev impl_ValidRoom.m102_ : Array Bool := #[T,T,T,T,T,T,T,T,T,T,T,T,T,T,T,T,T,T,T,T,T,T,T,T,T,F,F,F,F,F,F,F,F,F,F,F]
abbrev impl_ValidRoom.m103_ : Array Bool := #[T,T,T,T,T,T,T,T,T,T,T,T,T,T,T,T,T,T,T,T,T,T,T,T,T,T,F,F,F,F,F,F,F,F,F,F]
abbrev impl_ValidRoom.m104_ : Array Bool := #[T,T,T,T,T,T,T,T,T,T,T,T,T,T,T,T,T,T,T,T,T,T,T,T,T,T,T,F,F,F,F,F,F,F,F,F]
abbrev impl_ValidRoom.m105_ : Array Bool := #[T,T,T,T,T,T,T,T,T,T,T,T,T,T,T,T,T,T,T,T,T,T,T,T,T,T,T,T,F,F,F,F,F,F,F,F]
abbrev impl_ValidRoom.m106_ : Array Bool := #[T,T,T,T,T,T,T,T,T,T,T,T,T,T,T,T,T,T,T,T,T,T,T,T,T,T,T,T,T,F,F,F,F,F,F,F]
abbrev impl_ValidRoom.m107_ : Array Bool := #[T,T,T,T,T,T,T,T,T,T,T,T,T,T,T,T,T,T,T,T,T,T,T,T,T,T,T,T,T,T,F,F,F,F,F,F]
abbrev impl_ValidRoom.m108_ : Array Bool := #[T,T,T,T,T,T,T,T,T,T,T,T,T,T,T,T,T,T,T,T,T,T,T,T,T,T,T,T,T,T,T,F,F,F,F,F]
abbrev impl_ValidRoom.m109_ : Array Bool := #[T,T,T,T,T,T,T,T,T,T,T,T,T,T,T,T,T,T,T,T,T,T,T,T,T,T,T,T,T,T,T,T,F,F,F,F]
abbrev impl_ValidRoom.m110_ : Array Bool := #[T,T,T,T,T,T,T,T,T,T,T,T,T,T,T,T,T,T,T,T,T,T,T,T,T,T,T,T,T,T,T,T,T,F,F,F]
abbrev impl_ValidRoom.m111_ : Array Bool := #[T,T,T,T,T,T,T,T,T,T,T,T,T,T,T,T,T,T,T,T,T,T,T,T,T,T,T,T,T,T,T,T,T,T,F,F]
abbrev impl_ValidRoom.m112_ : Array Bool := #[T,T,T,T,T,T,T,T,T,T,T,T,T,T,T,T,T,T,T,T,T,T,T,T,T,T,T,T,T,T,T,T,T,T,T,F]
abbrev impl_ValidRoom.m113_ : Array Bool := #[T,T,T,T,T,T,T,T,T,T,T,T,T,T,T,T,T,T,T,T,T,T,T,T,T,T,T,T,T,T,T,T,T,T,T,T]
theorem impl_ValidRoom.p1_ {P : Prop} (h : P := by simp only [Act.put, List.setIfInBounds_toArray, List.set_cons_zero, List.set_cons_succ, i64_w, i32_w]; rfl) : P := h
theorem impl_ValidRoom.b1_ {P Q : Prop} (q : Q) (h : Q → P := by intro q_; (with_reducible repeat (first | refine blk_drewN ?_ _ | refine blk_drew ?_ | refine blk_alloc ?_ _)); exact q_) : P := h q
theorem impl_ValidRoom.pu_ {P : Program} {md : Region.Mode} {ops : Array Oper} {Q : Exit → Act → World → Prop} {S : World → Prop} {ds : List Nat} {fuel : Nat} {l : Array Bool} {a : Act} {w : World} {oi : Oper} {a' : Act} {v : Value} (i N : Nat) (l' : Array Bool) (hc : anyB md ops l l' i = true) (h : wpAnyLast P md ops Q S ds fuel l' a' w) (hi : ops[i]? = some oi := by rfl) (hN : oi.dst = some N := by rfl) (hQ : ∀ c a w, Q (.panic c) (a.put oi.dst v) w → Q (.panic c) a w := by exact fun _ _ _ h => h) (hy : Yields P ops oi v a := by exact Or.inl ⟨by rfl, by intro w'; go_simp; with_reducible rfl⟩) (ha : a.put (some N) v = a' := by simp only [Act.put, List.setIfInBounds_toArray, List.set_cons_zero, List.set_cons_succ, i64_w, i32_w]; rfl) : wpAnyLast P md ops Q S ds (fuel + 1) l a w := pure_ l' hi hN hc hQ hy ha h
theorem impl_ValidRoom.pn_ {P : Program} {md : Region.Mode} {ops : Array Oper} {Q : Exit → Act → World → Prop} {S : World → Prop} {ds : List Nat} {fuel : Nat} {l : Array Bool} {a : Act} {w : World} {oi : Oper} {a' : Act} (i N : Nat) (l' : Array Bool) (hc : anyB md ops l l' i = true) (h : wpAnyLast P md ops Q S ds fuel l' a' w) (hi : ops[i]? = some oi := by rfl) (hN : oi.dst = some N := by rfl) (hQ : ∀ c a w, Q (.panic c) (a.put oi.dst undef) w → Q (.panic c) a w := by exact fun _ _ _ h => h) (hy : Yields P ops oi undef a := by exact Or.inr ⟨by rfl, rfl⟩) (ha : a.put (some N) undef = a' := by simp only [Act.put, List.setIfInBounds_toArray, List.set_cons_zero, List.set_cons_succ, i64_w, i32_w]; rfl) : wpAnyLast P md ops Q S ds (fuel + 1) l a w := pure_ l' hi hN hc hQ hy ha h
mutual
def impl_ValidRoom.j0 : Nat → Bool → Bool → List (S36) → List (S71) → List (S73) → Option (Bool)
  | 0, _, _, _, _, _ => none
  | k + 1, x25, x199000, x199001, x199002, x199003 => if x25 = true then (some false) else (impl_ValidRoom.l0 k x199001 (x199001.length : Int) 0 x199000 x199001 x199002 x199003)
def impl_ValidRoom.l0 : Nat → List (S36) → Int → Int → Bool → List (S36) → List (S71) → List (S73) → Option (Bool)
  | 0, _, _, _, _, _, _, _ => none
  | k + 1, x27, x28, x29, x199000, x199001, x199002, x199003 => if x29 < x28 then (if 0 ≤ x29 then (if x29 < (x27.length : Int) then ((impl_isMember.f ((rd_T36 x27 x29).f0)).bind fun t202 => (if t202 = true then ((impl_roleOk.f ((rd_T36 x27 x29).f1)).bind fun t203 => (if t203 = true then ((impl_isTick.f ((rd_T36 x27 x29).f2)).bind fun t204 => (if t204 = true then ((impl_isTick.f ((rd_T36 x27 x29).f3)).bind fun t205 => (if t205 = true then (if x29 > 0 then (if 0 ≤ (wrap64 (x29 - 1)) then (if (wrap64 (x29 - 1)) < (x199001.length : Int) then (impl_ValidRoom.j2 k x27 x28 x29 (decide (((rd_T36 x199001 (wrap64 (x29 - 1))).f0) ≥ ((rd_T36 x27 x29).f0))) x199000 x199001 x199002 x199003) else (none)) else (none)) else (impl_ValidRoom.j2 k x27 x28 x29 false x199000 x199001 x199002 x199003)) else (impl_ValidRoom.j2 k x27 x28 x29 true x199000 x199001 x199002 x199003))) else (impl_ValidRoom.j2 k x27 x28 x29 true x199000 x199001 x199002 x199003))) else (impl_ValidRoom.j2 k x27 x28 x29 true x199000 x199001 x199002 x199003))) else (impl_ValidRoom.j2 k x27 x28 x29 true x199000 x199001 x199002 x199003))) else (none)) else (none)) else (impl_ValidRoom.l1 k x199002 (x199002.length : Int) 0 x199000 x199001 x199002 x199003)
def impl_ValidRoom.j2 : Nat → List (S36) → Int → Int → Bool → Bool → List (S36) → List (S71) → List (S73) → Option (Bool)
  | 0, _, _, _, _, _, _, _, _ => none
  | k + 1, x27, x28, x29, x71, x199000, x199001, x199002, x199003 => if x71 = true then (some false) else (impl_ValidRoom.l0 k x27 x28 (wrap64 (x29 + 1)) x199000 x199001 x199002 x199003)
def impl_ValidRoom.l1 : Nat → List (S71) → Int → Int → Bool → List (S36) → List (S71) → List (S73) → Option (Bool)
  | 0, _, _, _, _, _, _, _ => none
  | k + 1, x74, x75, x76, x199000, x199001, x199002, x199003 => if x76 < x75 then (if 0 ≤ x76 then (if x76 < (x74.length : Int) then ((impl_isMember.f ((rd_T71 x74 x76).f0)).bind fun t209 => (if t209 = true then ((impl_isMember.f ((rd_T71 x74 x76).f1)).bind fun t210 => (if t210 = true then ((impl_isTick.f ((rd_T71 x74 x76).f2)).bind fun t211 => (if t211 = true then ((impl_Room_has.f k x199000 x199001 x199002 x199003 ((rd_T71 x74 x76).f0)).bind fun t212 => (if t212 = true then (impl_ValidRoom.j4 k x74 x75 x76 true x199000 x199001 x199002 x199003) else (if x76 > 0 then (if 0 ≤ (wrap64 (x76 - 1)) then (if (wrap64 (x76 - 1)) < (x199002.length : Int) then (impl_ValidRoom.j4 k x74 x75 x76 (decide (((rd_T71 x199002 (wrap64 (x76 - 1))).f0) ≥ ((rd_T71 x74 x76).f0))) x199000 x199001 x199002 x199003) else (none)) else (none)) else (impl_ValidRoom.j4 k x74 x75 x76 false x199000 x199001 x199002 x199003)))) else (impl_ValidRoom.j4 k x74 x75 x76 true x199000 x199001 x199002 x199003))) else (impl_ValidRoom.j4 k x74 x75 x76 true x199000 x199001 x199002 x199003))) else (impl_ValidRoom.j4 k x74 x75 x76 true x199000 x199001 x199002 x199003))) else (none)) else (none)) else (impl_ValidRoom.l2 k x199003 (x199003.length : Int) 0 x199000 x199001 x199002 x199003)
def impl_ValidRoom.j4 : Nat → List (S71) → Int → Int → Bool → Bool → List (S36) → List (S71) → List (S73) → Option (Bool)
  | 0, _, _, _, _, _, _, _, _ => none
  | k + 1, x74, x75, x76, x117, x199000, x199001, x199002, x199003 => if x117 = true then (some false) else (impl_ValidRoom.l1 k x74 x75 (wrap64 (x76 + 1)) x199000 x199001 x199002 x199003)
def impl_ValidRoom.l2 : Nat → List (S73) → Int → Int → Bool → List (S36) → List (S71) → List (S73) → Option (Bool)
  | 0, _, _, _, _, _, _, _ => none
  | k + 1, x120, x121, x122, x199000, x199001, x199002, x199003 => if x122 < x121 then (if 0 ≤ x122 then (if x122 < (x120.length : Int) then ((impl_isMember.f ((rd_T73 x120 x122).f0)).bind fun t217 => (if t217 = true then ((impl_isTick.f ((rd_T73 x120 x122).f1)).bind fun t218 => (if t218 = true then ((impl_Room_has.f k x199000 x199001 x199002 x199003 ((rd_T73 x120 x122).f0)).bind fun t219 => (if t219 = true then (impl_ValidRoom.j6 k x120 x121 x122 true x199000 x199001 x199002 x199003) else ((impl_Room_invited.f k x199000 x199001 x199002 x199003 ((rd_T73 x120 x122).f0)).bind fun t220 => (if t220 = true then (impl_ValidRoom.j6 k x120 x121 x122 true x199000 x199001 x199002 x199003) else (if x122 > 0 then (if 0 ≤ (wrap64 (x122 - 1)) then (if (wrap64 (x122 - 1)) < (x199003.length : Int) then (impl_ValidRoom.j6 k x120 x121 x122 (decide (((rd_T73 x199003 (wrap64 (x122 - 1))).f0) ≥ ((rd_T73 x120 x122).f0))) x199000 x199001 x199002 x199003) else (none)) else (none)) else (impl_ValidRoom.j6 k x120 x121 x122 false x199000 x199001 x199002 x199003)))))) else (impl_ValidRoom.j6 k x120 x121 x122 true x199000 x199001 x199002 x199003))) else (impl_ValidRoom.j6 k x120 x121 x122 true x199000 x199001 x199002 x199003))) else (none)) else (none)) else ((impl_Room_owners.f k x199000 x199001 x199002 x199003).bind fun t214 => (some (decide (t214 > 0))))
def impl_ValidRoom.j6 : Nat → List (S73) → Int → Int → Bool → Bool → List (S36) → List (S71) → List (S73) → Option (Bool)
  | 0, _, _, _, _, _, _, _, _ => none
  | k + 1, x120, x121, x122, x162, x199000, x199001, x199002, x199003 => if x162 = true then (some false) else (impl_ValidRoom.l2 k x120 x121 (wrap64 (x122 + 1)) x199000 x199001 x199002 x199003)
end
def impl_ValidRoom.f (k : Nat) (a0_0 : Bool) (l0_1 : List (S36)) (l0_2 : List (S71)) (l0_3 : List (S73)) : Option (Bool) := (impl_in.f (l0_1.length : Int) 1 32).bind fun t199 => (if t199 = true then (if (l0_2.length : Int) > 16 then (impl_ValidRoom.j0 k true a0_0 l0_1 l0_2 l0_3) else (impl_ValidRoom.j0 k (decide ((l0_3.length : Int) > 16)) a0_0 l0_1 l0_2 l0_3)) else (impl_ValidRoom.j0 k true a0_0 l0_1 l0_2 l0_3))
theorem impl_ValidRoom.mono_l : ∀ k, (∀ y0 y1 y2 y3 y4, LeO (impl_ValidRoom.j0 k y0 y1 y2 y3 y4) (impl_ValidRoom.j0 (k + 1) y0 y1 y2 y3 y4)) ∧ (∀ y0 y1 y2 y3 y4 y5 y6, LeO (impl_ValidRoom.l0 k y0 y1 y2 y3 y4 y5 y6) (impl_ValidRoom.l0 (k + 1) y0 y1 y2 y3 y4 y5 y6)) ∧ (∀ y0 y1 y2 y3 y4 y5 y6 y7, LeO (impl_ValidRoom.j2 k y0 y1 y2 y3 y4 y5 y6 y7) (impl_ValidRoom.j2 (k + 1) y0 y1 y2 y3 y4 y5 y6 y7)) ∧ (∀ y0 y1 y2 y3 y4 y5 y6, LeO (impl_ValidRoom.l1 k y0 y1 y2 y3 y4 y5 y6) (impl_ValidRoom.l1 (k + 1) y0 y1 y2 y3 y4 y5 y6)) ∧ (∀ y0 y1 y2 y3 y4 y5 y6 y7, LeO (impl_ValidRoom.j4 k y0 y1 y2 y3 y4 y5 y6 y7) (impl_ValidRoom.j4 (k + 1) y0 y1 y2 y3 y4 y5 y6 y7)) ∧ (∀ y0 y1 y2 y3 y4 y5 y6, LeO (impl_ValidRoom.l2 k y0 y1 y2 y3 y4 y5 y6) (impl_ValidRoom.l2 (k + 1) y0 y1 y2 y3 y4 y5 y6)) ∧ (∀ y0 y1 y2 y3 y4 y5 y6 y7, LeO (impl_ValidRoom.j6 k y0 y1 y2 y3 y4 y5 y6 y7) (impl_ValidRoom.j6 (k + 1) y0 y1 y2 y3 y4 y5 y6 y7))
  | 0 => ⟨fun _ _ _ _ _ r h => by simp [impl_ValidRoom.j0] at h, fun _ _ _ _ _ _ _ r h => by simp [impl_ValidRoom.l0] at h, fun _ _ _ _ _ _ _ _ r h => by simp [impl_ValidRoom.j2] at h, fun _ _ _ _ _ _ _ r h => by simp [impl_ValidRoom.l1] at h, fun _ _ _ _ _ _ _ _ r h => by simp [impl_ValidRoom.j4] at h, fun _ _ _ _ _ _ _ r h => by simp [impl_ValidRoom.l2] at h, fun _ _ _ _ _ _ _ _ r h => by simp [impl_ValidRoom.j6] at h⟩
  | k + 1 => by
    obtain ⟨ih0, ih1, ih2, ih3, ih4, ih5, ih6⟩ := impl_ValidRoom.mono_l k
    refine ⟨?_, ?_, ?_, ?_, ?_, ?_, ?_⟩
    · intro y0 y1 y2 y3 y4
      unfold impl_ValidRoom.j0
      repeat' first
      | (with_reducible exact ih0 _ _ _ _ _)
      | (with_reducible exact ih1 _ _ _ _ _ _ _)
      | (with_reducible exact ih2 _ _ _ _ _ _ _ _)
      | (with_reducible exact ih3 _ _ _ _ _ _ _)
      | (with_reducible exact ih4 _ _ _ _ _ _ _ _)
      | (with_reducible exact ih5 _ _ _ _ _ _ _)
      | (with_reducible exact ih6 _ _ _ _ _ _ _ _)
      | (with_reducible exact impl_Room_has.mono _ _ _ _ _ _)
      | (with_reducible exact impl_Room_invited.mono _ _ _ _ _ _)
      | (with_reducible exact impl_Room_owners.mono _ _ _ _ _)
      | (with_reducible exact LeO.refl _)
      | (with_reducible exact LeO.none _)
      | (with_reducible refine LeO.ite ?_ ?_)
      | (with_reducible refine LeO.bind ?_ (fun _ => ?_))
      | exact ih0 _ _ _ _ _
      | exact ih1 _ _ _ _ _ _ _
      | exact ih2 _ _ _ _ _ _ _ _
      | exact ih3 _ _ _ _ _ _ _
      | exact ih4 _ _ _ _ _ _ _ _
      | exact ih5 _ _ _ _ _ _ _
      | exact ih6 _ _ _ _ _ _ _ _
      | exact impl_Room_has.mono _ _ _ _ _ _
      | exact impl_Room_invited.mono _ _ _ _ _ _
      | exact impl_Room_owners.mono _ _ _ _ _
      | exact LeO.none _
      | refine LeO.ite ?_ ?_
      | refine LeO.bind ?_ (fun _ => ?_)
    · intro y0 y1 y2 y3 y4 y5 y6
      unfold impl_ValidRoom.l0
      repeat' first
      | (with_reducible exact ih0 _ _ _ _ _)
      | (with_reducible exact ih1 _ _ _ _ _ _ _)
      | (with_reducible exact ih2 _ _ _ _ _ _ _ _)
      | (with_reducible exact ih3 _ _ _ _ _ _ _)
      | (with_reducible exact ih4 _ _ _ _ _ _ _ _)
      | (with_reducible exact ih5 _ _ _ _ _ _ _)
      | (with_reducible exact ih6 _ _ _ _ _ _ _ _)
      | (with_reducible exact impl_Room_has.mono _ _ _ _ _ _)
      | (with_reducible exact impl_Room_invited.mono _ _ _ _ _ _)
      | (with_reducible exact impl_Room_owners.mono _ _ _ _ _)
      | (with_reducible exact LeO.refl _)
      | (with_reducible exact LeO.none _)
      | (with_reducible refine LeO.ite ?_ ?_)
      | (with_reducible refine LeO.bind ?_ (fun _ => ?_))
      | exact ih0 _ _ _ _ _
      | exact ih1 _ _ _ _ _ _ _
      | exact ih2 _ _ _ _ _ _ _ _
      | exact ih3 _ _ _ _ _ _ _
      | exact ih4 _ _ _ _ _ _ _ _
      | exact ih5 _ _ _ _ _ _ _
      | exact ih6 _ _ _ _ _ _ _ _
      | exact impl_Room_has.mono _ _ _ _ _ _
      | exact impl_Room_invited.mono _ _ _ _ _ _
      | exact impl_Room_owners.mono _ _ _ _ _
      | exact LeO.none _
      | refine LeO.ite ?_ ?_
      | refine LeO.bind ?_ (fun _ => ?_)
    · intro y0 y1 y2 y3 y4 y5 y6 y7
      unfold impl_ValidRoom.j2
      repeat' first
      | (with_reducible exact ih0 _ _ _ _ _)
      | (with_reducible exact ih1 _ _ _ _ _ _ _)
      | (with_reducible exact ih2 _ _ _ _ _ _ _ _)
      | (with_reducible exact ih3 _ _ _ _ _ _ _)
      | (with_reducible exact ih4 _ _ _ _ _ _ _ _)
      | (with_reducible exact ih5 _ _ _ _ _ _ _)
      | (with_reducible exact ih6 _ _ _ _ _ _ _ _)
      | (with_reducible exact impl_Room_has.mono _ _ _ _ _ _)
      | (with_reducible exact impl_Room_invited.mono _ _ _ _ _ _)
      | (with_reducible exact impl_Room_owners.mono _ _ _ _ _)
      | (with_reducible exact LeO.refl _)
      | (with_reducible exact LeO.none _)
      | (with_reducible refine LeO.ite ?_ ?_)
      | (with_reducible refine LeO.bind ?_ (fun _ => ?_))
      | exact ih0 _ _ _ _ _
      | exact ih1 _ _ _ _ _ _ _
      | exact ih2 _ _ _ _ _ _ _ _
      | exact ih3 _ _ _ _ _ _ _
      | exact ih4 _ _ _ _ _ _ _ _
      | exact ih5 _ _ _ _ _ _ _
      | exact ih6 _ _ _ _ _ _ _ _
      | exact impl_Room_has.mono _ _ _ _ _ _
      | exact impl_Room_invited.mono _ _ _ _ _ _
      | exact impl_Room_owners.mono _ _ _ _ _
      | exact LeO.none _
      | refine LeO.ite ?_ ?_
      | refine LeO.bind ?_ (fun _ => ?_)
    · intro y0 y1 y2 y3 y4 y5 y6
      unfold impl_ValidRoom.l1
      repeat' first
      | (with_reducible exact ih0 _ _ _ _ _)
      | (with_reducible exact ih1 _ _ _ _ _ _ _)
      | (with_reducible exact ih2 _ _ _ _ _ _ _ _)
      | (with_reducible exact ih3 _ _ _ _ _ _ _)
      | (with_reducible exact ih4 _ _ _ _ _ _ _ _)
      | (with_reducible exact ih5 _ _ _ _ _ _ _)
      | (with_reducible exact ih6 _ _ _ _ _ _ _ _)
      | (with_reducible exact impl_Room_has.mono _ _ _ _ _ _)
      | (with_reducible exact impl_Room_invited.mono _ _ _ _ _ _)
      | (with_reducible exact impl_Room_owners.mono _ _ _ _ _)
      | (with_reducible exact LeO.refl _)
      | (with_reducible exact LeO.none _)
      | (with_reducible refine LeO.ite ?_ ?_)
      | (with_reducible refine LeO.bind ?_ (fun _ => ?_))
      | exact ih0 _ _ _ _ _
      | exact ih1 _ _ _ _ _ _ _
      | exact ih2 _ _ _ _ _ _ _ _
      | exact ih3 _ _ _ _ _ _ _
      | exact ih4 _ _ _ _ _ _ _ _
      | exact ih5 _ _ _ _ _ _ _
      | exact ih6 _ _ _ _ _ _ _ _
      | exact impl_Room_has.mono _ _ _ _ _ _
      | exact impl_Room_invited.mono _ _ _ _ _ _
      | exact impl_Room_owners.mono _ _ _ _ _
      | exact LeO.none _
      | refine LeO.ite ?_ ?_
      | refine LeO.bind ?_ (fun _ => ?_)
    · intro y0 y1 y2 y3 y4 y5 y6 y7
      unfold impl_ValidRoom.j4
      repeat' first
      | (with_reducible exact ih0 _ _ _ _ _)
      | (with_reducible exact ih1 _ _ _ _ _ _ _)
      | (with_reducible exact ih2 _ _ _ _ _ _ _ _)
      | (with_reducible exact ih3 _ _ _ _ _ _ _)
      | (with_reducible exact ih4 _ _ _ _ _ _ _ _)
      | (with_reducible exact ih5 _ _ _ _ _ _ _)
      | (with_reducible exact ih6 _ _ _ _ _ _ _ _)
      | (with_reducible exact impl_Room_has.mono _ _ _ _ _ _)
      | (with_reducible exact impl_Room_invited.mono _ _ _ _ _ _)
      | (with_reducible exact impl_Room_owners.mono _ _ _ _ _)
      | (with_reducible exact LeO.refl _)
      | (with_reducible exact LeO.none _)
      | (with_reducible refine LeO.ite ?_ ?_)
      | (with_reducible refine LeO.bind ?_ (fun _ => ?_))
      | exact ih0 _ _ _ _ _
      | exact ih1 _ _ _ _ _ _ _
      | exact ih2 _ _ _ _ _ _ _ _
      | exact ih3 _ _ _ _ _ _ _
      | exact ih4 _ _ _ _ _ _ _ _
      | exact ih5 _ _ _ _ _ _ _
      | exact ih6 _ _ _ _ _ _ _ _
      | exact impl_Room_has.mono _ _ _ _ _ _
      | exact impl_Room_invited.mono _ _ _ _ _ _
      | exact impl_Room_owners.mono _ _ _ _ _
      | exact LeO.none _
      | refine LeO.ite ?_ ?_
      | refine LeO.bind ?_ (fun _ => ?_)
    · intro y0 y1 y2 y3 y4 y5 y6
      unfold impl_ValidRoom.l2
      repeat' first
      | (with_reducible exact ih0 _ _ _ _ _)
      | (with_reducible exact ih1 _ _ _ _ _ _ _)
      | (with_reducible exact ih2 _ _ _ _ _ _ _ _)
      | (with_reducible exact ih3 _ _ _ _ _ _ _)
      | (with_reducible exact ih4 _ _ _ _ _ _ _ _)
      | (with_reducible exact ih5 _ _ _ _ _ _ _)
      | (with_reducible exact ih6 _ _ _ _ _ _ _ _)
      | (with_reducible exact impl_Room_has.mono _ _ _ _ _ _)
      | (with_reducible exact impl_Room_invited.mono _ _ _ _ _ _)
      | (with_reducible exact impl_Room_owners.mono _ _ _ _ _)
      | (with_reducible exact LeO.refl _)
      | (with_reducible exact LeO.none _)
      | (with_reducible refine LeO.ite ?_ ?_)
      | (with_reducible refine LeO.bind ?_ (fun _ => ?_))
      | exact ih0 _ _ _ _ _
      | exact ih1 _ _ _ _ _ _ _
      | exact ih2 _ _ _ _ _ _ _ _
      | exact ih3 _ _ _ _ _ _ _
      | exact ih4 _ _ _ _ _ _ _ _
      | exact ih5 _ _ _ _ _ _ _
      | exact ih6 _ _ _ _ _ _ _ _
      | exact impl_Room_has.mono _ _ _ _ _ _
      | exact impl_Room_invited.mono _ _ _ _ _ _
      | exact impl_Room_owners.mono _ _ _ _ _
      | exact LeO.none _
      | refine LeO.ite ?_ ?_
      | refine LeO.bind ?_ (fun _ => ?_)
    · intro y0 y1 y2 y3 y4 y5 y6 y7
      unfold impl_ValidRoom.j6
      repeat' first
      | (with_reducible exact ih0 _ _ _ _ _)
      | (with_reducible exact ih1 _ _ _ _ _ _ _)
      | (with_reducible exact ih2 _ _ _ _ _ _ _ _)
      | (with_reducible exact ih3 _ _ _ _ _ _ _)
      | (with_reducible exact ih4 _ _ _ _ _ _ _ _)
      | (with_reducible exact ih5 _ _ _ _ _ _ _)
      | (with_reducible exact ih6 _ _ _ _ _ _ _ _)
      | (with_reducible exact impl_Room_has.mono _ _ _ _ _ _)
      | (with_reducible exact impl_Room_invited.mono _ _ _ _ _ _)
      | (with_reducible exact impl_Room_owners.mono _ _ _ _ _)
      | (with_reducible exact LeO.refl _)
      | (with_reducible exact LeO.none _)
      | (with_reducible refine LeO.ite ?_ ?_)
      | (with_reducible refine LeO.bind ?_ (fun _ => ?_))
      | exact ih0 _ _ _ _ _
      | exact ih1 _ _ _ _ _ _ _
      | exact ih2 _ _ _ _ _ _ _ _
      | exact ih3 _ _ _ _ _ _ _
      | exact ih4 _ _ _ _ _ _ _ _
      | exact ih5 _ _ _ _ _ _ _
      | exact ih6 _ _ _ _ _ _ _ _
      | exact impl_Room_has.mono _ _ _ _ _ _
      | exact impl_Room_invited.mono _ _ _ _ _ _
      | exact impl_Room_owners.mono _ _ _ _ _
      | exact LeO.none _
      | refine LeO.ite ?_ ?_
      | refine LeO.bind ?_ (fun _ => ?_)
theorem impl_ValidRoom.mono : ∀ a0 a1 a2 a3 k, LeO (impl_ValidRoom.f k a0 a1 a2 a3) (impl_ValidRoom.f (k + 1) a0 a1 a2 a3) := by
  intro a0 a1 a2 a3 k
  obtain ⟨ih0, ih1, ih2, ih3, ih4, ih5, ih6⟩ := impl_ValidRoom.mono_l k
  unfold impl_ValidRoom.f
  repeat' first
      | (with_reducible exact ih0 _ _ _ _ _)
      | (with_reducible exact ih1 _ _ _ _ _ _ _)
      | (with_reducible exact ih2 _ _ _ _ _ _ _ _)
      | (with_reducible exact ih3 _ _ _ _ _ _ _)
      | (with_reducible exact ih4 _ _ _ _ _ _ _ _)
      | (with_reducible exact ih5 _ _ _ _ _ _ _)
      | (with_reducible exact ih6 _ _ _ _ _ _ _ _)
      | (with_reducible exact impl_Room_has.mono _ _ _ _ _ _)
      | (with_reducible exact impl_Room_invited.mono _ _ _ _ _ _)
      | (with_reducible exact impl_Room_owners.mono _ _ _ _ _)
      | (with_reducible exact LeO.refl _)
      | (with_reducible exact LeO.none _)
      | (with_reducible refine LeO.ite ?_ ?_)
      | (with_reducible refine LeO.bind ?_ (fun _ => ?_))
      | exact ih0 _ _ _ _ _
      | exact ih1 _ _ _ _ _ _ _
      | exact ih2 _ _ _ _ _ _ _ _
      | exact ih3 _ _ _ _ _ _ _
      | exact ih4 _ _ _ _ _ _ _ _
      | exact ih5 _ _ _ _ _ _ _
      | exact ih6 _ _ _ _ _ _ _ _
      | exact impl_Room_has.mono _ _ _ _ _ _
      | exact impl_Room_invited.mono _ _ _ _ _ _
      | exact impl_Room_owners.mono _ _ _ _ _
      | exact LeO.none _
      | refine LeO.ite ?_ ?_
      | refine LeO.bind ?_ (fun _ => ?_)
def impl_ValidRoom.T6 : Bool × List (List Nat × List Nat) := (true, [([], []), ([0], [0]), ([1], [1]), ([2], [2]), ([3, 2], [3]), ([4], [4]), ([5, 4], [4, 5]), ([6, 4, 4], [4, 6]), ([7, 4], [4, 7]), ([4, 8], [4, 8]), ([9, 7], [9]), ([10], [10]), ([11, 10], [10, 11]), ([12, 10, 10], [10, 12]), ([13, 10], [10, 13]), ([10, 14], [10, 14]), ([15, 13], [15]), ([16], [16]), ([17, 16], [16, 17]), ([18, 16, 16], [16, 18]), ([19, 16], [16, 19]), ([16, 20], [16, 20]), ([21, 19], [21]), ([22], [22]), ([23, 22], [22, 23]), ([24, 22, 22], [22, 24]), ([25], [25]), ([26, 25], [25, 26]), ([25], [25]), ([28, 25], [25, 28]), ([27, 29, 25], [25, 27, 29]), ([30, 25], [25, 30]), ([31, 25], [25, 31]), ([25], [25]), ([33, 25], [25, 33]), ([32, 34, 25], [25, 32, 34]), ([25, 35, 22], [22, 25, 35]), ([22, 36], [22, 36])])
def impl_ValidRoom.B6 : List Nat := [0, 1, 3, 7, 15, 31, 63, 127, 255, 511, 1023, 2047, 4095, 8191, 16383, 32767, 65535, 131071, 262143, 524287, 1048575, 2097151, 4194303, 8388607, 16777215, 33554431, 67108863, 134217727, 67108863, 335544319, 1073741823, 2147483647, 4294967295, 67108863, 8657043455, 34359738367, 68719476735, 137438953471]
theorem impl_ValidRoom.tab6 : rtab .any (opsOf Try.f11 6) = impl_ValidRoom.T6 := by kernel_rfl
theorem impl_ValidRoom.bits6 : waitsOk impl_ValidRoom.T6.2 impl_ValidRoom.B6 = true := by kernel_rfl
def impl_ValidRoom.T12 : Bool × List (List Nat × List Nat) := (true, [([], []), ([0], [0]), ([1], [1]), ([2], [2]), ([3, 2], [3]), ([4], [4]), ([5, 4], [4, 5]), ([6, 4, 4], [4, 6]), ([7, 4], [4, 7]), ([4, 8], [4, 8]), ([9, 7], [9]), ([10], [10]), ([11, 10], [10, 11]), ([12, 10, 10], [10, 12]), ([13, 10], [10, 13]), ([10, 14], [10, 14]), ([15, 13], [15]), ([16], [16]), ([17, 16], [16, 17]), ([18, 16, 16], [16, 18]), ([16, 19], [16, 19]), ([20, 19], [20]), ([21], [21]), ([22, 21], [21, 22]), ([23, 21, 21], [21, 23]), ([24], [24]), ([25, 24], [24, 25]), ([24], [24]), ([27, 24], [24, 27]), ([26, 28, 24], [24, 26, 28]), ([29, 24], [24, 29]), ([30, 24], [24, 30]), ([24], [24]), ([32, 24], [24, 32]), ([31, 33, 24], [24, 31, 33]), ([24, 34, 21], [21, 24, 34]), ([21, 35], [21, 35])])
def impl_ValidRoom.B12 : List Nat := [0, 1, 3, 7, 15, 31, 63, 127, 255, 511, 1023, 2047, 4095, 8191, 16383, 32767, 65535, 131071, 262143, 524287, 1048575, 2097151, 4194303, 8388607, 16777215, 33554431, 67108863, 33554431, 167772159, 536870911, 1073741823, 2147483647, 33554431, 4328521727, 17179869183, 34359738367, 68719476735]
theorem impl_ValidRoom.tab12 : rtab .any (opsOf Try.f11 12) = impl_ValidRoom.T12 := by kernel_rfl
theorem impl_ValidRoom.bits12 : waitsOk impl_ValidRoom.T12.2 impl_ValidRoom.B12 = true := by kernel_rfl
def impl_ValidRoom.T18 : Bool × List (List Nat × List Nat) := (true, [([], []), ([0], [0]), ([1], [1]), ([2], [2]), ([3, 2], [3]), ([4], [4]), ([5, 4], [4, 5]), ([6, 4, 4], [4, 6]), ([7, 4], [4, 7]), ([4, 8], [4, 8]), ([9, 7], [9]), ([10], [10]), ([11, 10], [10, 11]), ([12, 10, 10], [10, 12]), ([10, 13], [10, 13]), ([14, 13], [14]), ([15], [15]), ([16, 15], [15, 16]), ([17, 15, 15], [15, 17]), ([15, 18], [15, 18]), ([19, 18], [19]), ([20], [20]), ([21, 20], [20, 21]), ([22, 20, 20], [20, 22]), ([23], [23]), ([24, 23], [23, 24]), ([23], [23]), ([26, 23], [23, 26]), ([25, 27, 23], [23, 25, 27]), ([28, 23], [23, 28]), ([29, 23], [23, 29]), ([23], [23]), ([31, 23], [23, 31]), ([30, 32, 23], [23, 30, 32]), ([23, 33, 20], [20, 23, 33]), ([20, 34], [20, 34])])
def impl_ValidRoom.B18 : List Nat := [0, 1, 3, 7, 15, 31, 63, 127, 255, 511, 1023, 2047, 4095, 8191, 16383, 32767, 65535, 131071, 262143, 524287, 1048575, 2097151, 4194303, 8388607, 16777215, 33554431, 16777215, 83886079, 268435455, 536870911, 1073741823, 16777215, 2164260863, 8589934591, 17179869183, 34359738367]
theorem impl_ValidRoom.tab18 : rtab .any (opsOf Try.f11 18) = impl_ValidRoom.T18 := by kernel_rfl
theorem impl_ValidRoom.bits18 : waitsOk impl_ValidRoom.T18.2 impl_ValidRoom.B18 = true := by kernel_rfl
set_option maxHeartbeats 40000000 in
set_option maxRecDepth 100000 in
theorem impl_ValidRoom.calls (k : Nat) (a0_0 : Bool) (A0_1 : Option Addr) (c0_1 : Nat) (l0_1 : List (S36)) (A0_2 : Option Addr) (c0_2 : Nat) (l0_2 : List (S71)) (A0_3 : Option Addr) (c0_3 : Nat) (l0_3 : List (S73)) (r : Bool) (w : World) (hr0_1 : Kd.C k36 w A0_1 l0_1.length l0_1) (hc0_1 : l0_1.length ≤ c0_1) (hr0_2 : Kd.C k71 w A0_2 l0_2.length l0_2) (hc0_2 : l0_2.length ≤ c0_2) (hr0_3 : Kd.C k73 w A0_3 l0_3.length l0_3) (hc0_3 : l0_3.length ≤ c0_3) (h : impl_ValidRoom.f k a0_0 l0_1 l0_2 l0_3 = some r) :
    Calls Try.prog 11 #[.agg #[.bool a0_0, .slice A0_1 l0_1.length c0_1, .slice A0_2 l0_2.length c0_2, .slice A0_3 l0_3.length c0_3]] w fun e w' => e = .returned (.bool r) ∧ Below w.heap.size w w' := by
 have hu28 := Try.underlying28
 have hu36 := Try.underlying36
 have hu71 := Try.underlying71
 have hu73 := Try.underlying73
 have HR0_1 := Aside0.mk hr0_1
 have HC0_1 := Aside0.mk hc0_1
 clear hr0_1 hc0_1
 have HR0_2 := Aside0.mk hr0_2
 have HC0_2 := Aside0.mk hc0_2
 clear hr0_2 hc0_2
 have HR0_3 := Aside0.mk hr0_3
 have HC0_3 := Aside0.mk hc0_3
 clear hr0_3 hc0_3
 have HB := Aside0.mk (Below.refl w.heap.size w)
 have H : ((impl_in.f (l0_1.length : Int) 1 32).bind fun t199 => (if t199 = true then (if (l0_2.length : Int) > 16 then (impl_ValidRoom.j0 k true a0_0 l0_1 l0_2 l0_3) else (impl_ValidRoom.j0 k (decide ((l0_3.length : Int) > 16)) a0_0 l0_1 l0_2 l0_3)) else (impl_ValidRoom.j0 k true a0_0 l0_1 l0_2 l0_3))) = some r := h
 clear h
 have HC2 := Aside0.mk H
 clear H
 go_enter Try.func11, Try.ntmps11
 go_upto_region 1 with (first | ((with_reducible refine gate_dst (N := 1) rfl ?_); (try (refine gate_guard (by rfl) ?_; dsimp only)); refine box_event ?hg (N := 1) ?hd (cs := #[.bool a0_0, .slice A0_1 l0_1.length c0_1, .slice A0_2 l0_2.length c0_2, .slice A0_3 l0_3.length c0_3]) (t := 28) ?hr ?_; (case hd => rfl); (case hg => rfl); (case hr => first | (go_simp; done) | (go_simp; rfl)); intro gb198 hg w3 hbox hb; have n0_ := Aside0.mk (below_step (by repeat (first | (with_reducible first | exact HB.out | apply below_alloc | apply pw_below_drewN | apply below_drew1) | exact HB.out)) hb); have n1_ := Aside0.mk (hbox); have n2_ := Aside0.mk ((by rw [hg]; exact (below_size (by repeat (first | (with_reducible first | exact HB.out | apply below_alloc | apply pw_below_drewN | apply below_drew1) | exact HB.out))) : w.heap.size ≤ gb198)); have n3_ := Aside0.mk ((by rw [hg]; exact (below_size (by repeat (first | (with_reducible first | exact HB.out | apply below_alloc | apply pw_below_drewN | apply below_drew1) | exact HB.out))) : w.heap.size ≤ gb198)); clear HB; have HB := n0_; have BK198 := n1_; have GW198 := n2_; have GE198 := n3_; clear n0_ n1_ n2_ n3_; clear hb hbox hg))
 (try simp only [Act.put, List.setIfInBounds_toArray, List.set_cons_zero, List.set_cons_succ])
 go_cut [25] (fun v25 wc => ∃ (kq : Nat) (x25_1 : Bool), v25 = .bool x25_1 ∧ Aside0 (impl_ValidRoom.j0 kq x25_1 a0_0 l0_1 l0_2 l0_3 = some r) ∧ Aside0 (kq ≤ k) ∧ Aside0 (wc.heap[gb198]? = some (.cells #[.bool a0_0, (.slice A0_1 l0_1.length c0_1), (.slice A0_2 l0_2.length c0_2), (.slice A0_3 l0_3.length c0_3)] 28 (0, 0))) ∧ Aside0 (Below w.heap.size w wc))
 case first =>
  as_aux_lemma =>
   skip
   {
 have H := HC2.out
 clear HC2
 replace H := Option.bind_eq_some_iff.mp H
 obtain ⟨t199, A40, H⟩ := H
 replace H : (if t199 = true then (if (l0_2.length : Int) > 16 then (impl_ValidRoom.j0 k true a0_0 l0_1 l0_2 l0_3) else (impl_ValidRoom.j0 k (decide ((l0_3.length : Int) > 16)) a0_0 l0_1 l0_2 l0_3)) else (impl_ValidRoom.j0 k true a0_0 l0_1 l0_2 l0_3)) = some r := H
 have A4 := Aside0.mk A40
 clear A40
 by_cases c5 : t199 = true
 {
 subst c5
 have H1 : (if (l0_2.length : Int) > 16 then (impl_ValidRoom.j0 k true a0_0 l0_1 l0_2 l0_3) else (impl_ValidRoom.j0 k (decide ((l0_3.length : Int) > 16)) a0_0 l0_1 l0_2 l0_3)) = some r := by rw [if_pos rfl] at H; exact H
 clear H
 have H := H1
 clear H1
 by_cases c6 : (l0_2.length : Int) > 16
 {
 rw [if_pos c6] at H
 have c6b0 : decide (16 < (l0_2.length : Int)) = true := decide_eq_true c6
 have c6b1 : decide (16 < l0_2.length) = true := decide_eq_true (by omega)
 clear c6
 (first | rw [c6b0] | (simp only [i64_w, i32_w]; rw [c6b0]) | skip)
 have H' := Aside0.mk H
 clear H
 have hcz7_0 : w3.cell? ⟨gb198, 0, none⟩ = some (.bool a0_0) := (blk_cell BK198.out 0).trans rfl
 have hcz7_1 : w3.cell? ⟨gb198, 1, none⟩ = some (.slice A0_1 l0_1.length c0_1) := (blk_cell BK198.out 1).trans rfl
 have hcz7_2 : w3.cell? ⟨gb198, 2, none⟩ = some (.slice A0_2 l0_2.length c0_2) := (blk_cell BK198.out 2).trans rfl
 have hcz7_3 : w3.cell? ⟨gb198, 3, none⟩ = some (.slice A0_3 l0_3.length c0_3) := (blk_cell BK198.out 3).trans rfl
 have hfz7_0 := blk_frozen BK198.out 0
 have hfz7_1 := blk_frozen BK198.out 1
 have hfz7_2 := blk_frozen BK198.out 2
 have hfz7_3 := blk_frozen BK198.out 3
 go_wp2_with (first | ((with_reducible refine gate_callee (f := 31) rfl ?_); refine goesL_ (some 12) rfl rfl Try.func31 s2_ rfl #[.int .i64 (l0_1.length : Int), .int .i64 1, .int .i64 32] rfl s3_ ?_; (with_reducible refine (impl_in.calls (l0_1.length : Int) 1 32 true _ A4.out).mono ?_); rintro e w' ⟨rfl, ⟨nd, rfl⟩⟩; refine ⟨_, rfl, ?_⟩))
 go_meet
 case rel => exact ⟨_, (true), s1_, H', ⟨by first | omega | exact Nat.le_refl _⟩, ⟨b1_ BK198.out⟩, ⟨by repeat (first | (with_reducible first | exact HB.out | apply below_alloc | apply pw_below_drewN | apply below_drew1 | refine below_set ?_ GE198.out) | exact HB.out)⟩⟩}
 {
 rw [if_neg c6] at H
 have c6b0 : decide (16 < (l0_2.length : Int)) = false := decide_eq_false c6
 have c6b1 : decide (16 < l0_2.length) = false := decide_eq_false (by omega)
 clear c6
 (first | rw [c6b0] | (simp only [i64_w, i32_w]; rw [c6b0]) | skip)
 have H' := Aside0.mk H
 clear H
 have hcz8_0 : w3.cell? ⟨gb198, 0, none⟩ = some (.bool a0_0) := (blk_cell BK198.out 0).trans rfl
 have hcz8_1 : w3.cell? ⟨gb198, 1, none⟩ = some (.slice A0_1 l0_1.length c0_1) := (blk_cell BK198.out 1).trans rfl
 have hcz8_2 : w3.cell? ⟨gb198, 2, none⟩ = some (.slice A0_2 l0_2.length c0_2) := (blk_cell BK198.out 2).trans rfl
 have hcz8_3 : w3.cell? ⟨gb198, 3, none⟩ = some (.slice A0_3 l0_3.length c0_3) := (blk_cell BK198.out 3).trans rfl
 have hfz8_0 := blk_frozen BK198.out 0
 have hfz8_1 := blk_frozen BK198.out 1
 have hfz8_2 := blk_frozen BK198.out 2
 have hfz8_3 := blk_frozen BK198.out 3
 go_wp2_with (first | ((with_reducible refine gate_callee (f := 31) rfl ?_); refine goesL_ (some 12) rfl rfl Try.func31 s2_ rfl #[.int .i64 (l0_1.length : Int), .int .i64 1, .int .i64 32] rfl s3_ ?_; (with_reducible refine (impl_in.calls (l0_1.length : Int) 1 32 true _ A4.out).mono ?_); rintro e w' ⟨rfl, ⟨nd, rfl⟩⟩; refine ⟨_, rfl, ?_⟩))
 go_meet
 case rel => exact ⟨_, (decide ((l0_3.length : Int) > 16)), s1_, H', ⟨by first | omega | exact Nat.le_refl _⟩, ⟨b1_ BK198.out⟩, ⟨by repeat (first | (with_reducible first | exact HB.out | apply below_alloc | apply pw_below_drewN | apply below_drew1 | refine below_set ?_ GE198.out) | exact HB.out)⟩⟩}}
 {
 replace c5 := Bool.eq_false_iff.mpr c5
 subst c5
 have H1 : (impl_ValidRoom.j0 k true a0_0 l0_1 l0_2 l0_3) = some r := by rw [if_neg (show ¬ (false = true) by decide)] at H; exact H
 clear H
 have H := H1
 clear H1
 have H' := Aside0.mk H
 clear H
 have hcz9_0 : w3.cell? ⟨gb198, 0, none⟩ = some (.bool a0_0) := (blk_cell BK198.out 0).trans rfl
 have hcz9_1 : w3.cell? ⟨gb198, 1, none⟩ = some (.slice A0_1 l0_1.length c0_1) := (blk_cell BK198.out 1).trans rfl
 have hcz9_2 : w3.cell? ⟨gb198, 2, none⟩ = some (.slice A0_2 l0_2.length c0_2) := (blk_cell BK198.out 2).trans rfl
 have hcz9_3 : w3.cell? ⟨gb198, 3, none⟩ = some (.slice A0_3 l0_3.length c0_3) := (blk_cell BK198.out 3).trans rfl
 have hfz9_0 := blk_frozen BK198.out 0
 have hfz9_1 := blk_frozen BK198.out 1
 have hfz9_2 := blk_frozen BK198.out 2
 have hfz9_3 := blk_frozen BK198.out 3
 go_wp2_with (first | ((with_reducible refine gate_callee (f := 31) rfl ?_); refine goesL_ (some 12) rfl rfl Try.func31 s2_ rfl #[.int .i64 (l0_1.length : Int), .int .i64 1, .int .i64 32] rfl s3_ ?_; (with_reducible refine (impl_in.calls (l0_1.length : Int) 1 32 false _ A4.out).mono ?_); rintro e w' ⟨rfl, ⟨nd, rfl⟩⟩; refine ⟨_, rfl, ?_⟩))
 go_meet
 case rel => exact ⟨_, (true), s1_, H', ⟨by first | omega | exact Nat.le_refl _⟩, ⟨b1_ BK198.out⟩, ⟨by repeat (first | (with_reducible first | exact HB.out | apply below_alloc | apply pw_below_drewN | apply below_drew1 | refine below_set ?_ GE198.out) | exact HB.out)⟩⟩}}
 case rest =>
  skip
  {
 clear HC2
 try clear c1
 try clear p2
 try clear c3
 try clear c5
 try clear c6
 try clear c6b0
 try clear c6b1
 try clear hcz7_0
 try clear hcz7_1
 try clear hcz7_2
 try clear hcz7_3
 try clear hcz8_0
 try clear hcz8_1
 try clear hcz8_2
 try clear hcz8_3
 try clear hcz9_0
 try clear hcz9_1
 try clear hcz9_2
 try clear hcz9_3
 try clear hfz7_0
 try clear hfz7_1
 try clear hfz7_2
 try clear hfz7_3
 try clear hfz8_0
 try clear hfz8_1
 try clear hfz8_2
 try clear hfz8_3
 try clear hfz9_0
 try clear hfz9_1
 try clear hfz9_2
 try clear hfz9_3
 obtain ⟨kq, x25_1, rfl, HA, HJ1, BK198, HB⟩ := hcut
 cases kq with
 | zero => exact absurd HA.out (by simp [impl_ValidRoom.j0])
 | succ kj1 =>
  skip
  {
 have H := HA.out
 clear HA
 simp only [impl_ValidRoom.j0] at H
 by_cases c10 : x25_1 = true
 {
 subst c10
 have H1 : (some false) = some r := by rw [if_pos rfl] at H; exact H
 clear H
 have H := H1
 clear H1
 obtain rfl := Option.some.inj H
 go_wp2
 go_ret
 exact ⟨by first | rfl | (simp [errW_none, errW_some] <;> rfl) | (simp [*, errW_none, errW_some] <;> rfl), by repeat (first | (with_reducible first | exact HB.out | apply below_alloc | apply pw_below_drewN | apply below_drew1 | refine below_set ?_ GE198.out) | exact HB.out)⟩}
 {
 replace c10 := Bool.eq_false_iff.mpr c10
 subst c10
 have H1 : (impl_ValidRoom.l0 kj1 l0_1 (l0_1.length : Int) 0 a0_0 l0_1 l0_2 l0_3) = some r := by rw [if_neg (show ¬ (false = true) by decide)] at H; exact H
 clear H
 have H := H1
 clear H1
 have H' := Aside0.mk H
 clear H
 have hcz11_0 : wc.cell? ⟨gb198, 0, none⟩ = some (.bool a0_0) := (blk_cell BK198.out 0).trans rfl
 have hcz11_1 : wc.cell? ⟨gb198, 1, none⟩ = some (.slice A0_1 l0_1.length c0_1) := (blk_cell BK198.out 1).trans rfl
 have hcz11_2 : wc.cell? ⟨gb198, 2, none⟩ = some (.slice A0_2 l0_2.length c0_2) := (blk_cell BK198.out 2).trans rfl
 have hcz11_3 : wc.cell? ⟨gb198, 3, none⟩ = some (.slice A0_3 l0_3.length c0_3) := (blk_cell BK198.out 3).trans rfl
 have hfz11_0 := blk_frozen BK198.out 0
 have hfz11_1 := blk_frozen BK198.out 1
 have hfz11_2 := blk_frozen BK198.out 2
 have hfz11_3 := blk_frozen BK198.out 3
 go_wp2
 go_loopg [29] kj1 (fun kq v29 w' => ∃ (x29_2 : Int), v29 = .int .i64 x29_2 ∧ Aside0 (impl_ValidRoom.l0 kq l0_1 (l0_1.length : Int) x29_2 a0_0 l0_1 l0_2 l0_3 = some r) ∧ Aside0 (kq ≤ kj1) ∧ Aside0 (w'.heap[gb198]? = some (.cells #[.bool a0_0, (.slice A0_1 l0_1.length c0_1), (.slice A0_2 l0_2.length c0_2), (.slice A0_3 l0_3.length c0_3)] 28 (0, 0))) ∧ Aside0 (Below w.heap.size w w'))
 case atStart => exact ⟨(0), s1_, H', ⟨Nat.le_refl _⟩, ⟨b1_ BK198.out⟩, ⟨by repeat (first | (with_reducible first | exact HB.out | apply below_alloc | apply pw_below_drewN | apply below_drew1 | refine below_set ?_ GE198.out) | exact HB.out)⟩⟩
 case round =>
  skip
  {
 clear H'
 try clear c1
 try clear p2
 try clear c3
 try clear c5
 try clear c6
 try clear c6b0
 try clear c6b1
 try clear c10
 try clear c11
 try clear hcz11_0
 try clear hcz11_1
 try clear hcz11_2
 try clear hcz11_3
 try clear hcz7_0
 try clear hcz7_1
 try clear hcz7_2
 try clear hcz7_3
 try clear hcz8_0
 try clear hcz8_1
 try clear hcz8_2
 try clear hcz8_3
 try clear hcz9_0
 try clear hcz9_1
 try clear hcz9_2
 try clear hcz9_3
 try clear hfz11_0
 try clear hfz11_1
 try clear hfz11_2
 try clear hfz11_3
 try clear hfz7_0
 try clear hfz7_1
 try clear hfz7_2
 try clear hfz7_3
 try clear hfz8_0
 try clear hfz8_1
 try clear hfz8_2
 try clear hfz8_3
 try clear hfz9_0
 try clear hfz9_1
 try clear hfz9_2
 try clear hfz9_3
 try clear p2
 obtain ⟨x29_2, rfl, HA, HK2, BK198, HB⟩ := hrel
 cases gk with
 | zero => exact absurd HA.out (by simp [impl_ValidRoom.l0])
 | succ k2 =>
  skip
  {
 have H := HA.out
 clear HA
 simp only [impl_ValidRoom.l0] at H
 by_cases c12 : x29_2 < (l0_1.length : Int)
 {
 rw [if_pos c12] at H
 have c12b0 : decide (x29_2 < (l0_1.length : Int)) = true := decide_eq_true c12
 clear c12
 by_cases c13 : 0 ≤ x29_2
 {
 rw [if_pos c13] at H
 have c13b0 : decide (0 ≤ x29_2) = true := decide_eq_true c13
 clear c13
 by_cases c14 : x29_2 < (l0_1.length : Int)
 {
 rw [if_pos c14] at H
 have c14b0 : decide (x29_2 < (l0_1.length : Int)) = true := decide_eq_true c14
 clear c14
 have HC15 := Aside0.mk H
 clear H
 have p200 : 0 ≤ (x29_2 : Int) := of_decide_eq_true (by first | (with_reducible assumption) | assumption)
 have q200 : x29_2 < (l0_1.length : Int) := of_decide_eq_true (by first | (with_reducible assumption) | assumption)
 obtain ⟨ad200, e200, hx200_0, hx200_1, hx200_2, hx200_3⟩ := at_T36 HR0_1.out x29_2 p200 q200
 cases e200
 replace hx200_0 := (HB.out.cell (World.block_lt_of_cell? w _ hx200_0)).trans hx200_0
 replace hx200_1 := (HB.out.cell (World.block_lt_of_cell? w _ hx200_1)).trans hx200_1
 replace hx200_2 := (HB.out.cell (World.block_lt_of_cell? w _ hx200_2)).trans hx200_2
 replace hx200_3 := (HB.out.cell (World.block_lt_of_cell? w _ hx200_3)).trans hx200_3
 replace p200 := eq_true p200
 replace q200 := eq_true q200
 go_upto_region 6 with (first | ((with_reducible refine gate_dst (N := 4) rfl ?_); (try (refine gate_guard (by rfl) ?_; dsimp only)); refine box_event ?hg (N := 4) ?hd (cs := #[.int .i64 0, .int .i64 0, .int .i64 0, .int .i64 0]) (t := 36) ?hr ?_; (case hd => rfl); (case hg => rfl); (case hr => first | (go_simp; done) | (go_simp; rfl)); intro gb201 hg w16 hbox hb; have n0_ := Aside0.mk (blk_below (g := gb198) (o := .cells #[.bool a0_0, .slice (some ad200) l0_1.length c0_1, .slice A0_2 l0_2.length c0_2, .slice A0_3 l0_3.length c0_3] 28 (0, 0)) (b1_ BK198.out) hb); have n1_ := Aside0.mk (below_step (by repeat (first | (with_reducible first | exact HB.out | apply below_alloc | apply pw_below_drewN | apply below_drew1 | refine below_set ?_ GE198.out) | exact HB.out)) hb); have n2_ := Aside0.mk (hbox); have n3_ := Aside0.mk ((by rw [hg]; exact (below_size (by repeat (first | (with_reducible first | exact HB.out | apply below_alloc | apply pw_below_drewN | apply below_drew1 | refine below_set ?_ GE198.out) | exact HB.out))) : w.heap.size ≤ gb201)); have n4_ := Aside0.mk ((by rw [hg]; exact (below_size (by repeat (first | (with_reducible first | exact HB.out | apply below_alloc | apply pw_below_drewN | apply below_drew1 | refine below_set ?_ GE198.out) | exact HB.out))) : w.heap.size ≤ gb201)); have n5_ := Aside0.mk ((by rw [hg]; exact Nat.ne_of_lt (blk_lt (g := gb198) (o := .cells #[.bool a0_0, .slice (some ad200) l0_1.length c0_1, .slice A0_2 l0_2.length c0_2, .slice A0_3 l0_3.length c0_3] 28 (0, 0)) (b1_ BK198.out)) : gb198 ≠ gb201)); have n6_ := Aside0.mk ((by rw [hg]; exact Nat.ne_of_gt (blk_lt (g := gb198) (o := .cells #[.bool a0_0, .slice (some ad200) l0_1.length c0_1, .slice A0_2 l0_2.length c0_2, .slice A0_3 l0_3.length c0_3] 28 (0, 0)) (b1_ BK198.out)) : gb201 ≠ gb198)); clear BK198; clear HB; have BK198 := n0_; have HB := n1_; have BK201 := n2_; have GW201 := n3_; have GE201 := n4_; have NB198_201 := n5_; have NB201_198 := n6_; clear n0_ n1_ n2_ n3_ n4_ n5_ n6_; clear hb hbox hg; have hnb17 := NB201_198.out; have hnc17 := NB198_201.out; have hcz18_0 : w16.cell? ⟨gb201, 0, none⟩ = some (.int .i64 0) := (blk_cell BK201.out 0).trans rfl; have hcz18_1 : w16.cell? ⟨gb201, 1, none⟩ = some (.int .i64 0) := (blk_cell BK201.out 1).trans rfl; have hcz18_2 : w16.cell? ⟨gb201, 2, none⟩ = some (.int .i64 0) := (blk_cell BK201.out 2).trans rfl; have hcz18_3 : w16.cell? ⟨gb201, 3, none⟩ = some (.int .i64 0) := (blk_cell BK201.out 3).trans rfl; have hfz18_0 := blk_frozen BK201.out 0; have hfz18_1 := blk_frozen BK201.out 1; have hfz18_2 := blk_frozen BK201.out 2; have hfz18_3 := blk_frozen BK201.out 3))
 (try simp only [Act.put, List.setIfInBounds_toArray, List.set_cons_zero, List.set_cons_succ])
 go_cut [71] (fun v71 wc => ∃ (kq : Nat) (x71_14 : Bool), v71 = .bool x71_14 ∧ Aside0 (impl_ValidRoom.j2 kq l0_1 (l0_1.length : Int) x29_2 x71_14 a0_0 l0_1 l0_2 l0_3 = some r) ∧ Aside0 (kq ≤ k2) ∧ Aside0 (wc.heap[gb198]? = some (.cells #[.bool a0_0, (.slice (some ad200) l0_1.length c0_1), (.slice A0_2 l0_2.length c0_2), (.slice A0_3 l0_3.length c0_3)] 28 (0, 0))) ∧ Aside0 (wc.heap[gb201]? = some (.cells #[.int .i64 ((rd_T36 l0_1 x29_2).f0), .int .i64 ((rd_T36 l0_1 x29_2).f1), .int .i64 ((rd_T36 l0_1 x29_2).f2), .int .i64 ((rd_T36 l0_1 x29_2).f3)] 36 (0, 0))) ∧ Aside0 (Below w.heap.size w wc))
 case first =>
  as_aux_lemma =>
   skip
   {
 have H := HC15.out
 clear HC15
 replace H := Option.bind_eq_some_iff.mp H
 obtain ⟨t202, A190, H⟩ := H
 replace H : (if t202 = true then ((impl_roleOk.f ((rd_T36 l0_1 x29_2).f1)).bind fun t203 => (if t203 = true then ((impl_isTick.f ((rd_T36 l0_1 x29_2).f2)).bind fun t204 => (if t204 = true then ((impl_isTick.f ((rd_T36 l0_1 x29_2).f3)).bind fun t205 => (if t205 = true then (if x29_2 > 0 then (if 0 ≤ (wrap64 (x29_2 - 1)) then (if (wrap64 (x29_2 - 1)) < (l0_1.length : Int) then (impl_ValidRoom.j2 k2 l0_1 (l0_1.length : Int) x29_2 (decide (((rd_T36 l0_1 (wrap64 (x29_2 - 1))).f0) ≥ ((rd_T36 l0_1 x29_2).f0))) a0_0 l0_1 l0_2 l0_3) else (none)) else (none)) else (impl_ValidRoom.j2 k2 l0_1 (l0_1.length : Int) x29_2 false a0_0 l0_1 l0_2 l0_3)) else (impl_ValidRoom.j2 k2 l0_1 (l0_1.length : Int) x29_2 true a0_0 l0_1 l0_2 l0_3))) else (impl_ValidRoom.j2 k2 l0_1 (l0_1.length : Int) x29_2 true a0_0 l0_1 l0_2 l0_3))) else (impl_ValidRoom.j2 k2 l0_1 (l0_1.length : Int) x29_2 true a0_0 l0_1 l0_2 l0_3))) else (impl_ValidRoom.j2 k2 l0_1 (l0_1.length : Int) x29_2 true a0_0 l0_1 l0_2 l0_3)) = some r := H
 have A19 := Aside0.mk A190
 clear A190
 by_cases c20 : t202 = true
 {
 subst c20
 have H1 : ((impl_roleOk.f ((rd_T36 l0_1 x29_2).f1)).bind fun t203 => (if t203 = true then ((impl_isTick.f ((rd_T36 l0_1 x29_2).f2)).bind fun t204 => (if t204 = true then ((impl_isTick.f ((rd_T36 l0_1 x29_2).f3)).bind fun t205 => (if t205 = true then (if x29_2 > 0 then (if 0 ≤ (wrap64 (x29_2 - 1)) then (if (wrap64 (x29_2 - 1)) < (l0_1.length : Int) then (impl_ValidRoom.j2 k2 l0_1 (l0_1.length : Int) x29_2 (decide (((rd_T36 l0_1 (wrap64 (x29_2 - 1))).f0) ≥ ((rd_T36 l0_1 x29_2).f0))) a0_0 l0_1 l0_2 l0_3) else (none)) else (none)) else (impl_ValidRoom.j2 k2 l0_1 (l0_1.length : Int) x29_2 false a0_0 l0_1 l0_2 l0_3)) else (impl_ValidRoom.j2 k2 l0_1 (l0_1.length : Int) x29_2 true a0_0 l0_1 l0_2 l0_3))) else (impl_ValidRoom.j2 k2 l0_1 (l0_1.length : Int) x29_2 true a0_0 l0_1 l0_2 l0_3))) else (impl_ValidRoom.j2 k2 l0_1 (l0_1.length : Int) x29_2 true a0_0 l0_1 l0_2 l0_3))) = some r := by rw [if_pos rfl] at H; exact H
 clear H
 have H := H1
 clear H1
 replace H := Option.bind_eq_some_iff.mp H
 obtain ⟨t203, A210, H⟩ := H
 replace H : (if t203 = true then ((impl_isTick.f ((rd_T36 l0_1 x29_2).f2)).bind fun t204 => (if t204 = true then ((impl_isTick.f ((rd_T36 l0_1 x29_2).f3)).bind fun t205 => (if t205 = true then (if x29_2 > 0 then (if 0 ≤ (wrap64 (x29_2 - 1)) then (if (wrap64 (x29_2 - 1)) < (l0_1.length : Int) then (impl_ValidRoom.j2 k2 l0_1 (l0_1.length : Int) x29_2 (decide (((rd_T36 l0_1 (wrap64 (x29_2 - 1))).f0) ≥ ((rd_T36 l0_1 x29_2).f0))) a0_0 l0_1 l0_2 l0_3) else (none)) else (none)) else (impl_ValidRoom.j2 k2 l0_1 (l0_1.length : Int) x29_2 false a0_0 l0_1 l0_2 l0_3)) else (impl_ValidRoom.j2 k2 l0_1 (l0_1.length : Int) x29_2 true a0_0 l0_1 l0_2 l0_3))) else (impl_ValidRoom.j2 k2 l0_1 (l0_1.length : Int) x29_2 true a0_0 l0_1 l0_2 l0_3))) else (impl_ValidRoom.j2 k2 l0_1 (l0_1.length : Int) x29_2 true a0_0 l0_1 l0_2 l0_3)) = some r := H
 have A21 := Aside0.mk A210
 clear A210
 by_cases c22 : t203 = true
 {
 subst c22
 have H1 : ((impl_isTick.f ((rd_T36 l0_1 x29_2).f2)).bind fun t204 => (if t204 = true then ((impl_isTick.f ((rd_T36 l0_1 x29_2).f3)).bind fun t205 => (if t205 = true then (if x29_2 > 0 then (if 0 ≤ (wrap64 (x29_2 - 1)) then (if (wrap64 (x29_2 - 1)) < (l0_1.length : Int) then (impl_ValidRoom.j2 k2 l0_1 (l0_1.length : Int) x29_2 (decide (((rd_T36 l0_1 (wrap64 (x29_2 - 1))).f0) ≥ ((rd_T36 l0_1 x29_2).f0))) a0_0 l0_1 l0_2 l0_3) else (none)) else (none)) else (impl_ValidRoom.j2 k2 l0_1 (l0_1.length : Int) x29_2 false a0_0 l0_1 l0_2 l0_3)) else (impl_ValidRoom.j2 k2 l0_1 (l0_1.length : Int) x29_2 true a0_0 l0_1 l0_2 l0_3))) else (impl_ValidRoom.j2 k2 l0_1 (l0_1.length : Int) x29_2 true a0_0 l0_1 l0_2 l0_3))) = some r := by rw [if_pos rfl] at H; exact H
 clear H
 have H := H1
 clear H1
 replace H := Option.bind_eq_some_iff.mp H
 obtain ⟨t204, A230, H⟩ := H
 replace H : (if t204 = true then ((impl_isTick.f ((rd_T36 l0_1 x29_2).f3)).bind fun t205 => (if t205 = true then (if x29_2 > 0 then (if 0 ≤ (wrap64 (x29_2 - 1)) then (if (wrap64 (x29_2 - 1)) < (l0_1.length : Int) then (impl_ValidRoom.j2 k2 l0_1 (l0_1.length : Int) x29_2 (decide (((rd_T36 l0_1 (wrap64 (x29_2 - 1))).f0) ≥ ((rd_T36 l0_1 x29_2).f0))) a0_0 l0_1 l0_2 l0_3) else (none)) else (none)) else (impl_ValidRoom.j2 k2 l0_1 (l0_1.length : Int) x29_2 false a0_0 l0_1 l0_2 l0_3)) else (impl_ValidRoom.j2 k2 l0_1 (l0_1.length : Int) x29_2 true a0_0 l0_1 l0_2 l0_3))) else (impl_ValidRoom.j2 k2 l0_1 (l0_1.length : Int) x29_2 true a0_0 l0_1 l0_2 l0_3)) = some r := H
 have A23 := Aside0.mk A230
 clear A230
 by_cases c24 : t204 = true
 {
 subst c24
 have H1 : ((impl_isTick.f ((rd_T36 l0_1 x29_2).f3)).bind fun t205 => (if t205 = true then (if x29_2 > 0 then (if 0 ≤ (wrap64 (x29_2 - 1)) then (if (wrap64 (x29_2 - 1)) < (l0_1.length : Int) then (impl_ValidRoom.j2 k2 l0_1 (l0_1.length : Int) x29_2 (decide (((rd_T36 l0_1 (wrap64 (x29_2 - 1))).f0) ≥ ((rd_T36 l0_1 x29_2).f0))) a0_0 l0_1 l0_2 l0_3) else (none)) else (none)) else (impl_ValidRoom.j2 k2 l0_1 (l0_1.length : Int) x29_2 false a0_0 l0_1 l0_2 l0_3)) else (impl_ValidRoom.j2 k2 l0_1 (l0_1.length : Int) x29_2 true a0_0 l0_1 l0_2 l0_3))) = some r := by rw [if_pos rfl] at H; exact H
 clear H
 have H := H1
 clear H1
 replace H := Option.bind_eq_some_iff.mp H
 obtain ⟨t205, A250, H⟩ := H
 replace H : (if t205 = true then (if x29_2 > 0 then (if 0 ≤ (wrap64 (x29_2 - 1)) then (if (wrap64 (x29_2 - 1)) < (l0_1.length : Int) then (impl_ValidRoom.j2 k2 l0_1 (l0_1.length : Int) x29_2 (decide (((rd_T36 l0_1 (wrap64 (x29_2 - 1))).f0) ≥ ((rd_T36 l0_1 x29_2).f0))) a0_0 l0_1 l0_2 l0_3) else (none)) else (none)) else (impl_ValidRoom.j2 k2 l0_1 (l0_1.length : Int) x29_2 false a0_0 l0_1 l0_2 l0_3)) else (impl_ValidRoom.j2 k2 l0_1 (l0_1.length : Int) x29_2 true a0_0 l0_1 l0_2 l0_3)) = some r := H
 have A25 := Aside0.mk A250
 clear A250
 by_cases c26 : t205 = true
 {
 subst c26
 have H1 : (if x29_2 > 0 then (if 0 ≤ (wrap64 (x29_2 - 1)) then (if (wrap64 (x29_2 - 1)) < (l0_1.length : Int) then (impl_ValidRoom.j2 k2 l0_1 (l0_1.length : Int) x29_2 (decide (((rd_T36 l0_1 (wrap64 (x29_2 - 1))).f0) ≥ ((rd_T36 l0_1 x29_2).f0))) a0_0 l0_1 l0_2 l0_3) else (none)) else (none)) else (impl_ValidRoom.j2 k2 l0_1 (l0_1.length : Int) x29_2 false a0_0 l0_1 l0_2 l0_3)) = some r := by rw [if_pos rfl] at H; exact H
 clear H
 have H := H1
 clear H1
 by_cases c27 : x29_2 > 0
 {
 rw [if_pos c27] at H
 have c27b0 : decide (0 < x29_2) = true := decide_eq_true c27
 clear c27
 (first | rw [c27b0] | (simp only [i64_w, i32_w]; rw [c27b0]) | skip)
 obtain ⟨ji28, hji28⟩ : ∃ j_ : Int, (wrap64 (x29_2 - 1)) = j_ := ⟨_, rfl⟩
 replace H : (if 0 ≤ (ji28) then (if (ji28) < (l0_1.length : Int) then (impl_ValidRoom.j2 k2 l0_1 (l0_1.length : Int) x29_2 (decide (((rd_T36 l0_1 (ji28)).f0) ≥ ((rd_T36 l0_1 x29_2).f0))) a0_0 l0_1 l0_2 l0_3) else (none)) else (none)) = some r := by first | (rw [hji28] at H; exact H) | (simp only [hji28] at H ⊢; exact H)
 (try rw [hji28] at A19)
 (try rw [hji28] at A21)
 (try rw [hji28] at A23)
 (try rw [hji28] at A25)
 have hji28w : (IntKind.i64.wrap (x29_2 - 1)) = ji28 := (i64_w _).trans hji28
 by_cases c29 : 0 ≤ (ji28)
 {
 rw [if_pos c29] at H
 have c29b0 : decide (0 ≤ (ji28)) = true := decide_eq_true c29
 clear c29
 by_cases c30 : (ji28) < (l0_1.length : Int)
 {
 rw [if_pos c30] at H
 have c30b0 : decide ((ji28) < (l0_1.length : Int)) = true := decide_eq_true c30
 clear c30
 have H' := Aside0.mk H
 clear H
 try go_wp2
 have n0_ : Aside0 (((((w16.setCell ⟨gb201, 0, none⟩ (.int .i64 ((rd_T36 l0_1 x29_2).f0))).setCell ⟨gb201, 1, none⟩ (.int .i64 ((rd_T36 l0_1 x29_2).f1))).setCell ⟨gb201, 2, none⟩ (.int .i64 ((rd_T36 l0_1 x29_2).f2))).setCell ⟨gb201, 3, none⟩ (.int .i64 ((rd_T36 l0_1 x29_2).f3))).heap[gb198]? = some (.cells #[.bool a0_0, .slice (some ad200) l0_1.length c0_1, .slice A0_2 l0_2.length c0_2, .slice A0_3 l0_3.length c0_3] 28 (0, 0))) := ⟨by (with_reducible repeat (first | refine blk_drewN ?_ _ | refine blk_drew ?_ | refine blk_alloc ?_ _)); refine blk_far ?_ NB198_201.out _; (with_reducible repeat (first | refine blk_drewN ?_ _ | refine blk_drew ?_ | refine blk_alloc ?_ _)); refine blk_far ?_ NB198_201.out _; (with_reducible repeat (first | refine blk_drewN ?_ _ | refine blk_drew ?_ | refine blk_alloc ?_ _)); refine blk_far ?_ NB198_201.out _; (with_reducible repeat (first | refine blk_drewN ?_ _ | refine blk_drew ?_ | refine blk_alloc ?_ _)); refine blk_far ?_ NB198_201.out _; (with_reducible repeat (first | refine blk_drewN ?_ _ | refine blk_drew ?_ | refine blk_alloc ?_ _)); exact BK198.out⟩
 have n1_ : Aside0 (((((w16.setCell ⟨gb201, 0, none⟩ (.int .i64 ((rd_T36 l0_1 x29_2).f0))).setCell ⟨gb201, 1, none⟩ (.int .i64 ((rd_T36 l0_1 x29_2).f1))).setCell ⟨gb201, 2, none⟩ (.int .i64 ((rd_T36 l0_1 x29_2).f2))).setCell ⟨gb201, 3, none⟩ (.int .i64 ((rd_T36 l0_1 x29_2).f3))).heap[gb201]? = some (.cells #[.int .i64 ((rd_T36 l0_1 x29_2).f0), .int .i64 ((rd_T36 l0_1 x29_2).f1), .int .i64 ((rd_T36 l0_1 x29_2).f2), .int .i64 ((rd_T36 l0_1 x29_2).f3)] 36 (0, 0))) := ⟨by (with_reducible repeat (first | refine blk_drewN ?_ _ | refine blk_drew ?_ | refine blk_alloc ?_ _)); refine blk_put (cs := #[.int .i64 ((rd_T36 l0_1 x29_2).f0), .int .i64 ((rd_T36 l0_1 x29_2).f1), .int .i64 ((rd_T36 l0_1 x29_2).f2), .int .i64 0]) ?_ 3 _ rfl; (with_reducible repeat (first | refine blk_drewN ?_ _ | refine blk_drew ?_ | refine blk_alloc ?_ _)); refine blk_put (cs := #[.int .i64 ((rd_T36 l0_1 x29_2).f0), .int .i64 ((rd_T36 l0_1 x29_2).f1), .int .i64 0, .int .i64 0]) ?_ 2 _ rfl; (with_reducible repeat (first | refine blk_drewN ?_ _ | refine blk_drew ?_ | refine blk_alloc ?_ _)); refine blk_put (cs := #[.int .i64 ((rd_T36 l0_1 x29_2).f0), .int .i64 0, .int .i64 0, .int .i64 0]) ?_ 1 _ rfl; (with_reducible repeat (first | refine blk_drewN ?_ _ | refine blk_drew ?_ | refine blk_alloc ?_ _)); refine blk_put (cs := #[.int .i64 0, .int .i64 0, .int .i64 0, .int .i64 0]) ?_ 0 _ rfl; (with_reducible repeat (first | refine blk_drewN ?_ _ | refine blk_drew ?_ | refine blk_alloc ?_ _)); exact BK201.out⟩
 have n2_ : Aside0 (Below w.heap.size w ((((w16.setCell ⟨gb201, 0, none⟩ (.int .i64 ((rd_T36 l0_1 x29_2).f0))).setCell ⟨gb201, 1, none⟩ (.int .i64 ((rd_T36 l0_1 x29_2).f1))).setCell ⟨gb201, 2, none⟩ (.int .i64 ((rd_T36 l0_1 x29_2).f2))).setCell ⟨gb201, 3, none⟩ (.int .i64 ((rd_T36 l0_1 x29_2).f3)))) := ⟨by repeat (first | (with_reducible first | exact HB.out | apply below_alloc | apply pw_below_drewN | apply below_drew1 | refine below_set ?_ GE198.out | refine below_set ?_ GE201.out) | exact HB.out)⟩
 (try clear BK198)
 (try clear BK201)
 (try clear HB)
 generalize ((((w16.setCell ⟨gb201, 0, none⟩ (.int .i64 ((rd_T36 l0_1 x29_2).f0))).setCell ⟨gb201, 1, none⟩ (.int .i64 ((rd_T36 l0_1 x29_2).f1))).setCell ⟨gb201, 2, none⟩ (.int .i64 ((rd_T36 l0_1 x29_2).f2))).setCell ⟨gb201, 3, none⟩ (.int .i64 ((rd_T36 l0_1 x29_2).f3))) = w31 at n0_ n1_ n2_ ⊢
 have BK198 := n0_
 have BK201 := n1_
 have HB := n2_
 clear n0_ n1_ n2_
 have n0_ := Aside0.mk (blk_drew BK198.out)
 have n1_ := Aside0.mk (blk_drew BK201.out)
 have n2_ := Aside0.mk (below_drew1 HB.out)
 clear BK198
 clear BK201
 clear HB
 have BK198 := n0_
 have BK201 := n1_
 have HB := n2_
 clear n0_ n1_ n2_
 have p206 : 0 ≤ ((ji28) : Int) := of_decide_eq_true (by first | (with_reducible assumption) | assumption)
 have q206 : (ji28) < (l0_1.length : Int) := of_decide_eq_true (by first | (with_reducible assumption) | assumption)
 obtain ⟨ad206, e206, hx206_0, hx206_1, hx206_2, hx206_3⟩ := at_T36 HR0_1.out (ji28) p206 q206
 have hw206_3 := hx206_3
 have hw206_2 := hx206_2
 have hw206_1 := hx206_1
 have hw206_0 := hx206_0
 obtain rfl : ad200 = ad206 := (by injection e206)
 replace hx206_0 := (HB.out.cell (World.block_lt_of_cell? w _ hx206_0)).trans hx206_0
 replace hx206_1 := (HB.out.cell (World.block_lt_of_cell? w _ hx206_1)).trans hx206_1
 replace hx206_2 := (HB.out.cell (World.block_lt_of_cell? w _ hx206_2)).trans hx206_2
 replace hx206_3 := (HB.out.cell (World.block_lt_of_cell? w _ hx206_3)).trans hx206_3
 replace p206 := eq_true p206
 replace q206 := eq_true q206
 refine start_ (n := 38) (S := fun w' => w'.cell? ⟨gb201, 0, none⟩ = some (.int .i64 ((rd_T36 l0_1 x29_2).f0)) ∧ w'.cell? ⟨gb201, 1, none⟩ = some (.int .i64 ((rd_T36 l0_1 x29_2).f1)) ∧ w'.cell? ⟨gb201, 2, none⟩ = some (.int .i64 ((rd_T36 l0_1 x29_2).f2)) ∧ w'.cell? ⟨gb201, 3, none⟩ = some (.int .i64 ((rd_T36 l0_1 x29_2).f3)) ∧ w'.cell? ⟨gb198, 0, none⟩ = some (.bool a0_0) ∧ w'.cell? ⟨gb198, 1, none⟩ = some (.slice (some ad200) l0_1.length c0_1) ∧ w'.cell? ⟨gb198, 2, none⟩ = some (.slice A0_2 l0_2.length c0_2) ∧ w'.cell? ⟨gb198, 3, none⟩ = some (.slice A0_3 l0_3.length c0_3) ∧ w'.cell? (ad200.add (((ji28)).toNat * 4)) = some (.int .i64 ((rd_T36 l0_1 (ji28)).f0)) ∧ w'.cell? ⟨(ad200.add (((ji28)).toNat * 4)).block, (ad200.add (((ji28)).toNat * 4)).off + 1, none⟩ = some (.int .i64 ((rd_T36 l0_1 (ji28)).f1)) ∧ w'.cell? ⟨(ad200.add (((ji28)).toNat * 4)).block, (ad200.add (((ji28)).toNat * 4)).off + 2, none⟩ = some (.int .i64 ((rd_T36 l0_1 (ji28)).f2)) ∧ w'.cell? ⟨(ad200.add (((ji28)).toNat * 4)).block, (ad200.add (((ji28)).toNat * 4)).off + 3, none⟩ = some (.int .i64 ((rd_T36 l0_1 (ji28)).f3))) (ds := []) m0_ s2_ rfl rfl ⟨(blk_cell BK201.out 0).trans rfl, (blk_cell BK201.out 1).trans rfl, (blk_cell BK201.out 2).trans rfl, (blk_cell BK201.out 3).trans rfl, (blk_cell BK198.out 0).trans rfl, (blk_cell BK198.out 1).trans rfl, (blk_cell BK198.out 2).trans rfl, (blk_cell BK198.out 3).trans rfl, ((HB.out.cell (World.block_lt_of_cell? w _ hw206_0)).trans hw206_0), ((HB.out.cell (World.block_lt_of_cell? w _ hw206_1)).trans hw206_1), ((HB.out.cell (World.block_lt_of_cell? w _ hw206_2)).trans hw206_2), ((HB.out.cell (World.block_lt_of_cell? w _ hw206_3)).trans hw206_3)⟩ (fun hHeld => ?_); refine with_tabW impl_ValidRoom.tab6 impl_ValidRoom.bits6 (fun HT_ HW_ => ?_)
 generalize w31.drew = w32 at BK198 BK201 HB hx206_0 hx206_1 hx206_2 hx206_3 hHeld ⊢
 refine pu_ 0 34 m1_ (any_of HT_.out s2_) ?_
 refine take_ (i := 1) (N := some 35) (v := ?_) (a' := ?_) m2_ rfl rfl (take_ofW HT_.out HW_.out s2_) (fun _ _ _ h => h) (Or.inl ⟨by rfl, ?_⟩) hHeld ?_ ?_
 rotate_left
 {
 rintro w' ⟨s0, s1, s2, s3, s4, s5, s6, s7, s8, s9, s10, s11⟩
 go_simp
 with_reducible rfl}
 rotate_left
 · exact p1_
 refine one_ (i := 2) (N := some 36) m3_ rfl rfl (one_of HT_.out s2_) (by decide) (fun K hK => ?_)
 refine goes_ Try.func32 s2_ rfl #[.int .i64 ((rd_T36 l0_1 x29_2).f0)] (by rfl) rfl rfl s3_ ?_
 with_reducible refine (impl_isMember.calls ((rd_T36 l0_1 x29_2).f0) true _ A19.out).mono ?_
 rintro e w' ⟨rfl, ⟨nd, rfl⟩⟩
 refine ⟨_, rfl, ?_⟩
 refine hK.out _ _ ⟨(blk_cell BK201.out 0).trans rfl, (blk_cell BK201.out 1).trans rfl, (blk_cell BK201.out 2).trans rfl, (blk_cell BK201.out 3).trans rfl, (blk_cell BK198.out 0).trans rfl, (blk_cell BK198.out 1).trans rfl, (blk_cell BK198.out 2).trans rfl, (blk_cell BK198.out 3).trans rfl, ((HB.out.cell (World.block_lt_of_cell? w _ hw206_0)).trans hw206_0), ((HB.out.cell (World.block_lt_of_cell? w _ hw206_1)).trans hw206_1), ((HB.out.cell (World.block_lt_of_cell? w _ hw206_2)).trans hw206_2), ((HB.out.cell (World.block_lt_of_cell? w _ hw206_3)).trans hw206_3)⟩ (fun hHeld => ?_)
 clear hK K
 refine norm_ (a' := ?_) ?_ ?_
 rotate_left
 {
 show Act.put _ (some 36) _ = _
 simp only [Act.put, List.setIfInBounds_toArray, List.set_cons_zero, List.set_cons_succ, i64_w, i32_w]
 rfl}
 refine pu_ 3 37 m4_ (any_of HT_.out s2_) ?_
 refine pu_ 4 38 m5_ (any_of HT_.out s2_) ?_
 refine pu_ 5 39 m6_ (any_of HT_.out s2_) ?_
 refine take_ (i := 6) (N := some 40) (v := ?_) (a' := ?_) m7_ rfl rfl (take_ofW HT_.out HW_.out s2_) (fun _ _ _ h => h) (Or.inl ⟨by rfl, ?_⟩) hHeld ?_ ?_
 rotate_left
 {
 rintro w' ⟨s0, s1, s2, s3, s4, s5, s6, s7, s8, s9, s10, s11⟩
 go_simp
 with_reducible rfl}
 rotate_left
 · exact p1_
 refine one_ (i := 7) (N := some 41) m8_ rfl rfl (one_of HT_.out s2_) (by decide) (fun K hK => ?_)
 refine goes_ Try.func33 s2_ rfl #[.int .i64 ((rd_T36 l0_1 x29_2).f1)] (by rfl) rfl rfl s3_ ?_
 with_reducible refine (impl_roleOk.calls ((rd_T36 l0_1 x29_2).f1) true _ A21.out).mono ?_
 rintro e w' ⟨rfl, ⟨nd, rfl⟩⟩
 refine ⟨_, rfl, ?_⟩
 refine hK.out _ _ ⟨(blk_cell BK201.out 0).trans rfl, (blk_cell BK201.out 1).trans rfl, (blk_cell BK201.out 2).trans rfl, (blk_cell BK201.out 3).trans rfl, (blk_cell BK198.out 0).trans rfl, (blk_cell BK198.out 1).trans rfl, (blk_cell BK198.out 2).trans rfl, (blk_cell BK198.out 3).trans rfl, ((HB.out.cell (World.block_lt_of_cell? w _ hw206_0)).trans hw206_0), ((HB.out.cell (World.block_lt_of_cell? w _ hw206_1)).trans hw206_1), ((HB.out.cell (World.block_lt_of_cell? w _ hw206_2)).trans hw206_2), ((HB.out.cell (World.block_lt_of_cell? w _ hw206_3)).trans hw206_3)⟩ (fun hHeld => ?_)
 clear hK K
 refine norm_ (a' := ?_) ?_ ?_
 rotate_left
 {
 show Act.put _ (some 41) _ = _
 simp only [Act.put, List.setIfInBounds_toArray, List.set_cons_zero, List.set_cons_succ, i64_w, i32_w]
 rfl}
 refine pu_ 8 42 m9_ (any_of HT_.out s2_) ?_
 refine pu_ 9 43 m10_ (any_of HT_.out s2_) ?_
 refine pu_ 10 44 m11_ (any_of HT_.out s2_) ?_
 refine pu_ 11 45 m12_ (any_of HT_.out s2_) ?_
 refine take_ (i := 12) (N := some 46) (v := ?_) (a' := ?_) m13_ rfl rfl (take_ofW HT_.out HW_.out s2_) (fun _ _ _ h => h) (Or.inl ⟨by rfl, ?_⟩) hHeld ?_ ?_
 rotate_left
 {
 rintro w' ⟨s0, s1, s2, s3, s4, s5, s6, s7, s8, s9, s10, s11⟩
 go_simp
 with_reducible rfl}
 rotate_left
 · exact p1_
 refine one_ (i := 13) (N := some 47) m14_ rfl rfl (one_of HT_.out s2_) (by decide) (fun K hK => ?_)
 refine goes_ Try.func34 s2_ rfl #[.int .i64 ((rd_T36 l0_1 x29_2).f2)] (by rfl) rfl rfl s3_ ?_
 with_reducible refine (impl_isTick.calls ((rd_T36 l0_1 x29_2).f2) true _ A23.out).mono ?_
 rintro e w' ⟨rfl, ⟨nd, rfl⟩⟩
 refine ⟨_, rfl, ?_⟩
 refine hK.out _ _ ⟨(blk_cell BK201.out 0).trans rfl, (blk_cell BK201.out 1).trans rfl, (blk_cell BK201.out 2).trans rfl, (blk_cell BK201.out 3).trans rfl, (blk_cell BK198.out 0).trans rfl, (blk_cell BK198.out 1).trans rfl, (blk_cell BK198.out 2).trans rfl, (blk_cell BK198.out 3).trans rfl, ((HB.out.cell (World.block_lt_of_cell? w _ hw206_0)).trans hw206_0), ((HB.out.cell (World.block_lt_of_cell? w _ hw206_1)).trans hw206_1), ((HB.out.cell (World.block_lt_of_cell? w _ hw206_2)).trans hw206_2), ((HB.out.cell (World.block_lt_of_cell? w _ hw206_3)).trans hw206_3)⟩ (fun hHeld => ?_)
 clear hK K
 refine norm_ (a' := ?_) ?_ ?_
 rotate_left
 {
 show Act.put _ (some 47) _ = _
 simp only [Act.put, List.setIfInBounds_toArray, List.set_cons_zero, List.set_cons_succ, i64_w, i32_w]
 rfl}
 refine pu_ 14 48 m15_ (any_of HT_.out s2_) ?_
 refine pu_ 15 49 m16_ (any_of HT_.out s2_) ?_
 refine pu_ 16 50 m17_ (any_of HT_.out s2_) ?_
 refine pu_ 17 51 m18_ (any_of HT_.out s2_) ?_
 refine take_ (i := 18) (N := some 52) (v := ?_) (a' := ?_) m19_ rfl rfl (take_ofW HT_.out HW_.out s2_) (fun _ _ _ h => h) (Or.inl ⟨by rfl, ?_⟩) hHeld ?_ ?_
 rotate_left
 {
 rintro w' ⟨s0, s1, s2, s3, s4, s5, s6, s7, s8, s9, s10, s11⟩
 go_simp
 with_reducible rfl}
 rotate_left
 · exact p1_
 refine one_ (i := 19) (N := some 53) m20_ rfl rfl (one_of HT_.out s2_) (by decide) (fun K hK => ?_)
 refine goes_ Try.func34 s2_ rfl #[.int .i64 ((rd_T36 l0_1 x29_2).f3)] (by rfl) rfl rfl s3_ ?_
 with_reducible refine (impl_isTick.calls ((rd_T36 l0_1 x29_2).f3) true _ A25.out).mono ?_
 rintro e w' ⟨rfl, ⟨nd, rfl⟩⟩
 refine ⟨_, rfl, ?_⟩
 refine hK.out _ _ ⟨(blk_cell BK201.out 0).trans rfl, (blk_cell BK201.out 1).trans rfl, (blk_cell BK201.out 2).trans rfl, (blk_cell BK201.out 3).trans rfl, (blk_cell BK198.out 0).trans rfl, (blk_cell BK198.out 1).trans rfl, (blk_cell BK198.out 2).trans rfl, (blk_cell BK198.out 3).trans rfl, ((HB.out.cell (World.block_lt_of_cell? w _ hw206_0)).trans hw206_0), ((HB.out.cell (World.block_lt_of_cell? w _ hw206_1)).trans hw206_1), ((HB.out.cell (World.block_lt_of_cell? w _ hw206_2)).trans hw206_2), ((HB.out.cell (World.block_lt_of_cell? w _ hw206_3)).trans hw206_3)⟩ (fun hHeld => ?_)
 clear hK K
 refine norm_ (a' := ?_) ?_ ?_
 rotate_left
 {
 show Act.put _ (some 53) _ = _
 simp only [Act.put, List.setIfInBounds_toArray, List.set_cons_zero, List.set_cons_succ, i64_w, i32_w]
 rfl}
 refine pu_ 20 54 m21_ (any_of HT_.out s2_) ?_
 refine pu_ 21 55 m22_ (any_of HT_.out s2_) ?_
 refine pu_ 22 56 m23_ (any_of HT_.out s2_) ?_
 refine pu_ 23 57 m24_ (any_of HT_.out s2_) ?_
 refine pu_ 24 58 m25_ (any_of HT_.out s2_) ?_
 refine pu_ 25 59 m26_ (any_of HT_.out s2_) ?_
 refine pu_ 26 60 m27_ (any_of HT_.out s2_) ?_
 refine pu_ 28 62 #[T,T,T,T,T,T,T,T,T,T,T,T,T,T,T,T,T,T,T,T,T,T,T,T,T,T,T,F,T,F,F,F,F,F,F,F,F,F] (any_of HT_.out s2_) ?_
 refine pu_ 29 63 #[T,T,T,T,T,T,T,T,T,T,T,T,T,T,T,T,T,T,T,T,T,T,T,T,T,T,T,F,T,T,F,F,F,F,F,F,F,F] (any_of HT_.out s2_) ?_
 refine pu_ 33 67 #[T,T,T,T,T,T,T,T,T,T,T,T,T,T,T,T,T,T,T,T,T,T,T,T,T,T,T,F,T,T,F,F,F,T,F,F,F,F] (any_of HT_.out s2_) ?_
 refine take_ (i := 27) (N := some 61) (v := ?_) (a' := ?_) #[T,T,T,T,T,T,T,T,T,T,T,T,T,T,T,T,T,T,T,T,T,T,T,T,T,T,T,T,T,T,F,F,F,T,F,F,F,F] rfl rfl (take_ofW HT_.out HW_.out s2_) (fun _ _ _ h => h) (Or.inl ⟨by rfl, ?_⟩) hHeld ?_ ?_
 rotate_left
 {
 rintro w' ⟨s0, s1, s2, s3, s4, s5, s6, s7, s8, s9, s10, s11⟩
 go_simp
 with_reducible rfl}
 rotate_left
 · exact p1_
 refine pu_ 30 64 #[T,T,T,T,T,T,T,T,T,T,T,T,T,T,T,T,T,T,T,T,T,T,T,T,T,T,T,T,T,T,T,F,F,T,F,F,F,F] (any_of HT_.out s2_) ?_
 refine pu_ 31 65 #[T,T,T,T,T,T,T,T,T,T,T,T,T,T,T,T,T,T,T,T,T,T,T,T,T,T,T,T,T,T,T,T,F,T,F,F,F,F] (any_of HT_.out s2_) ?_
 refine take_ (i := 32) (N := some 66) (v := ?_) (a' := ?_) m28_ rfl rfl (take_ofW HT_.out HW_.out s2_) (fun _ _ _ h => h) (Or.inl ⟨by rfl, ?_⟩) hHeld ?_ ?_
 rotate_left
 {
 rintro w' ⟨s0, s1, s2, s3, s4, s5, s6, s7, s8, s9, s10, s11⟩
 go_simp
 with_reducible rfl}
 rotate_left
 · exact p1_
 refine take_ (i := 34) (N := some 68) (v := ?_) (a' := ?_) m29_ rfl rfl (take_ofW HT_.out HW_.out s2_) (fun _ _ _ h => h) (Or.inl ⟨by rfl, ?_⟩) hHeld ?_ ?_
 rotate_left
 {
 rintro w' ⟨s0, s1, s2, s3, s4, s5, s6, s7, s8, s9, s10, s11⟩
 go_simp
 with_reducible rfl}
 rotate_left
 · exact p1_
 refine pu_ 35 69 m30_ (any_of HT_.out s2_) ?_
 refine pu_ 36 70 m31_ (any_of HT_.out s2_) ?_
 refine pu_ 37 71 m32_ (any_of HT_.out s2_) ?_
 refine done_ (done_of HT_.out s2_) ?_
 try go_wp2
 go_meet
 case rel => exact ⟨_, (decide (((rd_T36 l0_1 (ji28)).f0) ≥ ((rd_T36 l0_1 x29_2).f0))), (by first | rfl | (simp; done) | (simp only [← hji28] <;> (first | rfl | simp)) | (simp [*]; done)), H', ⟨by have := HJ1.out; have := HK2.out; first | omega | exact Nat.le_refl _⟩, ⟨b1_ BK198.out⟩, ⟨b1_ BK201.out⟩, ⟨by repeat (first | (with_reducible first | exact HB.out | apply below_alloc | apply pw_below_drewN | apply below_drew1 | refine below_set ?_ GE198.out | refine below_set ?_ GE201.out) | exact HB.out)⟩⟩}
 {
 rw [if_neg c30] at H
 exact absurd H (by simp)}}
 {
 rw [if_neg c29] at H
 exact absurd H (by simp)}}
 {
 rw [if_neg c27] at H
 have c27b0 : decide (0 < x29_2) = false := decide_eq_false c27
 clear c27
 (first | rw [c27b0] | (simp only [i64_w, i32_w]; rw [c27b0]) | skip)
 have H' := Aside0.mk H
 clear H
 try go_wp2
 have n0_ : Aside0 (((((w16.setCell ⟨gb201, 0, none⟩ (.int .i64 ((rd_T36 l0_1 x29_2).f0))).setCell ⟨gb201, 1, none⟩ (.int .i64 ((rd_T36 l0_1 x29_2).f1))).setCell ⟨gb201, 2, none⟩ (.int .i64 ((rd_T36 l0_1 x29_2).f2))).setCell ⟨gb201, 3, none⟩ (.int .i64 ((rd_T36 l0_1 x29_2).f3))).heap[gb198]? = some (.cells #[.bool a0_0, .slice (some ad200) l0_1.length c0_1, .slice A0_2 l0_2.length c0_2, .slice A0_3 l0_3.length c0_3] 28 (0, 0))) := ⟨by (with_reducible repeat (first | refine blk_drewN ?_ _ | refine blk_drew ?_ | refine blk_alloc ?_ _)); refine blk_far ?_ NB198_201.out _; (with_reducible repeat (first | refine blk_drewN ?_ _ | refine blk_drew ?_ | refine blk_alloc ?_ _)); refine blk_far ?_ NB198_201.out _; (with_reducible repeat (first | refine blk_drewN ?_ _ | refine blk_drew ?_ | refine blk_alloc ?_ _)); refine blk_far ?_ NB198_201.out _; (with_reducible repeat (first | refine blk_drewN ?_ _ | refine blk_drew ?_ | refine blk_alloc ?_ _)); refine blk_far ?_ NB198_201.out _; (with_reducible repeat (first | refine blk_drewN ?_ _ | refine blk_drew ?_ | refine blk_alloc ?_ _)); exact BK198.out⟩
 have n1_ : Aside0 (((((w16.setCell ⟨gb201, 0, none⟩ (.int .i64 ((rd_T36 l0_1 x29_2).f0))).setCell ⟨gb201, 1, none⟩ (.int .i64 ((rd_T36 l0_1 x29_2).f1))).setCell ⟨gb201, 2, none⟩ (.int .i64 ((rd_T36 l0_1 x29_2).f2))).setCell ⟨gb201, 3, none⟩ (.int .i64 ((rd_T36 l0_1 x29_2).f3))).heap[gb201]? = some (.cells #[.int .i64 ((rd_T36 l0_1 x29_2).f0), .int .i64 ((rd_T36 l0_1 x29_2).f1), .int .i64 ((rd_T36 l0_1 x29_2).f2), .int .i64 ((rd_T36 l0_1 x29_2).f3)] 36 (0, 0))) := ⟨by (with_reducible repeat (first | refine blk_drewN ?_ _ | refine blk_drew ?_ | refine blk_alloc ?_ _)); refine blk_put (cs := #[.int .i64 ((rd_T36 l0_1 x29_2).f0), .int .i64 ((rd_T36 l0_1 x29_2).f1), .int .i64 ((rd_T36 l0_1 x29_2).f2), .int .i64 0]) ?_ 3 _ rfl; (with_reducible repeat (first | refine blk_drewN ?_ _ | refine blk_drew ?_ | refine blk_alloc ?_ _)); refine blk_put (cs := #[.int .i64 ((rd_T36 l0_1 x29_2).f0), .int .i64 ((rd_T36 l0_1 x29_2).f1), .int .i64 0, .int .i64 0]) ?_ 2 _ rfl; (with_reducible repeat (first | refine blk_drewN ?_ _ | refine blk_drew ?_ | refine blk_alloc ?_ _)); refine blk_put (cs := #[.int .i64 ((rd_T36 l0_1 x29_2).f0), .int .i64 0, .int .i64 0, .int .i64 0]) ?_ 1 _ rfl; (with_reducible repeat (first | refine blk_drewN ?_ _ | refine blk_drew ?_ | refine blk_alloc ?_ _)); refine blk_put (cs := #[.int .i64 0, .int .i64 0, .int .i64 0, .int .i64 0]) ?_ 0 _ rfl; (with_reducible repeat (first | refine blk_drewN ?_ _ | refine blk_drew ?_ | refine blk_alloc ?_ _)); exact BK201.out⟩
 have n2_ : Aside0 (Below w.heap.size w ((((w16.setCell ⟨gb201, 0, none⟩ (.int .i64 ((rd_T36 l0_1 x29_2).f0))).setCell ⟨gb201, 1, none⟩ (.int .i64 ((rd_T36 l0_1 x29_2).f1))).setCell ⟨gb201, 2, none⟩ (.int .i64 ((rd_T36 l0_1 x29_2).f2))).setCell ⟨gb201, 3, none⟩ (.int .i64 ((rd_T36 l0_1 x29_2).f3)))) := ⟨by repeat (first | (with_reducible first | exact HB.out | apply below_alloc | apply pw_below_drewN | apply below_drew1 | refine below_set ?_ GE198.out | refine below_set ?_ GE201.out) | exact HB.out)⟩
 (try clear BK198)
 (try clear BK201)
 (try clear HB)
 generalize ((((w16.setCell ⟨gb201, 0, none⟩ (.int .i64 ((rd_T36 l0_1 x29_2).f0))).setCell ⟨gb201, 1, none⟩ (.int .i64 ((rd_T36 l0_1 x29_2).f1))).setCell ⟨gb201, 2, none⟩ (.int .i64 ((rd_T36 l0_1 x29_2).f2))).setCell ⟨gb201, 3, none⟩ (.int .i64 ((rd_T36 l0_1 x29_2).f3))) = w33 at n0_ n1_ n2_ ⊢
 have BK198 := n0_
 have BK201 := n1_
 have HB := n2_
 clear n0_ n1_ n2_
 have n0_ := Aside0.mk (blk_drew BK198.out)
 have n1_ := Aside0.mk (blk_drew BK201.out)
 have n2_ := Aside0.mk (below_drew1 HB.out)
 clear BK198
 clear BK201
 clear HB
 have BK198 := n0_
 have BK201 := n1_
 have HB := n2_
 clear n0_ n1_ n2_
 refine start_ (n := 38) (S := fun w' => w'.cell? ⟨gb201, 0, none⟩ = some (.int .i64 ((rd_T36 l0_1 x29_2).f0)) ∧ w'.cell? ⟨gb201, 1, none⟩ = some (.int .i64 ((rd_T36 l0_1 x29_2).f1)) ∧ w'.cell? ⟨gb201, 2, none⟩ = some (.int .i64 ((rd_T36 l0_1 x29_2).f2)) ∧ w'.cell? ⟨gb201, 3, none⟩ = some (.int .i64 ((rd_T36 l0_1 x29_2).f3))) (ds := []) m0_ s2_ rfl rfl ⟨(blk_cell BK201.out 0).trans rfl, (blk_cell BK201.out 1).trans rfl, (blk_cell BK201.out 2).trans rfl, (blk_cell BK201.out 3).trans rfl⟩ (fun hHeld => ?_); refine with_tabW impl_ValidRoom.tab6 impl_ValidRoom.bits6 (fun HT_ HW_ => ?_)
 generalize w33.drew = w34 at BK198 BK201 HB hHeld ⊢
 refine pu_ 0 34 m1_ (any_of HT_.out s2_) ?_
 refine take_ (i := 1) (N := some 35) (v := ?_) (a' := ?_) m2_ rfl rfl (take_ofW HT_.out HW_.out s2_) (fun _ _ _ h => h) (Or.inl ⟨by rfl, ?_⟩) hHeld ?_ ?_
 rotate_left
 {
 rintro w' ⟨s0, s1, s2, s3⟩
 go_simp
 with_reducible rfl}
 rotate_left
 · exact p1_
 refine one_ (i := 2) (N := some 36) m3_ rfl rfl (one_of HT_.out s2_) (by decide) (fun K hK => ?_)
 refine goes_ Try.func32 s2_ rfl #[.int .i64 ((rd_T36 l0_1 x29_2).f0)] (by rfl) rfl rfl s3_ ?_
 with_reducible refine (impl_isMember.calls ((rd_T36 l0_1 x29_2).f0) true _ A19.out).mono ?_
 rintro e w' ⟨rfl, ⟨nd, rfl⟩⟩
 refine ⟨_, rfl, ?_⟩
 refine hK.out _ _ ⟨(blk_cell BK201.out 0).trans rfl, (blk_cell BK201.out 1).trans rfl, (blk_cell BK201.out 2).trans rfl, (blk_cell BK201.out 3).trans rfl⟩ (fun hHeld => ?_)
 clear hK K
 refine norm_ (a' := ?_) ?_ ?_
 rotate_left
 {
 show Act.put _ (some 36) _ = _
 simp only [Act.put, List.setIfInBounds_toArray, List.set_cons_zero, List.set_cons_succ, i64_w, i32_w]
 rfl}
 refine pu_ 3 37 m4_ (any_of HT_.out s2_) ?_
 refine pu_ 4 38 m5_ (any_of HT_.out s2_) ?_
 refine pu_ 5 39 m6_ (any_of HT_.out s2_) ?_
 refine take_ (i := 6) (N := some 40) (v := ?_) (a' := ?_) m7_ rfl rfl (take_ofW HT_.out HW_.out s2_) (fun _ _ _ h => h) (Or.inl ⟨by rfl, ?_⟩) hHeld ?_ ?_
 rotate_left
 {
 rintro w' ⟨s0, s1, s2, s3⟩
 go_simp
 with_reducible rfl}
 rotate_left
 · exact p1_
 refine one_ (i := 7) (N := some 41) m8_ rfl rfl (one_of HT_.out s2_) (by decide) (fun K hK => ?_)
 refine goes_ Try.func33 s2_ rfl #[.int .i64 ((rd_T36 l0_1 x29_2).f1)] (by rfl) rfl rfl s3_ ?_
 with_reducible refine (impl_roleOk.calls ((rd_T36 l0_1 x29_2).f1) true _ A21.out).mono ?_
 rintro e w' ⟨rfl, ⟨nd, rfl⟩⟩
 refine ⟨_, rfl, ?_⟩
 refine hK.out _ _ ⟨(blk_cell BK201.out 0).trans rfl, (blk_cell BK201.out 1).trans rfl, (blk_cell BK201.out 2).trans rfl, (blk_cell BK201.out 3).trans rfl⟩ (fun hHeld => ?_)
 clear hK K
 refine norm_ (a' := ?_) ?_ ?_
 rotate_left
 {
 show Act.put _ (some 41) _ = _
 simp only [Act.put, List.setIfInBounds_toArray, List.set_cons_zero, List.set_cons_succ, i64_w, i32_w]
 rfl}
 refine pu_ 8 42 m9_ (any_of HT_.out s2_) ?_
 refine pu_ 9 43 m10_ (any_of HT_.out s2_) ?_
 refine pu_ 10 44 m11_ (any_of HT_.out s2_) ?_
 refine pu_ 11 45 m12_ (any_of HT_.out s2_) ?_
 refine take_ (i := 12) (N := some 46) (v := ?_) (a' := ?_) m13_ rfl rfl (take_ofW HT_.out HW_.out s2_) (fun _ _ _ h => h) (Or.inl ⟨by rfl, ?_⟩) hHeld ?_ ?_
 rotate_left
 {
 rintro w' ⟨s0, s1, s2, s3⟩
 go_simp
 with_reducible rfl}
 rotate_left
 · exact p1_
 refine one_ (i := 13) (N := some 47) m14_ rfl rfl (one_of HT_.out s2_) (by decide) (fun K hK => ?_)
 refine goes_ Try.func34 s2_ rfl #[.int .i64 ((rd_T36 l0_1 x29_2).f2)] (by rfl) rfl rfl s3_ ?_
 with_reducible refine (impl_isTick.calls ((rd_T36 l0_1 x29_2).f2) true _ A23.out).mono ?_
 rintro e w' ⟨rfl, ⟨nd, rfl⟩⟩
 refine ⟨_, rfl, ?_⟩
 refine hK.out _ _ ⟨(blk_cell BK201.out 0).trans rfl, (blk_cell BK201.out 1).trans rfl, (blk_cell BK201.out 2).trans rfl, (blk_cell BK201.out 3).trans rfl⟩ (fun hHeld => ?_)
 clear hK K
 refine norm_ (a' := ?_) ?_ ?_
 rotate_left
 {
 show Act.put _ (some 47) _ = _
 simp only [Act.put, List.setIfInBounds_toArray, List.set_cons_zero, List.set_cons_succ, i64_w, i32_w]
 rfl}
 refine pu_ 14 48 m15_ (any_of HT_.out s2_) ?_
 refine pu_ 15 49 m16_ (any_of HT_.out s2_) ?_
 refine pu_ 16 50 m17_ (any_of HT_.out s2_) ?_
 refine pu_ 17 51 m18_ (any_of HT_.out s2_) ?_
 refine take_ (i := 18) (N := some 52) (v := ?_) (a' := ?_) m19_ rfl rfl (take_ofW HT_.out HW_.out s2_) (fun _ _ _ h => h) (Or.inl ⟨by rfl, ?_⟩) hHeld ?_ ?_
 rotate_left
 {
 rintro w' ⟨s0, s1, s2, s3⟩
 go_simp
 with_reducible rfl}
 rotate_left
 · exact p1_
 refine one_ (i := 19) (N := some 53) m20_ rfl rfl (one_of HT_.out s2_) (by decide) (fun K hK => ?_)
 refine goes_ Try.func34 s2_ rfl #[.int .i64 ((rd_T36 l0_1 x29_2).f3)] (by rfl) rfl rfl s3_ ?_
 with_reducible refine (impl_isTick.calls ((rd_T36 l0_1 x29_2).f3) true _ A25.out).mono ?_
 rintro e w' ⟨rfl, ⟨nd, rfl⟩⟩
 refine ⟨_, rfl, ?_⟩
 refine hK.out _ _ ⟨(blk_cell BK201.out 0).trans rfl, (blk_cell BK201.out 1).trans rfl, (blk_cell BK201.out 2).trans rfl, (blk_cell BK201.out 3).trans rfl⟩ (fun hHeld => ?_)
 clear hK K
 refine norm_ (a' := ?_) ?_ ?_
 rotate_left
 {
 show Act.put _ (some 53) _ = _
 simp only [Act.put, List.setIfInBounds_toArray, List.set_cons_zero, List.set_cons_succ, i64_w, i32_w]
 rfl}
 refine pu_ 20 54 m21_ (any_of HT_.out s2_) ?_
 refine pu_ 21 55 m22_ (any_of HT_.out s2_) ?_
 refine pu_ 22 56 m23_ (any_of HT_.out s2_) ?_
 refine pu_ 23 57 m24_ (any_of HT_.out s2_) ?_
 refine pu_ 24 58 m25_ (any_of HT_.out s2_) ?_
 refine pu_ 25 59 m26_ (any_of HT_.out s2_) ?_
 refine pn_ 26 60 m27_ (any_of HT_.out s2_) ?_
 refine pn_ 27 61 m33_ (any_of HT_.out s2_) ?_
 refine pn_ 28 62 m34_ (any_of HT_.out s2_) ?_
 refine pn_ 29 63 m35_ (any_of HT_.out s2_) ?_
 refine pn_ 30 64 m36_ (any_of HT_.out s2_) ?_
 refine pn_ 31 65 m37_ (any_of HT_.out s2_) ?_
 refine pn_ 32 66 m38_ (any_of HT_.out s2_) ?_
 refine pn_ 33 67 m28_ (any_of HT_.out s2_) ?_
 refine pn_ 34 68 m29_ (any_of HT_.out s2_) ?_
 refine pn_ 35 69 m30_ (any_of HT_.out s2_) ?_
 refine pu_ 36 70 m31_ (any_of HT_.out s2_) ?_
 refine pu_ 37 71 m32_ (any_of HT_.out s2_) ?_
 refine done_ (done_of HT_.out s2_) ?_
 try go_wp2
 go_meet
 case rel => exact ⟨_, (false), s1_, H', ⟨by have := HJ1.out; have := HK2.out; first | omega | exact Nat.le_refl _⟩, ⟨b1_ BK198.out⟩, ⟨b1_ BK201.out⟩, ⟨by repeat (first | (with_reducible first | exact HB.out | apply below_alloc | apply pw_below_drewN | apply below_drew1 | refine below_set ?_ GE198.out | refine below_set ?_ GE201.out) | exact HB.out)⟩⟩}}
 {
 replace c26 := Bool.eq_false_iff.mpr c26
 subst c26
 have H1 : (impl_ValidRoom.j2 k2 l0_1 (l0_1.length : Int) x29_2 true a0_0 l0_1 l0_2 l0_3) = some r := by rw [if_neg (show ¬ (false = true) by decide)] at H; exact H
 clear H
 have H := H1
 clear H1
 have H' := Aside0.mk H
 clear H
 try go_wp2
 have n0_ : Aside0 (((((w16.setCell ⟨gb201, 0, none⟩ (.int .i64 ((rd_T36 l0_1 x29_2).f0))).setCell ⟨gb201, 1, none⟩ (.int .i64 ((rd_T36 l0_1 x29_2).f1))).setCell ⟨gb201, 2, none⟩ (.int .i64 ((rd_T36 l0_1 x29_2).f2))).setCell ⟨gb201, 3, none⟩ (.int .i64 ((rd_T36 l0_1 x29_2).f3))).heap[gb198]? = some (.cells #[.bool a0_0, .slice (some ad200) l0_1.length c0_1, .slice A0_2 l0_2.length c0_2, .slice A0_3 l0_3.length c0_3] 28 (0, 0))) := ⟨by (with_reducible repeat (first | refine blk_drewN ?_ _ | refine blk_drew ?_ | refine blk_alloc ?_ _)); refine blk_far ?_ NB198_201.out _; (with_reducible repeat (first | refine blk_drewN ?_ _ | refine blk_drew ?_ | refine blk_alloc ?_ _)); refine blk_far ?_ NB198_201.out _; (with_reducible repeat (first | refine blk_drewN ?_ _ | refine blk_drew ?_ | refine blk_alloc ?_ _)); refine blk_far ?_ NB198_201.out _; (with_reducible repeat (first | refine blk_drewN ?_ _ | refine blk_drew ?_ | refine blk_alloc ?_ _)); refine blk_far ?_ NB198_201.out _; (with_reducible repeat (first | refine blk_drewN ?_ _ | refine blk_drew ?_ | refine blk_alloc ?_ _)); exact BK198.out⟩
 have n1_ : Aside0 (((((w16.setCell ⟨gb201, 0, none⟩ (.int .i64 ((rd_T36 l0_1 x29_2).f0))).setCell ⟨gb201, 1, none⟩ (.int .i64 ((rd_T36 l0_1 x29_2).f1))).setCell ⟨gb201, 2, none⟩ (.int .i64 ((rd_T36 l0_1 x29_2).f2))).setCell ⟨gb201, 3, none⟩ (.int .i64 ((rd_T36 l0_1 x29_2).f3))).heap[gb201]? = some (.cells #[.int .i64 ((rd_T36 l0_1 x29_2).f0), .int .i64 ((rd_T36 l0_1 x29_2).f1), .int .i64 ((rd_T36 l0_1 x29_2).f2), .int .i64 ((rd_T36 l0_1 x29_2).f3)] 36 (0, 0))) := ⟨by (with_reducible repeat (first | refine blk_drewN ?_ _ | refine blk_drew ?_ | refine blk_alloc ?_ _)); refine blk_put (cs := #[.int .i64 ((rd_T36 l0_1 x29_2).f0), .int .i64 ((rd_T36 l0_1 x29_2).f1), .int .i64 ((rd_T36 l0_1 x29_2).f2), .int .i64 0]) ?_ 3 _ rfl; (with_reducible repeat (first | refine blk_drewN ?_ _ | refine blk_drew ?_ | refine blk_alloc ?_ _)); refine blk_put (cs := #[.int .i64 ((rd_T36 l0_1 x29_2).f0), .int .i64 ((rd_T36 l0_1 x29_2).f1), .int .i64 0, .int .i64 0]) ?_ 2 _ rfl; (with_reducible repeat (first | refine blk_drewN ?_ _ | refine blk_drew ?_ | refine blk_alloc ?_ _)); refine blk_put (cs := #[.int .i64 ((rd_T36 l0_1 x29_2).f0), .int .i64 0, .int .i64 0, .int .i64 0]) ?_ 1 _ rfl; (with_reducible repeat (first | refine blk_drewN ?_ _ | refine blk_drew ?_ | refine blk_alloc ?_ _)); refine blk_put (cs := #[.int .i64 0, .int .i64 0, .int .i64 0, .int .i64 0]) ?_ 0 _ rfl; (with_reducible repeat (first | refine blk_drewN ?_ _ | refine blk_drew ?_ | refine blk_alloc ?_ _)); exact BK201.out⟩
 have n2_ : Aside0 (Below w.heap.size w ((((w16.setCell ⟨gb201, 0, none⟩ (.int .i64 ((rd_T36 l0_1 x29_2).f0))).setCell ⟨gb201, 1, none⟩ (.int .i64 ((rd_T36 l0_1 x29_2).f1))).setCell ⟨gb201, 2, none⟩ (.int .i64 ((rd_T36 l0_1 x29_2).f2))).setCell ⟨gb201, 3, none⟩ (.int .i64 ((rd_T36 l0_1 x29_2).f3)))) := ⟨by repeat (first | (with_reducible first | exact HB.out | apply below_alloc | apply pw_below_drewN | apply below_drew1 | refine below_set ?_ GE198.out | refine below_set ?_ GE201.out) | exact HB.out)⟩
 (try clear BK198)
 (try clear BK201)
 (try clear HB)
 generalize ((((w16.setCell ⟨gb201, 0, none⟩ (.int .i64 ((rd_T36 l0_1 x29_2).f0))).setCell ⟨gb201, 1, none⟩ (.int .i64 ((rd_T36 l0_1 x29_2).f1))).setCell ⟨gb201, 2, none⟩ (.int .i64 ((rd_T36 l0_1 x29_2).f2))).setCell ⟨gb201, 3, none⟩ (.int .i64 ((rd_T36 l0_1 x29_2).f3))) = w35 at n0_ n1_ n2_ ⊢
 have BK198 := n0_
 have BK201 := n1_
 have HB := n2_
 clear n0_ n1_ n2_
 have n0_ := Aside0.mk (blk_drew BK198.out)
 have n1_ := Aside0.mk (blk_drew BK201.out)
 have n2_ := Aside0.mk (below_drew1 HB.out)
 clear BK198
 clear BK201
 clear HB
 have BK198 := n0_
 have BK201 := n1_
 have HB := n2_
 clear n0_ n1_ n2_
 refine start_ (n := 38) (S := fun w' => w'.cell? ⟨gb201, 0, none⟩ = some (.int .i64 ((rd_T36 l0_1 x29_2).f0)) ∧ w'.cell? ⟨gb201, 1, none⟩ = some (.int .i64 ((rd_T36 l0_1 x29_2).f1)) ∧ w'.cell? ⟨gb201, 2, none⟩ = some (.int .i64 ((rd_T36 l0_1 x29_2).f2)) ∧ w'.cell? ⟨gb201, 3, none⟩ = some (.int .i64 ((rd_T36 l0_1 x29_2).f3))) (ds := []) m0_ s2_ rfl rfl ⟨(blk_cell BK201.out 0).trans rfl, (blk_cell BK201.out 1).trans rfl, (blk_cell BK201.out 2).trans rfl, (blk_cell BK201.out 3).trans rfl⟩ (fun hHeld => ?_); refine with_tabW impl_ValidRoom.tab6 impl_ValidRoom.bits6 (fun HT_ HW_ => ?_)
 generalize w35.drew = w36 at BK198 BK201 HB hHeld ⊢
 refine pu_ 0 34 m1_ (any_of HT_.out s2_) ?_
 refine take_ (i := 1) (N := some 35) (v := ?_) (a' := ?_) m2_ rfl rfl (take_ofW HT_.out HW_.out s2_) (fun _ _ _ h => h) (Or.inl ⟨by rfl, ?_⟩) hHeld ?_ ?_
 rotate_left
 {
 rintro w' ⟨s0, s1, s2, s3⟩
 go_simp
 with_reducible rfl}
 rotate_left
 · exact p1_
 refine one_ (i := 2) (N := some 36) m3_ rfl rfl (one_of HT_.out s2_) (by decide) (fun K hK => ?_)
 refine goes_ Try.func32 s2_ rfl #[.int .i64 ((rd_T36 l0_1 x29_2).f0)] (by rfl) rfl rfl s3_ ?_
 with_reducible refine (impl_isMember.calls ((rd_T36 l0_1 x29_2).f0) true _ A19.out).mono ?_
 rintro e w' ⟨rfl, ⟨nd, rfl⟩⟩
 refine ⟨_, rfl, ?_⟩
 refine hK.out _ _ ⟨(blk_cell BK201.out 0).trans rfl, (blk_cell BK201.out 1).trans rfl, (blk_cell BK201.out 2).trans rfl, (blk_cell BK201.out 3).trans rfl⟩ (fun hHeld => ?_)
 clear hK K
 refine norm_ (a' := ?_) ?_ ?_
 rotate_left
 {
 show Act.put _ (some 36) _ = _
 simp only [Act.put, List.setIfInBounds_toArray, List.set_cons_zero, List.set_cons_succ, i64_w, i32_w]
 rfl}
 refine pu_ 3 37 m4_ (any_of HT_.out s2_) ?_
 refine pu_ 4 38 m5_ (any_of HT_.out s2_) ?_
 refine pu_ 5 39 m6_ (any_of HT_.out s2_) ?_
 refine take_ (i := 6) (N := some 40) (v := ?_) (a' := ?_) m7_ rfl rfl (take_ofW HT_.out HW_.out s2_) (fun _ _ _ h => h) (Or.inl ⟨by rfl, ?_⟩) hHeld ?_ ?_
 rotate_left
 {
 rintro w' ⟨s0, s1, s2, s3⟩
 go_simp
 with_reducible rfl}
 rotate_left
 · exact p1_
 refine one_ (i := 7) (N := some 41) m8_ rfl rfl (one_of HT_.out s2_) (by decide) (fun K hK => ?_)
 refine goes_ Try.func33 s2_ rfl #[.int .i64 ((rd_T36 l0_1 x29_2).f1)] (by rfl) rfl rfl s3_ ?_
 with_reducible refine (impl_roleOk.calls ((rd_T36 l0_1 x29_2).f1) true _ A21.out).mono ?_
 rintro e w' ⟨rfl, ⟨nd, rfl⟩⟩
 refine ⟨_, rfl, ?_⟩
 refine hK.out _ _ ⟨(blk_cell BK201.out 0).trans rfl, (blk_cell BK201.out 1).trans rfl, (blk_cell BK201.out 2).trans rfl, (blk_cell BK201.out 3).trans rfl⟩ (fun hHeld => ?_)
 clear hK K
 refine norm_ (a' := ?_) ?_ ?_
 rotate_left
 {
 show Act.put _ (some 41) _ = _
 simp only [Act.put, List.setIfInBounds_toArray, List.set_cons_zero, List.set_cons_succ, i64_w, i32_w]
 rfl}
 refine pu_ 8 42 m9_ (any_of HT_.out s2_) ?_
 refine pu_ 9 43 m10_ (any_of HT_.out s2_) ?_
 refine pu_ 10 44 m11_ (any_of HT_.out s2_) ?_
 refine pu_ 11 45 m12_ (any_of HT_.out s2_) ?_
 refine take_ (i := 12) (N := some 46) (v := ?_) (a' := ?_) m13_ rfl rfl (take_ofW HT_.out HW_.out s2_) (fun _ _ _ h => h) (Or.inl ⟨by rfl, ?_⟩) hHeld ?_ ?_
 rotate_left
 {
 rintro w' ⟨s0, s1, s2, s3⟩
 go_simp
 with_reducible rfl}
 rotate_left
 · exact p1_
 refine one_ (i := 13) (N := some 47) m14_ rfl rfl (one_of HT_.out s2_) (by decide) (fun K hK => ?_)
 refine goes_ Try.func34 s2_ rfl #[.int .i64 ((rd_T36 l0_1 x29_2).f2)] (by rfl) rfl rfl s3_ ?_
 with_reducible refine (impl_isTick.calls ((rd_T36 l0_1 x29_2).f2) true _ A23.out).mono ?_
 rintro e w' ⟨rfl, ⟨nd, rfl⟩⟩
 refine ⟨_, rfl, ?_⟩
 refine hK.out _ _ ⟨(blk_cell BK201.out 0).trans rfl, (blk_cell BK201.out 1).trans rfl, (blk_cell BK201.out 2).trans rfl, (blk_cell BK201.out 3).trans rfl⟩ (fun hHeld => ?_)
 clear hK K
 refine norm_ (a' := ?_) ?_ ?_
 rotate_left
 {
 show Act.put _ (some 47) _ = _
 simp only [Act.put, List.setIfInBounds_toArray, List.set_cons_zero, List.set_cons_succ, i64_w, i32_w]
 rfl}
 refine pu_ 14 48 m15_ (any_of HT_.out s2_) ?_
 refine pu_ 15 49 m16_ (any_of HT_.out s2_) ?_
 refine pu_ 16 50 m17_ (any_of HT_.out s2_) ?_
 refine pu_ 17 51 m18_ (any_of HT_.out s2_) ?_
 refine take_ (i := 18) (N := some 52) (v := ?_) (a' := ?_) m19_ rfl rfl (take_ofW HT_.out HW_.out s2_) (fun _ _ _ h => h) (Or.inl ⟨by rfl, ?_⟩) hHeld ?_ ?_
 rotate_left
 {
 rintro w' ⟨s0, s1, s2, s3⟩
 go_simp
 with_reducible rfl}
 rotate_left
 · exact p1_
 refine one_ (i := 19) (N := some 53) m20_ rfl rfl (one_of HT_.out s2_) (by decide) (fun K hK => ?_)
 refine goes_ Try.func34 s2_ rfl #[.int .i64 ((rd_T36 l0_1 x29_2).f3)] (by rfl) rfl rfl s3_ ?_
 with_reducible refine (impl_isTick.calls ((rd_T36 l0_1 x29_2).f3) false _ A25.out).mono ?_
 rintro e w' ⟨rfl, ⟨nd, rfl⟩⟩
 refine ⟨_, rfl, ?_⟩
 refine hK.out _ _ ⟨(blk_cell BK201.out 0).trans rfl, (blk_cell BK201.out 1).trans rfl, (blk_cell BK201.out 2).trans rfl, (blk_cell BK201.out 3).trans rfl⟩ (fun hHeld => ?_)
 clear hK K
 refine norm_ (a' := ?_) ?_ ?_
 rotate_left
 {
 show Act.put _ (some 53) _ = _
 simp only [Act.put, List.setIfInBounds_toArray, List.set_cons_zero, List.set_cons_succ, i64_w, i32_w]
 rfl}
 refine pu_ 20 54 m21_ (any_of HT_.out s2_) ?_
 refine pu_ 21 55 m22_ (any_of HT_.out s2_) ?_
 refine pu_ 22 56 m23_ (any_of HT_.out s2_) ?_
 refine pn_ 23 57 m24_ (any_of HT_.out s2_) ?_
 refine pn_ 24 58 m25_ (any_of HT_.out s2_) ?_
 refine pn_ 25 59 m26_ (any_of HT_.out s2_) ?_
 refine pn_ 26 60 m27_ (any_of HT_.out s2_) ?_
 refine pn_ 27 61 m33_ (any_of HT_.out s2_) ?_
 refine pn_ 28 62 m34_ (any_of HT_.out s2_) ?_
 refine pn_ 29 63 m35_ (any_of HT_.out s2_) ?_
 refine pn_ 30 64 m36_ (any_of HT_.out s2_) ?_
 refine pn_ 31 65 m37_ (any_of HT_.out s2_) ?_
 refine pn_ 32 66 m38_ (any_of HT_.out s2_) ?_
 refine pn_ 33 67 m28_ (any_of HT_.out s2_) ?_
 refine pn_ 34 68 m29_ (any_of HT_.out s2_) ?_
 refine pn_ 35 69 m30_ (any_of HT_.out s2_) ?_
 refine pn_ 36 70 m31_ (any_of HT_.out s2_) ?_
 refine pu_ 37 71 m32_ (any_of HT_.out s2_) ?_
 refine done_ (done_of HT_.out s2_) ?_
 try go_wp2
 go_meet
 case rel => exact ⟨_, (true), s1_, H', ⟨by have := HJ1.out; have := HK2.out; first | omega | exact Nat.le_refl _⟩, ⟨b1_ BK198.out⟩, ⟨b1_ BK201.out⟩, ⟨by repeat (first | (with_reducible first | exact HB.out | apply below_alloc | apply pw_below_drewN | apply below_drew1 | refine below_set ?_ GE198.out | refine below_set ?_ GE201.out) | exact HB.out)⟩⟩}}
 {
 replace c24 := Bool.eq_false_iff.mpr c24
 subst c24
 have H1 : (impl_ValidRoom.j2 k2 l0_1 (l0_1.length : Int) x29_2 true a0_0 l0_1 l0_2 l0_3) = some r := by rw [if_neg (show ¬ (false = true) by decide)] at H; exact H
 clear H
 have H := H1
 clear H1
 have H' := Aside0.mk H
 clear H
 try go_wp2
 have n0_ : Aside0 (((((w16.setCell ⟨gb201, 0, none⟩ (.int .i64 ((rd_T36 l0_1 x29_2).f0))).setCell ⟨gb201, 1, none⟩ (.int .i64 ((rd_T36 l0_1 x29_2).f1))).setCell ⟨gb201, 2, none⟩ (.int .i64 ((rd_T36 l0_1 x29_2).f2))).setCell ⟨gb201, 3, none⟩ (.int .i64 ((rd_T36 l0_1 x29_2).f3))).heap[gb198]? = some (.cells #[.bool a0_0, .slice (some ad200) l0_1.length c0_1, .slice A0_2 l0_2.length c0_2, .slice A0_3 l0_3.length c0_3] 28 (0, 0))) := ⟨by (with_reducible repeat (first | refine blk_drewN ?_ _ | refine blk_drew ?_ | refine blk_alloc ?_ _)); refine blk_far ?_ NB198_201.out _; (with_reducible repeat (first | refine blk_drewN ?_ _ | refine blk_drew ?_ | refine blk_alloc ?_ _)); refine blk_far ?_ NB198_201.out _; (with_reducible repeat (first | refine blk_drewN ?_ _ | refine blk_drew ?_ | refine blk_alloc ?_ _)); refine blk_far ?_ NB198_201.out _; (with_reducible repeat (first | refine blk_drewN ?_ _ | refine blk_drew ?_ | refine blk_alloc ?_ _)); refine blk_far ?_ NB198_201.out _; (with_reducible repeat (first | refine blk_drewN ?_ _ | refine blk_drew ?_ | refine blk_alloc ?_ _)); exact BK198.out⟩
 have n1_ : Aside0 (((((w16.setCell ⟨gb201, 0, none⟩ (.int .i64 ((rd_T36 l0_1 x29_2).f0))).setCell ⟨gb201, 1, none⟩ (.int .i64 ((rd_T36 l0_1 x29_2).f1))).setCell ⟨gb201, 2, none⟩ (.int .i64 ((rd_T36 l0_1 x29_2).f2))).setCell ⟨gb201, 3, none⟩ (.int .i64 ((rd_T36 l0_1 x29_2).f3))).heap[gb201]? = some (.cells #[.int .i64 ((rd_T36 l0_1 x29_2).f0), .int .i64 ((rd_T36 l0_1 x29_2).f1), .int .i64 ((rd_T36 l0_1 x29_2).f2), .int .i64 ((rd_T36 l0_1 x29_2).f3)] 36 (0, 0))) := ⟨by (with_reducible repeat (first | refine blk_drewN ?_ _ | refine blk_drew ?_ | refine blk_alloc ?_ _)); refine blk_put (cs := #[.int .i64 ((rd_T36 l0_1 x29_2).f0), .int .i64 ((rd_T36 l0_1 x29_2).f1), .int .i64 ((rd_T36 l0_1 x29_2).f2), .int .i64 0]) ?_ 3 _ rfl; (with_reducible repeat (first | refine blk_drewN ?_ _ | refine blk_drew ?_ | refine blk_alloc ?_ _)); refine blk_put (cs := #[.int .i64 ((rd_T36 l0_1 x29_2).f0), .int .i64 ((rd_T36 l0_1 x29_2).f1), .int .i64 0, .int .i64 0]) ?_ 2 _ rfl; (with_reducible repeat (first | refine blk_drewN ?_ _ | refine blk_drew ?_ | refine blk_alloc ?_ _)); refine blk_put (cs := #[.int .i64 ((rd_T36 l0_1 x29_2).f0), .int .i64 0, .int .i64 0, .int .i64 0]) ?_ 1 _ rfl; (with_reducible repeat (first | refine blk_drewN ?_ _ | refine blk_drew ?_ | refine blk_alloc ?_ _)); refine blk_put (cs := #[.int .i64 0, .int .i64 0, .int .i64 0, .int .i64 0]) ?_ 0 _ rfl; (with_reducible repeat (first | refine blk_drewN ?_ _ | refine blk_drew ?_ | refine blk_alloc ?_ _)); exact BK201.out⟩
 have n2_ : Aside0 (Below w.heap.size w ((((w16.setCell ⟨gb201, 0, none⟩ (.int .i64 ((rd_T36 l0_1 x29_2).f0))).setCell ⟨gb201, 1, none⟩ (.int .i64 ((rd_T36 l0_1 x29_2).f1))).setCell ⟨gb201, 2, none⟩ (.int .i64 ((rd_T36 l0_1 x29_2).f2))).setCell ⟨gb201, 3, none⟩ (.int .i64 ((rd_T36 l0_1 x29_2).f3)))) := ⟨by repeat (first | (with_reducible first | exact HB.out | apply below_alloc | apply pw_below_drewN | apply below_drew1 | refine below_set ?_ GE198.out | refine below_set ?_ GE201.out) | exact HB.out)⟩
 (try clear BK198)
 (try clear BK201)
 (try clear HB)
 generalize ((((w16.setCell ⟨gb201, 0, none⟩ (.int .i64 ((rd_T36 l0_1 x29_2).f0))).setCell ⟨gb201, 1, none⟩ (.int .i64 ((rd_T36 l0_1 x29_2).f1))).setCell ⟨gb201, 2, none⟩ (.int .i64 ((rd_T36 l0_1 x29_2).f2))).setCell ⟨gb201, 3, none⟩ (.int .i64 ((rd_T36 l0_1 x29_2).f3))) = w37 at n0_ n1_ n2_ ⊢
 have BK198 := n0_
 have BK201 := n1_
 have HB := n2_
 clear n0_ n1_ n2_
 have n0_ := Aside0.mk (blk_drew BK198.out)
 have n1_ := Aside0.mk (blk_drew BK201.out)
 have n2_ := Aside0.mk (below_drew1 HB.out)
 clear BK198
 clear BK201
 clear HB
 have BK198 := n0_
 have BK201 := n1_
 have HB := n2_
 clear n0_ n1_ n2_
 refine start_ (n := 38) (S := fun w' => w'.cell? ⟨gb201, 0, none⟩ = some (.int .i64 ((rd_T36 l0_1 x29_2).f0)) ∧ w'.cell? ⟨gb201, 1, none⟩ = some (.int .i64 ((rd_T36 l0_1 x29_2).f1)) ∧ w'.cell? ⟨gb201, 2, none⟩ = some (.int .i64 ((rd_T36 l0_1 x29_2).f2)) ∧ w'.cell? ⟨gb201, 3, none⟩ = some (.int .i64 ((rd_T36 l0_1 x29_2).f3))) (ds := []) m0_ s2_ rfl rfl ⟨(blk_cell BK201.out 0).trans rfl, (blk_cell BK201.out 1).trans rfl, (blk_cell BK201.out 2).trans rfl, (blk_cell BK201.out 3).trans rfl⟩ (fun hHeld => ?_); refine with_tabW impl_ValidRoom.tab6 impl_ValidRoom.bits6 (fun HT_ HW_ => ?_)
 generalize w37.drew = w38 at BK198 BK201 HB hHeld ⊢
 refine pu_ 0 34 m1_ (any_of HT_.out s2_) ?_
 refine take_ (i := 1) (N := some 35) (v := ?_) (a' := ?_) m2_ rfl rfl (take_ofW HT_.out HW_.out s2_) (fun _ _ _ h => h) (Or.inl ⟨by rfl, ?_⟩) hHeld ?_ ?_
 rotate_left
 {
 rintro w' ⟨s0, s1, s2, s3⟩
 go_simp
 with_reducible rfl}
 rotate_left
 · exact p1_
 refine one_ (i := 2) (N := some 36) m3_ rfl rfl (one_of HT_.out s2_) (by decide) (fun K hK => ?_)
 refine goes_ Try.func32 s2_ rfl #[.int .i64 ((rd_T36 l0_1 x29_2).f0)] (by rfl) rfl rfl s3_ ?_
 with_reducible refine (impl_isMember.calls ((rd_T36 l0_1 x29_2).f0) true _ A19.out).mono ?_
 rintro e w' ⟨rfl, ⟨nd, rfl⟩⟩
 refine ⟨_, rfl, ?_⟩
 refine hK.out _ _ ⟨(blk_cell BK201.out 0).trans rfl, (blk_cell BK201.out 1).trans rfl, (blk_cell BK201.out 2).trans rfl, (blk_cell BK201.out 3).trans rfl⟩ (fun hHeld => ?_)
 clear hK K
 refine norm_ (a' := ?_) ?_ ?_
 rotate_left
 {
 show Act.put _ (some 36) _ = _
 simp only [Act.put, List.setIfInBounds_toArray, List.set_cons_zero, List.set_cons_succ, i64_w, i32_w]
 rfl}
 refine pu_ 3 37 m4_ (any_of HT_.out s2_) ?_
 refine pu_ 4 38 m5_ (any_of HT_.out s2_) ?_
 refine pu_ 5 39 m6_ (any_of HT_.out s2_) ?_
 refine take_ (i := 6) (N := some 40) (v := ?_) (a' := ?_) m7_ rfl rfl (take_ofW HT_.out HW_.out s2_) (fun _ _ _ h => h) (Or.inl ⟨by rfl, ?_⟩) hHeld ?_ ?_
 rotate_left
 {
 rintro w' ⟨s0, s1, s2, s3⟩
 go_simp
 with_reducible rfl}
 rotate_left
 · exact p1_
 refine one_ (i := 7) (N := some 41) m8_ rfl rfl (one_of HT_.out s2_) (by decide) (fun K hK => ?_)
 refine goes_ Try.func33 s2_ rfl #[.int .i64 ((rd_T36 l0_1 x29_2).f1)] (by rfl) rfl rfl s3_ ?_
 with_reducible refine (impl_roleOk.calls ((rd_T36 l0_1 x29_2).f1) true _ A21.out).mono ?_
 rintro e w' ⟨rfl, ⟨nd, rfl⟩⟩
 refine ⟨_, rfl, ?_⟩
 refine hK.out _ _ ⟨(blk_cell BK201.out 0).trans rfl, (blk_cell BK201.out 1).trans rfl, (blk_cell BK201.out 2).trans rfl, (blk_cell BK201.out 3).trans rfl⟩ (fun hHeld => ?_)
 clear hK K
 refine norm_ (a' := ?_) ?_ ?_
 rotate_left
 {
 show Act.put _ (some 41) _ = _
 simp only [Act.put, List.setIfInBounds_toArray, List.set_cons_zero, List.set_cons_succ, i64_w, i32_w]
 rfl}
 refine pu_ 8 42 m9_ (any_of HT_.out s2_) ?_
 refine pu_ 9 43 m10_ (any_of HT_.out s2_) ?_
 refine pu_ 10 44 m11_ (any_of HT_.out s2_) ?_
 refine pu_ 11 45 m12_ (any_of HT_.out s2_) ?_
 refine take_ (i := 12) (N := some 46) (v := ?_) (a' := ?_) m13_ rfl rfl (take_ofW HT_.out HW_.out s2_) (fun _ _ _ h => h) (Or.inl ⟨by rfl, ?_⟩) hHeld ?_ ?_
 rotate_left
 {
 rintro w' ⟨s0, s1, s2, s3⟩
 go_simp
 with_reducible rfl}
 rotate_left
 · exact p1_
 refine one_ (i := 13) (N := some 47) m14_ rfl rfl (one_of HT_.out s2_) (by decide) (fun K hK => ?_)
 refine goes_ Try.func34 s2_ rfl #[.int .i64 ((rd_T36 l0_1 x29_2).f2)] (by rfl) rfl rfl s3_ ?_
 with_reducible refine (impl_isTick.calls ((rd_T36 l0_1 x29_2).f2) false _ A23.out).mono ?_
 rintro e w' ⟨rfl, ⟨nd, rfl⟩⟩
 refine ⟨_, rfl, ?_⟩
 refine hK.out _ _ ⟨(blk_cell BK201.out 0).trans rfl, (blk_cell BK201.out 1).trans rfl, (blk_cell BK201.out 2).trans rfl, (blk_cell BK201.out 3).trans rfl⟩ (fun hHeld => ?_)
 clear hK K
 refine norm_ (a' := ?_) ?_ ?_
 rotate_left
 {
 show Act.put _ (some 47) _ = _
 simp only [Act.put, List.setIfInBounds_toArray, List.set_cons_zero, List.set_cons_succ, i64_w, i32_w]
 rfl}
 refine pu_ 14 48 m15_ (any_of HT_.out s2_) ?_
 refine pu_ 15 49 m16_ (any_of HT_.out s2_) ?_
 refine pu_ 16 50 m17_ (any_of HT_.out s2_) ?_
 refine pn_ 17 51 m18_ (any_of HT_.out s2_) ?_
 refine pn_ 18 52 m19_ (any_of HT_.out s2_) ?_
 refine pn_ 19 53 m20_ (any_of HT_.out s2_) ?_
 refine pn_ 20 54 m21_ (any_of HT_.out s2_) ?_
 refine pu_ 21 55 m22_ (any_of HT_.out s2_) ?_
 refine pu_ 22 56 m23_ (any_of HT_.out s2_) ?_
 refine pn_ 23 57 m24_ (any_of HT_.out s2_) ?_
 refine pn_ 24 58 m25_ (any_of HT_.out s2_) ?_
 refine pn_ 25 59 m26_ (any_of HT_.out s2_) ?_
 refine pn_ 26 60 m27_ (any_of HT_.out s2_) ?_
 refine pn_ 27 61 m33_ (any_of HT_.out s2_) ?_
 refine pn_ 28 62 m34_ (any_of HT_.out s2_) ?_
 refine pn_ 29 63 m35_ (any_of HT_.out s2_) ?_
 refine pn_ 30 64 m36_ (any_of HT_.out s2_) ?_
 refine pn_ 31 65 m37_ (any_of HT_.out s2_) ?_
 refine pn_ 32 66 m38_ (any_of HT_.out s2_) ?_
 refine pn_ 33 67 m28_ (any_of HT_.out s2_) ?_
 refine pn_ 34 68 m29_ (any_of HT_.out s2_) ?_
 refine pn_ 35 69 m30_ (any_of HT_.out s2_) ?_
 refine pn_ 36 70 m31_ (any_of HT_.out s2_) ?_
 refine pu_ 37 71 m32_ (any_of HT_.out s2_) ?_
 refine done_ (done_of HT_.out s2_) ?_
 try go_wp2
 go_meet
 case rel => exact ⟨_, (true), s1_, H', ⟨by have := HJ1.out; have := HK2.out; first | omega | exact Nat.le_refl _⟩, ⟨b1_ BK198.out⟩, ⟨b1_ BK201.out⟩, ⟨by repeat (first | (with_reducible first | exact HB.out | apply below_alloc | apply pw_below_drewN | apply below_drew1 | refine below_set ?_ GE198.out | refine below_set ?_ GE201.out) | exact HB.out)⟩⟩}}
 {
 replace c22 := Bool.eq_false_iff.mpr c22
 subst c22
 have H1 : (impl_ValidRoom.j2 k2 l0_1 (l0_1.length : Int) x29_2 true a0_0 l0_1 l0_2 l0_3) = some r := by rw [if_neg (show ¬ (false = true) by decide)] at H; exact H
 clear H
 have H := H1
 clear H1
 have H' := Aside0.mk H
 clear H
 try go_wp2
 have n0_ : Aside0 (((((w16.setCell ⟨gb201, 0, none⟩ (.int .i64 ((rd_T36 l0_1 x29_2).f0))).setCell ⟨gb201, 1, none⟩ (.int .i64 ((rd_T36 l0_1 x29_2).f1))).setCell ⟨gb201, 2, none⟩ (.int .i64 ((rd_T36 l0_1 x29_2).f2))).setCell ⟨gb201, 3, none⟩ (.int .i64 ((rd_T36 l0_1 x29_2).f3))).heap[gb198]? = some (.cells #[.bool a0_0, .slice (some ad200) l0_1.length c0_1, .slice A0_2 l0_2.length c0_2, .slice A0_3 l0_3.length c0_3] 28 (0, 0))) := ⟨by (with_reducible repeat (first | refine blk_drewN ?_ _ | refine blk_drew ?_ | refine blk_alloc ?_ _)); refine blk_far ?_ NB198_201.out _; (with_reducible repeat (first | refine blk_drewN ?_ _ | refine blk_drew ?_ | refine blk_alloc ?_ _)); refine blk_far ?_ NB198_201.out _; (with_reducible repeat (first | refine blk_drewN ?_ _ | refine blk_drew ?_ | refine blk_alloc ?_ _)); refine blk_far ?_ NB198_201.out _; (with_reducible repeat (first | refine blk_drewN ?_ _ | refine blk_drew ?_ | refine blk_alloc ?_ _)); refine blk_far ?_ NB198_201.out _; (with_reducible repeat (first | refine blk_drewN ?_ _ | refine blk_drew ?_ | refine blk_alloc ?_ _)); exact BK198.out⟩
 have n1_ : Aside0 (((((w16.setCell ⟨gb201, 0, none⟩ (.int .i64 ((rd_T36 l0_1 x29_2).f0))).setCell ⟨gb201, 1, none⟩ (.int .i64 ((rd_T36 l0_1 x29_2).f1))).setCell ⟨gb201, 2, none⟩ (.int .i64 ((rd_T36 l0_1 x29_2).f2))).setCell ⟨gb201, 3, none⟩ (.int .i64 ((rd_T36 l0_1 x29_2).f3))).heap[gb201]? = some (.cells #[.int .i64 ((rd_T36 l0_1 x29_2).f0), .int .i64 ((rd_T36 l0_1 x29_2).f1), .int .i64 ((rd_T36 l0_1 x29_2).f2), .int .i64 ((rd_T36 l0_1 x29_2).f3)] 36 (0, 0))) := ⟨by (with_reducible repeat (first | refine blk_drewN ?_ _ | refine blk_drew ?_ | refine blk_alloc ?_ _)); refine blk_put (cs := #[.int .i64 ((rd_T36 l0_1 x29_2).f0), .int .i64 ((rd_T36 l0_1 x29_2).f1), .int .i64 ((rd_T36 l0_1 x29_2).f2), .int .i64 0]) ?_ 3 _ rfl; (with_reducible repeat (first | refine blk_drewN ?_ _ | refine blk_drew ?_ | refine blk_alloc ?_ _)); refine blk_put (cs := #[.int .i64 ((rd_T36 l0_1 x29_2).f0), .int .i64 ((rd_T36 l0_1 x29_2).f1), .int .i64 0, .int .i64 0]) ?_ 2 _ rfl; (with_reducible repeat (first | refine blk_drewN ?_ _ | refine blk_drew ?_ | refine blk_alloc ?_ _)); refine blk_put (cs := #[.int .i64 ((rd_T36 l0_1 x29_2).f0), .int .i64 0, .int .i64 0, .int .i64 0]) ?_ 1 _ rfl; (with_reducible repeat (first | refine blk_drewN ?_ _ | refine blk_drew ?_ | refine blk_alloc ?_ _)); refine blk_put (cs := #[.int .i64 0, .int .i64 0, .int .i64 0, .int .i64 0]) ?_ 0 _ rfl; (with_reducible repeat (first | refine blk_drewN ?_ _ | refine blk_drew ?_ | refine blk_alloc ?_ _)); exact BK201.out⟩
 have n2_ : Aside0 (Below w.heap.size w ((((w16.setCell ⟨gb201, 0, none⟩ (.int .i64 ((rd_T36 l0_1 x29_2).f0))).setCell ⟨gb201, 1, none⟩ (.int .i64 ((rd_T36 l0_1 x29_2).f1))).setCell ⟨gb201, 2, none⟩ (.int .i64 ((rd_T36 l0_1 x29_2).f2))).setCell ⟨gb201, 3, none⟩ (.int .i64 ((rd_T36 l0_1 x29_2).f3)))) := ⟨by repeat (first | (with_reducible first | exact HB.out | apply below_alloc | apply pw_below_drewN | apply below_drew1 | refine below_set ?_ GE198.out | refine below_set ?_ GE201.out) | exact HB.out)⟩
 (try clear BK198)
 (try clear BK201)
 (try clear HB)
 generalize ((((w16.setCell ⟨gb201, 0, none⟩ (.int .i64 ((rd_T36 l0_1 x29_2).f0))).setCell ⟨gb201, 1, none⟩ (.int .i64 ((rd_T36 l0_1 x29_2).f1))).setCell ⟨gb201, 2, none⟩ (.int .i64 ((rd_T36 l0_1 x29_2).f2))).setCell ⟨gb201, 3, none⟩ (.int .i64 ((rd_T36 l0_1 x29_2).f3))) = w39 at n0_ n1_ n2_ ⊢
 have BK198 := n0_
 have BK201 := n1_
 have HB := n2_
 clear n0_ n1_ n2_
 have n0_ := Aside0.mk (blk_drew BK198.out)
 have n1_ := Aside0.mk (blk_drew BK201.out)
 have n2_ := Aside0.mk (below_drew1 HB.out)
 clear BK198
 clear BK201
 clear HB
 have BK198 := n0_
 have BK201 := n1_
 have HB := n2_
 clear n0_ n1_ n2_
 refine start_ (n := 38) (S := fun w' => w'.cell? ⟨gb201, 0, none⟩ = some (.int .i64 ((rd_T36 l0_1 x29_2).f0)) ∧ w'.cell? ⟨gb201, 1, none⟩ = some (.int .i64 ((rd_T36 l0_1 x29_2).f1)) ∧ w'.cell? ⟨gb201, 2, none⟩ = some (.int .i64 ((rd_T36 l0_1 x29_2).f2)) ∧ w'.cell? ⟨gb201, 3, none⟩ = some (.int .i64 ((rd_T36 l0_1 x29_2).f3))) (ds := []) m0_ s2_ rfl rfl ⟨(blk_cell BK201.out 0).trans rfl, (blk_cell BK201.out 1).trans rfl, (blk_cell BK201.out 2).trans rfl, (blk_cell BK201.out 3).trans rfl⟩ (fun hHeld => ?_); refine with_tabW impl_ValidRoom.tab6 impl_ValidRoom.bits6 (fun HT_ HW_ => ?_)
 generalize w39.drew = w40 at BK198 BK201 HB hHeld ⊢
 refine pu_ 0 34 m1_ (any_of HT_.out s2_) ?_
 refine take_ (i := 1) (N := some 35) (v := ?_) (a' := ?_) m2_ rfl rfl (take_ofW HT_.out HW_.out s2_) (fun _ _ _ h => h) (Or.inl ⟨by rfl, ?_⟩) hHeld ?_ ?_
 rotate_left
 {
 rintro w' ⟨s0, s1, s2, s3⟩
 go_simp
 with_reducible rfl}
 rotate_left
 · exact p1_
 refine one_ (i := 2) (N := some 36) m3_ rfl rfl (one_of HT_.out s2_) (by decide) (fun K hK => ?_)
 refine goes_ Try.func32 s2_ rfl #[.int .i64 ((rd_T36 l0_1 x29_2).f0)] (by rfl) rfl rfl s3_ ?_
 with_reducible refine (impl_isMember.calls ((rd_T36 l0_1 x29_2).f0) true _ A19.out).mono ?_
 rintro e w' ⟨rfl, ⟨nd, rfl⟩⟩
 refine ⟨_, rfl, ?_⟩
 refine hK.out _ _ ⟨(blk_cell BK201.out 0).trans rfl, (blk_cell BK201.out 1).trans rfl, (blk_cell BK201.out 2).trans rfl, (blk_cell BK201.out 3).trans rfl⟩ (fun hHeld => ?_)
 clear hK K
 refine norm_ (a' := ?_) ?_ ?_
 rotate_left
 {
 show Act.put _ (some 36) _ = _
 simp only [Act.put, List.setIfInBounds_toArray, List.set_cons_zero, List.set_cons_succ, i64_w, i32_w]
 rfl}
 refine pu_ 3 37 m4_ (any_of HT_.out s2_) ?_
 refine pu_ 4 38 m5_ (any_of HT_.out s2_) ?_
 refine pu_ 5 39 m6_ (any_of HT_.out s2_) ?_
 refine take_ (i := 6) (N := some 40) (v := ?_) (a' := ?_) m7_ rfl rfl (take_ofW HT_.out HW_.out s2_) (fun _ _ _ h => h) (Or.inl ⟨by rfl, ?_⟩) hHeld ?_ ?_
 rotate_left
 {
 rintro w' ⟨s0, s1, s2, s3⟩
 go_simp
 with_reducible rfl}
 rotate_left
 · exact p1_
 refine one_ (i := 7) (N := some 41) m8_ rfl rfl (one_of HT_.out s2_) (by decide) (fun K hK => ?_)
 refine goes_ Try.func33 s2_ rfl #[.int .i64 ((rd_T36 l0_1 x29_2).f1)] (by rfl) rfl rfl s3_ ?_
 with_reducible refine (impl_roleOk.calls ((rd_T36 l0_1 x29_2).f1) false _ A21.out).mono ?_
 rintro e w' ⟨rfl, ⟨nd, rfl⟩⟩
 refine ⟨_, rfl, ?_⟩
 refine hK.out _ _ ⟨(blk_cell BK201.out 0).trans rfl, (blk_cell BK201.out 1).trans rfl, (blk_cell BK201.out 2).trans rfl, (blk_cell BK201.out 3).trans rfl⟩ (fun hHeld => ?_)
 clear hK K
 refine norm_ (a' := ?_) ?_ ?_
 rotate_left
 {
 show Act.put _ (some 41) _ = _
 simp only [Act.put, List.setIfInBounds_toArray, List.set_cons_zero, List.set_cons_succ, i64_w, i32_w]
 rfl}
 refine pu_ 8 42 m9_ (any_of HT_.out s2_) ?_
 refine pu_ 9 43 m10_ (any_of HT_.out s2_) ?_
 refine pu_ 10 44 m11_ (any_of HT_.out s2_) ?_
 refine pn_ 11 45 m12_ (any_of HT_.out s2_) ?_
 refine pn_ 12 46 m13_ (any_of HT_.out s2_) ?_
 refine pn_ 13 47 m14_ (any_of HT_.out s2_) ?_
 refine pn_ 14 48 m15_ (any_of HT_.out s2_) ?_
 refine pu_ 15 49 m16_ (any_of HT_.out s2_) ?_
 refine pu_ 16 50 m17_ (any_of HT_.out s2_) ?_
 refine pn_ 17 51 m18_ (any_of HT_.out s2_) ?_
 refine pn_ 18 52 m19_ (any_of HT_.out s2_) ?_
 refine pn_ 19 53 m20_ (any_of HT_.out s2_) ?_
 refine pn_ 20 54 m21_ (any_of HT_.out s2_) ?_
 refine pu_ 21 55 m22_ (any_of HT_.out s2_) ?_
 refine pu_ 22 56 m23_ (any_of HT_.out s2_) ?_
 refine pn_ 23 57 m24_ (any_of HT_.out s2_) ?_
 refine pn_ 24 58 m25_ (any_of HT_.out s2_) ?_
 refine pn_ 25 59 m26_ (any_of HT_.out s2_) ?_
 refine pn_ 26 60 m27_ (any_of HT_.out s2_) ?_
 refine pn_ 27 61 m33_ (any_of HT_.out s2_) ?_
 refine pn_ 28 62 m34_ (any_of HT_.out s2_) ?_
 refine pn_ 29 63 m35_ (any_of HT_.out s2_) ?_
 refine pn_ 30 64 m36_ (any_of HT_.out s2_) ?_
 refine pn_ 31 65 m37_ (any_of HT_.out s2_) ?_
 refine pn_ 32 66 m38_ (any_of HT_.out s2_) ?_
 refine pn_ 33 67 m28_ (any_of HT_.out s2_) ?_
 refine pn_ 34 68 m29_ (any_of HT_.out s2_) ?_
 refine pn_ 35 69 m30_ (any_of HT_.out s2_) ?_
 refine pn_ 36 70 m31_ (any_of HT_.out s2_) ?_
 refine pu_ 37 71 m32_ (any_of HT_.out s2_) ?_
 refine done_ (done_of HT_.out s2_) ?_
 try go_wp2
 go_meet
 case rel => exact ⟨_, (true), s1_, H', ⟨by have := HJ1.out; have := HK2.out; first | omega | exact Nat.le_refl _⟩, ⟨b1_ BK198.out⟩, ⟨b1_ BK201.out⟩, ⟨by repeat (first | (with_reducible first | exact HB.out | apply below_alloc | apply pw_below_drewN | apply below_drew1 | refine below_set ?_ GE198.out | refine below_set ?_ GE201.out) | exact HB.out)⟩⟩}}
 {
 replace c20 := Bool.eq_false_iff.mpr c20
 subst c20
 have H1 : (impl_ValidRoom.j2 k2 l0_1 (l0_1.length : Int) x29_2 true a0_0 l0_1 l0_2 l0_3) = some r := by rw [if_neg (show ¬ (false = true) by decide)] at H; exact H
 clear H
 have H := H1
 clear H1
 have H' := Aside0.mk H
 clear H
 try go_wp2
 have n0_ : Aside0 (((((w16.setCell ⟨gb201, 0, none⟩ (.int .i64 ((rd_T36 l0_1 x29_2).f0))).setCell ⟨gb201, 1, none⟩ (.int .i64 ((rd_T36 l0_1 x29_2).f1))).setCell ⟨gb201, 2, none⟩ (.int .i64 ((rd_T36 l0_1 x29_2).f2))).setCell ⟨gb201, 3, none⟩ (.int .i64 ((rd_T36 l0_1 x29_2).f3))).heap[gb198]? = some (.cells #[.bool a0_0, .slice (some ad200) l0_1.length c0_1, .slice A0_2 l0_2.length c0_2, .slice A0_3 l0_3.length c0_3] 28 (0, 0))) := ⟨by (with_reducible repeat (first | refine blk_drewN ?_ _ | refine blk_drew ?_ | refine blk_alloc ?_ _)); refine blk_far ?_ NB198_201.out _; (with_reducible repeat (first | refine blk_drewN ?_ _ | refine blk_drew ?_ | refine blk_alloc ?_ _)); refine blk_far ?_ NB198_201.out _; (with_reducible repeat (first | refine blk_drewN ?_ _ | refine blk_drew ?_ | refine blk_alloc ?_ _)); refine blk_far ?_ NB198_201.out _; (with_reducible repeat (first | refine blk_drewN ?_ _ | refine blk_drew ?_ | refine blk_alloc ?_ _)); refine blk_far ?_ NB198_201.out _; (with_reducible repeat (first | refine blk_drewN ?_ _ | refine blk_drew ?_ | refine blk_alloc ?_ _)); exact BK198.out⟩
 have n1_ : Aside0 (((((w16.setCell ⟨gb201, 0, none⟩ (.int .i64 ((rd_T36 l0_1 x29_2).f0))).setCell ⟨gb201, 1, none⟩ (.int .i64 ((rd_T36 l0_1 x29_2).f1))).setCell ⟨gb201, 2, none⟩ (.int .i64 ((rd_T36 l0_1 x29_2).f2))).setCell ⟨gb201, 3, none⟩ (.int .i64 ((rd_T36 l0_1 x29_2).f3))).heap[gb201]? = some (.cells #[.int .i64 ((rd_T36 l0_1 x29_2).f0), .int .i64 ((rd_T36 l0_1 x29_2).f1), .int .i64 ((rd_T36 l0_1 x29_2).f2), .int .i64 ((rd_T36 l0_1 x29_2).f3)] 36 (0, 0))) := ⟨by (with_reducible repeat (first | refine blk_drewN ?_ _ | refine blk_drew ?_ | refine blk_alloc ?_ _)); refine blk_put (cs := #[.int .i64 ((rd_T36 l0_1 x29_2).f0), .int .i64 ((rd_T36 l0_1 x29_2).f1), .int .i64 ((rd_T36 l0_1 x29_2).f2), .int .i64 0]) ?_ 3 _ rfl; (with_reducible repeat (first | refine blk_drewN ?_ _ | refine blk_drew ?_ | refine blk_alloc ?_ _)); refine blk_put (cs := #[.int .i64 ((rd_T36 l0_1 x29_2).f0), .int .i64 ((rd_T36 l0_1 x29_2).f1), .int .i64 0, .int .i64 0]) ?_ 2 _ rfl; (with_reducible repeat (first | refine blk_drewN ?_ _ | refine blk_drew ?_ | refine blk_alloc ?_ _)); refine blk_put (cs := #[.int .i64 ((rd_T36 l0_1 x29_2).f0), .int .i64 0, .int .i64 0, .int .i64 0]) ?_ 1 _ rfl; (with_reducible repeat (first | refine blk_drewN ?_ _ | refine blk_drew ?_ | refine blk_alloc ?_ _)); refine blk_put (cs := #[.int .i64 0, .int .i64 0, .int .i64 0, .int .i64 0]) ?_ 0 _ rfl; (with_reducible repeat (first | refine blk_drewN ?_ _ | refine blk_drew ?_ | refine blk_alloc ?_ _)); exact BK201.out⟩
 have n2_ : Aside0 (Below w.heap.size w ((((w16.setCell ⟨gb201, 0, none⟩ (.int .i64 ((rd_T36 l0_1 x29_2).f0))).setCell ⟨gb201, 1, none⟩ (.int .i64 ((rd_T36 l0_1 x29_2).f1))).setCell ⟨gb201, 2, none⟩ (.int .i64 ((rd_T36 l0_1 x29_2).f2))).setCell ⟨gb201, 3, none⟩ (.int .i64 ((rd_T36 l0_1 x29_2).f3)))) := ⟨by repeat (first | (with_reducible first | exact HB.out | apply below_alloc | apply pw_below_drewN | apply below_drew1 | refine below_set ?_ GE198.out | refine below_set ?_ GE201.out) | exact HB.out)⟩
 (try clear BK198)
 (try clear BK201)
 (try clear HB)
 generalize ((((w16.setCell ⟨gb201, 0, none⟩ (.int .i64 ((rd_T36 l0_1 x29_2).f0))).setCell ⟨gb201, 1, none⟩ (.int .i64 ((rd_T36 l0_1 x29_2).f1))).setCell ⟨gb201, 2, none⟩ (.int .i64 ((rd_T36 l0_1 x29_2).f2))).setCell ⟨gb201, 3, none⟩ (.int .i64 ((rd_T36 l0_1 x29_2).f3))) = w41 at n0_ n1_ n2_ ⊢
 have BK198 := n0_
 have BK201 := n1_
 have HB := n2_
 clear n0_ n1_ n2_
 have n0_ := Aside0.mk (blk_drew BK198.out)
 have n1_ := Aside0.mk (blk_drew BK201.out)
 have n2_ := Aside0.mk (below_drew1 HB.out)
 clear BK198
 clear BK201
 clear HB
 have BK198 := n0_
 have BK201 := n1_
 have HB := n2_
 clear n0_ n1_ n2_
 refine start_ (n := 38) (S := fun w' => w'.cell? ⟨gb201, 0, none⟩ = some (.int .i64 ((rd_T36 l0_1 x29_2).f0)) ∧ w'.cell? ⟨gb201, 1, none⟩ = some (.int .i64 ((rd_T36 l0_1 x29_2).f1)) ∧ w'.cell? ⟨gb201, 2, none⟩ = some (.int .i64 ((rd_T36 l0_1 x29_2).f2)) ∧ w'.cell? ⟨gb201, 3, none⟩ = some (.int .i64 ((rd_T36 l0_1 x29_2).f3))) (ds := []) m0_ s2_ rfl rfl ⟨(blk_cell BK201.out 0).trans rfl, (blk_cell BK201.out 1).trans rfl, (blk_cell BK201.out 2).trans rfl, (blk_cell BK201.out 3).trans rfl⟩ (fun hHeld => ?_); refine with_tabW impl_ValidRoom.tab6 impl_ValidRoom.bits6 (fun HT_ HW_ => ?_)
 generalize w41.drew = w42 at BK198 BK201 HB hHeld ⊢
 refine pu_ 0 34 m1_ (any_of HT_.out s2_) ?_
 refine take_ (i := 1) (N := some 35) (v := ?_) (a' := ?_) m2_ rfl rfl (take_ofW HT_.out HW_.out s2_) (fun _ _ _ h => h) (Or.inl ⟨by rfl, ?_⟩) hHeld ?_ ?_
 rotate_left
 {
 rintro w' ⟨s0, s1, s2, s3⟩
 go_simp
 with_reducible rfl}
 rotate_left
 · exact p1_
 refine one_ (i := 2) (N := some 36) m3_ rfl rfl (one_of HT_.out s2_) (by decide) (fun K hK => ?_)
 refine goes_ Try.func32 s2_ rfl #[.int .i64 ((rd_T36 l0_1 x29_2).f0)] (by rfl) rfl rfl s3_ ?_
 with_reducible refine (impl_isMember.calls ((rd_T36 l0_1 x29_2).f0) false _ A19.out).mono ?_
 rintro e w' ⟨rfl, ⟨nd, rfl⟩⟩
 refine ⟨_, rfl, ?_⟩
 refine hK.out _ _ ⟨(blk_cell BK201.out 0).trans rfl, (blk_cell BK201.out 1).trans rfl, (blk_cell BK201.out 2).trans rfl, (blk_cell BK201.out 3).trans rfl⟩ (fun hHeld => ?_)
 clear hK K
 refine norm_ (a' := ?_) ?_ ?_
 rotate_left
 {
 show Act.put _ (some 36) _ = _
 simp only [Act.put, List.setIfInBounds_toArray, List.set_cons_zero, List.set_cons_succ, i64_w, i32_w]
 rfl}
 refine pu_ 3 37 m4_ (any_of HT_.out s2_) ?_
 refine pu_ 4 38 m5_ (any_of HT_.out s2_) ?_
 refine pn_ 5 39 m6_ (any_of HT_.out s2_) ?_
 refine pn_ 6 40 m7_ (any_of HT_.out s2_) ?_
 refine pn_ 7 41 m8_ (any_of HT_.out s2_) ?_
 refine pn_ 8 42 m9_ (any_of HT_.out s2_) ?_
 refine pu_ 9 43 m10_ (any_of HT_.out s2_) ?_
 refine pu_ 10 44 m11_ (any_of HT_.out s2_) ?_
 refine pn_ 11 45 m12_ (any_of HT_.out s2_) ?_
 refine pn_ 12 46 m13_ (any_of HT_.out s2_) ?_
 refine pn_ 13 47 m14_ (any_of HT_.out s2_) ?_
 refine pn_ 14 48 m15_ (any_of HT_.out s2_) ?_
 refine pu_ 15 49 m16_ (any_of HT_.out s2_) ?_
 refine pu_ 16 50 m17_ (any_of HT_.out s2_) ?_
 refine pn_ 17 51 m18_ (any_of HT_.out s2_) ?_
 refine pn_ 18 52 m19_ (any_of HT_.out s2_) ?_
 refine pn_ 19 53 m20_ (any_of HT_.out s2_) ?_
 refine pn_ 20 54 m21_ (any_of HT_.out s2_) ?_
 refine pu_ 21 55 m22_ (any_of HT_.out s2_) ?_
 refine pu_ 22 56 m23_ (any_of HT_.out s2_) ?_
 refine pn_ 23 57 m24_ (any_of HT_.out s2_) ?_
 refine pn_ 24 58 m25_ (any_of HT_.out s2_) ?_
 refine pn_ 25 59 m26_ (any_of HT_.out s2_) ?_
 refine pn_ 26 60 m27_ (any_of HT_.out s2_) ?_
 refine pn_ 27 61 m33_ (any_of HT_.out s2_) ?_
 refine pn_ 28 62 m34_ (any_of HT_.out s2_) ?_
 refine pn_ 29 63 m35_ (any_of HT_.out s2_) ?_
 refine pn_ 30 64 m36_ (any_of HT_.out s2_) ?_
 refine pn_ 31 65 m37_ (any_of HT_.out s2_) ?_
 refine pn_ 32 66 m38_ (any_of HT_.out s2_) ?_
 refine pn_ 33 67 m28_ (any_of HT_.out s2_) ?_
 refine pn_ 34 68 m29_ (any_of HT_.out s2_) ?_
 refine pn_ 35 69 m30_ (any_of HT_.out s2_) ?_
 refine pn_ 36 70 m31_ (any_of HT_.out s2_) ?_
 refine pu_ 37 71 m32_ (any_of HT_.out s2_) ?_
 refine done_ (done_of HT_.out s2_) ?_
 try go_wp2
 go_meet
 case rel => exact ⟨_, (true), s1_, H', ⟨by have := HJ1.out; have := HK2.out; first | omega | exact Nat.le_refl _⟩, ⟨b1_ BK198.out⟩, ⟨b1_ BK201.out⟩, ⟨by repeat (first | (with_reducible first | exact HB.out | apply below_alloc | apply pw_below_drewN | apply below_drew1 | refine below_set ?_ GE198.out | refine below_set ?_ GE201.out) | exact HB.out)⟩⟩}}
 case rest =>
  skip
  {
 clear HC15
 try clear c2
 try clear p2
 try clear c3
 try clear c20
 try clear c22
 try clear c32
 try clear c33
 obtain ⟨kq, x71_14, rfl, HA, HJ14, BK198, BK201, HB⟩ := hcut
 cases kq with
 | zero => exact absurd HA.out (by simp [impl_ValidRoom.j2])
 | succ kj14 =>
  skip
  {
 have H := HA.out
 clear HA
 simp only [impl_ValidRoom.j2] at H
 by_cases c43 : x71_14 = true
 {
 subst c43
 have H1 : (some false) = some r := by rw [if_pos rfl] at H; exact H
 clear H
 have H := H1
 clear H1
 obtain rfl := Option.some.inj H
 go_wp2
 go_ret
 exact ⟨by first | rfl | (simp [errW_none, errW_some] <;> rfl) | (simp [*, errW_none, errW_some] <;> rfl), by repeat (first | (with_reducible first | exact HB.out | apply below_alloc | apply pw_below_drewN | apply below_drew1 | refine below_set ?_ GE198.out | refine below_set ?_ GE201.out) | exact HB.out)⟩}
 {
 replace c43 := Bool.eq_false_iff.mpr c43
 subst c43
 have H1 : (impl_ValidRoom.l0 kj14 l0_1 (l0_1.length : Int) (wrap64 (x29_2 + 1)) a0_0 l0_1 l0_2 l0_3) = some r := by rw [if_neg (show ¬ (false = true) by decide)] at H; exact H
 clear H
 have H := H1
 clear H1
 have H' := Aside0.mk H
 clear H
 go_wp2
 go_roundg kj14
 case measure => have := HJ1.out; have := HK2.out; have := HJ14.out; omega
 case rel => exact ⟨(wrap64 (x29_2 + 1)), s1_, H', ⟨by have := HJ1.out; have := HK2.out; have := HJ14.out; omega⟩, ⟨b1_ BK198.out⟩, ⟨by repeat (first | (with_reducible first | exact HB.out | apply below_alloc | apply pw_below_drewN | apply below_drew1 | refine below_set ?_ GE198.out | refine below_set ?_ GE201.out) | exact HB.out)⟩⟩}}}}
 {
 rw [if_neg c14] at H
 exact absurd H (by simp)}}
 {
 rw [if_neg c13] at H
 exact absurd H (by simp)}}
 {
 rw [if_neg c12] at H
 have c12b0 : decide (x29_2 < (l0_1.length : Int)) = false := decide_eq_false c12
 clear c12
 have H' := Aside0.mk H
 clear H
 have hcz44_0 : wr.cell? ⟨gb198, 0, none⟩ = some (.bool a0_0) := (blk_cell BK198.out 0).trans rfl
 have hcz44_1 : wr.cell? ⟨gb198, 1, none⟩ = some (.slice A0_1 l0_1.length c0_1) := (blk_cell BK198.out 1).trans rfl
 have hcz44_2 : wr.cell? ⟨gb198, 2, none⟩ = some (.slice A0_2 l0_2.length c0_2) := (blk_cell BK198.out 2).trans rfl
 have hcz44_3 : wr.cell? ⟨gb198, 3, none⟩ = some (.slice A0_3 l0_3.length c0_3) := (blk_cell BK198.out 3).trans rfl
 have hfz44_0 := blk_frozen BK198.out 0
 have hfz44_1 := blk_frozen BK198.out 1
 have hfz44_2 := blk_frozen BK198.out 2
 have hfz44_3 := blk_frozen BK198.out 3
 go_wp2
 go_loopg [76] k2 (fun kq v76 w' => ∃ (x76_3 : Int), v76 = .int .i64 x76_3 ∧ Aside0 (impl_ValidRoom.l1 kq l0_2 (l0_2.length : Int) x76_3 a0_0 l0_1 l0_2 l0_3 = some r) ∧ Aside0 (kq ≤ k2) ∧ Aside0 (w'.heap[gb198]? = some (.cells #[.bool a0_0, (.slice A0_1 l0_1.length c0_1), (.slice A0_2 l0_2.length c0_2), (.slice A0_3 l0_3.length c0_3)] 28 (0, 0))) ∧ Aside0 (Below w.heap.size w w'))
 case atStart => exact ⟨(0), s1_, H', ⟨Nat.le_refl _⟩, ⟨b1_ BK198.out⟩, ⟨by repeat (first | (with_reducible first | exact HB.out | apply below_alloc | apply pw_below_drewN | apply below_drew1 | refine below_set ?_ GE198.out) | exact HB.out)⟩⟩
 case round =>
  skip
  {
 clear H'
 try clear c1
 try clear c2
 try clear p2
 try clear c3
 try clear c4
 try clear p6
 try clear c12
 try clear c12b0
 try clear c13
 try clear c14
 try clear c20
 try clear c22
 try clear c32
 try clear c33
 try clear c43
 try clear hcz44_0
 try clear hcz44_1
 try clear hcz44_2
 try clear hcz44_3
 try clear hfz44_0
 try clear hfz44_1
 try clear hfz44_2
 try clear hfz44_3
 try clear p2
 obtain ⟨x76_3, rfl, HA, HK3, BK198, HB⟩ := hrel
 cases gk with
 | zero => exact absurd HA.out (by simp [impl_ValidRoom.l1])
 | succ k3 =>
  skip
  {
 have H := HA.out
 clear HA
 simp only [impl_ValidRoom.l1] at H
 by_cases c45 : x76_3 < (l0_2.length : Int)
 {
 rw [if_pos c45] at H
 have c45b0 : decide (x76_3 < (l0_2.length : Int)) = true := decide_eq_true c45
 clear c45
 by_cases c46 : 0 ≤ x76_3
 {
 rw [if_pos c46] at H
 have c46b0 : decide (0 ≤ x76_3) = true := decide_eq_true c46
 clear c46
 by_cases c47 : x76_3 < (l0_2.length : Int)
 {
 rw [if_pos c47] at H
 have c47b0 : decide (x76_3 < (l0_2.length : Int)) = true := decide_eq_true c47
 clear c47
 have HC48 := Aside0.mk H
 clear H
 have p207 : 0 ≤ (x76_3 : Int) := of_decide_eq_true (by first | (with_reducible assumption) | assumption)
 have q207 : x76_3 < (l0_2.length : Int) := of_decide_eq_true (by first | (with_reducible assumption) | assumption)
 obtain ⟨ad207, e207, hx207_0, hx207_1, hx207_2⟩ := at_T71 HR0_2.out x76_3 p207 q207
 cases e207
 replace hx207_0 := (HB.out.cell (World.block_lt_of_cell? w _ hx207_0)).trans hx207_0
 replace hx207_1 := (HB.out.cell (World.block_lt_of_cell? w _ hx207_1)).trans hx207_1
 replace hx207_2 := (HB.out.cell (World.block_lt_of_cell? w _ hx207_2)).trans hx207_2
 replace p207 := eq_true p207
 replace q207 := eq_true q207
 go_upto_region 12 with (first | ((with_reducible refine gate_dst (N := 6) rfl ?_); (try (refine gate_guard (by rfl) ?_; dsimp only)); refine box_event ?hg (N := 6) ?hd (cs := #[.int .i64 0, .int .i64 0, .int .i64 0]) (t := 71) ?hr ?_; (case hd => rfl); (case hg => rfl); (case hr => first | (go_simp; done) | (go_simp; rfl)); intro gb208 hg w49 hbox hb; have n0_ := Aside0.mk (blk_below (g := gb198) (o := .cells #[.bool a0_0, .slice A0_1 l0_1.length c0_1, .slice (some ad207) l0_2.length c0_2, .slice A0_3 l0_3.length c0_3] 28 (0, 0)) (b1_ BK198.out) hb); have n1_ := Aside0.mk (below_step (by repeat (first | (with_reducible first | exact HB.out | apply below_alloc | apply pw_below_drewN | apply below_drew1 | refine below_set ?_ GE198.out) | exact HB.out)) hb); have n2_ := Aside0.mk (hbox); have n3_ := Aside0.mk ((by rw [hg]; exact (below_size (by repeat (first | (with_reducible first | exact HB.out | apply below_alloc | apply pw_below_drewN | apply below_drew1 | refine below_set ?_ GE198.out) | exact HB.out))) : w.heap.size ≤ gb208)); have n4_ := Aside0.mk ((by rw [hg]; exact (below_size (by repeat (first | (with_reducible first | exact HB.out | apply below_alloc | apply pw_below_drewN | apply below_drew1 | refine below_set ?_ GE198.out) | exact HB.out))) : w.heap.size ≤ gb208)); have n5_ := Aside0.mk ((by rw [hg]; exact Nat.ne_of_lt (blk_lt (g := gb198) (o := .cells #[.bool a0_0, .slice A0_1 l0_1.length c0_1, .slice (some ad207) l0_2.length c0_2, .slice A0_3 l0_3.length c0_3] 28 (0, 0)) (b1_ BK198.out)) : gb198 ≠ gb208)); have n6_ := Aside0.mk ((by rw [hg]; exact Nat.ne_of_gt (blk_lt (g := gb198) (o := .cells #[.bool a0_0, .slice A0_1 l0_1.length c0_1, .slice (some ad207) l0_2.length c0_2, .slice A0_3 l0_3.length c0_3] 28 (0, 0)) (b1_ BK198.out)) : gb208 ≠ gb198)); clear BK198; clear HB; have BK198 := n0_; have HB := n1_; have BK208 := n2_; have GW208 := n3_; have GE208 := n4_; have NB198_208 := n5_; have NB208_198 := n6_; clear n0_ n1_ n2_ n3_ n4_ n5_ n6_; clear hb hbox hg; have hnb50 := NB208_198.out; have hnc50 := NB198_208.out; have hcz51_0 : w49.cell? ⟨gb208, 0, none⟩ = some (.int .i64 0) := (blk_cell BK208.out 0).trans rfl; have hcz51_1 : w49.cell? ⟨gb208, 1, none⟩ = some (.int .i64 0) := (blk_cell BK208.out 1).trans rfl; have hcz51_2 : w49.cell? ⟨gb208, 2, none⟩ = some (.int .i64 0) := (blk_cell BK208.out 2).trans rfl; have hfz51_0 := blk_frozen BK208.out 0; have hfz51_1 := blk_frozen BK208.out 1; have hfz51_2 := blk_frozen BK208.out 2))
 (try simp only [Act.put, List.setIfInBounds_toArray, List.set_cons_zero, List.set_cons_succ])
 go_cut [117] (fun v117 wc => ∃ (kq : Nat) (x117_47 : Bool), v117 = .bool x117_47 ∧ Aside0 (impl_ValidRoom.j4 kq l0_2 (l0_2.length : Int) x76_3 x117_47 a0_0 l0_1 l0_2 l0_3 = some r) ∧ Aside0 (kq ≤ k3) ∧ Aside0 (wc.heap[gb198]? = some (.cells #[.bool a0_0, (.slice A0_1 l0_1.length c0_1), (.slice (some ad207) l0_2.length c0_2), (.slice A0_3 l0_3.length c0_3)] 28 (0, 0))) ∧ Aside0 (wc.heap[gb208]? = some (.cells #[.int .i64 ((rd_T71 l0_2 x76_3).f0), .int .i64 ((rd_T71 l0_2 x76_3).f1), .int .i64 ((rd_T71 l0_2 x76_3).f2)] 71 (0, 0))) ∧ Aside0 (Below w.heap.size w wc))
 case first =>
  as_aux_lemma =>
   skip
   {
 have H := HC48.out
 clear HC48
 replace H := Option.bind_eq_some_iff.mp H
 obtain ⟨t209, A520, H⟩ := H
 replace H : (if t209 = true then ((impl_isMember.f ((rd_T71 l0_2 x76_3).f1)).bind fun t210 => (if t210 = true then ((impl_isTick.f ((rd_T71 l0_2 x76_3).f2)).bind fun t211 => (if t211 = true then ((impl_Room_has.f k3 a0_0 l0_1 l0_2 l0_3 ((rd_T71 l0_2 x76_3).f0)).bind fun t212 => (if t212 = true then (impl_ValidRoom.j4 k3 l0_2 (l0_2.length : Int) x76_3 true a0_0 l0_1 l0_2 l0_3) else (if x76_3 > 0 then (if 0 ≤ (wrap64 (x76_3 - 1)) then (if (wrap64 (x76_3 - 1)) < (l0_2.length : Int) then (impl_ValidRoom.j4 k3 l0_2 (l0_2.length : Int) x76_3 (decide (((rd_T71 l0_2 (wrap64 (x76_3 - 1))).f0) ≥ ((rd_T71 l0_2 x76_3).f0))) a0_0 l0_1 l0_2 l0_3) else (none)) else (none)) else (impl_ValidRoom.j4 k3 l0_2 (l0_2.length : Int) x76_3 false a0_0 l0_1 l0_2 l0_3)))) else (impl_ValidRoom.j4 k3 l0_2 (l0_2.length : Int) x76_3 true a0_0 l0_1 l0_2 l0_3))) else (impl_ValidRoom.j4 k3 l0_2 (l0_2.length : Int) x76_3 true a0_0 l0_1 l0_2 l0_3))) else (impl_ValidRoom.j4 k3 l0_2 (l0_2.length : Int) x76_3 true a0_0 l0_1 l0_2 l0_3)) = some r := H
 have A52 := Aside0.mk A520
 clear A520
 by_cases c53 : t209 = true
 {
 subst c53
 have H1 : ((impl_isMember.f ((rd_T71 l0_2 x76_3).f1)).bind fun t210 => (if t210 = true then ((impl_isTick.f ((rd_T71 l0_2 x76_3).f2)).bind fun t211 => (if t211 = true then ((impl_Room_has.f k3 a0_0 l0_1 l0_2 l0_3 ((rd_T71 l0_2 x76_3).f0)).bind fun t212 => (if t212 = true then (impl_ValidRoom.j4 k3 l0_2 (l0_2.length : Int) x76_3 true a0_0 l0_1 l0_2 l0_3) else (if x76_3 > 0 then (if 0 ≤ (wrap64 (x76_3 - 1)) then (if (wrap64 (x76_3 - 1)) < (l0_2.length : Int) then (impl_ValidRoom.j4 k3 l0_2 (l0_2.length : Int) x76_3 (decide (((rd_T71 l0_2 (wrap64 (x76_3 - 1))).f0) ≥ ((rd_T71 l0_2 x76_3).f0))) a0_0 l0_1 l0_2 l0_3) else (none)) else (none)) else (impl_ValidRoom.j4 k3 l0_2 (l0_2.length : Int) x76_3 false a0_0 l0_1 l0_2 l0_3)))) else (impl_ValidRoom.j4 k3 l0_2 (l0_2.length : Int) x76_3 true a0_0 l0_1 l0_2 l0_3))) else (impl_ValidRoom.j4 k3 l0_2 (l0_2.length : Int) x76_3 true a0_0 l0_1 l0_2 l0_3))) = some r := by rw [if_pos rfl] at H; exact H
 clear H
 have H := H1
 clear H1
 replace H := Option.bind_eq_some_iff.mp H
 obtain ⟨t210, A540, H⟩ := H
 replace H : (if t210 = true then ((impl_isTick.f ((rd_T71 l0_2 x76_3).f2)).bind fun t211 => (if t211 = true then ((impl_Room_has.f k3 a0_0 l0_1 l0_2 l0_3 ((rd_T71 l0_2 x76_3).f0)).bind fun t212 => (if t212 = true then (impl_ValidRoom.j4 k3 l0_2 (l0_2.length : Int) x76_3 true a0_0 l0_1 l0_2 l0_3) else (if x76_3 > 0 then (if 0 ≤ (wrap64 (x76_3 - 1)) then (if (wrap64 (x76_3 - 1)) < (l0_2.length : Int) then (impl_ValidRoom.j4 k3 l0_2 (l0_2.length : Int) x76_3 (decide (((rd_T71 l0_2 (wrap64 (x76_3 - 1))).f0) ≥ ((rd_T71 l0_2 x76_3).f0))) a0_0 l0_1 l0_2 l0_3) else (none)) else (none)) else (impl_ValidRoom.j4 k3 l0_2 (l0_2.length : Int) x76_3 false a0_0 l0_1 l0_2 l0_3)))) else (impl_ValidRoom.j4 k3 l0_2 (l0_2.length : Int) x76_3 true a0_0 l0_1 l0_2 l0_3))) else (impl_ValidRoom.j4 k3 l0_2 (l0_2.length : Int) x76_3 true a0_0 l0_1 l0_2 l0_3)) = some r := H
 have A54 := Aside0.mk A540
 clear A540
 by_cases c55 : t210 = true
 {
 subst c55
 have H1 : ((impl_isTick.f ((rd_T71 l0_2 x76_3).f2)).bind fun t211 => (if t211 = true then ((impl_Room_has.f k3 a0_0 l0_1 l0_2 l0_3 ((rd_T71 l0_2 x76_3).f0)).bind fun t212 => (if t212 = true then (impl_ValidRoom.j4 k3 l0_2 (l0_2.length : Int) x76_3 true a0_0 l0_1 l0_2 l0_3) else (if x76_3 > 0 then (if 0 ≤ (wrap64 (x76_3 - 1)) then (if (wrap64 (x76_3 - 1)) < (l0_2.length : Int) then (impl_ValidRoom.j4 k3 l0_2 (l0_2.length : Int) x76_3 (decide (((rd_T71 l0_2 (wrap64 (x76_3 - 1))).f0) ≥ ((rd_T71 l0_2 x76_3).f0))) a0_0 l0_1 l0_2 l0_3) else (none)) else (none)) else (impl_ValidRoom.j4 k3 l0_2 (l0_2.length : Int) x76_3 false a0_0 l0_1 l0_2 l0_3)))) else (impl_ValidRoom.j4 k3 l0_2 (l0_2.length : Int) x76_3 true a0_0 l0_1 l0_2 l0_3))) = some r := by rw [if_pos rfl] at H; exact H
 clear H
 have H := H1
 clear H1
 replace H := Option.bind_eq_some_iff.mp H
 obtain ⟨t211, A560, H⟩ := H
 replace H : (if t211 = true then ((impl_Room_has.f k3 a0_0 l0_1 l0_2 l0_3 ((rd_T71 l0_2 x76_3).f0)).bind fun t212 => (if t212 = true then (impl_ValidRoom.j4 k3 l0_2 (l0_2.length : Int) x76_3 true a0_0 l0_1 l0_2 l0_3) else (if x76_3 > 0 then (if 0 ≤ (wrap64 (x76_3 - 1)) then (if (wrap64 (x76_3 - 1)) < (l0_2.length : Int) then (impl_ValidRoom.j4 k3 l0_2 (l0_2.length : Int) x76_3 (decide (((rd_T71 l0_2 (wrap64 (x76_3 - 1))).f0) ≥ ((rd_T71 l0_2 x76_3).f0))) a0_0 l0_1 l0_2 l0_3) else (none)) else (none)) else (impl_ValidRoom.j4 k3 l0_2 (l0_2.length : Int) x76_3 false a0_0 l0_1 l0_2 l0_3)))) else (impl_ValidRoom.j4 k3 l0_2 (l0_2.length : Int) x76_3 true a0_0 l0_1 l0_2 l0_3)) = some r := H
 have A56 := Aside0.mk A560
 clear A560
 by_cases c57 : t211 = true
 {
 subst c57
 have H1 : ((impl_Room_has.f k3 a0_0 l0_1 l0_2 l0_3 ((rd_T71 l0_2 x76_3).f0)).bind fun t212 => (if t212 = true then (impl_ValidRoom.j4 k3 l0_2 (l0_2.length : Int) x76_3 true a0_0 l0_1 l0_2 l0_3) else (if x76_3 > 0 then (if 0 ≤ (wrap64 (x76_3 - 1)) then (if (wrap64 (x76_3 - 1)) < (l0_2.length : Int) then (impl_ValidRoom.j4 k3 l0_2 (l0_2.length : Int) x76_3 (decide (((rd_T71 l0_2 (wrap64 (x76_3 - 1))).f0) ≥ ((rd_T71 l0_2 x76_3).f0))) a0_0 l0_1 l0_2 l0_3) else (none)) else (none)) else (impl_ValidRoom.j4 k3 l0_2 (l0_2.length : Int) x76_3 false a0_0 l0_1 l0_2 l0_3)))) = some r := by rw [if_pos rfl] at H; exact H
 clear H
 have H := H1
 clear H1
 replace H := Option.bind_eq_some_iff.mp H
 obtain ⟨t212, A580, H⟩ := H
 replace H : (if t212 = true then (impl_ValidRoom.j4 k3 l0_2 (l0_2.length : Int) x76_3 true a0_0 l0_1 l0_2 l0_3) else (if x76_3 > 0 then (if 0 ≤ (wrap64 (x76_3 - 1)) then (if (wrap64 (x76_3 - 1)) < (l0_2.length : Int) then (impl_ValidRoom.j4 k3 l0_2 (l0_2.length : Int) x76_3 (decide (((rd_T71 l0_2 (wrap64 (x76_3 - 1))).f0) ≥ ((rd_T71 l0_2 x76_3).f0))) a0_0 l0_1 l0_2 l0_3) else (none)) else (none)) else (impl_ValidRoom.j4 k3 l0_2 (l0_2.length : Int) x76_3 false a0_0 l0_1 l0_2 l0_3))) = some r := H
 have A58 := Aside0.mk A580
 clear A580
 by_cases c59 : t212 = true
 {
 subst c59
 have H1 : (impl_ValidRoom.j4 k3 l0_2 (l0_2.length : Int) x76_3 true a0_0 l0_1 l0_2 l0_3) = some r := by rw [if_pos rfl] at H; exact H
 clear H
 have H := H1
 clear H1
 have H' := Aside0.mk H
 clear H
 try go_wp2
 have n0_ : Aside0 ((((w49.setCell ⟨gb208, 0, none⟩ (.int .i64 ((rd_T71 l0_2 x76_3).f0))).setCell ⟨gb208, 1, none⟩ (.int .i64 ((rd_T71 l0_2 x76_3).f1))).setCell ⟨gb208, 2, none⟩ (.int .i64 ((rd_T71 l0_2 x76_3).f2))).heap[gb198]? = some (.cells #[.bool a0_0, .slice A0_1 l0_1.length c0_1, .slice (some ad207) l0_2.length c0_2, .slice A0_3 l0_3.length c0_3] 28 (0, 0))) := ⟨by (with_reducible repeat (first | refine blk_drewN ?_ _ | refine blk_drew ?_ | refine blk_alloc ?_ _)); refine blk_far ?_ NB198_208.out _; (with_reducible repeat (first | refine blk_drewN ?_ _ | refine blk_drew ?_ | refine blk_alloc ?_ _)); refine blk_far ?_ NB198_208.out _; (with_reducible repeat (first | refine blk_drewN ?_ _ | refine blk_drew ?_ | refine blk_alloc ?_ _)); refine blk_far ?_ NB198_208.out _; (with_reducible repeat (first | refine blk_drewN ?_ _ | refine blk_drew ?_ | refine blk_alloc ?_ _)); exact BK198.out⟩
 have n1_ : Aside0 ((((w49.setCell ⟨gb208, 0, none⟩ (.int .i64 ((rd_T71 l0_2 x76_3).f0))).setCell ⟨gb208, 1, none⟩ (.int .i64 ((rd_T71 l0_2 x76_3).f1))).setCell ⟨gb208, 2, none⟩ (.int .i64 ((rd_T71 l0_2 x76_3).f2))).heap[gb208]? = some (.cells #[.int .i64 ((rd_T71 l0_2 x76_3).f0), .int .i64 ((rd_T71 l0_2 x76_3).f1), .int .i64 ((rd_T71 l0_2 x76_3).f2)] 71 (0, 0))) := ⟨by (with_reducible repeat (first | refine blk_drewN ?_ _ | refine blk_drew ?_ | refine blk_alloc ?_ _)); refine blk_put (cs := #[.int .i64 ((rd_T71 l0_2 x76_3).f0), .int .i64 ((rd_T71 l0_2 x76_3).f1), .int .i64 0]) ?_ 2 _ rfl; (with_reducible repeat (first | refine blk_drewN ?_ _ | refine blk_drew ?_ | refine blk_alloc ?_ _)); refine blk_put (cs := #[.int .i64 ((rd_T71 l0_2 x76_3).f0), .int .i64 0, .int .i64 0]) ?_ 1 _ rfl; (with_reducible repeat (first | refine blk_drewN ?_ _ | refine blk_drew ?_ | refine blk_alloc ?_ _)); refine blk_put (cs := #[.int .i64 0, .int .i64 0, .int .i64 0]) ?_ 0 _ rfl; (with_reducible repeat (first | refine blk_drewN ?_ _ | refine blk_drew ?_ | refine blk_alloc ?_ _)); exact BK208.out⟩
 have n2_ : Aside0 (Below w.heap.size w (((w49.setCell ⟨gb208, 0, none⟩ (.int .i64 ((rd_T71 l0_2 x76_3).f0))).setCell ⟨gb208, 1, none⟩ (.int .i64 ((rd_T71 l0_2 x76_3).f1))).setCell ⟨gb208, 2, none⟩ (.int .i64 ((rd_T71 l0_2 x76_3).f2)))) := ⟨by repeat (first | (with_reducible first | exact HB.out | apply below_alloc | apply pw_below_drewN | apply below_drew1 | refine below_set ?_ GE198.out | refine below_set ?_ GE208.out) | exact HB.out)⟩
 (try clear BK198)
 (try clear BK208)
 (try clear HB)
 generalize (((w49.setCell ⟨gb208, 0, none⟩ (.int .i64 ((rd_T71 l0_2 x76_3).f0))).setCell ⟨gb208, 1, none⟩ (.int .i64 ((rd_T71 l0_2 x76_3).f1))).setCell ⟨gb208, 2, none⟩ (.int .i64 ((rd_T71 l0_2 x76_3).f2))) = w60 at n0_ n1_ n2_ ⊢
 have BK198 := n0_
 have BK208 := n1_
 have HB := n2_
 clear n0_ n1_ n2_
 have n0_ := Aside0.mk (blk_drew BK198.out)
 have n1_ := Aside0.mk (blk_drew BK208.out)
 have n2_ := Aside0.mk (below_drew1 HB.out)
 clear BK198
 clear BK208
 clear HB
 have BK198 := n0_
 have BK208 := n1_
 have HB := n2_
 clear n0_ n1_ n2_
 refine start_ (n := 37) (S := fun w' => w'.cell? ⟨gb208, 0, none⟩ = some (.int .i64 ((rd_T71 l0_2 x76_3).f0)) ∧ w'.cell? ⟨gb208, 1, none⟩ = some (.int .i64 ((rd_T71 l0_2 x76_3).f1)) ∧ w'.cell? ⟨gb208, 2, none⟩ = some (.int .i64 ((rd_T71 l0_2 x76_3).f2))) (ds := []) m39_ s2_ rfl rfl ⟨(blk_cell BK208.out 0).trans rfl, (blk_cell BK208.out 1).trans rfl, (blk_cell BK208.out 2).trans rfl⟩ (fun hHeld => ?_); refine with_tabW impl_ValidRoom.tab12 impl_ValidRoom.bits12 (fun HT_ HW_ => ?_)
 generalize w60.drew = w61 at BK198 BK208 HB hHeld ⊢
 refine pu_ 0 81 m40_ (any_of HT_.out s2_) ?_
 refine take_ (i := 1) (N := some 82) (v := ?_) (a' := ?_) m41_ rfl rfl (take_ofW HT_.out HW_.out s2_) (fun _ _ _ h => h) (Or.inl ⟨by rfl, ?_⟩) hHeld ?_ ?_
 rotate_left
 {
 rintro w' ⟨s0, s1, s2⟩
 go_simp
 with_reducible rfl}
 rotate_left
 · exact p1_
 refine one_ (i := 2) (N := some 83) m42_ rfl rfl (one_of HT_.out s2_) (by decide) (fun K hK => ?_)
 refine goes_ Try.func32 s2_ rfl #[.int .i64 ((rd_T71 l0_2 x76_3).f0)] (by rfl) rfl rfl s3_ ?_
 with_reducible refine (impl_isMember.calls ((rd_T71 l0_2 x76_3).f0) true _ A52.out).mono ?_
 rintro e w' ⟨rfl, ⟨nd, rfl⟩⟩
 refine ⟨_, rfl, ?_⟩
 refine hK.out _ _ ⟨(blk_cell BK208.out 0).trans rfl, (blk_cell BK208.out 1).trans rfl, (blk_cell BK208.out 2).trans rfl⟩ (fun hHeld => ?_)
 clear hK K
 refine norm_ (a' := ?_) ?_ ?_
 rotate_left
 {
 show Act.put _ (some 83) _ = _
 simp only [Act.put, List.setIfInBounds_toArray, List.set_cons_zero, List.set_cons_succ, i64_w, i32_w]
 rfl}
 refine pu_ 3 84 m43_ (any_of HT_.out s2_) ?_
 refine pu_ 4 85 m44_ (any_of HT_.out s2_) ?_
 refine pu_ 5 86 m45_ (any_of HT_.out s2_) ?_
 refine take_ (i := 6) (N := some 87) (v := ?_) (a' := ?_) m46_ rfl rfl (take_ofW HT_.out HW_.out s2_) (fun _ _ _ h => h) (Or.inl ⟨by rfl, ?_⟩) hHeld ?_ ?_
 rotate_left
 {
 rintro w' ⟨s0, s1, s2⟩
 go_simp
 with_reducible rfl}
 rotate_left
 · exact p1_
 refine one_ (i := 7) (N := some 88) m47_ rfl rfl (one_of HT_.out s2_) (by decide) (fun K hK => ?_)
 refine goes_ Try.func32 s2_ rfl #[.int .i64 ((rd_T71 l0_2 x76_3).f1)] (by rfl) rfl rfl s3_ ?_
 with_reducible refine (impl_isMember.calls ((rd_T71 l0_2 x76_3).f1) true _ A54.out).mono ?_
 rintro e w' ⟨rfl, ⟨nd, rfl⟩⟩
 refine ⟨_, rfl, ?_⟩
 refine hK.out _ _ ⟨(blk_cell BK208.out 0).trans rfl, (blk_cell BK208.out 1).trans rfl, (blk_cell BK208.out 2).trans rfl⟩ (fun hHeld => ?_)
 clear hK K
 refine norm_ (a' := ?_) ?_ ?_
 rotate_left
 {
 show Act.put _ (some 88) _ = _
 simp only [Act.put, List.setIfInBounds_toArray, List.set_cons_zero, List.set_cons_succ, i64_w, i32_w]
 rfl}
 refine pu_ 8 89 m48_ (any_of HT_.out s2_) ?_
 refine pu_ 9 90 m49_ (any_of HT_.out s2_) ?_
 refine pu_ 10 91 m50_ (any_of HT_.out s2_) ?_
 refine pu_ 11 92 m51_ (any_of HT_.out s2_) ?_
 refine take_ (i := 12) (N := some 93) (v := ?_) (a' := ?_) m52_ rfl rfl (take_ofW HT_.out HW_.out s2_) (fun _ _ _ h => h) (Or.inl ⟨by rfl, ?_⟩) hHeld ?_ ?_
 rotate_left
 {
 rintro w' ⟨s0, s1, s2⟩
 go_simp
 with_reducible rfl}
 rotate_left
 · exact p1_
 refine one_ (i := 13) (N := some 94) m53_ rfl rfl (one_of HT_.out s2_) (by decide) (fun K hK => ?_)
 refine goes_ Try.func34 s2_ rfl #[.int .i64 ((rd_T71 l0_2 x76_3).f2)] (by rfl) rfl rfl s3_ ?_
 with_reducible refine (impl_isTick.calls ((rd_T71 l0_2 x76_3).f2) true _ A56.out).mono ?_
 rintro e w' ⟨rfl, ⟨nd, rfl⟩⟩
 refine ⟨_, rfl, ?_⟩
 refine hK.out _ _ ⟨(blk_cell BK208.out 0).trans rfl, (blk_cell BK208.out 1).trans rfl, (blk_cell BK208.out 2).trans rfl⟩ (fun hHeld => ?_)
 clear hK K
 refine norm_ (a' := ?_) ?_ ?_
 rotate_left
 {
 show Act.put _ (some 94) _ = _
 simp only [Act.put, List.setIfInBounds_toArray, List.set_cons_zero, List.set_cons_succ, i64_w, i32_w]
 rfl}
 refine pu_ 14 95 m54_ (any_of HT_.out s2_) ?_
 refine pu_ 15 96 m55_ (any_of HT_.out s2_) ?_
 refine pu_ 16 97 m56_ (any_of HT_.out s2_) ?_
 refine pu_ 17 98 m57_ (any_of HT_.out s2_) ?_
 refine take_ (i := 18) (N := some 99) (v := ?_) (a' := ?_) m58_ rfl rfl (take_ofW HT_.out HW_.out s2_) (fun _ _ _ h => h) (Or.inl ⟨by rfl, ?_⟩) hHeld ?_ ?_
 rotate_left
 {
 rintro w' ⟨s0, s1, s2⟩
 go_simp
 with_reducible rfl}
 rotate_left
 · exact p1_
 refine one_ (i := 19) (N := some 100) m59_ rfl rfl (one_of HT_.out s2_) (by decide) (fun K hK => ?_)
 refine goes_ Try.func35 s2_ rfl #[.pointer (some ⟨gb198, 0, none⟩), .int .i64 ((rd_T71 l0_2 x76_3).f0)] (by rfl) rfl rfl s3_ ?_
 with_reducible refine (impl_Room_has.calls k3 gb198 a0_0 A0_1 c0_1 l0_1 (some ad207) c0_2 l0_2 A0_3 c0_3 l0_3 ((rd_T71 l0_2 x76_3).f0) true _ ?side1 ?side2 ?side3 ?side4 ?side5 ?side6 ?side7 A58.out).mono ?_
 (case side1 => exact (b1_ BK198.out))
 (case side2 => repeat (first | exact (Kd.C_below HR0_1.out (by repeat (first | (with_reducible first | exact HB.out | apply below_alloc | apply pw_below_drewN | apply below_drew1 | refine below_set ?_ GE198.out | refine below_set ?_ GE208.out) | exact HB.out))) | (with_reducible refine Kd.C_alloc ?_ _) | (with_reducible refine Kd.C_drewN ?_ _) | (with_reducible refine Kd.C_drew ?_)))
 (case side3 => exact HC0_1.out)
 (case side4 => repeat (first | exact (Kd.C_below HR0_2.out (by repeat (first | (with_reducible first | exact HB.out | apply below_alloc | apply pw_below_drewN | apply below_drew1 | refine below_set ?_ GE198.out | refine below_set ?_ GE208.out) | exact HB.out))) | (with_reducible refine Kd.C_alloc ?_ _) | (with_reducible refine Kd.C_drewN ?_ _) | (with_reducible refine Kd.C_drew ?_)))
 (case side5 => exact HC0_2.out)
 (case side6 => repeat (first | exact (Kd.C_below HR0_3.out (by repeat (first | (with_reducible first | exact HB.out | apply below_alloc | apply pw_below_drewN | apply below_drew1 | refine below_set ?_ GE198.out | refine below_set ?_ GE208.out) | exact HB.out))) | (with_reducible refine Kd.C_alloc ?_ _) | (with_reducible refine Kd.C_drewN ?_ _) | (with_reducible refine Kd.C_drew ?_)))
 (case side7 => exact HC0_3.out)
 rintro e w62 ⟨rfl, hb⟩
 refine ⟨_, rfl, ?_⟩
 have n0_ := Aside0.mk (blk_below (g := gb198) (o := .cells #[.bool a0_0, .slice A0_1 l0_1.length c0_1, .slice (some ad207) l0_2.length c0_2, .slice A0_3 l0_3.length c0_3] 28 (0, 0)) (b1_ BK198.out) hb)
 have n1_ := Aside0.mk (blk_below (g := gb208) (o := .cells #[.int .i64 ((rd_T71 l0_2 x76_3).f0), .int .i64 ((rd_T71 l0_2 x76_3).f1), .int .i64 ((rd_T71 l0_2 x76_3).f2)] 71 (0, 0)) (b1_ BK208.out) hb)
 have n2_ := Aside0.mk (below_step (by repeat (first | (with_reducible first | exact HB.out | apply below_alloc | apply pw_below_drewN | apply below_drew1 | refine below_set ?_ GE198.out | refine below_set ?_ GE208.out) | exact HB.out)) hb)
 clear BK198
 clear BK208
 clear HB
 have BK198 := n0_
 have BK208 := n1_
 have HB := n2_
 clear n0_ n1_ n2_
 (try clear hb)
 (try clear hb2)
 (try clear hk)
 (try clear hi)
 refine hK.out _ _ ⟨(blk_cell BK208.out 0).trans rfl, (blk_cell BK208.out 1).trans rfl, (blk_cell BK208.out 2).trans rfl⟩ (fun hHeld => ?_)
 clear hK K
 refine norm_ (a' := ?_) ?_ ?_
 rotate_left
 {
 show Act.put _ (some 100) _ = _
 simp only [Act.put, List.setIfInBounds_toArray, List.set_cons_zero, List.set_cons_succ, i64_w, i32_w]
 rfl}
 refine pu_ 20 101 m60_ (any_of HT_.out s2_) ?_
 refine pu_ 21 102 m61_ (any_of HT_.out s2_) ?_
 refine pn_ 22 103 m62_ (any_of HT_.out s2_) ?_
 refine pn_ 23 104 m63_ (any_of HT_.out s2_) ?_
 refine pn_ 24 105 m64_ (any_of HT_.out s2_) ?_
 refine pn_ 25 106 m65_ (any_of HT_.out s2_) ?_
 refine pn_ 26 107 m66_ (any_of HT_.out s2_) ?_
 refine pn_ 27 108 m67_ (any_of HT_.out s2_) ?_
 refine pn_ 28 109 m68_ (any_of HT_.out s2_) ?_
 refine pn_ 29 110 m69_ (any_of HT_.out s2_) ?_
 refine pn_ 30 111 m70_ (any_of HT_.out s2_) ?_
 refine pn_ 31 112 m71_ (any_of HT_.out s2_) ?_
 refine pn_ 32 113 m72_ (any_of HT_.out s2_) ?_
 refine pn_ 33 114 m73_ (any_of HT_.out s2_) ?_
 refine pn_ 34 115 m74_ (any_of HT_.out s2_) ?_
 refine pn_ 35 116 m75_ (any_of HT_.out s2_) ?_
 refine pu_ 36 117 m76_ (any_of HT_.out s2_) ?_
 refine done_ (done_of HT_.out s2_) ?_
 try go_wp2
 go_meet
 case rel => exact ⟨_, (true), s1_, H', ⟨by have := HJ1.out; have := HK2.out; have := HK3.out; first | omega | exact Nat.le_refl _⟩, ⟨b1_ BK198.out⟩, ⟨b1_ BK208.out⟩, ⟨by repeat (first | (with_reducible first | exact HB.out | apply below_alloc | apply pw_below_drewN | apply below_drew1 | refine below_set ?_ GE198.out | refine below_set ?_ GE208.out) | exact HB.out)⟩⟩}
 {
 replace c59 := Bool.eq_false_iff.mpr c59
 subst c59
 have H1 : (if x76_3 > 0 then (if 0 ≤ (wrap64 (x76_3 - 1)) then (if (wrap64 (x76_3 - 1)) < (l0_2.length : Int) then (impl_ValidRoom.j4 k3 l0_2 (l0_2.length : Int) x76_3 (decide (((rd_T71 l0_2 (wrap64 (x76_3 - 1))).f0) ≥ ((rd_T71 l0_2 x76_3).f0))) a0_0 l0_1 l0_2 l0_3) else (none)) else (none)) else (impl_ValidRoom.j4 k3 l0_2 (l0_2.length : Int) x76_3 false a0_0 l0_1 l0_2 l0_3)) = some r := by rw [if_neg (show ¬ (false = true) by decide)] at H; exact H
 clear H
 have H := H1
 clear H1
 by_cases c63 : x76_3 > 0
 {
 rw [if_pos c63] at H
 have c63b0 : decide (0 < x76_3) = true := decide_eq_true c63
 clear c63
 (first | rw [c63b0] | (simp only [i64_w, i32_w]; rw [c63b0]) | skip)
 obtain ⟨ji64, hji64⟩ : ∃ j_ : Int, (wrap64 (x76_3 - 1)) = j_ := ⟨_, rfl⟩
 replace H : (if 0 ≤ (ji64) then (if (ji64) < (l0_2.length : Int) then (impl_ValidRoom.j4 k3 l0_2 (l0_2.length : Int) x76_3 (decide (((rd_T71 l0_2 (ji64)).f0) ≥ ((rd_T71 l0_2 x76_3).f0))) a0_0 l0_1 l0_2 l0_3) else (none)) else (none)) = some r := by first | (rw [hji64] at H; exact H) | (simp only [hji64] at H ⊢; exact H)
 (try rw [hji64] at A52)
 (try rw [hji64] at A54)
 (try rw [hji64] at A56)
 (try rw [hji64] at A58)
 have hji64w : (IntKind.i64.wrap (x76_3 - 1)) = ji64 := (i64_w _).trans hji64
 by_cases c65 : 0 ≤ (ji64)
 {
 rw [if_pos c65] at H
 have c65b0 : decide (0 ≤ (ji64)) = true := decide_eq_true c65
 clear c65
 by_cases c66 : (ji64) < (l0_2.length : Int)
 {
 rw [if_pos c66] at H
 have c66b0 : decide ((ji64) < (l0_2.length : Int)) = true := decide_eq_true c66
 clear c66
 have H' := Aside0.mk H
 clear H
 try go_wp2
 have n0_ : Aside0 ((((w49.setCell ⟨gb208, 0, none⟩ (.int .i64 ((rd_T71 l0_2 x76_3).f0))).setCell ⟨gb208, 1, none⟩ (.int .i64 ((rd_T71 l0_2 x76_3).f1))).setCell ⟨gb208, 2, none⟩ (.int .i64 ((rd_T71 l0_2 x76_3).f2))).heap[gb198]? = some (.cells #[.bool a0_0, .slice A0_1 l0_1.length c0_1, .slice (some ad207) l0_2.length c0_2, .slice A0_3 l0_3.length c0_3] 28 (0, 0))) := ⟨by (with_reducible repeat (first | refine blk_drewN ?_ _ | refine blk_drew ?_ | refine blk_alloc ?_ _)); refine blk_far ?_ NB198_208.out _; (with_reducible repeat (first | refine blk_drewN ?_ _ | refine blk_drew ?_ | refine blk_alloc ?_ _)); refine blk_far ?_ NB198_208.out _; (with_reducible repeat (first | refine blk_drewN ?_ _ | refine blk_drew ?_ | refine blk_alloc ?_ _)); refine blk_far ?_ NB198_208.out _; (with_reducible repeat (first | refine blk_drewN ?_ _ | refine blk_drew ?_ | refine blk_alloc ?_ _)); exact BK198.out⟩
 have n1_ : Aside0 ((((w49.setCell ⟨gb208, 0, none⟩ (.int .i64 ((rd_T71 l0_2 x76_3).f0))).setCell ⟨gb208, 1, none⟩ (.int .i64 ((rd_T71 l0_2 x76_3).f1))).setCell ⟨gb208, 2, none⟩ (.int .i64 ((rd_T71 l0_2 x76_3).f2))).heap[gb208]? = some (.cells #[.int .i64 ((rd_T71 l0_2 x76_3).f0), .int .i64 ((rd_T71 l0_2 x76_3).f1), .int .i64 ((rd_T71 l0_2 x76_3).f2)] 71 (0, 0))) := ⟨by (with_reducible repeat (first | refine blk_drewN ?_ _ | refine blk_drew ?_ | refine blk_alloc ?_ _)); refine blk_put (cs := #[.int .i64 ((rd_T71 l0_2 x76_3).f0), .int .i64 ((rd_T71 l0_2 x76_3).f1), .int .i64 0]) ?_ 2 _ rfl; (with_reducible repeat (first | refine blk_drewN ?_ _ | refine blk_drew ?_ | refine blk_alloc ?_ _)); refine blk_put (cs := #[.int .i64 ((rd_T71 l0_2 x76_3).f0), .int .i64 0, .int .i64 0]) ?_ 1 _ rfl; (with_reducible repeat (first | refine blk_drewN ?_ _ | refine blk_drew ?_ | refine blk_alloc ?_ _)); refine blk_put (cs := #[.int .i64 0, .int .i64 0, .int .i64 0]) ?_ 0 _ rfl; (with_reducible repeat (first | refine blk_drewN ?_ _ | refine blk_drew ?_ | refine blk_alloc ?_ _)); exact BK208.out⟩
 have n2_ : Aside0 (Below w.heap.size w (((w49.setCell ⟨gb208, 0, none⟩ (.int .i64 ((rd_T71 l0_2 x76_3).f0))).setCell ⟨gb208, 1, none⟩ (.int .i64 ((rd_T71 l0_2 x76_3).f1))).setCell ⟨gb208, 2, none⟩ (.int .i64 ((rd_T71 l0_2 x76_3).f2)))) := ⟨by repeat (first | (with_reducible first | exact HB.out | apply below_alloc | apply pw_below_drewN | apply below_drew1 | refine below_set ?_ GE198.out | refine below_set ?_ GE208.out) | exact HB.out)⟩
 (try clear BK198)
 (try clear BK208)
 (try clear HB)
 generalize (((w49.setCell ⟨gb208, 0, none⟩ (.int .i64 ((rd_T71 l0_2 x76_3).f0))).setCell ⟨gb208, 1, none⟩ (.int .i64 ((rd_T71 l0_2 x76_3).f1))).setCell ⟨gb208, 2, none⟩ (.int .i64 ((rd_T71 l0_2 x76_3).f2))) = w67 at n0_ n1_ n2_ ⊢
 have BK198 := n0_
 have BK208 := n1_
 have HB := n2_
 clear n0_ n1_ n2_
 have n0_ := Aside0.mk (blk_drew BK198.out)
 have n1_ := Aside0.mk (blk_drew BK208.out)
 have n2_ := Aside0.mk (below_drew1 HB.out)
 clear BK198
 clear BK208
 clear HB
 have BK198 := n0_
 have BK208 := n1_
 have HB := n2_
 clear n0_ n1_ n2_
 have p213 : 0 ≤ ((ji64) : Int) := of_decide_eq_true (by first | (with_reducible assumption) | assumption)
 have q213 : (ji64) < (l0_2.length : Int) := of_decide_eq_true (by first | (with_reducible assumption) | assumption)
 obtain ⟨ad213, e213, hx213_0, hx213_1, hx213_2⟩ := at_T71 HR0_2.out (ji64) p213 q213
 have hw213_2 := hx213_2
 have hw213_1 := hx213_1
 have hw213_0 := hx213_0
 obtain rfl : ad207 = ad213 := (by injection e213)
 replace hx213_0 := (HB.out.cell (World.block_lt_of_cell? w _ hx213_0)).trans hx213_0
 replace hx213_1 := (HB.out.cell (World.block_lt_of_cell? w _ hx213_1)).trans hx213_1
 replace hx213_2 := (HB.out.cell (World.block_lt_of_cell? w _ hx213_2)).trans hx213_2
 replace p213 := eq_true p213
 replace q213 := eq_true q213
 refine start_ (n := 37) (S := fun w' => w'.cell? ⟨gb208, 0, none⟩ = some (.int .i64 ((rd_T71 l0_2 x76_3).f0)) ∧ w'.cell? ⟨gb208, 1, none⟩ = some (.int .i64 ((rd_T71 l0_2 x76_3).f1)) ∧ w'.cell? ⟨gb208, 2, none⟩ = some (.int .i64 ((rd_T71 l0_2 x76_3).f2)) ∧ w'.cell? ⟨gb198, 0, none⟩ = some (.bool a0_0) ∧ w'.cell? ⟨gb198, 1, none⟩ = some (.slice A0_1 l0_1.length c0_1) ∧ w'.cell? ⟨gb198, 2, none⟩ = some (.slice (some ad207) l0_2.length c0_2) ∧ w'.cell? ⟨gb198, 3, none⟩ = some (.slice A0_3 l0_3.length c0_3) ∧ w'.cell? (ad207.add (((ji64)).toNat * 3)) = some (.int .i64 ((rd_T71 l0_2 (ji64)).f0)) ∧ w'.cell? ⟨(ad207.add (((ji64)).toNat * 3)).block, (ad207.add (((ji64)).toNat * 3)).off + 1, none⟩ = some (.int .i64 ((rd_T71 l0_2 (ji64)).f1)) ∧ w'.cell? ⟨(ad207.add (((ji64)).toNat * 3)).block, (ad207.add (((ji64)).toNat * 3)).off + 2, none⟩ = some (.int .i64 ((rd_T71 l0_2 (ji64)).f2))) (ds := []) m39_ s2_ rfl rfl ⟨(blk_cell BK208.out 0).trans rfl, (blk_cell BK208.out 1).trans rfl, (blk_cell BK208.out 2).trans rfl, (blk_cell BK198.out 0).trans rfl, (blk_cell BK198.out 1).trans rfl, (blk_cell BK198.out 2).trans rfl, (blk_cell BK198.out 3).trans rfl, ((HB.out.cell (World.block_lt_of_cell? w _ hw213_0)).trans hw213_0), ((HB.out.cell (World.block_lt_of_cell? w _ hw213_1)).trans hw213_1), ((HB.out.cell (World.block_lt_of_cell? w _ hw213_2)).trans hw213_2)⟩ (fun hHeld => ?_); refine with_tabW impl_ValidRoom.tab12 impl_ValidRoom.bits12 (fun HT_ HW_ => ?_)
 generalize w67.drew = w68 at BK198 BK208 HB hx213_0 hx213_1 hx213_2 hHeld ⊢
 refine pu_ 0 81 m40_ (any_of HT_.out s2_) ?_
 refine take_ (i := 1) (N := some 82) (v := ?_) (a' := ?_) m41_ rfl rfl (take_ofW HT_.out HW_.out s2_) (fun _ _ _ h => h) (Or.inl ⟨by rfl, ?_⟩) hHeld ?_ ?_
 rotate_left
 {
 rintro w' ⟨s0, s1, s2, s3, s4, s5, s6, s7, s8, s9⟩
 go_simp
 with_reducible rfl}
 rotate_left
 · exact p1_
 refine one_ (i := 2) (N := some 83) m42_ rfl rfl (one_of HT_.out s2_) (by decide) (fun K hK => ?_)
 refine goes_ Try.func32 s2_ rfl #[.int .i64 ((rd_T71 l0_2 x76_3).f0)] (by rfl) rfl rfl s3_ ?_
 with_reducible refine (impl_isMember.calls ((rd_T71 l0_2 x76_3).f0) true _ A52.out).mono ?_
 rintro e w' ⟨rfl, ⟨nd, rfl⟩⟩
 refine ⟨_, rfl, ?_⟩
 refine hK.out _ _ ⟨(blk_cell BK208.out 0).trans rfl, (blk_cell BK208.out 1).trans rfl, (blk_cell BK208.out 2).trans rfl, (blk_cell BK198.out 0).trans rfl, (blk_cell BK198.out 1).trans rfl, (blk_cell BK198.out 2).trans rfl, (blk_cell BK198.out 3).trans rfl, ((HB.out.cell (World.block_lt_of_cell? w _ hw213_0)).trans hw213_0), ((HB.out.cell (World.block_lt_of_cell? w _ hw213_1)).trans hw213_1), ((HB.out.cell (World.block_lt_of_cell? w _ hw213_2)).trans hw213_2)⟩ (fun hHeld => ?_)
 clear hK K
 refine norm_ (a' := ?_) ?_ ?_
 rotate_left
 {
 show Act.put _ (some 83) _ = _
 simp only [Act.put, List.setIfInBounds_toArray, List.set_cons_zero, List.set_cons_succ, i64_w, i32_w]
 rfl}
 refine pu_ 3 84 m43_ (any_of HT_.out s2_) ?_
 refine pu_ 4 85 m44_ (any_of HT_.out s2_) ?_
 refine pu_ 5 86 m45_ (any_of HT_.out s2_) ?_
 refine take_ (i := 6) (N := some 87) (v := ?_) (a' := ?_) m46_ rfl rfl (take_ofW HT_.out HW_.out s2_) (fun _ _ _ h => h) (Or.inl ⟨by rfl, ?_⟩) hHeld ?_ ?_
 rotate_left
 {
 rintro w' ⟨s0, s1, s2, s3, s4, s5, s6, s7, s8, s9⟩
 go_simp
 with_reducible rfl}
 rotate_left
 · exact p1_
 refine one_ (i := 7) (N := some 88) m47_ rfl rfl (one_of HT_.out s2_) (by decide) (fun K hK => ?_)
 refine goes_ Try.func32 s2_ rfl #[.int .i64 ((rd_T71 l0_2 x76_3).f1)] (by rfl) rfl rfl s3_ ?_
 with_reducible refine (impl_isMember.calls ((rd_T71 l0_2 x76_3).f1) true _ A54.out).mono ?_
 rintro e w' ⟨rfl, ⟨nd, rfl⟩⟩
 refine ⟨_, rfl, ?_⟩
 refine hK.out _ _ ⟨(blk_cell BK208.out 0).trans rfl, (blk_cell BK208.out 1).trans rfl, (blk_cell BK208.out 2).trans rfl, (blk_cell BK198.out 0).trans rfl, (blk_cell BK198.out 1).trans rfl, (blk_cell BK198.out 2).trans rfl, (blk_cell BK198.out 3).trans rfl, ((HB.out.cell (World.block_lt_of_cell? w _ hw213_0)).trans hw213_0), ((HB.out.cell (World.block_lt_of_cell? w _ hw213_1)).trans hw213_1), ((HB.out.cell (World.block_lt_of_cell? w _ hw213_2)).trans hw213_2)⟩ (fun hHeld => ?_)
 clear hK K
 refine norm_ (a' := ?_) ?_ ?_
 rotate_left
 {
 show Act.put _ (some 88) _ = _
 simp only [Act.put, List.setIfInBounds_toArray, List.set_cons_zero, List.set_cons_succ, i64_w, i32_w]
 rfl}
 refine pu_ 8 89 m48_ (any_of HT_.out s2_) ?_
 refine pu_ 9 90 m49_ (any_of HT_.out s2_) ?_
 refine pu_ 10 91 m50_ (any_of HT_.out s2_) ?_
 refine pu_ 11 92 m51_ (any_of HT_.out s2_) ?_
 refine take_ (i := 12) (N := some 93) (v := ?_) (a' := ?_) m52_ rfl rfl (take_ofW HT_.out HW_.out s2_) (fun _ _ _ h => h) (Or.inl ⟨by rfl, ?_⟩) hHeld ?_ ?_
 rotate_left
 {
 rintro w' ⟨s0, s1, s2, s3, s4, s5, s6, s7, s8, s9⟩
 go_simp
 with_reducible rfl}
 rotate_left
 · exact p1_
 refine one_ (i := 13) (N := some 94) m53_ rfl rfl (one_of HT_.out s2_) (by decide) (fun K hK => ?_)
 refine goes_ Try.func34 s2_ rfl #[.int .i64 ((rd_T71 l0_2 x76_3).f2)] (by rfl) rfl rfl s3_ ?_
 with_reducible refine (impl_isTick.calls ((rd_T71 l0_2 x76_3).f2) true _ A56.out).mono ?_
 rintro e w' ⟨rfl, ⟨nd, rfl⟩⟩
 refine ⟨_, rfl, ?_⟩
 refine hK.out _ _ ⟨(blk_cell BK208.out 0).trans rfl, (blk_cell BK208.out 1).trans rfl, (blk_cell BK208.out 2).trans rfl, (blk_cell BK198.out 0).trans rfl, (blk_cell BK198.out 1).trans rfl, (blk_cell BK198.out 2).trans rfl, (blk_cell BK198.out 3).trans rfl, ((HB.out.cell (World.block_lt_of_cell? w _ hw213_0)).trans hw213_0), ((HB.out.cell (World.block_lt_of_cell? w _ hw213_1)).trans hw213_1), ((HB.out.cell (World.block_lt_of_cell? w _ hw213_2)).trans hw213_2)⟩ (fun hHeld => ?_)
 clear hK K
 refine norm_ (a' := ?_) ?_ ?_
 rotate_left
 {
 show Act.put _ (some 94) _ = _
 simp only [Act.put, List.setIfInBounds_toArray, List.set_cons_zero, List.set_cons_succ, i64_w, i32_w]
 rfl}
 refine pu_ 14 95 m54_ (any_of HT_.out s2_) ?_
 refine pu_ 15 96 m55_ (any_of HT_.out s2_) ?_
 refine pu_ 16 97 m56_ (any_of HT_.out s2_) ?_
 refine pu_ 17 98 m57_ (any_of HT_.out s2_) ?_
 refine take_ (i := 18) (N := some 99) (v := ?_) (a' := ?_) m58_ rfl rfl (take_ofW HT_.out HW_.out s2_) (fun _ _ _ h => h) (Or.inl ⟨by rfl, ?_⟩) hHeld ?_ ?_
 rotate_left
 {
 rintro w' ⟨s0, s1, s2, s3, s4, s5, s6, s7, s8, s9⟩
 go_simp
 with_reducible rfl}
 rotate_left
 · exact p1_
 refine one_ (i := 19) (N := some 100) m59_ rfl rfl (one_of HT_.out s2_) (by decide) (fun K hK => ?_)
 refine goes_ Try.func35 s2_ rfl #[.pointer (some ⟨gb198, 0, none⟩), .int .i64 ((rd_T71 l0_2 x76_3).f0)] (by rfl) rfl rfl s3_ ?_
 with_reducible refine (impl_Room_has.calls k3 gb198 a0_0 A0_1 c0_1 l0_1 (some ad207) c0_2 l0_2 A0_3 c0_3 l0_3 ((rd_T71 l0_2 x76_3).f0) false _ ?side1 ?side2 ?side3 ?side4 ?side5 ?side6 ?side7 A58.out).mono ?_
 (case side1 => exact (b1_ BK198.out))
 (case side2 => repeat (first | exact (Kd.C_below HR0_1.out (by repeat (first | (with_reducible first | exact HB.out | apply below_alloc | apply pw_below_drewN | apply below_drew1 | refine below_set ?_ GE198.out | refine below_set ?_ GE208.out) | exact HB.out))) | (with_reducible refine Kd.C_alloc ?_ _) | (with_reducible refine Kd.C_drewN ?_ _) | (with_reducible refine Kd.C_drew ?_)))
 (case side3 => exact HC0_1.out)
 (case side4 => repeat (first | exact (Kd.C_below HR0_2.out (by repeat (first | (with_reducible first | exact HB.out | apply below_alloc | apply pw_below_drewN | apply below_drew1 | refine below_set ?_ GE198.out | refine below_set ?_ GE208.out) | exact HB.out))) | (with_reducible refine Kd.C_alloc ?_ _) | (with_reducible refine Kd.C_drewN ?_ _) | (with_reducible refine Kd.C_drew ?_)))
 (case side5 => exact HC0_2.out)
 (case side6 => repeat (first | exact (Kd.C_below HR0_3.out (by repeat (first | (with_reducible first | exact HB.out | apply below_alloc | apply pw_below_drewN | apply below_drew1 | refine below_set ?_ GE198.out | refine below_set ?_ GE208.out) | exact HB.out))) | (with_reducible refine Kd.C_alloc ?_ _) | (with_reducible refine Kd.C_drewN ?_ _) | (with_reducible refine Kd.C_drew ?_)))
 (case side7 => exact HC0_3.out)
 rintro e w69 ⟨rfl, hb⟩
 refine ⟨_, rfl, ?_⟩
 have n0_ := Aside0.mk (blk_below (g := gb198) (o := .cells #[.bool a0_0, .slice A0_1 l0_1.length c0_1, .slice (some ad207) l0_2.length c0_2, .slice A0_3 l0_3.length c0_3] 28 (0, 0)) (b1_ BK198.out) hb)
 have n1_ := Aside0.mk (blk_below (g := gb208) (o := .cells #[.int .i64 ((rd_T71 l0_2 x76_3).f0), .int .i64 ((rd_T71 l0_2 x76_3).f1), .int .i64 ((rd_T71 l0_2 x76_3).f2)] 71 (0, 0)) (b1_ BK208.out) hb)
 have n2_ := Aside0.mk (below_step (by repeat (first | (with_reducible first | exact HB.out | apply below_alloc | apply pw_below_drewN | apply below_drew1 | refine below_set ?_ GE198.out | refine below_set ?_ GE208.out) | exact HB.out)) hb)
 clear BK198
 clear BK208
 clear HB
 have BK198 := n0_
 have BK208 := n1_
 have HB := n2_
 clear n0_ n1_ n2_
 (try clear hb)
 (try clear hb2)
 (try clear hk)
 (try clear hi)
 refine hK.out _ _ ⟨(blk_cell BK208.out 0).trans rfl, (blk_cell BK208.out 1).trans rfl, (blk_cell BK208.out 2).trans rfl, (blk_cell BK198.out 0).trans rfl, (blk_cell BK198.out 1).trans rfl, (blk_cell BK198.out 2).trans rfl, (blk_cell BK198.out 3).trans rfl, ((HB.out.cell (World.block_lt_of_cell? w _ hw213_0)).trans hw213_0), ((HB.out.cell (World.block_lt_of_cell? w _ hw213_1)).trans hw213_1), ((HB.out.cell (World.block_lt_of_cell? w _ hw213_2)).trans hw213_2)⟩ (fun hHeld => ?_)
 clear hK K
 refine norm_ (a' := ?_) ?_ ?_
 rotate_left
 {
 show Act.put _ (some 100) _ = _
 simp only [Act.put, List.setIfInBounds_toArray, List.set_cons_zero, List.set_cons_succ, i64_w, i32_w]
 rfl}
 refine pu_ 20 101 m60_ (any_of HT_.out s2_) ?_
 refine pu_ 21 102 m61_ (any_of HT_.out s2_) ?_
 refine pu_ 22 103 m62_ (any_of HT_.out s2_) ?_
 refine pu_ 23 104 m63_ (any_of HT_.out s2_) ?_
 refine pu_ 24 105 m64_ (any_of HT_.out s2_) ?_
 refine pu_ 25 106 m65_ (any_of HT_.out s2_) ?_
 refine pu_ 27 108 #[T,T,T,T,T,T,T,T,T,T,T,T,T,T,T,T,T,T,T,T,T,T,T,T,T,T,F,T,F,F,F,F,F,F,F,F,F] (any_of HT_.out s2_) ?_
 refine pu_ 28 109 #[T,T,T,T,T,T,T,T,T,T,T,T,T,T,T,T,T,T,T,T,T,T,T,T,T,T,F,T,T,F,F,F,F,F,F,F,F] (any_of HT_.out s2_) ?_
 refine pu_ 32 113 #[T,T,T,T,T,T,T,T,T,T,T,T,T,T,T,T,T,T,T,T,T,T,T,T,T,T,F,T,T,F,F,F,T,F,F,F,F] (any_of HT_.out s2_) ?_
 refine take_ (i := 26) (N := some 107) (v := ?_) (a' := ?_) #[T,T,T,T,T,T,T,T,T,T,T,T,T,T,T,T,T,T,T,T,T,T,T,T,T,T,T,T,T,F,F,F,T,F,F,F,F] rfl rfl (take_ofW HT_.out HW_.out s2_) (fun _ _ _ h => h) (Or.inl ⟨by rfl, ?_⟩) hHeld ?_ ?_
 rotate_left
 {
 rintro w' ⟨s0, s1, s2, s3, s4, s5, s6, s7, s8, s9⟩
 go_simp
 with_reducible rfl}
 rotate_left
 · exact p1_
 refine pu_ 29 110 #[T,T,T,T,T,T,T,T,T,T,T,T,T,T,T,T,T,T,T,T,T,T,T,T,T,T,T,T,T,T,F,F,T,F,F,F,F] (any_of HT_.out s2_) ?_
 refine pu_ 30 111 #[T,T,T,T,T,T,T,T,T,T,T,T,T,T,T,T,T,T,T,T,T,T,T,T,T,T,T,T,T,T,T,F,T,F,F,F,F] (any_of HT_.out s2_) ?_
 refine take_ (i := 31) (N := some 112) (v := ?_) (a' := ?_) m72_ rfl rfl (take_ofW HT_.out HW_.out s2_) (fun _ _ _ h => h) (Or.inl ⟨by rfl, ?_⟩) hHeld ?_ ?_
 rotate_left
 {
 rintro w' ⟨s0, s1, s2, s3, s4, s5, s6, s7, s8, s9⟩
 go_simp
 with_reducible rfl}
 rotate_left
 · exact p1_
 refine take_ (i := 33) (N := some 114) (v := ?_) (a' := ?_) m73_ rfl rfl (take_ofW HT_.out HW_.out s2_) (fun _ _ _ h => h) (Or.inl ⟨by rfl, ?_⟩) hHeld ?_ ?_
 rotate_left
 {
 rintro w' ⟨s0, s1, s2, s3, s4, s5, s6, s7, s8, s9⟩
 go_simp
 with_reducible rfl}
 rotate_left
 · exact p1_
 refine pu_ 34 115 m74_ (any_of HT_.out s2_) ?_
 refine pu_ 35 116 m75_ (any_of HT_.out s2_) ?_
 refine pu_ 36 117 m76_ (any_of HT_.out s2_) ?_
 refine done_ (done_of HT_.out s2_) ?_
 try go_wp2
 go_meet
 case rel => exact ⟨_, (decide (((rd_T71 l0_2 (ji64)).f0) ≥ ((rd_T71 l0_2 x76_3).f0))), (by first | rfl | (simp; done) | (simp only [← hji64] <;> (first | rfl | simp)) | (simp [*]; done)), H', ⟨by have := HJ1.out; have := HK2.out; have := HK3.out; first | omega | exact Nat.le_refl _⟩, ⟨b1_ BK198.out⟩, ⟨b1_ BK208.out⟩, ⟨by repeat (first | (with_reducible first | exact HB.out | apply below_alloc | apply pw_below_drewN | apply below_drew1 | refine below_set ?_ GE198.out | refine below_set ?_ GE208.out) | exact HB.out)⟩⟩}
 {
 rw [if_neg c66] at H
 exact absurd H (by simp)}}
 {
 rw [if_neg c65] at H
 exact absurd H (by simp)}}
 {
 rw [if_neg c63] at H
 have c63b0 : decide (0 < x76_3) = false := decide_eq_false c63
 clear c63
 (first | rw [c63b0] | (simp only [i64_w, i32_w]; rw [c63b0]) | skip)
 have H' := Aside0.mk H
 clear H
 try go_wp2
 have n0_ : Aside0 ((((w49.setCell ⟨gb208, 0, none⟩ (.int .i64 ((rd_T71 l0_2 x76_3).f0))).setCell ⟨gb208, 1, none⟩ (.int .i64 ((rd_T71 l0_2 x76_3).f1))).setCell ⟨gb208, 2, none⟩ (.int .i64 ((rd_T71 l0_2 x76_3).f2))).heap[gb198]? = some (.cells #[.bool a0_0, .slice A0_1 l0_1.length c0_1, .slice (some ad207) l0_2.length c0_2, .slice A0_3 l0_3.length c0_3] 28 (0, 0))) := ⟨by (with_reducible repeat (first | refine blk_drewN ?_ _ | refine blk_drew ?_ | refine blk_alloc ?_ _)); refine blk_far ?_ NB198_208.out _; (with_reducible repeat (first | refine blk_drewN ?_ _ | refine blk_drew ?_ | refine blk_alloc ?_ _)); refine blk_far ?_ NB198_208.out _; (with_reducible repeat (first | refine blk_drewN ?_ _ | refine blk_drew ?_ | refine blk_alloc ?_ _)); refine blk_far ?_ NB198_208.out _; (with_reducible repeat (first | refine blk_drewN ?_ _ | refine blk_drew ?_ | refine blk_alloc ?_ _)); exact BK198.out⟩
 have n1_ : Aside0 ((((w49.setCell ⟨gb208, 0, none⟩ (.int .i64 ((rd_T71 l0_2 x76_3).f0))).setCell ⟨gb208, 1, none⟩ (.int .i64 ((rd_T71 l0_2 x76_3).f1))).setCell ⟨gb208, 2, none⟩ (.int .i64 ((rd_T71 l0_2 x76_3).f2))).heap[gb208]? = some (.cells #[.int .i64 ((rd_T71 l0_2 x76_3).f0), .int .i64 ((rd_T71 l0_2 x76_3).f1), .int .i64 ((rd_T71 l0_2 x76_3).f2)] 71 (0, 0))) := ⟨by (with_reducible repeat (first | refine blk_drewN ?_ _ | refine blk_drew ?_ | refine blk_alloc ?_ _)); refine blk_put (cs := #[.int .i64 ((rd_T71 l0_2 x76_3).f0), .int .i64 ((rd_T71 l0_2 x76_3).f1), .int .i64 0]) ?_ 2 _ rfl; (with_reducible repeat (first | refine blk_drewN ?_ _ | refine blk_drew ?_ | refine blk_alloc ?_ _)); refine blk_put (cs := #[.int .i64 ((rd_T71 l0_2 x76_3).f0), .int .i64 0, .int .i64 0]) ?_ 1 _ rfl; (with_reducible repeat (first | refine blk_drewN ?_ _ | refine blk_drew ?_ | refine blk_alloc ?_ _)); refine blk_put (cs := #[.int .i64 0, .int .i64 0, .int .i64 0]) ?_ 0 _ rfl; (with_reducible repeat (first | refine blk_drewN ?_ _ | refine blk_drew ?_ | refine blk_alloc ?_ _)); exact BK208.out⟩
 have n2_ : Aside0 (Below w.heap.size w (((w49.setCell ⟨gb208, 0, none⟩ (.int .i64 ((rd_T71 l0_2 x76_3).f0))).setCell ⟨gb208, 1, none⟩ (.int .i64 ((rd_T71 l0_2 x76_3).f1))).setCell ⟨gb208, 2, none⟩ (.int .i64 ((rd_T71 l0_2 x76_3).f2)))) := ⟨by repeat (first | (with_reducible first | exact HB.out | apply below_alloc | apply pw_below_drewN | apply below_drew1 | refine below_set ?_ GE198.out | refine below_set ?_ GE208.out) | exact HB.out)⟩
 (try clear BK198)
 (try clear BK208)
 (try clear HB)
 generalize (((w49.setCell ⟨gb208, 0, none⟩ (.int .i64 ((rd_T71 l0_2 x76_3).f0))).setCell ⟨gb208, 1, none⟩ (.int .i64 ((rd_T71 l0_2 x76_3).f1))).setCell ⟨gb208, 2, none⟩ (.int .i64 ((rd_T71 l0_2 x76_3).f2))) = w70 at n0_ n1_ n2_ ⊢
 have BK198 := n0_
 have BK208 := n1_
 have HB := n2_
 clear n0_ n1_ n2_
 have n0_ := Aside0.mk (blk_drew BK198.out)
 have n1_ := Aside0.mk (blk_drew BK208.out)
 have n2_ := Aside0.mk (below_drew1 HB.out)
 clear BK198
 clear BK208
 clear HB
 have BK198 := n0_
 have BK208 := n1_
 have HB := n2_
 clear n0_ n1_ n2_
 refine start_ (n := 37) (S := fun w' => w'.cell? ⟨gb208, 0, none⟩ = some (.int .i64 ((rd_T71 l0_2 x76_3).f0)) ∧ w'.cell? ⟨gb208, 1, none⟩ = some (.int .i64 ((rd_T71 l0_2 x76_3).f1)) ∧ w'.cell? ⟨gb208, 2, none⟩ = some (.int .i64 ((rd_T71 l0_2 x76_3).f2))) (ds := []) m39_ s2_ rfl rfl ⟨(blk_cell BK208.out 0).trans rfl, (blk_cell BK208.out 1).trans rfl, (blk_cell BK208.out 2).trans rfl⟩ (fun hHeld => ?_); refine with_tabW impl_ValidRoom.tab12 impl_ValidRoom.bits12 (fun HT_ HW_ => ?_)
 generalize w70.drew = w71 at BK198 BK208 HB hHeld ⊢
 refine pu_ 0 81 m40_ (any_of HT_.out s2_) ?_
 refine take_ (i := 1) (N := some 82) (v := ?_) (a' := ?_) m41_ rfl rfl (take_ofW HT_.out HW_.out s2_) (fun _ _ _ h => h) (Or.inl ⟨by rfl, ?_⟩) hHeld ?_ ?_
 rotate_left
 {
 rintro w' ⟨s0, s1, s2⟩
 go_simp
 with_reducible rfl}
 rotate_left
 · exact p1_
 refine one_ (i := 2) (N := some 83) m42_ rfl rfl (one_of HT_.out s2_) (by decide) (fun K hK => ?_)
 refine goes_ Try.func32 s2_ rfl #[.int .i64 ((rd_T71 l0_2 x76_3).f0)] (by rfl) rfl rfl s3_ ?_
 with_reducible refine (impl_isMember.calls ((rd_T71 l0_2 x76_3).f0) true _ A52.out).mono ?_
 rintro e w' ⟨rfl, ⟨nd, rfl⟩⟩
 refine ⟨_, rfl, ?_⟩
 refine hK.out _ _ ⟨(blk_cell BK208.out 0).trans rfl, (blk_cell BK208.out 1).trans rfl, (blk_cell BK208.out 2).trans rfl⟩ (fun hHeld => ?_)
 clear hK K
 refine norm_ (a' := ?_) ?_ ?_
 rotate_left
 {
 show Act.put _ (some 83) _ = _
 simp only [Act.put, List.setIfInBounds_toArray, List.set_cons_zero, List.set_cons_succ, i64_w, i32_w]
 rfl}
 refine pu_ 3 84 m43_ (any_of HT_.out s2_) ?_
 refine pu_ 4 85 m44_ (any_of HT_.out s2_) ?_
 refine pu_ 5 86 m45_ (any_of HT_.out s2_) ?_
 refine take_ (i := 6) (N := some 87) (v := ?_) (a' := ?_) m46_ rfl rfl (take_ofW HT_.out HW_.out s2_) (fun _ _ _ h => h) (Or.inl ⟨by rfl, ?_⟩) hHeld ?_ ?_
 rotate_left
 {
 rintro w' ⟨s0, s1, s2⟩
 go_simp
 with_reducible rfl}
 rotate_left
 · exact p1_
 refine one_ (i := 7) (N := some 88) m47_ rfl rfl (one_of HT_.out s2_) (by decide) (fun K hK => ?_)
 refine goes_ Try.func32 s2_ rfl #[.int .i64 ((rd_T71 l0_2 x76_3).f1)] (by rfl) rfl rfl s3_ ?_
 with_reducible refine (impl_isMember.calls ((rd_T71 l0_2 x76_3).f1) true _ A54.out).mono ?_
 rintro e w' ⟨rfl, ⟨nd, rfl⟩⟩
 refine ⟨_, rfl, ?_⟩
 refine hK.out _ _ ⟨(blk_cell BK208.out 0).trans rfl, (blk_cell BK208.out 1).trans rfl, (blk_cell BK208.out 2).trans rfl⟩ (fun hHeld => ?_)
 clear hK K
 refine norm_ (a' := ?_) ?_ ?_
 rotate_left
 {
 show Act.put _ (some 88) _ = _
 simp only [Act.put, List.setIfInBounds_toArray, List.set_cons_zero, List.set_cons_succ, i64_w, i32_w]
 rfl}
 refine pu_ 8 89 m48_ (any_of HT_.out s2_) ?_
 refine pu_ 9 90 m49_ (any_of HT_.out s2_) ?_
 refine pu_ 10 91 m50_ (any_of HT_.out s2_) ?_
 refine pu_ 11 92 m51_ (any_of HT_.out s2_) ?_
 refine take_ (i := 12) (N := some 93) (v := ?_) (a' := ?_) m52_ rfl rfl (take_ofW HT_.out HW_.out s2_) (fun _ _ _ h => h) (Or.inl ⟨by rfl, ?_⟩) hHeld ?_ ?_
 rotate_left
 {
 rintro w' ⟨s0, s1, s2⟩
 go_simp
 with_reducible rfl}
 rotate_left
 · exact p1_
 refine one_ (i := 13) (N := some 94) m53_ rfl rfl (one_of HT_.out s2_) (by decide) (fun K hK => ?_)
 refine goes_ Try.func34 s2_ rfl #[.int .i64 ((rd_T71 l0_2 x76_3).f2)] (by rfl) rfl rfl s3_ ?_
 with_reducible refine (impl_isTick.calls ((rd_T71 l0_2 x76_3).f2) true _ A56.out).mono ?_
 rintro e w' ⟨rfl, ⟨nd, rfl⟩⟩
 refine ⟨_, rfl, ?_⟩
 refine hK.out _ _ ⟨(blk_cell BK208.out 0).trans rfl, (blk_cell BK208.out 1).trans rfl, (blk_cell BK208.out 2).trans rfl⟩ (fun hHeld => ?_)
 clear hK K
 refine norm_ (a' := ?_) ?_ ?_
 rotate_left
 {
 show Act.put _ (some 94) _ = _
 simp only [Act.put, List.setIfInBounds_toArray, List.set_cons_zero, List.set_cons_succ, i64_w, i32_w]
 rfl}
 refine pu_ 14 95 m54_ (any_of HT_.out s2_) ?_
 refine pu_ 15 96 m55_ (any_of HT_.out s2_) ?_
 refine pu_ 16 97 m56_ (any_of HT_.out s2_) ?_
 refine pu_ 17 98 m57_ (any_of HT_.out s2_) ?_
 refine take_ (i := 18) (N := some 99) (v := ?_) (a' := ?_) m58_ rfl rfl (take_ofW HT_.out HW_.out s2_) (fun _ _ _ h => h) (Or.inl ⟨by rfl, ?_⟩) hHeld ?_ ?_
 rotate_left
 {
 rintro w' ⟨s0, s1, s2⟩
 go_simp
 with_reducible rfl}
 rotate_left
 · exact p1_
 refine one_ (i := 19) (N := some 100) m59_ rfl rfl (one_of HT_.out s2_) (by decide) (fun K hK => ?_)
 refine goes_ Try.func35 s2_ rfl #[.pointer (some ⟨gb198, 0, none⟩), .int .i64 ((rd_T71 l0_2 x76_3).f0)] (by rfl) rfl rfl s3_ ?_
 with_reducible refine (impl_Room_has.calls k3 gb198 a0_0 A0_1 c0_1 l0_1 (some ad207) c0_2 l0_2 A0_3 c0_3 l0_3 ((rd_T71 l0_2 x76_3).f0) false _ ?side1 ?side2 ?side3 ?side4 ?side5 ?side6 ?side7 A58.out).mono ?_
 (case side1 => exact (b1_ BK198.out))
 (case side2 => repeat (first | exact (Kd.C_below HR0_1.out (by repeat (first | (with_reducible first | exact HB.out | apply below_alloc | apply pw_below_drewN | apply below_drew1 | refine below_set ?_ GE198.out | refine below_set ?_ GE208.out) | exact HB.out))) | (with_reducible refine Kd.C_alloc ?_ _) | (with_reducible refine Kd.C_drewN ?_ _) | (with_reducible refine Kd.C_drew ?_)))
 (case side3 => exact HC0_1.out)
 (case side4 => repeat (first | exact (Kd.C_below HR0_2.out (by repeat (first | (with_reducible first | exact HB.out | apply below_alloc | apply pw_below_drewN | apply below_drew1 | refine below_set ?_ GE198.out | refine below_set ?_ GE208.out) | exact HB.out))) | (with_reducible refine Kd.C_alloc ?_ _) | (with_reducible refine Kd.C_drewN ?_ _) | (with_reducible refine Kd.C_drew ?_)))
 (case side5 => exact HC0_2.out)
 (case side6 => repeat (first | exact (Kd.C_below HR0_3.out (by repeat (first | (with_reducible first | exact HB.out | apply below_alloc | apply pw_below_drewN | apply below_drew1 | refine below_set ?_ GE198.out | refine below_set ?_ GE208.out) | exact HB.out))) | (with_reducible refine Kd.C_alloc ?_ _) | (with_reducible refine Kd.C_drewN ?_ _) | (with_reducible refine Kd.C_drew ?_)))
 (case side7 => exact HC0_3.out)
 rintro e w72 ⟨rfl, hb⟩
 refine ⟨_, rfl, ?_⟩
 have n0_ := Aside0.mk (blk_below (g := gb198) (o := .cells #[.bool a0_0, .slice A0_1 l0_1.length c0_1, .slice (some ad207) l0_2.length c0_2, .slice A0_3 l0_3.length c0_3] 28 (0, 0)) (b1_ BK198.out) hb)
 have n1_ := Aside0.mk (blk_below (g := gb208) (o := .cells #[.int .i64 ((rd_T71 l0_2 x76_3).f0), .int .i64 ((rd_T71 l0_2 x76_3).f1), .int .i64 ((rd_T71 l0_2 x76_3).f2)] 71 (0, 0)) (b1_ BK208.out) hb)
 have n2_ := Aside0.mk (below_step (by repeat (first | (with_reducible first | exact HB.out | apply below_alloc | apply pw_below_drewN | apply below_drew1 | refine below_set ?_ GE198.out | refine below_set ?_ GE208.out) | exact HB.out)) hb)
 clear BK198
 clear BK208
 clear HB
 have BK198 := n0_
 have BK208 := n1_
 have HB := n2_
 clear n0_ n1_ n2_
 (try clear hb)
 (try clear hb2)
 (try clear hk)
 (try clear hi)
 refine hK.out _ _ ⟨(blk_cell BK208.out 0).trans rfl, (blk_cell BK208.out 1).trans rfl, (blk_cell BK208.out 2).trans rfl⟩ (fun hHeld => ?_)
 clear hK K
 refine norm_ (a' := ?_) ?_ ?_
 rotate_left
 {
 show Act.put _ (some 100) _ = _
 simp only [Act.put, List.setIfInBounds_toArray, List.set_cons_zero, List.set_cons_succ, i64_w, i32_w]
 rfl}
 refine pu_ 20 101 m60_ (any_of HT_.out s2_) ?_
 refine pu_ 21 102 m61_ (any_of HT_.out s2_) ?_
 refine pu_ 22 103 m62_ (any_of HT_.out s2_) ?_
 refine pu_ 23 104 m63_ (any_of HT_.out s2_) ?_
 refine pu_ 24 105 m64_ (any_of HT_.out s2_) ?_
 refine pn_ 25 106 m65_ (any_of HT_.out s2_) ?_
 refine pn_ 26 107 m66_ (any_of HT_.out s2_) ?_
 refine pn_ 27 108 m67_ (any_of HT_.out s2_) ?_
 refine pn_ 28 109 m68_ (any_of HT_.out s2_) ?_
 refine pn_ 29 110 m69_ (any_of HT_.out s2_) ?_
 refine pn_ 30 111 m70_ (any_of HT_.out s2_) ?_
 refine pn_ 31 112 m71_ (any_of HT_.out s2_) ?_
 refine pn_ 32 113 m72_ (any_of HT_.out s2_) ?_
 refine pn_ 33 114 m73_ (any_of HT_.out s2_) ?_
 refine pn_ 34 115 m74_ (any_of HT_.out s2_) ?_
 refine pu_ 35 116 m75_ (any_of HT_.out s2_) ?_
 refine pu_ 36 117 m76_ (any_of HT_.out s2_) ?_
 refine done_ (done_of HT_.out s2_) ?_
 try go_wp2
 go_meet
 case rel => exact ⟨_, (false), s1_, H', ⟨by have := HJ1.out; have := HK2.out; have := HK3.out; first | omega | exact Nat.le_refl _⟩, ⟨b1_ BK198.out⟩, ⟨b1_ BK208.out⟩, ⟨by repeat (first | (with_reducible first | exact HB.out | apply below_alloc | apply pw_below_drewN | apply below_drew1 | refine below_set ?_ GE198.out | refine below_set ?_ GE208.out) | exact HB.out)⟩⟩}}}
 {
 replace c57 := Bool.eq_false_iff.mpr c57
 subst c57
 have H1 : (impl_ValidRoom.j4 k3 l0_2 (l0_2.length : Int) x76_3 true a0_0 l0_1 l0_2 l0_3) = some r := by rw [if_neg (show ¬ (false = true) by decide)] at H; exact H
 clear H
 have H := H1
 clear H1
 have H' := Aside0.mk H
 clear H
 try go_wp2
 have n0_ : Aside0 ((((w49.setCell ⟨gb208, 0, none⟩ (.int .i64 ((rd_T71 l0_2 x76_3).f0))).setCell ⟨gb208, 1, none⟩ (.int .i64 ((rd_T71 l0_2 x76_3).f1))).setCell ⟨gb208, 2, none⟩ (.int .i64 ((rd_T71 l0_2 x76_3).f2))).heap[gb198]? = some (.cells #[.bool a0_0, .slice A0_1 l0_1.length c0_1, .slice (some ad207) l0_2.length c0_2, .slice A0_3 l0_3.length c0_3] 28 (0, 0))) := ⟨by (with_reducible repeat (first | refine blk_drewN ?_ _ | refine blk_drew ?_ | refine blk_alloc ?_ _)); refine blk_far ?_ NB198_208.out _; (with_reducible repeat (first | refine blk_drewN ?_ _ | refine blk_drew ?_ | refine blk_alloc ?_ _)); refine blk_far ?_ NB198_208.out _; (with_reducible repeat (first | refine blk_drewN ?_ _ | refine blk_drew ?_ | refine blk_alloc ?_ _)); refine blk_far ?_ NB198_208.out _; (with_reducible repeat (first | refine blk_drewN ?_ _ | refine blk_drew ?_ | refine blk_alloc ?_ _)); exact BK198.out⟩
 have n1_ : Aside0 ((((w49.setCell ⟨gb208, 0, none⟩ (.int .i64 ((rd_T71 l0_2 x76_3).f0))).setCell ⟨gb208, 1, none⟩ (.int .i64 ((rd_T71 l0_2 x76_3).f1))).setCell ⟨gb208, 2, none⟩ (.int .i64 ((rd_T71 l0_2 x76_3).f2))).heap[gb208]? = some (.cells #[.int .i64 ((rd_T71 l0_2 x76_3).f0), .int .i64 ((rd_T71 l0_2 x76_3).f1), .int .i64 ((rd_T71 l0_2 x76_3).f2)] 71 (0, 0))) := ⟨by (with_reducible repeat (first | refine blk_drewN ?_ _ | refine blk_drew ?_ | refine blk_alloc ?_ _)); refine blk_put (cs := #[.int .i64 ((rd_T71 l0_2 x76_3).f0), .int .i64 ((rd_T71 l0_2 x76_3).f1), .int .i64 0]) ?_ 2 _ rfl; (with_reducible repeat (first | refine blk_drewN ?_ _ | refine blk_drew ?_ | refine blk_alloc ?_ _)); refine blk_put (cs := #[.int .i64 ((rd_T71 l0_2 x76_3).f0), .int .i64 0, .int .i64 0]) ?_ 1 _ rfl; (with_reducible repeat (first | refine blk_drewN ?_ _ | refine blk_drew ?_ | refine blk_alloc ?_ _)); refine blk_put (cs := #[.int .i64 0, .int .i64 0, .int .i64 0]) ?_ 0 _ rfl; (with_reducible repeat (first | refine blk_drewN ?_ _ | refine blk_drew ?_ | refine blk_alloc ?_ _)); exact BK208.out⟩
 have n2_ : Aside0 (Below w.heap.size w (((w49.setCell ⟨gb208, 0, none⟩ (.int .i64 ((rd_T71 l0_2 x76_3).f0))).setCell ⟨gb208, 1, none⟩ (.int .i64 ((rd_T71 l0_2 x76_3).f1))).setCell ⟨gb208, 2, none⟩ (.int .i64 ((rd_T71 l0_2 x76_3).f2)))) := ⟨by repeat (first | (with_reducible first | exact HB.out | apply below_alloc | apply pw_below_drewN | apply below_drew1 | refine below_set ?_ GE198.out | refine below_set ?_ GE208.out) | exact HB.out)⟩
 (try clear BK198)
 (try clear BK208)
 (try clear HB)
 generalize (((w49.setCell ⟨gb208, 0, none⟩ (.int .i64 ((rd_T71 l0_2 x76_3).f0))).setCell ⟨gb208, 1, none⟩ (.int .i64 ((rd_T71 l0_2 x76_3).f1))).setCell ⟨gb208, 2, none⟩ (.int .i64 ((rd_T71 l0_2 x76_3).f2))) = w73 at n0_ n1_ n2_ ⊢
 have BK198 := n0_
 have BK208 := n1_
 have HB := n2_
 clear n0_ n1_ n2_
 have n0_ := Aside0.mk (blk_drew BK198.out)
 have n1_ := Aside0.mk (blk_drew BK208.out)
 have n2_ := Aside0.mk (below_drew1 HB.out)
 clear BK198
 clear BK208
 clear HB
 have BK198 := n0_
 have BK208 := n1_
 have HB := n2_
 clear n0_ n1_ n2_
 refine start_ (n := 37) (S := fun w' => w'.cell? ⟨gb208, 0, none⟩ = some (.int .i64 ((rd_T71 l0_2 x76_3).f0)) ∧ w'.cell? ⟨gb208, 1, none⟩ = some (.int .i64 ((rd_T71 l0_2 x76_3).f1)) ∧ w'.cell? ⟨gb208, 2, none⟩ = some (.int .i64 ((rd_T71 l0_2 x76_3).f2))) (ds := []) m39_ s2_ rfl rfl ⟨(blk_cell BK208.out 0).trans rfl, (blk_cell BK208.out 1).trans rfl, (blk_cell BK208.out 2).trans rfl⟩ (fun hHeld => ?_); refine with_tabW impl_ValidRoom.tab12 impl_ValidRoom.bits12 (fun HT_ HW_ => ?_)
 generalize w73.drew = w74 at BK198 BK208 HB hHeld ⊢
 refine pu_ 0 81 m40_ (any_of HT_.out s2_) ?_
 refine take_ (i := 1) (N := some 82) (v := ?_) (a' := ?_) m41_ rfl rfl (take_ofW HT_.out HW_.out s2_) (fun _ _ _ h => h) (Or.inl ⟨by rfl, ?_⟩) hHeld ?_ ?_
 rotate_left
 {
 rintro w' ⟨s0, s1, s2⟩
 go_simp
 with_reducible rfl}
 rotate_left
 · exact p1_
 refine one_ (i := 2) (N := some 83) m42_ rfl rfl (one_of HT_.out s2_) (by decide) (fun K hK => ?_)
 refine goes_ Try.func32 s2_ rfl #[.int .i64 ((rd_T71 l0_2 x76_3).f0)] (by rfl) rfl rfl s3_ ?_
 with_reducible refine (impl_isMember.calls ((rd_T71 l0_2 x76_3).f0) true _ A52.out).mono ?_
 rintro e w' ⟨rfl, ⟨nd, rfl⟩⟩
 refine ⟨_, rfl, ?_⟩
 refine hK.out _ _ ⟨(blk_cell BK208.out 0).trans rfl, (blk_cell BK208.out 1).trans rfl, (blk_cell BK208.out 2).trans rfl⟩ (fun hHeld => ?_)
 clear hK K
 refine norm_ (a' := ?_) ?_ ?_
 rotate_left
 {
 show Act.put _ (some 83) _ = _
 simp only [Act.put, List.setIfInBounds_toArray, List.set_cons_zero, List.set_cons_succ, i64_w, i32_w]
 rfl}
 refine pu_ 3 84 m43_ (any_of HT_.out s2_) ?_
 refine pu_ 4 85 m44_ (any_of HT_.out s2_) ?_
 refine pu_ 5 86 m45_ (any_of HT_.out s2_) ?_
 refine take_ (i := 6) (N := some 87) (v := ?_) (a' := ?_) m46_ rfl rfl (take_ofW HT_.out HW_.out s2_) (fun _ _ _ h => h) (Or.inl ⟨by rfl, ?_⟩) hHeld ?_ ?_
 rotate_left
 {
 rintro w' ⟨s0, s1, s2⟩
 go_simp
 with_reducible rfl}
 rotate_left
 · exact p1_
 refine one_ (i := 7) (N := some 88) m47_ rfl rfl (one_of HT_.out s2_) (by decide) (fun K hK => ?_)
 refine goes_ Try.func32 s2_ rfl #[.int .i64 ((rd_T71 l0_2 x76_3).f1)] (by rfl) rfl rfl s3_ ?_
 with_reducible refine (impl_isMember.calls ((rd_T71 l0_2 x76_3).f1) true _ A54.out).mono ?_
 rintro e w' ⟨rfl, ⟨nd, rfl⟩⟩
 refine ⟨_, rfl, ?_⟩
 refine hK.out _ _ ⟨(blk_cell BK208.out 0).trans rfl, (blk_cell BK208.out 1).trans rfl, (blk_cell BK208.out 2).trans rfl⟩ (fun hHeld => ?_)
 clear hK K
 refine norm_ (a' := ?_) ?_ ?_
 rotate_left
 {
 show Act.put _ (some 88) _ = _
 simp only [Act.put, List.setIfInBounds_toArray, List.set_cons_zero, List.set_cons_succ, i64_w, i32_w]
 rfl}
 refine pu_ 8 89 m48_ (any_of HT_.out s2_) ?_
 refine pu_ 9 90 m49_ (any_of HT_.out s2_) ?_
 refine pu_ 10 91 m50_ (any_of HT_.out s2_) ?_
 refine pu_ 11 92 m51_ (any_of HT_.out s2_) ?_
 refine take_ (i := 12) (N := some 93) (v := ?_) (a' := ?_) m52_ rfl rfl (take_ofW HT_.out HW_.out s2_) (fun _ _ _ h => h) (Or.inl ⟨by rfl, ?_⟩) hHeld ?_ ?_
 rotate_left
 {
 rintro w' ⟨s0, s1, s2⟩
 go_simp
 with_reducible rfl}
 rotate_left
 · exact p1_
 refine one_ (i := 13) (N := some 94) m53_ rfl rfl (one_of HT_.out s2_) (by decide) (fun K hK => ?_)
 refine goes_ Try.func34 s2_ rfl #[.int .i64 ((rd_T71 l0_2 x76_3).f2)] (by rfl) rfl rfl s3_ ?_
 with_reducible refine (impl_isTick.calls ((rd_T71 l0_2 x76_3).f2) false _ A56.out).mono ?_
 rintro e w' ⟨rfl, ⟨nd, rfl⟩⟩
 refine ⟨_, rfl, ?_⟩
 refine hK.out _ _ ⟨(blk_cell BK208.out 0).trans rfl, (blk_cell BK208.out 1).trans rfl, (blk_cell BK208.out 2).trans rfl⟩ (fun hHeld => ?_)
 clear hK K
 refine norm_ (a' := ?_) ?_ ?_
 rotate_left
 {
 show Act.put _ (some 94) _ = _
 simp only [Act.put, List.setIfInBounds_toArray, List.set_cons_zero, List.set_cons_succ, i64_w, i32_w]
 rfl}
 refine pu_ 14 95 m54_ (any_of HT_.out s2_) ?_
 refine pu_ 15 96 m55_ (any_of HT_.out s2_) ?_
 refine pu_ 16 97 m56_ (any_of HT_.out s2_) ?_
 refine pn_ 17 98 m57_ (any_of HT_.out s2_) ?_
 refine pn_ 18 99 m58_ (any_of HT_.out s2_) ?_
 refine pn_ 19 100 m59_ (any_of HT_.out s2_) ?_
 refine pu_ 20 101 m60_ (any_of HT_.out s2_) ?_
 refine pu_ 21 102 m61_ (any_of HT_.out s2_) ?_
 refine pn_ 22 103 m62_ (any_of HT_.out s2_) ?_
 refine pn_ 23 104 m63_ (any_of HT_.out s2_) ?_
 refine pn_ 24 105 m64_ (any_of HT_.out s2_) ?_
 refine pn_ 25 106 m65_ (any_of HT_.out s2_) ?_
 refine pn_ 26 107 m66_ (any_of HT_.out s2_) ?_
 refine pn_ 27 108 m67_ (any_of HT_.out s2_) ?_
 refine pn_ 28 109 m68_ (any_of HT_.out s2_) ?_
 refine pn_ 29 110 m69_ (any_of HT_.out s2_) ?_
 refine pn_ 30 111 m70_ (any_of HT_.out s2_) ?_
 refine pn_ 31 112 m71_ (any_of HT_.out s2_) ?_
 refine pn_ 32 113 m72_ (any_of HT_.out s2_) ?_
 refine pn_ 33 114 m73_ (any_of HT_.out s2_) ?_
 refine pn_ 34 115 m74_ (any_of HT_.out s2_) ?_
 refine pn_ 35 116 m75_ (any_of HT_.out s2_) ?_
 refine pu_ 36 117 m76_ (any_of HT_.out s2_) ?_
 refine done_ (done_of HT_.out s2_) ?_
 try go_wp2
 go_meet
 case rel => exact ⟨_, (true), s1_, H', ⟨by have := HJ1.out; have := HK2.out; have := HK3.out; first | omega | exact Nat.le_refl _⟩, ⟨b1_ BK198.out⟩, ⟨b1_ BK208.out⟩, ⟨by repeat (first | (with_reducible first | exact HB.out | apply below_alloc | apply pw_below_drewN | apply below_drew1 | refine below_set ?_ GE198.out | refine below_set ?_ GE208.out) | exact HB.out)⟩⟩}}
 {
 replace c55 := Bool.eq_false_iff.mpr c55
 subst c55
 have H1 : (impl_ValidRoom.j4 k3 l0_2 (l0_2.length : Int) x76_3 true a0_0 l0_1 l0_2 l0_3) = some r := by rw [if_neg (show ¬ (false = true) by decide)] at H; exact H
 clear H
 have H := H1
 clear H1
 have H' := Aside0.mk H
 clear H
 try go_wp2
 have n0_ : Aside0 ((((w49.setCell ⟨gb208, 0, none⟩ (.int .i64 ((rd_T71 l0_2 x76_3).f0))).setCell ⟨gb208, 1, none⟩ (.int .i64 ((rd_T71 l0_2 x76_3).f1))).setCell ⟨gb208, 2, none⟩ (.int .i64 ((rd_T71 l0_2 x76_3).f2))).heap[gb198]? = some (.cells #[.bool a0_0, .slice A0_1 l0_1.length c0_1, .slice (some ad207) l0_2.length c0_2, .slice A0_3 l0_3.length c0_3] 28 (0, 0))) := ⟨by (with_reducible repeat (first | refine blk_drewN ?_ _ | refine blk_drew ?_ | refine blk_alloc ?_ _)); refine blk_far ?_ NB198_208.out _; (with_reducible repeat (first | refine blk_drewN ?_ _ | refine blk_drew ?_ | refine blk_alloc ?_ _)); refine blk_far ?_ NB198_208.out _; (with_reducible repeat (first | refine blk_drewN ?_ _ | refine blk_drew ?_ | refine blk_alloc ?_ _)); refine blk_far ?_ NB198_208.out _; (with_reducible repeat (first | refine blk_drewN ?_ _ | refine blk_drew ?_ | refine blk_alloc ?_ _)); exact BK198.out⟩
 have n1_ : Aside0 ((((w49.setCell ⟨gb208, 0, none⟩ (.int .i64 ((rd_T71 l0_2 x76_3).f0))).setCell ⟨gb208, 1, none⟩ (.int .i64 ((rd_T71 l0_2 x76_3).f1))).setCell ⟨gb208, 2, none⟩ (.int .i64 ((rd_T71 l0_2 x76_3).f2))).heap[gb208]? = some (.cells #[.int .i64 ((rd_T71 l0_2 x76_3).f0), .int .i64 ((rd_T71 l0_2 x76_3).f1), .int .i64 ((rd_T71 l0_2 x76_3).f2)] 71 (0, 0))) := ⟨by (with_reducible repeat (first | refine blk_drewN ?_ _ | refine blk_drew ?_ | refine blk_alloc ?_ _)); refine blk_put (cs := #[.int .i64 ((rd_T71 l0_2 x76_3).f0), .int .i64 ((rd_T71 l0_2 x76_3).f1), .int .i64 0]) ?_ 2 _ rfl; (with_reducible repeat (first | refine blk_drewN ?_ _ | refine blk_drew ?_ | refine blk_alloc ?_ _)); refine blk_put (cs := #[.int .i64 ((rd_T71 l0_2 x76_3).f0), .int .i64 0, .int .i64 0]) ?_ 1 _ rfl; (with_reducible repeat (first | refine blk_drewN ?_ _ | refine blk_drew ?_ | refine blk_alloc ?_ _)); refine blk_put (cs := #[.int .i64 0, .int .i64 0, .int .i64 0]) ?_ 0 _ rfl; (with_reducible repeat (first | refine blk_drewN ?_ _ | refine blk_drew ?_ | refine blk_alloc ?_ _)); exact BK208.out⟩
 have n2_ : Aside0 (Below w.heap.size w (((w49.setCell ⟨gb208, 0, none⟩ (.int .i64 ((rd_T71 l0_2 x76_3).f0))).setCell ⟨gb208, 1, none⟩ (.int .i64 ((rd_T71 l0_2 x76_3).f1))).setCell ⟨gb208, 2, none⟩ (.int .i64 ((rd_T71 l0_2 x76_3).f2)))) := ⟨by repeat (first | (with_reducible first | exact HB.out | apply below_alloc | apply pw_below_drewN | apply below_drew1 | refine below_set ?_ GE198.out | refine below_set ?_ GE208.out) | exact HB.out)⟩
 (try clear BK198)
 (try clear BK208)
 (try clear HB)
 generalize (((w49.setCell ⟨gb208, 0, none⟩ (.int .i64 ((rd_T71 l0_2 x76_3).f0))).setCell ⟨gb208, 1, none⟩ (.int .i64 ((rd_T71 l0_2 x76_3).f1))).setCell ⟨gb208, 2, none⟩ (.int .i64 ((rd_T71 l0_2 x76_3).f2))) = w75 at n0_ n1_ n2_ ⊢
 have BK198 := n0_
 have BK208 := n1_
 have HB := n2_
 clear n0_ n1_ n2_
 have n0_ := Aside0.mk (blk_drew BK198.out)
 have n1_ := Aside0.mk (blk_drew BK208.out)
 have n2_ := Aside0.mk (below_drew1 HB.out)
 clear BK198
 clear BK208
 clear HB
 have BK198 := n0_
 have BK208 := n1_
 have HB := n2_
 clear n0_ n1_ n2_
 refine start_ (n := 37) (S := fun w' => w'.cell? ⟨gb208, 0, none⟩ = some (.int .i64 ((rd_T71 l0_2 x76_3).f0)) ∧ w'.cell? ⟨gb208, 1, none⟩ = some (.int .i64 ((rd_T71 l0_2 x76_3).f1)) ∧ w'.cell? ⟨gb208, 2, none⟩ = some (.int .i64 ((rd_T71 l0_2 x76_3).f2))) (ds := []) m39_ s2_ rfl rfl ⟨(blk_cell BK208.out 0).trans rfl, (blk_cell BK208.out 1).trans rfl, (blk_cell BK208.out 2).trans rfl⟩ (fun hHeld => ?_); refine with_tabW impl_ValidRoom.tab12 impl_ValidRoom.bits12 (fun HT_ HW_ => ?_)
 generalize w75.drew = w76 at BK198 BK208 HB hHeld ⊢
 refine pu_ 0 81 m40_ (any_of HT_.out s2_) ?_
 refine take_ (i := 1) (N := some 82) (v := ?_) (a' := ?_) m41_ rfl rfl (take_ofW HT_.out HW_.out s2_) (fun _ _ _ h => h) (Or.inl ⟨by rfl, ?_⟩) hHeld ?_ ?_
 rotate_left
 {
 rintro w' ⟨s0, s1, s2⟩
 go_simp
 with_reducible rfl}
 rotate_left
 · exact p1_
 refine one_ (i := 2) (N := some 83) m42_ rfl rfl (one_of HT_.out s2_) (by decide) (fun K hK => ?_)
 refine goes_ Try.func32 s2_ rfl #[.int .i64 ((rd_T71 l0_2 x76_3).f0)] (by rfl) rfl rfl s3_ ?_
 with_reducible refine (impl_isMember.calls ((rd_T71 l0_2 x76_3).f0) true _ A52.out).mono ?_
 rintro e w' ⟨rfl, ⟨nd, rfl⟩⟩
 refine ⟨_, rfl, ?_⟩
 refine hK.out _ _ ⟨(blk_cell BK208.out 0).trans rfl, (blk_cell BK208.out 1).trans rfl, (blk_cell BK208.out 2).trans rfl⟩ (fun hHeld => ?_)
 clear hK K
 refine norm_ (a' := ?_) ?_ ?_
 rotate_left
 {
 show Act.put _ (some 83) _ = _
 simp only [Act.put, List.setIfInBounds_toArray, List.set_cons_zero, List.set_cons_succ, i64_w, i32_w]
 rfl}
 refine pu_ 3 84 m43_ (any_of HT_.out s2_) ?_
 refine pu_ 4 85 m44_ (any_of HT_.out s2_) ?_
 refine pu_ 5 86 m45_ (any_of HT_.out s2_) ?_
 refine take_ (i := 6) (N := some 87) (v := ?_) (a' := ?_) m46_ rfl rfl (take_ofW HT_.out HW_.out s2_) (fun _ _ _ h => h) (Or.inl ⟨by rfl, ?_⟩) hHeld ?_ ?_
 rotate_left
 {
 rintro w' ⟨s0, s1, s2⟩
 go_simp
 with_reducible rfl}
 rotate_left
 · exact p1_
 refine one_ (i := 7) (N := some 88) m47_ rfl rfl (one_of HT_.out s2_) (by decide) (fun K hK => ?_)
 refine goes_ Try.func32 s2_ rfl #[.int .i64 ((rd_T71 l0_2 x76_3).f1)] (by rfl) rfl rfl s3_ ?_
 with_reducible refine (impl_isMember.calls ((rd_T71 l0_2 x76_3).f1) false _ A54.out).mono ?_
 rintro e w' ⟨rfl, ⟨nd, rfl⟩⟩
 refine ⟨_, rfl, ?_⟩
 refine hK.out _ _ ⟨(blk_cell BK208.out 0).trans rfl, (blk_cell BK208.out 1).trans rfl, (blk_cell BK208.out 2).trans rfl⟩ (fun hHeld => ?_)
 clear hK K
 refine norm_ (a' := ?_) ?_ ?_
 rotate_left
 {
 show Act.put _ (some 88) _ = _
 simp only [Act.put, List.setIfInBounds_toArray, List.set_cons_zero, List.set_cons_succ, i64_w, i32_w]
 rfl}
 refine pu_ 8 89 m48_ (any_of HT_.out s2_) ?_
 refine pu_ 9 90 m49_ (any_of HT_.out s2_) ?_
 refine pu_ 10 91 m50_ (any_of HT_.out s2_) ?_
 refine pn_ 11 92 m51_ (any_of HT_.out s2_) ?_
 refine pn_ 12 93 m52_ (any_of HT_.out s2_) ?_
 refine pn_ 13 94 m53_ (any_of HT_.out s2_) ?_
 refine pn_ 14 95 m54_ (any_of HT_.out s2_) ?_
 refine pu_ 15 96 m55_ (any_of HT_.out s2_) ?_
 refine pu_ 16 97 m56_ (any_of HT_.out s2_) ?_
 refine pn_ 17 98 m57_ (any_of HT_.out s2_) ?_
 refine pn_ 18 99 m58_ (any_of HT_.out s2_) ?_
 refine pn_ 19 100 m59_ (any_of HT_.out s2_) ?_
 refine pu_ 20 101 m60_ (any_of HT_.out s2_) ?_
 refine pu_ 21 102 m61_ (any_of HT_.out s2_) ?_
 refine pn_ 22 103 m62_ (any_of HT_.out s2_) ?_
 refine pn_ 23 104 m63_ (any_of HT_.out s2_) ?_
 refine pn_ 24 105 m64_ (any_of HT_.out s2_) ?_
 refine pn_ 25 106 m65_ (any_of HT_.out s2_) ?_
 refine pn_ 26 107 m66_ (any_of HT_.out s2_) ?_
 refine pn_ 27 108 m67_ (any_of HT_.out s2_) ?_
 refine pn_ 28 109 m68_ (any_of HT_.out s2_) ?_
 refine pn_ 29 110 m69_ (any_of HT_.out s2_) ?_
 refine pn_ 30 111 m70_ (any_of HT_.out s2_) ?_
 refine pn_ 31 112 m71_ (any_of HT_.out s2_) ?_
 refine pn_ 32 113 m72_ (any_of HT_.out s2_) ?_
 refine pn_ 33 114 m73_ (any_of HT_.out s2_) ?_
 refine pn_ 34 115 m74_ (any_of HT_.out s2_) ?_
 refine pn_ 35 116 m75_ (any_of HT_.out s2_) ?_
 refine pu_ 36 117 m76_ (any_of HT_.out s2_) ?_
 refine done_ (done_of HT_.out s2_) ?_
 try go_wp2
 go_meet
 case rel => exact ⟨_, (true), s1_, H', ⟨by have := HJ1.out; have := HK2.out; have := HK3.out; first | omega | exact Nat.le_refl _⟩, ⟨b1_ BK198.out⟩, ⟨b1_ BK208.out⟩, ⟨by repeat (first | (with_reducible first | exact HB.out | apply below_alloc | apply pw_below_drewN | apply below_drew1 | refine below_set ?_ GE198.out | refine below_set ?_ GE208.out) | exact HB.out)⟩⟩}}
 {
 replace c53 := Bool.eq_false_iff.mpr c53
 subst c53
 have H1 : (impl_ValidRoom.j4 k3 l0_2 (l0_2.length : Int) x76_3 true a0_0 l0_1 l0_2 l0_3) = some r := by rw [if_neg (show ¬ (false = true) by decide)] at H; exact H
 clear H
 have H := H1
 clear H1
 have H' := Aside0.mk H
 clear H
 try go_wp2
 have n0_ : Aside0 ((((w49.setCell ⟨gb208, 0, none⟩ (.int .i64 ((rd_T71 l0_2 x76_3).f0))).setCell ⟨gb208, 1, none⟩ (.int .i64 ((rd_T71 l0_2 x76_3).f1))).setCell ⟨gb208, 2, none⟩ (.int .i64 ((rd_T71 l0_2 x76_3).f2))).heap[gb198]? = some (.cells #[.bool a0_0, .slice A0_1 l0_1.length c0_1, .slice (some ad207) l0_2.length c0_2, .slice A0_3 l0_3.length c0_3] 28 (0, 0))) := ⟨by (with_reducible repeat (first | refine blk_drewN ?_ _ | refine blk_drew ?_ | refine blk_alloc ?_ _)); refine blk_far ?_ NB198_208.out _; (with_reducible repeat (first | refine blk_drewN ?_ _ | refine blk_drew ?_ | refine blk_alloc ?_ _)); refine blk_far ?_ NB198_208.out _; (with_reducible repeat (first | refine blk_drewN ?_ _ | refine blk_drew ?_ | refine blk_alloc ?_ _)); refine blk_far ?_ NB198_208.out _; (with_reducible repeat (first | refine blk_drewN ?_ _ | refine blk_drew ?_ | refine blk_alloc ?_ _)); exact BK198.out⟩
 have n1_ : Aside0 ((((w49.setCell ⟨gb208, 0, none⟩ (.int .i64 ((rd_T71 l0_2 x76_3).f0))).setCell ⟨gb208, 1, none⟩ (.int .i64 ((rd_T71 l0_2 x76_3).f1))).setCell ⟨gb208, 2, none⟩ (.int .i64 ((rd_T71 l0_2 x76_3).f2))).heap[gb208]? = some (.cells #[.int .i64 ((rd_T71 l0_2 x76_3).f0), .int .i64 ((rd_T71 l0_2 x76_3).f1), .int .i64 ((rd_T71 l0_2 x76_3).f2)] 71 (0, 0))) := ⟨by (with_reducible repeat (first | refine blk_drewN ?_ _ | refine blk_drew ?_ | refine blk_alloc ?_ _)); refine blk_put (cs := #[.int .i64 ((rd_T71 l0_2 x76_3).f0), .int .i64 ((rd_T71 l0_2 x76_3).f1), .int .i64 0]) ?_ 2 _ rfl; (with_reducible repeat (first | refine blk_drewN ?_ _ | refine blk_drew ?_ | refine blk_alloc ?_ _)); refine blk_put (cs := #[.int .i64 ((rd_T71 l0_2 x76_3).f0), .int .i64 0, .int .i64 0]) ?_ 1 _ rfl; (with_reducible repeat (first | refine blk_drewN ?_ _ | refine blk_drew ?_ | refine blk_alloc ?_ _)); refine blk_put (cs := #[.int .i64 0, .int .i64 0, .int .i64 0]) ?_ 0 _ rfl; (with_reducible repeat (first | refine blk_drewN ?_ _ | refine blk_drew ?_ | refine blk_alloc ?_ _)); exact BK208.out⟩
 have n2_ : Aside0 (Below w.heap.size w (((w49.setCell ⟨gb208, 0, none⟩ (.int .i64 ((rd_T71 l0_2 x76_3).f0))).setCell ⟨gb208, 1, none⟩ (.int .i64 ((rd_T71 l0_2 x76_3).f1))).setCell ⟨gb208, 2, none⟩ (.int .i64 ((rd_T71 l0_2 x76_3).f2)))) := ⟨by repeat (first | (with_reducible first | exact HB.out | apply below_alloc | apply pw_below_drewN | apply below_drew1 | refine below_set ?_ GE198.out | refine below_set ?_ GE208.out) | exact HB.out)⟩
 (try clear BK198)
 (try clear BK208)
 (try clear HB)
 generalize (((w49.setCell ⟨gb208, 0, none⟩ (.int .i64 ((rd_T71 l0_2 x76_3).f0))).setCell ⟨gb208, 1, none⟩ (.int .i64 ((rd_T71 l0_2 x76_3).f1))).setCell ⟨gb208, 2, none⟩ (.int .i64 ((rd_T71 l0_2 x76_3).f2))) = w77 at n0_ n1_ n2_ ⊢
 have BK198 := n0_
 have BK208 := n1_
 have HB := n2_
 clear n0_ n1_ n2_
 have n0_ := Aside0.mk (blk_drew BK198.out)
 have n1_ := Aside0.mk (blk_drew BK208.out)
 have n2_ := Aside0.mk (below_drew1 HB.out)
 clear BK198
 clear BK208
 clear HB
 have BK198 := n0_
 have BK208 := n1_
 have HB := n2_
 clear n0_ n1_ n2_
 refine start_ (n := 37) (S := fun w' => w'.cell? ⟨gb208, 0, none⟩ = some (.int .i64 ((rd_T71 l0_2 x76_3).f0)) ∧ w'.cell? ⟨gb208, 1, none⟩ = some (.int .i64 ((rd_T71 l0_2 x76_3).f1)) ∧ w'.cell? ⟨gb208, 2, none⟩ = some (.int .i64 ((rd_T71 l0_2 x76_3).f2))) (ds := []) m39_ s2_ rfl rfl ⟨(blk_cell BK208.out 0).trans rfl, (blk_cell BK208.out 1).trans rfl, (blk_cell BK208.out 2).trans rfl⟩ (fun hHeld => ?_); refine with_tabW impl_ValidRoom.tab12 impl_ValidRoom.bits12 (fun HT_ HW_ => ?_)
 generalize w77.drew = w78 at BK198 BK208 HB hHeld ⊢
 refine pu_ 0 81 m40_ (any_of HT_.out s2_) ?_
 refine take_ (i := 1) (N := some 82) (v := ?_) (a' := ?_) m41_ rfl rfl (take_ofW HT_.out HW_.out s2_) (fun _ _ _ h => h) (Or.inl ⟨by rfl, ?_⟩) hHeld ?_ ?_
 rotate_left
 {
 rintro w' ⟨s0, s1, s2⟩
 go_simp
 with_reducible rfl}
 rotate_left
 · exact p1_
 refine one_ (i := 2) (N := some 83) m42_ rfl rfl (one_of HT_.out s2_) (by decide) (fun K hK => ?_)
 refine goes_ Try.func32 s2_ rfl #[.int .i64 ((rd_T71 l0_2 x76_3).f0)] (by rfl) rfl rfl s3_ ?_
 with_reducible refine (impl_isMember.calls ((rd_T71 l0_2 x76_3).f0) false _ A52.out).mono ?_
 rintro e w' ⟨rfl, ⟨nd, rfl⟩⟩
 refine ⟨_, rfl, ?_⟩
 refine hK.out _ _ ⟨(blk_cell BK208.out 0).trans rfl, (blk_cell BK208.out 1).trans rfl, (blk_cell BK208.out 2).trans rfl⟩ (fun hHeld => ?_)
 clear hK K
 refine norm_ (a' := ?_) ?_ ?_
 rotate_left
 {
 show Act.put _ (some 83) _ = _
 simp only [Act.put, List.setIfInBounds_toArray, List.set_cons_zero, List.set_cons_succ, i64_w, i32_w]
 rfl}
 refine pu_ 3 84 m43_ (any_of HT_.out s2_) ?_
 refine pu_ 4 85 m44_ (any_of HT_.out s2_) ?_
 refine pn_ 5 86 m45_ (any_of HT_.out s2_) ?_
 refine pn_ 6 87 m46_ (any_of HT_.out s2_) ?_
 refine pn_ 7 88 m47_ (any_of HT_.out s2_) ?_
 refine pn_ 8 89 m48_ (any_of HT_.out s2_) ?_
 refine pu_ 9 90 m49_ (any_of HT_.out s2_) ?_
 refine pu_ 10 91 m50_ (any_of HT_.out s2_) ?_
 refine pn_ 11 92 m51_ (any_of HT_.out s2_) ?_
 refine pn_ 12 93 m52_ (any_of HT_.out s2_) ?_
 refine pn_ 13 94 m53_ (any_of HT_.out s2_) ?_
 refine pn_ 14 95 m54_ (any_of HT_.out s2_) ?_
 refine pu_ 15 96 m55_ (any_of HT_.out s2_) ?_
 refine pu_ 16 97 m56_ (any_of HT_.out s2_) ?_
 refine pn_ 17 98 m57_ (any_of HT_.out s2_) ?_
 refine pn_ 18 99 m58_ (any_of HT_.out s2_) ?_
 refine pn_ 19 100 m59_ (any_of HT_.out s2_) ?_
 refine pu_ 20 101 m60_ (any_of HT_.out s2_) ?_
 refine pu_ 21 102 m61_ (any_of HT_.out s2_) ?_
 refine pn_ 22 103 m62_ (any_of HT_.out s2_) ?_
 refine pn_ 23 104 m63_ (any_of HT_.out s2_) ?_
 refine pn_ 24 105 m64_ (any_of HT_.out s2_) ?_
 refine pn_ 25 106 m65_ (any_of HT_.out s2_) ?_
 refine pn_ 26 107 m66_ (any_of HT_.out s2_) ?_
 refine pn_ 27 108 m67_ (any_of HT_.out s2_) ?_
 refine pn_ 28 109 m68_ (any_of HT_.out s2_) ?_
 refine pn_ 29 110 m69_ (any_of HT_.out s2_) ?_
 refine pn_ 30 111 m70_ (any_of HT_.out s2_) ?_
 refine pn_ 31 112 m71_ (any_of HT_.out s2_) ?_
 refine pn_ 32 113 m72_ (any_of HT_.out s2_) ?_
 refine pn_ 33 114 m73_ (any_of HT_.out s2_) ?_
 refine pn_ 34 115 m74_ (any_of HT_.out s2_) ?_
 refine pn_ 35 116 m75_ (any_of HT_.out s2_) ?_
 refine pu_ 36 117 m76_ (any_of HT_.out s2_) ?_
 refine done_ (done_of HT_.out s2_) ?_
 try go_wp2
 go_meet
 case rel => exact ⟨_, (true), s1_, H', ⟨by have := HJ1.out; have := HK2.out; have := HK3.out; first | omega | exact Nat.le_refl _⟩, ⟨b1_ BK198.out⟩, ⟨b1_ BK208.out⟩, ⟨by repeat (first | (with_reducible first | exact HB.out | apply below_alloc | apply pw_below_drewN | apply below_drew1 | refine below_set ?_ GE198.out | refine below_set ?_ GE208.out) | exact HB.out)⟩⟩}}
 case rest =>
  skip
  {
 clear HC48
 try clear p2
 try clear c3
 try clear c5
 try clear c32
 try clear c53
 try clear c55
 obtain ⟨kq, x117_47, rfl, HA, HJ47, BK198, BK208, HB⟩ := hcut
 cases kq with
 | zero => exact absurd HA.out (by simp [impl_ValidRoom.j4])
 | succ kj47 =>
  skip
  {
 have H := HA.out
 clear HA
 simp only [impl_ValidRoom.j4] at H
 by_cases c79 : x117_47 = true
 {
 subst c79
 have H1 : (some false) = some r := by rw [if_pos rfl] at H; exact H
 clear H
 have H := H1
 clear H1
 obtain rfl := Option.some.inj H
 go_wp2
 go_ret
 exact ⟨by first | rfl | (simp [errW_none, errW_some] <;> rfl) | (simp [*, errW_none, errW_some] <;> rfl), by repeat (first | (with_reducible first | exact HB.out | apply below_alloc | apply pw_below_drewN | apply below_drew1 | refine below_set ?_ GE198.out | refine below_set ?_ GE208.out) | exact HB.out)⟩}
 {
 replace c79 := Bool.eq_false_iff.mpr c79
 subst c79
 have H1 : (impl_ValidRoom.l1 kj47 l0_2 (l0_2.length : Int) (wrap64 (x76_3 + 1)) a0_0 l0_1 l0_2 l0_3) = some r := by rw [if_neg (show ¬ (false = true) by decide)] at H; exact H
 clear H
 have H := H1
 clear H1
 have H' := Aside0.mk H
 clear H
 go_wp2
 go_roundg kj47
 case measure => have := HJ1.out; have := HK2.out; have := HK3.out; have := HJ47.out; omega
 case rel => exact ⟨(wrap64 (x76_3 + 1)), s1_, H', ⟨by have := HJ1.out; have := HK2.out; have := HK3.out; have := HJ47.out; omega⟩, ⟨b1_ BK198.out⟩, ⟨by repeat (first | (with_reducible first | exact HB.out | apply below_alloc | apply pw_below_drewN | apply below_drew1 | refine below_set ?_ GE198.out | refine below_set ?_ GE208.out) | exact HB.out)⟩⟩}}}}
 {
 rw [if_neg c47] at H
 exact absurd H (by simp)}}
 {
 rw [if_neg c46] at H
 exact absurd H (by simp)}}
 {
 rw [if_neg c45] at H
 have c45b0 : decide (x76_3 < (l0_2.length : Int)) = false := decide_eq_false c45
 clear c45
 have H' := Aside0.mk H
 clear H
 have hcz80_0 : wr.cell? ⟨gb198, 0, none⟩ = some (.bool a0_0) := (blk_cell BK198.out 0).trans rfl
 have hcz80_1 : wr.cell? ⟨gb198, 1, none⟩ = some (.slice A0_1 l0_1.length c0_1) := (blk_cell BK198.out 1).trans rfl
 have hcz80_2 : wr.cell? ⟨gb198, 2, none⟩ = some (.slice A0_2 l0_2.length c0_2) := (blk_cell BK198.out 2).trans rfl
 have hcz80_3 : wr.cell? ⟨gb198, 3, none⟩ = some (.slice A0_3 l0_3.length c0_3) := (blk_cell BK198.out 3).trans rfl
 have hfz80_0 := blk_frozen BK198.out 0
 have hfz80_1 := blk_frozen BK198.out 1
 have hfz80_2 := blk_frozen BK198.out 2
 have hfz80_3 := blk_frozen BK198.out 3
 go_wp2
 go_loopg [122] k3 (fun kq v122 w' => ∃ (x122_4 : Int), v122 = .int .i64 x122_4 ∧ Aside0 (impl_ValidRoom.l2 kq l0_3 (l0_3.length : Int) x122_4 a0_0 l0_1 l0_2 l0_3 = some r) ∧ Aside0 (kq ≤ k3) ∧ Aside0 (w'.heap[gb198]? = some (.cells #[.bool a0_0, (.slice A0_1 l0_1.length c0_1), (.slice A0_2 l0_2.length c0_2), (.slice A0_3 l0_3.length c0_3)] 28 (0, 0))) ∧ Aside0 (Below w.heap.size w w'))
 case atStart => exact ⟨(0), s1_, H', ⟨Nat.le_refl _⟩, ⟨b1_ BK198.out⟩, ⟨by repeat (first | (with_reducible first | exact HB.out | apply below_alloc | apply pw_below_drewN | apply below_drew1 | refine below_set ?_ GE198.out) | exact HB.out)⟩⟩
 case round =>
  skip
  {
 clear H'
 try clear p2
 try clear c3
 try clear c4
 try clear c5
 try clear p6
 try clear c7
 try clear c32
 try clear c45
 try clear c45b0
 try clear c46
 try clear c47
 try clear c53
 try clear c55
 try clear p64
 try clear c79
 try clear hcz80_0
 try clear hcz80_1
 try clear hcz80_2
 try clear hcz80_3
 try clear hfz80_0
 try clear hfz80_1
 try clear hfz80_2
 try clear hfz80_3
 try clear p2
 obtain ⟨x122_4, rfl, HA, HK4, BK198, HB⟩ := hrel
 cases gk with
 | zero => exact absurd HA.out (by simp [impl_ValidRoom.l2])
 | succ k4 =>
  skip
  {
 have H := HA.out
 clear HA
 simp only [impl_ValidRoom.l2] at H
 by_cases c81 : x122_4 < (l0_3.length : Int)
 {
 rw [if_pos c81] at H
 have c81b0 : decide (x122_4 < (l0_3.length : Int)) = true := decide_eq_true c81
 clear c81
 by_cases c82 : 0 ≤ x122_4
 {
 rw [if_pos c82] at H
 have c82b0 : decide (0 ≤ x122_4) = true := decide_eq_true c82
 clear c82
 by_cases c83 : x122_4 < (l0_3.length : Int)
 {
 rw [if_pos c83] at H
 have c83b0 : decide (x122_4 < (l0_3.length : Int)) = true := decide_eq_true c83
 clear c83
 have HC84 := Aside0.mk H
 clear H
 have p215 : 0 ≤ (x122_4 : Int) := of_decide_eq_true (by first | (with_reducible assumption) | assumption)
 have q215 : x122_4 < (l0_3.length : Int) := of_decide_eq_true (by first | (with_reducible assumption) | assumption)
 obtain ⟨ad215, e215, hx215_0, hx215_1⟩ := at_T73 HR0_3.out x122_4 p215 q215
 cases e215
 replace hx215_0 := (HB.out.cell (World.block_lt_of_cell? w _ hx215_0)).trans hx215_0
 replace hx215_1 := (HB.out.cell (World.block_lt_of_cell? w _ hx215_1)).trans hx215_1
 replace p215 := eq_true p215
 replace q215 := eq_true q215
 go_upto_region 18 with (first | ((with_reducible refine gate_dst (N := 8) rfl ?_); (try (refine gate_guard (by rfl) ?_; dsimp only)); refine box_event ?hg (N := 8) ?hd (cs := #[.int .i64 0, .int .i64 0]) (t := 73) ?hr ?_; (case hd => rfl); (case hg => rfl); (case hr => first | (go_simp; done) | (go_simp; rfl)); intro gb216 hg w85 hbox hb; have n0_ := Aside0.mk (blk_below (g := gb198) (o := .cells #[.bool a0_0, .slice A0_1 l0_1.length c0_1, .slice A0_2 l0_2.length c0_2, .slice (some ad215) l0_3.length c0_3] 28 (0, 0)) (b1_ BK198.out) hb); have n1_ := Aside0.mk (below_step (by repeat (first | (with_reducible first | exact HB.out | apply below_alloc | apply pw_below_drewN | apply below_drew1 | refine below_set ?_ GE198.out) | exact HB.out)) hb); have n2_ := Aside0.mk (hbox); have n3_ := Aside0.mk ((by rw [hg]; exact (below_size (by repeat (first | (with_reducible first | exact HB.out | apply below_alloc | apply pw_below_drewN | apply below_drew1 | refine below_set ?_ GE198.out) | exact HB.out))) : w.heap.size ≤ gb216)); have n4_ := Aside0.mk ((by rw [hg]; exact (below_size (by repeat (first | (with_reducible first | exact HB.out | apply below_alloc | apply pw_below_drewN | apply below_drew1 | refine below_set ?_ GE198.out) | exact HB.out))) : w.heap.size ≤ gb216)); have n5_ := Aside0.mk ((by rw [hg]; exact Nat.ne_of_lt (blk_lt (g := gb198) (o := .cells #[.bool a0_0, .slice A0_1 l0_1.length c0_1, .slice A0_2 l0_2.length c0_2, .slice (some ad215) l0_3.length c0_3] 28 (0, 0)) (b1_ BK198.out)) : gb198 ≠ gb216)); have n6_ := Aside0.mk ((by rw [hg]; exact Nat.ne_of_gt (blk_lt (g := gb198) (o := .cells #[.bool a0_0, .slice A0_1 l0_1.length c0_1, .slice A0_2 l0_2.length c0_2, .slice (some ad215) l0_3.length c0_3] 28 (0, 0)) (b1_ BK198.out)) : gb216 ≠ gb198)); clear BK198; clear HB; have BK198 := n0_; have HB := n1_; have BK216 := n2_; have GW216 := n3_; have GE216 := n4_; have NB198_216 := n5_; have NB216_198 := n6_; clear n0_ n1_ n2_ n3_ n4_ n5_ n6_; clear hb hbox hg; have hnb86 := NB216_198.out; have hnc86 := NB198_216.out; have hcz87_0 : w85.cell? ⟨gb216, 0, none⟩ = some (.int .i64 0) := (blk_cell BK216.out 0).trans rfl; have hcz87_1 : w85.cell? ⟨gb216, 1, none⟩ = some (.int .i64 0) := (blk_cell BK216.out 1).trans rfl; have hfz87_0 := blk_frozen BK216.out 0; have hfz87_1 := blk_frozen BK216.out 1))
 (try simp only [Act.put, List.setIfInBounds_toArray, List.set_cons_zero, List.set_cons_succ])
 go_cut [162] (fun v162 wc => ∃ (kq : Nat) (x162_83 : Bool), v162 = .bool x162_83 ∧ Aside0 (impl_ValidRoom.j6 kq l0_3 (l0_3.length : Int) x122_4 x162_83 a0_0 l0_1 l0_2 l0_3 = some r) ∧ Aside0 (kq ≤ k4) ∧ Aside0 (wc.heap[gb198]? = some (.cells #[.bool a0_0, (.slice A0_1 l0_1.length c0_1), (.slice A0_2 l0_2.length c0_2), (.slice (some ad215) l0_3.length c0_3)] 28 (0, 0))) ∧ Aside0 (wc.heap[gb216]? = some (.cells #[.int .i64 ((rd_T73 l0_3 x122_4).f0), .int .i64 ((rd_T73 l0_3 x122_4).f1)] 73 (0, 0))) ∧ Aside0 (Below w.heap.size w wc))
 case first =>
  as_aux_lemma =>
   skip
   {
 have H := HC84.out
 clear HC84
 replace H := Option.bind_eq_some_iff.mp H
 obtain ⟨t217, A880, H⟩ := H
 replace H : (if t217 = true then ((impl_isTick.f ((rd_T73 l0_3 x122_4).f1)).bind fun t218 => (if t218 = true then ((impl_Room_has.f k4 a0_0 l0_1 l0_2 l0_3 ((rd_T73 l0_3 x122_4).f0)).bind fun t219 => (if t219 = true then (impl_ValidRoom.j6 k4 l0_3 (l0_3.length : Int) x122_4 true a0_0 l0_1 l0_2 l0_3) else ((impl_Room_invited.f k4 a0_0 l0_1 l0_2 l0_3 ((rd_T73 l0_3 x122_4).f0)).bind fun t220 => (if t220 = true then (impl_ValidRoom.j6 k4 l0_3 (l0_3.length : Int) x122_4 true a0_0 l0_1 l0_2 l0_3) else (if x122_4 > 0 then (if 0 ≤ (wrap64 (x122_4 - 1)) then (if (wrap64 (x122_4 - 1)) < (l0_3.length : Int) then (impl_ValidRoom.j6 k4 l0_3 (l0_3.length : Int) x122_4 (decide (((rd_T73 l0_3 (wrap64 (x122_4 - 1))).f0) ≥ ((rd_T73 l0_3 x122_4).f0))) a0_0 l0_1 l0_2 l0_3) else (none)) else (none)) else (impl_ValidRoom.j6 k4 l0_3 (l0_3.length : Int) x122_4 false a0_0 l0_1 l0_2 l0_3)))))) else (impl_ValidRoom.j6 k4 l0_3 (l0_3.length : Int) x122_4 true a0_0 l0_1 l0_2 l0_3))) else (impl_ValidRoom.j6 k4 l0_3 (l0_3.length : Int) x122_4 true a0_0 l0_1 l0_2 l0_3)) = some r := H
 have A88 := Aside0.mk A880
 clear A880
 by_cases c89 : t217 = true
 {
 subst c89
 have H1 : ((impl_isTick.f ((rd_T73 l0_3 x122_4).f1)).bind fun t218 => (if t218 = true then ((impl_Room_has.f k4 a0_0 l0_1 l0_2 l0_3 ((rd_T73 l0_3 x122_4).f0)).bind fun t219 => (if t219 = true then (impl_ValidRoom.j6 k4 l0_3 (l0_3.length : Int) x122_4 true a0_0 l0_1 l0_2 l0_3) else ((impl_Room_invited.f k4 a0_0 l0_1 l0_2 l0_3 ((rd_T73 l0_3 x122_4).f0)).bind fun t220 => (if t220 = true then (impl_ValidRoom.j6 k4 l0_3 (l0_3.length : Int) x122_4 true a0_0 l0_1 l0_2 l0_3) else (if x122_4 > 0 then (if 0 ≤ (wrap64 (x122_4 - 1)) then (if (wrap64 (x122_4 - 1)) < (l0_3.length : Int) then (impl_ValidRoom.j6 k4 l0_3 (l0_3.length : Int) x122_4 (decide (((rd_T73 l0_3 (wrap64 (x122_4 - 1))).f0) ≥ ((rd_T73 l0_3 x122_4).f0))) a0_0 l0_1 l0_2 l0_3) else (none)) else (none)) else (impl_ValidRoom.j6 k4 l0_3 (l0_3.length : Int) x122_4 false a0_0 l0_1 l0_2 l0_3)))))) else (impl_ValidRoom.j6 k4 l0_3 (l0_3.length : Int) x122_4 true a0_0 l0_1 l0_2 l0_3))) = some r := by rw [if_pos rfl] at H; exact H
 clear H
 have H := H1
 clear H1
 replace H := Option.bind_eq_some_iff.mp H
 obtain ⟨t218, A900, H⟩ := H
 replace H : (if t218 = true then ((impl_Room_has.f k4 a0_0 l0_1 l0_2 l0_3 ((rd_T73 l0_3 x122_4).f0)).bind fun t219 => (if t219 = true then (impl_ValidRoom.j6 k4 l0_3 (l0_3.length : Int) x122_4 true a0_0 l0_1 l0_2 l0_3) else ((impl_Room_invited.f k4 a0_0 l0_1 l0_2 l0_3 ((rd_T73 l0_3 x122_4).f0)).bind fun t220 => (if t220 = true then (impl_ValidRoom.j6 k4 l0_3 (l0_3.length : Int) x122_4 true a0_0 l0_1 l0_2 l0_3) else (if x122_4 > 0 then (if 0 ≤ (wrap64 (x122_4 - 1)) then (if (wrap64 (x122_4 - 1)) < (l0_3.length : Int) then (impl_ValidRoom.j6 k4 l0_3 (l0_3.length : Int) x122_4 (decide (((rd_T73 l0_3 (wrap64 (x122_4 - 1))).f0) ≥ ((rd_T73 l0_3 x122_4).f0))) a0_0 l0_1 l0_2 l0_3) else (none)) else (none)) else (impl_ValidRoom.j6 k4 l0_3 (l0_3.length : Int) x122_4 false a0_0 l0_1 l0_2 l0_3)))))) else (impl_ValidRoom.j6 k4 l0_3 (l0_3.length : Int) x122_4 true a0_0 l0_1 l0_2 l0_3)) = some r := H
 have A90 := Aside0.mk A900
 clear A900
 by_cases c91 : t218 = true
 {
 subst c91
 have H1 : ((impl_Room_has.f k4 a0_0 l0_1 l0_2 l0_3 ((rd_T73 l0_3 x122_4).f0)).bind fun t219 => (if t219 = true then (impl_ValidRoom.j6 k4 l0_3 (l0_3.length : Int) x122_4 true a0_0 l0_1 l0_2 l0_3) else ((impl_Room_invited.f k4 a0_0 l0_1 l0_2 l0_3 ((rd_T73 l0_3 x122_4).f0)).bind fun t220 => (if t220 = true then (impl_ValidRoom.j6 k4 l0_3 (l0_3.length : Int) x122_4 true a0_0 l0_1 l0_2 l0_3) else (if x122_4 > 0 then (if 0 ≤ (wrap64 (x122_4 - 1)) then (if (wrap64 (x122_4 - 1)) < (l0_3.length : Int) then (impl_ValidRoom.j6 k4 l0_3 (l0_3.length : Int) x122_4 (decide (((rd_T73 l0_3 (wrap64 (x122_4 - 1))).f0) ≥ ((rd_T73 l0_3 x122_4).f0))) a0_0 l0_1 l0_2 l0_3) else (none)) else (none)) else (impl_ValidRoom.j6 k4 l0_3 (l0_3.length : Int) x122_4 false a0_0 l0_1 l0_2 l0_3)))))) = some r := by rw [if_pos rfl] at H; exact H
 clear H
 have H := H1
 clear H1
 replace H := Option.bind_eq_some_iff.mp H
 obtain ⟨t219, A920, H⟩ := H
 replace H : (if t219 = true then (impl_ValidRoom.j6 k4 l0_3 (l0_3.length : Int) x122_4 true a0_0 l0_1 l0_2 l0_3) else ((impl_Room_invited.f k4 a0_0 l0_1 l0_2 l0_3 ((rd_T73 l0_3 x122_4).f0)).bind fun t220 => (if t220 = true then (impl_ValidRoom.j6 k4 l0_3 (l0_3.length : Int) x122_4 true a0_0 l0_1 l0_2 l0_3) else (if x122_4 > 0 then (if 0 ≤ (wrap64 (x122_4 - 1)) then (if (wrap64 (x122_4 - 1)) < (l0_3.length : Int) then (impl_ValidRoom.j6 k4 l0_3 (l0_3.length : Int) x122_4 (decide (((rd_T73 l0_3 (wrap64 (x122_4 - 1))).f0) ≥ ((rd_T73 l0_3 x122_4).f0))) a0_0 l0_1 l0_2 l0_3) else (none)) else (none)) else (impl_ValidRoom.j6 k4 l0_3 (l0_3.length : Int) x122_4 false a0_0 l0_1 l0_2 l0_3))))) = some r := H
 have A92 := Aside0.mk A920
 clear A920
 by_cases c93 : t219 = true
 {
 subst c93
 have H1 : (impl_ValidRoom.j6 k4 l0_3 (l0_3.length : Int) x122_4 true a0_0 l0_1 l0_2 l0_3) = some r := by rw [if_pos rfl] at H; exact H
 clear H
 have H := H1
 clear H1
 have H' := Aside0.mk H
 clear H
 try go_wp2
 have n0_ : Aside0 (((w85.setCell ⟨gb216, 0, none⟩ (.int .i64 ((rd_T73 l0_3 x122_4).f0))).setCell ⟨gb216, 1, none⟩ (.int .i64 ((rd_T73 l0_3 x122_4).f1))).heap[gb198]? = some (.cells #[.bool a0_0, .slice A0_1 l0_1.length c0_1, .slice A0_2 l0_2.length c0_2, .slice (some ad215) l0_3.length c0_3] 28 (0, 0))) := ⟨by (with_reducible repeat (first | refine blk_drewN ?_ _ | refine blk_drew ?_ | refine blk_alloc ?_ _)); refine blk_far ?_ NB198_216.out _; (with_reducible repeat (first | refine blk_drewN ?_ _ | refine blk_drew ?_ | refine blk_alloc ?_ _)); refine blk_far ?_ NB198_216.out _; (with_reducible repeat (first | refine blk_drewN ?_ _ | refine blk_drew ?_ | refine blk_alloc ?_ _)); exact BK198.out⟩
 have n1_ : Aside0 (((w85.setCell ⟨gb216, 0, none⟩ (.int .i64 ((rd_T73 l0_3 x122_4).f0))).setCell ⟨gb216, 1, none⟩ (.int .i64 ((rd_T73 l0_3 x122_4).f1))).heap[gb216]? = some (.cells #[.int .i64 ((rd_T73 l0_3 x122_4).f0), .int .i64 ((rd_T73 l0_3 x122_4).f1)] 73 (0, 0))) := ⟨by (with_reducible repeat (first | refine blk_drewN ?_ _ | refine blk_drew ?_ | refine blk_alloc ?_ _)); refine blk_put (cs := #[.int .i64 ((rd_T73 l0_3 x122_4).f0), .int .i64 0]) ?_ 1 _ rfl; (with_reducible repeat (first | refine blk_drewN ?_ _ | refine blk_drew ?_ | refine blk_alloc ?_ _)); refine blk_put (cs := #[.int .i64 0, .int .i64 0]) ?_ 0 _ rfl; (with_reducible repeat (first | refine blk_drewN ?_ _ | refine blk_drew ?_ | refine blk_alloc ?_ _)); exact BK216.out⟩
 have n2_ : Aside0 (Below w.heap.size w ((w85.setCell ⟨gb216, 0, none⟩ (.int .i64 ((rd_T73 l0_3 x122_4).f0))).setCell ⟨gb216, 1, none⟩ (.int .i64 ((rd_T73 l0_3 x122_4).f1)))) := ⟨by repeat (first | (with_reducible first | exact HB.out | apply below_alloc | apply pw_below_drewN | apply below_drew1 | refine below_set ?_ GE198.out | refine below_set ?_ GE216.out) | exact HB.out)⟩
 (try clear BK198)
 (try clear BK216)
 (try clear HB)
 generalize ((w85.setCell ⟨gb216, 0, none⟩ (.int .i64 ((rd_T73 l0_3 x122_4).f0))).setCell ⟨gb216, 1, none⟩ (.int .i64 ((rd_T73 l0_3 x122_4).f1))) = w94 at n0_ n1_ n2_ ⊢
 have BK198 := n0_
 have BK216 := n1_
 have HB := n2_
 clear n0_ n1_ n2_
 have n0_ := Aside0.mk (blk_drew BK198.out)
 have n1_ := Aside0.mk (blk_drew BK216.out)
 have n2_ := Aside0.mk (below_drew1 HB.out)
 clear BK198
 clear BK216
 clear HB
 have BK198 := n0_
 have BK216 := n1_
 have HB := n2_
 clear n0_ n1_ n2_
 refine start_ (n := 36) (S := fun w' => w'.cell? ⟨gb216, 0, none⟩ = some (.int .i64 ((rd_T73 l0_3 x122_4).f0)) ∧ w'.cell? ⟨gb216, 1, none⟩ = some (.int .i64 ((rd_T73 l0_3 x122_4).f1))) (ds := []) m77_ s2_ rfl rfl ⟨(blk_cell BK216.out 0).trans rfl, (blk_cell BK216.out 1).trans rfl⟩ (fun hHeld => ?_); refine with_tabW impl_ValidRoom.tab18 impl_ValidRoom.bits18 (fun HT_ HW_ => ?_)
 generalize w94.drew = w95 at BK198 BK216 HB hHeld ⊢
 refine pu_ 0 127 m78_ (any_of HT_.out s2_) ?_
 refine take_ (i := 1) (N := some 128) (v := ?_) (a' := ?_) m79_ rfl rfl (take_ofW HT_.out HW_.out s2_) (fun _ _ _ h => h) (Or.inl ⟨by rfl, ?_⟩) hHeld ?_ ?_
 rotate_left
 {
 rintro w' ⟨s0, s1⟩
 go_simp
 with_reducible rfl}
 rotate_left
 · exact p1_
 refine one_ (i := 2) (N := some 129) m80_ rfl rfl (one_of HT_.out s2_) (by decide) (fun K hK => ?_)
 refine goes_ Try.func32 s2_ rfl #[.int .i64 ((rd_T73 l0_3 x122_4).f0)] (by rfl) rfl rfl s3_ ?_
 with_reducible refine (impl_isMember.calls ((rd_T73 l0_3 x122_4).f0) true _ A88.out).mono ?_
 rintro e w' ⟨rfl, ⟨nd, rfl⟩⟩
 refine ⟨_, rfl, ?_⟩
 refine hK.out _ _ ⟨(blk_cell BK216.out 0).trans rfl, (blk_cell BK216.out 1).trans rfl⟩ (fun hHeld => ?_)
 clear hK K
 refine norm_ (a' := ?_) ?_ ?_
 rotate_left
 {
 show Act.put _ (some 129) _ = _
 simp only [Act.put, List.setIfInBounds_toArray, List.set_cons_zero, List.set_cons_succ, i64_w, i32_w]
 rfl}
 refine pu_ 3 130 m81_ (any_of HT_.out s2_) ?_
 refine pu_ 4 131 m82_ (any_of HT_.out s2_) ?_
 refine pu_ 5 132 m83_ (any_of HT_.out s2_) ?_
 refine take_ (i := 6) (N := some 133) (v := ?_) (a' := ?_) m84_ rfl rfl (take_ofW HT_.out HW_.out s2_) (fun _ _ _ h => h) (Or.inl ⟨by rfl, ?_⟩) hHeld ?_ ?_
 rotate_left
 {
 rintro w' ⟨s0, s1⟩
 go_simp
 with_reducible rfl}
 rotate_left
 · exact p1_
 refine one_ (i := 7) (N := some 134) m85_ rfl rfl (one_of HT_.out s2_) (by decide) (fun K hK => ?_)
 refine goes_ Try.func34 s2_ rfl #[.int .i64 ((rd_T73 l0_3 x122_4).f1)] (by rfl) rfl rfl s3_ ?_
 with_reducible refine (impl_isTick.calls ((rd_T73 l0_3 x122_4).f1) true _ A90.out).mono ?_
 rintro e w' ⟨rfl, ⟨nd, rfl⟩⟩
 refine ⟨_, rfl, ?_⟩
 refine hK.out _ _ ⟨(blk_cell BK216.out 0).trans rfl, (blk_cell BK216.out 1).trans rfl⟩ (fun hHeld => ?_)
 clear hK K
 refine norm_ (a' := ?_) ?_ ?_
 rotate_left
 {
 show Act.put _ (some 134) _ = _
 simp only [Act.put, List.setIfInBounds_toArray, List.set_cons_zero, List.set_cons_succ, i64_w, i32_w]
 rfl}
 refine pu_ 8 135 m86_ (any_of HT_.out s2_) ?_
 refine pu_ 9 136 m87_ (any_of HT_.out s2_) ?_
 refine pu_ 10 137 m88_ (any_of HT_.out s2_) ?_
 refine pu_ 11 138 m89_ (any_of HT_.out s2_) ?_
 refine take_ (i := 12) (N := some 139) (v := ?_) (a' := ?_) m90_ rfl rfl (take_ofW HT_.out HW_.out s2_) (fun _ _ _ h => h) (Or.inl ⟨by rfl, ?_⟩) hHeld ?_ ?_
 rotate_left
 {
 rintro w' ⟨s0, s1⟩
 go_simp
 with_reducible rfl}
 rotate_left
 · exact p1_
 refine one_ (i := 13) (N := some 140) m91_ rfl rfl (one_of HT_.out s2_) (by decide) (fun K hK => ?_)
 refine goes_ Try.func35 s2_ rfl #[.pointer (some ⟨gb198, 0, none⟩), .int .i64 ((rd_T73 l0_3 x122_4).f0)] (by rfl) rfl rfl s3_ ?_
 with_reducible refine (impl_Room_has.calls k4 gb198 a0_0 A0_1 c0_1 l0_1 A0_2 c0_2 l0_2 (some ad215) c0_3 l0_3 ((rd_T73 l0_3 x122_4).f0) true _ ?side1 ?side2 ?side3 ?side4 ?side5 ?side6 ?side7 A92.out).mono ?_
 (case side1 => exact (b1_ BK198.out))
 (case side2 => repeat (first | exact (Kd.C_below HR0_1.out (by repeat (first | (with_reducible first | exact HB.out | apply below_alloc | apply pw_below_drewN | apply below_drew1 | refine below_set ?_ GE198.out | refine below_set ?_ GE216.out) | exact HB.out))) | (with_reducible refine Kd.C_alloc ?_ _) | (with_reducible refine Kd.C_drewN ?_ _) | (with_reducible refine Kd.C_drew ?_)))
 (case side3 => exact HC0_1.out)
 (case side4 => repeat (first | exact (Kd.C_below HR0_2.out (by repeat (first | (with_reducible first | exact HB.out | apply below_alloc | apply pw_below_drewN | apply below_drew1 | refine below_set ?_ GE198.out | refine below_set ?_ GE216.out) | exact HB.out))) | (with_reducible refine Kd.C_alloc ?_ _) | (with_reducible refine Kd.C_drewN ?_ _) | (with_reducible refine Kd.C_drew ?_)))
 (case side5 => exact HC0_2.out)
 (case side6 => repeat (first | exact (Kd.C_below HR0_3.out (by repeat (first | (with_reducible first | exact HB.out | apply below_alloc | apply pw_below_drewN | apply below_drew1 | refine below_set ?_ GE198.out | refine below_set ?_ GE216.out) | exact HB.out))) | (with_reducible refine Kd.C_alloc ?_ _) | (with_reducible refine Kd.C_drewN ?_ _) | (with_reducible refine Kd.C_drew ?_)))
 (case side7 => exact HC0_3.out)
 rintro e w96 ⟨rfl, hb⟩
 refine ⟨_, rfl, ?_⟩
 have n0_ := Aside0.mk (blk_below (g := gb198) (o := .cells #[.bool a0_0, .slice A0_1 l0_1.length c0_1, .slice A0_2 l0_2.length c0_2, .slice (some ad215) l0_3.length c0_3] 28 (0, 0)) (b1_ BK198.out) hb)
 have n1_ := Aside0.mk (blk_below (g := gb216) (o := .cells #[.int .i64 ((rd_T73 l0_3 x122_4).f0), .int .i64 ((rd_T73 l0_3 x122_4).f1)] 73 (0, 0)) (b1_ BK216.out) hb)
 have n2_ := Aside0.mk (below_step (by repeat (first | (with_reducible first | exact HB.out | apply below_alloc | apply pw_below_drewN | apply below_drew1 | refine below_set ?_ GE198.out | refine below_set ?_ GE216.out) | exact HB.out)) hb)
 clear BK198
 clear BK216
 clear HB
 have BK198 := n0_
 have BK216 := n1_
 have HB := n2_
 clear n0_ n1_ n2_
 (try clear hb)
 (try clear hb2)
 (try clear hk)
 (try clear hi)
 refine hK.out _ _ ⟨(blk_cell BK216.out 0).trans rfl, (blk_cell BK216.out 1).trans rfl⟩ (fun hHeld => ?_)
 clear hK K
 refine norm_ (a' := ?_) ?_ ?_
 rotate_left
 {
 show Act.put _ (some 140) _ = _
 simp only [Act.put, List.setIfInBounds_toArray, List.set_cons_zero, List.set_cons_succ, i64_w, i32_w]
 rfl}
 refine pu_ 14 141 m92_ (any_of HT_.out s2_) ?_
 refine pu_ 15 142 m93_ (any_of HT_.out s2_) ?_
 refine pn_ 16 143 m94_ (any_of HT_.out s2_) ?_
 refine pn_ 17 144 m95_ (any_of HT_.out s2_) ?_
 refine pn_ 18 145 m96_ (any_of HT_.out s2_) ?_
 refine pu_ 19 146 m97_ (any_of HT_.out s2_) ?_
 refine pu_ 20 147 m98_ (any_of HT_.out s2_) ?_
 refine pn_ 21 148 m99_ (any_of HT_.out s2_) ?_
 refine pn_ 22 149 m100_ (any_of HT_.out s2_) ?_
 refine pn_ 23 150 m101_ (any_of HT_.out s2_) ?_
 refine pn_ 24 151 m102_ (any_of HT_.out s2_) ?_
 refine pn_ 25 152 m103_ (any_of HT_.out s2_) ?_
 refine pn_ 26 153 m104_ (any_of HT_.out s2_) ?_
 refine pn_ 27 154 m105_ (any_of HT_.out s2_) ?_
 refine pn_ 28 155 m106_ (any_of HT_.out s2_) ?_
 refine pn_ 29 156 m107_ (any_of HT_.out s2_) ?_
 refine pn_ 30 157 m108_ (any_of HT_.out s2_) ?_
 refine pn_ 31 158 m109_ (any_of HT_.out s2_) ?_
 refine pn_ 32 159 m110_ (any_of HT_.out s2_) ?_
 refine pn_ 33 160 m111_ (any_of HT_.out s2_) ?_
 refine pn_ 34 161 m112_ (any_of HT_.out s2_) ?_
 refine pu_ 35 162 m113_ (any_of HT_.out s2_) ?_
 refine done_ (done_of HT_.out s2_) ?_
 try go_wp2
 go_meet
 case rel => exact ⟨_, (true), s1_, H', ⟨by have := HJ1.out; have := HK2.out; have := HK3.out; have := HK4.out; first | omega | exact Nat.le_refl _⟩, ⟨b1_ BK198.out⟩, ⟨b1_ BK216.out⟩, ⟨by repeat (first | (with_reducible first | exact HB.out | apply below_alloc | apply pw_below_drewN | apply below_drew1 | refine below_set ?_ GE198.out | refine below_set ?_ GE216.out) | exact HB.out)⟩⟩}
 {
 replace c93 := Bool.eq_false_iff.mpr c93
 subst c93
 have H1 : ((impl_Room_invited.f k4 a0_0 l0_1 l0_2 l0_3 ((rd_T73 l0_3 x122_4).f0)).bind fun t220 => (if t220 = true then (impl_ValidRoom.j6 k4 l0_3 (l0_3.length : Int) x122_4 true a0_0 l0_1 l0_2 l0_3) else (if x122_4 > 0 then (if 0 ≤ (wrap64 (x122_4 - 1)) then (if (wrap64 (x122_4 - 1)) < (l0_3.length : Int) then (impl_ValidRoom.j6 k4 l0_3 (l0_3.length : Int) x122_4 (decide (((rd_T73 l0_3 (wrap64 (x122_4 - 1))).f0) ≥ ((rd_T73 l0_3 x122_4).f0))) a0_0 l0_1 l0_2 l0_3) else (none)) else (none)) else (impl_ValidRoom.j6 k4 l0_3 (l0_3.length : Int) x122_4 false a0_0 l0_1 l0_2 l0_3)))) = some r := by rw [if_neg (show ¬ (false = true) by decide)] at H; exact H
 clear H
 have H := H1
 clear H1
 replace H := Option.bind_eq_some_iff.mp H
 obtain ⟨t220, A970, H⟩ := H
 replace H : (if t220 = true then (impl_ValidRoom.j6 k4 l0_3 (l0_3.length : Int) x122_4 true a0_0 l0_1 l0_2 l0_3) else (if x122_4 > 0 then (if 0 ≤ (wrap64 (x122_4 - 1)) then (if (wrap64 (x122_4 - 1)) < (l0_3.length : Int) then (impl_ValidRoom.j6 k4 l0_3 (l0_3.length : Int) x122_4 (decide (((rd_T73 l0_3 (wrap64 (x122_4 - 1))).f0) ≥ ((rd_T73 l0_3 x122_4).f0))) a0_0 l0_1 l0_2 l0_3) else (none)) else (none)) else (impl_ValidRoom.j6 k4 l0_3 (l0_3.length : Int) x122_4 false a0_0 l0_1 l0_2 l0_3))) = some r := H
 have A97 := Aside0.mk A970
 clear A970
 by_cases c98 : t220 = true
 {
 subst c98
 have H1 : (impl_ValidRoom.j6 k4 l0_3 (l0_3.length : Int) x122_4 true a0_0 l0_1 l0_2 l0_3) = some r := by rw [if_pos rfl] at H; exact H
 clear H
 have H := H1
 clear H1
 have H' := Aside0.mk H
 clear H
 try go_wp2
 have n0_ : Aside0 (((w85.setCell ⟨gb216, 0, none⟩ (.int .i64 ((rd_T73 l0_3 x122_4).f0))).setCell ⟨gb216, 1, none⟩ (.int .i64 ((rd_T73 l0_3 x122_4).f1))).heap[gb198]? = some (.cells #[.bool a0_0, .slice A0_1 l0_1.length c0_1, .slice A0_2 l0_2.length c0_2, .slice (some ad215) l0_3.length c0_3] 28 (0, 0))) := ⟨by (with_reducible repeat (first | refine blk_drewN ?_ _ | refine blk_drew ?_ | refine blk_alloc ?_ _)); refine blk_far ?_ NB198_216.out _; (with_reducible repeat (first | refine blk_drewN ?_ _ | refine blk_drew ?_ | refine blk_alloc ?_ _)); refine blk_far ?_ NB198_216.out _; (with_reducible repeat (first | refine blk_drewN ?_ _ | refine blk_drew ?_ | refine blk_alloc ?_ _)); exact BK198.out⟩
 have n1_ : Aside0 (((w85.setCell ⟨gb216, 0, none⟩ (.int .i64 ((rd_T73 l0_3 x122_4).f0))).setCell ⟨gb216, 1, none⟩ (.int .i64 ((rd_T73 l0_3 x122_4).f1))).heap[gb216]? = some (.cells #[.int .i64 ((rd_T73 l0_3 x122_4).f0), .int .i64 ((rd_T73 l0_3 x122_4).f1)] 73 (0, 0))) := ⟨by (with_reducible repeat (first | refine blk_drewN ?_ _ | refine blk_drew ?_ | refine blk_alloc ?_ _)); refine blk_put (cs := #[.int .i64 ((rd_T73 l0_3 x122_4).f0), .int .i64 0]) ?_ 1 _ rfl; (with_reducible repeat (first | refine blk_drewN ?_ _ | refine blk_drew ?_ | refine blk_alloc ?_ _)); refine blk_put (cs := #[.int .i64 0, .int .i64 0]) ?_ 0 _ rfl; (with_reducible repeat (first | refine blk_drewN ?_ _ | refine blk_drew ?_ | refine blk_alloc ?_ _)); exact BK216.out⟩
 have n2_ : Aside0 (Below w.heap.size w ((w85.setCell ⟨gb216, 0, none⟩ (.int .i64 ((rd_T73 l0_3 x122_4).f0))).setCell ⟨gb216, 1, none⟩ (.int .i64 ((rd_T73 l0_3 x122_4).f1)))) := ⟨by repeat (first | (with_reducible first | exact HB.out | apply below_alloc | apply pw_below_drewN | apply below_drew1 | refine below_set ?_ GE198.out | refine below_set ?_ GE216.out) | exact HB.out)⟩
 (try clear BK198)
 (try clear BK216)
 (try clear HB)
 generalize ((w85.setCell ⟨gb216, 0, none⟩ (.int .i64 ((rd_T73 l0_3 x122_4).f0))).setCell ⟨gb216, 1, none⟩ (.int .i64 ((rd_T73 l0_3 x122_4).f1))) = w99 at n0_ n1_ n2_ ⊢
 have BK198 := n0_
 have BK216 := n1_
 have HB := n2_
 clear n0_ n1_ n2_
 have n0_ := Aside0.mk (blk_drew BK198.out)
 have n1_ := Aside0.mk (blk_drew BK216.out)
 have n2_ := Aside0.mk (below_drew1 HB.out)
 clear BK198
 clear BK216
 clear HB
 have BK198 := n0_
 have BK216 := n1_
 have HB := n2_
 clear n0_ n1_ n2_
 refine start_ (n := 36) (S := fun w' => w'.cell? ⟨gb216, 0, none⟩ = some (.int .i64 ((rd_T73 l0_3 x122_4).f0)) ∧ w'.cell? ⟨gb216, 1, none⟩ = some (.int .i64 ((rd_T73 l0_3 x122_4).f1))) (ds := []) m77_ s2_ rfl rfl ⟨(blk_cell BK216.out 0).trans rfl, (blk_cell BK216.out 1).trans rfl⟩ (fun hHeld => ?_); refine with_tabW impl_ValidRoom.tab18 impl_ValidRoom.bits18 (fun HT_ HW_ => ?_)
 generalize w99.drew = w100 at BK198 BK216 HB hHeld ⊢
 refine pu_ 0 127 m78_ (any_of HT_.out s2_) ?_
 refine take_ (i := 1) (N := some 128) (v := ?_) (a' := ?_) m79_ rfl rfl (take_ofW HT_.out HW_.out s2_) (fun _ _ _ h => h) (Or.inl ⟨by rfl, ?_⟩) hHeld ?_ ?_
 rotate_left
 {
 rintro w' ⟨s0, s1⟩
 go_simp
 with_reducible rfl}
 rotate_left
 · exact p1_
 refine one_ (i := 2) (N := some 129) m80_ rfl rfl (one_of HT_.out s2_) (by decide) (fun K hK => ?_)
 refine goes_ Try.func32 s2_ rfl #[.int .i64 ((rd_T73 l0_3 x122_4).f0)] (by rfl) rfl rfl s3_ ?_
 with_reducible refine (impl_isMember.calls ((rd_T73 l0_3 x122_4).f0) true _ A88.out).mono ?_
 rintro e w' ⟨rfl, ⟨nd, rfl⟩⟩
 refine ⟨_, rfl, ?_⟩
 refine hK.out _ _ ⟨(blk_cell BK216.out 0).trans rfl, (blk_cell BK216.out 1).trans rfl⟩ (fun hHeld => ?_)
 clear hK K
 refine norm_ (a' := ?_) ?_ ?_
 rotate_left
 {
 show Act.put _ (some 129) _ = _
 simp only [Act.put, List.setIfInBounds_toArray, List.set_cons_zero, List.set_cons_succ, i64_w, i32_w]
 rfl}
 refine pu_ 3 130 m81_ (any_of HT_.out s2_) ?_
 refine pu_ 4 131 m82_ (any_of HT_.out s2_) ?_
 refine pu_ 5 132 m83_ (any_of HT_.out s2_) ?_
 refine take_ (i := 6) (N := some 133) (v := ?_) (a' := ?_) m84_ rfl rfl (take_ofW HT_.out HW_.out s2_) (fun _ _ _ h => h) (Or.inl ⟨by rfl, ?_⟩) hHeld ?_ ?_
 rotate_left
 {
 rintro w' ⟨s0, s1⟩
 go_simp
 with_reducible rfl}
 rotate_left
 · exact p1_
 refine one_ (i := 7) (N := some 134) m85_ rfl rfl (one_of HT_.out s2_) (by decide) (fun K hK => ?_)
 refine goes_ Try.func34 s2_ rfl #[.int .i64 ((rd_T73 l0_3 x122_4).f1)] (by rfl) rfl rfl s3_ ?_
 with_reducible refine (impl_isTick.calls ((rd_T73 l0_3 x122_4).f1) true _ A90.out).mono ?_
 rintro e w' ⟨rfl, ⟨nd, rfl⟩⟩
 refine ⟨_, rfl, ?_⟩
 refine hK.out _ _ ⟨(blk_cell BK216.out 0).trans rfl, (blk_cell BK216.out 1).trans rfl⟩ (fun hHeld => ?_)
 clear hK K
 refine norm_ (a' := ?_) ?_ ?_
 rotate_left
 {
 show Act.put _ (some 134) _ = _
 simp only [Act.put, List.setIfInBounds_toArray, List.set_cons_zero, List.set_cons_succ, i64_w, i32_w]
 rfl}
 refine pu_ 8 135 m86_ (any_of HT_.out s2_) ?_
 refine pu_ 9 136 m87_ (any_of HT_.out s2_) ?_
 refine pu_ 10 137 m88_ (any_of HT_.out s2_) ?_
 refine pu_ 11 138 m89_ (any_of HT_.out s2_) ?_
 refine take_ (i := 12) (N := some 139) (v := ?_) (a' := ?_) m90_ rfl rfl (take_ofW HT_.out HW_.out s2_) (fun _ _ _ h => h) (Or.inl ⟨by rfl, ?_⟩) hHeld ?_ ?_
 rotate_left
 {
 rintro w' ⟨s0, s1⟩
 go_simp
 with_reducible rfl}
 rotate_left
 · exact p1_
 refine one_ (i := 13) (N := some 140) m91_ rfl rfl (one_of HT_.out s2_) (by decide) (fun K hK => ?_)
 refine goes_ Try.func35 s2_ rfl #[.pointer (some ⟨gb198, 0, none⟩), .int .i64 ((rd_T73 l0_3 x122_4).f0)] (by rfl) rfl rfl s3_ ?_
 with_reducible refine (impl_Room_has.calls k4 gb198 a0_0 A0_1 c0_1 l0_1 A0_2 c0_2 l0_2 (some ad215) c0_3 l0_3 ((rd_T73 l0_3 x122_4).f0) false _ ?side1 ?side2 ?side3 ?side4 ?side5 ?side6 ?side7 A92.out).mono ?_
 (case side1 => exact (b1_ BK198.out))
 (case side2 => repeat (first | exact (Kd.C_below HR0_1.out (by repeat (first | (with_reducible first | exact HB.out | apply below_alloc | apply pw_below_drewN | apply below_drew1 | refine below_set ?_ GE198.out | refine below_set ?_ GE216.out) | exact HB.out))) | (with_reducible refine Kd.C_alloc ?_ _) | (with_reducible refine Kd.C_drewN ?_ _) | (with_reducible refine Kd.C_drew ?_)))
 (case side3 => exact HC0_1.out)
 (case side4 => repeat (first | exact (Kd.C_below HR0_2.out (by repeat (first | (with_reducible first | exact HB.out | apply below_alloc | apply pw_below_drewN | apply below_drew1 | refine below_set ?_ GE198.out | refine below_set ?_ GE216.out) | exact HB.out))) | (with_reducible refine Kd.C_alloc ?_ _) | (with_reducible refine Kd.C_drewN ?_ _) | (with_reducible refine Kd.C_drew ?_)))
 (case side5 => exact HC0_2.out)
 (case side6 => repeat (first | exact (Kd.C_below HR0_3.out (by repeat (first | (with_reducible first | exact HB.out | apply below_alloc | apply pw_below_drewN | apply below_drew1 | refine below_set ?_ GE198.out | refine below_set ?_ GE216.out) | exact HB.out))) | (with_reducible refine Kd.C_alloc ?_ _) | (with_reducible refine Kd.C_drewN ?_ _) | (with_reducible refine Kd.C_drew ?_)))
 (case side7 => exact HC0_3.out)
 rintro e w101 ⟨rfl, hb⟩
 refine ⟨_, rfl, ?_⟩
 have n0_ := Aside0.mk (blk_below (g := gb198) (o := .cells #[.bool a0_0, .slice A0_1 l0_1.length c0_1, .slice A0_2 l0_2.length c0_2, .slice (some ad215) l0_3.length c0_3] 28 (0, 0)) (b1_ BK198.out) hb)
 have n1_ := Aside0.mk (blk_below (g := gb216) (o := .cells #[.int .i64 ((rd_T73 l0_3 x122_4).f0), .int .i64 ((rd_T73 l0_3 x122_4).f1)] 73 (0, 0)) (b1_ BK216.out) hb)
 have n2_ := Aside0.mk (below_step (by repeat (first | (with_reducible first | exact HB.out | apply below_alloc | apply pw_below_drewN | apply below_drew1 | refine below_set ?_ GE198.out | refine below_set ?_ GE216.out) | exact HB.out)) hb)
 clear BK198
 clear BK216
 clear HB
 have BK198 := n0_
 have BK216 := n1_
 have HB := n2_
 clear n0_ n1_ n2_
 (try clear hb)
 (try clear hb2)
 (try clear hk)
 (try clear hi)
 refine hK.out _ _ ⟨(blk_cell BK216.out 0).trans rfl, (blk_cell BK216.out 1).trans rfl⟩ (fun hHeld => ?_)
 clear hK K
 refine norm_ (a' := ?_) ?_ ?_
 rotate_left
 {
 show Act.put _ (some 140) _ = _
 simp only [Act.put, List.setIfInBounds_toArray, List.set_cons_zero, List.set_cons_succ, i64_w, i32_w]
 rfl}
 refine pu_ 14 141 m92_ (any_of HT_.out s2_) ?_
 refine pu_ 15 142 m93_ (any_of HT_.out s2_) ?_
 refine pu_ 16 143 m94_ (any_of HT_.out s2_) ?_
 refine take_ (i := 17) (N := some 144) (v := ?_) (a' := ?_) m95_ rfl rfl (take_ofW HT_.out HW_.out s2_) (fun _ _ _ h => h) (Or.inl ⟨by rfl, ?_⟩) hHeld ?_ ?_
 rotate_left
 {
 rintro w' ⟨s0, s1⟩
 go_simp
 with_reducible rfl}
 rotate_left
 · exact p1_
 refine one_ (i := 18) (N := some 145) m96_ rfl rfl (one_of HT_.out s2_) (by decide) (fun K hK => ?_)
 refine goes_ Try.func36 s2_ rfl #[.pointer (some ⟨gb198, 0, none⟩), .int .i64 ((rd_T73 l0_3 x122_4).f0)] (by rfl) rfl rfl s3_ ?_
 with_reducible refine (impl_Room_invited.calls k4 gb198 a0_0 A0_1 c0_1 l0_1 A0_2 c0_2 l0_2 (some ad215) c0_3 l0_3 ((rd_T73 l0_3 x122_4).f0) true _ ?side1 ?side2 ?side3 ?side4 ?side5 ?side6 ?side7 A97.out).mono ?_
 (case side1 => exact (b1_ BK198.out))
 (case side2 => repeat (first | exact (Kd.C_below HR0_1.out HB.out) | (with_reducible refine Kd.C_alloc ?_ _) | (with_reducible refine Kd.C_drewN ?_ _) | (with_reducible refine Kd.C_drew ?_)))
 (case side3 => exact HC0_1.out)
 (case side4 => repeat (first | exact (Kd.C_below HR0_2.out HB.out) | (with_reducible refine Kd.C_alloc ?_ _) | (with_reducible refine Kd.C_drewN ?_ _) | (with_reducible refine Kd.C_drew ?_)))
 (case side5 => exact HC0_2.out)
 (case side6 => repeat (first | exact (Kd.C_below HR0_3.out HB.out) | (with_reducible refine Kd.C_alloc ?_ _) | (with_reducible refine Kd.C_drewN ?_ _) | (with_reducible refine Kd.C_drew ?_)))
 (case side7 => exact HC0_3.out)
 rintro e w102 ⟨rfl, hb⟩
 refine ⟨_, rfl, ?_⟩
 have n0_ := Aside0.mk (blk_below (g := gb198) (o := .cells #[.bool a0_0, .slice A0_1 l0_1.length c0_1, .slice A0_2 l0_2.length c0_2, .slice (some ad215) l0_3.length c0_3] 28 (0, 0)) (b1_ BK198.out) hb)
 have n1_ := Aside0.mk (blk_below (g := gb216) (o := .cells #[.int .i64 ((rd_T73 l0_3 x122_4).f0), .int .i64 ((rd_T73 l0_3 x122_4).f1)] 73 (0, 0)) (b1_ BK216.out) hb)
 have n2_ := Aside0.mk (below_step (by repeat (first | (with_reducible first | exact HB.out | apply below_alloc | apply pw_below_drewN | apply below_drew1 | refine below_set ?_ GE198.out | refine below_set ?_ GE216.out) | exact HB.out)) hb)
 clear BK198
 clear BK216
 clear HB
 have BK198 := n0_
 have BK216 := n1_
 have HB := n2_
 clear n0_ n1_ n2_
 (try clear hb)
 (try clear hb2)
 (try clear hk)
 (try clear hi)
 refine hK.out _ _ ⟨(blk_cell BK216.out 0).trans rfl, (blk_cell BK216.out 1).trans rfl⟩ (fun hHeld => ?_)
 clear hK K
 refine norm_ (a' := ?_) ?_ ?_
 rotate_left
 {
 show Act.put _ (some 145) _ = _
 simp only [Act.put, List.setIfInBounds_toArray, List.set_cons_zero, List.set_cons_succ, i64_w, i32_w]
 rfl}
 refine pu_ 19 146 m97_ (any_of HT_.out s2_) ?_
 refine pu_ 20 147 m98_ (any_of HT_.out s2_) ?_
 refine pn_ 21 148 m99_ (any_of HT_.out s2_) ?_
 refine pn_ 22 149 m100_ (any_of HT_.out s2_) ?_
 refine pn_ 23 150 m101_ (any_of HT_.out s2_) ?_
 refine pn_ 24 151 m102_ (any_of HT_.out s2_) ?_
 refine pn_ 25 152 m103_ (any_of HT_.out s2_) ?_
 refine pn_ 26 153 m104_ (any_of HT_.out s2_) ?_
 refine pn_ 27 154 m105_ (any_of HT_.out s2_) ?_
 refine pn_ 28 155 m106_ (any_of HT_.out s2_) ?_
 refine pn_ 29 156 m107_ (any_of HT_.out s2_) ?_
 refine pn_ 30 157 m108_ (any_of HT_.out s2_) ?_
 refine pn_ 31 158 m109_ (any_of HT_.out s2_) ?_
 refine pn_ 32 159 m110_ (any_of HT_.out s2_) ?_
 refine pn_ 33 160 m111_ (any_of HT_.out s2_) ?_
 refine pn_ 34 161 m112_ (any_of HT_.out s2_) ?_
 refine pu_ 35 162 m113_ (any_of HT_.out s2_) ?_
 refine done_ (done_of HT_.out s2_) ?_
 try go_wp2
 go_meet
 case rel => exact ⟨_, (true), s1_, H', ⟨by have := HJ1.out; have := HK2.out; have := HK3.out; have := HK4.out; first | omega | exact Nat.le_refl _⟩, ⟨b1_ BK198.out⟩, ⟨b1_ BK216.out⟩, ⟨by repeat (first | (with_reducible first | exact HB.out | apply below_alloc | apply pw_below_drewN | apply below_drew1 | refine below_set ?_ GE198.out | refine below_set ?_ GE216.out) | exact HB.out)⟩⟩}
 {
 replace c98 := Bool.eq_false_iff.mpr c98
 subst c98
 have H1 : (if x122_4 > 0 then (if 0 ≤ (wrap64 (x122_4 - 1)) then (if (wrap64 (x122_4 - 1)) < (l0_3.length : Int) then (impl_ValidRoom.j6 k4 l0_3 (l0_3.length : Int) x122_4 (decide (((rd_T73 l0_3 (wrap64 (x122_4 - 1))).f0) ≥ ((rd_T73 l0_3 x122_4).f0))) a0_0 l0_1 l0_2 l0_3) else (none)) else (none)) else (impl_ValidRoom.j6 k4 l0_3 (l0_3.length : Int) x122_4 false a0_0 l0_1 l0_2 l0_3)) = some r := by rw [if_neg (show ¬ (false = true) by decide)] at H; exact H
 clear H
 have H := H1
 clear H1
 by_cases c103 : x122_4 > 0
 {
 rw [if_pos c103] at H
 have c103b0 : decide (0 < x122_4) = true := decide_eq_true c103
 clear c103
 (first | rw [c103b0] | (simp only [i64_w, i32_w]; rw [c103b0]) | skip)
 obtain ⟨ji104, hji104⟩ : ∃ j_ : Int, (wrap64 (x122_4 - 1)) = j_ := ⟨_, rfl⟩
 replace H : (if 0 ≤ (ji104) then (if (ji104) < (l0_3.length : Int) then (impl_ValidRoom.j6 k4 l0_3 (l0_3.length : Int) x122_4 (decide (((rd_T73 l0_3 (ji104)).f0) ≥ ((rd_T73 l0_3 x122_4).f0))) a0_0 l0_1 l0_2 l0_3) else (none)) else (none)) = some r := by first | (rw [hji104] at H; exact H) | (simp only [hji104] at H ⊢; exact H)
 (try rw [hji104] at A88)
 (try rw [hji104] at A90)
 (try rw [hji104] at A92)
 (try rw [hji104] at A97)
 have hji104w : (IntKind.i64.wrap (x122_4 - 1)) = ji104 := (i64_w _).trans hji104
 by_cases c105 : 0 ≤ (ji104)
 {
 rw [if_pos c105] at H
 have c105b0 : decide (0 ≤ (ji104)) = true := decide_eq_true c105
 clear c105
 by_cases c106 : (ji104) < (l0_3.length : Int)
 {
 rw [if_pos c106] at H
 have c106b0 : decide ((ji104) < (l0_3.length : Int)) = true := decide_eq_true c106
 clear c106
 have H' := Aside0.mk H
 clear H
 try go_wp2
 have n0_ : Aside0 (((w85.setCell ⟨gb216, 0, none⟩ (.int .i64 ((rd_T73 l0_3 x122_4).f0))).setCell ⟨gb216, 1, none⟩ (.int .i64 ((rd_T73 l0_3 x122_4).f1))).heap[gb198]? = some (.cells #[.bool a0_0, .slice A0_1 l0_1.length c0_1, .slice A0_2 l0_2.length c0_2, .slice (some ad215) l0_3.length c0_3] 28 (0, 0))) := ⟨by (with_reducible repeat (first | refine blk_drewN ?_ _ | refine blk_drew ?_ | refine blk_alloc ?_ _)); refine blk_far ?_ NB198_216.out _; (with_reducible repeat (first | refine blk_drewN ?_ _ | refine blk_drew ?_ | refine blk_alloc ?_ _)); refine blk_far ?_ NB198_216.out _; (with_reducible repeat (first | refine blk_drewN ?_ _ | refine blk_drew ?_ | refine blk_alloc ?_ _)); exact BK198.out⟩
 have n1_ : Aside0 (((w85.setCell ⟨gb216, 0, none⟩ (.int .i64 ((rd_T73 l0_3 x122_4).f0))).setCell ⟨gb216, 1, none⟩ (.int .i64 ((rd_T73 l0_3 x122_4).f1))).heap[gb216]? = some (.cells #[.int .i64 ((rd_T73 l0_3 x122_4).f0), .int .i64 ((rd_T73 l0_3 x122_4).f1)] 73 (0, 0))) := ⟨by (with_reducible repeat (first | refine blk_drewN ?_ _ | refine blk_drew ?_ | refine blk_alloc ?_ _)); refine blk_put (cs := #[.int .i64 ((rd_T73 l0_3 x122_4).f0), .int .i64 0]) ?_ 1 _ rfl; (with_reducible repeat (first | refine blk_drewN ?_ _ | refine blk_drew ?_ | refine blk_alloc ?_ _)); refine blk_put (cs := #[.int .i64 0, .int .i64 0]) ?_ 0 _ rfl; (with_reducible repeat (first | refine blk_drewN ?_ _ | refine blk_drew ?_ | refine blk_alloc ?_ _)); exact BK216.out⟩
 have n2_ : Aside0 (Below w.heap.size w ((w85.setCell ⟨gb216, 0, none⟩ (.int .i64 ((rd_T73 l0_3 x122_4).f0))).setCell ⟨gb216, 1, none⟩ (.int .i64 ((rd_T73 l0_3 x122_4).f1)))) := ⟨by repeat (first | (with_reducible first | exact HB.out | apply below_alloc | apply pw_below_drewN | apply below_drew1 | refine below_set ?_ GE198.out | refine below_set ?_ GE216.out) | exact HB.out)⟩
 (try clear BK198)
 (try clear BK216)
 (try clear HB)
 generalize ((w85.setCell ⟨gb216, 0, none⟩ (.int .i64 ((rd_T73 l0_3 x122_4).f0))).setCell ⟨gb216, 1, none⟩ (.int .i64 ((rd_T73 l0_3 x122_4).f1))) = w107 at n0_ n1_ n2_ ⊢
 have BK198 := n0_
 have BK216 := n1_
 have HB := n2_
 clear n0_ n1_ n2_
 have n0_ := Aside0.mk (blk_drew BK198.out)
 have n1_ := Aside0.mk (blk_drew BK216.out)
 have n2_ := Aside0.mk (below_drew1 HB.out)
 clear BK198
 clear BK216
 clear HB
 have BK198 := n0_
 have BK216 := n1_
 have HB := n2_
 clear n0_ n1_ n2_
 have p221 : 0 ≤ ((ji104) : Int) := of_decide_eq_true (by first | (with_reducible assumption) | assumption)
 have q221 : (ji104) < (l0_3.length : Int) := of_decide_eq_true (by first | (with_reducible assumption) | assumption)
 obtain ⟨ad221, e221, hx221_0, hx221_1⟩ := at_T73 HR0_3.out (ji104) p221 q221
 have hw221_1 := hx221_1
 have hw221_0 := hx221_0
 obtain rfl : ad215 = ad221 := (by injection e221)
 replace hx221_0 := (HB.out.cell (World.block_lt_of_cell? w _ hx221_0)).trans hx221_0
 replace hx221_1 := (HB.out.cell (World.block_lt_of_cell? w _ hx221_1)).trans hx221_1
 replace p221 := eq_true p221
 replace q221 := eq_true q221
 refine start_ (n := 36) (S := fun w' => w'.cell? ⟨gb216, 0, none⟩ = some (.int .i64 ((rd_T73 l0_3 x122_4).f0)) ∧ w'.cell? ⟨gb216, 1, none⟩ = some (.int .i64 ((rd_T73 l0_3 x122_4).f1)) ∧ w'.cell? ⟨gb198, 0, none⟩ = some (.bool a0_0) ∧ w'.cell? ⟨gb198, 1, none⟩ = some (.slice A0_1 l0_1.length c0_1) ∧ w'.cell? ⟨gb198, 2, none⟩ = some (.slice A0_2 l0_2.length c0_2) ∧ w'.cell? ⟨gb198, 3, none⟩ = some (.slice (some ad215) l0_3.length c0_3) ∧ w'.cell? (ad215.add (((ji104)).toNat * 2)) = some (.int .i64 ((rd_T73 l0_3 (ji104)).f0)) ∧ w'.cell? ⟨(ad215.add (((ji104)).toNat * 2)).block, (ad215.add (((ji104)).toNat * 2)).off + 1, none⟩ = some (.int .i64 ((rd_T73 l0_3 (ji104)).f1))) (ds := []) m77_ s2_ rfl rfl ⟨(blk_cell BK216.out 0).trans rfl, (blk_cell BK216.out 1).trans rfl, (blk_cell BK198.out 0).trans rfl, (blk_cell BK198.out 1).trans rfl, (blk_cell BK198.out 2).trans rfl, (blk_cell BK198.out 3).trans rfl, ((HB.out.cell (World.block_lt_of_cell? w _ hw221_0)).trans hw221_0), ((HB.out.cell (World.block_lt_of_cell? w _ hw221_1)).trans hw221_1)⟩ (fun hHeld => ?_); refine with_tabW impl_ValidRoom.tab18 impl_ValidRoom.bits18 (fun HT_ HW_ => ?_)
 generalize w107.drew = w108 at BK198 BK216 HB hx221_0 hx221_1 hHeld ⊢
 refine pu_ 0 127 m78_ (any_of HT_.out s2_) ?_
 refine take_ (i := 1) (N := some 128) (v := ?_) (a' := ?_) m79_ rfl rfl (take_ofW HT_.out HW_.out s2_) (fun _ _ _ h => h) (Or.inl ⟨by rfl, ?_⟩) hHeld ?_ ?_
 rotate_left
 {
 rintro w' ⟨s0, s1, s2, s3, s4, s5, s6, s7⟩
 go_simp
 with_reducible rfl}
 rotate_left
 · exact p1_
 refine one_ (i := 2) (N := some 129) m80_ rfl rfl (one_of HT_.out s2_) (by decide) (fun K hK => ?_)
 refine goes_ Try.func32 s2_ rfl #[.int .i64 ((rd_T73 l0_3 x122_4).f0)] (by rfl) rfl rfl s3_ ?_
 with_reducible refine (impl_isMember.calls ((rd_T73 l0_3 x122_4).f0) true _ A88.out).mono ?_
 rintro e w' ⟨rfl, ⟨nd, rfl⟩⟩
 refine ⟨_, rfl, ?_⟩
 refine hK.out _ _ ⟨(blk_cell BK216.out 0).trans rfl, (blk_cell BK216.out 1).trans rfl, (blk_cell BK198.out 0).trans rfl, (blk_cell BK198.out 1).trans rfl, (blk_cell BK198.out 2).trans rfl, (blk_cell BK198.out 3).trans rfl, ((HB.out.cell (World.block_lt_of_cell? w _ hw221_0)).trans hw221_0), ((HB.out.cell (World.block_lt_of_cell? w _ hw221_1)).trans hw221_1)⟩ (fun hHeld => ?_)
 clear hK K
 refine norm_ (a' := ?_) ?_ ?_
 rotate_left
 {
 show Act.put _ (some 129) _ = _
 simp only [Act.put, List.setIfInBounds_toArray, List.set_cons_zero, List.set_cons_succ, i64_w, i32_w]
 rfl}
 refine pu_ 3 130 m81_ (any_of HT_.out s2_) ?_
 refine pu_ 4 131 m82_ (any_of HT_.out s2_) ?_
 refine pu_ 5 132 m83_ (any_of HT_.out s2_) ?_
 refine take_ (i := 6) (N := some 133) (v := ?_) (a' := ?_) m84_ rfl rfl (take_ofW HT_.out HW_.out s2_) (fun _ _ _ h => h) (Or.inl ⟨by rfl, ?_⟩) hHeld ?_ ?_
 rotate_left
 {
 rintro w' ⟨s0, s1, s2, s3, s4, s5, s6, s7⟩
 go_simp
 with_reducible rfl}
 rotate_left
 · exact p1_
 refine one_ (i := 7) (N := some 134) m85_ rfl rfl (one_of HT_.out s2_) (by decide) (fun K hK => ?_)
 refine goes_ Try.func34 s2_ rfl #[.int .i64 ((rd_T73 l0_3 x122_4).f1)] (by rfl) rfl rfl s3_ ?_
 with_reducible refine (impl_isTick.calls ((rd_T73 l0_3 x122_4).f1) true _ A90.out).mono ?_
 rintro e w' ⟨rfl, ⟨nd, rfl⟩⟩
 refine ⟨_, rfl, ?_⟩
 refine hK.out _ _ ⟨(blk_cell BK216.out 0).trans rfl, (blk_cell BK216.out 1).trans rfl, (blk_cell BK198.out 0).trans rfl, (blk_cell BK198.out 1).trans rfl, (blk_cell BK198.out 2).trans rfl, (blk_cell BK198.out 3).trans rfl, ((HB.out.cell (World.block_lt_of_cell? w _ hw221_0)).trans hw221_0), ((HB.out.cell (World.block_lt_of_cell? w _ hw221_1)).trans hw221_1)⟩ (fun hHeld => ?_)
 clear hK K
 refine norm_ (a' := ?_) ?_ ?_
 rotate_left
 {
 show Act.put _ (some 134) _ = _
 simp only [Act.put, List.setIfInBounds_toArray, List.set_cons_zero, List.set_cons_succ, i64_w, i32_w]
 rfl}
 refine pu_ 8 135 m86_ (any_of HT_.out s2_) ?_
 refine pu_ 9 136 m87_ (any_of HT_.out s2_) ?_
 refine pu_ 10 137 m88_ (any_of HT_.out s2_) ?_
 refine pu_ 11 138 m89_ (any_of HT_.out s2_) ?_
 refine take_ (i := 12) (N := some 139) (v := ?_) (a' := ?_) m90_ rfl rfl (take_ofW HT_.out HW_.out s2_) (fun _ _ _ h => h) (Or.inl ⟨by rfl, ?_⟩) hHeld ?_ ?_
 rotate_left
 {
 rintro w' ⟨s0, s1, s2, s3, s4, s5, s6, s7⟩
 go_simp
 with_reducible rfl}
 rotate_left
 · exact p1_
 refine one_ (i := 13) (N := some 140) m91_ rfl rfl (one_of HT_.out s2_) (by decide) (fun K hK => ?_)
 refine goes_ Try.func35 s2_ rfl #[.pointer (some ⟨gb198, 0, none⟩), .int .i64 ((rd_T73 l0_3 x122_4).f0)] (by rfl) rfl rfl s3_ ?_
 with_reducible refine (impl_Room_has.calls k4 gb198 a0_0 A0_1 c0_1 l0_1 A0_2 c0_2 l0_2 (some ad215) c0_3 l0_3 ((rd_T73 l0_3 x122_4).f0) false _ ?side1 ?side2 ?side3 ?side4 ?side5 ?side6 ?side7 A92.out).mono ?_
 (case side1 => exact (b1_ BK198.out))
 (case side2 => repeat (first | exact (Kd.C_below HR0_1.out (by repeat (first | (with_reducible first | exact HB.out | apply below_alloc | apply pw_below_drewN | apply below_drew1 | refine below_set ?_ GE198.out | refine below_set ?_ GE216.out) | exact HB.out))) | (with_reducible refine Kd.C_alloc ?_ _) | (with_reducible refine Kd.C_drewN ?_ _) | (with_reducible refine Kd.C_drew ?_)))
 (case side3 => exact HC0_1.out)
 (case side4 => repeat (first | exact (Kd.C_below HR0_2.out (by repeat (first | (with_reducible first | exact HB.out | apply below_alloc | apply pw_below_drewN | apply below_drew1 | refine below_set ?_ GE198.out | refine below_set ?_ GE216.out) | exact HB.out))) | (with_reducible refine Kd.C_alloc ?_ _) | (with_reducible refine Kd.C_drewN ?_ _) | (with_reducible refine Kd.C_drew ?_)))
 (case side5 => exact HC0_2.out)
 (case side6 => repeat (first | exact (Kd.C_below HR0_3.out (by repeat (first | (with_reducible first | exact HB.out | apply below_alloc | apply pw_below_drewN | apply below_drew1 | refine below_set ?_ GE198.out | refine below_set ?_ GE216.out) | exact HB.out))) | (with_reducible refine Kd.C_alloc ?_ _) | (with_reducible refine Kd.C_drewN ?_ _) | (with_reducible refine Kd.C_drew ?_)))
 (case side7 => exact HC0_3.out)
 rintro e w109 ⟨rfl, hb⟩
 refine ⟨_, rfl, ?_⟩
 have n0_ := Aside0.mk (blk_below (g := gb198) (o := .cells #[.bool a0_0, .slice A0_1 l0_1.length c0_1, .slice A0_2 l0_2.length c0_2, .slice (some ad215) l0_3.length c0_3] 28 (0, 0)) (b1_ BK198.out) hb)
 have n1_ := Aside0.mk (blk_below (g := gb216) (o := .cells #[.int .i64 ((rd_T73 l0_3 x122_4).f0), .int .i64 ((rd_T73 l0_3 x122_4).f1)] 73 (0, 0)) (b1_ BK216.out) hb)
 have n2_ := Aside0.mk (below_step (by repeat (first | (with_reducible first | exact HB.out | apply below_alloc | apply pw_below_drewN | apply below_drew1 | refine below_set ?_ GE198.out | refine below_set ?_ GE216.out) | exact HB.out)) hb)
 clear BK198
 clear BK216
 clear HB
 have BK198 := n0_
 have BK216 := n1_
 have HB := n2_
 clear n0_ n1_ n2_
 (try clear hb)
 (try clear hb2)
 (try clear hk)
 (try clear hi)
 refine hK.out _ _ ⟨(blk_cell BK216.out 0).trans rfl, (blk_cell BK216.out 1).trans rfl, (blk_cell BK198.out 0).trans rfl, (blk_cell BK198.out 1).trans rfl, (blk_cell BK198.out 2).trans rfl, (blk_cell BK198.out 3).trans rfl, ((HB.out.cell (World.block_lt_of_cell? w _ hw221_0)).trans hw221_0), ((HB.out.cell (World.block_lt_of_cell? w _ hw221_1)).trans hw221_1)⟩ (fun hHeld => ?_)
 clear hK K
 refine norm_ (a' := ?_) ?_ ?_
 rotate_left
 {
 show Act.put _ (some 140) _ = _
 simp only [Act.put, List.setIfInBounds_toArray, List.set_cons_zero, List.set_cons_succ, i64_w, i32_w]
 rfl}
 refine pu_ 14 141 m92_ (any_of HT_.out s2_) ?_
 refine pu_ 15 142 m93_ (any_of HT_.out s2_) ?_
 refine pu_ 16 143 m94_ (any_of HT_.out s2_) ?_
 refine take_ (i := 17) (N := some 144) (v := ?_) (a' := ?_) m95_ rfl rfl (take_ofW HT_.out HW_.out s2_) (fun _ _ _ h => h) (Or.inl ⟨by rfl, ?_⟩) hHeld ?_ ?_
 rotate_left
 {
 rintro w' ⟨s0, s1, s2, s3, s4, s5, s6, s7⟩
 go_simp
 with_reducible rfl}
 rotate_left
 · exact p1_
 refine one_ (i := 18) (N := some 145) m96_ rfl rfl (one_of HT_.out s2_) (by decide) (fun K hK => ?_)
 refine goes_ Try.func36 s2_ rfl #[.pointer (some ⟨gb198, 0, none⟩), .int .i64 ((rd_T73 l0_3 x122_4).f0)] (by rfl) rfl rfl s3_ ?_
 with_reducible refine (impl_Room_invited.calls k4 gb198 a0_0 A0_1 c0_1 l0_1 A0_2 c0_2 l0_2 (some ad215) c0_3 l0_3 ((rd_T73 l0_3 x122_4).f0) false _ ?side1 ?side2 ?side3 ?side4 ?side5 ?side6 ?side7 A97.out).mono ?_
 (case side1 => exact (b1_ BK198.out))
 (case side2 => repeat (first | exact (Kd.C_below HR0_1.out HB.out) | (with_reducible refine Kd.C_alloc ?_ _) | (with_reducible refine Kd.C_drewN ?_ _) | (with_reducible refine Kd.C_drew ?_)))
 (case side3 => exact HC0_1.out)
 (case side4 => repeat (first | exact (Kd.C_below HR0_2.out HB.out) | (with_reducible refine Kd.C_alloc ?_ _) | (with_reducible refine Kd.C_drewN ?_ _) | (with_reducible refine Kd.C_drew ?_)))
 (case side5 => exact HC0_2.out)
 (case side6 => repeat (first | exact (Kd.C_below HR0_3.out HB.out) | (with_reducible refine Kd.C_alloc ?_ _) | (with_reducible refine Kd.C_drewN ?_ _) | (with_reducible refine Kd.C_drew ?_)))
 (case side7 => exact HC0_3.out)
 rintro e w110 ⟨rfl, hb⟩
 refine ⟨_, rfl, ?_⟩
 have n0_ := Aside0.mk (blk_below (g := gb198) (o := .cells #[.bool a0_0, .slice A0_1 l0_1.length c0_1, .slice A0_2 l0_2.length c0_2, .slice (some ad215) l0_3.length c0_3] 28 (0, 0)) (b1_ BK198.out) hb)
 have n1_ := Aside0.mk (blk_below (g := gb216) (o := .cells #[.int .i64 ((rd_T73 l0_3 x122_4).f0), .int .i64 ((rd_T73 l0_3 x122_4).f1)] 73 (0, 0)) (b1_ BK216.out) hb)
 have n2_ := Aside0.mk (below_step (by repeat (first | (with_reducible first | exact HB.out | apply below_alloc | apply pw_below_drewN | apply below_drew1 | refine below_set ?_ GE198.out | refine below_set ?_ GE216.out) | exact HB.out)) hb)
 clear BK198
 clear BK216
 clear HB
 have BK198 := n0_
 have BK216 := n1_
 have HB := n2_
 clear n0_ n1_ n2_
 (try clear hb)
 (try clear hb2)
 (try clear hk)
 (try clear hi)
 refine hK.out _ _ ⟨(blk_cell BK216.out 0).trans rfl, (blk_cell BK216.out 1).trans rfl, (blk_cell BK198.out 0).trans rfl, (blk_cell BK198.out 1).trans rfl, (blk_cell BK198.out 2).trans rfl, (blk_cell BK198.out 3).trans rfl, ((HB.out.cell (World.block_lt_of_cell? w _ hw221_0)).trans hw221_0), ((HB.out.cell (World.block_lt_of_cell? w _ hw221_1)).trans hw221_1)⟩ (fun hHeld => ?_)
 clear hK K
 refine norm_ (a' := ?_) ?_ ?_
 rotate_left
 {
 show Act.put _ (some 145) _ = _
 simp only [Act.put, List.setIfInBounds_toArray, List.set_cons_zero, List.set_cons_succ, i64_w, i32_w]
 rfl}
 refine pu_ 19 146 m97_ (any_of HT_.out s2_) ?_
 refine pu_ 20 147 m98_ (any_of HT_.out s2_) ?_
 refine pu_ 21 148 m99_ (any_of HT_.out s2_) ?_
 refine pu_ 22 149 m100_ (any_of HT_.out s2_) ?_
 refine pu_ 23 150 m101_ (any_of HT_.out s2_) ?_
 refine pu_ 24 151 m102_ (any_of HT_.out s2_) ?_
 refine pu_ 26 153 #[T,T,T,T,T,T,T,T,T,T,T,T,T,T,T,T,T,T,T,T,T,T,T,T,T,F,T,F,F,F,F,F,F,F,F,F] (any_of HT_.out s2_) ?_
 refine pu_ 27 154 #[T,T,T,T,T,T,T,T,T,T,T,T,T,T,T,T,T,T,T,T,T,T,T,T,T,F,T,T,F,F,F,F,F,F,F,F] (any_of HT_.out s2_) ?_
 refine pu_ 31 158 #[T,T,T,T,T,T,T,T,T,T,T,T,T,T,T,T,T,T,T,T,T,T,T,T,T,F,T,T,F,F,F,T,F,F,F,F] (any_of HT_.out s2_) ?_
 refine take_ (i := 25) (N := some 152) (v := ?_) (a' := ?_) #[T,T,T,T,T,T,T,T,T,T,T,T,T,T,T,T,T,T,T,T,T,T,T,T,T,T,T,T,F,F,F,T,F,F,F,F] rfl rfl (take_ofW HT_.out HW_.out s2_) (fun _ _ _ h => h) (Or.inl ⟨by rfl, ?_⟩) hHeld ?_ ?_
 rotate_left
 {
 rintro w' ⟨s0, s1, s2, s3, s4, s5, s6, s7⟩
 go_simp
 with_reducible rfl}
 rotate_left
 · exact p1_
 refine pu_ 28 155 #[T,T,T,T,T,T,T,T,T,T,T,T,T,T,T,T,T,T,T,T,T,T,T,T,T,T,T,T,T,F,F,T,F,F,F,F] (any_of HT_.out s2_) ?_
 refine pu_ 29 156 #[T,T,T,T,T,T,T,T,T,T,T,T,T,T,T,T,T,T,T,T,T,T,T,T,T,T,T,T,T,T,F,T,F,F,F,F] (any_of HT_.out s2_) ?_
 refine take_ (i := 30) (N := some 157) (v := ?_) (a' := ?_) m109_ rfl rfl (take_ofW HT_.out HW_.out s2_) (fun _ _ _ h => h) (Or.inl ⟨by rfl, ?_⟩) hHeld ?_ ?_
 rotate_left
 {
 rintro w' ⟨s0, s1, s2, s3, s4, s5, s6, s7⟩
 go_simp
 with_reducible rfl}
 rotate_left
 · exact p1_
 refine take_ (i := 32) (N := some 159) (v := ?_) (a' := ?_) m110_ rfl rfl (take_ofW HT_.out HW_.out s2_) (fun _ _ _ h => h) (Or.inl ⟨by rfl, ?_⟩) hHeld ?_ ?_
 rotate_left
 {
 rintro w' ⟨s0, s1, s2, s3, s4, s5, s6, s7⟩
 go_simp
 with_reducible rfl}
 rotate_left
 · exact p1_
 refine pu_ 33 160 m111_ (any_of HT_.out s2_) ?_
 refine pu_ 34 161 m112_ (any_of HT_.out s2_) ?_
 refine pu_ 35 162 m113_ (any_of HT_.out s2_) ?_
 refine done_ (done_of HT_.out s2_) ?_
 try go_wp2
 go_meet
 case rel => exact ⟨_, (decide (((rd_T73 l0_3 (ji104)).f0) ≥ ((rd_T73 l0_3 x122_4).f0))), (by first | rfl | (simp; done) | (simp only [← hji104] <;> (first | rfl | simp)) | (simp [*]; done)), H', ⟨by have := HJ1.out; have := HK2.out; have := HK3.out; have := HK4.out; first | omega | exact Nat.le_refl _⟩, ⟨b1_ BK198.out⟩, ⟨b1_ BK216.out⟩, ⟨by repeat (first | (with_reducible first | exact HB.out | apply below_alloc | apply pw_below_drewN | apply below_drew1 | refine below_set ?_ GE198.out | refine below_set ?_ GE216.out) | exact HB.out)⟩⟩}
 {
 rw [if_neg c106] at H
 exact absurd H (by simp)}}
 {
 rw [if_neg c105] at H
 exact absurd H (by simp)}}
 {
 rw [if_neg c103] at H
 have c103b0 : decide (0 < x122_4) = false := decide_eq_false c103
 clear c103
 (first | rw [c103b0] | (simp only [i64_w, i32_w]; rw [c103b0]) | skip)
 have H' := Aside0.mk H
 clear H
 try go_wp2
 have n0_ : Aside0 (((w85.setCell ⟨gb216, 0, none⟩ (.int .i64 ((rd_T73 l0_3 x122_4).f0))).setCell ⟨gb216, 1, none⟩ (.int .i64 ((rd_T73 l0_3 x122_4).f1))).heap[gb198]? = some (.cells #[.bool a0_0, .slice A0_1 l0_1.length c0_1, .slice A0_2 l0_2.length c0_2, .slice (some ad215) l0_3.length c0_3] 28 (0, 0))) := ⟨by (with_reducible repeat (first | refine blk_drewN ?_ _ | refine blk_drew ?_ | refine blk_alloc ?_ _)); refine blk_far ?_ NB198_216.out _; (with_reducible repeat (first | refine blk_drewN ?_ _ | refine blk_drew ?_ | refine blk_alloc ?_ _)); refine blk_far ?_ NB198_216.out _; (with_reducible repeat (first | refine blk_drewN ?_ _ | refine blk_drew ?_ | refine blk_alloc ?_ _)); exact BK198.out⟩
 have n1_ : Aside0 (((w85.setCell ⟨gb216, 0, none⟩ (.int .i64 ((rd_T73 l0_3 x122_4).f0))).setCell ⟨gb216, 1, none⟩ (.int .i64 ((rd_T73 l0_3 x122_4).f1))).heap[gb216]? = some (.cells #[.int .i64 ((rd_T73 l0_3 x122_4).f0), .int .i64 ((rd_T73 l0_3 x122_4).f1)] 73 (0, 0))) := ⟨by (with_reducible repeat (first | refine blk_drewN ?_ _ | refine blk_drew ?_ | refine blk_alloc ?_ _)); refine blk_put (cs := #[.int .i64 ((rd_T73 l0_3 x122_4).f0), .int .i64 0]) ?_ 1 _ rfl; (with_reducible repeat (first | refine blk_drewN ?_ _ | refine blk_drew ?_ | refine blk_alloc ?_ _)); refine blk_put (cs := #[.int .i64 0, .int .i64 0]) ?_ 0 _ rfl; (with_reducible repeat (first | refine blk_drewN ?_ _ | refine blk_drew ?_ | refine blk_alloc ?_ _)); exact BK216.out⟩
 have n2_ : Aside0 (Below w.heap.size w ((w85.setCell ⟨gb216, 0, none⟩ (.int .i64 ((rd_T73 l0_3 x122_4).f0))).setCell ⟨gb216, 1, none⟩ (.int .i64 ((rd_T73 l0_3 x122_4).f1)))) := ⟨by repeat (first | (with_reducible first | exact HB.out | apply below_alloc | apply pw_below_drewN | apply below_drew1 | refine below_set ?_ GE198.out | refine below_set ?_ GE216.out) | exact HB.out)⟩
 (try clear BK198)
 (try clear BK216)
 (try clear HB)
 generalize ((w85.setCell ⟨gb216, 0, none⟩ (.int .i64 ((rd_T73 l0_3 x122_4).f0))).setCell ⟨gb216, 1, none⟩ (.int .i64 ((rd_T73 l0_3 x122_4).f1))) = w111 at n0_ n1_ n2_ ⊢
 have BK198 := n0_
 have BK216 := n1_
 have HB := n2_
 clear n0_ n1_ n2_
 have n0_ := Aside0.mk (blk_drew BK198.out)
 have n1_ := Aside0.mk (blk_drew BK216.out)
 have n2_ := Aside0.mk (below_drew1 HB.out)
 clear BK198
 clear BK216
 clear HB
 have BK198 := n0_
 have BK216 := n1_
 have HB := n2_
 clear n0_ n1_ n2_
 refine start_ (n := 36) (S := fun w' => w'.cell? ⟨gb216, 0, none⟩ = some (.int .i64 ((rd_T73 l0_3 x122_4).f0)) ∧ w'.cell? ⟨gb216, 1, none⟩ = some (.int .i64 ((rd_T73 l0_3 x122_4).f1))) (ds := []) m77_ s2_ rfl rfl ⟨(blk_cell BK216.out 0).trans rfl, (blk_cell BK216.out 1).trans rfl⟩ (fun hHeld => ?_); refine with_tabW impl_ValidRoom.tab18 impl_ValidRoom.bits18 (fun HT_ HW_ => ?_)
 generalize w111.drew = w112 at BK198 BK216 HB hHeld ⊢
 refine pu_ 0 127 m78_ (any_of HT_.out s2_) ?_
 refine take_ (i := 1) (N := some 128) (v := ?_) (a' := ?_) m79_ rfl rfl (take_ofW HT_.out HW_.out s2_) (fun _ _ _ h => h) (Or.inl ⟨by rfl, ?_⟩) hHeld ?_ ?_
 rotate_left
 {
 rintro w' ⟨s0, s1⟩
 go_simp
 with_reducible rfl}
 rotate_left
 · exact p1_
 refine one_ (i := 2) (N := some 129) m80_ rfl rfl (one_of HT_.out s2_) (by decide) (fun K hK => ?_)
 refine goes_ Try.func32 s2_ rfl #[.int .i64 ((rd_T73 l0_3 x122_4).f0)] (by rfl) rfl rfl s3_ ?_
 with_reducible refine (impl_isMember.calls ((rd_T73 l0_3 x122_4).f0) true _ A88.out).mono ?_
 rintro e w' ⟨rfl, ⟨nd, rfl⟩⟩
 refine ⟨_, rfl, ?_⟩
 refine hK.out _ _ ⟨(blk_cell BK216.out 0).trans rfl, (blk_cell BK216.out 1).trans rfl⟩ (fun hHeld => ?_)
 clear hK K
 refine norm_ (a' := ?_) ?_ ?_
 rotate_left
 {
 show Act.put _ (some 129) _ = _
 simp only [Act.put, List.setIfInBounds_toArray, List.set_cons_zero, List.set_cons_succ, i64_w, i32_w]
 rfl}
 refine pu_ 3 130 m81_ (any_of HT_.out s2_) ?_
 refine pu_ 4 131 m82_ (any_of HT_.out s2_) ?_
 refine pu_ 5 132 m83_ (any_of HT_.out s2_) ?_
 refine take_ (i := 6) (N := some 133) (v := ?_) (a' := ?_) m84_ rfl rfl (take_ofW HT_.out HW_.out s2_) (fun _ _ _ h => h) (Or.inl ⟨by rfl, ?_⟩) hHeld ?_ ?_
 rotate_left
 {
 rintro w' ⟨s0, s1⟩
 go_simp
 with_reducible rfl}
 rotate_left
 · exact p1_
 refine one_ (i := 7) (N := some 134) m85_ rfl rfl (one_of HT_.out s2_) (by decide) (fun K hK => ?_)
 refine goes_ Try.func34 s2_ rfl #[.int .i64 ((rd_T73 l0_3 x122_4).f1)] (by rfl) rfl rfl s3_ ?_
 with_reducible refine (impl_isTick.calls ((rd_T73 l0_3 x122_4).f1) true _ A90.out).mono ?_
 rintro e w' ⟨rfl, ⟨nd, rfl⟩⟩
 refine ⟨_, rfl, ?_⟩
 refine hK.out _ _ ⟨(blk_cell BK216.out 0).trans rfl, (blk_cell BK216.out 1).trans rfl⟩ (fun hHeld => ?_)
 clear hK K
 refine norm_ (a' := ?_) ?_ ?_
 rotate_left
 {
 show Act.put _ (some 134) _ = _
 simp only [Act.put, List.setIfInBounds_toArray, List.set_cons_zero, List.set_cons_succ, i64_w, i32_w]
 rfl}
 refine pu_ 8 135 m86_ (any_of HT_.out s2_) ?_
 refine pu_ 9 136 m87_ (any_of HT_.out s2_) ?_
 refine pu_ 10 137 m88_ (any_of HT_.out s2_) ?_
 refine pu_ 11 138 m89_ (any_of HT_.out s2_) ?_
 refine take_ (i := 12) (N := some 139) (v := ?_) (a' := ?_) m90_ rfl rfl (take_ofW HT_.out HW_.out s2_) (fun _ _ _ h => h) (Or.inl ⟨by rfl, ?_⟩) hHeld ?_ ?_
 rotate_left
 {
 rintro w' ⟨s0, s1⟩
 go_simp
 with_reducible rfl}
 rotate_left
 · exact p1_
 refine one_ (i := 13) (N := some 140) m91_ rfl rfl (one_of HT_.out s2_) (by decide) (fun K hK => ?_)
 refine goes_ Try.func35 s2_ rfl #[.pointer (some ⟨gb198, 0, none⟩), .int .i64 ((rd_T73 l0_3 x122_4).f0)] (by rfl) rfl rfl s3_ ?_
 with_reducible refine (impl_Room_has.calls k4 gb198 a0_0 A0_1 c0_1 l0_1 A0_2 c0_2 l0_2 (some ad215) c0_3 l0_3 ((rd_T73 l0_3 x122_4).f0) false _ ?side1 ?side2 ?side3 ?side4 ?side5 ?side6 ?side7 A92.out).mono ?_
 (case side1 => exact (b1_ BK198.out))
 (case side2 => repeat (first | exact (Kd.C_below HR0_1.out (by repeat (first | (with_reducible first | exact HB.out | apply below_alloc | apply pw_below_drewN | apply below_drew1 | refine below_set ?_ GE198.out | refine below_set ?_ GE216.out) | exact HB.out))) | (with_reducible refine Kd.C_alloc ?_ _) | (with_reducible refine Kd.C_drewN ?_ _) | (with_reducible refine Kd.C_drew ?_)))
 (case side3 => exact HC0_1.out)
 (case side4 => repeat (first | exact (Kd.C_below HR0_2.out (by repeat (first | (with_reducible first | exact HB.out | apply below_alloc | apply pw_below_drewN | apply below_drew1 | refine below_set ?_ GE198.out | refine below_set ?_ GE216.out) | exact HB.out))) | (with_reducible refine Kd.C_alloc ?_ _) | (with_reducible refine Kd.C_drewN ?_ _) | (with_reducible refine Kd.C_drew ?_)))
 (case side5 => exact HC0_2.out)
 (case side6 => repeat (first | exact (Kd.C_below HR0_3.out (by repeat (first | (with_reducible first | exact HB.out | apply below_alloc | apply pw_below_drewN | apply below_drew1 | refine below_set ?_ GE198.out | refine below_set ?_ GE216.out) | exact HB.out))) | (with_reducible refine Kd.C_alloc ?_ _) | (with_reducible refine Kd.C_drewN ?_ _) | (with_reducible refine Kd.C_drew ?_)))
 (case side7 => exact HC0_3.out)
 rintro e w113 ⟨rfl, hb⟩
 refine ⟨_, rfl, ?_⟩
 have n0_ := Aside0.mk (blk_below (g := gb198) (o := .cells #[.bool a0_0, .slice A0_1 l0_1.length c0_1, .slice A0_2 l0_2.length c0_2, .slice (some ad215) l0_3.length c0_3] 28 (0, 0)) (b1_ BK198.out) hb)
 have n1_ := Aside0.mk (blk_below (g := gb216) (o := .cells #[.int .i64 ((rd_T73 l0_3 x122_4).f0), .int .i64 ((rd_T73 l0_3 x122_4).f1)] 73 (0, 0)) (b1_ BK216.out) hb)
 have n2_ := Aside0.mk (below_step (by repeat (first | (with_reducible first | exact HB.out | apply below_alloc | apply pw_below_drewN | apply below_drew1 | refine below_set ?_ GE198.out | refine below_set ?_ GE216.out) | exact HB.out)) hb)
 clear BK198
 clear BK216
 clear HB
 have BK198 := n0_
 have BK216 := n1_
 have HB := n2_
 clear n0_ n1_ n2_
 (try clear hb)
 (try clear hb2)
 (try clear hk)
 (try clear hi)
 refine hK.out _ _ ⟨(blk_cell BK216.out 0).trans rfl, (blk_cell BK216.out 1).trans rfl⟩ (fun hHeld => ?_)
 clear hK K
 refine norm_ (a' := ?_) ?_ ?_
 rotate_left
 {
 show Act.put _ (some 140) _ = _
 simp only [Act.put, List.setIfInBounds_toArray, List.set_cons_zero, List.set_cons_succ, i64_w, i32_w]
 rfl}
 refine pu_ 14 141 m92_ (any_of HT_.out s2_) ?_
 refine pu_ 15 142 m93_ (any_of HT_.out s2_) ?_
 refine pu_ 16 143 m94_ (any_of HT_.out s2_) ?_
 refine take_ (i := 17) (N := some 144) (v := ?_) (a' := ?_) m95_ rfl rfl (take_ofW HT_.out HW_.out s2_) (fun _ _ _ h => h) (Or.inl ⟨by rfl, ?_⟩) hHeld ?_ ?_
 rotate_left
 {
 rintro w' ⟨s0, s1⟩
 go_simp
 with_reducible rfl}
 rotate_left
 · exact p1_
 refine one_ (i := 18) (N := some 145) m96_ rfl rfl (one_of HT_.out s2_) (by decide) (fun K hK => ?_)
 refine goes_ Try.func36 s2_ rfl #[.pointer (some ⟨gb198, 0, none⟩), .int .i64 ((rd_T73 l0_3 x122_4).f0)] (by rfl) rfl rfl s3_ ?_
 with_reducible refine (impl_Room_invited.calls k4 gb198 a0_0 A0_1 c0_1 l0_1 A0_2 c0_2 l0_2 (some ad215) c0_3 l0_3 ((rd_T73 l0_3 x122_4).f0) false _ ?side1 ?side2 ?side3 ?side4 ?side5 ?side6 ?side7 A97.out).mono ?_
 (case side1 => exact (b1_ BK198.out))
 (case side2 => repeat (first | exact (Kd.C_below HR0_1.out HB.out) | (with_reducible refine Kd.C_alloc ?_ _) | (with_reducible refine Kd.C_drewN ?_ _) | (with_reducible refine Kd.C_drew ?_)))
 (case side3 => exact HC0_1.out)
 (case side4 => repeat (first | exact (Kd.C_below HR0_2.out HB.out) | (with_reducible refine Kd.C_alloc ?_ _) | (with_reducible refine Kd.C_drewN ?_ _) | (with_reducible refine Kd.C_drew ?_)))
 (case side5 => exact HC0_2.out)
 (case side6 => repeat (first | exact (Kd.C_below HR0_3.out HB.out) | (with_reducible refine Kd.C_alloc ?_ _) | (with_reducible refine Kd.C_drewN ?_ _) | (with_reducible refine Kd.C_drew ?_)))
 (case side7 => exact HC0_3.out)
 rintro e w114 ⟨rfl, hb⟩
 refine ⟨_, rfl, ?_⟩
 have n0_ := Aside0.mk (blk_below (g := gb198) (o := .cells #[.bool a0_0, .slice A0_1 l0_1.length c0_1, .slice A0_2 l0_2.length c0_2, .slice (some ad215) l0_3.length c0_3] 28 (0, 0)) (b1_ BK198.out) hb)
 have n1_ := Aside0.mk (blk_below (g := gb216) (o := .cells #[.int .i64 ((rd_T73 l0_3 x122_4).f0), .int .i64 ((rd_T73 l0_3 x122_4).f1)] 73 (0, 0)) (b1_ BK216.out) hb)
 have n2_ := Aside0.mk (below_step (by repeat (first | (with_reducible first | exact HB.out | apply below_alloc | apply pw_below_drewN | apply below_drew1 | refine below_set ?_ GE198.out | refine below_set ?_ GE216.out) | exact HB.out)) hb)
 clear BK198
 clear BK216
 clear HB
 have BK198 := n0_
 have BK216 := n1_
 have HB := n2_
 clear n0_ n1_ n2_
 (try clear hb)
 (try clear hb2)
 (try clear hk)
 (try clear hi)
 refine hK.out _ _ ⟨(blk_cell BK216.out 0).trans rfl, (blk_cell BK216.out 1).trans rfl⟩ (fun hHeld => ?_)
 clear hK K
 refine norm_ (a' := ?_) ?_ ?_
 rotate_left
 {
 show Act.put _ (some 145) _ = _
 simp only [Act.put, List.setIfInBounds_toArray, List.set_cons_zero, List.set_cons_succ, i64_w, i32_w]
 rfl}
 refine pu_ 19 146 m97_ (any_of HT_.out s2_) ?_
 refine pu_ 20 147 m98_ (any_of HT_.out s2_) ?_
 refine pu_ 21 148 m99_ (any_of HT_.out s2_) ?_
 refine pu_ 22 149 m100_ (any_of HT_.out s2_) ?_
 refine pu_ 23 150 m101_ (any_of HT_.out s2_) ?_
 refine pn_ 24 151 m102_ (any_of HT_.out s2_) ?_
 refine pn_ 25 152 m103_ (any_of HT_.out s2_) ?_
 refine pn_ 26 153 m104_ (any_of HT_.out s2_) ?_
 refine pn_ 27 154 m105_ (any_of HT_.out s2_) ?_
 refine pn_ 28 155 m106_ (any_of HT_.out s2_) ?_
 refine pn_ 29 156 m107_ (any_of HT_.out s2_) ?_
 refine pn_ 30 157 m108_ (any_of HT_.out s2_) ?_
 refine pn_ 31 158 m109_ (any_of HT_.out s2_) ?_
 refine pn_ 32 159 m110_ (any_of HT_.out s2_) ?_
 refine pn_ 33 160 m111_ (any_of HT_.out s2_) ?_
 refine pu_ 34 161 m112_ (any_of HT_.out s2_) ?_
 refine pu_ 35 162 m113_ (any_of HT_.out s2_) ?_
 refine done_ (done_of HT_.out s2_) ?_
 try go_wp2
 go_meet
 case rel => exact ⟨_, (false), s1_, H', ⟨by have := HJ1.out; have := HK2.out; have := HK3.out; have := HK4.out; first | omega | exact Nat.le_refl _⟩, ⟨b1_ BK198.out⟩, ⟨b1_ BK216.out⟩, ⟨by repeat (first | (with_reducible first | exact HB.out | apply below_alloc | apply pw_below_drewN | apply below_drew1 | refine below_set ?_ GE198.out | refine below_set ?_ GE216.out) | exact HB.out)⟩⟩}}}}
 {
 replace c91 := Bool.eq_false_iff.mpr c91
 subst c91
 have H1 : (impl_ValidRoom.j6 k4 l0_3 (l0_3.length : Int) x122_4 true a0_0 l0_1 l0_2 l0_3) = some r := by rw [if_neg (show ¬ (false = true) by decide)] at H; exact H
 clear H
 have H := H1
 clear H1
 have H' := Aside0.mk H
 clear H
 try go_wp2
 have n0_ : Aside0 (((w85.setCell ⟨gb216, 0, none⟩ (.int .i64 ((rd_T73 l0_3 x122_4).f0))).setCell ⟨gb216, 1, none⟩ (.int .i64 ((rd_T73 l0_3 x122_4).f1))).heap[gb198]? = some (.cells #[.bool a0_0, .slice A0_1 l0_1.length c0_1, .slice A0_2 l0_2.length c0_2, .slice (some ad215) l0_3.length c0_3] 28 (0, 0))) := ⟨by (with_reducible repeat (first | refine blk_drewN ?_ _ | refine blk_drew ?_ | refine blk_alloc ?_ _)); refine blk_far ?_ NB198_216.out _; (with_reducible repeat (first | refine blk_drewN ?_ _ | refine blk_drew ?_ | refine blk_alloc ?_ _)); refine blk_far ?_ NB198_216.out _; (with_reducible repeat (first | refine blk_drewN ?_ _ | refine blk_drew ?_ | refine blk_alloc ?_ _)); exact BK198.out⟩
 have n1_ : Aside0 (((w85.setCell ⟨gb216, 0, none⟩ (.int .i64 ((rd_T73 l0_3 x122_4).f0))).setCell ⟨gb216, 1, none⟩ (.int .i64 ((rd_T73 l0_3 x122_4).f1))).heap[gb216]? = some (.cells #[.int .i64 ((rd_T73 l0_3 x122_4).f0), .int .i64 ((rd_T73 l0_3 x122_4).f1)] 73 (0, 0))) := ⟨by (with_reducible repeat (first | refine blk_drewN ?_ _ | refine blk_drew ?_ | refine blk_alloc ?_ _)); refine blk_put (cs := #[.int .i64 ((rd_T73 l0_3 x122_4).f0), .int .i64 0]) ?_ 1 _ rfl; (with_reducible repeat (first | refine blk_drewN ?_ _ | refine blk_drew ?_ | refine blk_alloc ?_ _)); refine blk_put (cs := #[.int .i64 0, .int .i64 0]) ?_ 0 _ rfl; (with_reducible repeat (first | refine blk_drewN ?_ _ | refine blk_drew ?_ | refine blk_alloc ?_ _)); exact BK216.out⟩
 have n2_ : Aside0 (Below w.heap.size w ((w85.setCell ⟨gb216, 0, none⟩ (.int .i64 ((rd_T73 l0_3 x122_4).f0))).setCell ⟨gb216, 1, none⟩ (.int .i64 ((rd_T73 l0_3 x122_4).f1)))) := ⟨by repeat (first | (with_reducible first | exact HB.out | apply below_alloc | apply pw_below_drewN | apply below_drew1 | refine below_set ?_ GE198.out | refine below_set ?_ GE216.out) | exact HB.out)⟩
 (try clear BK198)
 (try clear BK216)
 (try clear HB)
 generalize ((w85.setCell ⟨gb216, 0, none⟩ (.int .i64 ((rd_T73 l0_3 x122_4).f0))).setCell ⟨gb216, 1, none⟩ (.int .i64 ((rd_T73 l0_3 x122_4).f1))) = w115 at n0_ n1_ n2_ ⊢
 have BK198 := n0_
 have BK216 := n1_
 have HB := n2_
 clear n0_ n1_ n2_
 have n0_ := Aside0.mk (blk_drew BK198.out)
 have n1_ := Aside0.mk (blk_drew BK216.out)
 have n2_ := Aside0.mk (below_drew1 HB.out)
 clear BK198
 clear BK216
 clear HB
 have BK198 := n0_
 have BK216 := n1_
 have HB := n2_
 clear n0_ n1_ n2_
 refine start_ (n := 36) (S := fun w' => w'.cell? ⟨gb216, 0, none⟩ = some (.int .i64 ((rd_T73 l0_3 x122_4).f0)) ∧ w'.cell? ⟨gb216, 1, none⟩ = some (.int .i64 ((rd_T73 l0_3 x122_4).f1))) (ds := []) m77_ s2_ rfl rfl ⟨(blk_cell BK216.out 0).trans rfl, (blk_cell BK216.out 1).trans rfl⟩ (fun hHeld => ?_); refine with_tabW impl_ValidRoom.tab18 impl_ValidRoom.bits18 (fun HT_ HW_ => ?_)
 generalize w115.drew = w116 at BK198 BK216 HB hHeld ⊢
 refine pu_ 0 127 m78_ (any_of HT_.out s2_) ?_
 refine take_ (i := 1) (N := some 128) (v := ?_) (a' := ?_) m79_ rfl rfl (take_ofW HT_.out HW_.out s2_) (fun _ _ _ h => h) (Or.inl ⟨by rfl, ?_⟩) hHeld ?_ ?_
 rotate_left
 {
 rintro w' ⟨s0, s1⟩
 go_simp
 with_reducible rfl}
 rotate_left
 · exact p1_
 refine one_ (i := 2) (N := some 129) m80_ rfl rfl (one_of HT_.out s2_) (by decide) (fun K hK => ?_)
 refine goes_ Try.func32 s2_ rfl #[.int .i64 ((rd_T73 l0_3 x122_4).f0)] (by rfl) rfl rfl s3_ ?_
 with_reducible refine (impl_isMember.calls ((rd_T73 l0_3 x122_4).f0) true _ A88.out).mono ?_
 rintro e w' ⟨rfl, ⟨nd, rfl⟩⟩
 refine ⟨_, rfl, ?_⟩
 refine hK.out _ _ ⟨(blk_cell BK216.out 0).trans rfl, (blk_cell BK216.out 1).trans rfl⟩ (fun hHeld => ?_)
 clear hK K
 refine norm_ (a' := ?_) ?_ ?_
 rotate_left
 {
 show Act.put _ (some 129) _ = _
 simp only [Act.put, List.setIfInBounds_toArray, List.set_cons_zero, List.set_cons_succ, i64_w, i32_w]
 rfl}
 refine pu_ 3 130 m81_ (any_of HT_.out s2_) ?_
 refine pu_ 4 131 m82_ (any_of HT_.out s2_) ?_
 refine pu_ 5 132 m83_ (any_of HT_.out s2_) ?_
 refine take_ (i := 6) (N := some 133) (v := ?_) (a' := ?_) m84_ rfl rfl (take_ofW HT_.out HW_.out s2_) (fun _ _ _ h => h) (Or.inl ⟨by rfl, ?_⟩) hHeld ?_ ?_
 rotate_left
 {
 rintro w' ⟨s0, s1⟩
 go_simp
 with_reducible rfl}
 rotate_left
 · exact p1_
 refine one_ (i := 7) (N := some 134) m85_ rfl rfl (one_of HT_.out s2_) (by decide) (fun K hK => ?_)
 refine goes_ Try.func34 s2_ rfl #[.int .i64 ((rd_T73 l0_3 x122_4).f1)] (by rfl) rfl rfl s3_ ?_
 with_reducible refine (impl_isTick.calls ((rd_T73 l0_3 x122_4).f1) false _ A90.out).mono ?_
 rintro e w' ⟨rfl, ⟨nd, rfl⟩⟩
 refine ⟨_, rfl, ?_⟩
 refine hK.out _ _ ⟨(blk_cell BK216.out 0).trans rfl, (blk_cell BK216.out 1).trans rfl⟩ (fun hHeld => ?_)
 clear hK K
 refine norm_ (a' := ?_) ?_ ?_
 rotate_left
 {
 show Act.put _ (some 134) _ = _
 simp only [Act.put, List.setIfInBounds_toArray, List.set_cons_zero, List.set_cons_succ, i64_w, i32_w]
 rfl}
 refine pu_ 8 135 m86_ (any_of HT_.out s2_) ?_
 refine pu_ 9 136 m87_ (any_of HT_.out s2_) ?_
 refine pu_ 10 137 m88_ (any_of HT_.out s2_) ?_
 refine pn_ 11 138 m89_ (any_of HT_.out s2_) ?_
 refine pn_ 12 139 m90_ (any_of HT_.out s2_) ?_
 refine pn_ 13 140 m91_ (any_of HT_.out s2_) ?_
 refine pu_ 14 141 m92_ (any_of HT_.out s2_) ?_
 refine pu_ 15 142 m93_ (any_of HT_.out s2_) ?_
 refine pn_ 16 143 m94_ (any_of HT_.out s2_) ?_
 refine pn_ 17 144 m95_ (any_of HT_.out s2_) ?_
 refine pn_ 18 145 m96_ (any_of HT_.out s2_) ?_
 refine pu_ 19 146 m97_ (any_of HT_.out s2_) ?_
 refine pu_ 20 147 m98_ (any_of HT_.out s2_) ?_
 refine pn_ 21 148 m99_ (any_of HT_.out s2_) ?_
 refine pn_ 22 149 m100_ (any_of HT_.out s2_) ?_
 refine pn_ 23 150 m101_ (any_of HT_.out s2_) ?_
 refine pn_ 24 151 m102_ (any_of HT_.out s2_) ?_
 refine pn_ 25 152 m103_ (any_of HT_.out s2_) ?_
 refine pn_ 26 153 m104_ (any_of HT_.out s2_) ?_
 refine pn_ 27 154 m105_ (any_of HT_.out s2_) ?_
 refine pn_ 28 155 m106_ (any_of HT_.out s2_) ?_
 refine pn_ 29 156 m107_ (any_of HT_.out s2_) ?_
 refine pn_ 30 157 m108_ (any_of HT_.out s2_) ?_
 refine pn_ 31 158 m109_ (any_of HT_.out s2_) ?_
 refine pn_ 32 159 m110_ (any_of HT_.out s2_) ?_
 refine pn_ 33 160 m111_ (any_of HT_.out s2_) ?_
 refine pn_ 34 161 m112_ (any_of HT_.out s2_) ?_
 refine pu_ 35 162 m113_ (any_of HT_.out s2_) ?_
 refine done_ (done_of HT_.out s2_) ?_
 try go_wp2
 go_meet
 case rel => exact ⟨_, (true), s1_, H', ⟨by have := HJ1.out; have := HK2.out; have := HK3.out; have := HK4.out; first | omega | exact Nat.le_refl _⟩, ⟨b1_ BK198.out⟩, ⟨b1_ BK216.out⟩, ⟨by repeat (first | (with_reducible first | exact HB.out | apply below_alloc | apply pw_below_drewN | apply below_drew1 | refine below_set ?_ GE198.out | refine below_set ?_ GE216.out) | exact HB.out)⟩⟩}}
 {
 replace c89 := Bool.eq_false_iff.mpr c89
 subst c89
 have H1 : (impl_ValidRoom.j6 k4 l0_3 (l0_3.length : Int) x122_4 true a0_0 l0_1 l0_2 l0_3) = some r := by rw [if_neg (show ¬ (false = true) by decide)] at H; exact H
 clear H
 have H := H1
 clear H1
 have H' := Aside0.mk H
 clear H
 try go_wp2
 have n0_ : Aside0 (((w85.setCell ⟨gb216, 0, none⟩ (.int .i64 ((rd_T73 l0_3 x122_4).f0))).setCell ⟨gb216, 1, none⟩ (.int .i64 ((rd_T73 l0_3 x122_4).f1))).heap[gb198]? = some (.cells #[.bool a0_0, .slice A0_1 l0_1.length c0_1, .slice A0_2 l0_2.length c0_2, .slice (some ad215) l0_3.length c0_3] 28 (0, 0))) := ⟨by (with_reducible repeat (first | refine blk_drewN ?_ _ | refine blk_drew ?_ | refine blk_alloc ?_ _)); refine blk_far ?_ NB198_216.out _; (with_reducible repeat (first | refine blk_drewN ?_ _ | refine blk_drew ?_ | refine blk_alloc ?_ _)); refine blk_far ?_ NB198_216.out _; (with_reducible repeat (first | refine blk_drewN ?_ _ | refine blk_drew ?_ | refine blk_alloc ?_ _)); exact BK198.out⟩
 have n1_ : Aside0 (((w85.setCell ⟨gb216, 0, none⟩ (.int .i64 ((rd_T73 l0_3 x122_4).f0))).setCell ⟨gb216, 1, none⟩ (.int .i64 ((rd_T73 l0_3 x122_4).f1))).heap[gb216]? = some (.cells #[.int .i64 ((rd_T73 l0_3 x122_4).f0), .int .i64 ((rd_T73 l0_3 x122_4).f1)] 73 (0, 0))) := ⟨by (with_reducible repeat (first | refine blk_drewN ?_ _ | refine blk_drew ?_ | refine blk_alloc ?_ _)); refine blk_put (cs := #[.int .i64 ((rd_T73 l0_3 x122_4).f0), .int .i64 0]) ?_ 1 _ rfl; (with_reducible repeat (first | refine blk_drewN ?_ _ | refine blk_drew ?_ | refine blk_alloc ?_ _)); refine blk_put (cs := #[.int .i64 0, .int .i64 0]) ?_ 0 _ rfl; (with_reducible repeat (first | refine blk_drewN ?_ _ | refine blk_drew ?_ | refine blk_alloc ?_ _)); exact BK216.out⟩
 have n2_ : Aside0 (Below w.heap.size w ((w85.setCell ⟨gb216, 0, none⟩ (.int .i64 ((rd_T73 l0_3 x122_4).f0))).setCell ⟨gb216, 1, none⟩ (.int .i64 ((rd_T73 l0_3 x122_4).f1)))) := ⟨by repeat (first | (with_reducible first | exact HB.out | apply below_alloc | apply pw_below_drewN | apply below_drew1 | refine below_set ?_ GE198.out | refine below_set ?_ GE216.out) | exact HB.out)⟩
 (try clear BK198)
 (try clear BK216)
 (try clear HB)
 generalize ((w85.setCell ⟨gb216, 0, none⟩ (.int .i64 ((rd_T73 l0_3 x122_4).f0))).setCell ⟨gb216, 1, none⟩ (.int .i64 ((rd_T73 l0_3 x122_4).f1))) = w117 at n0_ n1_ n2_ ⊢
 have BK198 := n0_
 have BK216 := n1_
 have HB := n2_
 clear n0_ n1_ n2_
 have n0_ := Aside0.mk (blk_drew BK198.out)
 have n1_ := Aside0.mk (blk_drew BK216.out)
 have n2_ := Aside0.mk (below_drew1 HB.out)
 clear BK198
 clear BK216
 clear HB
 have BK198 := n0_
 have BK216 := n1_
 have HB := n2_
 clear n0_ n1_ n2_
 refine start_ (n := 36) (S := fun w' => w'.cell? ⟨gb216, 0, none⟩ = some (.int .i64 ((rd_T73 l0_3 x122_4).f0)) ∧ w'.cell? ⟨gb216, 1, none⟩ = some (.int .i64 ((rd_T73 l0_3 x122_4).f1))) (ds := []) m77_ s2_ rfl rfl ⟨(blk_cell BK216.out 0).trans rfl, (blk_cell BK216.out 1).trans rfl⟩ (fun hHeld => ?_); refine with_tabW impl_ValidRoom.tab18 impl_ValidRoom.bits18 (fun HT_ HW_ => ?_)
 generalize w117.drew = w118 at BK198 BK216 HB hHeld ⊢
 refine pu_ 0 127 m78_ (any_of HT_.out s2_) ?_
 refine take_ (i := 1) (N := some 128) (v := ?_) (a' := ?_) m79_ rfl rfl (take_ofW HT_.out HW_.out s2_) (fun _ _ _ h => h) (Or.inl ⟨by rfl, ?_⟩) hHeld ?_ ?_
 rotate_left
 {
 rintro w' ⟨s0, s1⟩
 go_simp
 with_reducible rfl}
 rotate_left
 · exact p1_
 refine one_ (i := 2) (N := some 129) m80_ rfl rfl (one_of HT_.out s2_) (by decide) (fun K hK => ?_)
 refine goes_ Try.func32 s2_ rfl #[.int .i64 ((rd_T73 l0_3 x122_4).f0)] (by rfl) rfl rfl s3_ ?_
 with_reducible refine (impl_isMember.calls ((rd_T73 l0_3 x122_4).f0) false _ A88.out).mono ?_
 rintro e w' ⟨rfl, ⟨nd, rfl⟩⟩
 refine ⟨_, rfl, ?_⟩
 refine hK.out _ _ ⟨(blk_cell BK216.out 0).trans rfl, (blk_cell BK216.out 1).trans rfl⟩ (fun hHeld => ?_)
 clear hK K
 refine norm_ (a' := ?_) ?_ ?_
 rotate_left
 {
 show Act.put _ (some 129) _ = _
 simp only [Act.put, List.setIfInBounds_toArray, List.set_cons_zero, List.set_cons_succ, i64_w, i32_w]
 rfl}
 refine pu_ 3 130 m81_ (any_of HT_.out s2_) ?_
 refine pu_ 4 131 m82_ (any_of HT_.out s2_) ?_
 refine pn_ 5 132 m83_ (any_of HT_.out s2_) ?_
 refine pn_ 6 133 m84_ (any_of HT_.out s2_) ?_
 refine pn_ 7 134 m85_ (any_of HT_.out s2_) ?_
 refine pn_ 8 135 m86_ (any_of HT_.out s2_) ?_
 refine pu_ 9 136 m87_ (any_of HT_.out s2_) ?_
 refine pu_ 10 137 m88_ (any_of HT_.out s2_) ?_
 refine pn_ 11 138 m89_ (any_of HT_.out s2_) ?_
 refine pn_ 12 139 m90_ (any_of HT_.out s2_) ?_
 refine pn_ 13 140 m91_ (any_of HT_.out s2_) ?_
 refine pu_ 14 141 m92_ (any_of HT_.out s2_) ?_
 refine pu_ 15 142 m93_ (any_of HT_.out s2_) ?_
 refine pn_ 16 143 m94_ (any_of HT_.out s2_) ?_
 refine pn_ 17 144 m95_ (any_of HT_.out s2_) ?_
 refine pn_ 18 145 m96_ (any_of HT_.out s2_) ?_
 refine pu_ 19 146 m97_ (any_of HT_.out s2_) ?_
 refine pu_ 20 147 m98_ (any_of HT_.out s2_) ?_
 refine pn_ 21 148 m99_ (any_of HT_.out s2_) ?_
 refine pn_ 22 149 m100_ (any_of HT_.out s2_) ?_
 refine pn_ 23 150 m101_ (any_of HT_.out s2_) ?_
 refine pn_ 24 151 m102_ (any_of HT_.out s2_) ?_
 refine pn_ 25 152 m103_ (any_of HT_.out s2_) ?_
 refine pn_ 26 153 m104_ (any_of HT_.out s2_) ?_
 refine pn_ 27 154 m105_ (any_of HT_.out s2_) ?_
 refine pn_ 28 155 m106_ (any_of HT_.out s2_) ?_
 refine pn_ 29 156 m107_ (any_of HT_.out s2_) ?_
 refine pn_ 30 157 m108_ (any_of HT_.out s2_) ?_
 refine pn_ 31 158 m109_ (any_of HT_.out s2_) ?_
 refine pn_ 32 159 m110_ (any_of HT_.out s2_) ?_
 refine pn_ 33 160 m111_ (any_of HT_.out s2_) ?_
 refine pn_ 34 161 m112_ (any_of HT_.out s2_) ?_
 refine pu_ 35 162 m113_ (any_of HT_.out s2_) ?_
 refine done_ (done_of HT_.out s2_) ?_
 try go_wp2
 go_meet
 case rel => exact ⟨_, (true), s1_, H', ⟨by have := HJ1.out; have := HK2.out; have := HK3.out; have := HK4.out; first | omega | exact Nat.le_refl _⟩, ⟨b1_ BK198.out⟩, ⟨b1_ BK216.out⟩, ⟨by repeat (first | (with_reducible first | exact HB.out | apply below_alloc | apply pw_below_drewN | apply below_drew1 | refine below_set ?_ GE198.out | refine below_set ?_ GE216.out) | exact HB.out)⟩⟩}}
 case rest =>
  skip
  {
 clear HC84
 try clear p2
 try clear c3
 try clear c8
 try clear c9
 try clear c32
 try clear c34
 try clear c89
 try clear c91
 obtain ⟨kq, x162_83, rfl, HA, HJ83, BK198, BK216, HB⟩ := hcut
 cases kq with
 | zero => exact absurd HA.out (by simp [impl_ValidRoom.j6])
 | succ kj83 =>
  skip
  {
 have H := HA.out
 clear HA
 simp only [impl_ValidRoom.j6] at H
 by_cases c119 : x162_83 = true
 {
 subst c119
 have H1 : (some false) = some r := by rw [if_pos rfl] at H; exact H
 clear H
 have H := H1
 clear H1
 obtain rfl := Option.some.inj H
 go_wp2
 go_ret
 exact ⟨by first | rfl | (simp [errW_none, errW_some] <;> rfl) | (simp [*, errW_none, errW_some] <;> rfl), by repeat (first | (with_reducible first | exact HB.out | apply below_alloc | apply pw_below_drewN | apply below_drew1 | refine below_set ?_ GE198.out | refine below_set ?_ GE216.out) | exact HB.out)⟩}
 {
 replace c119 := Bool.eq_false_iff.mpr c119
 subst c119
 have H1 : (impl_ValidRoom.l2 kj83 l0_3 (l0_3.length : Int) (wrap64 (x122_4 + 1)) a0_0 l0_1 l0_2 l0_3) = some r := by rw [if_neg (show ¬ (false = true) by decide)] at H; exact H
 clear H
 have H := H1
 clear H1
 have H' := Aside0.mk H
 clear H
 go_wp2
 go_roundg kj83
 case measure => have := HJ1.out; have := HK2.out; have := HK3.out; have := HK4.out; have := HJ83.out; omega
 case rel => exact ⟨(wrap64 (x122_4 + 1)), s1_, H', ⟨by have := HJ1.out; have := HK2.out; have := HK3.out; have := HK4.out; have := HJ83.out; omega⟩, ⟨b1_ BK198.out⟩, ⟨by repeat (first | (with_reducible first | exact HB.out | apply below_alloc | apply pw_below_drewN | apply below_drew1 | refine below_set ?_ GE198.out | refine below_set ?_ GE216.out) | exact HB.out)⟩⟩}}}}
 {
 rw [if_neg c83] at H
 exact absurd H (by simp)}}
 {
 rw [if_neg c82] at H
 exact absurd H (by simp)}}
 {
 rw [if_neg c81] at H
 have c81b0 : decide (x122_4 < (l0_3.length : Int)) = false := decide_eq_false c81
 clear c81
 replace H := Option.bind_eq_some_iff.mp H
 obtain ⟨t214, A1200, H⟩ := H
 replace H : (some (decide (t214 > 0))) = some r := H
 have A120 := Aside0.mk A1200
 clear A1200
 obtain rfl := Option.some.inj H
 go_wp2_with (first | ((with_reducible refine gate_callee (f := 37) rfl ?_); refine goesL_ (some 164) rfl rfl Try.func37 s2_ rfl #[.pointer (some ⟨gb198, 0, none⟩)] rfl s3_ ?_; (with_reducible refine (impl_Room_owners.calls k4 gb198 a0_0 A0_1 c0_1 l0_1 A0_2 c0_2 l0_2 A0_3 c0_3 l0_3 t214 _ ?side1 ?side2 ?side3 ?side4 ?side5 ?side6 ?side7 A120.out).mono ?_); (case side1 => exact (b1_ BK198.out)); (case side2 => repeat (first | exact (Kd.C_below HR0_1.out HB.out) | (with_reducible refine Kd.C_alloc ?_ _) | (with_reducible refine Kd.C_drewN ?_ _) | (with_reducible refine Kd.C_drew ?_))); (case side3 => exact HC0_1.out); (case side4 => repeat (first | exact (Kd.C_below HR0_2.out HB.out) | (with_reducible refine Kd.C_alloc ?_ _) | (with_reducible refine Kd.C_drewN ?_ _) | (with_reducible refine Kd.C_drew ?_))); (case side5 => exact HC0_2.out); (case side6 => repeat (first | exact (Kd.C_below HR0_3.out HB.out) | (with_reducible refine Kd.C_alloc ?_ _) | (with_reducible refine Kd.C_drewN ?_ _) | (with_reducible refine Kd.C_drew ?_))); (case side7 => exact HC0_3.out); rintro e w121 ⟨rfl, hb⟩; refine ⟨_, rfl, ?_⟩; have n0_ := Aside0.mk (blk_below (g := gb198) (o := .cells #[.bool a0_0, .slice A0_1 l0_1.length c0_1, .slice A0_2 l0_2.length c0_2, .slice A0_3 l0_3.length c0_3] 28 (0, 0)) (b1_ BK198.out) hb); have n1_ := Aside0.mk (below_step (by repeat (first | (with_reducible first | exact HB.out | apply below_alloc | apply pw_below_drewN | apply below_drew1 | refine below_set ?_ GE198.out) | exact HB.out)) hb); clear BK198; clear HB; have BK198 := n0_; have HB := n1_; clear n0_ n1_; (try clear hb); (try clear hb2); (try clear hk); (try clear hi)))
 go_ret
 exact ⟨by first | rfl | (simp [errW_none, errW_some] <;> rfl) | (simp [*, errW_none, errW_some] <;> rfl), by repeat (first | (with_reducible first | exact HB.out | apply below_alloc | apply pw_below_drewN | apply below_drew1 | refine below_set ?_ GE198.out) | exact HB.out)⟩}}}}}}}}}}}}

end Go.Proofs.Ytdanachjdfiegaa.QFnAllowed
