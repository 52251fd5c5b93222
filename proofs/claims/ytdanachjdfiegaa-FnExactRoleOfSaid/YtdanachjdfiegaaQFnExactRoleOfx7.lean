-- written by a program of this session, on the lines of the kit's print
import Derived.Test.YtdanachjdfiegaaQFnExactRoleOfx0
import Derived.Test.YtdanachjdfiegaaQFnExactRoleOfx5
import Derived.Test.YtdanachjdfiegaaQFnExactRoleOfx6
namespace Go.Proofs.Ytdanachjdfiegaa.QFnExactRoleOf
open Go.RowKit Go.Proofs.YtdanachjdfiegaaW.PrintWords Go.Proofs.YtdanachjdfiegaaW.PrintLast Go.Proofs.YtdanachjdfiegaaW.PrintMore
attribute [local go_sem] max2_int min2_int max_two min_two max_three min_three max_four min_four   -- for this text's walks alone
set_option linter.unusedVariables false
set_option linter.unusedSimpArgs false

theorem cellS28_0 {W : World} {g : Nat} {A1 : Option Addr} {c1 : Nat} {A2 : Option Addr} {c2 : Nat} {A3 : Option Addr} {c3 : Nat} {f0 : Bool} {f1 : List (S36)} {f2 : List (S71)} {f3 : List (S73)} (h : W.heap[g]? = some (.cells #[.bool f0, .slice A1 f1.length c1, .slice A2 f2.length c2, .slice A3 f3.length c3] 28 (0, 0))) : W.cell? ⟨g, 0, none⟩ = some (.bool f0) := (blk_cell h 0).trans rfl
theorem cellS28_1 {W : World} {g : Nat} {A1 : Option Addr} {c1 : Nat} {A2 : Option Addr} {c2 : Nat} {A3 : Option Addr} {c3 : Nat} {f0 : Bool} {f1 : List (S36)} {f2 : List (S71)} {f3 : List (S73)} (h : W.heap[g]? = some (.cells #[.bool f0, .slice A1 f1.length c1, .slice A2 f2.length c2, .slice A3 f3.length c3] 28 (0, 0))) : W.cell? ⟨g, 1, none⟩ = some (.slice A1 f1.length c1) := (blk_cell h 1).trans rfl
theorem cellS28_2 {W : World} {g : Nat} {A1 : Option Addr} {c1 : Nat} {A2 : Option Addr} {c2 : Nat} {A3 : Option Addr} {c3 : Nat} {f0 : Bool} {f1 : List (S36)} {f2 : List (S71)} {f3 : List (S73)} (h : W.heap[g]? = some (.cells #[.bool f0, .slice A1 f1.length c1, .slice A2 f2.length c2, .slice A3 f3.length c3] 28 (0, 0))) : W.cell? ⟨g, 2, none⟩ = some (.slice A2 f2.length c2) := (blk_cell h 2).trans rfl
theorem cellS28_3 {W : World} {g : Nat} {A1 : Option Addr} {c1 : Nat} {A2 : Option Addr} {c2 : Nat} {A3 : Option Addr} {c3 : Nat} {f0 : Bool} {f1 : List (S36)} {f2 : List (S71)} {f3 : List (S73)} (h : W.heap[g]? = some (.cells #[.bool f0, .slice A1 f1.length c1, .slice A2 f2.length c2, .slice A3 f3.length c3] 28 (0, 0))) : W.cell? ⟨g, 3, none⟩ = some (.slice A3 f3.length c3) := (blk_cell h 3).trans rfl
/-! ### spec_l02Members: function 81 -/
abbrev spec_l02Members.T : Bool := true
abbrev spec_l02Members.F : Bool := false
theorem spec_l02Members.s1_ {P : Prop} (h : P := by first | rfl | (simp; done) | (simp [*]; done)) : P := h
theorem spec_l02Members.s2_ {P : Prop} (h : P := by kernel_rfl) : P := h
theorem spec_l02Members.s3_ {P : Prop} (h : P := by (try simp only [List.map_toArray, List.map_cons, List.map_nil]); first | done | rfl | (simp only [List.length_drop, List.length_take]; rfl)) : P := h
abbrev spec_l02Members.m0_ : Array Bool := #[F,F,F,F,F,F,F,F,F,F,F,F,F,F,F,F,F,F,F,F,F,F,F,F,F,F,F,F,F,F,F,F,F,F,F,F,F,F,F,F,F,F,F,F,F,F,F,F,F,F]
abbrev spec_l02Members.m1_ : Array Bool := #[T,F,F,F,F,F,F,F,F,F,F,F,F,F,F,F,F,F,F,F,F,F,F,F,F,F,F,F,F,F,F,F,F,F,F,F,F,F,F,F,F,F,F,F,F,F,F,F,F,F]
abbrev spec_l02Members.m2_ : Array Bool := #[T,T,F,F,F,F,F,F,F,F,F,F,F,F,F,F,F,F,F,F,F,F,F,F,F,F,F,F,F,F,F,F,F,F,F,F,F,F,F,F,F,F,F,F,F,F,F,F,F,F]
abbrev spec_l02Members.m3_ : Array Bool := #[T,T,T,F,F,F,F,F,F,F,F,F,F,F,F,F,F,F,F,F,F,F,F,F,F,F,F,F,F,F,F,F,F,F,F,F,F,F,F,F,F,F,F,F,F,F,F,F,F,F]
abbrev spec_l02Members.m4_ : Array Bool := #[T,T,T,T,F,F,F,F,F,F,F,F,F,F,F,F,F,F,F,F,F,F,F,F,F,F,F,F,F,F,F,F,F,F,F,F,F,F,F,F,F,F,F,F,F,F,F,F,F,F]
abbrev spec_l02Members.m5_ : Array Bool := #[T,T,T,T,T,F,F,F,F,F,F,F,F,F,F,F,F,F,F,F,F,F,F,F,F,F,F,F,F,F,F,F,F,F,F,F,F,F,F,F,F,F,F,F,F,F,F,F,F,F]
abbrev spec_l02Members.m6_ : Array Bool := #[T,T,T,T,T,T,F,F,F,F,F,F,F,F,F,F,F,F,F,F,F,F,F,F,F,F,F,F,F,F,F,F,F,F,F,F,F,F,F,F,F,F,F,F,F,F,F,F,F,F]
abbrev spec_l02Members.m7_ : Array Bool := #[T,T,T,T,T,T,T,F,F,F,F,F,F,F,F,F,F,F,F,F,F,F,F,F,F,F,F,F,F,F,F,F,F,F,F,F,F,F,F,F,F,F,F,F,F,F,F,F,F,F]
abbrev spec_l02Members.m8_ : Array Bool := #[T,T,T,T,T,T,T,T,F,F,F,F,F,F,F,F,F,F,F,F,F,F,F,F,F,F,F,F,F,F,F,F,F,F,F,F,F,F,F,F,F,F,F,F,F,F,F,F,F,F]
abbrev spec_l02Members.m9_ : Array Bool := #[T,T,T,T,T,T,T,T,T,F,F,F,F,F,F,F,F,F,F,F,F,F,F,F,F,F,F,F,F,F,F,F,F,F,F,F,F,F,F,F,F,F,F,F,F,F,F,F,F,F]
abbrev spec_l02Members.m10_ : Array Bool := #[T,T,T,T,T,T,T,T,T,T,F,F,F,F,F,F,F,F,F,F,F,F,F,F,F,F,F,F,F,F,F,F,F,F,F,F,F,F,F,F,F,F,F,F,F,F,F,F,F,F]
abbrev spec_l02Members.m11_ : Array Bool := #[T,T,T,T,T,T,T,T,T,T,T,F,F,F,F,F,F,F,F,F,F,F,F,F,F,F,F,F,F,F,F,F,F,F,F,F,F,F,F,F,F,F,F,F,F,F,F,F,F,F]
abbrev spec_l02Members.m12_ : Array Bool := #[T,T,T,T,T,T,T,T,T,T,T,T,F,F,F,F,F,F,F,F,F,F,F,F,F,F,F,F,F,F,F,F,F,F,F,F,F,F,F,F,F,F,F,F,F,F,F,F,F,F]
abbrev spec_l02Members.m13_ : Array Bool := #[T,T,T,T,T,T,T,T,T,T,T,T,T,F,F,F,F,F,F,F,F,F,F,F,F,F,F,F,F,F,F,F,F,F,F,F,F,F,F,F,F,F,F,F,F,F,F,F,F,F]
abbrev spec_l02Members.m14_ : Array Bool := #[T,T,T,T,T,T,T,T,T,T,T,T,T,T,F,F,F,F,F,F,F,F,F,F,F,F,F,F,F,F,F,F,F,F,F,F,F,F,F,F,F,F,F,F,F,F,F,F,F,F]
abbrev spec_l02Members.m15_ : Array Bool := #[T,T,T,T,T,T,T,T,T,T,T,T,T,T,T,F,F,F,F,F,F,F,F,F,F,F,F,F,F,F,F,F,F,F,F,F,F,F,F,F,F,F,F,F,F,F,F,F,F,F]
abbrev spec_l02Members.m16_ : Array Bool := #[T,T,T,T,T,T,T,T,T,T,T,T,T,T,T,T,F,F,F,F,F,F,F,F,F,F,F,F,F,F,F,F,F,F,F,F,F,F,F,F,F,F,F,F,F,F,F,F,F,F]
abbrev spec_l02Members.m17_ : Array Bool := #[T,T,T,T,T,T,T,T,T,T,T,T,T,T,T,T,T,F,F,F,F,F,F,F,F,F,F,F,F,F,F,F,F,F,F,F,F,F,F,F,F,F,F,F,F,F,F,F,F,F]
abbrev spec_l02Members.m18_ : Array Bool := #[T,T,T,T,T,T,T,T,T,T,T,T,T,T,T,T,T,T,F,F,F,F,F,F,F,F,F,F,F,F,F,F,F,F,F,F,F,F,F,F,F,F,F,F,F,F,F,F,F,F]
abbrev spec_l02Members.m19_ : Array Bool := #[T,T,T,T,T,T,T,T,T,T,T,T,T,T,T,T,T,T,T,F,F,F,F,F,F,F,F,F,F,F,F,F,F,F,F,F,F,F,F,F,F,F,F,F,F,F,F,F,F,F]
abbrev spec_l02Members.m20_ : Array Bool := #[T,T,T,T,T,T,T,T,T,T,T,T,T,T,T,T,T,T,T,T,F,F,F,F,F,F,F,F,F,F,F,F,F,F,F,F,F,F,F,F,F,F,F,F,F,F,F,F,F,F]
abbrev spec_l02Members.m21_ : Array Bool := #[T,T,T,T,T,T,T,T,T,T,T,T,T,T,T,T,T,T,T,T,T,F,F,F,F,F,F,F,F,F,F,F,F,F,F,F,F,F,F,F,F,F,F,F,F,F,F,F,F,F]
abbrev spec_l02Members.m22_ : Array Bool := #[T,T,T,T,T,T,T,T,T,T,T,T,T,T,T,T,T,T,T,T,T,T,F,F,F,F,F,F,F,F,F,F,F,F,F,F,F,F,F,F,F,F,F,F,F,F,F,F,F,F]
abbrev spec_l02Members.m23_ : Array Bool := #[T,T,T,T,T,T,T,T,T,T,T,T,T,T,T,T,T,T,T,T,T,T,T,F,F,F,F,F,F,F,F,F,F,F,F,F,F,F,F,F,F,F,F,F,F,F,F,F,F,F]
abbrev spec_l02Members.m24_ : Array Bool := #[T,T,T,T,T,T,T,T,T,T,T,T,T,T,T,T,T,T,T,T,T,T,T,T,F,F,F,F,F,F,F,F,F,F,F,F,F,F,F,F,F,F,F,F,F,F,F,F,F,F]
abbrev spec_l02Members.m25_ : Array Bool := #[T,T,T,T,T,T,T,T,T,T,T,T,T,T,T,T,T,T,T,T,T,T,T,T,T,F,F,F,F,F,F,F,F,F,F,F,F,F,F,F,F,F,F,F,F,F,F,F,F,F]
abbrev spec_l02Members.m26_ : Array Bool := #[T,T,T,T,T,T,T,T,T,T,T,T,T,T,T,T,T,T,T,T,T,T,T,T,T,T,F,F,F,F,F,F,F,F,F,F,F,F,F,F,F,F,F,F,F,F,F,F,F,F]
abbrev spec_l02Members.m27_ : Array Bool := #[T,T,T,T,T,T,T,T,T,T,T,T,T,T,T,T,T,T,T,T,T,T,T,T,T,T,T,F,F,F,F,F,F,F,F,F,F,F,F,F,F,F,F,F,F,F,F,F,F,F]
abbrev spec_l02Members.m28_ : Array Bool := #[T,T,T,T,T,T,T,T,T,T,T,T,T,T,T,T,T,T,T,T,T,T,T,T,T,T,T,T,F,F,F,F,F,F,F,F,F,F,F,F,F,F,F,F,F,F,F,F,F,F]
abbrev spec_l02Members.m29_ : Array Bool := #[T,T,T,T,T,T,T,T,T,T,T,T,T,T,T,T,T,T,T,T,T,T,T,T,T,T,T,T,T,F,F,F,F,F,F,F,F,F,F,F,F,F,F,F,F,F,F,F,F,F]
abbrev spec_l02Members.m30_ : Array Bool := #[T,T,T,T,T,T,T,T,T,T,T,T,T,T,T,T,T,T,T,T,T,T,T,T,T,T,T,T,T,T,F,F,F,F,F,F,F,F,F,F,F,F,F,F,F,F,F,F,F,F]
abbrev spec_l02Members.m31_ : Array Bool := #[T,T,T,T,T,T,T,T,T,T,T,T,T,T,T,T,T,T,T,T,T,T,T,T,T,T,T,T,T,T,T,F,F,F,F,F,F,F,F,F,F,F,F,F,F,F,F,F,F,F]
abbrev spec_l02Members.m32_ : Array Bool := #[T,T,T,T,T,T,T,T,T,T,T,T,T,T,T,T,T,T,T,T,T,T,T,T,T,T,T,T,T,T,T,T,F,F,F,F,F,F,F,F,F,F,F,F,F,F,F,F,F,F]
abbrev spec_l02Members.m33_ : Array Bool := #[T,T,T,T,T,T,T,T,T,T,T,T,T,T,T,T,T,T,T,T,T,T,T,T,T,T,T,T,T,T,T,T,T,F,F,F,F,F,F,F,F,F,F,F,F,F,F,F,F,F]
abbrev spec_l02Members.m34_ : Array Bool := #[T,T,T,T,T,T,T,T,T,T,T,T,T,T,T,T,T,T,T,T,T,T,T,T,T,T,T,T,T,T,T,T,T,T,F,F,F,F,F,F,F,F,F,F,F,F,F,F,F,F]
abbrev spec_l02Members.m35_ : Array Bool := #[T,T,T,T,T,T,T,T,T,T,T,T,T,T,T,T,T,T,T,T,T,T,T,T,T,T,T,T,T,T,T,T,T,T,T,F,F,F,F,F,F,F,F,F,F,F,F,F,F,F]
abbrev spec_l02Members.m36_ : Array Bool := #[T,T,T,T,T,T,T,T,T,T,T,T,T,T,T,T,T,T,T,T,T,T,T,T,T,T,T,T,T,T,T,T,T,T,T,T,F,F,F,F,F,F,F,F,F,F,F,F,F,F]
abbrev spec_l02Members.m37_ : Array Bool := #[T,T,T,T,T,T,T,T,T,T,T,T,T,T,T,T,T,T,T,T,T,T,T,T,T,T,T,T,T,T,T,T,T,T,T,T,T,F,F,F,F,F,F,F,F,F,F,F,F,F]
abbrev spec_l02Members.m38_ : Array Bool := #[T,T,T,T,T,T,T,T,T,T,T,T,T,T,T,T,T,T,T,T,T,T,T,T,T,T,T,T,T,T,T,T,T,T,T,T,T,F,T,F,F,F,F,F,F,F,F,F,F,F]
abbrev spec_l02Members.m39_ : Array Bool := #[T,T,T,T,T,T,T,T,T,T,T,T,T,T,T,T,T,T,T,T,T,T,T,T,T,T,T,T,T,T,T,T,T,T,T,T,T,F,T,T,F,F,F,F,F,F,F,F,F,F]
abbrev spec_l02Members.m40_ : Array Bool := #[T,T,T,T,T,T,T,T,T,T,T,T,T,T,T,T,T,T,T,T,T,T,T,T,T,T,T,T,T,T,T,T,T,T,T,T,T,F,T,T,F,F,F,T,F,F,F,F,F,F]
abbrev spec_l02Members.m41_ : Array Bool := #[T,T,T,T,T,T,T,T,T,T,T,T,T,T,T,T,T,T,T,T,T,T,T,T,T,T,T,T,T,T,T,T,T,T,T,T,T,F,T,T,F,F,F,T,T,F,F,F,F,F]
abbrev spec_l02Members.m42_ : Array Bool := #[T,T,T,T,T,T,T,T,T,T,T,T,T,T,T,T,T,T,T,T,T,T,T,T,T,T,T,T,T,T,T,T,T,T,T,T,T,F,T,T,F,F,F,T,T,T,F,F,F,F]
abbrev spec_l02Members.m43_ : Array Bool := #[T,T,T,T,T,T,T,T,T,T,T,T,T,T,T,T,T,T,T,T,T,T,T,T,T,T,T,T,T,T,T,T,T,T,T,T,T,T,T,T,F,F,F,T,T,T,F,F,F,F]
abbrev spec_l02Members.m44_ : Array Bool := #[T,T,T,T,T,T,T,T,T,T,T,T,T,T,T,T,T,T,T,T,T,T,T,T,T,T,T,T,T,T,T,T,T,T,T,T,T,T,T,T,T,F,F,T,T,T,F,F,F,F]
abbrev spec_l02Members.m45_ : Array Bool := #[T,T,T,T,T,T,T,T,T,T,T,T,T,T,T,T,T,T,T,T,T,T,T,T,T,T,T,T,T,T,T,T,T,T,T,T,T,T,T,T,T,T,F,T,T,T,F,F,F,F]
abbrev spec_l02Members.m46_ : Array Bool := #[T,T,T,T,T,T,T,T,T,T,T,T,T,T,T,T,T,T,T,T,T,T,T,T,T,T,T,T,T,T,T,T,T,T,T,T,T,T,T,T,T,T,T,T,T,T,F,F,F,F]
abbrev spec_l02Members.m47_ : Array Bool := #[T,T,T,T,T,T,T,T,T,T,T,T,T,T,T,T,T,T,T,T,T,T,T,T,T,T,T,T,T,T,T,T,T,T,T,T,T,T,T,T,T,T,T,T,T,T,T,F,F,F]
abbrev spec_l02Members.m48_ : Array Bool := #[T,T,T,T,T,T,T,T,T,T,T,T,T,T,T,T,T,T,T,T,T,T,T,T,T,T,T,T,T,T,T,T,T,T,T,T,T,T,T,T,T,T,T,T,T,T,T,T,F,F]
abbrev spec_l02Members.m49_ : Array Bool := #[T,T,T,T,T,T,T,T,T,T,T,T,T,T,T,T,T,T,T,T,T,T,T,T,T,T,T,T,T,T,T,T,T,T,T,T,T,T,T,T,T,T,T,T,T,T,T,T,T,F]
abbrev spec_l02Members.m50_ : Array Bool := #[T,T,T,T,T,T,T,T,T,T,T,T,T,T,T,T,T,T,T,T,T,T,T,T,T,T,T,T,T,T,T,T,T,T,T,T,T,T,T,T,T,T,T,T,T,T,T,T,T,T]
abbrev spec_l02Members.m51_ : Array Bool := #[T,T,T,T,T,T,T,T,T,T,T,T,T,T,T,T,T,T,T,T,T,T,T,T,T,T,T,T,T,T,T,T,T,T,T,T,T,T,F,F,F,F,F,F,F,F,F,F,F,F]
abbrev spec_l02Members.m52_ : Array Bool := #[T,T,T,T,T,T,T,T,T,T,T,T,T,T,T,T,T,T,T,T,T,T,T,T,T,T,T,T,T,T,T,T,T,T,T,T,T,T,T,F,F,F,F,F,F,F,F,F,F,F]
abbrev spec_l02Members.m53_ : Array Bool := #[T,T,T,T,T,T,T,T,T,T,T,T,T,T,T,T,T,T,T,T,T,T,T,T,T,T,T,T,T,T,T,T,T,T,T,T,T,T,T,T,F,F,F,F,F,F,F,F,F,F]
abbrev spec_l02Members.m54_ : Array Bool := #[T,T,T,T,T,T,T,T,T,T,T,T,T,T,T,T,T,T,T,T,T,T,T,T,T,T,T,T,T,T,T,T,T,T,T,T,T,T,T,T,T,F,F,F,F,F,F,F,F,F]
abbrev spec_l02Members.m55_ : Array Bool := #[T,T,T,T,T,T,T,T,T,T,T,T,T,T,T,T,T,T,T,T,T,T,T,T,T,T,T,T,T,T,T,T,T,T,T,T,T,T,T,T,T,T,F,F,F,F,F,F,F,F]
abbrev spec_l02Members.m56_ : Array Bool := #[T,T,T,T,T,T,T,T,T,T,T,T,T,T,T,T,T,T,T,T,T,T,T,T,T,T,T,T,T,T,T,T,T,T,T,T,T,T,T,T,T,T,T,F,F,F,F,F,F,F]
abbrev spec_l02Members.m57_ : Array Bool := #[T,T,T,T,T,T,T,T,T,T,T,T,T,T,T,T,T,T,T,T,T,T,T,T,T,T,T,T,T,T,T,T,T,T,T,T,T,T,T,T,T,T,T,T,F,F,F,F,F,F]
abbrev spec_l02Members.m58_ : Array Bool := #[T,T,T,T,T,T,T,T,T,T,T,T,T,T,T,T,T,T,T,T,T,T,T,T,T,T,T,T,T,T,T,T,T,T,T,T,T,T,T,T,T,T,T,T,T,F,F,F,F,F]
theorem spec_l02Members.p1_ {P : Prop} (h : P := by simp only [Act.put, List.setIfInBounds_toArray, List.set_cons_zero, List.set_cons_succ, i64_w, i32_w]; rfl) : P := h
theorem spec_l02Members.b1_ {P Q : Prop} (q : Q) (h : Q → P := by intro q_; (with_reducible repeat (first | refine blk_drewN ?_ _ | refine blk_drew ?_ | refine blk_alloc ?_ _)); exact q_) : P := h q
theorem spec_l02Members.pu_ {P : Program} {md : Region.Mode} {ops : Array Oper} {Q : Exit → Act → World → Prop} {S : World → Prop} {ds : List Nat} {fuel : Nat} {l : Array Bool} {a : Act} {w : World} {oi : Oper} {a' : Act} {v : Value} (i N : Nat) (l' : Array Bool) (hc : anyB md ops l l' i = true) (h : wpAnyLast P md ops Q S ds fuel l' a' w) (hi : ops[i]? = some oi := by rfl) (hN : oi.dst = some N := by rfl) (hQ : ∀ c a w, Q (.panic c) (a.put oi.dst v) w → Q (.panic c) a w := by exact fun _ _ _ h => h) (hy : Yields P ops oi v a := by exact Or.inl ⟨by rfl, by intro w'; go_simp; with_reducible rfl⟩) (ha : a.put (some N) v = a' := by simp only [Act.put, List.setIfInBounds_toArray, List.set_cons_zero, List.set_cons_succ, i64_w, i32_w]; rfl) : wpAnyLast P md ops Q S ds (fuel + 1) l a w := pure_ l' hi hN hc hQ hy ha h
theorem spec_l02Members.pn_ {P : Program} {md : Region.Mode} {ops : Array Oper} {Q : Exit → Act → World → Prop} {S : World → Prop} {ds : List Nat} {fuel : Nat} {l : Array Bool} {a : Act} {w : World} {oi : Oper} {a' : Act} (i N : Nat) (l' : Array Bool) (hc : anyB md ops l l' i = true) (h : wpAnyLast P md ops Q S ds fuel l' a' w) (hi : ops[i]? = some oi := by rfl) (hN : oi.dst = some N := by rfl) (hQ : ∀ c a w, Q (.panic c) (a.put oi.dst undef) w → Q (.panic c) a w := by exact fun _ _ _ h => h) (hy : Yields P ops oi undef a := by exact Or.inr ⟨by rfl, rfl⟩) (ha : a.put (some N) undef = a' := by simp only [Act.put, List.setIfInBounds_toArray, List.set_cons_zero, List.set_cons_succ, i64_w, i32_w]; rfl) : wpAnyLast P md ops Q S ds (fuel + 1) l a w := pure_ l' hi hN hc hQ hy ha h
def spec_l02Members.l0 : Nat → Int → Int → Bool → List (S36) → List (S71) → List (S73) → Option (Bool)
  | 0, _, _, _, _, _, _ => none
  | k + 1, x3, x4, x1000, x1001, x1002, x1003 => if x4 < (x1001.length : Int) then (if 0 ≤ x4 then ((spec_l02Id.f ((rd_T36 x1001 x4).f0)).bind fun t237 => (if t237 = true then ((spec_l02Role.f ((rd_T36 x1001 x4).f1)).bind fun t238 => (if t238 = true then ((spec_l02Tick.f ((rd_T36 x1001 x4).f2)).bind fun t239 => (if t239 = true then ((spec_l02Tick.f ((rd_T36 x1001 x4).f3)).bind fun t240 => (if t240 = true then (if x4 > 0 then (if 0 ≤ (wrap64 (x4 - 1)) then (if (wrap64 (x4 - 1)) < (x1001.length : Int) then (if ((rd_T36 x1001 (wrap64 (x4 - 1))).f0) ≥ ((rd_T36 x1001 x4).f0) then (some false) else (if ((rd_T36 x1001 x4).f1) = 3 then (spec_l02Members.l0 k (wrap64 (x3 + 1)) (wrap64 (x4 + 1)) x1000 x1001 x1002 x1003) else (spec_l02Members.l0 k x3 (wrap64 (x4 + 1)) x1000 x1001 x1002 x1003))) else (none)) else (none)) else (if ((rd_T36 x1001 x4).f1) = 3 then (spec_l02Members.l0 k (wrap64 (x3 + 1)) (wrap64 (x4 + 1)) x1000 x1001 x1002 x1003) else (spec_l02Members.l0 k x3 (wrap64 (x4 + 1)) x1000 x1001 x1002 x1003))) else (some false))) else (some false))) else (some false))) else (some false))) else (none)) else (some (decide (x3 > 0)))
def spec_l02Members.f (k : Nat) (a0_0 : Bool) (l0_1 : List (S36)) (l0_2 : List (S71)) (l0_3 : List (S73)) : Option (Bool) := if (l0_1.length : Int) < 1 then (some false) else (if (l0_1.length : Int) > 32 then (some false) else (spec_l02Members.l0 k 0 0 a0_0 l0_1 l0_2 l0_3))
theorem spec_l02Members.mono_l : ∀ k, (∀ y0 y1 y2 y3 y4 y5, LeO (spec_l02Members.l0 k y0 y1 y2 y3 y4 y5) (spec_l02Members.l0 (k + 1) y0 y1 y2 y3 y4 y5))
  | 0 => fun _ _ _ _ _ _ r h => by simp [spec_l02Members.l0] at h
  | k + 1 => by
    have ih0 := spec_l02Members.mono_l k
    · intro y0 y1 y2 y3 y4 y5
      unfold spec_l02Members.l0
      repeat' first
      | (with_reducible exact ih0 _ _ _ _ _ _)
      | (with_reducible exact LeO.refl _)
      | (with_reducible exact LeO.none _)
      | (with_reducible refine LeO.ite ?_ ?_)
      | (with_reducible refine LeO.bind ?_ (fun _ => ?_))
      | exact ih0 _ _ _ _ _ _
      | exact LeO.none _
      | refine LeO.ite ?_ ?_
      | refine LeO.bind ?_ (fun _ => ?_)
theorem spec_l02Members.mono : ∀ a0 a1 a2 a3 k, LeO (spec_l02Members.f k a0 a1 a2 a3) (spec_l02Members.f (k + 1) a0 a1 a2 a3) := by
  intro a0 a1 a2 a3 k
  have ih0 := spec_l02Members.mono_l k
  unfold spec_l02Members.f
  repeat' first
      | (with_reducible exact ih0 _ _ _ _ _ _)
      | (with_reducible exact LeO.refl _)
      | (with_reducible exact LeO.none _)
      | (with_reducible refine LeO.ite ?_ ?_)
      | (with_reducible refine LeO.bind ?_ (fun _ => ?_))
      | exact ih0 _ _ _ _ _ _
      | exact LeO.none _
      | refine LeO.ite ?_ ?_
      | refine LeO.bind ?_ (fun _ => ?_)
def spec_l02Members.T8 : Bool × List (List Nat × List Nat) := (true, [([], []), ([0], [0]), ([1], [1]), ([2], [2]), ([3], [3]), ([4], [4]), ([5, 4], [5]), ([6], [6]), ([7, 6], [6, 7]), ([8, 6], [6, 8]), ([9, 6], [6, 9]), ([10, 6, 6], [6, 10]), ([11, 6], [6, 11]), ([6, 12], [6, 12]), ([13, 11], [13]), ([14], [14]), ([15, 14], [14, 15]), ([16, 14], [14, 16]), ([17, 14], [14, 17]), ([18, 14, 14], [14, 18]), ([19, 14], [14, 19]), ([14, 20], [14, 20]), ([21, 19], [21]), ([22], [22]), ([23, 22], [22, 23]), ([24, 22], [22, 24]), ([25, 22], [22, 25]), ([26, 22, 22], [22, 26]), ([27, 22], [22, 27]), ([22, 28], [22, 28]), ([29, 27], [29]), ([30], [30]), ([31, 30], [30, 31]), ([32, 30, 30], [30, 32]), ([33], [33]), ([34, 33], [33, 34]), ([35, 33], [33, 35]), ([36, 33], [33, 36]), ([33], [33]), ([38, 33], [33, 38]), ([37, 39, 33], [33, 37, 39]), ([40, 33], [33, 40]), ([41, 33], [33, 41]), ([33], [33]), ([43, 33], [33, 43]), ([44, 33], [33, 44]), ([45, 33], [33, 45]), ([42, 46, 33], [33, 42, 46]), ([33, 47, 30], [30, 33, 47]), ([30, 48], [30, 48])])
def spec_l02Members.B8 : List Nat := [0, 1, 3, 7, 15, 31, 63, 127, 255, 511, 1023, 2047, 4095, 8191, 16383, 32767, 65535, 131071, 262143, 524287, 1048575, 2097151, 4194303, 8388607, 16777215, 33554431, 67108863, 134217727, 268435455, 536870911, 1073741823, 2147483647, 4294967295, 8589934591, 17179869183, 34359738367, 68719476735, 137438953471, 17179869183, 292057776127, 1099511627775, 2199023255551, 4398046511103, 17179869183, 8813272891391, 26405458935807, 61589831024639, 140737488355327, 281474976710655, 562949953421311]
theorem spec_l02Members.tab8 : rtab .any (opsOf Try.f81 8) = spec_l02Members.T8 := by kernel_rfl
theorem spec_l02Members.bits8 : waitsOk spec_l02Members.T8.2 spec_l02Members.B8 = true := by kernel_rfl
set_option maxHeartbeats 8000000 in
set_option maxRecDepth 100000 in
theorem spec_l02Members.calls (k : Nat) (g0_ : Nat) (a0_0 : Bool) (A0_1 : Option Addr) (c0_1 : Nat) (l0_1 : List (S36)) (A0_2 : Option Addr) (c0_2 : Nat) (l0_2 : List (S71)) (A0_3 : Option Addr) (c0_3 : Nat) (l0_3 : List (S73)) (r : Bool) (w : World) (hbk0 : w.heap[g0_]? = some (.cells #[.bool a0_0, .slice A0_1 l0_1.length c0_1, .slice A0_2 l0_2.length c0_2, .slice A0_3 l0_3.length c0_3] 28 (0, 0))) (hr0_1 : Kd.C k36 w A0_1 l0_1.length l0_1) (hc0_1 : l0_1.length ≤ c0_1) (hr0_2 : Kd.C k71 w A0_2 l0_2.length l0_2) (hc0_2 : l0_2.length ≤ c0_2) (hr0_3 : Kd.C k73 w A0_3 l0_3.length l0_3) (hc0_3 : l0_3.length ≤ c0_3) (h : spec_l02Members.f k a0_0 l0_1 l0_2 l0_3 = some r) :
    Calls Try.prog 81 #[.pointer (some ⟨g0_, 0, none⟩)] w fun e w' => e = .returned (.bool r) ∧ Below w.heap.size w w' := by
 have HR0_1 := Aside0.mk hr0_1
 have HC0_1 := Aside0.mk hc0_1
 clear hr0_1 hc0_1
 have HR0_2 := Aside0.mk hr0_2
 have HC0_2 := Aside0.mk hc0_2
 clear hr0_2 hc0_2
 have HR0_3 := Aside0.mk hr0_3
 have HC0_3 := Aside0.mk hc0_3
 clear hr0_3 hc0_3
 have BK0 := Aside0.mk hbk0
 clear hbk0
 have HB := Aside0.mk (Below.refl w.heap.size w)
 have H : (if (l0_1.length : Int) < 1 then (some false) else (if (l0_1.length : Int) > 32 then (some false) else (spec_l02Members.l0 k 0 0 a0_0 l0_1 l0_2 l0_3))) = some r := h
 clear h
 by_cases c2 : (l0_1.length : Int) < 1
 {
 rw [if_pos c2] at H
 have c2b0 : decide ((l0_1.length : Int) < 1) = true := decide_eq_true c2
 have c2b1 : decide (l0_1.length < 1) = true := decide_eq_true (by omega)
 clear c2
 obtain rfl := Option.some.inj H
 have hcz3_0 : w.cell? ⟨g0_, 0, none⟩ = some (.bool a0_0) := (blk_cell BK0.out 0).trans rfl
 have hcz3_1 : w.cell? ⟨g0_, 1, none⟩ = some (.slice A0_1 l0_1.length c0_1) := (blk_cell BK0.out 1).trans rfl
 have hcz3_2 : w.cell? ⟨g0_, 2, none⟩ = some (.slice A0_2 l0_2.length c0_2) := (blk_cell BK0.out 2).trans rfl
 have hcz3_3 : w.cell? ⟨g0_, 3, none⟩ = some (.slice A0_3 l0_3.length c0_3) := (blk_cell BK0.out 3).trans rfl
 have hfz3_0 := blk_frozen BK0.out 0
 have hfz3_1 := blk_frozen BK0.out 1
 have hfz3_2 := blk_frozen BK0.out 2
 have hfz3_3 := blk_frozen BK0.out 3
 go_enter Try.func81, Try.ntmps81
 go_wp2
 go_ret
 exact ⟨by first | rfl | (simp [errW_none, errW_some] <;> rfl) | (simp [*, errW_none, errW_some] <;> rfl), by repeat (first | (with_reducible first | exact HB.out | apply below_alloc | apply pw_below_drewN | apply below_drew1 | refine below_set ?_ GE0.out) | exact HB.out)⟩}
 {
 rw [if_neg c2] at H
 have c2b0 : decide ((l0_1.length : Int) < 1) = false := decide_eq_false c2
 have c2b1 : decide (l0_1.length < 1) = false := decide_eq_false (by omega)
 clear c2
 by_cases c4 : (l0_1.length : Int) > 32
 {
 rw [if_pos c4] at H
 have c4b0 : decide (32 < (l0_1.length : Int)) = true := decide_eq_true c4
 have c4b1 : decide (32 < l0_1.length) = true := decide_eq_true (by omega)
 clear c4
 obtain rfl := Option.some.inj H
 have hcz5_0 : w.cell? ⟨g0_, 0, none⟩ = some (.bool a0_0) := (blk_cell BK0.out 0).trans rfl
 have hcz5_1 : w.cell? ⟨g0_, 1, none⟩ = some (.slice A0_1 l0_1.length c0_1) := (blk_cell BK0.out 1).trans rfl
 have hcz5_2 : w.cell? ⟨g0_, 2, none⟩ = some (.slice A0_2 l0_2.length c0_2) := (blk_cell BK0.out 2).trans rfl
 have hcz5_3 : w.cell? ⟨g0_, 3, none⟩ = some (.slice A0_3 l0_3.length c0_3) := (blk_cell BK0.out 3).trans rfl
 have hfz5_0 := blk_frozen BK0.out 0
 have hfz5_1 := blk_frozen BK0.out 1
 have hfz5_2 := blk_frozen BK0.out 2
 have hfz5_3 := blk_frozen BK0.out 3
 go_enter Try.func81, Try.ntmps81
 go_wp2
 go_ret
 exact ⟨by first | rfl | (simp [errW_none, errW_some] <;> rfl) | (simp [*, errW_none, errW_some] <;> rfl), by repeat (first | (with_reducible first | exact HB.out | apply below_alloc | apply pw_below_drewN | apply below_drew1 | refine below_set ?_ GE0.out) | exact HB.out)⟩}
 {
 rw [if_neg c4] at H
 have c4b0 : decide (32 < (l0_1.length : Int)) = false := decide_eq_false c4
 have c4b1 : decide (32 < l0_1.length) = false := decide_eq_false (by omega)
 clear c4
 have H' := Aside0.mk H
 clear H
 have hcz6_0 : w.cell? ⟨g0_, 0, none⟩ = some (.bool a0_0) := (blk_cell BK0.out 0).trans rfl
 have hcz6_1 : w.cell? ⟨g0_, 1, none⟩ = some (.slice A0_1 l0_1.length c0_1) := (blk_cell BK0.out 1).trans rfl
 have hcz6_2 : w.cell? ⟨g0_, 2, none⟩ = some (.slice A0_2 l0_2.length c0_2) := (blk_cell BK0.out 2).trans rfl
 have hcz6_3 : w.cell? ⟨g0_, 3, none⟩ = some (.slice A0_3 l0_3.length c0_3) := (blk_cell BK0.out 3).trans rfl
 have hfz6_0 := blk_frozen BK0.out 0
 have hfz6_1 := blk_frozen BK0.out 1
 have hfz6_2 := blk_frozen BK0.out 2
 have hfz6_3 := blk_frozen BK0.out 3
 go_enter Try.func81, Try.ntmps81
 go_wp2
 go_loopg [3, 4] k (fun kq v3 v4 w' => ∃ (x3_1 : Int) (x4_1 : Int), v3 = .int .i64 x3_1 ∧ v4 = .int .i64 x4_1 ∧ Aside0 (spec_l02Members.l0 kq x3_1 x4_1 a0_0 l0_1 l0_2 l0_3 = some r) ∧ Aside0 (kq ≤ k) ∧ Aside0 (w'.heap[g0_]? = some (.cells #[.bool a0_0, (.slice A0_1 l0_1.length c0_1), (.slice A0_2 l0_2.length c0_2), (.slice A0_3 l0_3.length c0_3)] 28 (0, 0))) ∧ Aside0 (Below w.heap.size w w'))
 case atStart => exact ⟨(0), (0), s1_, s1_, H', ⟨Nat.le_refl _⟩, ⟨b1_ BK0.out⟩, ⟨by repeat (first | (with_reducible first | exact HB.out | apply below_alloc | apply pw_below_drewN | apply below_drew1 | refine below_set ?_ GE0.out) | exact HB.out)⟩⟩
 case round =>
  skip
  {
 clear H'
 try clear c2
 try clear c2b0
 try clear c2b1
 try clear p2
 try clear c4
 try clear c4b0
 try clear c4b1
 try clear hcz3_0
 try clear hcz3_1
 try clear hcz3_2
 try clear hcz3_3
 try clear hcz5_0
 try clear hcz5_1
 try clear hcz5_2
 try clear hcz5_3
 try clear hcz6_0
 try clear hcz6_1
 try clear hcz6_2
 try clear hcz6_3
 try clear hfz3_0
 try clear hfz3_1
 try clear hfz3_2
 try clear hfz3_3
 try clear hfz5_0
 try clear hfz5_1
 try clear hfz5_2
 try clear hfz5_3
 try clear hfz6_0
 try clear hfz6_1
 try clear hfz6_2
 try clear hfz6_3
 obtain ⟨x3_1, x4_1, rfl, rfl, HA, HK1, BK0, HB⟩ := hrel
 cases gk with
 | zero => exact absurd HA.out (by simp [spec_l02Members.l0])
 | succ k1 =>
  skip
  {
 have H := HA.out
 clear HA
 simp only [spec_l02Members.l0] at H
 by_cases c7 : x4_1 < (l0_1.length : Int)
 {
 rw [if_pos c7] at H
 have c7b0 : decide (x4_1 < (l0_1.length : Int)) = true := decide_eq_true c7
 clear c7
 by_cases c8 : 0 ≤ x4_1
 {
 rw [if_pos c8] at H
 have c8b0 : decide (0 ≤ x4_1) = true := decide_eq_true c8
 clear c8
 replace H := Option.bind_eq_some_iff.mp H
 obtain ⟨t237, A90, H⟩ := H
 replace H : (if t237 = true then ((spec_l02Role.f ((rd_T36 l0_1 x4_1).f1)).bind fun t238 => (if t238 = true then ((spec_l02Tick.f ((rd_T36 l0_1 x4_1).f2)).bind fun t239 => (if t239 = true then ((spec_l02Tick.f ((rd_T36 l0_1 x4_1).f3)).bind fun t240 => (if t240 = true then (if x4_1 > 0 then (if 0 ≤ (wrap64 (x4_1 - 1)) then (if (wrap64 (x4_1 - 1)) < (l0_1.length : Int) then (if ((rd_T36 l0_1 (wrap64 (x4_1 - 1))).f0) ≥ ((rd_T36 l0_1 x4_1).f0) then (some false) else (if ((rd_T36 l0_1 x4_1).f1) = 3 then (spec_l02Members.l0 k1 (wrap64 (x3_1 + 1)) (wrap64 (x4_1 + 1)) a0_0 l0_1 l0_2 l0_3) else (spec_l02Members.l0 k1 x3_1 (wrap64 (x4_1 + 1)) a0_0 l0_1 l0_2 l0_3))) else (none)) else (none)) else (if ((rd_T36 l0_1 x4_1).f1) = 3 then (spec_l02Members.l0 k1 (wrap64 (x3_1 + 1)) (wrap64 (x4_1 + 1)) a0_0 l0_1 l0_2 l0_3) else (spec_l02Members.l0 k1 x3_1 (wrap64 (x4_1 + 1)) a0_0 l0_1 l0_2 l0_3))) else (some false))) else (some false))) else (some false))) else (some false)) = some r := H
 have A9 := Aside0.mk A90
 clear A90
 by_cases c10 : t237 = true
 {
 subst c10
 have H1 : ((spec_l02Role.f ((rd_T36 l0_1 x4_1).f1)).bind fun t238 => (if t238 = true then ((spec_l02Tick.f ((rd_T36 l0_1 x4_1).f2)).bind fun t239 => (if t239 = true then ((spec_l02Tick.f ((rd_T36 l0_1 x4_1).f3)).bind fun t240 => (if t240 = true then (if x4_1 > 0 then (if 0 ≤ (wrap64 (x4_1 - 1)) then (if (wrap64 (x4_1 - 1)) < (l0_1.length : Int) then (if ((rd_T36 l0_1 (wrap64 (x4_1 - 1))).f0) ≥ ((rd_T36 l0_1 x4_1).f0) then (some false) else (if ((rd_T36 l0_1 x4_1).f1) = 3 then (spec_l02Members.l0 k1 (wrap64 (x3_1 + 1)) (wrap64 (x4_1 + 1)) a0_0 l0_1 l0_2 l0_3) else (spec_l02Members.l0 k1 x3_1 (wrap64 (x4_1 + 1)) a0_0 l0_1 l0_2 l0_3))) else (none)) else (none)) else (if ((rd_T36 l0_1 x4_1).f1) = 3 then (spec_l02Members.l0 k1 (wrap64 (x3_1 + 1)) (wrap64 (x4_1 + 1)) a0_0 l0_1 l0_2 l0_3) else (spec_l02Members.l0 k1 x3_1 (wrap64 (x4_1 + 1)) a0_0 l0_1 l0_2 l0_3))) else (some false))) else (some false))) else (some false))) = some r := by rw [if_pos rfl] at H; exact H
 clear H
 have H := H1
 clear H1
 replace H := Option.bind_eq_some_iff.mp H
 obtain ⟨t238, A110, H⟩ := H
 replace H : (if t238 = true then ((spec_l02Tick.f ((rd_T36 l0_1 x4_1).f2)).bind fun t239 => (if t239 = true then ((spec_l02Tick.f ((rd_T36 l0_1 x4_1).f3)).bind fun t240 => (if t240 = true then (if x4_1 > 0 then (if 0 ≤ (wrap64 (x4_1 - 1)) then (if (wrap64 (x4_1 - 1)) < (l0_1.length : Int) then (if ((rd_T36 l0_1 (wrap64 (x4_1 - 1))).f0) ≥ ((rd_T36 l0_1 x4_1).f0) then (some false) else (if ((rd_T36 l0_1 x4_1).f1) = 3 then (spec_l02Members.l0 k1 (wrap64 (x3_1 + 1)) (wrap64 (x4_1 + 1)) a0_0 l0_1 l0_2 l0_3) else (spec_l02Members.l0 k1 x3_1 (wrap64 (x4_1 + 1)) a0_0 l0_1 l0_2 l0_3))) else (none)) else (none)) else (if ((rd_T36 l0_1 x4_1).f1) = 3 then (spec_l02Members.l0 k1 (wrap64 (x3_1 + 1)) (wrap64 (x4_1 + 1)) a0_0 l0_1 l0_2 l0_3) else (spec_l02Members.l0 k1 x3_1 (wrap64 (x4_1 + 1)) a0_0 l0_1 l0_2 l0_3))) else (some false))) else (some false))) else (some false)) = some r := H
 have A11 := Aside0.mk A110
 clear A110
 by_cases c12 : t238 = true
 {
 subst c12
 have H1 : ((spec_l02Tick.f ((rd_T36 l0_1 x4_1).f2)).bind fun t239 => (if t239 = true then ((spec_l02Tick.f ((rd_T36 l0_1 x4_1).f3)).bind fun t240 => (if t240 = true then (if x4_1 > 0 then (if 0 ≤ (wrap64 (x4_1 - 1)) then (if (wrap64 (x4_1 - 1)) < (l0_1.length : Int) then (if ((rd_T36 l0_1 (wrap64 (x4_1 - 1))).f0) ≥ ((rd_T36 l0_1 x4_1).f0) then (some false) else (if ((rd_T36 l0_1 x4_1).f1) = 3 then (spec_l02Members.l0 k1 (wrap64 (x3_1 + 1)) (wrap64 (x4_1 + 1)) a0_0 l0_1 l0_2 l0_3) else (spec_l02Members.l0 k1 x3_1 (wrap64 (x4_1 + 1)) a0_0 l0_1 l0_2 l0_3))) else (none)) else (none)) else (if ((rd_T36 l0_1 x4_1).f1) = 3 then (spec_l02Members.l0 k1 (wrap64 (x3_1 + 1)) (wrap64 (x4_1 + 1)) a0_0 l0_1 l0_2 l0_3) else (spec_l02Members.l0 k1 x3_1 (wrap64 (x4_1 + 1)) a0_0 l0_1 l0_2 l0_3))) else (some false))) else (some false))) = some r := by rw [if_pos rfl] at H; exact H
 clear H
 have H := H1
 clear H1
 replace H := Option.bind_eq_some_iff.mp H
 obtain ⟨t239, A130, H⟩ := H
 replace H : (if t239 = true then ((spec_l02Tick.f ((rd_T36 l0_1 x4_1).f3)).bind fun t240 => (if t240 = true then (if x4_1 > 0 then (if 0 ≤ (wrap64 (x4_1 - 1)) then (if (wrap64 (x4_1 - 1)) < (l0_1.length : Int) then (if ((rd_T36 l0_1 (wrap64 (x4_1 - 1))).f0) ≥ ((rd_T36 l0_1 x4_1).f0) then (some false) else (if ((rd_T36 l0_1 x4_1).f1) = 3 then (spec_l02Members.l0 k1 (wrap64 (x3_1 + 1)) (wrap64 (x4_1 + 1)) a0_0 l0_1 l0_2 l0_3) else (spec_l02Members.l0 k1 x3_1 (wrap64 (x4_1 + 1)) a0_0 l0_1 l0_2 l0_3))) else (none)) else (none)) else (if ((rd_T36 l0_1 x4_1).f1) = 3 then (spec_l02Members.l0 k1 (wrap64 (x3_1 + 1)) (wrap64 (x4_1 + 1)) a0_0 l0_1 l0_2 l0_3) else (spec_l02Members.l0 k1 x3_1 (wrap64 (x4_1 + 1)) a0_0 l0_1 l0_2 l0_3))) else (some false))) else (some false)) = some r := H
 have A13 := Aside0.mk A130
 clear A130
 by_cases c14 : t239 = true
 {
 subst c14
 have H1 : ((spec_l02Tick.f ((rd_T36 l0_1 x4_1).f3)).bind fun t240 => (if t240 = true then (if x4_1 > 0 then (if 0 ≤ (wrap64 (x4_1 - 1)) then (if (wrap64 (x4_1 - 1)) < (l0_1.length : Int) then (if ((rd_T36 l0_1 (wrap64 (x4_1 - 1))).f0) ≥ ((rd_T36 l0_1 x4_1).f0) then (some false) else (if ((rd_T36 l0_1 x4_1).f1) = 3 then (spec_l02Members.l0 k1 (wrap64 (x3_1 + 1)) (wrap64 (x4_1 + 1)) a0_0 l0_1 l0_2 l0_3) else (spec_l02Members.l0 k1 x3_1 (wrap64 (x4_1 + 1)) a0_0 l0_1 l0_2 l0_3))) else (none)) else (none)) else (if ((rd_T36 l0_1 x4_1).f1) = 3 then (spec_l02Members.l0 k1 (wrap64 (x3_1 + 1)) (wrap64 (x4_1 + 1)) a0_0 l0_1 l0_2 l0_3) else (spec_l02Members.l0 k1 x3_1 (wrap64 (x4_1 + 1)) a0_0 l0_1 l0_2 l0_3))) else (some false))) = some r := by rw [if_pos rfl] at H; exact H
 clear H
 have H := H1
 clear H1
 replace H := Option.bind_eq_some_iff.mp H
 obtain ⟨t240, A150, H⟩ := H
 replace H : (if t240 = true then (if x4_1 > 0 then (if 0 ≤ (wrap64 (x4_1 - 1)) then (if (wrap64 (x4_1 - 1)) < (l0_1.length : Int) then (if ((rd_T36 l0_1 (wrap64 (x4_1 - 1))).f0) ≥ ((rd_T36 l0_1 x4_1).f0) then (some false) else (if ((rd_T36 l0_1 x4_1).f1) = 3 then (spec_l02Members.l0 k1 (wrap64 (x3_1 + 1)) (wrap64 (x4_1 + 1)) a0_0 l0_1 l0_2 l0_3) else (spec_l02Members.l0 k1 x3_1 (wrap64 (x4_1 + 1)) a0_0 l0_1 l0_2 l0_3))) else (none)) else (none)) else (if ((rd_T36 l0_1 x4_1).f1) = 3 then (spec_l02Members.l0 k1 (wrap64 (x3_1 + 1)) (wrap64 (x4_1 + 1)) a0_0 l0_1 l0_2 l0_3) else (spec_l02Members.l0 k1 x3_1 (wrap64 (x4_1 + 1)) a0_0 l0_1 l0_2 l0_3))) else (some false)) = some r := H
 have A15 := Aside0.mk A150
 clear A150
 by_cases c16 : t240 = true
 {
 subst c16
 have H1 : (if x4_1 > 0 then (if 0 ≤ (wrap64 (x4_1 - 1)) then (if (wrap64 (x4_1 - 1)) < (l0_1.length : Int) then (if ((rd_T36 l0_1 (wrap64 (x4_1 - 1))).f0) ≥ ((rd_T36 l0_1 x4_1).f0) then (some false) else (if ((rd_T36 l0_1 x4_1).f1) = 3 then (spec_l02Members.l0 k1 (wrap64 (x3_1 + 1)) (wrap64 (x4_1 + 1)) a0_0 l0_1 l0_2 l0_3) else (spec_l02Members.l0 k1 x3_1 (wrap64 (x4_1 + 1)) a0_0 l0_1 l0_2 l0_3))) else (none)) else (none)) else (if ((rd_T36 l0_1 x4_1).f1) = 3 then (spec_l02Members.l0 k1 (wrap64 (x3_1 + 1)) (wrap64 (x4_1 + 1)) a0_0 l0_1 l0_2 l0_3) else (spec_l02Members.l0 k1 x3_1 (wrap64 (x4_1 + 1)) a0_0 l0_1 l0_2 l0_3))) = some r := by rw [if_pos rfl] at H; exact H
 clear H
 have H := H1
 clear H1
 by_cases c17 : x4_1 > 0
 {
 rw [if_pos c17] at H
 have c17b0 : decide (0 < x4_1) = true := decide_eq_true c17
 clear c17
 obtain ⟨ji18, hji18⟩ : ∃ j_ : Int, (wrap64 (x4_1 - 1)) = j_ := ⟨_, rfl⟩
 replace H : (if 0 ≤ (ji18) then (if (ji18) < (l0_1.length : Int) then (if ((rd_T36 l0_1 (ji18)).f0) ≥ ((rd_T36 l0_1 x4_1).f0) then (some false) else (if ((rd_T36 l0_1 x4_1).f1) = 3 then (spec_l02Members.l0 k1 (wrap64 (x3_1 + 1)) (wrap64 (x4_1 + 1)) a0_0 l0_1 l0_2 l0_3) else (spec_l02Members.l0 k1 x3_1 (wrap64 (x4_1 + 1)) a0_0 l0_1 l0_2 l0_3))) else (none)) else (none)) = some r := by first | (rw [hji18] at H; exact H) | (simp only [hji18] at H ⊢; exact H)
 (try rw [hji18] at A9)
 (try rw [hji18] at A11)
 (try rw [hji18] at A13)
 (try rw [hji18] at A15)
 have hji18w : (IntKind.i64.wrap (x4_1 - 1)) = ji18 := (i64_w _).trans hji18
 by_cases c19 : 0 ≤ (ji18)
 {
 rw [if_pos c19] at H
 have c19b0 : decide (0 ≤ (ji18)) = true := decide_eq_true c19
 clear c19
 by_cases c20 : (ji18) < (l0_1.length : Int)
 {
 rw [if_pos c20] at H
 have c20b0 : decide ((ji18) < (l0_1.length : Int)) = true := decide_eq_true c20
 clear c20
 by_cases c21 : ((rd_T36 l0_1 (ji18)).f0) ≥ ((rd_T36 l0_1 x4_1).f0)
 {
 rw [if_pos c21] at H
 have c21b0 : decide (((rd_T36 l0_1 x4_1).f0) ≤ ((rd_T36 l0_1 (ji18)).f0)) = true := decide_eq_true c21
 clear c21
 obtain rfl := Option.some.inj H
 have hcz22_0 : wr.cell? ⟨g0_, 0, none⟩ = some (.bool a0_0) := (blk_cell BK0.out 0).trans rfl
 have hcz22_1 : wr.cell? ⟨g0_, 1, none⟩ = some (.slice A0_1 l0_1.length c0_1) := (blk_cell BK0.out 1).trans rfl
 have hcz22_2 : wr.cell? ⟨g0_, 2, none⟩ = some (.slice A0_2 l0_2.length c0_2) := (blk_cell BK0.out 2).trans rfl
 have hcz22_3 : wr.cell? ⟨g0_, 3, none⟩ = some (.slice A0_3 l0_3.length c0_3) := (blk_cell BK0.out 3).trans rfl
 have hfz22_0 := blk_frozen BK0.out 0
 have hfz22_1 := blk_frozen BK0.out 1
 have hfz22_2 := blk_frozen BK0.out 2
 have hfz22_3 := blk_frozen BK0.out 3
 have p235 : 0 ≤ (x4_1 : Int) := of_decide_eq_true (by first | (with_reducible assumption) | assumption)
 have q235 : x4_1 < (l0_1.length : Int) := of_decide_eq_true (by first | (with_reducible assumption) | assumption)
 obtain ⟨ad235, e235, hx235_0, hx235_1, hx235_2, hx235_3⟩ := at_T36 HR0_1.out x4_1 p235 q235
 cases e235
 replace hx235_0 := (HB.out.cell (World.block_lt_of_cell? w _ hx235_0)).trans hx235_0
 replace hx235_1 := (HB.out.cell (World.block_lt_of_cell? w _ hx235_1)).trans hx235_1
 replace hx235_2 := (HB.out.cell (World.block_lt_of_cell? w _ hx235_2)).trans hx235_2
 replace hx235_3 := (HB.out.cell (World.block_lt_of_cell? w _ hx235_3)).trans hx235_3
 replace p235 := eq_true p235
 replace q235 := eq_true q235
 try go_wp2
 have n0_ := Aside0.mk (blk_drew BK0.out)
 have n1_ := Aside0.mk (below_drew1 HB.out)
 clear BK0
 clear HB
 have BK0 := n0_
 have HB := n1_
 clear n0_ n1_
 have p236 : 0 ≤ (x4_1 : Int) := of_decide_eq_true (by first | (with_reducible assumption) | assumption)
 have q236 : x4_1 < (l0_1.length : Int) := of_decide_eq_true (by first | (with_reducible assumption) | assumption)
 obtain ⟨ad236, e236, hx236_0, hx236_1, hx236_2, hx236_3⟩ := at_T36 HR0_1.out x4_1 p236 q236
 have hw236_3 := hx236_3
 have hw236_2 := hx236_2
 have hw236_1 := hx236_1
 have hw236_0 := hx236_0
 obtain rfl : ad235 = ad236 := (by injection e236)
 replace hx236_0 := (HB.out.cell (World.block_lt_of_cell? w _ hx236_0)).trans hx236_0
 replace hx236_1 := (HB.out.cell (World.block_lt_of_cell? w _ hx236_1)).trans hx236_1
 replace hx236_2 := (HB.out.cell (World.block_lt_of_cell? w _ hx236_2)).trans hx236_2
 replace hx236_3 := (HB.out.cell (World.block_lt_of_cell? w _ hx236_3)).trans hx236_3
 replace p236 := eq_true p236
 replace q236 := eq_true q236
 have p241 : 0 ≤ ((ji18) : Int) := of_decide_eq_true (by first | (with_reducible assumption) | assumption)
 have q241 : (ji18) < (l0_1.length : Int) := of_decide_eq_true (by first | (with_reducible assumption) | assumption)
 obtain ⟨ad241, e241, hx241_0, hx241_1, hx241_2, hx241_3⟩ := at_T36 HR0_1.out (ji18) p241 q241
 have hw241_3 := hx241_3
 have hw241_2 := hx241_2
 have hw241_1 := hx241_1
 have hw241_0 := hx241_0
 obtain rfl : ad235 = ad241 := (by injection e241)
 replace hx241_0 := (HB.out.cell (World.block_lt_of_cell? w _ hx241_0)).trans hx241_0
 replace hx241_1 := (HB.out.cell (World.block_lt_of_cell? w _ hx241_1)).trans hx241_1
 replace hx241_2 := (HB.out.cell (World.block_lt_of_cell? w _ hx241_2)).trans hx241_2
 replace hx241_3 := (HB.out.cell (World.block_lt_of_cell? w _ hx241_3)).trans hx241_3
 replace p241 := eq_true p241
 replace q241 := eq_true q241
 refine start_ (n := 50) (S := fun w' => w'.cell? ⟨g0_, 0, none⟩ = some (.bool a0_0) ∧ w'.cell? ⟨g0_, 1, none⟩ = some (.slice (some ad235) l0_1.length c0_1) ∧ w'.cell? ⟨g0_, 2, none⟩ = some (.slice A0_2 l0_2.length c0_2) ∧ w'.cell? ⟨g0_, 3, none⟩ = some (.slice A0_3 l0_3.length c0_3) ∧ w'.cell? (ad235.add ((x4_1).toNat * 4)) = some (.int .i64 ((rd_T36 l0_1 x4_1).f0)) ∧ w'.cell? ⟨(ad235.add ((x4_1).toNat * 4)).block, (ad235.add ((x4_1).toNat * 4)).off + 1, none⟩ = some (.int .i64 ((rd_T36 l0_1 x4_1).f1)) ∧ w'.cell? ⟨(ad235.add ((x4_1).toNat * 4)).block, (ad235.add ((x4_1).toNat * 4)).off + 2, none⟩ = some (.int .i64 ((rd_T36 l0_1 x4_1).f2)) ∧ w'.cell? ⟨(ad235.add ((x4_1).toNat * 4)).block, (ad235.add ((x4_1).toNat * 4)).off + 3, none⟩ = some (.int .i64 ((rd_T36 l0_1 x4_1).f3)) ∧ w'.cell? (ad235.add (((ji18)).toNat * 4)) = some (.int .i64 ((rd_T36 l0_1 (ji18)).f0)) ∧ w'.cell? ⟨(ad235.add (((ji18)).toNat * 4)).block, (ad235.add (((ji18)).toNat * 4)).off + 1, none⟩ = some (.int .i64 ((rd_T36 l0_1 (ji18)).f1)) ∧ w'.cell? ⟨(ad235.add (((ji18)).toNat * 4)).block, (ad235.add (((ji18)).toNat * 4)).off + 2, none⟩ = some (.int .i64 ((rd_T36 l0_1 (ji18)).f2)) ∧ w'.cell? ⟨(ad235.add (((ji18)).toNat * 4)).block, (ad235.add (((ji18)).toNat * 4)).off + 3, none⟩ = some (.int .i64 ((rd_T36 l0_1 (ji18)).f3))) (ds := []) m0_ s2_ rfl rfl ⟨(blk_cell BK0.out 0).trans rfl, (blk_cell BK0.out 1).trans rfl, (blk_cell BK0.out 2).trans rfl, (blk_cell BK0.out 3).trans rfl, ((HB.out.cell (World.block_lt_of_cell? w _ hw236_0)).trans hw236_0), ((HB.out.cell (World.block_lt_of_cell? w _ hw236_1)).trans hw236_1), ((HB.out.cell (World.block_lt_of_cell? w _ hw236_2)).trans hw236_2), ((HB.out.cell (World.block_lt_of_cell? w _ hw236_3)).trans hw236_3), ((HB.out.cell (World.block_lt_of_cell? w _ hw241_0)).trans hw241_0), ((HB.out.cell (World.block_lt_of_cell? w _ hw241_1)).trans hw241_1), ((HB.out.cell (World.block_lt_of_cell? w _ hw241_2)).trans hw241_2), ((HB.out.cell (World.block_lt_of_cell? w _ hw241_3)).trans hw241_3)⟩ (fun hHeld => ?_); refine with_tabW spec_l02Members.tab8 spec_l02Members.bits8 (fun HT_ HW_ => ?_)
 generalize wr.drew = w23 at BK0 HB hx236_0 hx236_1 hx236_2 hx236_3 hx241_0 hx241_1 hx241_2 hx241_3 hHeld ⊢
 refine pu_ 0 35 m1_ (any_of HT_.out s2_) ?_
 refine pu_ 1 36 m2_ (any_of HT_.out s2_) ?_
 refine pu_ 2 37 m3_ (any_of HT_.out s2_) ?_
 refine take_ (i := 3) (N := some 38) (v := ?_) (a' := ?_) m4_ rfl rfl (take_ofW HT_.out HW_.out s2_) (fun _ _ _ h => h) (Or.inl ⟨by rfl, ?_⟩) hHeld ?_ ?_
 rotate_left
 {
 rintro w' ⟨s0, s1, s2, s3, s4, s5, s6, s7, s8, s9, s10, s11⟩
 go_simp
 with_reducible rfl}
 rotate_left
 · exact p1_
 refine one_ (i := 4) (N := some 39) m5_ rfl rfl (one_of HT_.out s2_) (by decide) (fun K hK => ?_)
 refine goes_ Try.func40 s2_ rfl #[.int .i64 ((rd_T36 l0_1 x4_1).f0)] (by rfl) rfl rfl s3_ ?_
 with_reducible refine (spec_l02Id.calls ((rd_T36 l0_1 x4_1).f0) true _ A9.out).mono ?_
 rintro e w' ⟨rfl, ⟨nd, rfl⟩⟩
 refine ⟨_, rfl, ?_⟩
 refine hK.out _ _ ⟨(blk_cell BK0.out 0).trans rfl, (blk_cell BK0.out 1).trans rfl, (blk_cell BK0.out 2).trans rfl, (blk_cell BK0.out 3).trans rfl, ((HB.out.cell (World.block_lt_of_cell? w _ hw236_0)).trans hw236_0), ((HB.out.cell (World.block_lt_of_cell? w _ hw236_1)).trans hw236_1), ((HB.out.cell (World.block_lt_of_cell? w _ hw236_2)).trans hw236_2), ((HB.out.cell (World.block_lt_of_cell? w _ hw236_3)).trans hw236_3), ((HB.out.cell (World.block_lt_of_cell? w _ hw241_0)).trans hw241_0), ((HB.out.cell (World.block_lt_of_cell? w _ hw241_1)).trans hw241_1), ((HB.out.cell (World.block_lt_of_cell? w _ hw241_2)).trans hw241_2), ((HB.out.cell (World.block_lt_of_cell? w _ hw241_3)).trans hw241_3)⟩ (fun hHeld => ?_)
 clear hK K
 refine norm_ (a' := ?_) ?_ ?_
 rotate_left
 {
 show Act.put _ (some 39) _ = _
 simp only [Act.put, List.setIfInBounds_toArray, List.set_cons_zero, List.set_cons_succ, i64_w, i32_w]
 rfl}
 refine pu_ 5 40 m6_ (any_of HT_.out s2_) ?_
 refine pu_ 6 41 m7_ (any_of HT_.out s2_) ?_
 refine pu_ 7 42 m8_ (any_of HT_.out s2_) ?_
 refine pu_ 8 43 m9_ (any_of HT_.out s2_) ?_
 refine pu_ 9 44 m10_ (any_of HT_.out s2_) ?_
 refine take_ (i := 10) (N := some 45) (v := ?_) (a' := ?_) m11_ rfl rfl (take_ofW HT_.out HW_.out s2_) (fun _ _ _ h => h) (Or.inl ⟨by rfl, ?_⟩) hHeld ?_ ?_
 rotate_left
 {
 rintro w' ⟨s0, s1, s2, s3, s4, s5, s6, s7, s8, s9, s10, s11⟩
 go_simp
 with_reducible rfl}
 rotate_left
 · exact p1_
 refine one_ (i := 11) (N := some 46) m12_ rfl rfl (one_of HT_.out s2_) (by decide) (fun K hK => ?_)
 refine goes_ Try.func101 s2_ rfl #[.int .i64 ((rd_T36 l0_1 x4_1).f1)] (by rfl) rfl rfl s3_ ?_
 with_reducible refine (spec_l02Role.calls ((rd_T36 l0_1 x4_1).f1) true _ A11.out).mono ?_
 rintro e w' ⟨rfl, ⟨nd, rfl⟩⟩
 refine ⟨_, rfl, ?_⟩
 refine hK.out _ _ ⟨(blk_cell BK0.out 0).trans rfl, (blk_cell BK0.out 1).trans rfl, (blk_cell BK0.out 2).trans rfl, (blk_cell BK0.out 3).trans rfl, ((HB.out.cell (World.block_lt_of_cell? w _ hw236_0)).trans hw236_0), ((HB.out.cell (World.block_lt_of_cell? w _ hw236_1)).trans hw236_1), ((HB.out.cell (World.block_lt_of_cell? w _ hw236_2)).trans hw236_2), ((HB.out.cell (World.block_lt_of_cell? w _ hw236_3)).trans hw236_3), ((HB.out.cell (World.block_lt_of_cell? w _ hw241_0)).trans hw241_0), ((HB.out.cell (World.block_lt_of_cell? w _ hw241_1)).trans hw241_1), ((HB.out.cell (World.block_lt_of_cell? w _ hw241_2)).trans hw241_2), ((HB.out.cell (World.block_lt_of_cell? w _ hw241_3)).trans hw241_3)⟩ (fun hHeld => ?_)
 clear hK K
 refine norm_ (a' := ?_) ?_ ?_
 rotate_left
 {
 show Act.put _ (some 46) _ = _
 simp only [Act.put, List.setIfInBounds_toArray, List.set_cons_zero, List.set_cons_succ, i64_w, i32_w]
 rfl}
 refine pu_ 12 47 m13_ (any_of HT_.out s2_) ?_
 refine pu_ 13 48 m14_ (any_of HT_.out s2_) ?_
 refine pu_ 14 49 m15_ (any_of HT_.out s2_) ?_
 refine pu_ 15 50 m16_ (any_of HT_.out s2_) ?_
 refine pu_ 16 51 m17_ (any_of HT_.out s2_) ?_
 refine pu_ 17 52 m18_ (any_of HT_.out s2_) ?_
 refine take_ (i := 18) (N := some 53) (v := ?_) (a' := ?_) m19_ rfl rfl (take_ofW HT_.out HW_.out s2_) (fun _ _ _ h => h) (Or.inl ⟨by rfl, ?_⟩) hHeld ?_ ?_
 rotate_left
 {
 rintro w' ⟨s0, s1, s2, s3, s4, s5, s6, s7, s8, s9, s10, s11⟩
 go_simp
 with_reducible rfl}
 rotate_left
 · exact p1_
 refine one_ (i := 19) (N := some 54) m20_ rfl rfl (one_of HT_.out s2_) (by decide) (fun K hK => ?_)
 refine goes_ Try.func41 s2_ rfl #[.int .i64 ((rd_T36 l0_1 x4_1).f2)] (by rfl) rfl rfl s3_ ?_
 with_reducible refine (spec_l02Tick.calls ((rd_T36 l0_1 x4_1).f2) true _ A13.out).mono ?_
 rintro e w' ⟨rfl, ⟨nd, rfl⟩⟩
 refine ⟨_, rfl, ?_⟩
 refine hK.out _ _ ⟨(blk_cell BK0.out 0).trans rfl, (blk_cell BK0.out 1).trans rfl, (blk_cell BK0.out 2).trans rfl, (blk_cell BK0.out 3).trans rfl, ((HB.out.cell (World.block_lt_of_cell? w _ hw236_0)).trans hw236_0), ((HB.out.cell (World.block_lt_of_cell? w _ hw236_1)).trans hw236_1), ((HB.out.cell (World.block_lt_of_cell? w _ hw236_2)).trans hw236_2), ((HB.out.cell (World.block_lt_of_cell? w _ hw236_3)).trans hw236_3), ((HB.out.cell (World.block_lt_of_cell? w _ hw241_0)).trans hw241_0), ((HB.out.cell (World.block_lt_of_cell? w _ hw241_1)).trans hw241_1), ((HB.out.cell (World.block_lt_of_cell? w _ hw241_2)).trans hw241_2), ((HB.out.cell (World.block_lt_of_cell? w _ hw241_3)).trans hw241_3)⟩ (fun hHeld => ?_)
 clear hK K
 refine norm_ (a' := ?_) ?_ ?_
 rotate_left
 {
 show Act.put _ (some 54) _ = _
 simp only [Act.put, List.setIfInBounds_toArray, List.set_cons_zero, List.set_cons_succ, i64_w, i32_w]
 rfl}
 refine pu_ 20 55 m21_ (any_of HT_.out s2_) ?_
 refine pu_ 21 56 m22_ (any_of HT_.out s2_) ?_
 refine pu_ 22 57 m23_ (any_of HT_.out s2_) ?_
 refine pu_ 23 58 m24_ (any_of HT_.out s2_) ?_
 refine pu_ 24 59 m25_ (any_of HT_.out s2_) ?_
 refine pu_ 25 60 m26_ (any_of HT_.out s2_) ?_
 refine take_ (i := 26) (N := some 61) (v := ?_) (a' := ?_) m27_ rfl rfl (take_ofW HT_.out HW_.out s2_) (fun _ _ _ h => h) (Or.inl ⟨by rfl, ?_⟩) hHeld ?_ ?_
 rotate_left
 {
 rintro w' ⟨s0, s1, s2, s3, s4, s5, s6, s7, s8, s9, s10, s11⟩
 go_simp
 with_reducible rfl}
 rotate_left
 · exact p1_
 refine one_ (i := 27) (N := some 62) m28_ rfl rfl (one_of HT_.out s2_) (by decide) (fun K hK => ?_)
 refine goes_ Try.func41 s2_ rfl #[.int .i64 ((rd_T36 l0_1 x4_1).f3)] (by rfl) rfl rfl s3_ ?_
 with_reducible refine (spec_l02Tick.calls ((rd_T36 l0_1 x4_1).f3) true _ A15.out).mono ?_
 rintro e w' ⟨rfl, ⟨nd, rfl⟩⟩
 refine ⟨_, rfl, ?_⟩
 refine hK.out _ _ ⟨(blk_cell BK0.out 0).trans rfl, (blk_cell BK0.out 1).trans rfl, (blk_cell BK0.out 2).trans rfl, (blk_cell BK0.out 3).trans rfl, ((HB.out.cell (World.block_lt_of_cell? w _ hw236_0)).trans hw236_0), ((HB.out.cell (World.block_lt_of_cell? w _ hw236_1)).trans hw236_1), ((HB.out.cell (World.block_lt_of_cell? w _ hw236_2)).trans hw236_2), ((HB.out.cell (World.block_lt_of_cell? w _ hw236_3)).trans hw236_3), ((HB.out.cell (World.block_lt_of_cell? w _ hw241_0)).trans hw241_0), ((HB.out.cell (World.block_lt_of_cell? w _ hw241_1)).trans hw241_1), ((HB.out.cell (World.block_lt_of_cell? w _ hw241_2)).trans hw241_2), ((HB.out.cell (World.block_lt_of_cell? w _ hw241_3)).trans hw241_3)⟩ (fun hHeld => ?_)
 clear hK K
 refine norm_ (a' := ?_) ?_ ?_
 rotate_left
 {
 show Act.put _ (some 62) _ = _
 simp only [Act.put, List.setIfInBounds_toArray, List.set_cons_zero, List.set_cons_succ, i64_w, i32_w]
 rfl}
 refine pu_ 28 63 m29_ (any_of HT_.out s2_) ?_
 refine pu_ 29 64 m30_ (any_of HT_.out s2_) ?_
 refine pu_ 30 65 m31_ (any_of HT_.out s2_) ?_
 refine pu_ 31 66 m32_ (any_of HT_.out s2_) ?_
 refine pu_ 32 67 m33_ (any_of HT_.out s2_) ?_
 refine pu_ 33 68 m34_ (any_of HT_.out s2_) ?_
 refine pu_ 34 69 m35_ (any_of HT_.out s2_) ?_
 refine pu_ 35 70 m36_ (any_of HT_.out s2_) ?_
 refine pu_ 36 71 m37_ (any_of HT_.out s2_) ?_
 refine pu_ 38 73 m38_ (any_of HT_.out s2_) ?_
 refine pu_ 39 74 m39_ (any_of HT_.out s2_) ?_
 refine pu_ 43 78 m40_ (any_of HT_.out s2_) ?_
 refine pu_ 44 79 m41_ (any_of HT_.out s2_) ?_
 refine pu_ 45 80 m42_ (any_of HT_.out s2_) ?_
 refine take_ (i := 37) (N := some 72) (v := ?_) (a' := ?_) m43_ rfl rfl (take_ofW HT_.out HW_.out s2_) (fun _ _ _ h => h) (Or.inl ⟨by rfl, ?_⟩) hHeld ?_ ?_
 rotate_left
 {
 rintro w' ⟨s0, s1, s2, s3, s4, s5, s6, s7, s8, s9, s10, s11⟩
 go_simp
 with_reducible rfl}
 rotate_left
 · exact p1_
 refine pu_ 40 75 m44_ (any_of HT_.out s2_) ?_
 refine pu_ 41 76 m45_ (any_of HT_.out s2_) ?_
 refine take_ (i := 42) (N := some 77) (v := ?_) (a' := ?_) m46_ rfl rfl (take_ofW HT_.out HW_.out s2_) (fun _ _ _ h => h) (Or.inl ⟨by rfl, ?_⟩) hHeld ?_ ?_
 rotate_left
 {
 rintro w' ⟨s0, s1, s2, s3, s4, s5, s6, s7, s8, s9, s10, s11⟩
 go_simp
 with_reducible rfl}
 rotate_left
 · exact p1_
 refine take_ (i := 46) (N := some 81) (v := ?_) (a' := ?_) m47_ rfl rfl (take_ofW HT_.out HW_.out s2_) (fun _ _ _ h => h) (Or.inl ⟨by rfl, ?_⟩) hHeld ?_ ?_
 rotate_left
 {
 rintro w' ⟨s0, s1, s2, s3, s4, s5, s6, s7, s8, s9, s10, s11⟩
 go_simp
 with_reducible rfl}
 rotate_left
 · exact p1_
 refine pu_ 47 82 m48_ (any_of HT_.out s2_) ?_
 refine pu_ 48 83 m49_ (any_of HT_.out s2_) ?_
 refine pu_ 49 84 m50_ (any_of HT_.out s2_) ?_
 refine done_ (done_of HT_.out s2_) ?_
 try go_wp2
 go_ret
 exact ⟨by first | rfl | (simp [errW_none, errW_some] <;> rfl) | (simp only [← hji18]; first | rfl | (simp [errW_none, errW_some] <;> rfl)) | (simp [*, errW_none, errW_some] <;> rfl), by repeat (first | (with_reducible first | exact HB.out | apply below_alloc | apply pw_below_drewN | apply below_drew1 | refine below_set ?_ GE0.out) | exact HB.out)⟩}
 {
 rw [if_neg c21] at H
 have c21b0 : decide (((rd_T36 l0_1 x4_1).f0) ≤ ((rd_T36 l0_1 (ji18)).f0)) = false := decide_eq_false c21
 clear c21
 by_cases c24 : ((rd_T36 l0_1 x4_1).f1) = 3
 {
 rw [if_pos c24] at H
 have c24b0 : (((rd_T36 l0_1 x4_1).f1) == 3) = true := beq_iff_eq.mpr c24
 have c24b1 : (((rd_T36 l0_1 x4_1).f1) != 3) = false := bne_eq_false_iff_eq.mpr c24
 clear c24
 have H' := Aside0.mk H
 clear H
 have hcz25_0 : wr.cell? ⟨g0_, 0, none⟩ = some (.bool a0_0) := (blk_cell BK0.out 0).trans rfl
 have hcz25_1 : wr.cell? ⟨g0_, 1, none⟩ = some (.slice A0_1 l0_1.length c0_1) := (blk_cell BK0.out 1).trans rfl
 have hcz25_2 : wr.cell? ⟨g0_, 2, none⟩ = some (.slice A0_2 l0_2.length c0_2) := (blk_cell BK0.out 2).trans rfl
 have hcz25_3 : wr.cell? ⟨g0_, 3, none⟩ = some (.slice A0_3 l0_3.length c0_3) := (blk_cell BK0.out 3).trans rfl
 have hfz25_0 := blk_frozen BK0.out 0
 have hfz25_1 := blk_frozen BK0.out 1
 have hfz25_2 := blk_frozen BK0.out 2
 have hfz25_3 := blk_frozen BK0.out 3
 have p235 : 0 ≤ (x4_1 : Int) := of_decide_eq_true (by first | (with_reducible assumption) | assumption)
 have q235 : x4_1 < (l0_1.length : Int) := of_decide_eq_true (by first | (with_reducible assumption) | assumption)
 obtain ⟨ad235, e235, hx235_0, hx235_1, hx235_2, hx235_3⟩ := at_T36 HR0_1.out x4_1 p235 q235
 cases e235
 replace hx235_0 := (HB.out.cell (World.block_lt_of_cell? w _ hx235_0)).trans hx235_0
 replace hx235_1 := (HB.out.cell (World.block_lt_of_cell? w _ hx235_1)).trans hx235_1
 replace hx235_2 := (HB.out.cell (World.block_lt_of_cell? w _ hx235_2)).trans hx235_2
 replace hx235_3 := (HB.out.cell (World.block_lt_of_cell? w _ hx235_3)).trans hx235_3
 replace p235 := eq_true p235
 replace q235 := eq_true q235
 try go_wp2
 have n0_ := Aside0.mk (blk_drew BK0.out)
 have n1_ := Aside0.mk (below_drew1 HB.out)
 clear BK0
 clear HB
 have BK0 := n0_
 have HB := n1_
 clear n0_ n1_
 have p236 : 0 ≤ (x4_1 : Int) := of_decide_eq_true (by first | (with_reducible assumption) | assumption)
 have q236 : x4_1 < (l0_1.length : Int) := of_decide_eq_true (by first | (with_reducible assumption) | assumption)
 obtain ⟨ad236, e236, hx236_0, hx236_1, hx236_2, hx236_3⟩ := at_T36 HR0_1.out x4_1 p236 q236
 have hw236_3 := hx236_3
 have hw236_2 := hx236_2
 have hw236_1 := hx236_1
 have hw236_0 := hx236_0
 obtain rfl : ad235 = ad236 := (by injection e236)
 replace hx236_0 := (HB.out.cell (World.block_lt_of_cell? w _ hx236_0)).trans hx236_0
 replace hx236_1 := (HB.out.cell (World.block_lt_of_cell? w _ hx236_1)).trans hx236_1
 replace hx236_2 := (HB.out.cell (World.block_lt_of_cell? w _ hx236_2)).trans hx236_2
 replace hx236_3 := (HB.out.cell (World.block_lt_of_cell? w _ hx236_3)).trans hx236_3
 replace p236 := eq_true p236
 replace q236 := eq_true q236
 have p241 : 0 ≤ ((ji18) : Int) := of_decide_eq_true (by first | (with_reducible assumption) | assumption)
 have q241 : (ji18) < (l0_1.length : Int) := of_decide_eq_true (by first | (with_reducible assumption) | assumption)
 obtain ⟨ad241, e241, hx241_0, hx241_1, hx241_2, hx241_3⟩ := at_T36 HR0_1.out (ji18) p241 q241
 have hw241_3 := hx241_3
 have hw241_2 := hx241_2
 have hw241_1 := hx241_1
 have hw241_0 := hx241_0
 obtain rfl : ad235 = ad241 := (by injection e241)
 replace hx241_0 := (HB.out.cell (World.block_lt_of_cell? w _ hx241_0)).trans hx241_0
 replace hx241_1 := (HB.out.cell (World.block_lt_of_cell? w _ hx241_1)).trans hx241_1
 replace hx241_2 := (HB.out.cell (World.block_lt_of_cell? w _ hx241_2)).trans hx241_2
 replace hx241_3 := (HB.out.cell (World.block_lt_of_cell? w _ hx241_3)).trans hx241_3
 replace p241 := eq_true p241
 replace q241 := eq_true q241
 refine start_ (n := 50) (S := fun w' => w'.cell? ⟨g0_, 0, none⟩ = some (.bool a0_0) ∧ w'.cell? ⟨g0_, 1, none⟩ = some (.slice (some ad235) l0_1.length c0_1) ∧ w'.cell? ⟨g0_, 2, none⟩ = some (.slice A0_2 l0_2.length c0_2) ∧ w'.cell? ⟨g0_, 3, none⟩ = some (.slice A0_3 l0_3.length c0_3) ∧ w'.cell? (ad235.add ((x4_1).toNat * 4)) = some (.int .i64 ((rd_T36 l0_1 x4_1).f0)) ∧ w'.cell? ⟨(ad235.add ((x4_1).toNat * 4)).block, (ad235.add ((x4_1).toNat * 4)).off + 1, none⟩ = some (.int .i64 ((rd_T36 l0_1 x4_1).f1)) ∧ w'.cell? ⟨(ad235.add ((x4_1).toNat * 4)).block, (ad235.add ((x4_1).toNat * 4)).off + 2, none⟩ = some (.int .i64 ((rd_T36 l0_1 x4_1).f2)) ∧ w'.cell? ⟨(ad235.add ((x4_1).toNat * 4)).block, (ad235.add ((x4_1).toNat * 4)).off + 3, none⟩ = some (.int .i64 ((rd_T36 l0_1 x4_1).f3)) ∧ w'.cell? (ad235.add (((ji18)).toNat * 4)) = some (.int .i64 ((rd_T36 l0_1 (ji18)).f0)) ∧ w'.cell? ⟨(ad235.add (((ji18)).toNat * 4)).block, (ad235.add (((ji18)).toNat * 4)).off + 1, none⟩ = some (.int .i64 ((rd_T36 l0_1 (ji18)).f1)) ∧ w'.cell? ⟨(ad235.add (((ji18)).toNat * 4)).block, (ad235.add (((ji18)).toNat * 4)).off + 2, none⟩ = some (.int .i64 ((rd_T36 l0_1 (ji18)).f2)) ∧ w'.cell? ⟨(ad235.add (((ji18)).toNat * 4)).block, (ad235.add (((ji18)).toNat * 4)).off + 3, none⟩ = some (.int .i64 ((rd_T36 l0_1 (ji18)).f3))) (ds := []) m0_ s2_ rfl rfl ⟨(blk_cell BK0.out 0).trans rfl, (blk_cell BK0.out 1).trans rfl, (blk_cell BK0.out 2).trans rfl, (blk_cell BK0.out 3).trans rfl, ((HB.out.cell (World.block_lt_of_cell? w _ hw236_0)).trans hw236_0), ((HB.out.cell (World.block_lt_of_cell? w _ hw236_1)).trans hw236_1), ((HB.out.cell (World.block_lt_of_cell? w _ hw236_2)).trans hw236_2), ((HB.out.cell (World.block_lt_of_cell? w _ hw236_3)).trans hw236_3), ((HB.out.cell (World.block_lt_of_cell? w _ hw241_0)).trans hw241_0), ((HB.out.cell (World.block_lt_of_cell? w _ hw241_1)).trans hw241_1), ((HB.out.cell (World.block_lt_of_cell? w _ hw241_2)).trans hw241_2), ((HB.out.cell (World.block_lt_of_cell? w _ hw241_3)).trans hw241_3)⟩ (fun hHeld => ?_); refine with_tabW spec_l02Members.tab8 spec_l02Members.bits8 (fun HT_ HW_ => ?_)
 generalize wr.drew = w26 at BK0 HB hx236_0 hx236_1 hx236_2 hx236_3 hx241_0 hx241_1 hx241_2 hx241_3 hHeld ⊢
 refine pu_ 0 35 m1_ (any_of HT_.out s2_) ?_
 refine pu_ 1 36 m2_ (any_of HT_.out s2_) ?_
 refine pu_ 2 37 m3_ (any_of HT_.out s2_) ?_
 refine take_ (i := 3) (N := some 38) (v := ?_) (a' := ?_) m4_ rfl rfl (take_ofW HT_.out HW_.out s2_) (fun _ _ _ h => h) (Or.inl ⟨by rfl, ?_⟩) hHeld ?_ ?_
 rotate_left
 {
 rintro w' ⟨s0, s1, s2, s3, s4, s5, s6, s7, s8, s9, s10, s11⟩
 go_simp
 with_reducible rfl}
 rotate_left
 · exact p1_
 refine one_ (i := 4) (N := some 39) m5_ rfl rfl (one_of HT_.out s2_) (by decide) (fun K hK => ?_)
 refine goes_ Try.func40 s2_ rfl #[.int .i64 ((rd_T36 l0_1 x4_1).f0)] (by rfl) rfl rfl s3_ ?_
 with_reducible refine (spec_l02Id.calls ((rd_T36 l0_1 x4_1).f0) true _ A9.out).mono ?_
 rintro e w' ⟨rfl, ⟨nd, rfl⟩⟩
 refine ⟨_, rfl, ?_⟩
 refine hK.out _ _ ⟨(blk_cell BK0.out 0).trans rfl, (blk_cell BK0.out 1).trans rfl, (blk_cell BK0.out 2).trans rfl, (blk_cell BK0.out 3).trans rfl, ((HB.out.cell (World.block_lt_of_cell? w _ hw236_0)).trans hw236_0), ((HB.out.cell (World.block_lt_of_cell? w _ hw236_1)).trans hw236_1), ((HB.out.cell (World.block_lt_of_cell? w _ hw236_2)).trans hw236_2), ((HB.out.cell (World.block_lt_of_cell? w _ hw236_3)).trans hw236_3), ((HB.out.cell (World.block_lt_of_cell? w _ hw241_0)).trans hw241_0), ((HB.out.cell (World.block_lt_of_cell? w _ hw241_1)).trans hw241_1), ((HB.out.cell (World.block_lt_of_cell? w _ hw241_2)).trans hw241_2), ((HB.out.cell (World.block_lt_of_cell? w _ hw241_3)).trans hw241_3)⟩ (fun hHeld => ?_)
 clear hK K
 refine norm_ (a' := ?_) ?_ ?_
 rotate_left
 {
 show Act.put _ (some 39) _ = _
 simp only [Act.put, List.setIfInBounds_toArray, List.set_cons_zero, List.set_cons_succ, i64_w, i32_w]
 rfl}
 refine pu_ 5 40 m6_ (any_of HT_.out s2_) ?_
 refine pu_ 6 41 m7_ (any_of HT_.out s2_) ?_
 refine pu_ 7 42 m8_ (any_of HT_.out s2_) ?_
 refine pu_ 8 43 m9_ (any_of HT_.out s2_) ?_
 refine pu_ 9 44 m10_ (any_of HT_.out s2_) ?_
 refine take_ (i := 10) (N := some 45) (v := ?_) (a' := ?_) m11_ rfl rfl (take_ofW HT_.out HW_.out s2_) (fun _ _ _ h => h) (Or.inl ⟨by rfl, ?_⟩) hHeld ?_ ?_
 rotate_left
 {
 rintro w' ⟨s0, s1, s2, s3, s4, s5, s6, s7, s8, s9, s10, s11⟩
 go_simp
 with_reducible rfl}
 rotate_left
 · exact p1_
 refine one_ (i := 11) (N := some 46) m12_ rfl rfl (one_of HT_.out s2_) (by decide) (fun K hK => ?_)
 refine goes_ Try.func101 s2_ rfl #[.int .i64 ((rd_T36 l0_1 x4_1).f1)] (by rfl) rfl rfl s3_ ?_
 with_reducible refine (spec_l02Role.calls ((rd_T36 l0_1 x4_1).f1) true _ A11.out).mono ?_
 rintro e w' ⟨rfl, ⟨nd, rfl⟩⟩
 refine ⟨_, rfl, ?_⟩
 refine hK.out _ _ ⟨(blk_cell BK0.out 0).trans rfl, (blk_cell BK0.out 1).trans rfl, (blk_cell BK0.out 2).trans rfl, (blk_cell BK0.out 3).trans rfl, ((HB.out.cell (World.block_lt_of_cell? w _ hw236_0)).trans hw236_0), ((HB.out.cell (World.block_lt_of_cell? w _ hw236_1)).trans hw236_1), ((HB.out.cell (World.block_lt_of_cell? w _ hw236_2)).trans hw236_2), ((HB.out.cell (World.block_lt_of_cell? w _ hw236_3)).trans hw236_3), ((HB.out.cell (World.block_lt_of_cell? w _ hw241_0)).trans hw241_0), ((HB.out.cell (World.block_lt_of_cell? w _ hw241_1)).trans hw241_1), ((HB.out.cell (World.block_lt_of_cell? w _ hw241_2)).trans hw241_2), ((HB.out.cell (World.block_lt_of_cell? w _ hw241_3)).trans hw241_3)⟩ (fun hHeld => ?_)
 clear hK K
 refine norm_ (a' := ?_) ?_ ?_
 rotate_left
 {
 show Act.put _ (some 46) _ = _
 simp only [Act.put, List.setIfInBounds_toArray, List.set_cons_zero, List.set_cons_succ, i64_w, i32_w]
 rfl}
 refine pu_ 12 47 m13_ (any_of HT_.out s2_) ?_
 refine pu_ 13 48 m14_ (any_of HT_.out s2_) ?_
 refine pu_ 14 49 m15_ (any_of HT_.out s2_) ?_
 refine pu_ 15 50 m16_ (any_of HT_.out s2_) ?_
 refine pu_ 16 51 m17_ (any_of HT_.out s2_) ?_
 refine pu_ 17 52 m18_ (any_of HT_.out s2_) ?_
 refine take_ (i := 18) (N := some 53) (v := ?_) (a' := ?_) m19_ rfl rfl (take_ofW HT_.out HW_.out s2_) (fun _ _ _ h => h) (Or.inl ⟨by rfl, ?_⟩) hHeld ?_ ?_
 rotate_left
 {
 rintro w' ⟨s0, s1, s2, s3, s4, s5, s6, s7, s8, s9, s10, s11⟩
 go_simp
 with_reducible rfl}
 rotate_left
 · exact p1_
 refine one_ (i := 19) (N := some 54) m20_ rfl rfl (one_of HT_.out s2_) (by decide) (fun K hK => ?_)
 refine goes_ Try.func41 s2_ rfl #[.int .i64 ((rd_T36 l0_1 x4_1).f2)] (by rfl) rfl rfl s3_ ?_
 with_reducible refine (spec_l02Tick.calls ((rd_T36 l0_1 x4_1).f2) true _ A13.out).mono ?_
 rintro e w' ⟨rfl, ⟨nd, rfl⟩⟩
 refine ⟨_, rfl, ?_⟩
 refine hK.out _ _ ⟨(blk_cell BK0.out 0).trans rfl, (blk_cell BK0.out 1).trans rfl, (blk_cell BK0.out 2).trans rfl, (blk_cell BK0.out 3).trans rfl, ((HB.out.cell (World.block_lt_of_cell? w _ hw236_0)).trans hw236_0), ((HB.out.cell (World.block_lt_of_cell? w _ hw236_1)).trans hw236_1), ((HB.out.cell (World.block_lt_of_cell? w _ hw236_2)).trans hw236_2), ((HB.out.cell (World.block_lt_of_cell? w _ hw236_3)).trans hw236_3), ((HB.out.cell (World.block_lt_of_cell? w _ hw241_0)).trans hw241_0), ((HB.out.cell (World.block_lt_of_cell? w _ hw241_1)).trans hw241_1), ((HB.out.cell (World.block_lt_of_cell? w _ hw241_2)).trans hw241_2), ((HB.out.cell (World.block_lt_of_cell? w _ hw241_3)).trans hw241_3)⟩ (fun hHeld => ?_)
 clear hK K
 refine norm_ (a' := ?_) ?_ ?_
 rotate_left
 {
 show Act.put _ (some 54) _ = _
 simp only [Act.put, List.setIfInBounds_toArray, List.set_cons_zero, List.set_cons_succ, i64_w, i32_w]
 rfl}
 refine pu_ 20 55 m21_ (any_of HT_.out s2_) ?_
 refine pu_ 21 56 m22_ (any_of HT_.out s2_) ?_
 refine pu_ 22 57 m23_ (any_of HT_.out s2_) ?_
 refine pu_ 23 58 m24_ (any_of HT_.out s2_) ?_
 refine pu_ 24 59 m25_ (any_of HT_.out s2_) ?_
 refine pu_ 25 60 m26_ (any_of HT_.out s2_) ?_
 refine take_ (i := 26) (N := some 61) (v := ?_) (a' := ?_) m27_ rfl rfl (take_ofW HT_.out HW_.out s2_) (fun _ _ _ h => h) (Or.inl ⟨by rfl, ?_⟩) hHeld ?_ ?_
 rotate_left
 {
 rintro w' ⟨s0, s1, s2, s3, s4, s5, s6, s7, s8, s9, s10, s11⟩
 go_simp
 with_reducible rfl}
 rotate_left
 · exact p1_
 refine one_ (i := 27) (N := some 62) m28_ rfl rfl (one_of HT_.out s2_) (by decide) (fun K hK => ?_)
 refine goes_ Try.func41 s2_ rfl #[.int .i64 ((rd_T36 l0_1 x4_1).f3)] (by rfl) rfl rfl s3_ ?_
 with_reducible refine (spec_l02Tick.calls ((rd_T36 l0_1 x4_1).f3) true _ A15.out).mono ?_
 rintro e w' ⟨rfl, ⟨nd, rfl⟩⟩
 refine ⟨_, rfl, ?_⟩
 refine hK.out _ _ ⟨(blk_cell BK0.out 0).trans rfl, (blk_cell BK0.out 1).trans rfl, (blk_cell BK0.out 2).trans rfl, (blk_cell BK0.out 3).trans rfl, ((HB.out.cell (World.block_lt_of_cell? w _ hw236_0)).trans hw236_0), ((HB.out.cell (World.block_lt_of_cell? w _ hw236_1)).trans hw236_1), ((HB.out.cell (World.block_lt_of_cell? w _ hw236_2)).trans hw236_2), ((HB.out.cell (World.block_lt_of_cell? w _ hw236_3)).trans hw236_3), ((HB.out.cell (World.block_lt_of_cell? w _ hw241_0)).trans hw241_0), ((HB.out.cell (World.block_lt_of_cell? w _ hw241_1)).trans hw241_1), ((HB.out.cell (World.block_lt_of_cell? w _ hw241_2)).trans hw241_2), ((HB.out.cell (World.block_lt_of_cell? w _ hw241_3)).trans hw241_3)⟩ (fun hHeld => ?_)
 clear hK K
 refine norm_ (a' := ?_) ?_ ?_
 rotate_left
 {
 show Act.put _ (some 62) _ = _
 simp only [Act.put, List.setIfInBounds_toArray, List.set_cons_zero, List.set_cons_succ, i64_w, i32_w]
 rfl}
 refine pu_ 28 63 m29_ (any_of HT_.out s2_) ?_
 refine pu_ 29 64 m30_ (any_of HT_.out s2_) ?_
 refine pu_ 30 65 m31_ (any_of HT_.out s2_) ?_
 refine pu_ 31 66 m32_ (any_of HT_.out s2_) ?_
 refine pu_ 32 67 m33_ (any_of HT_.out s2_) ?_
 refine pu_ 33 68 m34_ (any_of HT_.out s2_) ?_
 refine pu_ 34 69 m35_ (any_of HT_.out s2_) ?_
 refine pu_ 35 70 m36_ (any_of HT_.out s2_) ?_
 refine pu_ 36 71 m37_ (any_of HT_.out s2_) ?_
 refine pu_ 38 73 m38_ (any_of HT_.out s2_) ?_
 refine pu_ 39 74 m39_ (any_of HT_.out s2_) ?_
 refine pu_ 43 78 m40_ (any_of HT_.out s2_) ?_
 refine pu_ 44 79 m41_ (any_of HT_.out s2_) ?_
 refine pu_ 45 80 m42_ (any_of HT_.out s2_) ?_
 refine take_ (i := 37) (N := some 72) (v := ?_) (a' := ?_) m43_ rfl rfl (take_ofW HT_.out HW_.out s2_) (fun _ _ _ h => h) (Or.inl ⟨by rfl, ?_⟩) hHeld ?_ ?_
 rotate_left
 {
 rintro w' ⟨s0, s1, s2, s3, s4, s5, s6, s7, s8, s9, s10, s11⟩
 go_simp
 with_reducible rfl}
 rotate_left
 · exact p1_
 refine pu_ 40 75 m44_ (any_of HT_.out s2_) ?_
 refine pu_ 41 76 m45_ (any_of HT_.out s2_) ?_
 refine take_ (i := 42) (N := some 77) (v := ?_) (a' := ?_) m46_ rfl rfl (take_ofW HT_.out HW_.out s2_) (fun _ _ _ h => h) (Or.inl ⟨by rfl, ?_⟩) hHeld ?_ ?_
 rotate_left
 {
 rintro w' ⟨s0, s1, s2, s3, s4, s5, s6, s7, s8, s9, s10, s11⟩
 go_simp
 with_reducible rfl}
 rotate_left
 · exact p1_
 refine take_ (i := 46) (N := some 81) (v := ?_) (a' := ?_) m47_ rfl rfl (take_ofW HT_.out HW_.out s2_) (fun _ _ _ h => h) (Or.inl ⟨by rfl, ?_⟩) hHeld ?_ ?_
 rotate_left
 {
 rintro w' ⟨s0, s1, s2, s3, s4, s5, s6, s7, s8, s9, s10, s11⟩
 go_simp
 with_reducible rfl}
 rotate_left
 · exact p1_
 refine pu_ 47 82 m48_ (any_of HT_.out s2_) ?_
 refine pu_ 48 83 m49_ (any_of HT_.out s2_) ?_
 refine pu_ 49 84 m50_ (any_of HT_.out s2_) ?_
 refine done_ (done_of HT_.out s2_) ?_
 try go_wp2
 go_roundg k1
 case measure => have := HK1.out; omega
 case rel => exact ⟨(wrap64 (x3_1 + 1)), (wrap64 (x4_1 + 1)), s1_, s1_, H', ⟨by have := HK1.out; omega⟩, ⟨b1_ BK0.out⟩, ⟨by repeat (first | (with_reducible first | exact HB.out | apply below_alloc | apply pw_below_drewN | apply below_drew1 | refine below_set ?_ GE0.out) | exact HB.out)⟩⟩}
 {
 rw [if_neg c24] at H
 have c24b0 : (((rd_T36 l0_1 x4_1).f1) == 3) = false := beq_eq_false_iff_ne.mpr c24
 have c24b1 : (((rd_T36 l0_1 x4_1).f1) != 3) = true := bne_iff_ne.mpr c24
 have H' := Aside0.mk H
 clear H
 have hcz27_0 : wr.cell? ⟨g0_, 0, none⟩ = some (.bool a0_0) := (blk_cell BK0.out 0).trans rfl
 have hcz27_1 : wr.cell? ⟨g0_, 1, none⟩ = some (.slice A0_1 l0_1.length c0_1) := (blk_cell BK0.out 1).trans rfl
 have hcz27_2 : wr.cell? ⟨g0_, 2, none⟩ = some (.slice A0_2 l0_2.length c0_2) := (blk_cell BK0.out 2).trans rfl
 have hcz27_3 : wr.cell? ⟨g0_, 3, none⟩ = some (.slice A0_3 l0_3.length c0_3) := (blk_cell BK0.out 3).trans rfl
 have hfz27_0 := blk_frozen BK0.out 0
 have hfz27_1 := blk_frozen BK0.out 1
 have hfz27_2 := blk_frozen BK0.out 2
 have hfz27_3 := blk_frozen BK0.out 3
 have p235 : 0 ≤ (x4_1 : Int) := of_decide_eq_true (by first | (with_reducible assumption) | assumption)
 have q235 : x4_1 < (l0_1.length : Int) := of_decide_eq_true (by first | (with_reducible assumption) | assumption)
 obtain ⟨ad235, e235, hx235_0, hx235_1, hx235_2, hx235_3⟩ := at_T36 HR0_1.out x4_1 p235 q235
 cases e235
 replace hx235_0 := (HB.out.cell (World.block_lt_of_cell? w _ hx235_0)).trans hx235_0
 replace hx235_1 := (HB.out.cell (World.block_lt_of_cell? w _ hx235_1)).trans hx235_1
 replace hx235_2 := (HB.out.cell (World.block_lt_of_cell? w _ hx235_2)).trans hx235_2
 replace hx235_3 := (HB.out.cell (World.block_lt_of_cell? w _ hx235_3)).trans hx235_3
 replace p235 := eq_true p235
 replace q235 := eq_true q235
 try go_wp2
 have n0_ := Aside0.mk (blk_drew BK0.out)
 have n1_ := Aside0.mk (below_drew1 HB.out)
 clear BK0
 clear HB
 have BK0 := n0_
 have HB := n1_
 clear n0_ n1_
 have p236 : 0 ≤ (x4_1 : Int) := of_decide_eq_true (by first | (with_reducible assumption) | assumption)
 have q236 : x4_1 < (l0_1.length : Int) := of_decide_eq_true (by first | (with_reducible assumption) | assumption)
 obtain ⟨ad236, e236, hx236_0, hx236_1, hx236_2, hx236_3⟩ := at_T36 HR0_1.out x4_1 p236 q236
 have hw236_3 := hx236_3
 have hw236_2 := hx236_2
 have hw236_1 := hx236_1
 have hw236_0 := hx236_0
 obtain rfl : ad235 = ad236 := (by injection e236)
 replace hx236_0 := (HB.out.cell (World.block_lt_of_cell? w _ hx236_0)).trans hx236_0
 replace hx236_1 := (HB.out.cell (World.block_lt_of_cell? w _ hx236_1)).trans hx236_1
 replace hx236_2 := (HB.out.cell (World.block_lt_of_cell? w _ hx236_2)).trans hx236_2
 replace hx236_3 := (HB.out.cell (World.block_lt_of_cell? w _ hx236_3)).trans hx236_3
 replace p236 := eq_true p236
 replace q236 := eq_true q236
 have p241 : 0 ≤ ((ji18) : Int) := of_decide_eq_true (by first | (with_reducible assumption) | assumption)
 have q241 : (ji18) < (l0_1.length : Int) := of_decide_eq_true (by first | (with_reducible assumption) | assumption)
 obtain ⟨ad241, e241, hx241_0, hx241_1, hx241_2, hx241_3⟩ := at_T36 HR0_1.out (ji18) p241 q241
 have hw241_3 := hx241_3
 have hw241_2 := hx241_2
 have hw241_1 := hx241_1
 have hw241_0 := hx241_0
 obtain rfl : ad235 = ad241 := (by injection e241)
 replace hx241_0 := (HB.out.cell (World.block_lt_of_cell? w _ hx241_0)).trans hx241_0
 replace hx241_1 := (HB.out.cell (World.block_lt_of_cell? w _ hx241_1)).trans hx241_1
 replace hx241_2 := (HB.out.cell (World.block_lt_of_cell? w _ hx241_2)).trans hx241_2
 replace hx241_3 := (HB.out.cell (World.block_lt_of_cell? w _ hx241_3)).trans hx241_3
 replace p241 := eq_true p241
 replace q241 := eq_true q241
 refine start_ (n := 50) (S := fun w' => w'.cell? ⟨g0_, 0, none⟩ = some (.bool a0_0) ∧ w'.cell? ⟨g0_, 1, none⟩ = some (.slice (some ad235) l0_1.length c0_1) ∧ w'.cell? ⟨g0_, 2, none⟩ = some (.slice A0_2 l0_2.length c0_2) ∧ w'.cell? ⟨g0_, 3, none⟩ = some (.slice A0_3 l0_3.length c0_3) ∧ w'.cell? (ad235.add ((x4_1).toNat * 4)) = some (.int .i64 ((rd_T36 l0_1 x4_1).f0)) ∧ w'.cell? ⟨(ad235.add ((x4_1).toNat * 4)).block, (ad235.add ((x4_1).toNat * 4)).off + 1, none⟩ = some (.int .i64 ((rd_T36 l0_1 x4_1).f1)) ∧ w'.cell? ⟨(ad235.add ((x4_1).toNat * 4)).block, (ad235.add ((x4_1).toNat * 4)).off + 2, none⟩ = some (.int .i64 ((rd_T36 l0_1 x4_1).f2)) ∧ w'.cell? ⟨(ad235.add ((x4_1).toNat * 4)).block, (ad235.add ((x4_1).toNat * 4)).off + 3, none⟩ = some (.int .i64 ((rd_T36 l0_1 x4_1).f3)) ∧ w'.cell? (ad235.add (((ji18)).toNat * 4)) = some (.int .i64 ((rd_T36 l0_1 (ji18)).f0)) ∧ w'.cell? ⟨(ad235.add (((ji18)).toNat * 4)).block, (ad235.add (((ji18)).toNat * 4)).off + 1, none⟩ = some (.int .i64 ((rd_T36 l0_1 (ji18)).f1)) ∧ w'.cell? ⟨(ad235.add (((ji18)).toNat * 4)).block, (ad235.add (((ji18)).toNat * 4)).off + 2, none⟩ = some (.int .i64 ((rd_T36 l0_1 (ji18)).f2)) ∧ w'.cell? ⟨(ad235.add (((ji18)).toNat * 4)).block, (ad235.add (((ji18)).toNat * 4)).off + 3, none⟩ = some (.int .i64 ((rd_T36 l0_1 (ji18)).f3))) (ds := []) m0_ s2_ rfl rfl ⟨(blk_cell BK0.out 0).trans rfl, (blk_cell BK0.out 1).trans rfl, (blk_cell BK0.out 2).trans rfl, (blk_cell BK0.out 3).trans rfl, ((HB.out.cell (World.block_lt_of_cell? w _ hw236_0)).trans hw236_0), ((HB.out.cell (World.block_lt_of_cell? w _ hw236_1)).trans hw236_1), ((HB.out.cell (World.block_lt_of_cell? w _ hw236_2)).trans hw236_2), ((HB.out.cell (World.block_lt_of_cell? w _ hw236_3)).trans hw236_3), ((HB.out.cell (World.block_lt_of_cell? w _ hw241_0)).trans hw241_0), ((HB.out.cell (World.block_lt_of_cell? w _ hw241_1)).trans hw241_1), ((HB.out.cell (World.block_lt_of_cell? w _ hw241_2)).trans hw241_2), ((HB.out.cell (World.block_lt_of_cell? w _ hw241_3)).trans hw241_3)⟩ (fun hHeld => ?_); refine with_tabW spec_l02Members.tab8 spec_l02Members.bits8 (fun HT_ HW_ => ?_)
 generalize wr.drew = w28 at BK0 HB hx236_0 hx236_1 hx236_2 hx236_3 hx241_0 hx241_1 hx241_2 hx241_3 hHeld ⊢
 refine pu_ 0 35 m1_ (any_of HT_.out s2_) ?_
 refine pu_ 1 36 m2_ (any_of HT_.out s2_) ?_
 refine pu_ 2 37 m3_ (any_of HT_.out s2_) ?_
 refine take_ (i := 3) (N := some 38) (v := ?_) (a' := ?_) m4_ rfl rfl (take_ofW HT_.out HW_.out s2_) (fun _ _ _ h => h) (Or.inl ⟨by rfl, ?_⟩) hHeld ?_ ?_
 rotate_left
 {
 rintro w' ⟨s0, s1, s2, s3, s4, s5, s6, s7, s8, s9, s10, s11⟩
 go_simp
 with_reducible rfl}
 rotate_left
 · exact p1_
 refine one_ (i := 4) (N := some 39) m5_ rfl rfl (one_of HT_.out s2_) (by decide) (fun K hK => ?_)
 refine goes_ Try.func40 s2_ rfl #[.int .i64 ((rd_T36 l0_1 x4_1).f0)] (by rfl) rfl rfl s3_ ?_
 with_reducible refine (spec_l02Id.calls ((rd_T36 l0_1 x4_1).f0) true _ A9.out).mono ?_
 rintro e w' ⟨rfl, ⟨nd, rfl⟩⟩
 refine ⟨_, rfl, ?_⟩
 refine hK.out _ _ ⟨(blk_cell BK0.out 0).trans rfl, (blk_cell BK0.out 1).trans rfl, (blk_cell BK0.out 2).trans rfl, (blk_cell BK0.out 3).trans rfl, ((HB.out.cell (World.block_lt_of_cell? w _ hw236_0)).trans hw236_0), ((HB.out.cell (World.block_lt_of_cell? w _ hw236_1)).trans hw236_1), ((HB.out.cell (World.block_lt_of_cell? w _ hw236_2)).trans hw236_2), ((HB.out.cell (World.block_lt_of_cell? w _ hw236_3)).trans hw236_3), ((HB.out.cell (World.block_lt_of_cell? w _ hw241_0)).trans hw241_0), ((HB.out.cell (World.block_lt_of_cell? w _ hw241_1)).trans hw241_1), ((HB.out.cell (World.block_lt_of_cell? w _ hw241_2)).trans hw241_2), ((HB.out.cell (World.block_lt_of_cell? w _ hw241_3)).trans hw241_3)⟩ (fun hHeld => ?_)
 clear hK K
 refine norm_ (a' := ?_) ?_ ?_
 rotate_left
 {
 show Act.put _ (some 39) _ = _
 simp only [Act.put, List.setIfInBounds_toArray, List.set_cons_zero, List.set_cons_succ, i64_w, i32_w]
 rfl}
 refine pu_ 5 40 m6_ (any_of HT_.out s2_) ?_
 refine pu_ 6 41 m7_ (any_of HT_.out s2_) ?_
 refine pu_ 7 42 m8_ (any_of HT_.out s2_) ?_
 refine pu_ 8 43 m9_ (any_of HT_.out s2_) ?_
 refine pu_ 9 44 m10_ (any_of HT_.out s2_) ?_
 refine take_ (i := 10) (N := some 45) (v := ?_) (a' := ?_) m11_ rfl rfl (take_ofW HT_.out HW_.out s2_) (fun _ _ _ h => h) (Or.inl ⟨by rfl, ?_⟩) hHeld ?_ ?_
 rotate_left
 {
 rintro w' ⟨s0, s1, s2, s3, s4, s5, s6, s7, s8, s9, s10, s11⟩
 go_simp
 with_reducible rfl}
 rotate_left
 · exact p1_
 refine one_ (i := 11) (N := some 46) m12_ rfl rfl (one_of HT_.out s2_) (by decide) (fun K hK => ?_)
 refine goes_ Try.func101 s2_ rfl #[.int .i64 ((rd_T36 l0_1 x4_1).f1)] (by rfl) rfl rfl s3_ ?_
 with_reducible refine (spec_l02Role.calls ((rd_T36 l0_1 x4_1).f1) true _ A11.out).mono ?_
 rintro e w' ⟨rfl, ⟨nd, rfl⟩⟩
 refine ⟨_, rfl, ?_⟩
 refine hK.out _ _ ⟨(blk_cell BK0.out 0).trans rfl, (blk_cell BK0.out 1).trans rfl, (blk_cell BK0.out 2).trans rfl, (blk_cell BK0.out 3).trans rfl, ((HB.out.cell (World.block_lt_of_cell? w _ hw236_0)).trans hw236_0), ((HB.out.cell (World.block_lt_of_cell? w _ hw236_1)).trans hw236_1), ((HB.out.cell (World.block_lt_of_cell? w _ hw236_2)).trans hw236_2), ((HB.out.cell (World.block_lt_of_cell? w _ hw236_3)).trans hw236_3), ((HB.out.cell (World.block_lt_of_cell? w _ hw241_0)).trans hw241_0), ((HB.out.cell (World.block_lt_of_cell? w _ hw241_1)).trans hw241_1), ((HB.out.cell (World.block_lt_of_cell? w _ hw241_2)).trans hw241_2), ((HB.out.cell (World.block_lt_of_cell? w _ hw241_3)).trans hw241_3)⟩ (fun hHeld => ?_)
 clear hK K
 refine norm_ (a' := ?_) ?_ ?_
 rotate_left
 {
 show Act.put _ (some 46) _ = _
 simp only [Act.put, List.setIfInBounds_toArray, List.set_cons_zero, List.set_cons_succ, i64_w, i32_w]
 rfl}
 refine pu_ 12 47 m13_ (any_of HT_.out s2_) ?_
 refine pu_ 13 48 m14_ (any_of HT_.out s2_) ?_
 refine pu_ 14 49 m15_ (any_of HT_.out s2_) ?_
 refine pu_ 15 50 m16_ (any_of HT_.out s2_) ?_
 refine pu_ 16 51 m17_ (any_of HT_.out s2_) ?_
 refine pu_ 17 52 m18_ (any_of HT_.out s2_) ?_
 refine take_ (i := 18) (N := some 53) (v := ?_) (a' := ?_) m19_ rfl rfl (take_ofW HT_.out HW_.out s2_) (fun _ _ _ h => h) (Or.inl ⟨by rfl, ?_⟩) hHeld ?_ ?_
 rotate_left
 {
 rintro w' ⟨s0, s1, s2, s3, s4, s5, s6, s7, s8, s9, s10, s11⟩
 go_simp
 with_reducible rfl}
 rotate_left
 · exact p1_
 refine one_ (i := 19) (N := some 54) m20_ rfl rfl (one_of HT_.out s2_) (by decide) (fun K hK => ?_)
 refine goes_ Try.func41 s2_ rfl #[.int .i64 ((rd_T36 l0_1 x4_1).f2)] (by rfl) rfl rfl s3_ ?_
 with_reducible refine (spec_l02Tick.calls ((rd_T36 l0_1 x4_1).f2) true _ A13.out).mono ?_
 rintro e w' ⟨rfl, ⟨nd, rfl⟩⟩
 refine ⟨_, rfl, ?_⟩
 refine hK.out _ _ ⟨(blk_cell BK0.out 0).trans rfl, (blk_cell BK0.out 1).trans rfl, (blk_cell BK0.out 2).trans rfl, (blk_cell BK0.out 3).trans rfl, ((HB.out.cell (World.block_lt_of_cell? w _ hw236_0)).trans hw236_0), ((HB.out.cell (World.block_lt_of_cell? w _ hw236_1)).trans hw236_1), ((HB.out.cell (World.block_lt_of_cell? w _ hw236_2)).trans hw236_2), ((HB.out.cell (World.block_lt_of_cell? w _ hw236_3)).trans hw236_3), ((HB.out.cell (World.block_lt_of_cell? w _ hw241_0)).trans hw241_0), ((HB.out.cell (World.block_lt_of_cell? w _ hw241_1)).trans hw241_1), ((HB.out.cell (World.block_lt_of_cell? w _ hw241_2)).trans hw241_2), ((HB.out.cell (World.block_lt_of_cell? w _ hw241_3)).trans hw241_3)⟩ (fun hHeld => ?_)
 clear hK K
 refine norm_ (a' := ?_) ?_ ?_
 rotate_left
 {
 show Act.put _ (some 54) _ = _
 simp only [Act.put, List.setIfInBounds_toArray, List.set_cons_zero, List.set_cons_succ, i64_w, i32_w]
 rfl}
 refine pu_ 20 55 m21_ (any_of HT_.out s2_) ?_
 refine pu_ 21 56 m22_ (any_of HT_.out s2_) ?_
 refine pu_ 22 57 m23_ (any_of HT_.out s2_) ?_
 refine pu_ 23 58 m24_ (any_of HT_.out s2_) ?_
 refine pu_ 24 59 m25_ (any_of HT_.out s2_) ?_
 refine pu_ 25 60 m26_ (any_of HT_.out s2_) ?_
 refine take_ (i := 26) (N := some 61) (v := ?_) (a' := ?_) m27_ rfl rfl (take_ofW HT_.out HW_.out s2_) (fun _ _ _ h => h) (Or.inl ⟨by rfl, ?_⟩) hHeld ?_ ?_
 rotate_left
 {
 rintro w' ⟨s0, s1, s2, s3, s4, s5, s6, s7, s8, s9, s10, s11⟩
 go_simp
 with_reducible rfl}
 rotate_left
 · exact p1_
 refine one_ (i := 27) (N := some 62) m28_ rfl rfl (one_of HT_.out s2_) (by decide) (fun K hK => ?_)
 refine goes_ Try.func41 s2_ rfl #[.int .i64 ((rd_T36 l0_1 x4_1).f3)] (by rfl) rfl rfl s3_ ?_
 with_reducible refine (spec_l02Tick.calls ((rd_T36 l0_1 x4_1).f3) true _ A15.out).mono ?_
 rintro e w' ⟨rfl, ⟨nd, rfl⟩⟩
 refine ⟨_, rfl, ?_⟩
 refine hK.out _ _ ⟨(blk_cell BK0.out 0).trans rfl, (blk_cell BK0.out 1).trans rfl, (blk_cell BK0.out 2).trans rfl, (blk_cell BK0.out 3).trans rfl, ((HB.out.cell (World.block_lt_of_cell? w _ hw236_0)).trans hw236_0), ((HB.out.cell (World.block_lt_of_cell? w _ hw236_1)).trans hw236_1), ((HB.out.cell (World.block_lt_of_cell? w _ hw236_2)).trans hw236_2), ((HB.out.cell (World.block_lt_of_cell? w _ hw236_3)).trans hw236_3), ((HB.out.cell (World.block_lt_of_cell? w _ hw241_0)).trans hw241_0), ((HB.out.cell (World.block_lt_of_cell? w _ hw241_1)).trans hw241_1), ((HB.out.cell (World.block_lt_of_cell? w _ hw241_2)).trans hw241_2), ((HB.out.cell (World.block_lt_of_cell? w _ hw241_3)).trans hw241_3)⟩ (fun hHeld => ?_)
 clear hK K
 refine norm_ (a' := ?_) ?_ ?_
 rotate_left
 {
 show Act.put _ (some 62) _ = _
 simp only [Act.put, List.setIfInBounds_toArray, List.set_cons_zero, List.set_cons_succ, i64_w, i32_w]
 rfl}
 refine pu_ 28 63 m29_ (any_of HT_.out s2_) ?_
 refine pu_ 29 64 m30_ (any_of HT_.out s2_) ?_
 refine pu_ 30 65 m31_ (any_of HT_.out s2_) ?_
 refine pu_ 31 66 m32_ (any_of HT_.out s2_) ?_
 refine pu_ 32 67 m33_ (any_of HT_.out s2_) ?_
 refine pu_ 33 68 m34_ (any_of HT_.out s2_) ?_
 refine pu_ 34 69 m35_ (any_of HT_.out s2_) ?_
 refine pu_ 35 70 m36_ (any_of HT_.out s2_) ?_
 refine pu_ 36 71 m37_ (any_of HT_.out s2_) ?_
 refine pu_ 38 73 m38_ (any_of HT_.out s2_) ?_
 refine pu_ 39 74 m39_ (any_of HT_.out s2_) ?_
 refine pu_ 43 78 m40_ (any_of HT_.out s2_) ?_
 refine pu_ 44 79 m41_ (any_of HT_.out s2_) ?_
 refine pu_ 45 80 m42_ (any_of HT_.out s2_) ?_
 refine take_ (i := 37) (N := some 72) (v := ?_) (a' := ?_) m43_ rfl rfl (take_ofW HT_.out HW_.out s2_) (fun _ _ _ h => h) (Or.inl ⟨by rfl, ?_⟩) hHeld ?_ ?_
 rotate_left
 {
 rintro w' ⟨s0, s1, s2, s3, s4, s5, s6, s7, s8, s9, s10, s11⟩
 go_simp
 with_reducible rfl}
 rotate_left
 · exact p1_
 refine pu_ 40 75 m44_ (any_of HT_.out s2_) ?_
 refine pu_ 41 76 m45_ (any_of HT_.out s2_) ?_
 refine take_ (i := 42) (N := some 77) (v := ?_) (a' := ?_) m46_ rfl rfl (take_ofW HT_.out HW_.out s2_) (fun _ _ _ h => h) (Or.inl ⟨by rfl, ?_⟩) hHeld ?_ ?_
 rotate_left
 {
 rintro w' ⟨s0, s1, s2, s3, s4, s5, s6, s7, s8, s9, s10, s11⟩
 go_simp
 with_reducible rfl}
 rotate_left
 · exact p1_
 refine take_ (i := 46) (N := some 81) (v := ?_) (a' := ?_) m47_ rfl rfl (take_ofW HT_.out HW_.out s2_) (fun _ _ _ h => h) (Or.inl ⟨by rfl, ?_⟩) hHeld ?_ ?_
 rotate_left
 {
 rintro w' ⟨s0, s1, s2, s3, s4, s5, s6, s7, s8, s9, s10, s11⟩
 go_simp
 with_reducible rfl}
 rotate_left
 · exact p1_
 refine pu_ 47 82 m48_ (any_of HT_.out s2_) ?_
 refine pu_ 48 83 m49_ (any_of HT_.out s2_) ?_
 refine pu_ 49 84 m50_ (any_of HT_.out s2_) ?_
 refine done_ (done_of HT_.out s2_) ?_
 try go_wp2
 go_roundg k1
 case measure => have := HK1.out; omega
 case rel => exact ⟨(x3_1), (wrap64 (x4_1 + 1)), s1_, s1_, H', ⟨by have := HK1.out; omega⟩, ⟨b1_ BK0.out⟩, ⟨by repeat (first | (with_reducible first | exact HB.out | apply below_alloc | apply pw_below_drewN | apply below_drew1 | refine below_set ?_ GE0.out) | exact HB.out)⟩⟩}}}
 {
 rw [if_neg c20] at H
 exact absurd H (by simp)}}
 {
 rw [if_neg c19] at H
 exact absurd H (by simp)}}
 {
 rw [if_neg c17] at H
 have c17b0 : decide (0 < x4_1) = false := decide_eq_false c17
 clear c17
 by_cases c29 : ((rd_T36 l0_1 x4_1).f1) = 3
 {
 rw [if_pos c29] at H
 have c29b0 : (((rd_T36 l0_1 x4_1).f1) == 3) = true := beq_iff_eq.mpr c29
 have c29b1 : (((rd_T36 l0_1 x4_1).f1) != 3) = false := bne_eq_false_iff_eq.mpr c29
 clear c29
 have H' := Aside0.mk H
 clear H
 have hcz30_0 : wr.cell? ⟨g0_, 0, none⟩ = some (.bool a0_0) := (blk_cell BK0.out 0).trans rfl
 have hcz30_1 : wr.cell? ⟨g0_, 1, none⟩ = some (.slice A0_1 l0_1.length c0_1) := (blk_cell BK0.out 1).trans rfl
 have hcz30_2 : wr.cell? ⟨g0_, 2, none⟩ = some (.slice A0_2 l0_2.length c0_2) := (blk_cell BK0.out 2).trans rfl
 have hcz30_3 : wr.cell? ⟨g0_, 3, none⟩ = some (.slice A0_3 l0_3.length c0_3) := (blk_cell BK0.out 3).trans rfl
 have hfz30_0 := blk_frozen BK0.out 0
 have hfz30_1 := blk_frozen BK0.out 1
 have hfz30_2 := blk_frozen BK0.out 2
 have hfz30_3 := blk_frozen BK0.out 3
 have p235 : 0 ≤ (x4_1 : Int) := of_decide_eq_true (by first | (with_reducible assumption) | assumption)
 have q235 : x4_1 < (l0_1.length : Int) := of_decide_eq_true (by first | (with_reducible assumption) | assumption)
 obtain ⟨ad235, e235, hx235_0, hx235_1, hx235_2, hx235_3⟩ := at_T36 HR0_1.out x4_1 p235 q235
 cases e235
 replace hx235_0 := (HB.out.cell (World.block_lt_of_cell? w _ hx235_0)).trans hx235_0
 replace hx235_1 := (HB.out.cell (World.block_lt_of_cell? w _ hx235_1)).trans hx235_1
 replace hx235_2 := (HB.out.cell (World.block_lt_of_cell? w _ hx235_2)).trans hx235_2
 replace hx235_3 := (HB.out.cell (World.block_lt_of_cell? w _ hx235_3)).trans hx235_3
 replace p235 := eq_true p235
 replace q235 := eq_true q235
 try go_wp2
 have n0_ := Aside0.mk (blk_drew BK0.out)
 have n1_ := Aside0.mk (below_drew1 HB.out)
 clear BK0
 clear HB
 have BK0 := n0_
 have HB := n1_
 clear n0_ n1_
 have p236 : 0 ≤ (x4_1 : Int) := of_decide_eq_true (by first | (with_reducible assumption) | assumption)
 have q236 : x4_1 < (l0_1.length : Int) := of_decide_eq_true (by first | (with_reducible assumption) | assumption)
 obtain ⟨ad236, e236, hx236_0, hx236_1, hx236_2, hx236_3⟩ := at_T36 HR0_1.out x4_1 p236 q236
 have hw236_3 := hx236_3
 have hw236_2 := hx236_2
 have hw236_1 := hx236_1
 have hw236_0 := hx236_0
 obtain rfl : ad235 = ad236 := (by injection e236)
 replace hx236_0 := (HB.out.cell (World.block_lt_of_cell? w _ hx236_0)).trans hx236_0
 replace hx236_1 := (HB.out.cell (World.block_lt_of_cell? w _ hx236_1)).trans hx236_1
 replace hx236_2 := (HB.out.cell (World.block_lt_of_cell? w _ hx236_2)).trans hx236_2
 replace hx236_3 := (HB.out.cell (World.block_lt_of_cell? w _ hx236_3)).trans hx236_3
 replace p236 := eq_true p236
 replace q236 := eq_true q236
 refine start_ (n := 50) (S := fun w' => w'.cell? (ad235.add ((x4_1).toNat * 4)) = some (.int .i64 ((rd_T36 l0_1 x4_1).f0)) ∧ w'.cell? ⟨(ad235.add ((x4_1).toNat * 4)).block, (ad235.add ((x4_1).toNat * 4)).off + 1, none⟩ = some (.int .i64 ((rd_T36 l0_1 x4_1).f1)) ∧ w'.cell? ⟨(ad235.add ((x4_1).toNat * 4)).block, (ad235.add ((x4_1).toNat * 4)).off + 2, none⟩ = some (.int .i64 ((rd_T36 l0_1 x4_1).f2)) ∧ w'.cell? ⟨(ad235.add ((x4_1).toNat * 4)).block, (ad235.add ((x4_1).toNat * 4)).off + 3, none⟩ = some (.int .i64 ((rd_T36 l0_1 x4_1).f3))) (ds := []) m0_ s2_ rfl rfl ⟨((HB.out.cell (World.block_lt_of_cell? w _ hw236_0)).trans hw236_0), ((HB.out.cell (World.block_lt_of_cell? w _ hw236_1)).trans hw236_1), ((HB.out.cell (World.block_lt_of_cell? w _ hw236_2)).trans hw236_2), ((HB.out.cell (World.block_lt_of_cell? w _ hw236_3)).trans hw236_3)⟩ (fun hHeld => ?_); refine with_tabW spec_l02Members.tab8 spec_l02Members.bits8 (fun HT_ HW_ => ?_)
 generalize wr.drew = w31 at BK0 HB hx236_0 hx236_1 hx236_2 hx236_3 hHeld ⊢
 refine pu_ 0 35 m1_ (any_of HT_.out s2_) ?_
 refine pu_ 1 36 m2_ (any_of HT_.out s2_) ?_
 refine pu_ 2 37 m3_ (any_of HT_.out s2_) ?_
 refine take_ (i := 3) (N := some 38) (v := ?_) (a' := ?_) m4_ rfl rfl (take_ofW HT_.out HW_.out s2_) (fun _ _ _ h => h) (Or.inl ⟨by rfl, ?_⟩) hHeld ?_ ?_
 rotate_left
 {
 rintro w' ⟨s0, s1, s2, s3⟩
 go_simp
 with_reducible rfl}
 rotate_left
 · exact p1_
 refine one_ (i := 4) (N := some 39) m5_ rfl rfl (one_of HT_.out s2_) (by decide) (fun K hK => ?_)
 refine goes_ Try.func40 s2_ rfl #[.int .i64 ((rd_T36 l0_1 x4_1).f0)] (by rfl) rfl rfl s3_ ?_
 with_reducible refine (spec_l02Id.calls ((rd_T36 l0_1 x4_1).f0) true _ A9.out).mono ?_
 rintro e w' ⟨rfl, ⟨nd, rfl⟩⟩
 refine ⟨_, rfl, ?_⟩
 refine hK.out _ _ ⟨((HB.out.cell (World.block_lt_of_cell? w _ hw236_0)).trans hw236_0), ((HB.out.cell (World.block_lt_of_cell? w _ hw236_1)).trans hw236_1), ((HB.out.cell (World.block_lt_of_cell? w _ hw236_2)).trans hw236_2), ((HB.out.cell (World.block_lt_of_cell? w _ hw236_3)).trans hw236_3)⟩ (fun hHeld => ?_)
 clear hK K
 refine norm_ (a' := ?_) ?_ ?_
 rotate_left
 {
 show Act.put _ (some 39) _ = _
 simp only [Act.put, List.setIfInBounds_toArray, List.set_cons_zero, List.set_cons_succ, i64_w, i32_w]
 rfl}
 refine pu_ 5 40 m6_ (any_of HT_.out s2_) ?_
 refine pu_ 6 41 m7_ (any_of HT_.out s2_) ?_
 refine pu_ 7 42 m8_ (any_of HT_.out s2_) ?_
 refine pu_ 8 43 m9_ (any_of HT_.out s2_) ?_
 refine pu_ 9 44 m10_ (any_of HT_.out s2_) ?_
 refine take_ (i := 10) (N := some 45) (v := ?_) (a' := ?_) m11_ rfl rfl (take_ofW HT_.out HW_.out s2_) (fun _ _ _ h => h) (Or.inl ⟨by rfl, ?_⟩) hHeld ?_ ?_
 rotate_left
 {
 rintro w' ⟨s0, s1, s2, s3⟩
 go_simp
 with_reducible rfl}
 rotate_left
 · exact p1_
 refine one_ (i := 11) (N := some 46) m12_ rfl rfl (one_of HT_.out s2_) (by decide) (fun K hK => ?_)
 refine goes_ Try.func101 s2_ rfl #[.int .i64 ((rd_T36 l0_1 x4_1).f1)] (by rfl) rfl rfl s3_ ?_
 with_reducible refine (spec_l02Role.calls ((rd_T36 l0_1 x4_1).f1) true _ A11.out).mono ?_
 rintro e w' ⟨rfl, ⟨nd, rfl⟩⟩
 refine ⟨_, rfl, ?_⟩
 refine hK.out _ _ ⟨((HB.out.cell (World.block_lt_of_cell? w _ hw236_0)).trans hw236_0), ((HB.out.cell (World.block_lt_of_cell? w _ hw236_1)).trans hw236_1), ((HB.out.cell (World.block_lt_of_cell? w _ hw236_2)).trans hw236_2), ((HB.out.cell (World.block_lt_of_cell? w _ hw236_3)).trans hw236_3)⟩ (fun hHeld => ?_)
 clear hK K
 refine norm_ (a' := ?_) ?_ ?_
 rotate_left
 {
 show Act.put _ (some 46) _ = _
 simp only [Act.put, List.setIfInBounds_toArray, List.set_cons_zero, List.set_cons_succ, i64_w, i32_w]
 rfl}
 refine pu_ 12 47 m13_ (any_of HT_.out s2_) ?_
 refine pu_ 13 48 m14_ (any_of HT_.out s2_) ?_
 refine pu_ 14 49 m15_ (any_of HT_.out s2_) ?_
 refine pu_ 15 50 m16_ (any_of HT_.out s2_) ?_
 refine pu_ 16 51 m17_ (any_of HT_.out s2_) ?_
 refine pu_ 17 52 m18_ (any_of HT_.out s2_) ?_
 refine take_ (i := 18) (N := some 53) (v := ?_) (a' := ?_) m19_ rfl rfl (take_ofW HT_.out HW_.out s2_) (fun _ _ _ h => h) (Or.inl ⟨by rfl, ?_⟩) hHeld ?_ ?_
 rotate_left
 {
 rintro w' ⟨s0, s1, s2, s3⟩
 go_simp
 with_reducible rfl}
 rotate_left
 · exact p1_
 refine one_ (i := 19) (N := some 54) m20_ rfl rfl (one_of HT_.out s2_) (by decide) (fun K hK => ?_)
 refine goes_ Try.func41 s2_ rfl #[.int .i64 ((rd_T36 l0_1 x4_1).f2)] (by rfl) rfl rfl s3_ ?_
 with_reducible refine (spec_l02Tick.calls ((rd_T36 l0_1 x4_1).f2) true _ A13.out).mono ?_
 rintro e w' ⟨rfl, ⟨nd, rfl⟩⟩
 refine ⟨_, rfl, ?_⟩
 refine hK.out _ _ ⟨((HB.out.cell (World.block_lt_of_cell? w _ hw236_0)).trans hw236_0), ((HB.out.cell (World.block_lt_of_cell? w _ hw236_1)).trans hw236_1), ((HB.out.cell (World.block_lt_of_cell? w _ hw236_2)).trans hw236_2), ((HB.out.cell (World.block_lt_of_cell? w _ hw236_3)).trans hw236_3)⟩ (fun hHeld => ?_)
 clear hK K
 refine norm_ (a' := ?_) ?_ ?_
 rotate_left
 {
 show Act.put _ (some 54) _ = _
 simp only [Act.put, List.setIfInBounds_toArray, List.set_cons_zero, List.set_cons_succ, i64_w, i32_w]
 rfl}
 refine pu_ 20 55 m21_ (any_of HT_.out s2_) ?_
 refine pu_ 21 56 m22_ (any_of HT_.out s2_) ?_
 refine pu_ 22 57 m23_ (any_of HT_.out s2_) ?_
 refine pu_ 23 58 m24_ (any_of HT_.out s2_) ?_
 refine pu_ 24 59 m25_ (any_of HT_.out s2_) ?_
 refine pu_ 25 60 m26_ (any_of HT_.out s2_) ?_
 refine take_ (i := 26) (N := some 61) (v := ?_) (a' := ?_) m27_ rfl rfl (take_ofW HT_.out HW_.out s2_) (fun _ _ _ h => h) (Or.inl ⟨by rfl, ?_⟩) hHeld ?_ ?_
 rotate_left
 {
 rintro w' ⟨s0, s1, s2, s3⟩
 go_simp
 with_reducible rfl}
 rotate_left
 · exact p1_
 refine one_ (i := 27) (N := some 62) m28_ rfl rfl (one_of HT_.out s2_) (by decide) (fun K hK => ?_)
 refine goes_ Try.func41 s2_ rfl #[.int .i64 ((rd_T36 l0_1 x4_1).f3)] (by rfl) rfl rfl s3_ ?_
 with_reducible refine (spec_l02Tick.calls ((rd_T36 l0_1 x4_1).f3) true _ A15.out).mono ?_
 rintro e w' ⟨rfl, ⟨nd, rfl⟩⟩
 refine ⟨_, rfl, ?_⟩
 refine hK.out _ _ ⟨((HB.out.cell (World.block_lt_of_cell? w _ hw236_0)).trans hw236_0), ((HB.out.cell (World.block_lt_of_cell? w _ hw236_1)).trans hw236_1), ((HB.out.cell (World.block_lt_of_cell? w _ hw236_2)).trans hw236_2), ((HB.out.cell (World.block_lt_of_cell? w _ hw236_3)).trans hw236_3)⟩ (fun hHeld => ?_)
 clear hK K
 refine norm_ (a' := ?_) ?_ ?_
 rotate_left
 {
 show Act.put _ (some 62) _ = _
 simp only [Act.put, List.setIfInBounds_toArray, List.set_cons_zero, List.set_cons_succ, i64_w, i32_w]
 rfl}
 refine pu_ 28 63 m29_ (any_of HT_.out s2_) ?_
 refine pu_ 29 64 m30_ (any_of HT_.out s2_) ?_
 refine pu_ 30 65 m31_ (any_of HT_.out s2_) ?_
 refine pu_ 31 66 m32_ (any_of HT_.out s2_) ?_
 refine pu_ 32 67 m33_ (any_of HT_.out s2_) ?_
 refine pu_ 33 68 m34_ (any_of HT_.out s2_) ?_
 refine pn_ 34 69 m35_ (any_of HT_.out s2_) ?_
 refine pn_ 35 70 m36_ (any_of HT_.out s2_) ?_
 refine pn_ 36 71 m37_ (any_of HT_.out s2_) ?_
 refine pn_ 37 72 m51_ (any_of HT_.out s2_) ?_
 refine pn_ 38 73 m52_ (any_of HT_.out s2_) ?_
 refine pn_ 39 74 m53_ (any_of HT_.out s2_) ?_
 refine pn_ 40 75 m54_ (any_of HT_.out s2_) ?_
 refine pn_ 41 76 m55_ (any_of HT_.out s2_) ?_
 refine pn_ 42 77 m56_ (any_of HT_.out s2_) ?_
 refine pn_ 43 78 m57_ (any_of HT_.out s2_) ?_
 refine pn_ 44 79 m58_ (any_of HT_.out s2_) ?_
 refine pn_ 45 80 m46_ (any_of HT_.out s2_) ?_
 refine pn_ 46 81 m47_ (any_of HT_.out s2_) ?_
 refine pn_ 47 82 m48_ (any_of HT_.out s2_) ?_
 refine pu_ 48 83 m49_ (any_of HT_.out s2_) ?_
 refine pu_ 49 84 m50_ (any_of HT_.out s2_) ?_
 refine done_ (done_of HT_.out s2_) ?_
 try go_wp2
 go_roundg k1
 case measure => have := HK1.out; omega
 case rel => exact ⟨(wrap64 (x3_1 + 1)), (wrap64 (x4_1 + 1)), s1_, s1_, H', ⟨by have := HK1.out; omega⟩, ⟨b1_ BK0.out⟩, ⟨by repeat (first | (with_reducible first | exact HB.out | apply below_alloc | apply pw_below_drewN | apply below_drew1 | refine below_set ?_ GE0.out) | exact HB.out)⟩⟩}
 {
 rw [if_neg c29] at H
 have c29b0 : (((rd_T36 l0_1 x4_1).f1) == 3) = false := beq_eq_false_iff_ne.mpr c29
 have c29b1 : (((rd_T36 l0_1 x4_1).f1) != 3) = true := bne_iff_ne.mpr c29
 have H' := Aside0.mk H
 clear H
 have hcz32_0 : wr.cell? ⟨g0_, 0, none⟩ = some (.bool a0_0) := (blk_cell BK0.out 0).trans rfl
 have hcz32_1 : wr.cell? ⟨g0_, 1, none⟩ = some (.slice A0_1 l0_1.length c0_1) := (blk_cell BK0.out 1).trans rfl
 have hcz32_2 : wr.cell? ⟨g0_, 2, none⟩ = some (.slice A0_2 l0_2.length c0_2) := (blk_cell BK0.out 2).trans rfl
 have hcz32_3 : wr.cell? ⟨g0_, 3, none⟩ = some (.slice A0_3 l0_3.length c0_3) := (blk_cell BK0.out 3).trans rfl
 have hfz32_0 := blk_frozen BK0.out 0
 have hfz32_1 := blk_frozen BK0.out 1
 have hfz32_2 := blk_frozen BK0.out 2
 have hfz32_3 := blk_frozen BK0.out 3
 have p235 : 0 ≤ (x4_1 : Int) := of_decide_eq_true (by first | (with_reducible assumption) | assumption)
 have q235 : x4_1 < (l0_1.length : Int) := of_decide_eq_true (by first | (with_reducible assumption) | assumption)
 obtain ⟨ad235, e235, hx235_0, hx235_1, hx235_2, hx235_3⟩ := at_T36 HR0_1.out x4_1 p235 q235
 cases e235
 replace hx235_0 := (HB.out.cell (World.block_lt_of_cell? w _ hx235_0)).trans hx235_0
 replace hx235_1 := (HB.out.cell (World.block_lt_of_cell? w _ hx235_1)).trans hx235_1
 replace hx235_2 := (HB.out.cell (World.block_lt_of_cell? w _ hx235_2)).trans hx235_2
 replace hx235_3 := (HB.out.cell (World.block_lt_of_cell? w _ hx235_3)).trans hx235_3
 replace p235 := eq_true p235
 replace q235 := eq_true q235
 try go_wp2
 have n0_ := Aside0.mk (blk_drew BK0.out)
 have n1_ := Aside0.mk (below_drew1 HB.out)
 clear BK0
 clear HB
 have BK0 := n0_
 have HB := n1_
 clear n0_ n1_
 have p236 : 0 ≤ (x4_1 : Int) := of_decide_eq_true (by first | (with_reducible assumption) | assumption)
 have q236 : x4_1 < (l0_1.length : Int) := of_decide_eq_true (by first | (with_reducible assumption) | assumption)
 obtain ⟨ad236, e236, hx236_0, hx236_1, hx236_2, hx236_3⟩ := at_T36 HR0_1.out x4_1 p236 q236
 have hw236_3 := hx236_3
 have hw236_2 := hx236_2
 have hw236_1 := hx236_1
 have hw236_0 := hx236_0
 obtain rfl : ad235 = ad236 := (by injection e236)
 replace hx236_0 := (HB.out.cell (World.block_lt_of_cell? w _ hx236_0)).trans hx236_0
 replace hx236_1 := (HB.out.cell (World.block_lt_of_cell? w _ hx236_1)).trans hx236_1
 replace hx236_2 := (HB.out.cell (World.block_lt_of_cell? w _ hx236_2)).trans hx236_2
 replace hx236_3 := (HB.out.cell (World.block_lt_of_cell? w _ hx236_3)).trans hx236_3
 replace p236 := eq_true p236
 replace q236 := eq_true q236
 refine start_ (n := 50) (S := fun w' => w'.cell? (ad235.add ((x4_1).toNat * 4)) = some (.int .i64 ((rd_T36 l0_1 x4_1).f0)) ∧ w'.cell? ⟨(ad235.add ((x4_1).toNat * 4)).block, (ad235.add ((x4_1).toNat * 4)).off + 1, none⟩ = some (.int .i64 ((rd_T36 l0_1 x4_1).f1)) ∧ w'.cell? ⟨(ad235.add ((x4_1).toNat * 4)).block, (ad235.add ((x4_1).toNat * 4)).off + 2, none⟩ = some (.int .i64 ((rd_T36 l0_1 x4_1).f2)) ∧ w'.cell? ⟨(ad235.add ((x4_1).toNat * 4)).block, (ad235.add ((x4_1).toNat * 4)).off + 3, none⟩ = some (.int .i64 ((rd_T36 l0_1 x4_1).f3))) (ds := []) m0_ s2_ rfl rfl ⟨((HB.out.cell (World.block_lt_of_cell? w _ hw236_0)).trans hw236_0), ((HB.out.cell (World.block_lt_of_cell? w _ hw236_1)).trans hw236_1), ((HB.out.cell (World.block_lt_of_cell? w _ hw236_2)).trans hw236_2), ((HB.out.cell (World.block_lt_of_cell? w _ hw236_3)).trans hw236_3)⟩ (fun hHeld => ?_); refine with_tabW spec_l02Members.tab8 spec_l02Members.bits8 (fun HT_ HW_ => ?_)
 generalize wr.drew = w33 at BK0 HB hx236_0 hx236_1 hx236_2 hx236_3 hHeld ⊢
 refine pu_ 0 35 m1_ (any_of HT_.out s2_) ?_
 refine pu_ 1 36 m2_ (any_of HT_.out s2_) ?_
 refine pu_ 2 37 m3_ (any_of HT_.out s2_) ?_
 refine take_ (i := 3) (N := some 38) (v := ?_) (a' := ?_) m4_ rfl rfl (take_ofW HT_.out HW_.out s2_) (fun _ _ _ h => h) (Or.inl ⟨by rfl, ?_⟩) hHeld ?_ ?_
 rotate_left
 {
 rintro w' ⟨s0, s1, s2, s3⟩
 go_simp
 with_reducible rfl}
 rotate_left
 · exact p1_
 refine one_ (i := 4) (N := some 39) m5_ rfl rfl (one_of HT_.out s2_) (by decide) (fun K hK => ?_)
 refine goes_ Try.func40 s2_ rfl #[.int .i64 ((rd_T36 l0_1 x4_1).f0)] (by rfl) rfl rfl s3_ ?_
 with_reducible refine (spec_l02Id.calls ((rd_T36 l0_1 x4_1).f0) true _ A9.out).mono ?_
 rintro e w' ⟨rfl, ⟨nd, rfl⟩⟩
 refine ⟨_, rfl, ?_⟩
 refine hK.out _ _ ⟨((HB.out.cell (World.block_lt_of_cell? w _ hw236_0)).trans hw236_0), ((HB.out.cell (World.block_lt_of_cell? w _ hw236_1)).trans hw236_1), ((HB.out.cell (World.block_lt_of_cell? w _ hw236_2)).trans hw236_2), ((HB.out.cell (World.block_lt_of_cell? w _ hw236_3)).trans hw236_3)⟩ (fun hHeld => ?_)
 clear hK K
 refine norm_ (a' := ?_) ?_ ?_
 rotate_left
 {
 show Act.put _ (some 39) _ = _
 simp only [Act.put, List.setIfInBounds_toArray, List.set_cons_zero, List.set_cons_succ, i64_w, i32_w]
 rfl}
 refine pu_ 5 40 m6_ (any_of HT_.out s2_) ?_
 refine pu_ 6 41 m7_ (any_of HT_.out s2_) ?_
 refine pu_ 7 42 m8_ (any_of HT_.out s2_) ?_
 refine pu_ 8 43 m9_ (any_of HT_.out s2_) ?_
 refine pu_ 9 44 m10_ (any_of HT_.out s2_) ?_
 refine take_ (i := 10) (N := some 45) (v := ?_) (a' := ?_) m11_ rfl rfl (take_ofW HT_.out HW_.out s2_) (fun _ _ _ h => h) (Or.inl ⟨by rfl, ?_⟩) hHeld ?_ ?_
 rotate_left
 {
 rintro w' ⟨s0, s1, s2, s3⟩
 go_simp
 with_reducible rfl}
 rotate_left
 · exact p1_
 refine one_ (i := 11) (N := some 46) m12_ rfl rfl (one_of HT_.out s2_) (by decide) (fun K hK => ?_)
 refine goes_ Try.func101 s2_ rfl #[.int .i64 ((rd_T36 l0_1 x4_1).f1)] (by rfl) rfl rfl s3_ ?_
 with_reducible refine (spec_l02Role.calls ((rd_T36 l0_1 x4_1).f1) true _ A11.out).mono ?_
 rintro e w' ⟨rfl, ⟨nd, rfl⟩⟩
 refine ⟨_, rfl, ?_⟩
 refine hK.out _ _ ⟨((HB.out.cell (World.block_lt_of_cell? w _ hw236_0)).trans hw236_0), ((HB.out.cell (World.block_lt_of_cell? w _ hw236_1)).trans hw236_1), ((HB.out.cell (World.block_lt_of_cell? w _ hw236_2)).trans hw236_2), ((HB.out.cell (World.block_lt_of_cell? w _ hw236_3)).trans hw236_3)⟩ (fun hHeld => ?_)
 clear hK K
 refine norm_ (a' := ?_) ?_ ?_
 rotate_left
 {
 show Act.put _ (some 46) _ = _
 simp only [Act.put, List.setIfInBounds_toArray, List.set_cons_zero, List.set_cons_succ, i64_w, i32_w]
 rfl}
 refine pu_ 12 47 m13_ (any_of HT_.out s2_) ?_
 refine pu_ 13 48 m14_ (any_of HT_.out s2_) ?_
 refine pu_ 14 49 m15_ (any_of HT_.out s2_) ?_
 refine pu_ 15 50 m16_ (any_of HT_.out s2_) ?_
 refine pu_ 16 51 m17_ (any_of HT_.out s2_) ?_
 refine pu_ 17 52 m18_ (any_of HT_.out s2_) ?_
 refine take_ (i := 18) (N := some 53) (v := ?_) (a' := ?_) m19_ rfl rfl (take_ofW HT_.out HW_.out s2_) (fun _ _ _ h => h) (Or.inl ⟨by rfl, ?_⟩) hHeld ?_ ?_
 rotate_left
 {
 rintro w' ⟨s0, s1, s2, s3⟩
 go_simp
 with_reducible rfl}
 rotate_left
 · exact p1_
 refine one_ (i := 19) (N := some 54) m20_ rfl rfl (one_of HT_.out s2_) (by decide) (fun K hK => ?_)
 refine goes_ Try.func41 s2_ rfl #[.int .i64 ((rd_T36 l0_1 x4_1).f2)] (by rfl) rfl rfl s3_ ?_
 with_reducible refine (spec_l02Tick.calls ((rd_T36 l0_1 x4_1).f2) true _ A13.out).mono ?_
 rintro e w' ⟨rfl, ⟨nd, rfl⟩⟩
 refine ⟨_, rfl, ?_⟩
 refine hK.out _ _ ⟨((HB.out.cell (World.block_lt_of_cell? w _ hw236_0)).trans hw236_0), ((HB.out.cell (World.block_lt_of_cell? w _ hw236_1)).trans hw236_1), ((HB.out.cell (World.block_lt_of_cell? w _ hw236_2)).trans hw236_2), ((HB.out.cell (World.block_lt_of_cell? w _ hw236_3)).trans hw236_3)⟩ (fun hHeld => ?_)
 clear hK K
 refine norm_ (a' := ?_) ?_ ?_
 rotate_left
 {
 show Act.put _ (some 54) _ = _
 simp only [Act.put, List.setIfInBounds_toArray, List.set_cons_zero, List.set_cons_succ, i64_w, i32_w]
 rfl}
 refine pu_ 20 55 m21_ (any_of HT_.out s2_) ?_
 refine pu_ 21 56 m22_ (any_of HT_.out s2_) ?_
 refine pu_ 22 57 m23_ (any_of HT_.out s2_) ?_
 refine pu_ 23 58 m24_ (any_of HT_.out s2_) ?_
 refine pu_ 24 59 m25_ (any_of HT_.out s2_) ?_
 refine pu_ 25 60 m26_ (any_of HT_.out s2_) ?_
 refine take_ (i := 26) (N := some 61) (v := ?_) (a' := ?_) m27_ rfl rfl (take_ofW HT_.out HW_.out s2_) (fun _ _ _ h => h) (Or.inl ⟨by rfl, ?_⟩) hHeld ?_ ?_
 rotate_left
 {
 rintro w' ⟨s0, s1, s2, s3⟩
 go_simp
 with_reducible rfl}
 rotate_left
 · exact p1_
 refine one_ (i := 27) (N := some 62) m28_ rfl rfl (one_of HT_.out s2_) (by decide) (fun K hK => ?_)
 refine goes_ Try.func41 s2_ rfl #[.int .i64 ((rd_T36 l0_1 x4_1).f3)] (by rfl) rfl rfl s3_ ?_
 with_reducible refine (spec_l02Tick.calls ((rd_T36 l0_1 x4_1).f3) true _ A15.out).mono ?_
 rintro e w' ⟨rfl, ⟨nd, rfl⟩⟩
 refine ⟨_, rfl, ?_⟩
 refine hK.out _ _ ⟨((HB.out.cell (World.block_lt_of_cell? w _ hw236_0)).trans hw236_0), ((HB.out.cell (World.block_lt_of_cell? w _ hw236_1)).trans hw236_1), ((HB.out.cell (World.block_lt_of_cell? w _ hw236_2)).trans hw236_2), ((HB.out.cell (World.block_lt_of_cell? w _ hw236_3)).trans hw236_3)⟩ (fun hHeld => ?_)
 clear hK K
 refine norm_ (a' := ?_) ?_ ?_
 rotate_left
 {
 show Act.put _ (some 62) _ = _
 simp only [Act.put, List.setIfInBounds_toArray, List.set_cons_zero, List.set_cons_succ, i64_w, i32_w]
 rfl}
 refine pu_ 28 63 m29_ (any_of HT_.out s2_) ?_
 refine pu_ 29 64 m30_ (any_of HT_.out s2_) ?_
 refine pu_ 30 65 m31_ (any_of HT_.out s2_) ?_
 refine pu_ 31 66 m32_ (any_of HT_.out s2_) ?_
 refine pu_ 32 67 m33_ (any_of HT_.out s2_) ?_
 refine pu_ 33 68 m34_ (any_of HT_.out s2_) ?_
 refine pn_ 34 69 m35_ (any_of HT_.out s2_) ?_
 refine pn_ 35 70 m36_ (any_of HT_.out s2_) ?_
 refine pn_ 36 71 m37_ (any_of HT_.out s2_) ?_
 refine pn_ 37 72 m51_ (any_of HT_.out s2_) ?_
 refine pn_ 38 73 m52_ (any_of HT_.out s2_) ?_
 refine pn_ 39 74 m53_ (any_of HT_.out s2_) ?_
 refine pn_ 40 75 m54_ (any_of HT_.out s2_) ?_
 refine pn_ 41 76 m55_ (any_of HT_.out s2_) ?_
 refine pn_ 42 77 m56_ (any_of HT_.out s2_) ?_
 refine pn_ 43 78 m57_ (any_of HT_.out s2_) ?_
 refine pn_ 44 79 m58_ (any_of HT_.out s2_) ?_
 refine pn_ 45 80 m46_ (any_of HT_.out s2_) ?_
 refine pn_ 46 81 m47_ (any_of HT_.out s2_) ?_
 refine pn_ 47 82 m48_ (any_of HT_.out s2_) ?_
 refine pu_ 48 83 m49_ (any_of HT_.out s2_) ?_
 refine pu_ 49 84 m50_ (any_of HT_.out s2_) ?_
 refine done_ (done_of HT_.out s2_) ?_
 try go_wp2
 go_roundg k1
 case measure => have := HK1.out; omega
 case rel => exact ⟨(x3_1), (wrap64 (x4_1 + 1)), s1_, s1_, H', ⟨by have := HK1.out; omega⟩, ⟨b1_ BK0.out⟩, ⟨by repeat (first | (with_reducible first | exact HB.out | apply below_alloc | apply pw_below_drewN | apply below_drew1 | refine below_set ?_ GE0.out) | exact HB.out)⟩⟩}}}
 {
 replace c16 := Bool.eq_false_iff.mpr c16
 subst c16
 have H1 : (some false) = some r := by rw [if_neg (show ¬ (false = true) by decide)] at H; exact H
 clear H
 have H := H1
 clear H1
 obtain rfl := Option.some.inj H
 have hcz34_0 : wr.cell? ⟨g0_, 0, none⟩ = some (.bool a0_0) := (blk_cell BK0.out 0).trans rfl
 have hcz34_1 : wr.cell? ⟨g0_, 1, none⟩ = some (.slice A0_1 l0_1.length c0_1) := (blk_cell BK0.out 1).trans rfl
 have hcz34_2 : wr.cell? ⟨g0_, 2, none⟩ = some (.slice A0_2 l0_2.length c0_2) := (blk_cell BK0.out 2).trans rfl
 have hcz34_3 : wr.cell? ⟨g0_, 3, none⟩ = some (.slice A0_3 l0_3.length c0_3) := (blk_cell BK0.out 3).trans rfl
 have hfz34_0 := blk_frozen BK0.out 0
 have hfz34_1 := blk_frozen BK0.out 1
 have hfz34_2 := blk_frozen BK0.out 2
 have hfz34_3 := blk_frozen BK0.out 3
 have p235 : 0 ≤ (x4_1 : Int) := of_decide_eq_true (by first | (with_reducible assumption) | assumption)
 have q235 : x4_1 < (l0_1.length : Int) := of_decide_eq_true (by first | (with_reducible assumption) | assumption)
 obtain ⟨ad235, e235, hx235_0, hx235_1, hx235_2, hx235_3⟩ := at_T36 HR0_1.out x4_1 p235 q235
 cases e235
 replace hx235_0 := (HB.out.cell (World.block_lt_of_cell? w _ hx235_0)).trans hx235_0
 replace hx235_1 := (HB.out.cell (World.block_lt_of_cell? w _ hx235_1)).trans hx235_1
 replace hx235_2 := (HB.out.cell (World.block_lt_of_cell? w _ hx235_2)).trans hx235_2
 replace hx235_3 := (HB.out.cell (World.block_lt_of_cell? w _ hx235_3)).trans hx235_3
 replace p235 := eq_true p235
 replace q235 := eq_true q235
 try go_wp2
 have n0_ := Aside0.mk (blk_drew BK0.out)
 have n1_ := Aside0.mk (below_drew1 HB.out)
 clear BK0
 clear HB
 have BK0 := n0_
 have HB := n1_
 clear n0_ n1_
 have p236 : 0 ≤ (x4_1 : Int) := of_decide_eq_true (by first | (with_reducible assumption) | assumption)
 have q236 : x4_1 < (l0_1.length : Int) := of_decide_eq_true (by first | (with_reducible assumption) | assumption)
 obtain ⟨ad236, e236, hx236_0, hx236_1, hx236_2, hx236_3⟩ := at_T36 HR0_1.out x4_1 p236 q236
 have hw236_3 := hx236_3
 have hw236_2 := hx236_2
 have hw236_1 := hx236_1
 have hw236_0 := hx236_0
 obtain rfl : ad235 = ad236 := (by injection e236)
 replace hx236_0 := (HB.out.cell (World.block_lt_of_cell? w _ hx236_0)).trans hx236_0
 replace hx236_1 := (HB.out.cell (World.block_lt_of_cell? w _ hx236_1)).trans hx236_1
 replace hx236_2 := (HB.out.cell (World.block_lt_of_cell? w _ hx236_2)).trans hx236_2
 replace hx236_3 := (HB.out.cell (World.block_lt_of_cell? w _ hx236_3)).trans hx236_3
 replace p236 := eq_true p236
 replace q236 := eq_true q236
 refine start_ (n := 50) (S := fun w' => w'.cell? (ad235.add ((x4_1).toNat * 4)) = some (.int .i64 ((rd_T36 l0_1 x4_1).f0)) ∧ w'.cell? ⟨(ad235.add ((x4_1).toNat * 4)).block, (ad235.add ((x4_1).toNat * 4)).off + 1, none⟩ = some (.int .i64 ((rd_T36 l0_1 x4_1).f1)) ∧ w'.cell? ⟨(ad235.add ((x4_1).toNat * 4)).block, (ad235.add ((x4_1).toNat * 4)).off + 2, none⟩ = some (.int .i64 ((rd_T36 l0_1 x4_1).f2)) ∧ w'.cell? ⟨(ad235.add ((x4_1).toNat * 4)).block, (ad235.add ((x4_1).toNat * 4)).off + 3, none⟩ = some (.int .i64 ((rd_T36 l0_1 x4_1).f3))) (ds := []) m0_ s2_ rfl rfl ⟨((HB.out.cell (World.block_lt_of_cell? w _ hw236_0)).trans hw236_0), ((HB.out.cell (World.block_lt_of_cell? w _ hw236_1)).trans hw236_1), ((HB.out.cell (World.block_lt_of_cell? w _ hw236_2)).trans hw236_2), ((HB.out.cell (World.block_lt_of_cell? w _ hw236_3)).trans hw236_3)⟩ (fun hHeld => ?_); refine with_tabW spec_l02Members.tab8 spec_l02Members.bits8 (fun HT_ HW_ => ?_)
 generalize wr.drew = w35 at BK0 HB hx236_0 hx236_1 hx236_2 hx236_3 hHeld ⊢
 refine pu_ 0 35 m1_ (any_of HT_.out s2_) ?_
 refine pu_ 1 36 m2_ (any_of HT_.out s2_) ?_
 refine pu_ 2 37 m3_ (any_of HT_.out s2_) ?_
 refine take_ (i := 3) (N := some 38) (v := ?_) (a' := ?_) m4_ rfl rfl (take_ofW HT_.out HW_.out s2_) (fun _ _ _ h => h) (Or.inl ⟨by rfl, ?_⟩) hHeld ?_ ?_
 rotate_left
 {
 rintro w' ⟨s0, s1, s2, s3⟩
 go_simp
 with_reducible rfl}
 rotate_left
 · exact p1_
 refine one_ (i := 4) (N := some 39) m5_ rfl rfl (one_of HT_.out s2_) (by decide) (fun K hK => ?_)
 refine goes_ Try.func40 s2_ rfl #[.int .i64 ((rd_T36 l0_1 x4_1).f0)] (by rfl) rfl rfl s3_ ?_
 with_reducible refine (spec_l02Id.calls ((rd_T36 l0_1 x4_1).f0) true _ A9.out).mono ?_
 rintro e w' ⟨rfl, ⟨nd, rfl⟩⟩
 refine ⟨_, rfl, ?_⟩
 refine hK.out _ _ ⟨((HB.out.cell (World.block_lt_of_cell? w _ hw236_0)).trans hw236_0), ((HB.out.cell (World.block_lt_of_cell? w _ hw236_1)).trans hw236_1), ((HB.out.cell (World.block_lt_of_cell? w _ hw236_2)).trans hw236_2), ((HB.out.cell (World.block_lt_of_cell? w _ hw236_3)).trans hw236_3)⟩ (fun hHeld => ?_)
 clear hK K
 refine norm_ (a' := ?_) ?_ ?_
 rotate_left
 {
 show Act.put _ (some 39) _ = _
 simp only [Act.put, List.setIfInBounds_toArray, List.set_cons_zero, List.set_cons_succ, i64_w, i32_w]
 rfl}
 refine pu_ 5 40 m6_ (any_of HT_.out s2_) ?_
 refine pu_ 6 41 m7_ (any_of HT_.out s2_) ?_
 refine pu_ 7 42 m8_ (any_of HT_.out s2_) ?_
 refine pu_ 8 43 m9_ (any_of HT_.out s2_) ?_
 refine pu_ 9 44 m10_ (any_of HT_.out s2_) ?_
 refine take_ (i := 10) (N := some 45) (v := ?_) (a' := ?_) m11_ rfl rfl (take_ofW HT_.out HW_.out s2_) (fun _ _ _ h => h) (Or.inl ⟨by rfl, ?_⟩) hHeld ?_ ?_
 rotate_left
 {
 rintro w' ⟨s0, s1, s2, s3⟩
 go_simp
 with_reducible rfl}
 rotate_left
 · exact p1_
 refine one_ (i := 11) (N := some 46) m12_ rfl rfl (one_of HT_.out s2_) (by decide) (fun K hK => ?_)
 refine goes_ Try.func101 s2_ rfl #[.int .i64 ((rd_T36 l0_1 x4_1).f1)] (by rfl) rfl rfl s3_ ?_
 with_reducible refine (spec_l02Role.calls ((rd_T36 l0_1 x4_1).f1) true _ A11.out).mono ?_
 rintro e w' ⟨rfl, ⟨nd, rfl⟩⟩
 refine ⟨_, rfl, ?_⟩
 refine hK.out _ _ ⟨((HB.out.cell (World.block_lt_of_cell? w _ hw236_0)).trans hw236_0), ((HB.out.cell (World.block_lt_of_cell? w _ hw236_1)).trans hw236_1), ((HB.out.cell (World.block_lt_of_cell? w _ hw236_2)).trans hw236_2), ((HB.out.cell (World.block_lt_of_cell? w _ hw236_3)).trans hw236_3)⟩ (fun hHeld => ?_)
 clear hK K
 refine norm_ (a' := ?_) ?_ ?_
 rotate_left
 {
 show Act.put _ (some 46) _ = _
 simp only [Act.put, List.setIfInBounds_toArray, List.set_cons_zero, List.set_cons_succ, i64_w, i32_w]
 rfl}
 refine pu_ 12 47 m13_ (any_of HT_.out s2_) ?_
 refine pu_ 13 48 m14_ (any_of HT_.out s2_) ?_
 refine pu_ 14 49 m15_ (any_of HT_.out s2_) ?_
 refine pu_ 15 50 m16_ (any_of HT_.out s2_) ?_
 refine pu_ 16 51 m17_ (any_of HT_.out s2_) ?_
 refine pu_ 17 52 m18_ (any_of HT_.out s2_) ?_
 refine take_ (i := 18) (N := some 53) (v := ?_) (a' := ?_) m19_ rfl rfl (take_ofW HT_.out HW_.out s2_) (fun _ _ _ h => h) (Or.inl ⟨by rfl, ?_⟩) hHeld ?_ ?_
 rotate_left
 {
 rintro w' ⟨s0, s1, s2, s3⟩
 go_simp
 with_reducible rfl}
 rotate_left
 · exact p1_
 refine one_ (i := 19) (N := some 54) m20_ rfl rfl (one_of HT_.out s2_) (by decide) (fun K hK => ?_)
 refine goes_ Try.func41 s2_ rfl #[.int .i64 ((rd_T36 l0_1 x4_1).f2)] (by rfl) rfl rfl s3_ ?_
 with_reducible refine (spec_l02Tick.calls ((rd_T36 l0_1 x4_1).f2) true _ A13.out).mono ?_
 rintro e w' ⟨rfl, ⟨nd, rfl⟩⟩
 refine ⟨_, rfl, ?_⟩
 refine hK.out _ _ ⟨((HB.out.cell (World.block_lt_of_cell? w _ hw236_0)).trans hw236_0), ((HB.out.cell (World.block_lt_of_cell? w _ hw236_1)).trans hw236_1), ((HB.out.cell (World.block_lt_of_cell? w _ hw236_2)).trans hw236_2), ((HB.out.cell (World.block_lt_of_cell? w _ hw236_3)).trans hw236_3)⟩ (fun hHeld => ?_)
 clear hK K
 refine norm_ (a' := ?_) ?_ ?_
 rotate_left
 {
 show Act.put _ (some 54) _ = _
 simp only [Act.put, List.setIfInBounds_toArray, List.set_cons_zero, List.set_cons_succ, i64_w, i32_w]
 rfl}
 refine pu_ 20 55 m21_ (any_of HT_.out s2_) ?_
 refine pu_ 21 56 m22_ (any_of HT_.out s2_) ?_
 refine pu_ 22 57 m23_ (any_of HT_.out s2_) ?_
 refine pu_ 23 58 m24_ (any_of HT_.out s2_) ?_
 refine pu_ 24 59 m25_ (any_of HT_.out s2_) ?_
 refine pu_ 25 60 m26_ (any_of HT_.out s2_) ?_
 refine take_ (i := 26) (N := some 61) (v := ?_) (a' := ?_) m27_ rfl rfl (take_ofW HT_.out HW_.out s2_) (fun _ _ _ h => h) (Or.inl ⟨by rfl, ?_⟩) hHeld ?_ ?_
 rotate_left
 {
 rintro w' ⟨s0, s1, s2, s3⟩
 go_simp
 with_reducible rfl}
 rotate_left
 · exact p1_
 refine one_ (i := 27) (N := some 62) m28_ rfl rfl (one_of HT_.out s2_) (by decide) (fun K hK => ?_)
 refine goes_ Try.func41 s2_ rfl #[.int .i64 ((rd_T36 l0_1 x4_1).f3)] (by rfl) rfl rfl s3_ ?_
 with_reducible refine (spec_l02Tick.calls ((rd_T36 l0_1 x4_1).f3) false _ A15.out).mono ?_
 rintro e w' ⟨rfl, ⟨nd, rfl⟩⟩
 refine ⟨_, rfl, ?_⟩
 refine hK.out _ _ ⟨((HB.out.cell (World.block_lt_of_cell? w _ hw236_0)).trans hw236_0), ((HB.out.cell (World.block_lt_of_cell? w _ hw236_1)).trans hw236_1), ((HB.out.cell (World.block_lt_of_cell? w _ hw236_2)).trans hw236_2), ((HB.out.cell (World.block_lt_of_cell? w _ hw236_3)).trans hw236_3)⟩ (fun hHeld => ?_)
 clear hK K
 refine norm_ (a' := ?_) ?_ ?_
 rotate_left
 {
 show Act.put _ (some 62) _ = _
 simp only [Act.put, List.setIfInBounds_toArray, List.set_cons_zero, List.set_cons_succ, i64_w, i32_w]
 rfl}
 refine pu_ 28 63 m29_ (any_of HT_.out s2_) ?_
 refine pu_ 29 64 m30_ (any_of HT_.out s2_) ?_
 refine pu_ 30 65 m31_ (any_of HT_.out s2_) ?_
 refine pn_ 31 66 m32_ (any_of HT_.out s2_) ?_
 refine pn_ 32 67 m33_ (any_of HT_.out s2_) ?_
 refine pn_ 33 68 m34_ (any_of HT_.out s2_) ?_
 refine pn_ 34 69 m35_ (any_of HT_.out s2_) ?_
 refine pn_ 35 70 m36_ (any_of HT_.out s2_) ?_
 refine pn_ 36 71 m37_ (any_of HT_.out s2_) ?_
 refine pn_ 37 72 m51_ (any_of HT_.out s2_) ?_
 refine pn_ 38 73 m52_ (any_of HT_.out s2_) ?_
 refine pn_ 39 74 m53_ (any_of HT_.out s2_) ?_
 refine pn_ 40 75 m54_ (any_of HT_.out s2_) ?_
 refine pn_ 41 76 m55_ (any_of HT_.out s2_) ?_
 refine pn_ 42 77 m56_ (any_of HT_.out s2_) ?_
 refine pn_ 43 78 m57_ (any_of HT_.out s2_) ?_
 refine pn_ 44 79 m58_ (any_of HT_.out s2_) ?_
 refine pn_ 45 80 m46_ (any_of HT_.out s2_) ?_
 refine pn_ 46 81 m47_ (any_of HT_.out s2_) ?_
 refine pn_ 47 82 m48_ (any_of HT_.out s2_) ?_
 refine pn_ 48 83 m49_ (any_of HT_.out s2_) ?_
 refine pu_ 49 84 m50_ (any_of HT_.out s2_) ?_
 refine done_ (done_of HT_.out s2_) ?_
 try go_wp2
 go_ret
 exact ⟨by first | rfl | (simp [errW_none, errW_some] <;> rfl) | (simp [*, errW_none, errW_some] <;> rfl), by repeat (first | (with_reducible first | exact HB.out | apply below_alloc | apply pw_below_drewN | apply below_drew1 | refine below_set ?_ GE0.out) | exact HB.out)⟩}}
 {
 replace c14 := Bool.eq_false_iff.mpr c14
 subst c14
 have H1 : (some false) = some r := by rw [if_neg (show ¬ (false = true) by decide)] at H; exact H
 clear H
 have H := H1
 clear H1
 obtain rfl := Option.some.inj H
 have hcz36_0 : wr.cell? ⟨g0_, 0, none⟩ = some (.bool a0_0) := (blk_cell BK0.out 0).trans rfl
 have hcz36_1 : wr.cell? ⟨g0_, 1, none⟩ = some (.slice A0_1 l0_1.length c0_1) := (blk_cell BK0.out 1).trans rfl
 have hcz36_2 : wr.cell? ⟨g0_, 2, none⟩ = some (.slice A0_2 l0_2.length c0_2) := (blk_cell BK0.out 2).trans rfl
 have hcz36_3 : wr.cell? ⟨g0_, 3, none⟩ = some (.slice A0_3 l0_3.length c0_3) := (blk_cell BK0.out 3).trans rfl
 have hfz36_0 := blk_frozen BK0.out 0
 have hfz36_1 := blk_frozen BK0.out 1
 have hfz36_2 := blk_frozen BK0.out 2
 have hfz36_3 := blk_frozen BK0.out 3
 have p235 : 0 ≤ (x4_1 : Int) := of_decide_eq_true (by first | (with_reducible assumption) | assumption)
 have q235 : x4_1 < (l0_1.length : Int) := of_decide_eq_true (by first | (with_reducible assumption) | assumption)
 obtain ⟨ad235, e235, hx235_0, hx235_1, hx235_2, hx235_3⟩ := at_T36 HR0_1.out x4_1 p235 q235
 cases e235
 replace hx235_0 := (HB.out.cell (World.block_lt_of_cell? w _ hx235_0)).trans hx235_0
 replace hx235_1 := (HB.out.cell (World.block_lt_of_cell? w _ hx235_1)).trans hx235_1
 replace hx235_2 := (HB.out.cell (World.block_lt_of_cell? w _ hx235_2)).trans hx235_2
 replace hx235_3 := (HB.out.cell (World.block_lt_of_cell? w _ hx235_3)).trans hx235_3
 replace p235 := eq_true p235
 replace q235 := eq_true q235
 try go_wp2
 have n0_ := Aside0.mk (blk_drew BK0.out)
 have n1_ := Aside0.mk (below_drew1 HB.out)
 clear BK0
 clear HB
 have BK0 := n0_
 have HB := n1_
 clear n0_ n1_
 have p236 : 0 ≤ (x4_1 : Int) := of_decide_eq_true (by first | (with_reducible assumption) | assumption)
 have q236 : x4_1 < (l0_1.length : Int) := of_decide_eq_true (by first | (with_reducible assumption) | assumption)
 obtain ⟨ad236, e236, hx236_0, hx236_1, hx236_2, hx236_3⟩ := at_T36 HR0_1.out x4_1 p236 q236
 have hw236_3 := hx236_3
 have hw236_2 := hx236_2
 have hw236_1 := hx236_1
 have hw236_0 := hx236_0
 obtain rfl : ad235 = ad236 := (by injection e236)
 replace hx236_0 := (HB.out.cell (World.block_lt_of_cell? w _ hx236_0)).trans hx236_0
 replace hx236_1 := (HB.out.cell (World.block_lt_of_cell? w _ hx236_1)).trans hx236_1
 replace hx236_2 := (HB.out.cell (World.block_lt_of_cell? w _ hx236_2)).trans hx236_2
 replace hx236_3 := (HB.out.cell (World.block_lt_of_cell? w _ hx236_3)).trans hx236_3
 replace p236 := eq_true p236
 replace q236 := eq_true q236
 refine start_ (n := 50) (S := fun w' => w'.cell? (ad235.add ((x4_1).toNat * 4)) = some (.int .i64 ((rd_T36 l0_1 x4_1).f0)) ∧ w'.cell? ⟨(ad235.add ((x4_1).toNat * 4)).block, (ad235.add ((x4_1).toNat * 4)).off + 1, none⟩ = some (.int .i64 ((rd_T36 l0_1 x4_1).f1)) ∧ w'.cell? ⟨(ad235.add ((x4_1).toNat * 4)).block, (ad235.add ((x4_1).toNat * 4)).off + 2, none⟩ = some (.int .i64 ((rd_T36 l0_1 x4_1).f2)) ∧ w'.cell? ⟨(ad235.add ((x4_1).toNat * 4)).block, (ad235.add ((x4_1).toNat * 4)).off + 3, none⟩ = some (.int .i64 ((rd_T36 l0_1 x4_1).f3))) (ds := []) m0_ s2_ rfl rfl ⟨((HB.out.cell (World.block_lt_of_cell? w _ hw236_0)).trans hw236_0), ((HB.out.cell (World.block_lt_of_cell? w _ hw236_1)).trans hw236_1), ((HB.out.cell (World.block_lt_of_cell? w _ hw236_2)).trans hw236_2), ((HB.out.cell (World.block_lt_of_cell? w _ hw236_3)).trans hw236_3)⟩ (fun hHeld => ?_); refine with_tabW spec_l02Members.tab8 spec_l02Members.bits8 (fun HT_ HW_ => ?_)
 generalize wr.drew = w37 at BK0 HB hx236_0 hx236_1 hx236_2 hx236_3 hHeld ⊢
 refine pu_ 0 35 m1_ (any_of HT_.out s2_) ?_
 refine pu_ 1 36 m2_ (any_of HT_.out s2_) ?_
 refine pu_ 2 37 m3_ (any_of HT_.out s2_) ?_
 refine take_ (i := 3) (N := some 38) (v := ?_) (a' := ?_) m4_ rfl rfl (take_ofW HT_.out HW_.out s2_) (fun _ _ _ h => h) (Or.inl ⟨by rfl, ?_⟩) hHeld ?_ ?_
 rotate_left
 {
 rintro w' ⟨s0, s1, s2, s3⟩
 go_simp
 with_reducible rfl}
 rotate_left
 · exact p1_
 refine one_ (i := 4) (N := some 39) m5_ rfl rfl (one_of HT_.out s2_) (by decide) (fun K hK => ?_)
 refine goes_ Try.func40 s2_ rfl #[.int .i64 ((rd_T36 l0_1 x4_1).f0)] (by rfl) rfl rfl s3_ ?_
 with_reducible refine (spec_l02Id.calls ((rd_T36 l0_1 x4_1).f0) true _ A9.out).mono ?_
 rintro e w' ⟨rfl, ⟨nd, rfl⟩⟩
 refine ⟨_, rfl, ?_⟩
 refine hK.out _ _ ⟨((HB.out.cell (World.block_lt_of_cell? w _ hw236_0)).trans hw236_0), ((HB.out.cell (World.block_lt_of_cell? w _ hw236_1)).trans hw236_1), ((HB.out.cell (World.block_lt_of_cell? w _ hw236_2)).trans hw236_2), ((HB.out.cell (World.block_lt_of_cell? w _ hw236_3)).trans hw236_3)⟩ (fun hHeld => ?_)
 clear hK K
 refine norm_ (a' := ?_) ?_ ?_
 rotate_left
 {
 show Act.put _ (some 39) _ = _
 simp only [Act.put, List.setIfInBounds_toArray, List.set_cons_zero, List.set_cons_succ, i64_w, i32_w]
 rfl}
 refine pu_ 5 40 m6_ (any_of HT_.out s2_) ?_
 refine pu_ 6 41 m7_ (any_of HT_.out s2_) ?_
 refine pu_ 7 42 m8_ (any_of HT_.out s2_) ?_
 refine pu_ 8 43 m9_ (any_of HT_.out s2_) ?_
 refine pu_ 9 44 m10_ (any_of HT_.out s2_) ?_
 refine take_ (i := 10) (N := some 45) (v := ?_) (a' := ?_) m11_ rfl rfl (take_ofW HT_.out HW_.out s2_) (fun _ _ _ h => h) (Or.inl ⟨by rfl, ?_⟩) hHeld ?_ ?_
 rotate_left
 {
 rintro w' ⟨s0, s1, s2, s3⟩
 go_simp
 with_reducible rfl}
 rotate_left
 · exact p1_
 refine one_ (i := 11) (N := some 46) m12_ rfl rfl (one_of HT_.out s2_) (by decide) (fun K hK => ?_)
 refine goes_ Try.func101 s2_ rfl #[.int .i64 ((rd_T36 l0_1 x4_1).f1)] (by rfl) rfl rfl s3_ ?_
 with_reducible refine (spec_l02Role.calls ((rd_T36 l0_1 x4_1).f1) true _ A11.out).mono ?_
 rintro e w' ⟨rfl, ⟨nd, rfl⟩⟩
 refine ⟨_, rfl, ?_⟩
 refine hK.out _ _ ⟨((HB.out.cell (World.block_lt_of_cell? w _ hw236_0)).trans hw236_0), ((HB.out.cell (World.block_lt_of_cell? w _ hw236_1)).trans hw236_1), ((HB.out.cell (World.block_lt_of_cell? w _ hw236_2)).trans hw236_2), ((HB.out.cell (World.block_lt_of_cell? w _ hw236_3)).trans hw236_3)⟩ (fun hHeld => ?_)
 clear hK K
 refine norm_ (a' := ?_) ?_ ?_
 rotate_left
 {
 show Act.put _ (some 46) _ = _
 simp only [Act.put, List.setIfInBounds_toArray, List.set_cons_zero, List.set_cons_succ, i64_w, i32_w]
 rfl}
 refine pu_ 12 47 m13_ (any_of HT_.out s2_) ?_
 refine pu_ 13 48 m14_ (any_of HT_.out s2_) ?_
 refine pu_ 14 49 m15_ (any_of HT_.out s2_) ?_
 refine pu_ 15 50 m16_ (any_of HT_.out s2_) ?_
 refine pu_ 16 51 m17_ (any_of HT_.out s2_) ?_
 refine pu_ 17 52 m18_ (any_of HT_.out s2_) ?_
 refine take_ (i := 18) (N := some 53) (v := ?_) (a' := ?_) m19_ rfl rfl (take_ofW HT_.out HW_.out s2_) (fun _ _ _ h => h) (Or.inl ⟨by rfl, ?_⟩) hHeld ?_ ?_
 rotate_left
 {
 rintro w' ⟨s0, s1, s2, s3⟩
 go_simp
 with_reducible rfl}
 rotate_left
 · exact p1_
 refine one_ (i := 19) (N := some 54) m20_ rfl rfl (one_of HT_.out s2_) (by decide) (fun K hK => ?_)
 refine goes_ Try.func41 s2_ rfl #[.int .i64 ((rd_T36 l0_1 x4_1).f2)] (by rfl) rfl rfl s3_ ?_
 with_reducible refine (spec_l02Tick.calls ((rd_T36 l0_1 x4_1).f2) false _ A13.out).mono ?_
 rintro e w' ⟨rfl, ⟨nd, rfl⟩⟩
 refine ⟨_, rfl, ?_⟩
 refine hK.out _ _ ⟨((HB.out.cell (World.block_lt_of_cell? w _ hw236_0)).trans hw236_0), ((HB.out.cell (World.block_lt_of_cell? w _ hw236_1)).trans hw236_1), ((HB.out.cell (World.block_lt_of_cell? w _ hw236_2)).trans hw236_2), ((HB.out.cell (World.block_lt_of_cell? w _ hw236_3)).trans hw236_3)⟩ (fun hHeld => ?_)
 clear hK K
 refine norm_ (a' := ?_) ?_ ?_
 rotate_left
 {
 show Act.put _ (some 54) _ = _
 simp only [Act.put, List.setIfInBounds_toArray, List.set_cons_zero, List.set_cons_succ, i64_w, i32_w]
 rfl}
 refine pu_ 20 55 m21_ (any_of HT_.out s2_) ?_
 refine pu_ 21 56 m22_ (any_of HT_.out s2_) ?_
 refine pu_ 22 57 m23_ (any_of HT_.out s2_) ?_
 refine pn_ 23 58 m24_ (any_of HT_.out s2_) ?_
 refine pn_ 24 59 m25_ (any_of HT_.out s2_) ?_
 refine pn_ 25 60 m26_ (any_of HT_.out s2_) ?_
 refine pn_ 26 61 m27_ (any_of HT_.out s2_) ?_
 refine pn_ 27 62 m28_ (any_of HT_.out s2_) ?_
 refine pn_ 28 63 m29_ (any_of HT_.out s2_) ?_
 refine pu_ 29 64 m30_ (any_of HT_.out s2_) ?_
 refine pu_ 30 65 m31_ (any_of HT_.out s2_) ?_
 refine pn_ 31 66 m32_ (any_of HT_.out s2_) ?_
 refine pn_ 32 67 m33_ (any_of HT_.out s2_) ?_
 refine pn_ 33 68 m34_ (any_of HT_.out s2_) ?_
 refine pn_ 34 69 m35_ (any_of HT_.out s2_) ?_
 refine pn_ 35 70 m36_ (any_of HT_.out s2_) ?_
 refine pn_ 36 71 m37_ (any_of HT_.out s2_) ?_
 refine pn_ 37 72 m51_ (any_of HT_.out s2_) ?_
 refine pn_ 38 73 m52_ (any_of HT_.out s2_) ?_
 refine pn_ 39 74 m53_ (any_of HT_.out s2_) ?_
 refine pn_ 40 75 m54_ (any_of HT_.out s2_) ?_
 refine pn_ 41 76 m55_ (any_of HT_.out s2_) ?_
 refine pn_ 42 77 m56_ (any_of HT_.out s2_) ?_
 refine pn_ 43 78 m57_ (any_of HT_.out s2_) ?_
 refine pn_ 44 79 m58_ (any_of HT_.out s2_) ?_
 refine pn_ 45 80 m46_ (any_of HT_.out s2_) ?_
 refine pn_ 46 81 m47_ (any_of HT_.out s2_) ?_
 refine pn_ 47 82 m48_ (any_of HT_.out s2_) ?_
 refine pn_ 48 83 m49_ (any_of HT_.out s2_) ?_
 refine pu_ 49 84 m50_ (any_of HT_.out s2_) ?_
 refine done_ (done_of HT_.out s2_) ?_
 try go_wp2
 go_ret
 exact ⟨by first | rfl | (simp [errW_none, errW_some] <;> rfl) | (simp [*, errW_none, errW_some] <;> rfl), by repeat (first | (with_reducible first | exact HB.out | apply below_alloc | apply pw_below_drewN | apply below_drew1 | refine below_set ?_ GE0.out) | exact HB.out)⟩}}
 {
 replace c12 := Bool.eq_false_iff.mpr c12
 subst c12
 have H1 : (some false) = some r := by rw [if_neg (show ¬ (false = true) by decide)] at H; exact H
 clear H
 have H := H1
 clear H1
 obtain rfl := Option.some.inj H
 have hcz38_0 : wr.cell? ⟨g0_, 0, none⟩ = some (.bool a0_0) := (blk_cell BK0.out 0).trans rfl
 have hcz38_1 : wr.cell? ⟨g0_, 1, none⟩ = some (.slice A0_1 l0_1.length c0_1) := (blk_cell BK0.out 1).trans rfl
 have hcz38_2 : wr.cell? ⟨g0_, 2, none⟩ = some (.slice A0_2 l0_2.length c0_2) := (blk_cell BK0.out 2).trans rfl
 have hcz38_3 : wr.cell? ⟨g0_, 3, none⟩ = some (.slice A0_3 l0_3.length c0_3) := (blk_cell BK0.out 3).trans rfl
 have hfz38_0 := blk_frozen BK0.out 0
 have hfz38_1 := blk_frozen BK0.out 1
 have hfz38_2 := blk_frozen BK0.out 2
 have hfz38_3 := blk_frozen BK0.out 3
 have p235 : 0 ≤ (x4_1 : Int) := of_decide_eq_true (by first | (with_reducible assumption) | assumption)
 have q235 : x4_1 < (l0_1.length : Int) := of_decide_eq_true (by first | (with_reducible assumption) | assumption)
 obtain ⟨ad235, e235, hx235_0, hx235_1, hx235_2, hx235_3⟩ := at_T36 HR0_1.out x4_1 p235 q235
 cases e235
 replace hx235_0 := (HB.out.cell (World.block_lt_of_cell? w _ hx235_0)).trans hx235_0
 replace hx235_1 := (HB.out.cell (World.block_lt_of_cell? w _ hx235_1)).trans hx235_1
 replace hx235_2 := (HB.out.cell (World.block_lt_of_cell? w _ hx235_2)).trans hx235_2
 replace hx235_3 := (HB.out.cell (World.block_lt_of_cell? w _ hx235_3)).trans hx235_3
 replace p235 := eq_true p235
 replace q235 := eq_true q235
 try go_wp2
 have n0_ := Aside0.mk (blk_drew BK0.out)
 have n1_ := Aside0.mk (below_drew1 HB.out)
 clear BK0
 clear HB
 have BK0 := n0_
 have HB := n1_
 clear n0_ n1_
 have p236 : 0 ≤ (x4_1 : Int) := of_decide_eq_true (by first | (with_reducible assumption) | assumption)
 have q236 : x4_1 < (l0_1.length : Int) := of_decide_eq_true (by first | (with_reducible assumption) | assumption)
 obtain ⟨ad236, e236, hx236_0, hx236_1, hx236_2, hx236_3⟩ := at_T36 HR0_1.out x4_1 p236 q236
 have hw236_3 := hx236_3
 have hw236_2 := hx236_2
 have hw236_1 := hx236_1
 have hw236_0 := hx236_0
 obtain rfl : ad235 = ad236 := (by injection e236)
 replace hx236_0 := (HB.out.cell (World.block_lt_of_cell? w _ hx236_0)).trans hx236_0
 replace hx236_1 := (HB.out.cell (World.block_lt_of_cell? w _ hx236_1)).trans hx236_1
 replace hx236_2 := (HB.out.cell (World.block_lt_of_cell? w _ hx236_2)).trans hx236_2
 replace hx236_3 := (HB.out.cell (World.block_lt_of_cell? w _ hx236_3)).trans hx236_3
 replace p236 := eq_true p236
 replace q236 := eq_true q236
 refine start_ (n := 50) (S := fun w' => w'.cell? (ad235.add ((x4_1).toNat * 4)) = some (.int .i64 ((rd_T36 l0_1 x4_1).f0)) ∧ w'.cell? ⟨(ad235.add ((x4_1).toNat * 4)).block, (ad235.add ((x4_1).toNat * 4)).off + 1, none⟩ = some (.int .i64 ((rd_T36 l0_1 x4_1).f1)) ∧ w'.cell? ⟨(ad235.add ((x4_1).toNat * 4)).block, (ad235.add ((x4_1).toNat * 4)).off + 2, none⟩ = some (.int .i64 ((rd_T36 l0_1 x4_1).f2)) ∧ w'.cell? ⟨(ad235.add ((x4_1).toNat * 4)).block, (ad235.add ((x4_1).toNat * 4)).off + 3, none⟩ = some (.int .i64 ((rd_T36 l0_1 x4_1).f3))) (ds := []) m0_ s2_ rfl rfl ⟨((HB.out.cell (World.block_lt_of_cell? w _ hw236_0)).trans hw236_0), ((HB.out.cell (World.block_lt_of_cell? w _ hw236_1)).trans hw236_1), ((HB.out.cell (World.block_lt_of_cell? w _ hw236_2)).trans hw236_2), ((HB.out.cell (World.block_lt_of_cell? w _ hw236_3)).trans hw236_3)⟩ (fun hHeld => ?_); refine with_tabW spec_l02Members.tab8 spec_l02Members.bits8 (fun HT_ HW_ => ?_)
 generalize wr.drew = w39 at BK0 HB hx236_0 hx236_1 hx236_2 hx236_3 hHeld ⊢
 refine pu_ 0 35 m1_ (any_of HT_.out s2_) ?_
 refine pu_ 1 36 m2_ (any_of HT_.out s2_) ?_
 refine pu_ 2 37 m3_ (any_of HT_.out s2_) ?_
 refine take_ (i := 3) (N := some 38) (v := ?_) (a' := ?_) m4_ rfl rfl (take_ofW HT_.out HW_.out s2_) (fun _ _ _ h => h) (Or.inl ⟨by rfl, ?_⟩) hHeld ?_ ?_
 rotate_left
 {
 rintro w' ⟨s0, s1, s2, s3⟩
 go_simp
 with_reducible rfl}
 rotate_left
 · exact p1_
 refine one_ (i := 4) (N := some 39) m5_ rfl rfl (one_of HT_.out s2_) (by decide) (fun K hK => ?_)
 refine goes_ Try.func40 s2_ rfl #[.int .i64 ((rd_T36 l0_1 x4_1).f0)] (by rfl) rfl rfl s3_ ?_
 with_reducible refine (spec_l02Id.calls ((rd_T36 l0_1 x4_1).f0) true _ A9.out).mono ?_
 rintro e w' ⟨rfl, ⟨nd, rfl⟩⟩
 refine ⟨_, rfl, ?_⟩
 refine hK.out _ _ ⟨((HB.out.cell (World.block_lt_of_cell? w _ hw236_0)).trans hw236_0), ((HB.out.cell (World.block_lt_of_cell? w _ hw236_1)).trans hw236_1), ((HB.out.cell (World.block_lt_of_cell? w _ hw236_2)).trans hw236_2), ((HB.out.cell (World.block_lt_of_cell? w _ hw236_3)).trans hw236_3)⟩ (fun hHeld => ?_)
 clear hK K
 refine norm_ (a' := ?_) ?_ ?_
 rotate_left
 {
 show Act.put _ (some 39) _ = _
 simp only [Act.put, List.setIfInBounds_toArray, List.set_cons_zero, List.set_cons_succ, i64_w, i32_w]
 rfl}
 refine pu_ 5 40 m6_ (any_of HT_.out s2_) ?_
 refine pu_ 6 41 m7_ (any_of HT_.out s2_) ?_
 refine pu_ 7 42 m8_ (any_of HT_.out s2_) ?_
 refine pu_ 8 43 m9_ (any_of HT_.out s2_) ?_
 refine pu_ 9 44 m10_ (any_of HT_.out s2_) ?_
 refine take_ (i := 10) (N := some 45) (v := ?_) (a' := ?_) m11_ rfl rfl (take_ofW HT_.out HW_.out s2_) (fun _ _ _ h => h) (Or.inl ⟨by rfl, ?_⟩) hHeld ?_ ?_
 rotate_left
 {
 rintro w' ⟨s0, s1, s2, s3⟩
 go_simp
 with_reducible rfl}
 rotate_left
 · exact p1_
 refine one_ (i := 11) (N := some 46) m12_ rfl rfl (one_of HT_.out s2_) (by decide) (fun K hK => ?_)
 refine goes_ Try.func101 s2_ rfl #[.int .i64 ((rd_T36 l0_1 x4_1).f1)] (by rfl) rfl rfl s3_ ?_
 with_reducible refine (spec_l02Role.calls ((rd_T36 l0_1 x4_1).f1) false _ A11.out).mono ?_
 rintro e w' ⟨rfl, ⟨nd, rfl⟩⟩
 refine ⟨_, rfl, ?_⟩
 refine hK.out _ _ ⟨((HB.out.cell (World.block_lt_of_cell? w _ hw236_0)).trans hw236_0), ((HB.out.cell (World.block_lt_of_cell? w _ hw236_1)).trans hw236_1), ((HB.out.cell (World.block_lt_of_cell? w _ hw236_2)).trans hw236_2), ((HB.out.cell (World.block_lt_of_cell? w _ hw236_3)).trans hw236_3)⟩ (fun hHeld => ?_)
 clear hK K
 refine norm_ (a' := ?_) ?_ ?_
 rotate_left
 {
 show Act.put _ (some 46) _ = _
 simp only [Act.put, List.setIfInBounds_toArray, List.set_cons_zero, List.set_cons_succ, i64_w, i32_w]
 rfl}
 refine pu_ 12 47 m13_ (any_of HT_.out s2_) ?_
 refine pu_ 13 48 m14_ (any_of HT_.out s2_) ?_
 refine pu_ 14 49 m15_ (any_of HT_.out s2_) ?_
 refine pn_ 15 50 m16_ (any_of HT_.out s2_) ?_
 refine pn_ 16 51 m17_ (any_of HT_.out s2_) ?_
 refine pn_ 17 52 m18_ (any_of HT_.out s2_) ?_
 refine pn_ 18 53 m19_ (any_of HT_.out s2_) ?_
 refine pn_ 19 54 m20_ (any_of HT_.out s2_) ?_
 refine pn_ 20 55 m21_ (any_of HT_.out s2_) ?_
 refine pu_ 21 56 m22_ (any_of HT_.out s2_) ?_
 refine pu_ 22 57 m23_ (any_of HT_.out s2_) ?_
 refine pn_ 23 58 m24_ (any_of HT_.out s2_) ?_
 refine pn_ 24 59 m25_ (any_of HT_.out s2_) ?_
 refine pn_ 25 60 m26_ (any_of HT_.out s2_) ?_
 refine pn_ 26 61 m27_ (any_of HT_.out s2_) ?_
 refine pn_ 27 62 m28_ (any_of HT_.out s2_) ?_
 refine pn_ 28 63 m29_ (any_of HT_.out s2_) ?_
 refine pu_ 29 64 m30_ (any_of HT_.out s2_) ?_
 refine pu_ 30 65 m31_ (any_of HT_.out s2_) ?_
 refine pn_ 31 66 m32_ (any_of HT_.out s2_) ?_
 refine pn_ 32 67 m33_ (any_of HT_.out s2_) ?_
 refine pn_ 33 68 m34_ (any_of HT_.out s2_) ?_
 refine pn_ 34 69 m35_ (any_of HT_.out s2_) ?_
 refine pn_ 35 70 m36_ (any_of HT_.out s2_) ?_
 refine pn_ 36 71 m37_ (any_of HT_.out s2_) ?_
 refine pn_ 37 72 m51_ (any_of HT_.out s2_) ?_
 refine pn_ 38 73 m52_ (any_of HT_.out s2_) ?_
 refine pn_ 39 74 m53_ (any_of HT_.out s2_) ?_
 refine pn_ 40 75 m54_ (any_of HT_.out s2_) ?_
 refine pn_ 41 76 m55_ (any_of HT_.out s2_) ?_
 refine pn_ 42 77 m56_ (any_of HT_.out s2_) ?_
 refine pn_ 43 78 m57_ (any_of HT_.out s2_) ?_
 refine pn_ 44 79 m58_ (any_of HT_.out s2_) ?_
 refine pn_ 45 80 m46_ (any_of HT_.out s2_) ?_
 refine pn_ 46 81 m47_ (any_of HT_.out s2_) ?_
 refine pn_ 47 82 m48_ (any_of HT_.out s2_) ?_
 refine pn_ 48 83 m49_ (any_of HT_.out s2_) ?_
 refine pu_ 49 84 m50_ (any_of HT_.out s2_) ?_
 refine done_ (done_of HT_.out s2_) ?_
 try go_wp2
 go_ret
 exact ⟨by first | rfl | (simp [errW_none, errW_some] <;> rfl) | (simp [*, errW_none, errW_some] <;> rfl), by repeat (first | (with_reducible first | exact HB.out | apply below_alloc | apply pw_below_drewN | apply below_drew1 | refine below_set ?_ GE0.out) | exact HB.out)⟩}}
 {
 replace c10 := Bool.eq_false_iff.mpr c10
 subst c10
 have H1 : (some false) = some r := by rw [if_neg (show ¬ (false = true) by decide)] at H; exact H
 clear H
 have H := H1
 clear H1
 obtain rfl := Option.some.inj H
 have hcz40_0 : wr.cell? ⟨g0_, 0, none⟩ = some (.bool a0_0) := (blk_cell BK0.out 0).trans rfl
 have hcz40_1 : wr.cell? ⟨g0_, 1, none⟩ = some (.slice A0_1 l0_1.length c0_1) := (blk_cell BK0.out 1).trans rfl
 have hcz40_2 : wr.cell? ⟨g0_, 2, none⟩ = some (.slice A0_2 l0_2.length c0_2) := (blk_cell BK0.out 2).trans rfl
 have hcz40_3 : wr.cell? ⟨g0_, 3, none⟩ = some (.slice A0_3 l0_3.length c0_3) := (blk_cell BK0.out 3).trans rfl
 have hfz40_0 := blk_frozen BK0.out 0
 have hfz40_1 := blk_frozen BK0.out 1
 have hfz40_2 := blk_frozen BK0.out 2
 have hfz40_3 := blk_frozen BK0.out 3
 have p235 : 0 ≤ (x4_1 : Int) := of_decide_eq_true (by first | (with_reducible assumption) | assumption)
 have q235 : x4_1 < (l0_1.length : Int) := of_decide_eq_true (by first | (with_reducible assumption) | assumption)
 obtain ⟨ad235, e235, hx235_0, hx235_1, hx235_2, hx235_3⟩ := at_T36 HR0_1.out x4_1 p235 q235
 cases e235
 replace hx235_0 := (HB.out.cell (World.block_lt_of_cell? w _ hx235_0)).trans hx235_0
 replace hx235_1 := (HB.out.cell (World.block_lt_of_cell? w _ hx235_1)).trans hx235_1
 replace hx235_2 := (HB.out.cell (World.block_lt_of_cell? w _ hx235_2)).trans hx235_2
 replace hx235_3 := (HB.out.cell (World.block_lt_of_cell? w _ hx235_3)).trans hx235_3
 replace p235 := eq_true p235
 replace q235 := eq_true q235
 try go_wp2
 have n0_ := Aside0.mk (blk_drew BK0.out)
 have n1_ := Aside0.mk (below_drew1 HB.out)
 clear BK0
 clear HB
 have BK0 := n0_
 have HB := n1_
 clear n0_ n1_
 have p236 : 0 ≤ (x4_1 : Int) := of_decide_eq_true (by first | (with_reducible assumption) | assumption)
 have q236 : x4_1 < (l0_1.length : Int) := of_decide_eq_true (by first | (with_reducible assumption) | assumption)
 obtain ⟨ad236, e236, hx236_0, hx236_1, hx236_2, hx236_3⟩ := at_T36 HR0_1.out x4_1 p236 q236
 have hw236_3 := hx236_3
 have hw236_2 := hx236_2
 have hw236_1 := hx236_1
 have hw236_0 := hx236_0
 obtain rfl : ad235 = ad236 := (by injection e236)
 replace hx236_0 := (HB.out.cell (World.block_lt_of_cell? w _ hx236_0)).trans hx236_0
 replace hx236_1 := (HB.out.cell (World.block_lt_of_cell? w _ hx236_1)).trans hx236_1
 replace hx236_2 := (HB.out.cell (World.block_lt_of_cell? w _ hx236_2)).trans hx236_2
 replace hx236_3 := (HB.out.cell (World.block_lt_of_cell? w _ hx236_3)).trans hx236_3
 replace p236 := eq_true p236
 replace q236 := eq_true q236
 refine start_ (n := 50) (S := fun w' => w'.cell? (ad235.add ((x4_1).toNat * 4)) = some (.int .i64 ((rd_T36 l0_1 x4_1).f0)) ∧ w'.cell? ⟨(ad235.add ((x4_1).toNat * 4)).block, (ad235.add ((x4_1).toNat * 4)).off + 1, none⟩ = some (.int .i64 ((rd_T36 l0_1 x4_1).f1)) ∧ w'.cell? ⟨(ad235.add ((x4_1).toNat * 4)).block, (ad235.add ((x4_1).toNat * 4)).off + 2, none⟩ = some (.int .i64 ((rd_T36 l0_1 x4_1).f2)) ∧ w'.cell? ⟨(ad235.add ((x4_1).toNat * 4)).block, (ad235.add ((x4_1).toNat * 4)).off + 3, none⟩ = some (.int .i64 ((rd_T36 l0_1 x4_1).f3))) (ds := []) m0_ s2_ rfl rfl ⟨((HB.out.cell (World.block_lt_of_cell? w _ hw236_0)).trans hw236_0), ((HB.out.cell (World.block_lt_of_cell? w _ hw236_1)).trans hw236_1), ((HB.out.cell (World.block_lt_of_cell? w _ hw236_2)).trans hw236_2), ((HB.out.cell (World.block_lt_of_cell? w _ hw236_3)).trans hw236_3)⟩ (fun hHeld => ?_); refine with_tabW spec_l02Members.tab8 spec_l02Members.bits8 (fun HT_ HW_ => ?_)
 generalize wr.drew = w41 at BK0 HB hx236_0 hx236_1 hx236_2 hx236_3 hHeld ⊢
 refine pu_ 0 35 m1_ (any_of HT_.out s2_) ?_
 refine pu_ 1 36 m2_ (any_of HT_.out s2_) ?_
 refine pu_ 2 37 m3_ (any_of HT_.out s2_) ?_
 refine take_ (i := 3) (N := some 38) (v := ?_) (a' := ?_) m4_ rfl rfl (take_ofW HT_.out HW_.out s2_) (fun _ _ _ h => h) (Or.inl ⟨by rfl, ?_⟩) hHeld ?_ ?_
 rotate_left
 {
 rintro w' ⟨s0, s1, s2, s3⟩
 go_simp
 with_reducible rfl}
 rotate_left
 · exact p1_
 refine one_ (i := 4) (N := some 39) m5_ rfl rfl (one_of HT_.out s2_) (by decide) (fun K hK => ?_)
 refine goes_ Try.func40 s2_ rfl #[.int .i64 ((rd_T36 l0_1 x4_1).f0)] (by rfl) rfl rfl s3_ ?_
 with_reducible refine (spec_l02Id.calls ((rd_T36 l0_1 x4_1).f0) false _ A9.out).mono ?_
 rintro e w' ⟨rfl, ⟨nd, rfl⟩⟩
 refine ⟨_, rfl, ?_⟩
 refine hK.out _ _ ⟨((HB.out.cell (World.block_lt_of_cell? w _ hw236_0)).trans hw236_0), ((HB.out.cell (World.block_lt_of_cell? w _ hw236_1)).trans hw236_1), ((HB.out.cell (World.block_lt_of_cell? w _ hw236_2)).trans hw236_2), ((HB.out.cell (World.block_lt_of_cell? w _ hw236_3)).trans hw236_3)⟩ (fun hHeld => ?_)
 clear hK K
 refine norm_ (a' := ?_) ?_ ?_
 rotate_left
 {
 show Act.put _ (some 39) _ = _
 simp only [Act.put, List.setIfInBounds_toArray, List.set_cons_zero, List.set_cons_succ, i64_w, i32_w]
 rfl}
 refine pu_ 5 40 m6_ (any_of HT_.out s2_) ?_
 refine pu_ 6 41 m7_ (any_of HT_.out s2_) ?_
 refine pn_ 7 42 m8_ (any_of HT_.out s2_) ?_
 refine pn_ 8 43 m9_ (any_of HT_.out s2_) ?_
 refine pn_ 9 44 m10_ (any_of HT_.out s2_) ?_
 refine pn_ 10 45 m11_ (any_of HT_.out s2_) ?_
 refine pn_ 11 46 m12_ (any_of HT_.out s2_) ?_
 refine pn_ 12 47 m13_ (any_of HT_.out s2_) ?_
 refine pu_ 13 48 m14_ (any_of HT_.out s2_) ?_
 refine pu_ 14 49 m15_ (any_of HT_.out s2_) ?_
 refine pn_ 15 50 m16_ (any_of HT_.out s2_) ?_
 refine pn_ 16 51 m17_ (any_of HT_.out s2_) ?_
 refine pn_ 17 52 m18_ (any_of HT_.out s2_) ?_
 refine pn_ 18 53 m19_ (any_of HT_.out s2_) ?_
 refine pn_ 19 54 m20_ (any_of HT_.out s2_) ?_
 refine pn_ 20 55 m21_ (any_of HT_.out s2_) ?_
 refine pu_ 21 56 m22_ (any_of HT_.out s2_) ?_
 refine pu_ 22 57 m23_ (any_of HT_.out s2_) ?_
 refine pn_ 23 58 m24_ (any_of HT_.out s2_) ?_
 refine pn_ 24 59 m25_ (any_of HT_.out s2_) ?_
 refine pn_ 25 60 m26_ (any_of HT_.out s2_) ?_
 refine pn_ 26 61 m27_ (any_of HT_.out s2_) ?_
 refine pn_ 27 62 m28_ (any_of HT_.out s2_) ?_
 refine pn_ 28 63 m29_ (any_of HT_.out s2_) ?_
 refine pu_ 29 64 m30_ (any_of HT_.out s2_) ?_
 refine pu_ 30 65 m31_ (any_of HT_.out s2_) ?_
 refine pn_ 31 66 m32_ (any_of HT_.out s2_) ?_
 refine pn_ 32 67 m33_ (any_of HT_.out s2_) ?_
 refine pn_ 33 68 m34_ (any_of HT_.out s2_) ?_
 refine pn_ 34 69 m35_ (any_of HT_.out s2_) ?_
 refine pn_ 35 70 m36_ (any_of HT_.out s2_) ?_
 refine pn_ 36 71 m37_ (any_of HT_.out s2_) ?_
 refine pn_ 37 72 m51_ (any_of HT_.out s2_) ?_
 refine pn_ 38 73 m52_ (any_of HT_.out s2_) ?_
 refine pn_ 39 74 m53_ (any_of HT_.out s2_) ?_
 refine pn_ 40 75 m54_ (any_of HT_.out s2_) ?_
 refine pn_ 41 76 m55_ (any_of HT_.out s2_) ?_
 refine pn_ 42 77 m56_ (any_of HT_.out s2_) ?_
 refine pn_ 43 78 m57_ (any_of HT_.out s2_) ?_
 refine pn_ 44 79 m58_ (any_of HT_.out s2_) ?_
 refine pn_ 45 80 m46_ (any_of HT_.out s2_) ?_
 refine pn_ 46 81 m47_ (any_of HT_.out s2_) ?_
 refine pn_ 47 82 m48_ (any_of HT_.out s2_) ?_
 refine pn_ 48 83 m49_ (any_of HT_.out s2_) ?_
 refine pu_ 49 84 m50_ (any_of HT_.out s2_) ?_
 refine done_ (done_of HT_.out s2_) ?_
 try go_wp2
 go_ret
 exact ⟨by first | rfl | (simp [errW_none, errW_some] <;> rfl) | (simp [*, errW_none, errW_some] <;> rfl), by repeat (first | (with_reducible first | exact HB.out | apply below_alloc | apply pw_below_drewN | apply below_drew1 | refine below_set ?_ GE0.out) | exact HB.out)⟩}}
 {
 rw [if_neg c8] at H
 exact absurd H (by simp)}}
 {
 rw [if_neg c7] at H
 have c7b0 : decide (x4_1 < (l0_1.length : Int)) = false := decide_eq_false c7
 clear c7
 obtain rfl := Option.some.inj H
 have hcz42_0 : wr.cell? ⟨g0_, 0, none⟩ = some (.bool a0_0) := (blk_cell BK0.out 0).trans rfl
 have hcz42_1 : wr.cell? ⟨g0_, 1, none⟩ = some (.slice A0_1 l0_1.length c0_1) := (blk_cell BK0.out 1).trans rfl
 have hcz42_2 : wr.cell? ⟨g0_, 2, none⟩ = some (.slice A0_2 l0_2.length c0_2) := (blk_cell BK0.out 2).trans rfl
 have hcz42_3 : wr.cell? ⟨g0_, 3, none⟩ = some (.slice A0_3 l0_3.length c0_3) := (blk_cell BK0.out 3).trans rfl
 have hfz42_0 := blk_frozen BK0.out 0
 have hfz42_1 := blk_frozen BK0.out 1
 have hfz42_2 := blk_frozen BK0.out 2
 have hfz42_3 := blk_frozen BK0.out 3
 go_wp2
 go_ret
 exact ⟨by first | rfl | (simp [errW_none, errW_some] <;> rfl) | (simp [*, errW_none, errW_some] <;> rfl), by repeat (first | (with_reducible first | exact HB.out | apply below_alloc | apply pw_below_drewN | apply below_drew1 | refine below_set ?_ GE0.out) | exact HB.out)⟩}}}}}

end Go.Proofs.Ytdanachjdfiegaa.QFnExactRoleOf
