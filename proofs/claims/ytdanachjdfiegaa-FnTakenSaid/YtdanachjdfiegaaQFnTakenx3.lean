-- written by a program of this session, on the lines of the kit's print
import Derived.Test.YtdanachjdfiegaaQFnTakenx0
import Derived.Test.YtdanachjdfiegaaQFnTakenx2
namespace Go.Proofs.Ytdanachjdfiegaa.QFnTaken
open Go.RowKit Go.Proofs.YtdanachjdfiegaaW.PrintWords Go.Proofs.YtdanachjdfiegaaW.PrintLast Go.Proofs.YtdanachjdfiegaaW.PrintMore
attribute [local go_sem] max2_int min2_int max_two min_two max_three min_three max_four min_four   -- for this text's walks alone
set_option linter.unusedVariables false
set_option linter.unusedSimpArgs false

/-! ### spec_l04Is: function 87 -/
abbrev spec_l04Is.T : Bool := true
abbrev spec_l04Is.F : Bool := false
theorem spec_l04Is.s1_ {P : Prop} (h : P := by first | rfl | (simp; done) | (simp [*]; done)) : P := h
theorem spec_l04Is.s2_ {P : Prop} (h : P := by kernel_rfl) : P := h
theorem spec_l04Is.s3_ {P : Prop} (h : P := by (try simp only [List.map_toArray, List.map_cons, List.map_nil]); first | done | rfl | (simp only [List.length_drop, List.length_take]; rfl)) : P := h
abbrev spec_l04Is.m0_ : Array Bool := #[F,F,F,F,F,F,F,F,F,F,F,F,F,F,F,F,F,F,F,F,F,F,F,F,F,F,F,F,F,F,F,F,F,F,F,F,F,F,F,F,F,F]
abbrev spec_l04Is.m1_ : Array Bool := #[T,F,F,F,F,F,F,F,F,F,F,F,F,F,F,F,F,F,F,F,F,F,F,F,F,F,F,F,F,F,F,F,F,F,F,F,F,F,F,F,F,F]
abbrev spec_l04Is.m2_ : Array Bool := #[T,T,F,F,F,F,F,F,F,F,F,F,F,F,F,F,F,F,F,F,F,F,F,F,F,F,F,F,F,F,F,F,F,F,F,F,F,F,F,F,F,F]
abbrev spec_l04Is.m3_ : Array Bool := #[T,T,T,F,F,F,F,F,F,F,F,F,F,F,F,F,F,F,F,F,F,F,F,F,F,F,F,F,F,F,F,F,F,F,F,F,F,F,F,F,F,F]
abbrev spec_l04Is.m4_ : Array Bool := #[T,T,T,T,F,F,F,F,F,F,F,F,F,F,F,F,F,F,F,F,F,F,F,F,F,F,F,F,F,F,F,F,F,F,F,F,F,F,F,F,F,F]
abbrev spec_l04Is.m5_ : Array Bool := #[T,T,T,T,T,F,F,F,F,F,F,F,F,F,F,F,F,F,F,F,F,F,F,F,F,F,F,F,F,F,F,F,F,F,F,F,F,F,F,F,F,F]
abbrev spec_l04Is.m6_ : Array Bool := #[T,T,T,T,T,T,F,F,F,F,F,F,F,F,F,F,F,F,F,F,F,F,F,F,F,F,F,F,F,F,F,F,F,F,F,F,F,F,F,F,F,F]
abbrev spec_l04Is.m7_ : Array Bool := #[T,T,T,T,T,T,T,F,F,F,F,F,F,F,F,F,F,F,F,F,F,F,F,F,F,F,F,F,F,F,F,F,F,F,F,F,F,F,F,F,F,F]
abbrev spec_l04Is.m8_ : Array Bool := #[T,T,T,T,T,T,T,T,F,F,F,F,F,F,F,F,F,F,F,F,F,F,F,F,F,F,F,F,F,F,F,F,F,F,F,F,F,F,F,F,F,F]
abbrev spec_l04Is.m9_ : Array Bool := #[T,T,T,T,T,T,T,T,T,F,F,F,F,F,F,F,F,F,F,F,F,F,F,F,F,F,F,F,F,F,F,F,F,F,F,F,F,F,F,F,F,F]
abbrev spec_l04Is.m10_ : Array Bool := #[T,T,T,T,T,T,T,T,T,T,F,F,F,F,F,F,F,F,F,F,F,F,F,F,F,F,F,F,F,F,F,F,F,F,F,F,F,F,F,F,F,F]
abbrev spec_l04Is.m11_ : Array Bool := #[T,T,T,T,T,T,T,T,T,T,T,F,F,F,F,F,F,F,F,F,F,F,F,F,F,F,F,F,F,F,F,F,F,F,F,F,F,F,F,F,F,F]
abbrev spec_l04Is.m12_ : Array Bool := #[T,T,T,T,T,T,T,T,T,T,T,T,F,F,F,F,F,F,F,F,F,F,F,F,F,F,F,F,F,F,F,F,F,F,F,F,F,F,F,F,F,F]
abbrev spec_l04Is.m13_ : Array Bool := #[T,T,T,T,T,T,T,T,T,T,T,T,T,F,F,F,F,F,F,F,F,F,F,F,F,F,F,F,F,F,F,F,F,F,F,F,F,F,F,F,F,F]
abbrev spec_l04Is.m14_ : Array Bool := #[T,T,T,T,T,T,T,T,T,T,T,T,T,T,F,F,F,F,F,F,F,F,F,F,F,F,F,F,F,F,F,F,F,F,F,F,F,F,F,F,F,F]
abbrev spec_l04Is.m15_ : Array Bool := #[T,T,T,T,T,T,T,T,T,T,T,T,T,T,T,F,F,F,F,F,F,F,F,F,F,F,F,F,F,F,F,F,F,F,F,F,F,F,F,F,F,F]
abbrev spec_l04Is.m16_ : Array Bool := #[T,T,T,T,T,T,T,T,T,T,T,T,T,T,T,T,F,F,F,F,F,F,F,F,F,F,F,F,F,F,F,F,F,F,F,F,F,F,F,F,F,F]
abbrev spec_l04Is.m17_ : Array Bool := #[T,T,T,T,T,T,T,T,T,T,T,T,T,T,T,T,T,F,F,F,F,F,F,F,F,F,F,F,F,F,F,F,F,F,F,F,F,F,F,F,F,F]
abbrev spec_l04Is.m18_ : Array Bool := #[T,T,T,T,T,T,T,T,T,T,T,T,T,T,T,T,T,T,F,F,F,F,F,F,F,F,F,F,F,F,F,F,F,F,F,F,F,F,F,F,F,F]
abbrev spec_l04Is.m19_ : Array Bool := #[T,T,T,T,T,T,T,T,T,T,T,T,T,T,T,T,T,T,T,F,F,F,F,F,F,F,F,F,F,F,F,F,F,F,F,F,F,F,F,F,F,F]
abbrev spec_l04Is.m20_ : Array Bool := #[T,T,T,T,T,T,T,T,T,T,T,T,T,T,T,T,T,T,T,T,F,F,F,F,F,F,F,F,F,F,F,F,F,F,F,F,F,F,F,F,F,F]
abbrev spec_l04Is.m21_ : Array Bool := #[T,T,T,T,T,T,T,T,T,T,T,T,T,T,T,T,T,T,T,T,T,F,F,F,F,F,F,F,F,F,F,F,F,F,F,F,F,F,F,F,F,F]
abbrev spec_l04Is.m22_ : Array Bool := #[T,T,T,T,T,T,T,T,T,T,T,T,T,T,T,T,T,T,T,T,T,T,F,F,F,F,F,F,F,F,F,F,F,F,F,F,F,F,F,F,F,F]
abbrev spec_l04Is.m23_ : Array Bool := #[T,T,T,T,T,T,T,T,T,T,T,T,T,T,T,T,T,T,T,T,T,T,T,F,F,F,F,F,F,F,F,F,F,F,F,F,F,F,F,F,F,F]
abbrev spec_l04Is.m24_ : Array Bool := #[T,T,T,T,T,T,T,T,T,T,T,T,T,T,T,T,T,T,T,T,T,T,T,T,F,F,F,F,F,F,F,F,F,F,F,F,F,F,F,F,F,F]
abbrev spec_l04Is.m25_ : Array Bool := #[T,T,T,T,T,T,T,T,T,T,T,T,T,T,T,T,T,T,T,T,T,T,T,T,T,F,F,F,F,F,F,F,F,F,F,F,F,F,F,F,F,F]
abbrev spec_l04Is.m26_ : Array Bool := #[T,T,T,T,T,T,T,T,T,T,T,T,T,T,T,T,T,T,T,T,T,T,T,T,T,T,F,F,F,F,F,F,F,F,F,F,F,F,F,F,F,F]
abbrev spec_l04Is.m27_ : Array Bool := #[T,T,T,T,T,T,T,T,T,T,T,T,T,T,T,T,T,T,T,T,T,T,T,T,T,T,T,F,F,F,F,F,F,F,F,F,F,F,F,F,F,F]
abbrev spec_l04Is.m28_ : Array Bool := #[T,T,T,T,T,T,T,T,T,T,T,T,T,T,T,T,T,T,T,T,T,T,T,T,T,T,T,T,F,F,F,F,F,F,F,F,F,F,F,F,F,F]
abbrev spec_l04Is.m29_ : Array Bool := #[T,T,T,T,T,T,T,T,T,T,T,T,T,T,T,T,T,T,T,T,T,T,T,T,T,T,T,T,T,F,F,F,F,F,F,F,F,F,F,F,F,F]
abbrev spec_l04Is.m30_ : Array Bool := #[T,T,T,T,T,T,T,T,T,T,T,T,T,T,T,T,T,T,T,T,T,T,T,T,T,T,T,T,T,T,F,F,F,F,F,F,F,F,F,F,F,F]
abbrev spec_l04Is.m31_ : Array Bool := #[T,T,T,T,T,T,T,T,T,T,T,T,T,T,T,T,T,T,T,T,T,T,T,T,T,T,T,T,T,T,T,F,F,F,F,F,F,F,F,F,F,F]
abbrev spec_l04Is.m32_ : Array Bool := #[T,T,T,T,T,T,T,T,T,T,T,T,T,T,T,T,T,T,T,T,T,T,T,T,T,T,T,T,T,T,T,T,F,F,F,F,F,F,F,F,F,F]
abbrev spec_l04Is.m33_ : Array Bool := #[T,T,T,T,T,T,T,T,T,T,T,T,T,T,T,T,T,T,T,T,T,T,T,T,T,T,T,T,T,T,T,T,T,F,F,F,F,F,F,F,F,F]
abbrev spec_l04Is.m34_ : Array Bool := #[T,T,T,T,T,T,T,T,T,T,T,T,T,T,T,T,T,T,T,T,T,T,T,T,T,T,T,T,T,T,T,T,T,T,F,F,F,F,F,F,F,F]
abbrev spec_l04Is.m35_ : Array Bool := #[T,T,T,T,T,T,T,T,T,T,T,T,T,T,T,T,T,T,T,T,T,T,T,T,T,T,T,T,T,T,T,T,T,T,T,T,T,T,T,F,F,F]
abbrev spec_l04Is.m36_ : Array Bool := #[T,T,T,T,T,T,T,T,T,T,T,T,T,T,T,T,T,T,T,T,T,T,T,T,T,T,T,T,T,T,T,T,T,T,T,T,T,T,T,T,F,F]
abbrev spec_l04Is.m37_ : Array Bool := #[T,T,T,T,T,T,T,T,T,T,T,T,T,T,T,T,T,T,T,T,T,T,T,T,T,T,T,T,T,T,T,T,T,T,T,T,T,T,T,T,T,F]
abbrev spec_l04Is.m38_ : Array Bool := #[T,T,T,T,T,T,T,T,T,T,T,T,T,T,T,T,T,T,T,T,T,T,T,T,T,T,T,T,T,T,T,T,T,T,T,T,T,T,T,T,T,T]
abbrev spec_l04Is.m39_ : Array Bool := #[T,T,T,T,T,T,T,T,T,T,T,T,T,T,T,T,T,T,T,T,T,T,T,T,T,T,T,T,T,T,T,T,T,T,T,F,F,F,F,F,F,F]
abbrev spec_l04Is.m40_ : Array Bool := #[T,T,T,T,T,T,T,T,T,T,T,T,T,T,T,T,T,T,T,T,T,T,T,T,T,T,T,T,T,T,T,T,T,T,T,T,F,F,F,F,F,F]
abbrev spec_l04Is.m41_ : Array Bool := #[T,T,T,T,T,T,T,T,T,T,T,T,T,T,T,T,T,T,T,T,T,T,T,T,T,T,T,T,T,T,T,T,T,T,T,T,T,F,F,F,F,F]
abbrev spec_l04Is.m42_ : Array Bool := #[T,T,T,T,T,T,T,T,T,T,T,T,T,T,T,T,T,T,T,T,T,T,T,T,T,T,T,T,T,T,T,T,T,T,T,T,T,T,F,F,F,F]
abbrev spec_l04Is.m43_ : Array Bool := #[F,F,F,F,F,F,F,F,F,F,F,F,F,F,F,F,F,F]
abbrev spec_l04Is.m44_ : Array Bool := #[T,F,F,F,F,F,F,F,F,F,F,F,F,F,F,F,F,F]
abbrev spec_l04Is.m45_ : Array Bool := #[T,T,F,F,F,F,F,F,F,F,F,F,F,F,F,F,F,F]
abbrev spec_l04Is.m46_ : Array Bool := #[T,T,T,F,F,F,F,F,F,F,F,F,F,F,F,F,F,F]
abbrev spec_l04Is.m47_ : Array Bool := #[T,T,T,T,F,F,F,F,F,F,F,F,F,F,F,F,F,F]
abbrev spec_l04Is.m48_ : Array Bool := #[T,T,T,T,T,F,F,F,F,F,F,F,F,F,F,F,F,F]
abbrev spec_l04Is.m49_ : Array Bool := #[T,T,T,T,T,T,F,F,F,F,F,F,F,F,F,F,F,F]
abbrev spec_l04Is.m50_ : Array Bool := #[T,T,T,T,T,T,F,T,F,F,F,F,F,F,F,F,F,F]
abbrev spec_l04Is.m51_ : Array Bool := #[T,T,T,T,T,T,F,T,T,F,F,F,F,F,F,F,F,F]
abbrev spec_l04Is.m52_ : Array Bool := #[T,T,T,T,T,T,F,T,T,F,F,F,T,F,F,F,F,F]
abbrev spec_l04Is.m53_ : Array Bool := #[T,T,T,T,T,T,F,T,T,F,F,F,T,T,F,F,F,F]
abbrev spec_l04Is.m54_ : Array Bool := #[T,T,T,T,T,T,F,T,T,F,F,F,T,T,T,F,F,F]
abbrev spec_l04Is.m55_ : Array Bool := #[T,T,T,T,T,T,T,T,T,F,F,F,T,T,T,F,F,F]
abbrev spec_l04Is.m56_ : Array Bool := #[T,T,T,T,T,T,T,T,T,T,F,F,T,T,T,F,F,F]
abbrev spec_l04Is.m57_ : Array Bool := #[T,T,T,T,T,T,T,T,T,T,T,F,T,T,T,F,F,F]
abbrev spec_l04Is.m58_ : Array Bool := #[T,T,T,T,T,T,T,T,T,T,T,T,T,T,T,F,F,F]
abbrev spec_l04Is.m59_ : Array Bool := #[T,T,T,T,T,T,T,T,T,T,T,T,T,T,T,T,F,F]
abbrev spec_l04Is.m60_ : Array Bool := #[T,T,T,T,T,T,T,T,T,T,T,T,T,T,T,T,T,F]
abbrev spec_l04Is.m61_ : Array Bool := #[T,T,T,T,T,T,T,T,T,T,T,T,T,T,T,T,T,T]
theorem spec_l04Is.p1_ {P : Prop} (h : P := by simp only [Act.put, List.setIfInBounds_toArray, List.set_cons_zero, List.set_cons_succ, i64_w, i32_w]; rfl) : P := h
theorem spec_l04Is.b1_ {P Q : Prop} (q : Q) (h : Q → P := by intro q_; (with_reducible repeat (first | refine blk_drewN ?_ _ | refine blk_drew ?_ | refine blk_alloc ?_ _)); exact q_) : P := h q
theorem spec_l04Is.y1_ {P Q : Prop} (q : Q) (h : Q → P := by intro q_; repeat (first | (with_reducible first | exact q_ | apply below_alloc | apply pw_below_drewN | apply below_drew1) | exact q_)) : P := h q
theorem spec_l04Is.b3_ {w w1 W : World} {g : Nat} {o : Obj} (q : Aside0 (w.heap[g]? = some o)) (hb : Below W.heap.size W w1) (h : w.heap[g]? = some o → W.heap[g]? = some o := by intro q_; (with_reducible repeat (first | refine blk_drewN ?_ _ | refine blk_drew ?_ | refine blk_alloc ?_ _)); exact q_) : Aside0 (w1.heap[g]? = some o) := ⟨blk_below (h q.out) hb⟩
theorem spec_l04Is.c1_ {w : World} {g : Nat} {t : TypeId} {cs : Array Value} (q : Aside0 (w.heap[g]? = some (.cells cs t (0, 0)))) (i : Nat) (v : Value) (h : cs[i]? = some v := by rfl) : w.cell? ⟨g, i, none⟩ = some v := (blk_cell q.out i).trans h
theorem spec_l04Is.f1_ {w : World} {g : Nat} {t : TypeId} {cs : Array Value} (q : Aside0 (w.heap[g]? = some (.cells cs t (0, 0)))) (i : Nat) : w.frozen? ⟨g, i, none⟩ = false := blk_frozen q.out i
theorem spec_l04Is.pu_ {P : Program} {md : Region.Mode} {ops : Array Oper} {Q : Exit → Act → World → Prop} {S : World → Prop} {ds : List Nat} {fuel : Nat} {l : Array Bool} {a : Act} {w : World} {oi : Oper} {a' : Act} {v : Value} (i N : Nat) (l' : Array Bool) (hc : anyB md ops l l' i = true) (h : wpAnyLast P md ops Q S ds fuel l' a' w) (hi : ops[i]? = some oi := by rfl) (hN : oi.dst = some N := by rfl) (hQ : ∀ c a w, Q (.panic c) (a.put oi.dst v) w → Q (.panic c) a w := by exact fun _ _ _ h => h) (hy : Yields P ops oi v a := by exact Or.inl ⟨by rfl, by intro w'; go_simp; with_reducible rfl⟩) (ha : a.put (some N) v = a' := by simp only [Act.put, List.setIfInBounds_toArray, List.set_cons_zero, List.set_cons_succ, i64_w, i32_w]; rfl) : wpAnyLast P md ops Q S ds (fuel + 1) l a w := pure_ l' hi hN hc hQ hy ha h
theorem spec_l04Is.pn_ {P : Program} {md : Region.Mode} {ops : Array Oper} {Q : Exit → Act → World → Prop} {S : World → Prop} {ds : List Nat} {fuel : Nat} {l : Array Bool} {a : Act} {w : World} {oi : Oper} {a' : Act} (i N : Nat) (l' : Array Bool) (hc : anyB md ops l l' i = true) (h : wpAnyLast P md ops Q S ds fuel l' a' w) (hi : ops[i]? = some oi := by rfl) (hN : oi.dst = some N := by rfl) (hQ : ∀ c a w, Q (.panic c) (a.put oi.dst undef) w → Q (.panic c) a w := by exact fun _ _ _ h => h) (hy : Yields P ops oi undef a := by exact Or.inr ⟨by rfl, rfl⟩) (ha : a.put (some N) undef = a' := by simp only [Act.put, List.setIfInBounds_toArray, List.set_cons_zero, List.set_cons_succ, i64_w, i32_w]; rfl) : wpAnyLast P md ops Q S ds (fuel + 1) l a w := pure_ l' hi hN hc hQ hy ha h
mutual
def spec_l04Is.j0 : Nat → Bool → Int → List (S58) → Option (Bool)
  | 0, _, _, _ => none
  | k + 1, x18, x1000, x1001 => if x18 = true then (some false) else (spec_l04Is.l0 k 0 x1000 x1001)
def spec_l04Is.l0 : Nat → Int → Int → List (S58) → Option (Bool)
  | 0, _, _, _ => none
  | k + 1, x3, x1000, x1001 => if x3 < (x1001.length : Int) then (if 0 ≤ x3 then (if (((rd_T58 x1001 x3).f0).size : Int) = 16 then ((spec_l02Id.f ((rd_T58 x1001 x3).f1)).bind fun t123 => (if t123 = true then ((spec_l00In.f ((rd_T58 x1001 x3).f2) 0 1000000000).bind fun t124 => (if t124 = true then ((spec_l04Parcels.f k ((rd_T58 x1001 x3).f3)).bind fun t125 => (if t125 = true then (spec_l04Is.j2 k x3 x1001 (decide ((((rd_T58 x1001 x3).f3).length : Int) > x1000)) x1000 x1001) else (spec_l04Is.j2 k x3 x1001 true x1000 x1001))) else (spec_l04Is.j2 k x3 x1001 true x1000 x1001))) else (spec_l04Is.j2 k x3 x1001 true x1000 x1001))) else (spec_l04Is.j2 k x3 x1001 true x1000 x1001)) else (none)) else (some true)
def spec_l04Is.j2 : Nat → Int → List (S58) → Bool → Int → List (S58) → Option (Bool)
  | 0, _, _, _, _, _ => none
  | k + 1, x3, x23, x75, x1000, x1001 => if x75 = true then (some false) else (if x3 > 0 then (if 0 ≤ (wrap64 (x3 - 1)) then (if (wrap64 (x3 - 1)) < (x1001.length : Int) then (if ((Op.bytesLess (((rd_T58 x1001 (wrap64 (x3 - 1))).f0).toList) (((rd_T58 x23 x3).f0).toList)) = true) then (spec_l04Is.l0 k (wrap64 (x3 + 1)) x1000 x1001) else (some false)) else (none)) else (none)) else (spec_l04Is.l0 k (wrap64 (x3 + 1)) x1000 x1001))
end
def spec_l04Is.f (k : Nat) (a0_0 : Int) (l0_1 : List (S58)) : Option (Bool) := (spec_l00In.f a0_0 1 64).bind fun t120 => (if t120 = true then (spec_l04Is.j0 k (decide ((l0_1.length : Int) > 32)) a0_0 l0_1) else (spec_l04Is.j0 k true a0_0 l0_1))
theorem spec_l04Is.mono_l : ∀ k, (∀ y0 y1 y2, LeO (spec_l04Is.j0 k y0 y1 y2) (spec_l04Is.j0 (k + 1) y0 y1 y2)) ∧ (∀ y0 y1 y2, LeO (spec_l04Is.l0 k y0 y1 y2) (spec_l04Is.l0 (k + 1) y0 y1 y2)) ∧ (∀ y0 y1 y2 y3 y4, LeO (spec_l04Is.j2 k y0 y1 y2 y3 y4) (spec_l04Is.j2 (k + 1) y0 y1 y2 y3 y4))
  | 0 => ⟨fun _ _ _ r h => by simp [spec_l04Is.j0] at h, fun _ _ _ r h => by simp [spec_l04Is.l0] at h, fun _ _ _ _ _ r h => by simp [spec_l04Is.j2] at h⟩
  | k + 1 => by
    obtain ⟨ih0, ih1, ih2⟩ := spec_l04Is.mono_l k
    refine ⟨?_, ?_, ?_⟩
    · intro y0 y1 y2
      unfold spec_l04Is.j0
      repeat' first
      | (with_reducible exact ih0 _ _ _)
      | (with_reducible exact ih1 _ _ _)
      | (with_reducible exact ih2 _ _ _ _ _)
      | (with_reducible exact spec_l04Parcels.mono _ _)
      | (with_reducible exact LeO.refl _)
      | (with_reducible exact LeO.none _)
      | (with_reducible refine LeO.ite ?_ ?_)
      | (with_reducible refine LeO.bind ?_ (fun _ => ?_))
      | exact ih0 _ _ _
      | exact ih1 _ _ _
      | exact ih2 _ _ _ _ _
      | exact spec_l04Parcels.mono _ _
      | exact LeO.none _
      | refine LeO.ite ?_ ?_
      | refine LeO.bind ?_ (fun _ => ?_)
    · intro y0 y1 y2
      unfold spec_l04Is.l0
      repeat' first
      | (with_reducible exact ih0 _ _ _)
      | (with_reducible exact ih1 _ _ _)
      | (with_reducible exact ih2 _ _ _ _ _)
      | (with_reducible exact spec_l04Parcels.mono _ _)
      | (with_reducible exact LeO.refl _)
      | (with_reducible exact LeO.none _)
      | (with_reducible refine LeO.ite ?_ ?_)
      | (with_reducible refine LeO.bind ?_ (fun _ => ?_))
      | exact ih0 _ _ _
      | exact ih1 _ _ _
      | exact ih2 _ _ _ _ _
      | exact spec_l04Parcels.mono _ _
      | exact LeO.none _
      | refine LeO.ite ?_ ?_
      | refine LeO.bind ?_ (fun _ => ?_)
    · intro y0 y1 y2 y3 y4
      unfold spec_l04Is.j2
      repeat' first
      | (with_reducible exact ih0 _ _ _)
      | (with_reducible exact ih1 _ _ _)
      | (with_reducible exact ih2 _ _ _ _ _)
      | (with_reducible exact spec_l04Parcels.mono _ _)
      | (with_reducible exact LeO.refl _)
      | (with_reducible exact LeO.none _)
      | (with_reducible refine LeO.ite ?_ ?_)
      | (with_reducible refine LeO.bind ?_ (fun _ => ?_))
      | exact ih0 _ _ _
      | exact ih1 _ _ _
      | exact ih2 _ _ _ _ _
      | exact spec_l04Parcels.mono _ _
      | exact LeO.none _
      | refine LeO.ite ?_ ?_
      | refine LeO.bind ?_ (fun _ => ?_)
theorem spec_l04Is.mono : ∀ a0 a1 k, LeO (spec_l04Is.f k a0 a1) (spec_l04Is.f (k + 1) a0 a1) := by
  intro a0 a1 k
  obtain ⟨ih0, ih1, ih2⟩ := spec_l04Is.mono_l k
  unfold spec_l04Is.f
  repeat' first
      | (with_reducible exact ih0 _ _ _)
      | (with_reducible exact ih1 _ _ _)
      | (with_reducible exact ih2 _ _ _ _ _)
      | (with_reducible exact spec_l04Parcels.mono _ _)
      | (with_reducible exact LeO.refl _)
      | (with_reducible exact LeO.none _)
      | (with_reducible refine LeO.ite ?_ ?_)
      | (with_reducible refine LeO.bind ?_ (fun _ => ?_))
      | exact ih0 _ _ _
      | exact ih1 _ _ _
      | exact ih2 _ _ _ _ _
      | exact spec_l04Parcels.mono _ _
      | exact LeO.none _
      | refine LeO.ite ?_ ?_
      | refine LeO.bind ?_ (fun _ => ?_)
def spec_l04Is.T7 : Bool × List (List Nat × List Nat) := (true, [([], []), ([0], [0]), ([1], [1]), ([2], [2]), ([3], [3]), ([4], [4]), ([5], [5]), ([6], [6]), ([7, 6], [6, 7]), ([8, 6], [6, 8]), ([9, 6], [6, 9]), ([10, 6, 6], [6, 10]), ([11, 6], [6, 11]), ([6, 12], [6, 12]), ([13, 11], [13]), ([14], [14]), ([15, 14], [14, 15]), ([16, 14], [14, 16]), ([17, 14], [14, 17]), ([18, 14, 14], [14, 18]), ([19, 14], [14, 19]), ([14, 20], [14, 20]), ([21, 19], [21]), ([22], [22]), ([23, 22], [22, 23]), ([24, 22], [22, 24]), ([25, 22], [22, 25]), ([26, 22, 22], [22, 26]), ([27, 22], [22, 27]), ([22, 28], [22, 28]), ([29, 27], [29]), ([30], [30]), ([31, 30], [30, 31]), ([32, 30], [30, 32]), ([33, 30], [30, 33]), ([34, 30], [30, 34]), ([30], [30]), ([36, 30], [30, 36]), ([37, 30], [30, 37]), ([38, 30], [30, 38]), ([35, 39, 30], [30, 35, 39]), ([30, 40], [30, 40])])
def spec_l04Is.B7 : List Nat := [0, 1, 3, 7, 15, 31, 63, 127, 255, 511, 1023, 2047, 4095, 8191, 16383, 32767, 65535, 131071, 262143, 524287, 1048575, 2097151, 4194303, 8388607, 16777215, 33554431, 67108863, 134217727, 268435455, 536870911, 1073741823, 2147483647, 4294967295, 8589934591, 17179869183, 34359738367, 2147483647, 70866960383, 208305913855, 483183820799, 1099511627775, 2199023255551]
theorem spec_l04Is.tab7 : rtab .any (opsOf Try.f87 7) = spec_l04Is.T7 := by kernel_rfl
theorem spec_l04Is.bits7 : waitsOk spec_l04Is.T7.2 spec_l04Is.B7 = true := by kernel_rfl
def spec_l04Is.T9 : Bool × List (List Nat × List Nat) := (true, [([], []), ([0], [0]), ([1], [1]), ([2], [2]), ([3, 2], [2, 3]), ([4, 2], [2, 4]), ([5, 2], [2, 5]), ([2], [2]), ([7, 2], [2, 7]), ([6, 8, 2], [2, 6, 8]), ([9, 2], [2, 9]), ([10, 2], [2, 10]), ([2], [2]), ([12, 2], [2, 12]), ([13, 2], [2, 13]), ([14, 2], [2, 14]), ([11, 15, 2], [2, 11, 15]), ([2, 16], [2, 16])])
def spec_l04Is.B9 : List Nat := [0, 1, 3, 7, 15, 31, 63, 7, 135, 511, 1023, 2047, 7, 4103, 12295, 28679, 65535, 131071]
theorem spec_l04Is.tab9 : rtab .any (opsOf Try.f87 9) = spec_l04Is.T9 := by kernel_rfl
theorem spec_l04Is.bits9 : waitsOk spec_l04Is.T9.2 spec_l04Is.B9 = true := by kernel_rfl
set_option maxHeartbeats 8000000 in
set_option maxRecDepth 100000 in
theorem spec_l04Is.calls (k : Nat) (g0_ : Nat) (a0_0 : Int) (A0_1 : Option Addr) (c0_1 : Nat) (l0_1 : List (S58)) (r : Bool) (w : World) (hbk0 : w.heap[g0_]? = some (.cells #[.int .i64 a0_0, .slice A0_1 l0_1.length c0_1] 54 (0, 0))) (hr0_1 : Kd.C k58 w A0_1 l0_1.length l0_1) (hc0_1 : l0_1.length ≤ c0_1) (h : spec_l04Is.f k a0_0 l0_1 = some r) :
    Calls Try.prog 87 #[.pointer (some ⟨g0_, 0, none⟩)] w fun e w' => e = .returned (.bool r) ∧ Below w.heap.size w w' := by
 have HR0_1 := Aside0.mk hr0_1
 have HC0_1 := Aside0.mk hc0_1
 clear hr0_1 hc0_1
 have BK0 := Aside0.mk hbk0
 clear hbk0
 have HB := Aside0.mk (Below.refl w.heap.size w)
 have H : ((spec_l00In.f a0_0 1 64).bind fun t120 => (if t120 = true then (spec_l04Is.j0 k (decide ((l0_1.length : Int) > 32)) a0_0 l0_1) else (spec_l04Is.j0 k true a0_0 l0_1))) = some r := h
 clear h
 have HC2 := Aside0.mk H
 clear H
 go_enter Try.func87, Try.ntmps87
 go_upto_region 1 with (fail)
 go_cut [18] (fun v18 wc => ∃ (kq : Nat) (x18_1 : Bool), v18 = .bool x18_1 ∧ Aside0 (spec_l04Is.j0 kq x18_1 a0_0 l0_1 = some r) ∧ Aside0 (kq ≤ k) ∧ Aside0 (wc.heap[g0_]? = some (.cells #[.int .i64 a0_0, (.slice A0_1 l0_1.length c0_1)] 54 (0, 0))) ∧ Aside0 (Below w.heap.size w wc))
 case first =>
  skip
  {
 have H := HC2.out
 clear HC2
 replace H := Option.bind_eq_some_iff.mp H
 obtain ⟨t120, A30, H⟩ := H
 replace H : (if t120 = true then (spec_l04Is.j0 k (decide ((l0_1.length : Int) > 32)) a0_0 l0_1) else (spec_l04Is.j0 k true a0_0 l0_1)) = some r := H
 have A3 := Aside0.mk A30
 clear A30
 by_cases c4 : t120 = true
 {
 subst c4
 have H1 : (spec_l04Is.j0 k (decide ((l0_1.length : Int) > 32)) a0_0 l0_1) = some r := by rw [if_pos rfl] at H; exact H
 clear H
 have H := H1
 clear H1
 have H' := Aside0.mk H
 clear H
 have hcz5_0 := c1_ BK0 0 (.int .i64 a0_0)
 have hcz5_1 := c1_ BK0 1 (.slice A0_1 l0_1.length c0_1)
 have hfz5_0 := f1_ BK0 0
 have hfz5_1 := f1_ BK0 1
 go_wp2_with (first | ((with_reducible refine gate_callee (f := 77) rfl ?_); refine goesL_ (some 9) rfl rfl Try.func77 s2_ rfl #[.int .i64 a0_0, .int .i64 1, .int .i64 64] rfl s3_ ?_; (with_reducible refine (spec_l00In.calls a0_0 1 64 true _ A3.out).mono ?_); rintro e w' ⟨rfl, ⟨nd, rfl⟩⟩; refine ⟨_, rfl, ?_⟩))
 go_meet
 case rel => exact ⟨_, (decide ((l0_1.length : Int) > 32)), s1_, H', ⟨by first | omega | exact Nat.le_refl _⟩, ⟨b1_ BK0.out⟩, ⟨by repeat (first | (with_reducible first | exact HB.out | apply below_alloc | apply pw_below_drewN | apply below_drew1) | exact HB.out)⟩⟩}
 {
 replace c4 := Bool.eq_false_iff.mpr c4
 subst c4
 have H1 : (spec_l04Is.j0 k true a0_0 l0_1) = some r := by rw [if_neg (show ¬ (false = true) by decide)] at H; exact H
 clear H
 have H := H1
 clear H1
 have H' := Aside0.mk H
 clear H
 have hcz6_0 := c1_ BK0 0 (.int .i64 a0_0)
 have hcz6_1 := c1_ BK0 1 (.slice A0_1 l0_1.length c0_1)
 have hfz6_0 := f1_ BK0 0
 have hfz6_1 := f1_ BK0 1
 go_wp2_with (first | ((with_reducible refine gate_callee (f := 77) rfl ?_); refine goesL_ (some 9) rfl rfl Try.func77 s2_ rfl #[.int .i64 a0_0, .int .i64 1, .int .i64 64] rfl s3_ ?_; (with_reducible refine (spec_l00In.calls a0_0 1 64 false _ A3.out).mono ?_); rintro e w' ⟨rfl, ⟨nd, rfl⟩⟩; refine ⟨_, rfl, ?_⟩))
 go_meet
 case rel => exact ⟨_, (true), s1_, H', ⟨by first | omega | exact Nat.le_refl _⟩, ⟨b1_ BK0.out⟩, ⟨by repeat (first | (with_reducible first | exact HB.out | apply below_alloc | apply pw_below_drewN | apply below_drew1) | exact HB.out)⟩⟩}}
 case rest =>
  skip
  {
 clear HC2
 try clear p2
 try clear c4
 try clear hcz5_0
 try clear hcz5_1
 try clear hcz6_0
 try clear hcz6_1
 try clear hfz5_0
 try clear hfz5_1
 try clear hfz6_0
 try clear hfz6_1
 obtain ⟨kq, x18_1, rfl, HA, HJ1, BK0, HB⟩ := hcut
 cases kq with
 | zero => exact absurd HA.out (by simp [spec_l04Is.j0])
 | succ kj1 =>
  skip
  {
 have H := HA.out
 clear HA
 simp only [spec_l04Is.j0] at H
 by_cases c7 : x18_1 = true
 {
 subst c7
 have H1 : (some false) = some r := by rw [if_pos rfl] at H; exact H
 clear H
 have H := H1
 clear H1
 obtain rfl := Option.some.inj H
 go_wp2
 go_ret
 exact ⟨by first | rfl | (simp [errW_none, errW_some] <;> rfl) | (simp [*, errW_none, errW_some] <;> rfl), by repeat (first | (with_reducible first | exact HB.out | apply below_alloc | apply pw_below_drewN | apply below_drew1) | exact HB.out)⟩}
 {
 replace c7 := Bool.eq_false_iff.mpr c7
 subst c7
 have H1 : (spec_l04Is.l0 kj1 0 a0_0 l0_1) = some r := by rw [if_neg (show ¬ (false = true) by decide)] at H; exact H
 clear H
 have H := H1
 clear H1
 have H' := Aside0.mk H
 clear H
 go_wp2
 go_loopg [3] kj1 (fun kq v3 w' => ∃ (x3_2 : Int), v3 = .int .i64 x3_2 ∧ Aside0 (spec_l04Is.l0 kq x3_2 a0_0 l0_1 = some r) ∧ Aside0 (kq ≤ kj1) ∧ Aside0 (w'.heap[g0_]? = some (.cells #[.int .i64 a0_0, (.slice A0_1 l0_1.length c0_1)] 54 (0, 0))) ∧ Aside0 (Below w.heap.size w w'))
 case atStart => exact ⟨(0), s1_, H', ⟨Nat.le_refl _⟩, ⟨b1_ BK0.out⟩, ⟨by repeat (first | (with_reducible first | exact HB.out | apply below_alloc | apply pw_below_drewN | apply below_drew1) | exact HB.out)⟩⟩
 case round =>
  skip
  {
 clear H'
 try clear p2
 try clear c4
 try clear c7
 try clear hcz5_0
 try clear hcz5_1
 try clear hcz6_0
 try clear hcz6_1
 try clear hfz5_0
 try clear hfz5_1
 try clear hfz6_0
 try clear hfz6_1
 try clear p2
 obtain ⟨x3_2, rfl, HA, HK2, BK0, HB⟩ := hrel
 cases gk with
 | zero => exact absurd HA.out (by simp [spec_l04Is.l0])
 | succ k2 =>
  skip
  {
 have H := HA.out
 clear HA
 simp only [spec_l04Is.l0] at H
 by_cases c8 : x3_2 < (l0_1.length : Int)
 {
 rw [if_pos c8] at H
 have c8b0 : decide (x3_2 < (l0_1.length : Int)) = true := decide_eq_true c8
 clear c8
 by_cases c9 : 0 ≤ x3_2
 {
 rw [if_pos c9] at H
 have c9b0 : decide (0 ≤ x3_2) = true := decide_eq_true c9
 clear c9
 have HC10 := Aside0.mk H
 clear H
 have hcz11_0 := c1_ BK0 0 (.int .i64 a0_0)
 have hcz11_1 := c1_ BK0 1 (.slice A0_1 l0_1.length c0_1)
 have hfz11_0 := f1_ BK0 0
 have hfz11_1 := f1_ BK0 1
 have p121 : 0 ≤ (x3_2 : Int) := of_decide_eq_true (by first | (with_reducible assumption) | assumption)
 have q121 : x3_2 < (l0_1.length : Int) := of_decide_eq_true (by first | (with_reducible assumption) | assumption)
 have hbd121 := Aside0.mk (And.intro p121 q121)
 obtain ⟨ad121, A121_3, c121_3, e121, hx121_0, hx121_1, hx121_2, hx121_3, hl121_3, hi121_3⟩ := at_T58 HR0_1.out x3_2 p121 q121
 cases e121
 replace hx121_0 := (HB.out.cell (World.block_lt_of_cell? w _ hx121_0)).trans hx121_0
 replace hx121_1 := (HB.out.cell (World.block_lt_of_cell? w _ hx121_1)).trans hx121_1
 replace hx121_2 := (HB.out.cell (World.block_lt_of_cell? w _ hx121_2)).trans hx121_2
 replace hx121_3 := (HB.out.cell (World.block_lt_of_cell? w _ hx121_3)).trans hx121_3
 have HR121_3 := Aside0.mk hi121_3
 have HC121_3 := Aside0.mk hl121_3
 clear hi121_3 hl121_3
 replace p121 := eq_true p121
 replace q121 := eq_true q121
 go_upto_region 7 with (fail)
 go_cut [75] (fun v75 wc => ∃ (kq : Nat) (x75_9 : Bool), v75 = .bool x75_9 ∧ Aside0 (spec_l04Is.j2 kq x3_2 l0_1 x75_9 a0_0 l0_1 = some r) ∧ Aside0 (kq ≤ k2) ∧ Aside0 (wc.heap[g0_]? = some (.cells #[.int .i64 a0_0, (.slice (some ad121) l0_1.length c0_1)] 54 (0, 0))) ∧ Aside0 (Below w.heap.size w wc))
 case first =>
  skip
  {
 have H := HC10.out
 clear HC10
 by_cases c12 : (((rd_T58 l0_1 x3_2).f0).size : Int) = 16
 {
 rw [if_pos c12] at H
 have c12b0 : ((((rd_T58 l0_1 x3_2).f0).size : Int) == 16) = true := beq_iff_eq.mpr c12
 have c12b1 : ((((rd_T58 l0_1 x3_2).f0).size : Int) != 16) = false := bne_eq_false_iff_eq.mpr c12
 clear c12
 (first | rw [c12b0] | (simp only [i64_w, i32_w]; rw [c12b0]) | skip)
 replace H := Option.bind_eq_some_iff.mp H
 obtain ⟨t123, A130, H⟩ := H
 replace H : (if t123 = true then ((spec_l00In.f ((rd_T58 l0_1 x3_2).f2) 0 1000000000).bind fun t124 => (if t124 = true then ((spec_l04Parcels.f k2 ((rd_T58 l0_1 x3_2).f3)).bind fun t125 => (if t125 = true then (spec_l04Is.j2 k2 x3_2 l0_1 (decide ((((rd_T58 l0_1 x3_2).f3).length : Int) > a0_0)) a0_0 l0_1) else (spec_l04Is.j2 k2 x3_2 l0_1 true a0_0 l0_1))) else (spec_l04Is.j2 k2 x3_2 l0_1 true a0_0 l0_1))) else (spec_l04Is.j2 k2 x3_2 l0_1 true a0_0 l0_1)) = some r := H
 have A13 := Aside0.mk A130
 clear A130
 by_cases c14 : t123 = true
 {
 subst c14
 have H1 : ((spec_l00In.f ((rd_T58 l0_1 x3_2).f2) 0 1000000000).bind fun t124 => (if t124 = true then ((spec_l04Parcels.f k2 ((rd_T58 l0_1 x3_2).f3)).bind fun t125 => (if t125 = true then (spec_l04Is.j2 k2 x3_2 l0_1 (decide ((((rd_T58 l0_1 x3_2).f3).length : Int) > a0_0)) a0_0 l0_1) else (spec_l04Is.j2 k2 x3_2 l0_1 true a0_0 l0_1))) else (spec_l04Is.j2 k2 x3_2 l0_1 true a0_0 l0_1))) = some r := by rw [if_pos rfl] at H; exact H
 clear H
 have H := H1
 clear H1
 replace H := Option.bind_eq_some_iff.mp H
 obtain ⟨t124, A150, H⟩ := H
 replace H : (if t124 = true then ((spec_l04Parcels.f k2 ((rd_T58 l0_1 x3_2).f3)).bind fun t125 => (if t125 = true then (spec_l04Is.j2 k2 x3_2 l0_1 (decide ((((rd_T58 l0_1 x3_2).f3).length : Int) > a0_0)) a0_0 l0_1) else (spec_l04Is.j2 k2 x3_2 l0_1 true a0_0 l0_1))) else (spec_l04Is.j2 k2 x3_2 l0_1 true a0_0 l0_1)) = some r := H
 have A15 := Aside0.mk A150
 clear A150
 by_cases c16 : t124 = true
 {
 subst c16
 have H1 : ((spec_l04Parcels.f k2 ((rd_T58 l0_1 x3_2).f3)).bind fun t125 => (if t125 = true then (spec_l04Is.j2 k2 x3_2 l0_1 (decide ((((rd_T58 l0_1 x3_2).f3).length : Int) > a0_0)) a0_0 l0_1) else (spec_l04Is.j2 k2 x3_2 l0_1 true a0_0 l0_1))) = some r := by rw [if_pos rfl] at H; exact H
 clear H
 have H := H1
 clear H1
 replace H := Option.bind_eq_some_iff.mp H
 obtain ⟨t125, A170, H⟩ := H
 replace H : (if t125 = true then (spec_l04Is.j2 k2 x3_2 l0_1 (decide ((((rd_T58 l0_1 x3_2).f3).length : Int) > a0_0)) a0_0 l0_1) else (spec_l04Is.j2 k2 x3_2 l0_1 true a0_0 l0_1)) = some r := H
 have A17 := Aside0.mk A170
 clear A170
 by_cases c18 : t125 = true
 {
 subst c18
 have H1 : (spec_l04Is.j2 k2 x3_2 l0_1 (decide ((((rd_T58 l0_1 x3_2).f3).length : Int) > a0_0)) a0_0 l0_1) = some r := by rw [if_pos rfl] at H; exact H
 clear H
 have H := H1
 clear H1
 have H' := Aside0.mk H
 clear H
 try go_wp2
 replace BK0 := Aside0.mk (blk_drew BK0.out)
 replace HB := Aside0.mk (below_drew1 HB.out)
 have p122 : 0 ≤ (x3_2 : Int) := of_decide_eq_true (by first | (with_reducible assumption) | assumption)
 have q122 : x3_2 < (l0_1.length : Int) := of_decide_eq_true (by first | (with_reducible assumption) | assumption)
 obtain ⟨ad122, A122_3, c122_3, e122, hx122_0, hx122_1, hx122_2, hx122_3, hl122_3, hi122_3⟩ := at_T58 HR0_1.out x3_2 p122 q122
 have hw122_3 := hx122_3
 have hw122_2 := hx122_2
 have hw122_1 := hx122_1
 have hw122_0 := hx122_0
 obtain rfl : ad121 = ad122 := (by injection e122)
 replace hx122_0 := (HB.out.cell (World.block_lt_of_cell? w _ hx122_0)).trans hx122_0
 replace hx122_1 := (HB.out.cell (World.block_lt_of_cell? w _ hx122_1)).trans hx122_1
 replace hx122_2 := (HB.out.cell (World.block_lt_of_cell? w _ hx122_2)).trans hx122_2
 replace hx122_3 := (HB.out.cell (World.block_lt_of_cell? w _ hx122_3)).trans hx122_3
 have HR122_3 := Aside0.mk hi122_3
 have HC122_3 := Aside0.mk hl122_3
 clear hi122_3 hl122_3
 replace p122 := eq_true p122
 replace q122 := eq_true q122
 refine start_ (n := 42) (S := fun w' => w'.cell? ⟨g0_, 0, none⟩ = some (.int .i64 a0_0) ∧ w'.cell? ⟨g0_, 1, none⟩ = some (.slice (some ad121) l0_1.length c0_1) ∧ w'.cell? (ad121.add ((x3_2).toNat * 4)) = some (.string ((rd_T58 l0_1 x3_2).f0)) ∧ w'.cell? ⟨(ad121.add ((x3_2).toNat * 4)).block, (ad121.add ((x3_2).toNat * 4)).off + 1, none⟩ = some (.int .i64 ((rd_T58 l0_1 x3_2).f1)) ∧ w'.cell? ⟨(ad121.add ((x3_2).toNat * 4)).block, (ad121.add ((x3_2).toNat * 4)).off + 2, none⟩ = some (.int .i64 ((rd_T58 l0_1 x3_2).f2)) ∧ w'.cell? ⟨(ad121.add ((x3_2).toNat * 4)).block, (ad121.add ((x3_2).toNat * 4)).off + 3, none⟩ = some (.slice A122_3 ((rd_T58 l0_1 x3_2).f3).length c122_3)) (ds := []) m0_ s2_ rfl rfl ⟨(blk_cell BK0.out 0).trans rfl, (blk_cell BK0.out 1).trans rfl, ((HB.out.cell (World.block_lt_of_cell? w _ hw122_0)).trans hw122_0), ((HB.out.cell (World.block_lt_of_cell? w _ hw122_1)).trans hw122_1), ((HB.out.cell (World.block_lt_of_cell? w _ hw122_2)).trans hw122_2), ((HB.out.cell (World.block_lt_of_cell? w _ hw122_3)).trans hw122_3)⟩ (fun hHeld => ?_); refine with_tabW spec_l04Is.tab7 spec_l04Is.bits7 (fun HT_ HW_ => ?_)
 generalize wr.drew = w19 at BK0 HB HR122_3 hx122_0 hx122_1 hx122_2 hx122_3 hHeld ⊢
 refine pu_ 0 34 m1_ (any_of HT_.out s2_) ?_
 refine pu_ 1 35 m2_ (any_of HT_.out s2_) ?_
 refine pu_ 2 36 m3_ (any_of HT_.out s2_) ?_
 refine take_ (i := 3) (N := some 37) (v := ?_) (a' := ?_) m4_ rfl rfl (take_ofW HT_.out HW_.out s2_) (fun _ _ _ h => h) (Or.inl ⟨by rfl, ?_⟩) hHeld ?_ ?_
 rotate_left
 {
 rintro w' ⟨s0, s1, s2, s3, s4, s5⟩
 go_simp
 with_reducible rfl}
 rotate_left
 · exact p1_
 refine pu_ 4 38 m5_ (any_of HT_.out s2_) ?_
 refine pu_ 5 39 m6_ (any_of HT_.out s2_) ?_
 refine pu_ 6 40 m7_ (any_of HT_.out s2_) ?_
 refine pu_ 7 41 m8_ (any_of HT_.out s2_) ?_
 refine pu_ 8 42 m9_ (any_of HT_.out s2_) ?_
 refine pu_ 9 43 m10_ (any_of HT_.out s2_) ?_
 refine take_ (i := 10) (N := some 44) (v := ?_) (a' := ?_) m11_ rfl rfl (take_ofW HT_.out HW_.out s2_) (fun _ _ _ h => h) (Or.inl ⟨by rfl, ?_⟩) hHeld ?_ ?_
 rotate_left
 {
 rintro w' ⟨s0, s1, s2, s3, s4, s5⟩
 go_simp
 with_reducible rfl}
 rotate_left
 · exact p1_
 refine one_ (i := 11) (N := some 45) m12_ rfl rfl (one_of HT_.out s2_) (by decide) (fun K hK => ?_)
 refine goes_ Try.func40 s2_ rfl #[.int .i64 ((rd_T58 l0_1 x3_2).f1)] (by rfl) rfl rfl s3_ ?_
 with_reducible refine (spec_l02Id.calls ((rd_T58 l0_1 x3_2).f1) true _ A13.out).mono ?_
 rintro e w' ⟨rfl, ⟨nd, rfl⟩⟩
 refine ⟨_, rfl, ?_⟩
 refine hK.out _ _ ⟨(blk_cell BK0.out 0).trans rfl, (blk_cell BK0.out 1).trans rfl, ((HB.out.cell (World.block_lt_of_cell? w _ hw122_0)).trans hw122_0), ((HB.out.cell (World.block_lt_of_cell? w _ hw122_1)).trans hw122_1), ((HB.out.cell (World.block_lt_of_cell? w _ hw122_2)).trans hw122_2), ((HB.out.cell (World.block_lt_of_cell? w _ hw122_3)).trans hw122_3)⟩ (fun hHeld => ?_)
 clear hK K
 refine norm_ (a' := ?_) ?_ ?_
 rotate_left
 {
 show Act.put _ (some 45) _ = _
 simp only [Act.put, List.setIfInBounds_toArray, List.set_cons_zero, List.set_cons_succ, i64_w, i32_w]
 rfl}
 refine pu_ 12 46 m13_ (any_of HT_.out s2_) ?_
 refine pu_ 13 47 m14_ (any_of HT_.out s2_) ?_
 refine pu_ 14 48 m15_ (any_of HT_.out s2_) ?_
 refine pu_ 15 49 m16_ (any_of HT_.out s2_) ?_
 refine pu_ 16 50 m17_ (any_of HT_.out s2_) ?_
 refine pu_ 17 51 m18_ (any_of HT_.out s2_) ?_
 refine take_ (i := 18) (N := some 52) (v := ?_) (a' := ?_) m19_ rfl rfl (take_ofW HT_.out HW_.out s2_) (fun _ _ _ h => h) (Or.inl ⟨by rfl, ?_⟩) hHeld ?_ ?_
 rotate_left
 {
 rintro w' ⟨s0, s1, s2, s3, s4, s5⟩
 go_simp
 with_reducible rfl}
 rotate_left
 · exact p1_
 refine one_ (i := 19) (N := some 53) m20_ rfl rfl (one_of HT_.out s2_) (by decide) (fun K hK => ?_)
 refine goes_ Try.func77 s2_ rfl #[.int .i64 ((rd_T58 l0_1 x3_2).f2), .int .i64 0, .int .i64 1000000000] (by rfl) rfl rfl s3_ ?_
 with_reducible refine (spec_l00In.calls ((rd_T58 l0_1 x3_2).f2) 0 1000000000 true _ A15.out).mono ?_
 rintro e w' ⟨rfl, ⟨nd, rfl⟩⟩
 refine ⟨_, rfl, ?_⟩
 refine hK.out _ _ ⟨(blk_cell BK0.out 0).trans rfl, (blk_cell BK0.out 1).trans rfl, ((HB.out.cell (World.block_lt_of_cell? w _ hw122_0)).trans hw122_0), ((HB.out.cell (World.block_lt_of_cell? w _ hw122_1)).trans hw122_1), ((HB.out.cell (World.block_lt_of_cell? w _ hw122_2)).trans hw122_2), ((HB.out.cell (World.block_lt_of_cell? w _ hw122_3)).trans hw122_3)⟩ (fun hHeld => ?_)
 clear hK K
 refine norm_ (a' := ?_) ?_ ?_
 rotate_left
 {
 show Act.put _ (some 53) _ = _
 simp only [Act.put, List.setIfInBounds_toArray, List.set_cons_zero, List.set_cons_succ, i64_w, i32_w]
 rfl}
 refine pu_ 20 54 m21_ (any_of HT_.out s2_) ?_
 refine pu_ 21 55 m22_ (any_of HT_.out s2_) ?_
 refine pu_ 22 56 m23_ (any_of HT_.out s2_) ?_
 refine pu_ 23 57 m24_ (any_of HT_.out s2_) ?_
 refine pu_ 24 58 m25_ (any_of HT_.out s2_) ?_
 refine pu_ 25 59 m26_ (any_of HT_.out s2_) ?_
 refine take_ (i := 26) (N := some 60) (v := ?_) (a' := ?_) m27_ rfl rfl (take_ofW HT_.out HW_.out s2_) (fun _ _ _ h => h) (Or.inl ⟨by rfl, ?_⟩) hHeld ?_ ?_
 rotate_left
 {
 rintro w' ⟨s0, s1, s2, s3, s4, s5⟩
 go_simp
 with_reducible rfl}
 rotate_left
 · exact p1_
 refine one_ (i := 27) (N := some 61) m28_ rfl rfl (one_of HT_.out s2_) (by decide) (fun K hK => ?_)
 refine goes_ Try.func102 s2_ rfl #[.slice A122_3 ((rd_T58 l0_1 x3_2).f3).length c122_3] (by rfl) rfl rfl s3_ ?_
 with_reducible refine (spec_l04Parcels.calls k2 _ _ ((rd_T58 l0_1 x3_2).f3) true _ ?side1 ?side2 A17.out).mono ?_
 (case side1 => repeat (first | exact (Kd.C_below HR122_3.out (y1_ HB.out)) | (with_reducible refine Kd.C_alloc ?_ _) | (with_reducible refine Kd.C_drewN ?_ _) | (with_reducible refine Kd.C_drew ?_)))
 (case side2 => exact HC122_3.out)
 rintro e w20 ⟨rfl, hb⟩
 refine ⟨_, rfl, ?_⟩
 replace BK0 := b3_ BK0 hb
 replace HB := Aside0.mk (below_step (y1_ HB.out) hb)
 (try clear hb)
 (try clear hb2)
 (try clear hk)
 (try clear hi)
 refine hK.out _ _ ⟨(blk_cell BK0.out 0).trans rfl, (blk_cell BK0.out 1).trans rfl, ((HB.out.cell (World.block_lt_of_cell? w _ hw122_0)).trans hw122_0), ((HB.out.cell (World.block_lt_of_cell? w _ hw122_1)).trans hw122_1), ((HB.out.cell (World.block_lt_of_cell? w _ hw122_2)).trans hw122_2), ((HB.out.cell (World.block_lt_of_cell? w _ hw122_3)).trans hw122_3)⟩ (fun hHeld => ?_)
 clear hK K
 refine norm_ (a' := ?_) ?_ ?_
 rotate_left
 {
 show Act.put _ (some 61) _ = _
 simp only [Act.put, List.setIfInBounds_toArray, List.set_cons_zero, List.set_cons_succ, i64_w, i32_w]
 rfl}
 refine pu_ 28 62 m29_ (any_of HT_.out s2_) ?_
 refine pu_ 29 63 m30_ (any_of HT_.out s2_) ?_
 refine pu_ 30 64 m31_ (any_of HT_.out s2_) ?_
 refine pu_ 31 65 m32_ (any_of HT_.out s2_) ?_
 refine pu_ 32 66 m33_ (any_of HT_.out s2_) ?_
 refine pu_ 33 67 m34_ (any_of HT_.out s2_) ?_
 refine pu_ 36 70 #[T,T,T,T,T,T,T,T,T,T,T,T,T,T,T,T,T,T,T,T,T,T,T,T,T,T,T,T,T,T,T,T,T,T,F,F,T,F,F,F,F,F] (any_of HT_.out s2_) ?_
 refine pu_ 37 71 #[T,T,T,T,T,T,T,T,T,T,T,T,T,T,T,T,T,T,T,T,T,T,T,T,T,T,T,T,T,T,T,T,T,T,F,F,T,T,F,F,F,F] (any_of HT_.out s2_) ?_
 refine pu_ 38 72 #[T,T,T,T,T,T,T,T,T,T,T,T,T,T,T,T,T,T,T,T,T,T,T,T,T,T,T,T,T,T,T,T,T,T,F,F,T,T,T,F,F,F] (any_of HT_.out s2_) ?_
 refine take_ (i := 34) (N := some 68) (v := ?_) (a' := ?_) #[T,T,T,T,T,T,T,T,T,T,T,T,T,T,T,T,T,T,T,T,T,T,T,T,T,T,T,T,T,T,T,T,T,T,T,F,T,T,T,F,F,F] rfl rfl (take_ofW HT_.out HW_.out s2_) (fun _ _ _ h => h) (Or.inl ⟨by rfl, ?_⟩) hHeld ?_ ?_
 rotate_left
 {
 rintro w' ⟨s0, s1, s2, s3, s4, s5⟩
 go_simp
 with_reducible rfl}
 rotate_left
 · exact p1_
 refine pu_ 35 69 m35_ (any_of HT_.out s2_) ?_
 refine take_ (i := 39) (N := some 73) (v := ?_) (a' := ?_) m36_ rfl rfl (take_ofW HT_.out HW_.out s2_) (fun _ _ _ h => h) (Or.inl ⟨by rfl, ?_⟩) hHeld ?_ ?_
 rotate_left
 {
 rintro w' ⟨s0, s1, s2, s3, s4, s5⟩
 go_simp
 with_reducible rfl}
 rotate_left
 · exact p1_
 refine pu_ 40 74 m37_ (any_of HT_.out s2_) ?_
 refine pu_ 41 75 m38_ (any_of HT_.out s2_) ?_
 refine done_ (done_of HT_.out s2_) ?_
 try go_wp2
 go_meet
 case rel => exact ⟨_, (decide ((((rd_T58 l0_1 x3_2).f3).length : Int) > a0_0)), s1_, H', ⟨by have := HJ1.out; have := HK2.out; first | omega | exact Nat.le_refl _⟩, ⟨b1_ BK0.out⟩, ⟨by repeat (first | (with_reducible first | exact HB.out | apply below_alloc | apply pw_below_drewN | apply below_drew1) | exact HB.out)⟩⟩}
 {
 replace c18 := Bool.eq_false_iff.mpr c18
 subst c18
 have H1 : (spec_l04Is.j2 k2 x3_2 l0_1 true a0_0 l0_1) = some r := by rw [if_neg (show ¬ (false = true) by decide)] at H; exact H
 clear H
 have H := H1
 clear H1
 have H' := Aside0.mk H
 clear H
 try go_wp2
 replace BK0 := Aside0.mk (blk_drew BK0.out)
 replace HB := Aside0.mk (below_drew1 HB.out)
 have p122 : 0 ≤ (x3_2 : Int) := of_decide_eq_true (by first | (with_reducible assumption) | assumption)
 have q122 : x3_2 < (l0_1.length : Int) := of_decide_eq_true (by first | (with_reducible assumption) | assumption)
 obtain ⟨ad122, A122_3, c122_3, e122, hx122_0, hx122_1, hx122_2, hx122_3, hl122_3, hi122_3⟩ := at_T58 HR0_1.out x3_2 p122 q122
 have hw122_3 := hx122_3
 have hw122_2 := hx122_2
 have hw122_1 := hx122_1
 have hw122_0 := hx122_0
 obtain rfl : ad121 = ad122 := (by injection e122)
 replace hx122_0 := (HB.out.cell (World.block_lt_of_cell? w _ hx122_0)).trans hx122_0
 replace hx122_1 := (HB.out.cell (World.block_lt_of_cell? w _ hx122_1)).trans hx122_1
 replace hx122_2 := (HB.out.cell (World.block_lt_of_cell? w _ hx122_2)).trans hx122_2
 replace hx122_3 := (HB.out.cell (World.block_lt_of_cell? w _ hx122_3)).trans hx122_3
 have HR122_3 := Aside0.mk hi122_3
 have HC122_3 := Aside0.mk hl122_3
 clear hi122_3 hl122_3
 replace p122 := eq_true p122
 replace q122 := eq_true q122
 refine start_ (n := 42) (S := fun w' => w'.cell? (ad121.add ((x3_2).toNat * 4)) = some (.string ((rd_T58 l0_1 x3_2).f0)) ∧ w'.cell? ⟨(ad121.add ((x3_2).toNat * 4)).block, (ad121.add ((x3_2).toNat * 4)).off + 1, none⟩ = some (.int .i64 ((rd_T58 l0_1 x3_2).f1)) ∧ w'.cell? ⟨(ad121.add ((x3_2).toNat * 4)).block, (ad121.add ((x3_2).toNat * 4)).off + 2, none⟩ = some (.int .i64 ((rd_T58 l0_1 x3_2).f2)) ∧ w'.cell? ⟨(ad121.add ((x3_2).toNat * 4)).block, (ad121.add ((x3_2).toNat * 4)).off + 3, none⟩ = some (.slice A122_3 ((rd_T58 l0_1 x3_2).f3).length c122_3)) (ds := []) m0_ s2_ rfl rfl ⟨((HB.out.cell (World.block_lt_of_cell? w _ hw122_0)).trans hw122_0), ((HB.out.cell (World.block_lt_of_cell? w _ hw122_1)).trans hw122_1), ((HB.out.cell (World.block_lt_of_cell? w _ hw122_2)).trans hw122_2), ((HB.out.cell (World.block_lt_of_cell? w _ hw122_3)).trans hw122_3)⟩ (fun hHeld => ?_); refine with_tabW spec_l04Is.tab7 spec_l04Is.bits7 (fun HT_ HW_ => ?_)
 generalize wr.drew = w21 at BK0 HB HR122_3 hx122_0 hx122_1 hx122_2 hx122_3 hHeld ⊢
 refine pu_ 0 34 m1_ (any_of HT_.out s2_) ?_
 refine pu_ 1 35 m2_ (any_of HT_.out s2_) ?_
 refine pu_ 2 36 m3_ (any_of HT_.out s2_) ?_
 refine take_ (i := 3) (N := some 37) (v := ?_) (a' := ?_) m4_ rfl rfl (take_ofW HT_.out HW_.out s2_) (fun _ _ _ h => h) (Or.inl ⟨by rfl, ?_⟩) hHeld ?_ ?_
 rotate_left
 {
 rintro w' ⟨s0, s1, s2, s3⟩
 go_simp
 with_reducible rfl}
 rotate_left
 · exact p1_
 refine pu_ 4 38 m5_ (any_of HT_.out s2_) ?_
 refine pu_ 5 39 m6_ (any_of HT_.out s2_) ?_
 refine pu_ 6 40 m7_ (any_of HT_.out s2_) ?_
 refine pu_ 7 41 m8_ (any_of HT_.out s2_) ?_
 refine pu_ 8 42 m9_ (any_of HT_.out s2_) ?_
 refine pu_ 9 43 m10_ (any_of HT_.out s2_) ?_
 refine take_ (i := 10) (N := some 44) (v := ?_) (a' := ?_) m11_ rfl rfl (take_ofW HT_.out HW_.out s2_) (fun _ _ _ h => h) (Or.inl ⟨by rfl, ?_⟩) hHeld ?_ ?_
 rotate_left
 {
 rintro w' ⟨s0, s1, s2, s3⟩
 go_simp
 with_reducible rfl}
 rotate_left
 · exact p1_
 refine one_ (i := 11) (N := some 45) m12_ rfl rfl (one_of HT_.out s2_) (by decide) (fun K hK => ?_)
 refine goes_ Try.func40 s2_ rfl #[.int .i64 ((rd_T58 l0_1 x3_2).f1)] (by rfl) rfl rfl s3_ ?_
 with_reducible refine (spec_l02Id.calls ((rd_T58 l0_1 x3_2).f1) true _ A13.out).mono ?_
 rintro e w' ⟨rfl, ⟨nd, rfl⟩⟩
 refine ⟨_, rfl, ?_⟩
 refine hK.out _ _ ⟨((HB.out.cell (World.block_lt_of_cell? w _ hw122_0)).trans hw122_0), ((HB.out.cell (World.block_lt_of_cell? w _ hw122_1)).trans hw122_1), ((HB.out.cell (World.block_lt_of_cell? w _ hw122_2)).trans hw122_2), ((HB.out.cell (World.block_lt_of_cell? w _ hw122_3)).trans hw122_3)⟩ (fun hHeld => ?_)
 clear hK K
 refine norm_ (a' := ?_) ?_ ?_
 rotate_left
 {
 show Act.put _ (some 45) _ = _
 simp only [Act.put, List.setIfInBounds_toArray, List.set_cons_zero, List.set_cons_succ, i64_w, i32_w]
 rfl}
 refine pu_ 12 46 m13_ (any_of HT_.out s2_) ?_
 refine pu_ 13 47 m14_ (any_of HT_.out s2_) ?_
 refine pu_ 14 48 m15_ (any_of HT_.out s2_) ?_
 refine pu_ 15 49 m16_ (any_of HT_.out s2_) ?_
 refine pu_ 16 50 m17_ (any_of HT_.out s2_) ?_
 refine pu_ 17 51 m18_ (any_of HT_.out s2_) ?_
 refine take_ (i := 18) (N := some 52) (v := ?_) (a' := ?_) m19_ rfl rfl (take_ofW HT_.out HW_.out s2_) (fun _ _ _ h => h) (Or.inl ⟨by rfl, ?_⟩) hHeld ?_ ?_
 rotate_left
 {
 rintro w' ⟨s0, s1, s2, s3⟩
 go_simp
 with_reducible rfl}
 rotate_left
 · exact p1_
 refine one_ (i := 19) (N := some 53) m20_ rfl rfl (one_of HT_.out s2_) (by decide) (fun K hK => ?_)
 refine goes_ Try.func77 s2_ rfl #[.int .i64 ((rd_T58 l0_1 x3_2).f2), .int .i64 0, .int .i64 1000000000] (by rfl) rfl rfl s3_ ?_
 with_reducible refine (spec_l00In.calls ((rd_T58 l0_1 x3_2).f2) 0 1000000000 true _ A15.out).mono ?_
 rintro e w' ⟨rfl, ⟨nd, rfl⟩⟩
 refine ⟨_, rfl, ?_⟩
 refine hK.out _ _ ⟨((HB.out.cell (World.block_lt_of_cell? w _ hw122_0)).trans hw122_0), ((HB.out.cell (World.block_lt_of_cell? w _ hw122_1)).trans hw122_1), ((HB.out.cell (World.block_lt_of_cell? w _ hw122_2)).trans hw122_2), ((HB.out.cell (World.block_lt_of_cell? w _ hw122_3)).trans hw122_3)⟩ (fun hHeld => ?_)
 clear hK K
 refine norm_ (a' := ?_) ?_ ?_
 rotate_left
 {
 show Act.put _ (some 53) _ = _
 simp only [Act.put, List.setIfInBounds_toArray, List.set_cons_zero, List.set_cons_succ, i64_w, i32_w]
 rfl}
 refine pu_ 20 54 m21_ (any_of HT_.out s2_) ?_
 refine pu_ 21 55 m22_ (any_of HT_.out s2_) ?_
 refine pu_ 22 56 m23_ (any_of HT_.out s2_) ?_
 refine pu_ 23 57 m24_ (any_of HT_.out s2_) ?_
 refine pu_ 24 58 m25_ (any_of HT_.out s2_) ?_
 refine pu_ 25 59 m26_ (any_of HT_.out s2_) ?_
 refine take_ (i := 26) (N := some 60) (v := ?_) (a' := ?_) m27_ rfl rfl (take_ofW HT_.out HW_.out s2_) (fun _ _ _ h => h) (Or.inl ⟨by rfl, ?_⟩) hHeld ?_ ?_
 rotate_left
 {
 rintro w' ⟨s0, s1, s2, s3⟩
 go_simp
 with_reducible rfl}
 rotate_left
 · exact p1_
 refine one_ (i := 27) (N := some 61) m28_ rfl rfl (one_of HT_.out s2_) (by decide) (fun K hK => ?_)
 refine goes_ Try.func102 s2_ rfl #[.slice A122_3 ((rd_T58 l0_1 x3_2).f3).length c122_3] (by rfl) rfl rfl s3_ ?_
 with_reducible refine (spec_l04Parcels.calls k2 _ _ ((rd_T58 l0_1 x3_2).f3) false _ ?side1 ?side2 A17.out).mono ?_
 (case side1 => repeat (first | exact (Kd.C_below HR122_3.out (y1_ HB.out)) | (with_reducible refine Kd.C_alloc ?_ _) | (with_reducible refine Kd.C_drewN ?_ _) | (with_reducible refine Kd.C_drew ?_)))
 (case side2 => exact HC122_3.out)
 rintro e w22 ⟨rfl, hb⟩
 refine ⟨_, rfl, ?_⟩
 replace BK0 := b3_ BK0 hb
 replace HB := Aside0.mk (below_step (y1_ HB.out) hb)
 (try clear hb)
 (try clear hb2)
 (try clear hk)
 (try clear hi)
 refine hK.out _ _ ⟨((HB.out.cell (World.block_lt_of_cell? w _ hw122_0)).trans hw122_0), ((HB.out.cell (World.block_lt_of_cell? w _ hw122_1)).trans hw122_1), ((HB.out.cell (World.block_lt_of_cell? w _ hw122_2)).trans hw122_2), ((HB.out.cell (World.block_lt_of_cell? w _ hw122_3)).trans hw122_3)⟩ (fun hHeld => ?_)
 clear hK K
 refine norm_ (a' := ?_) ?_ ?_
 rotate_left
 {
 show Act.put _ (some 61) _ = _
 simp only [Act.put, List.setIfInBounds_toArray, List.set_cons_zero, List.set_cons_succ, i64_w, i32_w]
 rfl}
 refine pu_ 28 62 m29_ (any_of HT_.out s2_) ?_
 refine pu_ 29 63 m30_ (any_of HT_.out s2_) ?_
 refine pu_ 30 64 m31_ (any_of HT_.out s2_) ?_
 refine pn_ 31 65 m32_ (any_of HT_.out s2_) ?_
 refine pn_ 32 66 m33_ (any_of HT_.out s2_) ?_
 refine pn_ 33 67 m34_ (any_of HT_.out s2_) ?_
 refine pn_ 34 68 m39_ (any_of HT_.out s2_) ?_
 refine pn_ 35 69 m40_ (any_of HT_.out s2_) ?_
 refine pn_ 36 70 m41_ (any_of HT_.out s2_) ?_
 refine pn_ 37 71 m42_ (any_of HT_.out s2_) ?_
 refine pn_ 38 72 m35_ (any_of HT_.out s2_) ?_
 refine pn_ 39 73 m36_ (any_of HT_.out s2_) ?_
 refine pn_ 40 74 m37_ (any_of HT_.out s2_) ?_
 refine pu_ 41 75 m38_ (any_of HT_.out s2_) ?_
 refine done_ (done_of HT_.out s2_) ?_
 try go_wp2
 go_meet
 case rel => exact ⟨_, (true), s1_, H', ⟨by have := HJ1.out; have := HK2.out; first | omega | exact Nat.le_refl _⟩, ⟨b1_ BK0.out⟩, ⟨by repeat (first | (with_reducible first | exact HB.out | apply below_alloc | apply pw_below_drewN | apply below_drew1) | exact HB.out)⟩⟩}}
 {
 replace c16 := Bool.eq_false_iff.mpr c16
 subst c16
 have H1 : (spec_l04Is.j2 k2 x3_2 l0_1 true a0_0 l0_1) = some r := by rw [if_neg (show ¬ (false = true) by decide)] at H; exact H
 clear H
 have H := H1
 clear H1
 have H' := Aside0.mk H
 clear H
 try go_wp2
 replace BK0 := Aside0.mk (blk_drew BK0.out)
 replace HB := Aside0.mk (below_drew1 HB.out)
 have p122 : 0 ≤ (x3_2 : Int) := of_decide_eq_true (by first | (with_reducible assumption) | assumption)
 have q122 : x3_2 < (l0_1.length : Int) := of_decide_eq_true (by first | (with_reducible assumption) | assumption)
 obtain ⟨ad122, A122_3, c122_3, e122, hx122_0, hx122_1, hx122_2, hx122_3, hl122_3, hi122_3⟩ := at_T58 HR0_1.out x3_2 p122 q122
 have hw122_3 := hx122_3
 have hw122_2 := hx122_2
 have hw122_1 := hx122_1
 have hw122_0 := hx122_0
 obtain rfl : ad121 = ad122 := (by injection e122)
 replace hx122_0 := (HB.out.cell (World.block_lt_of_cell? w _ hx122_0)).trans hx122_0
 replace hx122_1 := (HB.out.cell (World.block_lt_of_cell? w _ hx122_1)).trans hx122_1
 replace hx122_2 := (HB.out.cell (World.block_lt_of_cell? w _ hx122_2)).trans hx122_2
 replace hx122_3 := (HB.out.cell (World.block_lt_of_cell? w _ hx122_3)).trans hx122_3
 have HR122_3 := Aside0.mk hi122_3
 have HC122_3 := Aside0.mk hl122_3
 clear hi122_3 hl122_3
 replace p122 := eq_true p122
 replace q122 := eq_true q122
 refine start_ (n := 42) (S := fun w' => w'.cell? (ad121.add ((x3_2).toNat * 4)) = some (.string ((rd_T58 l0_1 x3_2).f0)) ∧ w'.cell? ⟨(ad121.add ((x3_2).toNat * 4)).block, (ad121.add ((x3_2).toNat * 4)).off + 1, none⟩ = some (.int .i64 ((rd_T58 l0_1 x3_2).f1)) ∧ w'.cell? ⟨(ad121.add ((x3_2).toNat * 4)).block, (ad121.add ((x3_2).toNat * 4)).off + 2, none⟩ = some (.int .i64 ((rd_T58 l0_1 x3_2).f2)) ∧ w'.cell? ⟨(ad121.add ((x3_2).toNat * 4)).block, (ad121.add ((x3_2).toNat * 4)).off + 3, none⟩ = some (.slice A122_3 ((rd_T58 l0_1 x3_2).f3).length c122_3)) (ds := []) m0_ s2_ rfl rfl ⟨((HB.out.cell (World.block_lt_of_cell? w _ hw122_0)).trans hw122_0), ((HB.out.cell (World.block_lt_of_cell? w _ hw122_1)).trans hw122_1), ((HB.out.cell (World.block_lt_of_cell? w _ hw122_2)).trans hw122_2), ((HB.out.cell (World.block_lt_of_cell? w _ hw122_3)).trans hw122_3)⟩ (fun hHeld => ?_); refine with_tabW spec_l04Is.tab7 spec_l04Is.bits7 (fun HT_ HW_ => ?_)
 generalize wr.drew = w23 at BK0 HB HR122_3 hx122_0 hx122_1 hx122_2 hx122_3 hHeld ⊢
 refine pu_ 0 34 m1_ (any_of HT_.out s2_) ?_
 refine pu_ 1 35 m2_ (any_of HT_.out s2_) ?_
 refine pu_ 2 36 m3_ (any_of HT_.out s2_) ?_
 refine take_ (i := 3) (N := some 37) (v := ?_) (a' := ?_) m4_ rfl rfl (take_ofW HT_.out HW_.out s2_) (fun _ _ _ h => h) (Or.inl ⟨by rfl, ?_⟩) hHeld ?_ ?_
 rotate_left
 {
 rintro w' ⟨s0, s1, s2, s3⟩
 go_simp
 with_reducible rfl}
 rotate_left
 · exact p1_
 refine pu_ 4 38 m5_ (any_of HT_.out s2_) ?_
 refine pu_ 5 39 m6_ (any_of HT_.out s2_) ?_
 refine pu_ 6 40 m7_ (any_of HT_.out s2_) ?_
 refine pu_ 7 41 m8_ (any_of HT_.out s2_) ?_
 refine pu_ 8 42 m9_ (any_of HT_.out s2_) ?_
 refine pu_ 9 43 m10_ (any_of HT_.out s2_) ?_
 refine take_ (i := 10) (N := some 44) (v := ?_) (a' := ?_) m11_ rfl rfl (take_ofW HT_.out HW_.out s2_) (fun _ _ _ h => h) (Or.inl ⟨by rfl, ?_⟩) hHeld ?_ ?_
 rotate_left
 {
 rintro w' ⟨s0, s1, s2, s3⟩
 go_simp
 with_reducible rfl}
 rotate_left
 · exact p1_
 refine one_ (i := 11) (N := some 45) m12_ rfl rfl (one_of HT_.out s2_) (by decide) (fun K hK => ?_)
 refine goes_ Try.func40 s2_ rfl #[.int .i64 ((rd_T58 l0_1 x3_2).f1)] (by rfl) rfl rfl s3_ ?_
 with_reducible refine (spec_l02Id.calls ((rd_T58 l0_1 x3_2).f1) true _ A13.out).mono ?_
 rintro e w' ⟨rfl, ⟨nd, rfl⟩⟩
 refine ⟨_, rfl, ?_⟩
 refine hK.out _ _ ⟨((HB.out.cell (World.block_lt_of_cell? w _ hw122_0)).trans hw122_0), ((HB.out.cell (World.block_lt_of_cell? w _ hw122_1)).trans hw122_1), ((HB.out.cell (World.block_lt_of_cell? w _ hw122_2)).trans hw122_2), ((HB.out.cell (World.block_lt_of_cell? w _ hw122_3)).trans hw122_3)⟩ (fun hHeld => ?_)
 clear hK K
 refine norm_ (a' := ?_) ?_ ?_
 rotate_left
 {
 show Act.put _ (some 45) _ = _
 simp only [Act.put, List.setIfInBounds_toArray, List.set_cons_zero, List.set_cons_succ, i64_w, i32_w]
 rfl}
 refine pu_ 12 46 m13_ (any_of HT_.out s2_) ?_
 refine pu_ 13 47 m14_ (any_of HT_.out s2_) ?_
 refine pu_ 14 48 m15_ (any_of HT_.out s2_) ?_
 refine pu_ 15 49 m16_ (any_of HT_.out s2_) ?_
 refine pu_ 16 50 m17_ (any_of HT_.out s2_) ?_
 refine pu_ 17 51 m18_ (any_of HT_.out s2_) ?_
 refine take_ (i := 18) (N := some 52) (v := ?_) (a' := ?_) m19_ rfl rfl (take_ofW HT_.out HW_.out s2_) (fun _ _ _ h => h) (Or.inl ⟨by rfl, ?_⟩) hHeld ?_ ?_
 rotate_left
 {
 rintro w' ⟨s0, s1, s2, s3⟩
 go_simp
 with_reducible rfl}
 rotate_left
 · exact p1_
 refine one_ (i := 19) (N := some 53) m20_ rfl rfl (one_of HT_.out s2_) (by decide) (fun K hK => ?_)
 refine goes_ Try.func77 s2_ rfl #[.int .i64 ((rd_T58 l0_1 x3_2).f2), .int .i64 0, .int .i64 1000000000] (by rfl) rfl rfl s3_ ?_
 with_reducible refine (spec_l00In.calls ((rd_T58 l0_1 x3_2).f2) 0 1000000000 false _ A15.out).mono ?_
 rintro e w' ⟨rfl, ⟨nd, rfl⟩⟩
 refine ⟨_, rfl, ?_⟩
 refine hK.out _ _ ⟨((HB.out.cell (World.block_lt_of_cell? w _ hw122_0)).trans hw122_0), ((HB.out.cell (World.block_lt_of_cell? w _ hw122_1)).trans hw122_1), ((HB.out.cell (World.block_lt_of_cell? w _ hw122_2)).trans hw122_2), ((HB.out.cell (World.block_lt_of_cell? w _ hw122_3)).trans hw122_3)⟩ (fun hHeld => ?_)
 clear hK K
 refine norm_ (a' := ?_) ?_ ?_
 rotate_left
 {
 show Act.put _ (some 53) _ = _
 simp only [Act.put, List.setIfInBounds_toArray, List.set_cons_zero, List.set_cons_succ, i64_w, i32_w]
 rfl}
 refine pu_ 20 54 m21_ (any_of HT_.out s2_) ?_
 refine pu_ 21 55 m22_ (any_of HT_.out s2_) ?_
 refine pu_ 22 56 m23_ (any_of HT_.out s2_) ?_
 refine pn_ 23 57 m24_ (any_of HT_.out s2_) ?_
 refine pn_ 24 58 m25_ (any_of HT_.out s2_) ?_
 refine pn_ 25 59 m26_ (any_of HT_.out s2_) ?_
 refine pn_ 26 60 m27_ (any_of HT_.out s2_) ?_
 refine pn_ 27 61 m28_ (any_of HT_.out s2_) ?_
 refine pn_ 28 62 m29_ (any_of HT_.out s2_) ?_
 refine pu_ 29 63 m30_ (any_of HT_.out s2_) ?_
 refine pu_ 30 64 m31_ (any_of HT_.out s2_) ?_
 refine pn_ 31 65 m32_ (any_of HT_.out s2_) ?_
 refine pn_ 32 66 m33_ (any_of HT_.out s2_) ?_
 refine pn_ 33 67 m34_ (any_of HT_.out s2_) ?_
 refine pn_ 34 68 m39_ (any_of HT_.out s2_) ?_
 refine pn_ 35 69 m40_ (any_of HT_.out s2_) ?_
 refine pn_ 36 70 m41_ (any_of HT_.out s2_) ?_
 refine pn_ 37 71 m42_ (any_of HT_.out s2_) ?_
 refine pn_ 38 72 m35_ (any_of HT_.out s2_) ?_
 refine pn_ 39 73 m36_ (any_of HT_.out s2_) ?_
 refine pn_ 40 74 m37_ (any_of HT_.out s2_) ?_
 refine pu_ 41 75 m38_ (any_of HT_.out s2_) ?_
 refine done_ (done_of HT_.out s2_) ?_
 try go_wp2
 go_meet
 case rel => exact ⟨_, (true), s1_, H', ⟨by have := HJ1.out; have := HK2.out; first | omega | exact Nat.le_refl _⟩, ⟨b1_ BK0.out⟩, ⟨by repeat (first | (with_reducible first | exact HB.out | apply below_alloc | apply pw_below_drewN | apply below_drew1) | exact HB.out)⟩⟩}}
 {
 replace c14 := Bool.eq_false_iff.mpr c14
 subst c14
 have H1 : (spec_l04Is.j2 k2 x3_2 l0_1 true a0_0 l0_1) = some r := by rw [if_neg (show ¬ (false = true) by decide)] at H; exact H
 clear H
 have H := H1
 clear H1
 have H' := Aside0.mk H
 clear H
 try go_wp2
 replace BK0 := Aside0.mk (blk_drew BK0.out)
 replace HB := Aside0.mk (below_drew1 HB.out)
 have p122 : 0 ≤ (x3_2 : Int) := of_decide_eq_true (by first | (with_reducible assumption) | assumption)
 have q122 : x3_2 < (l0_1.length : Int) := of_decide_eq_true (by first | (with_reducible assumption) | assumption)
 obtain ⟨ad122, A122_3, c122_3, e122, hx122_0, hx122_1, hx122_2, hx122_3, hl122_3, hi122_3⟩ := at_T58 HR0_1.out x3_2 p122 q122
 have hw122_3 := hx122_3
 have hw122_2 := hx122_2
 have hw122_1 := hx122_1
 have hw122_0 := hx122_0
 obtain rfl : ad121 = ad122 := (by injection e122)
 replace hx122_0 := (HB.out.cell (World.block_lt_of_cell? w _ hx122_0)).trans hx122_0
 replace hx122_1 := (HB.out.cell (World.block_lt_of_cell? w _ hx122_1)).trans hx122_1
 replace hx122_2 := (HB.out.cell (World.block_lt_of_cell? w _ hx122_2)).trans hx122_2
 replace hx122_3 := (HB.out.cell (World.block_lt_of_cell? w _ hx122_3)).trans hx122_3
 have HR122_3 := Aside0.mk hi122_3
 have HC122_3 := Aside0.mk hl122_3
 clear hi122_3 hl122_3
 replace p122 := eq_true p122
 replace q122 := eq_true q122
 refine start_ (n := 42) (S := fun w' => w'.cell? (ad121.add ((x3_2).toNat * 4)) = some (.string ((rd_T58 l0_1 x3_2).f0)) ∧ w'.cell? ⟨(ad121.add ((x3_2).toNat * 4)).block, (ad121.add ((x3_2).toNat * 4)).off + 1, none⟩ = some (.int .i64 ((rd_T58 l0_1 x3_2).f1)) ∧ w'.cell? ⟨(ad121.add ((x3_2).toNat * 4)).block, (ad121.add ((x3_2).toNat * 4)).off + 2, none⟩ = some (.int .i64 ((rd_T58 l0_1 x3_2).f2)) ∧ w'.cell? ⟨(ad121.add ((x3_2).toNat * 4)).block, (ad121.add ((x3_2).toNat * 4)).off + 3, none⟩ = some (.slice A122_3 ((rd_T58 l0_1 x3_2).f3).length c122_3)) (ds := []) m0_ s2_ rfl rfl ⟨((HB.out.cell (World.block_lt_of_cell? w _ hw122_0)).trans hw122_0), ((HB.out.cell (World.block_lt_of_cell? w _ hw122_1)).trans hw122_1), ((HB.out.cell (World.block_lt_of_cell? w _ hw122_2)).trans hw122_2), ((HB.out.cell (World.block_lt_of_cell? w _ hw122_3)).trans hw122_3)⟩ (fun hHeld => ?_); refine with_tabW spec_l04Is.tab7 spec_l04Is.bits7 (fun HT_ HW_ => ?_)
 generalize wr.drew = w24 at BK0 HB HR122_3 hx122_0 hx122_1 hx122_2 hx122_3 hHeld ⊢
 refine pu_ 0 34 m1_ (any_of HT_.out s2_) ?_
 refine pu_ 1 35 m2_ (any_of HT_.out s2_) ?_
 refine pu_ 2 36 m3_ (any_of HT_.out s2_) ?_
 refine take_ (i := 3) (N := some 37) (v := ?_) (a' := ?_) m4_ rfl rfl (take_ofW HT_.out HW_.out s2_) (fun _ _ _ h => h) (Or.inl ⟨by rfl, ?_⟩) hHeld ?_ ?_
 rotate_left
 {
 rintro w' ⟨s0, s1, s2, s3⟩
 go_simp
 with_reducible rfl}
 rotate_left
 · exact p1_
 refine pu_ 4 38 m5_ (any_of HT_.out s2_) ?_
 refine pu_ 5 39 m6_ (any_of HT_.out s2_) ?_
 refine pu_ 6 40 m7_ (any_of HT_.out s2_) ?_
 refine pu_ 7 41 m8_ (any_of HT_.out s2_) ?_
 refine pu_ 8 42 m9_ (any_of HT_.out s2_) ?_
 refine pu_ 9 43 m10_ (any_of HT_.out s2_) ?_
 refine take_ (i := 10) (N := some 44) (v := ?_) (a' := ?_) m11_ rfl rfl (take_ofW HT_.out HW_.out s2_) (fun _ _ _ h => h) (Or.inl ⟨by rfl, ?_⟩) hHeld ?_ ?_
 rotate_left
 {
 rintro w' ⟨s0, s1, s2, s3⟩
 go_simp
 with_reducible rfl}
 rotate_left
 · exact p1_
 refine one_ (i := 11) (N := some 45) m12_ rfl rfl (one_of HT_.out s2_) (by decide) (fun K hK => ?_)
 refine goes_ Try.func40 s2_ rfl #[.int .i64 ((rd_T58 l0_1 x3_2).f1)] (by rfl) rfl rfl s3_ ?_
 with_reducible refine (spec_l02Id.calls ((rd_T58 l0_1 x3_2).f1) false _ A13.out).mono ?_
 rintro e w' ⟨rfl, ⟨nd, rfl⟩⟩
 refine ⟨_, rfl, ?_⟩
 refine hK.out _ _ ⟨((HB.out.cell (World.block_lt_of_cell? w _ hw122_0)).trans hw122_0), ((HB.out.cell (World.block_lt_of_cell? w _ hw122_1)).trans hw122_1), ((HB.out.cell (World.block_lt_of_cell? w _ hw122_2)).trans hw122_2), ((HB.out.cell (World.block_lt_of_cell? w _ hw122_3)).trans hw122_3)⟩ (fun hHeld => ?_)
 clear hK K
 refine norm_ (a' := ?_) ?_ ?_
 rotate_left
 {
 show Act.put _ (some 45) _ = _
 simp only [Act.put, List.setIfInBounds_toArray, List.set_cons_zero, List.set_cons_succ, i64_w, i32_w]
 rfl}
 refine pu_ 12 46 m13_ (any_of HT_.out s2_) ?_
 refine pu_ 13 47 m14_ (any_of HT_.out s2_) ?_
 refine pu_ 14 48 m15_ (any_of HT_.out s2_) ?_
 refine pn_ 15 49 m16_ (any_of HT_.out s2_) ?_
 refine pn_ 16 50 m17_ (any_of HT_.out s2_) ?_
 refine pn_ 17 51 m18_ (any_of HT_.out s2_) ?_
 refine pn_ 18 52 m19_ (any_of HT_.out s2_) ?_
 refine pn_ 19 53 m20_ (any_of HT_.out s2_) ?_
 refine pn_ 20 54 m21_ (any_of HT_.out s2_) ?_
 refine pu_ 21 55 m22_ (any_of HT_.out s2_) ?_
 refine pu_ 22 56 m23_ (any_of HT_.out s2_) ?_
 refine pn_ 23 57 m24_ (any_of HT_.out s2_) ?_
 refine pn_ 24 58 m25_ (any_of HT_.out s2_) ?_
 refine pn_ 25 59 m26_ (any_of HT_.out s2_) ?_
 refine pn_ 26 60 m27_ (any_of HT_.out s2_) ?_
 refine pn_ 27 61 m28_ (any_of HT_.out s2_) ?_
 refine pn_ 28 62 m29_ (any_of HT_.out s2_) ?_
 refine pu_ 29 63 m30_ (any_of HT_.out s2_) ?_
 refine pu_ 30 64 m31_ (any_of HT_.out s2_) ?_
 refine pn_ 31 65 m32_ (any_of HT_.out s2_) ?_
 refine pn_ 32 66 m33_ (any_of HT_.out s2_) ?_
 refine pn_ 33 67 m34_ (any_of HT_.out s2_) ?_
 refine pn_ 34 68 m39_ (any_of HT_.out s2_) ?_
 refine pn_ 35 69 m40_ (any_of HT_.out s2_) ?_
 refine pn_ 36 70 m41_ (any_of HT_.out s2_) ?_
 refine pn_ 37 71 m42_ (any_of HT_.out s2_) ?_
 refine pn_ 38 72 m35_ (any_of HT_.out s2_) ?_
 refine pn_ 39 73 m36_ (any_of HT_.out s2_) ?_
 refine pn_ 40 74 m37_ (any_of HT_.out s2_) ?_
 refine pu_ 41 75 m38_ (any_of HT_.out s2_) ?_
 refine done_ (done_of HT_.out s2_) ?_
 try go_wp2
 go_meet
 case rel => exact ⟨_, (true), s1_, H', ⟨by have := HJ1.out; have := HK2.out; first | omega | exact Nat.le_refl _⟩, ⟨b1_ BK0.out⟩, ⟨by repeat (first | (with_reducible first | exact HB.out | apply below_alloc | apply pw_below_drewN | apply below_drew1) | exact HB.out)⟩⟩}}
 {
 rw [if_neg c12] at H
 have c12b0 : ((((rd_T58 l0_1 x3_2).f0).size : Int) == 16) = false := beq_eq_false_iff_ne.mpr c12
 have c12b1 : ((((rd_T58 l0_1 x3_2).f0).size : Int) != 16) = true := bne_iff_ne.mpr c12
 (first | rw [c12b0] | (simp only [i64_w, i32_w]; rw [c12b0]) | skip)
 have H' := Aside0.mk H
 clear H
 try go_wp2
 replace BK0 := Aside0.mk (blk_drew BK0.out)
 replace HB := Aside0.mk (below_drew1 HB.out)
 have p122 : 0 ≤ (x3_2 : Int) := of_decide_eq_true (by first | (with_reducible assumption) | assumption)
 have q122 : x3_2 < (l0_1.length : Int) := of_decide_eq_true (by first | (with_reducible assumption) | assumption)
 obtain ⟨ad122, A122_3, c122_3, e122, hx122_0, hx122_1, hx122_2, hx122_3, hl122_3, hi122_3⟩ := at_T58 HR0_1.out x3_2 p122 q122
 have hw122_3 := hx122_3
 have hw122_2 := hx122_2
 have hw122_1 := hx122_1
 have hw122_0 := hx122_0
 obtain rfl : ad121 = ad122 := (by injection e122)
 replace hx122_0 := (HB.out.cell (World.block_lt_of_cell? w _ hx122_0)).trans hx122_0
 replace hx122_1 := (HB.out.cell (World.block_lt_of_cell? w _ hx122_1)).trans hx122_1
 replace hx122_2 := (HB.out.cell (World.block_lt_of_cell? w _ hx122_2)).trans hx122_2
 replace hx122_3 := (HB.out.cell (World.block_lt_of_cell? w _ hx122_3)).trans hx122_3
 have HR122_3 := Aside0.mk hi122_3
 have HC122_3 := Aside0.mk hl122_3
 clear hi122_3 hl122_3
 replace p122 := eq_true p122
 replace q122 := eq_true q122
 refine start_ (n := 42) (S := fun w' => w'.cell? (ad121.add ((x3_2).toNat * 4)) = some (.string ((rd_T58 l0_1 x3_2).f0)) ∧ w'.cell? ⟨(ad121.add ((x3_2).toNat * 4)).block, (ad121.add ((x3_2).toNat * 4)).off + 1, none⟩ = some (.int .i64 ((rd_T58 l0_1 x3_2).f1)) ∧ w'.cell? ⟨(ad121.add ((x3_2).toNat * 4)).block, (ad121.add ((x3_2).toNat * 4)).off + 2, none⟩ = some (.int .i64 ((rd_T58 l0_1 x3_2).f2)) ∧ w'.cell? ⟨(ad121.add ((x3_2).toNat * 4)).block, (ad121.add ((x3_2).toNat * 4)).off + 3, none⟩ = some (.slice A122_3 ((rd_T58 l0_1 x3_2).f3).length c122_3)) (ds := []) m0_ s2_ rfl rfl ⟨((HB.out.cell (World.block_lt_of_cell? w _ hw122_0)).trans hw122_0), ((HB.out.cell (World.block_lt_of_cell? w _ hw122_1)).trans hw122_1), ((HB.out.cell (World.block_lt_of_cell? w _ hw122_2)).trans hw122_2), ((HB.out.cell (World.block_lt_of_cell? w _ hw122_3)).trans hw122_3)⟩ (fun hHeld => ?_); refine with_tabW spec_l04Is.tab7 spec_l04Is.bits7 (fun HT_ HW_ => ?_)
 generalize wr.drew = w25 at BK0 HB HR122_3 hx122_0 hx122_1 hx122_2 hx122_3 hHeld ⊢
 refine pu_ 0 34 m1_ (any_of HT_.out s2_) ?_
 refine pu_ 1 35 m2_ (any_of HT_.out s2_) ?_
 refine pu_ 2 36 m3_ (any_of HT_.out s2_) ?_
 refine take_ (i := 3) (N := some 37) (v := ?_) (a' := ?_) m4_ rfl rfl (take_ofW HT_.out HW_.out s2_) (fun _ _ _ h => h) (Or.inl ⟨by rfl, ?_⟩) hHeld ?_ ?_
 rotate_left
 {
 rintro w' ⟨s0, s1, s2, s3⟩
 go_simp
 with_reducible rfl}
 rotate_left
 · exact p1_
 refine pu_ 4 38 m5_ (any_of HT_.out s2_) ?_
 refine pu_ 5 39 m6_ (any_of HT_.out s2_) ?_
 refine pu_ 6 40 m7_ (any_of HT_.out s2_) ?_
 refine pn_ 7 41 m8_ (any_of HT_.out s2_) ?_
 refine pn_ 8 42 m9_ (any_of HT_.out s2_) ?_
 refine pn_ 9 43 m10_ (any_of HT_.out s2_) ?_
 refine pn_ 10 44 m11_ (any_of HT_.out s2_) ?_
 refine pn_ 11 45 m12_ (any_of HT_.out s2_) ?_
 refine pn_ 12 46 m13_ (any_of HT_.out s2_) ?_
 refine pu_ 13 47 m14_ (any_of HT_.out s2_) ?_
 refine pu_ 14 48 m15_ (any_of HT_.out s2_) ?_
 refine pn_ 15 49 m16_ (any_of HT_.out s2_) ?_
 refine pn_ 16 50 m17_ (any_of HT_.out s2_) ?_
 refine pn_ 17 51 m18_ (any_of HT_.out s2_) ?_
 refine pn_ 18 52 m19_ (any_of HT_.out s2_) ?_
 refine pn_ 19 53 m20_ (any_of HT_.out s2_) ?_
 refine pn_ 20 54 m21_ (any_of HT_.out s2_) ?_
 refine pu_ 21 55 m22_ (any_of HT_.out s2_) ?_
 refine pu_ 22 56 m23_ (any_of HT_.out s2_) ?_
 refine pn_ 23 57 m24_ (any_of HT_.out s2_) ?_
 refine pn_ 24 58 m25_ (any_of HT_.out s2_) ?_
 refine pn_ 25 59 m26_ (any_of HT_.out s2_) ?_
 refine pn_ 26 60 m27_ (any_of HT_.out s2_) ?_
 refine pn_ 27 61 m28_ (any_of HT_.out s2_) ?_
 refine pn_ 28 62 m29_ (any_of HT_.out s2_) ?_
 refine pu_ 29 63 m30_ (any_of HT_.out s2_) ?_
 refine pu_ 30 64 m31_ (any_of HT_.out s2_) ?_
 refine pn_ 31 65 m32_ (any_of HT_.out s2_) ?_
 refine pn_ 32 66 m33_ (any_of HT_.out s2_) ?_
 refine pn_ 33 67 m34_ (any_of HT_.out s2_) ?_
 refine pn_ 34 68 m39_ (any_of HT_.out s2_) ?_
 refine pn_ 35 69 m40_ (any_of HT_.out s2_) ?_
 refine pn_ 36 70 m41_ (any_of HT_.out s2_) ?_
 refine pn_ 37 71 m42_ (any_of HT_.out s2_) ?_
 refine pn_ 38 72 m35_ (any_of HT_.out s2_) ?_
 refine pn_ 39 73 m36_ (any_of HT_.out s2_) ?_
 refine pn_ 40 74 m37_ (any_of HT_.out s2_) ?_
 refine pu_ 41 75 m38_ (any_of HT_.out s2_) ?_
 refine done_ (done_of HT_.out s2_) ?_
 try go_wp2
 go_meet
 case rel => exact ⟨_, (true), s1_, H', ⟨by have := HJ1.out; have := HK2.out; first | omega | exact Nat.le_refl _⟩, ⟨b1_ BK0.out⟩, ⟨by repeat (first | (with_reducible first | exact HB.out | apply below_alloc | apply pw_below_drewN | apply below_drew1) | exact HB.out)⟩⟩}}
 case rest =>
  skip
  {
 clear HC10
 try clear c1
 try clear p1
 try clear q1
 try clear hx1
 try clear p2
 try clear c4
 try clear c12
 try clear c12b0
 try clear c12b1
 try clear p12
 try clear q12
 try clear hx12
 try clear c14
 try clear hx122_0
 try clear hx122_1
 try clear hx122_2
 try clear hx122_3
 try clear p122
 try clear q122
 obtain ⟨kq, x75_9, rfl, HA, HJ9, BK0, HB⟩ := hcut
 cases kq with
 | zero => exact absurd HA.out (by simp [spec_l04Is.j2])
 | succ kj9 =>
  skip
  {
 have H := HA.out
 clear HA
 simp only [spec_l04Is.j2] at H
 by_cases c26 : x75_9 = true
 {
 subst c26
 have H1 : (some false) = some r := by rw [if_pos rfl] at H; exact H
 clear H
 have H := H1
 clear H1
 obtain rfl := Option.some.inj H
 go_wp2
 go_ret
 exact ⟨by first | rfl | (simp [errW_none, errW_some] <;> rfl) | (simp [*, errW_none, errW_some] <;> rfl), by repeat (first | (with_reducible first | exact HB.out | apply below_alloc | apply pw_below_drewN | apply below_drew1) | exact HB.out)⟩}
 {
 replace c26 := Bool.eq_false_iff.mpr c26
 subst c26
 have H1 : (if x3_2 > 0 then (if 0 ≤ (wrap64 (x3_2 - 1)) then (if (wrap64 (x3_2 - 1)) < (l0_1.length : Int) then (if ((Op.bytesLess (((rd_T58 l0_1 (wrap64 (x3_2 - 1))).f0).toList) (((rd_T58 l0_1 x3_2).f0).toList)) = true) then (spec_l04Is.l0 kj9 (wrap64 (x3_2 + 1)) a0_0 l0_1) else (some false)) else (none)) else (none)) else (spec_l04Is.l0 kj9 (wrap64 (x3_2 + 1)) a0_0 l0_1)) = some r := by rw [if_neg (show ¬ (false = true) by decide)] at H; exact H
 clear H
 have H := H1
 clear H1
 by_cases c27 : x3_2 > 0
 {
 rw [if_pos c27] at H
 have c27b0 : decide (0 < x3_2) = true := decide_eq_true c27
 clear c27
 obtain ⟨ji28, hji28⟩ : ∃ j_ : Int, (wrap64 (x3_2 - 1)) = j_ := ⟨_, rfl⟩
 replace H : (if 0 ≤ (ji28) then (if (ji28) < (l0_1.length : Int) then (if ((Op.bytesLess (((rd_T58 l0_1 (ji28)).f0).toList) (((rd_T58 l0_1 x3_2).f0).toList)) = true) then (spec_l04Is.l0 kj9 (wrap64 (x3_2 + 1)) a0_0 l0_1) else (some false)) else (none)) else (none)) = some r := by first | (rw [hji28] at H; exact H) | (simp only [hji28] at H ⊢; exact H)
 have hji28w : (IntKind.i64.wrap (x3_2 - 1)) = ji28 := (i64_w _).trans hji28
 by_cases c29 : 0 ≤ (ji28)
 {
 rw [if_pos c29] at H
 have c29b0 : decide (0 ≤ (ji28)) = true := decide_eq_true c29
 clear c29
 by_cases c30 : (ji28) < (l0_1.length : Int)
 {
 rw [if_pos c30] at H
 have c30b0 : decide ((ji28) < (l0_1.length : Int)) = true := decide_eq_true c30
 clear c30
 by_cases c31 : ((Op.bytesLess (((rd_T58 l0_1 (ji28)).f0).toList) (((rd_T58 l0_1 x3_2).f0).toList)) = true)
 {
 rw [if_pos c31] at H
 have c31b0 : (Op.bytesLess (((rd_T58 l0_1 (ji28)).f0).toList) (((rd_T58 l0_1 x3_2).f0).toList)) = true := c31
 clear c31
 have H' := Aside0.mk H
 clear H
 try go_wp2
 replace BK0 := Aside0.mk (blk_drew BK0.out)
 replace HB := Aside0.mk (below_drew1 HB.out)
 have p126 : 0 ≤ ((ji28) : Int) := of_decide_eq_true (by first | (with_reducible assumption) | assumption)
 have q126 : (ji28) < (l0_1.length : Int) := of_decide_eq_true (by first | (with_reducible assumption) | assumption)
 obtain ⟨ad126, A126_3, c126_3, e126, hx126_0, hx126_1, hx126_2, hx126_3, hl126_3, hi126_3⟩ := at_T58 HR0_1.out (ji28) p126 q126
 have hw126_3 := hx126_3
 have hw126_2 := hx126_2
 have hw126_1 := hx126_1
 have hw126_0 := hx126_0
 obtain rfl : ad121 = ad126 := (by injection e126)
 replace hx126_0 := (HB.out.cell (World.block_lt_of_cell? w _ hx126_0)).trans hx126_0
 replace hx126_1 := (HB.out.cell (World.block_lt_of_cell? w _ hx126_1)).trans hx126_1
 replace hx126_2 := (HB.out.cell (World.block_lt_of_cell? w _ hx126_2)).trans hx126_2
 replace hx126_3 := (HB.out.cell (World.block_lt_of_cell? w _ hx126_3)).trans hx126_3
 have HR126_3 := Aside0.mk hi126_3
 have HC126_3 := Aside0.mk hl126_3
 clear hi126_3 hl126_3
 replace p126 := eq_true p126
 replace q126 := eq_true q126
 have p127 : 0 ≤ (x3_2 : Int) := (by first | exact of_decide_eq_true (by first | (with_reducible assumption) | assumption) | exact hbd121.out.1)
 have q127 : x3_2 < (l0_1.length : Int) := (by first | exact of_decide_eq_true (by first | (with_reducible assumption) | assumption) | exact hbd121.out.2)
 obtain ⟨ad127, A127_3, c127_3, e127, hx127_0, hx127_1, hx127_2, hx127_3, hl127_3, hi127_3⟩ := at_T58 HR0_1.out x3_2 p127 q127
 have hw127_3 := hx127_3
 have hw127_2 := hx127_2
 have hw127_1 := hx127_1
 have hw127_0 := hx127_0
 obtain rfl : ad121 = ad127 := (by injection e127)
 replace hx127_0 := (HB.out.cell (World.block_lt_of_cell? w _ hx127_0)).trans hx127_0
 replace hx127_1 := (HB.out.cell (World.block_lt_of_cell? w _ hx127_1)).trans hx127_1
 replace hx127_2 := (HB.out.cell (World.block_lt_of_cell? w _ hx127_2)).trans hx127_2
 replace hx127_3 := (HB.out.cell (World.block_lt_of_cell? w _ hx127_3)).trans hx127_3
 have HR127_3 := Aside0.mk hi127_3
 have HC127_3 := Aside0.mk hl127_3
 clear hi127_3 hl127_3
 replace p127 := eq_true p127
 replace q127 := eq_true q127
 refine start_ (n := 18) (S := fun w' => w'.cell? ⟨g0_, 0, none⟩ = some (.int .i64 a0_0) ∧ w'.cell? ⟨g0_, 1, none⟩ = some (.slice (some ad121) l0_1.length c0_1) ∧ w'.cell? (ad121.add (((ji28)).toNat * 4)) = some (.string ((rd_T58 l0_1 (ji28)).f0)) ∧ w'.cell? ⟨(ad121.add (((ji28)).toNat * 4)).block, (ad121.add (((ji28)).toNat * 4)).off + 1, none⟩ = some (.int .i64 ((rd_T58 l0_1 (ji28)).f1)) ∧ w'.cell? ⟨(ad121.add (((ji28)).toNat * 4)).block, (ad121.add (((ji28)).toNat * 4)).off + 2, none⟩ = some (.int .i64 ((rd_T58 l0_1 (ji28)).f2)) ∧ w'.cell? ⟨(ad121.add (((ji28)).toNat * 4)).block, (ad121.add (((ji28)).toNat * 4)).off + 3, none⟩ = some (.slice A126_3 ((rd_T58 l0_1 (ji28)).f3).length c126_3) ∧ w'.cell? (ad121.add ((x3_2).toNat * 4)) = some (.string ((rd_T58 l0_1 x3_2).f0)) ∧ w'.cell? ⟨(ad121.add ((x3_2).toNat * 4)).block, (ad121.add ((x3_2).toNat * 4)).off + 1, none⟩ = some (.int .i64 ((rd_T58 l0_1 x3_2).f1)) ∧ w'.cell? ⟨(ad121.add ((x3_2).toNat * 4)).block, (ad121.add ((x3_2).toNat * 4)).off + 2, none⟩ = some (.int .i64 ((rd_T58 l0_1 x3_2).f2)) ∧ w'.cell? ⟨(ad121.add ((x3_2).toNat * 4)).block, (ad121.add ((x3_2).toNat * 4)).off + 3, none⟩ = some (.slice A127_3 ((rd_T58 l0_1 x3_2).f3).length c127_3)) (ds := []) m43_ s2_ rfl rfl ⟨(blk_cell BK0.out 0).trans rfl, (blk_cell BK0.out 1).trans rfl, ((HB.out.cell (World.block_lt_of_cell? w _ hw126_0)).trans hw126_0), ((HB.out.cell (World.block_lt_of_cell? w _ hw126_1)).trans hw126_1), ((HB.out.cell (World.block_lt_of_cell? w _ hw126_2)).trans hw126_2), ((HB.out.cell (World.block_lt_of_cell? w _ hw126_3)).trans hw126_3), ((HB.out.cell (World.block_lt_of_cell? w _ hw127_0)).trans hw127_0), ((HB.out.cell (World.block_lt_of_cell? w _ hw127_1)).trans hw127_1), ((HB.out.cell (World.block_lt_of_cell? w _ hw127_2)).trans hw127_2), ((HB.out.cell (World.block_lt_of_cell? w _ hw127_3)).trans hw127_3)⟩ (fun hHeld => ?_); refine with_tabW spec_l04Is.tab9 spec_l04Is.bits9 (fun HT_ HW_ => ?_)
 generalize wc.drew = w32 at BK0 HB HR126_3 HR127_3 hx126_0 hx126_1 hx126_2 hx126_3 hx127_0 hx127_1 hx127_2 hx127_3 hHeld ⊢
 refine pu_ 0 76 m44_ (any_of HT_.out s2_) ?_
 refine pu_ 1 77 m45_ (any_of HT_.out s2_) ?_
 refine pu_ 2 78 m46_ (any_of HT_.out s2_) ?_
 refine pu_ 3 79 m47_ (any_of HT_.out s2_) ?_
 refine pu_ 4 80 m48_ (any_of HT_.out s2_) ?_
 refine pu_ 5 81 m49_ (any_of HT_.out s2_) ?_
 refine pu_ 7 83 m50_ (any_of HT_.out s2_) ?_
 refine pu_ 8 84 m51_ (any_of HT_.out s2_) ?_
 refine pu_ 12 88 m52_ (any_of HT_.out s2_) ?_
 refine pu_ 13 89 m53_ (any_of HT_.out s2_) ?_
 refine pu_ 14 90 m54_ (any_of HT_.out s2_) ?_
 refine take_ (i := 6) (N := some 82) (v := ?_) (a' := ?_) m55_ rfl rfl (take_ofW HT_.out HW_.out s2_) (fun _ _ _ h => h) (Or.inl ⟨by rfl, ?_⟩) hHeld ?_ ?_
 rotate_left
 {
 rintro w' ⟨s0, s1, s2, s3, s4, s5, s6, s7, s8, s9⟩
 go_simp
 with_reducible rfl}
 rotate_left
 · exact p1_
 refine pu_ 9 85 m56_ (any_of HT_.out s2_) ?_
 refine pu_ 10 86 m57_ (any_of HT_.out s2_) ?_
 refine take_ (i := 11) (N := some 87) (v := ?_) (a' := ?_) m58_ rfl rfl (take_ofW HT_.out HW_.out s2_) (fun _ _ _ h => h) (Or.inl ⟨by rfl, ?_⟩) hHeld ?_ ?_
 rotate_left
 {
 rintro w' ⟨s0, s1, s2, s3, s4, s5, s6, s7, s8, s9⟩
 go_simp
 with_reducible rfl}
 rotate_left
 · exact p1_
 refine take_ (i := 15) (N := some 91) (v := ?_) (a' := ?_) m59_ rfl rfl (take_ofW HT_.out HW_.out s2_) (fun _ _ _ h => h) (Or.inl ⟨by rfl, ?_⟩) hHeld ?_ ?_
 rotate_left
 {
 rintro w' ⟨s0, s1, s2, s3, s4, s5, s6, s7, s8, s9⟩
 go_simp
 with_reducible rfl}
 rotate_left
 · exact p1_
 refine pu_ 16 92 m60_ (any_of HT_.out s2_) ?_
 refine pu_ 17 93 m61_ (any_of HT_.out s2_) ?_
 refine done_ (done_of HT_.out s2_) ?_
 try go_wp2
 go_roundg kj9
 case measure => have := HJ1.out; have := HK2.out; have := HJ9.out; omega
 case rel => exact ⟨(wrap64 (x3_2 + 1)), s1_, H', ⟨by have := HJ1.out; have := HK2.out; have := HJ9.out; omega⟩, ⟨b1_ BK0.out⟩, ⟨by repeat (first | (with_reducible first | exact HB.out | apply below_alloc | apply pw_below_drewN | apply below_drew1) | exact HB.out)⟩⟩}
 {
 rw [if_neg c31] at H
 have c31b0 : (Op.bytesLess (((rd_T58 l0_1 (ji28)).f0).toList) (((rd_T58 l0_1 x3_2).f0).toList)) = false := by simpa using c31
 clear c31
 obtain rfl := Option.some.inj H
 try go_wp2
 replace BK0 := Aside0.mk (blk_drew BK0.out)
 replace HB := Aside0.mk (below_drew1 HB.out)
 have p126 : 0 ≤ ((ji28) : Int) := of_decide_eq_true (by first | (with_reducible assumption) | assumption)
 have q126 : (ji28) < (l0_1.length : Int) := of_decide_eq_true (by first | (with_reducible assumption) | assumption)
 obtain ⟨ad126, A126_3, c126_3, e126, hx126_0, hx126_1, hx126_2, hx126_3, hl126_3, hi126_3⟩ := at_T58 HR0_1.out (ji28) p126 q126
 have hw126_3 := hx126_3
 have hw126_2 := hx126_2
 have hw126_1 := hx126_1
 have hw126_0 := hx126_0
 obtain rfl : ad121 = ad126 := (by injection e126)
 replace hx126_0 := (HB.out.cell (World.block_lt_of_cell? w _ hx126_0)).trans hx126_0
 replace hx126_1 := (HB.out.cell (World.block_lt_of_cell? w _ hx126_1)).trans hx126_1
 replace hx126_2 := (HB.out.cell (World.block_lt_of_cell? w _ hx126_2)).trans hx126_2
 replace hx126_3 := (HB.out.cell (World.block_lt_of_cell? w _ hx126_3)).trans hx126_3
 have HR126_3 := Aside0.mk hi126_3
 have HC126_3 := Aside0.mk hl126_3
 clear hi126_3 hl126_3
 replace p126 := eq_true p126
 replace q126 := eq_true q126
 have p127 : 0 ≤ (x3_2 : Int) := (by first | exact of_decide_eq_true (by first | (with_reducible assumption) | assumption) | exact hbd121.out.1)
 have q127 : x3_2 < (l0_1.length : Int) := (by first | exact of_decide_eq_true (by first | (with_reducible assumption) | assumption) | exact hbd121.out.2)
 obtain ⟨ad127, A127_3, c127_3, e127, hx127_0, hx127_1, hx127_2, hx127_3, hl127_3, hi127_3⟩ := at_T58 HR0_1.out x3_2 p127 q127
 have hw127_3 := hx127_3
 have hw127_2 := hx127_2
 have hw127_1 := hx127_1
 have hw127_0 := hx127_0
 obtain rfl : ad121 = ad127 := (by injection e127)
 replace hx127_0 := (HB.out.cell (World.block_lt_of_cell? w _ hx127_0)).trans hx127_0
 replace hx127_1 := (HB.out.cell (World.block_lt_of_cell? w _ hx127_1)).trans hx127_1
 replace hx127_2 := (HB.out.cell (World.block_lt_of_cell? w _ hx127_2)).trans hx127_2
 replace hx127_3 := (HB.out.cell (World.block_lt_of_cell? w _ hx127_3)).trans hx127_3
 have HR127_3 := Aside0.mk hi127_3
 have HC127_3 := Aside0.mk hl127_3
 clear hi127_3 hl127_3
 replace p127 := eq_true p127
 replace q127 := eq_true q127
 refine start_ (n := 18) (S := fun w' => w'.cell? ⟨g0_, 0, none⟩ = some (.int .i64 a0_0) ∧ w'.cell? ⟨g0_, 1, none⟩ = some (.slice (some ad121) l0_1.length c0_1) ∧ w'.cell? (ad121.add (((ji28)).toNat * 4)) = some (.string ((rd_T58 l0_1 (ji28)).f0)) ∧ w'.cell? ⟨(ad121.add (((ji28)).toNat * 4)).block, (ad121.add (((ji28)).toNat * 4)).off + 1, none⟩ = some (.int .i64 ((rd_T58 l0_1 (ji28)).f1)) ∧ w'.cell? ⟨(ad121.add (((ji28)).toNat * 4)).block, (ad121.add (((ji28)).toNat * 4)).off + 2, none⟩ = some (.int .i64 ((rd_T58 l0_1 (ji28)).f2)) ∧ w'.cell? ⟨(ad121.add (((ji28)).toNat * 4)).block, (ad121.add (((ji28)).toNat * 4)).off + 3, none⟩ = some (.slice A126_3 ((rd_T58 l0_1 (ji28)).f3).length c126_3) ∧ w'.cell? (ad121.add ((x3_2).toNat * 4)) = some (.string ((rd_T58 l0_1 x3_2).f0)) ∧ w'.cell? ⟨(ad121.add ((x3_2).toNat * 4)).block, (ad121.add ((x3_2).toNat * 4)).off + 1, none⟩ = some (.int .i64 ((rd_T58 l0_1 x3_2).f1)) ∧ w'.cell? ⟨(ad121.add ((x3_2).toNat * 4)).block, (ad121.add ((x3_2).toNat * 4)).off + 2, none⟩ = some (.int .i64 ((rd_T58 l0_1 x3_2).f2)) ∧ w'.cell? ⟨(ad121.add ((x3_2).toNat * 4)).block, (ad121.add ((x3_2).toNat * 4)).off + 3, none⟩ = some (.slice A127_3 ((rd_T58 l0_1 x3_2).f3).length c127_3)) (ds := []) m43_ s2_ rfl rfl ⟨(blk_cell BK0.out 0).trans rfl, (blk_cell BK0.out 1).trans rfl, ((HB.out.cell (World.block_lt_of_cell? w _ hw126_0)).trans hw126_0), ((HB.out.cell (World.block_lt_of_cell? w _ hw126_1)).trans hw126_1), ((HB.out.cell (World.block_lt_of_cell? w _ hw126_2)).trans hw126_2), ((HB.out.cell (World.block_lt_of_cell? w _ hw126_3)).trans hw126_3), ((HB.out.cell (World.block_lt_of_cell? w _ hw127_0)).trans hw127_0), ((HB.out.cell (World.block_lt_of_cell? w _ hw127_1)).trans hw127_1), ((HB.out.cell (World.block_lt_of_cell? w _ hw127_2)).trans hw127_2), ((HB.out.cell (World.block_lt_of_cell? w _ hw127_3)).trans hw127_3)⟩ (fun hHeld => ?_); refine with_tabW spec_l04Is.tab9 spec_l04Is.bits9 (fun HT_ HW_ => ?_)
 generalize wc.drew = w33 at BK0 HB HR126_3 HR127_3 hx126_0 hx126_1 hx126_2 hx126_3 hx127_0 hx127_1 hx127_2 hx127_3 hHeld ⊢
 refine pu_ 0 76 m44_ (any_of HT_.out s2_) ?_
 refine pu_ 1 77 m45_ (any_of HT_.out s2_) ?_
 refine pu_ 2 78 m46_ (any_of HT_.out s2_) ?_
 refine pu_ 3 79 m47_ (any_of HT_.out s2_) ?_
 refine pu_ 4 80 m48_ (any_of HT_.out s2_) ?_
 refine pu_ 5 81 m49_ (any_of HT_.out s2_) ?_
 refine pu_ 7 83 m50_ (any_of HT_.out s2_) ?_
 refine pu_ 8 84 m51_ (any_of HT_.out s2_) ?_
 refine pu_ 12 88 m52_ (any_of HT_.out s2_) ?_
 refine pu_ 13 89 m53_ (any_of HT_.out s2_) ?_
 refine pu_ 14 90 m54_ (any_of HT_.out s2_) ?_
 refine take_ (i := 6) (N := some 82) (v := ?_) (a' := ?_) m55_ rfl rfl (take_ofW HT_.out HW_.out s2_) (fun _ _ _ h => h) (Or.inl ⟨by rfl, ?_⟩) hHeld ?_ ?_
 rotate_left
 {
 rintro w' ⟨s0, s1, s2, s3, s4, s5, s6, s7, s8, s9⟩
 go_simp
 with_reducible rfl}
 rotate_left
 · exact p1_
 refine pu_ 9 85 m56_ (any_of HT_.out s2_) ?_
 refine pu_ 10 86 m57_ (any_of HT_.out s2_) ?_
 refine take_ (i := 11) (N := some 87) (v := ?_) (a' := ?_) m58_ rfl rfl (take_ofW HT_.out HW_.out s2_) (fun _ _ _ h => h) (Or.inl ⟨by rfl, ?_⟩) hHeld ?_ ?_
 rotate_left
 {
 rintro w' ⟨s0, s1, s2, s3, s4, s5, s6, s7, s8, s9⟩
 go_simp
 with_reducible rfl}
 rotate_left
 · exact p1_
 refine take_ (i := 15) (N := some 91) (v := ?_) (a' := ?_) m59_ rfl rfl (take_ofW HT_.out HW_.out s2_) (fun _ _ _ h => h) (Or.inl ⟨by rfl, ?_⟩) hHeld ?_ ?_
 rotate_left
 {
 rintro w' ⟨s0, s1, s2, s3, s4, s5, s6, s7, s8, s9⟩
 go_simp
 with_reducible rfl}
 rotate_left
 · exact p1_
 refine pu_ 16 92 m60_ (any_of HT_.out s2_) ?_
 refine pu_ 17 93 m61_ (any_of HT_.out s2_) ?_
 refine done_ (done_of HT_.out s2_) ?_
 try go_wp2
 go_ret
 exact ⟨by first | rfl | (simp [errW_none, errW_some] <;> rfl) | (simp only [← hji28]; first | rfl | (simp [errW_none, errW_some] <;> rfl)) | (simp [*, errW_none, errW_some] <;> rfl), by repeat (first | (with_reducible first | exact HB.out | apply below_alloc | apply pw_below_drewN | apply below_drew1) | exact HB.out)⟩}}
 {
 rw [if_neg c30] at H
 exact absurd H (by simp)}}
 {
 rw [if_neg c29] at H
 exact absurd H (by simp)}}
 {
 rw [if_neg c27] at H
 have c27b0 : decide (0 < x3_2) = false := decide_eq_false c27
 clear c27
 have H' := Aside0.mk H
 clear H
 try go_wp2
 replace BK0 := Aside0.mk (blk_drew BK0.out)
 replace HB := Aside0.mk (below_drew1 HB.out)
 refine start_ (n := 18) (S := fun w' => True) (ds := []) m43_ s2_ rfl rfl trivial (fun hHeld => ?_); refine with_tabW spec_l04Is.tab9 spec_l04Is.bits9 (fun HT_ HW_ => ?_)
 generalize wc.drew = w34 at BK0 HB hHeld ⊢
 refine pu_ 0 76 m44_ (any_of HT_.out s2_) ?_
 refine pu_ 1 77 m45_ (any_of HT_.out s2_) ?_
 refine pu_ 2 78 m46_ (any_of HT_.out s2_) ?_
 refine pn_ 3 79 m47_ (any_of HT_.out s2_) ?_
 refine pn_ 4 80 m48_ (any_of HT_.out s2_) ?_
 refine pn_ 5 81 m49_ (any_of HT_.out s2_) ?_
 refine pn_ 6 82 #[T,T,T,T,T,T,T,F,F,F,F,F,F,F,F,F,F,F] (any_of HT_.out s2_) ?_
 refine pn_ 7 83 #[T,T,T,T,T,T,T,T,F,F,F,F,F,F,F,F,F,F] (any_of HT_.out s2_) ?_
 refine pn_ 8 84 #[T,T,T,T,T,T,T,T,T,F,F,F,F,F,F,F,F,F] (any_of HT_.out s2_) ?_
 refine pn_ 9 85 #[T,T,T,T,T,T,T,T,T,T,F,F,F,F,F,F,F,F] (any_of HT_.out s2_) ?_
 refine pn_ 10 86 #[T,T,T,T,T,T,T,T,T,T,T,F,F,F,F,F,F,F] (any_of HT_.out s2_) ?_
 refine pn_ 11 87 #[T,T,T,T,T,T,T,T,T,T,T,T,F,F,F,F,F,F] (any_of HT_.out s2_) ?_
 refine pn_ 12 88 #[T,T,T,T,T,T,T,T,T,T,T,T,T,F,F,F,F,F] (any_of HT_.out s2_) ?_
 refine pn_ 13 89 #[T,T,T,T,T,T,T,T,T,T,T,T,T,T,F,F,F,F] (any_of HT_.out s2_) ?_
 refine pn_ 14 90 m58_ (any_of HT_.out s2_) ?_
 refine pn_ 15 91 m59_ (any_of HT_.out s2_) ?_
 refine pn_ 16 92 m60_ (any_of HT_.out s2_) ?_
 refine pu_ 17 93 m61_ (any_of HT_.out s2_) ?_
 refine done_ (done_of HT_.out s2_) ?_
 try go_wp2
 go_roundg kj9
 case measure => have := HJ1.out; have := HK2.out; have := HJ9.out; omega
 case rel => exact ⟨(wrap64 (x3_2 + 1)), s1_, H', ⟨by have := HJ1.out; have := HK2.out; have := HJ9.out; omega⟩, ⟨b1_ BK0.out⟩, ⟨by repeat (first | (with_reducible first | exact HB.out | apply below_alloc | apply pw_below_drewN | apply below_drew1) | exact HB.out)⟩⟩}}}}}
 {
 rw [if_neg c9] at H
 exact absurd H (by simp)}}
 {
 rw [if_neg c8] at H
 have c8b0 : decide (x3_2 < (l0_1.length : Int)) = false := decide_eq_false c8
 clear c8
 obtain rfl := Option.some.inj H
 have hcz35_0 := c1_ BK0 0 (.int .i64 a0_0)
 have hcz35_1 := c1_ BK0 1 (.slice A0_1 l0_1.length c0_1)
 have hfz35_0 := f1_ BK0 0
 have hfz35_1 := f1_ BK0 1
 go_wp2
 go_ret
 exact ⟨by first | rfl | (simp [errW_none, errW_some] <;> rfl) | (simp [*, errW_none, errW_some] <;> rfl), by repeat (first | (with_reducible first | exact HB.out | apply below_alloc | apply pw_below_drewN | apply below_drew1) | exact HB.out)⟩}}}}}}

end Go.Proofs.Ytdanachjdfiegaa.QFnTaken
