-- written by a program of this session, on the lines of the kit's print
import Derived.Test.YtcnhepjdibbkgaaQFnExactNumbersOfx0
import Derived.Test.YtcnhepjdibbkgaaQFnExactNumbersOfx5
namespace Go.Proofs.Ytcnhepjdibbkgaa.QFnExactNumbersOf
open Go.RowKit Go.Proofs.YtcnhepjdibbkgaaW.PrintWords Go.Proofs.YtcnhepjdibbkgaaW.PrintLast Go.Proofs.YtcnhepjdibbkgaaW.PrintMore
attribute [local go_sem] max2_int min2_int max_two min_two max_three min_three max_four min_four   -- for this text's walks alone
set_option linter.unusedVariables false
set_option linter.unusedSimpArgs false

/-! ### impl_ValidIndex: function 17 -/
abbrev impl_ValidIndex.T : Bool := true
abbrev impl_ValidIndex.F : Bool := false
theorem impl_ValidIndex.s1_ {P : Prop} (h : P := by first | rfl | (simp; done) | (simp [*]; done)) : P := h
theorem impl_ValidIndex.s2_ {P : Prop} (h : P := by kernel_rfl) : P := h
theorem impl_ValidIndex.s3_ {P : Prop} (h : P := by (try simp only [List.map_toArray, List.map_cons, List.map_nil]); first | done | rfl | (simp only [List.length_drop, List.length_take]; rfl)) : P := h
abbrev impl_ValidIndex.m0_ : Array Bool := #[F,F,F,F,F,F,F,F,F,F,F,F,F,F,F,F,F,F,F,F,F,F,F,F,F,F,F,F,F,F,F,F,F,F,F,F,F,F]
abbrev impl_ValidIndex.m1_ : Array Bool := #[T,F,F,F,F,F,F,F,F,F,F,F,F,F,F,F,F,F,F,F,F,F,F,F,F,F,F,F,F,F,F,F,F,F,F,F,F,F]
abbrev impl_ValidIndex.m2_ : Array Bool := #[T,T,F,F,F,F,F,F,F,F,F,F,F,F,F,F,F,F,F,F,F,F,F,F,F,F,F,F,F,F,F,F,F,F,F,F,F,F]
abbrev impl_ValidIndex.m3_ : Array Bool := #[T,T,T,F,F,F,F,F,F,F,F,F,F,F,F,F,F,F,F,F,F,F,F,F,F,F,F,F,F,F,F,F,F,F,F,F,F,F]
abbrev impl_ValidIndex.m4_ : Array Bool := #[T,T,T,T,F,F,F,F,F,F,F,F,F,F,F,F,F,F,F,F,F,F,F,F,F,F,F,F,F,F,F,F,F,F,F,F,F,F]
abbrev impl_ValidIndex.m5_ : Array Bool := #[T,T,T,T,T,F,F,F,F,F,F,F,F,F,F,F,F,F,F,F,F,F,F,F,F,F,F,F,F,F,F,F,F,F,F,F,F,F]
abbrev impl_ValidIndex.m6_ : Array Bool := #[T,T,T,T,T,T,F,F,F,F,F,F,F,F,F,F,F,F,F,F,F,F,F,F,F,F,F,F,F,F,F,F,F,F,F,F,F,F]
abbrev impl_ValidIndex.m7_ : Array Bool := #[T,T,T,T,T,T,T,F,F,F,F,F,F,F,F,F,F,F,F,F,F,F,F,F,F,F,F,F,F,F,F,F,F,F,F,F,F,F]
abbrev impl_ValidIndex.m8_ : Array Bool := #[T,T,T,T,T,T,T,T,F,F,F,F,F,F,F,F,F,F,F,F,F,F,F,F,F,F,F,F,F,F,F,F,F,F,F,F,F,F]
abbrev impl_ValidIndex.m9_ : Array Bool := #[T,T,T,T,T,T,T,T,T,F,F,F,F,F,F,F,F,F,F,F,F,F,F,F,F,F,F,F,F,F,F,F,F,F,F,F,F,F]
abbrev impl_ValidIndex.m10_ : Array Bool := #[T,T,T,T,T,T,T,T,T,T,F,F,F,F,F,F,F,F,F,F,F,F,F,F,F,F,F,F,F,F,F,F,F,F,F,F,F,F]
abbrev impl_ValidIndex.m11_ : Array Bool := #[T,T,T,T,T,T,T,T,T,T,T,F,F,F,F,F,F,F,F,F,F,F,F,F,F,F,F,F,F,F,F,F,F,F,F,F,F,F]
abbrev impl_ValidIndex.m12_ : Array Bool := #[T,T,T,T,T,T,T,T,T,T,T,T,F,F,F,F,F,F,F,F,F,F,F,F,F,F,F,F,F,F,F,F,F,F,F,F,F,F]
abbrev impl_ValidIndex.m13_ : Array Bool := #[T,T,T,T,T,T,T,T,T,T,T,T,T,F,F,F,F,F,F,F,F,F,F,F,F,F,F,F,F,F,F,F,F,F,F,F,F,F]
abbrev impl_ValidIndex.m14_ : Array Bool := #[T,T,T,T,T,T,T,T,T,T,T,T,T,T,F,F,F,F,F,F,F,F,F,F,F,F,F,F,F,F,F,F,F,F,F,F,F,F]
abbrev impl_ValidIndex.m15_ : Array Bool := #[T,T,T,T,T,T,T,T,T,T,T,T,T,T,T,F,F,F,F,F,F,F,F,F,F,F,F,F,F,F,F,F,F,F,F,F,F,F]
abbrev impl_ValidIndex.m16_ : Array Bool := #[T,T,T,T,T,T,T,T,T,T,T,T,T,T,T,T,F,F,F,F,F,F,F,F,F,F,F,F,F,F,F,F,F,F,F,F,F,F]
abbrev impl_ValidIndex.m17_ : Array Bool := #[T,T,T,T,T,T,T,T,T,T,T,T,T,T,T,T,T,F,F,F,F,F,F,F,F,F,F,F,F,F,F,F,F,F,F,F,F,F]
abbrev impl_ValidIndex.m18_ : Array Bool := #[T,T,T,T,T,T,T,T,T,T,T,T,T,T,T,T,T,T,F,F,F,F,F,F,F,F,F,F,F,F,F,F,F,F,F,F,F,F]
abbrev impl_ValidIndex.m19_ : Array Bool := #[T,T,T,T,T,T,T,T,T,T,T,T,T,T,T,T,T,T,T,F,F,F,F,F,F,F,F,F,F,F,F,F,F,F,F,F,F,F]
abbrev impl_ValidIndex.m20_ : Array Bool := #[T,T,T,T,T,T,T,T,T,T,T,T,T,T,T,T,T,T,T,T,F,F,F,F,F,F,F,F,F,F,F,F,F,F,F,F,F,F]
abbrev impl_ValidIndex.m21_ : Array Bool := #[T,T,T,T,T,T,T,T,T,T,T,T,T,T,T,T,T,T,T,T,T,F,F,F,F,F,F,F,F,F,F,F,F,F,F,F,F,F]
abbrev impl_ValidIndex.m22_ : Array Bool := #[T,T,T,T,T,T,T,T,T,T,T,T,T,T,T,T,T,T,T,T,T,T,F,F,F,F,F,F,F,F,F,F,F,F,F,F,F,F]
abbrev impl_ValidIndex.m23_ : Array Bool := #[T,T,T,T,T,T,T,T,T,T,T,T,T,T,T,T,T,T,T,T,T,T,T,F,F,F,F,F,F,F,F,F,F,F,F,F,F,F]
abbrev impl_ValidIndex.m24_ : Array Bool := #[T,T,T,T,T,T,T,T,T,T,T,T,T,T,T,T,T,T,T,T,T,T,T,T,F,F,F,F,F,F,F,F,F,F,F,F,F,F]
abbrev impl_ValidIndex.m25_ : Array Bool := #[T,T,T,T,T,T,T,T,T,T,T,T,T,T,T,T,T,T,T,T,T,T,T,T,T,F,F,F,F,F,F,F,F,F,F,F,F,F]
abbrev impl_ValidIndex.m26_ : Array Bool := #[T,T,T,T,T,T,T,T,T,T,T,T,T,T,T,T,T,T,T,T,T,T,T,T,T,T,F,F,F,F,F,F,F,F,F,F,F,F]
abbrev impl_ValidIndex.m27_ : Array Bool := #[T,T,T,T,T,T,T,T,T,T,T,T,T,T,T,T,T,T,T,T,T,T,T,T,T,T,T,F,F,F,F,F,F,F,F,F,F,F]
abbrev impl_ValidIndex.m28_ : Array Bool := #[T,T,T,T,T,T,T,T,T,T,T,T,T,T,T,T,T,T,T,T,T,T,T,T,T,T,T,T,F,F,F,F,F,F,F,F,F,F]
abbrev impl_ValidIndex.m29_ : Array Bool := #[T,T,T,T,T,T,T,T,T,T,T,T,T,T,T,T,T,T,T,T,T,T,T,T,T,T,T,T,T,F,F,F,F,F,F,F,F,F]
abbrev impl_ValidIndex.m30_ : Array Bool := #[T,T,T,T,T,T,T,T,T,T,T,T,T,T,T,T,T,T,T,T,T,T,T,T,T,T,T,T,T,T,F,F,F,F,F,F,F,F]
abbrev impl_ValidIndex.m31_ : Array Bool := #[T,T,T,T,T,T,T,T,T,T,T,T,T,T,T,T,T,T,T,T,T,T,T,T,T,T,T,T,T,T,T,F,F,F,F,F,F,F]
abbrev impl_ValidIndex.m32_ : Array Bool := #[T,T,T,T,T,T,T,T,T,T,T,T,T,T,T,T,T,T,T,T,T,T,T,T,T,T,T,T,T,T,T,T,F,F,F,F,F,F]
abbrev impl_ValidIndex.m33_ : Array Bool := #[T,T,T,T,T,T,T,T,T,T,T,T,T,T,T,T,T,T,T,T,T,T,T,T,T,T,T,T,T,T,T,T,T,F,F,F,F,F]
abbrev impl_ValidIndex.m34_ : Array Bool := #[T,T,T,T,T,T,T,T,T,T,T,T,T,T,T,T,T,T,T,T,T,T,T,T,T,T,T,T,T,T,T,T,T,T,F,F,F,F]
abbrev impl_ValidIndex.m35_ : Array Bool := #[T,T,T,T,T,T,T,T,T,T,T,T,T,T,T,T,T,T,T,T,T,T,T,T,T,T,T,T,T,T,T,T,T,T,T,F,F,F]
abbrev impl_ValidIndex.m36_ : Array Bool := #[T,T,T,T,T,T,T,T,T,T,T,T,T,T,T,T,T,T,T,T,T,T,T,T,T,T,T,T,T,T,T,T,T,T,T,T,F,F]
abbrev impl_ValidIndex.m37_ : Array Bool := #[T,T,T,T,T,T,T,T,T,T,T,T,T,T,T,T,T,T,T,T,T,T,T,T,T,T,T,T,T,T,T,T,T,T,T,T,T,F]
abbrev impl_ValidIndex.m38_ : Array Bool := #[T,T,T,T,T,T,T,T,T,T,T,T,T,T,T,T,T,T,T,T,T,T,T,T,T,T,T,T,T,T,T,T,T,T,T,T,T,T]
abbrev impl_ValidIndex.m39_ : Array Bool := #[T,T,T,T,T,T,T,T,T,T,T,T,T,T,T,T,T,T,T,T,T,T,T,T,T,T,T,F,T,F,F,F,F,F,F,F,F,F]
abbrev impl_ValidIndex.m40_ : Array Bool := #[T,T,T,T,T,T,T,T,T,T,T,T,T,T,T,T,T,T,T,T,T,T,T,T,T,T,T,F,T,T,F,F,F,F,F,F,F,F]
abbrev impl_ValidIndex.m41_ : Array Bool := #[T,T,T,T,T,T,T,T,T,T,T,T,T,T,T,T,T,T,T,T,T,T,T,T,T,T,T,F,T,T,F,F,F,T,F,F,F,F]
abbrev impl_ValidIndex.m42_ : Array Bool := #[T,T,T,T,T,T,T,T,T,T,T,T,T,T,T,T,T,T,T,T,T,T,T,T,T,T,T,T,T,T,F,F,F,T,F,F,F,F]
abbrev impl_ValidIndex.m43_ : Array Bool := #[T,T,T,T,T,T,T,T,T,T,T,T,T,T,T,T,T,T,T,T,T,T,T,T,T,T,T,T,T,T,T,F,F,T,F,F,F,F]
abbrev impl_ValidIndex.m44_ : Array Bool := #[T,T,T,T,T,T,T,T,T,T,T,T,T,T,T,T,T,T,T,T,T,T,T,T,T,T,T,T,T,T,T,T,F,T,F,F,F,F]
theorem impl_ValidIndex.p1_ {P : Prop} (h : P := by simp only [Act.put, List.setIfInBounds_toArray, List.set_cons_zero, List.set_cons_succ, i64_w, i32_w]; rfl) : P := h
theorem impl_ValidIndex.b1_ {P Q : Prop} (q : Q) (h : Q → P := by intro q_; (with_reducible repeat (first | refine blk_drewN ?_ _ | refine blk_drew ?_ | refine blk_alloc ?_ _)); exact q_) : P := h q
theorem impl_ValidIndex.y1_ {P Q : Prop} (q : Q) (h : Q → P := by intro q_; repeat (first | (with_reducible first | exact q_ | apply below_alloc | apply pw_below_drewN | apply below_drew1) | exact q_)) : P := h q
theorem impl_ValidIndex.y2_ {P Q : Prop} (q : Q) (h : Q → P := by intro q_; repeat (first | exact q_ | (with_reducible refine Kd.C_alloc ?_ _) | (with_reducible refine Kd.C_drewN ?_ _) | (with_reducible refine Kd.C_drew ?_))) : P := h q
theorem impl_ValidIndex.b3_ {w w1 W : World} {g : Nat} {o : Obj} (q : Aside0 (w.heap[g]? = some o)) (hb : Below W.heap.size W w1) (h : w.heap[g]? = some o → W.heap[g]? = some o := by intro q_; (with_reducible repeat (first | refine blk_drewN ?_ _ | refine blk_drew ?_ | refine blk_alloc ?_ _)); exact q_) : Aside0 (w1.heap[g]? = some o) := ⟨blk_below (h q.out) hb⟩
theorem impl_ValidIndex.b4_ {w W : World} {g k : Nat} {o : Obj} (hg : k = W.heap.size) (q : Aside0 (w.heap[g]? = some o)) (h : w.heap[g]? = some o → W.heap[g]? = some o := by intro q_; (with_reducible repeat (first | refine blk_drewN ?_ _ | refine blk_drew ?_ | refine blk_alloc ?_ _)); exact q_) : Aside0 (g ≠ k) := ⟨by rw [hg]; exact Nat.ne_of_lt (blk_lt (h q.out))⟩
theorem impl_ValidIndex.b5_ {w W : World} {g k : Nat} {o : Obj} (hg : k = W.heap.size) (q : Aside0 (w.heap[g]? = some o)) (h : w.heap[g]? = some o → W.heap[g]? = some o := by intro q_; (with_reducible repeat (first | refine blk_drewN ?_ _ | refine blk_drew ?_ | refine blk_alloc ?_ _)); exact q_) : Aside0 (k ≠ g) := ⟨by rw [hg]; exact Nat.ne_of_gt (blk_lt (h q.out))⟩
theorem impl_ValidIndex.b6_ {w w' W : World} {k : Nat} (hg : k = W.heap.size) (q : Aside0 (Below w.heap.size w w')) (h : Below w.heap.size w w' → Below w.heap.size w W := by intro q_; repeat (first | (with_reducible first | exact q_ | apply below_alloc | apply pw_below_drewN | apply below_drew1) | exact q_)) : Aside0 (w.heap.size ≤ k) := ⟨by rw [hg]; exact below_size (h q.out)⟩
theorem impl_ValidIndex.bx_ {P : Program} {ops : Array Oper} {rest : List Oper} {o : Oper} {a : Act} {Q : Exit → Act → World → Prop} {W : World} (N : Tmp) (cs : Array Value) (t : TypeId) (h : ∀ g, g = W.heap.size → ∀ w1, w1.heap[g]? = some (.cells cs t (0, 0)) → Below W.heap.size W w1 → wpList P ops Q rest (a.put o.dst (.pointer (some ⟨g, 0, none⟩))) w1) (hgd : o.guard = none := by rfl) (hd : o.dst = some N := by rfl) (hrun : (execOp a.eval o).run P W = .ok (.value (.pointer (some ⟨W.heap.size, 0, none⟩))) (W.alloc (.cells cs t (0, 0))) := by first | (go_simp; done) | (go_simp; rfl)) : wpList P ops Q (o :: rest) a W := box_event hgd hd hrun h
theorem impl_ValidIndex.c1_ {w : World} {g : Nat} {t : TypeId} {cs : Array Value} (q : Aside0 (w.heap[g]? = some (.cells cs t (0, 0)))) (i : Nat) (v : Value) (h : cs[i]? = some v := by rfl) : w.cell? ⟨g, i, none⟩ = some v := (blk_cell q.out i).trans h
theorem impl_ValidIndex.f1_ {w : World} {g : Nat} {t : TypeId} {cs : Array Value} (q : Aside0 (w.heap[g]? = some (.cells cs t (0, 0)))) (i : Nat) : w.frozen? ⟨g, i, none⟩ = false := blk_frozen q.out i
theorem impl_ValidIndex.pu_ {P : Program} {md : Region.Mode} {ops : Array Oper} {Q : Exit → Act → World → Prop} {S : World → Prop} {ds : List Nat} {fuel : Nat} {l : Array Bool} {a : Act} {w : World} {oi : Oper} {a' : Act} {v : Value} (i N : Nat) (l' : Array Bool) (hc : anyB md ops l l' i = true) (h : wpAnyLast P md ops Q S ds fuel l' a' w) (hi : ops[i]? = some oi := by rfl) (hN : oi.dst = some N := by rfl) (hQ : ∀ c a w, Q (.panic c) (a.put oi.dst v) w → Q (.panic c) a w := by exact fun _ _ _ h => h) (hy : Yields P ops oi v a := by exact Or.inl ⟨by rfl, by intro w'; go_simp; with_reducible rfl⟩) (ha : a.put (some N) v = a' := by simp only [Act.put, List.setIfInBounds_toArray, List.set_cons_zero, List.set_cons_succ, i64_w, i32_w]; rfl) : wpAnyLast P md ops Q S ds (fuel + 1) l a w := pure_ l' hi hN hc hQ hy ha h
theorem impl_ValidIndex.pn_ {P : Program} {md : Region.Mode} {ops : Array Oper} {Q : Exit → Act → World → Prop} {S : World → Prop} {ds : List Nat} {fuel : Nat} {l : Array Bool} {a : Act} {w : World} {oi : Oper} {a' : Act} (i N : Nat) (l' : Array Bool) (hc : anyB md ops l l' i = true) (h : wpAnyLast P md ops Q S ds fuel l' a' w) (hi : ops[i]? = some oi := by rfl) (hN : oi.dst = some N := by rfl) (hQ : ∀ c a w, Q (.panic c) (a.put oi.dst undef) w → Q (.panic c) a w := by exact fun _ _ _ h => h) (hy : Yields P ops oi undef a := by exact Or.inr ⟨by rfl, rfl⟩) (ha : a.put (some N) undef = a' := by simp only [Act.put, List.setIfInBounds_toArray, List.set_cons_zero, List.set_cons_succ, i64_w, i32_w]; rfl) : wpAnyLast P md ops Q S ds (fuel + 1) l a w := pure_ l' hi hN hc hQ hy ha h
def impl_ValidIndex.l0 : Nat → List (S63) → Int → Int → List (S63) → Option (Bool)
  | 0, _, _, _, _ => none
  | k + 1, x6, x7, x8, x185000 => if x8 < x7 then (if 0 ≤ x8 then (if x8 < (x6.length : Int) then ((impl_wordOk.f k ((rd_T63 x6 x8).f0)).bind fun t187 => (if t187 = true then (if (((rd_T63 x6 x8).f1).length : Int) < 1 then (some false) else (if (((rd_T63 x6 x8).f1).length : Int) > 40 then (some false) else ((impl_rising_v0.f k ((rd_T63 x6 x8).f1)).bind fun t188 => (if t188 = true then (if x8 > 0 then (if 0 ≤ (wrap64 (x8 - 1)) then (if (wrap64 (x8 - 1)) < (x185000.length : Int) then (if ((Op.bytesLess (((rd_T63 x185000 (wrap64 (x8 - 1))).f0).toList) (((rd_T63 x6 x8).f0).toList)) = true) then (impl_ValidIndex.l0 k x6 x7 (wrap64 (x8 + 1)) x185000) else (some false)) else (none)) else (none)) else (impl_ValidIndex.l0 k x6 x7 (wrap64 (x8 + 1)) x185000)) else (some false))))) else (some false))) else (none)) else (none)) else (some true)
def impl_ValidIndex.f (k : Nat) (l0_0 : List (S63)) : Option (Bool) := impl_ValidIndex.l0 k l0_0 (l0_0.length : Int) 0 l0_0
theorem impl_ValidIndex.mono_l : ∀ k, (∀ y0 y1 y2 y3, LeO (impl_ValidIndex.l0 k y0 y1 y2 y3) (impl_ValidIndex.l0 (k + 1) y0 y1 y2 y3))
  | 0 => fun _ _ _ _ r h => by simp [impl_ValidIndex.l0] at h
  | k + 1 => by
    have ih0 := impl_ValidIndex.mono_l k
    · intro y0 y1 y2 y3
      unfold impl_ValidIndex.l0
      repeat' first
      | (with_reducible exact ih0 _ _ _ _)
      | (with_reducible exact impl_rising_v0.mono _ _)
      | (with_reducible exact impl_wordOk.mono _ _)
      | (with_reducible exact LeO.refl _)
      | (with_reducible exact LeO.none _)
      | (with_reducible refine LeO.ite ?_ ?_)
      | (with_reducible refine LeO.bind ?_ (fun _ => ?_))
      | exact ih0 _ _ _ _
      | exact impl_rising_v0.mono _ _
      | exact impl_wordOk.mono _ _
      | exact LeO.none _
      | refine LeO.ite ?_ ?_
      | refine LeO.bind ?_ (fun _ => ?_)
theorem impl_ValidIndex.mono : ∀ a0 k, LeO (impl_ValidIndex.f k a0) (impl_ValidIndex.f (k + 1) a0) := by
  intro a0 k
  have ih0 := impl_ValidIndex.mono_l k
  unfold impl_ValidIndex.f
  repeat' first
      | (with_reducible exact ih0 _ _ _ _)
      | (with_reducible exact impl_rising_v0.mono _ _)
      | (with_reducible exact impl_wordOk.mono _ _)
      | (with_reducible exact LeO.refl _)
      | (with_reducible exact LeO.none _)
      | (with_reducible refine LeO.ite ?_ ?_)
      | (with_reducible refine LeO.bind ?_ (fun _ => ?_))
      | exact ih0 _ _ _ _
      | exact impl_rising_v0.mono _ _
      | exact impl_wordOk.mono _ _
      | exact LeO.none _
      | refine LeO.ite ?_ ?_
      | refine LeO.bind ?_ (fun _ => ?_)
def impl_ValidIndex.T4 : Bool × List (List Nat × List Nat) := (true, [([], []), ([0], [0]), ([1], [1]), ([2], [2]), ([3, 2], [3]), ([4], [4]), ([5, 4], [4, 5]), ([6, 4], [4, 6]), ([7, 4], [4, 7]), ([4, 8], [4, 8]), ([9, 4], [9]), ([10], [10]), ([11, 10], [10, 11]), ([12, 10], [10, 12]), ([13, 10], [10, 13]), ([10, 14], [10, 14]), ([15, 10], [15]), ([16], [16]), ([17, 16], [16, 17]), ([18, 16, 16], [16, 18]), ([19, 16], [16, 19]), ([16, 20], [16, 20]), ([21, 19], [21]), ([22], [22]), ([23, 22], [22, 23]), ([24, 22, 22], [22, 24]), ([25], [25]), ([26, 25], [25, 26]), ([25], [25]), ([28, 25], [25, 28]), ([27, 29, 25], [25, 27, 29]), ([30, 25], [25, 30]), ([31, 25], [25, 31]), ([25], [25]), ([33, 25], [25, 33]), ([32, 34, 25], [25, 32, 34]), ([25, 35, 22], [22, 25, 35]), ([22, 36], [22, 36])])
def impl_ValidIndex.B4 : List Nat := [0, 1, 3, 7, 15, 31, 63, 127, 255, 511, 1023, 2047, 4095, 8191, 16383, 32767, 65535, 131071, 262143, 524287, 1048575, 2097151, 4194303, 8388607, 16777215, 33554431, 67108863, 134217727, 67108863, 335544319, 1073741823, 2147483647, 4294967295, 67108863, 8657043455, 34359738367, 68719476735, 137438953471]
theorem impl_ValidIndex.tab4 : rtab .any (opsOf Try.f17 4) = impl_ValidIndex.T4 := by kernel_rfl
theorem impl_ValidIndex.bits4 : waitsOk impl_ValidIndex.T4.2 impl_ValidIndex.B4 = true := by kernel_rfl
set_option maxHeartbeats 8000000 in
set_option maxRecDepth 100000 in
theorem impl_ValidIndex.calls (k : Nat) (A0_0 : Option Addr) (c0_0 : Nat) (l0_0 : List (S63)) (r : Bool) (w : World) (hr0_0 : Kd.C k63 w A0_0 l0_0.length l0_0) (hc0_0 : l0_0.length ≤ c0_0) (h : impl_ValidIndex.f k l0_0 = some r) :
    Calls Try.prog 17 #[.agg #[.slice A0_0 l0_0.length c0_0]] w fun e w' => e = .returned (.bool r) ∧ Below w.heap.size w w' := by
 have hu29 := Try.underlying29
 have hu63 := Try.underlying63
 have HR0_0 := Aside0.mk hr0_0
 have HC0_0 := Aside0.mk hc0_0
 clear hr0_0 hc0_0
 have HB := Aside0.mk (Below.refl w.heap.size w)
 have H : (impl_ValidIndex.l0 k l0_0 (l0_0.length : Int) 0 l0_0) = some r := h
 clear h
 have H' := Aside0.mk H
 clear H
 go_enter Try.func17, Try.ntmps17
 go_wp2_with (first | ((with_reducible refine gate_dst (N := 1) rfl ?_); (try (refine gate_guard (by rfl) ?_; dsimp only)); refine bx_ 1 #[.slice A0_0 l0_0.length c0_0] 29 ?_; intro gb184 hg w2 hbox hb; have GW184 := b6_ hg HB; have GE184 := b6_ hg HB; replace HB := Aside0.mk (below_step (y1_ HB.out) hb); have BK184 := Aside0.mk (hbox); clear hb hbox hg; have hcz3_0 := c1_ BK184 0 (.slice A0_0 l0_0.length c0_0); have hfz3_0 := f1_ BK184 0))
 go_loopg [8] k (fun kq v8 w' => ∃ (x8_1 : Int), v8 = .int .i64 x8_1 ∧ Aside0 (impl_ValidIndex.l0 kq l0_0 (l0_0.length : Int) x8_1 l0_0 = some r) ∧ Aside0 (kq ≤ k) ∧ Aside0 (w'.heap[gb184]? = some (.cells #[(.slice A0_0 l0_0.length c0_0)] 29 (0, 0))) ∧ Aside0 (Below w.heap.size w w'))
 case atStart => exact ⟨(0), s1_, H', ⟨Nat.le_refl _⟩, ⟨b1_ BK184.out⟩, ⟨by repeat (first | (with_reducible first | exact HB.out | apply below_alloc | apply pw_below_drewN | apply below_drew1) | exact HB.out)⟩⟩
 case round =>
  skip
  {
 clear H'
 try clear c1
 try clear p2
 try clear hcz3_0
 try clear hfz3_0
 obtain ⟨x8_1, rfl, HA, HK1, BK184, HB⟩ := hrel
 cases gk with
 | zero => exact absurd HA.out (by simp [impl_ValidIndex.l0])
 | succ k1 =>
  skip
  {
 have H := HA.out
 clear HA
 simp only [impl_ValidIndex.l0] at H
 by_cases c4 : x8_1 < (l0_0.length : Int)
 {
 rw [if_pos c4] at H
 have c4b0 : decide (x8_1 < (l0_0.length : Int)) = true := decide_eq_true c4
 clear c4
 by_cases c5 : 0 ≤ x8_1
 {
 rw [if_pos c5] at H
 have c5b0 : decide (0 ≤ x8_1) = true := decide_eq_true c5
 clear c5
 by_cases c6 : x8_1 < (l0_0.length : Int)
 {
 rw [if_pos c6] at H
 have c6b0 : decide (x8_1 < (l0_0.length : Int)) = true := decide_eq_true c6
 clear c6
 replace H := Option.bind_eq_some_iff.mp H
 obtain ⟨t187, A70, H⟩ := H
 replace H : (if t187 = true then (if (((rd_T63 l0_0 x8_1).f1).length : Int) < 1 then (some false) else (if (((rd_T63 l0_0 x8_1).f1).length : Int) > 40 then (some false) else ((impl_rising_v0.f k1 ((rd_T63 l0_0 x8_1).f1)).bind fun t188 => (if t188 = true then (if x8_1 > 0 then (if 0 ≤ (wrap64 (x8_1 - 1)) then (if (wrap64 (x8_1 - 1)) < (l0_0.length : Int) then (if ((Op.bytesLess (((rd_T63 l0_0 (wrap64 (x8_1 - 1))).f0).toList) (((rd_T63 l0_0 x8_1).f0).toList)) = true) then (impl_ValidIndex.l0 k1 l0_0 (l0_0.length : Int) (wrap64 (x8_1 + 1)) l0_0) else (some false)) else (none)) else (none)) else (impl_ValidIndex.l0 k1 l0_0 (l0_0.length : Int) (wrap64 (x8_1 + 1)) l0_0)) else (some false))))) else (some false)) = some r := H
 have A7 := Aside0.mk A70
 clear A70
 by_cases c8 : t187 = true
 {
 subst c8
 have H1 : (if (((rd_T63 l0_0 x8_1).f1).length : Int) < 1 then (some false) else (if (((rd_T63 l0_0 x8_1).f1).length : Int) > 40 then (some false) else ((impl_rising_v0.f k1 ((rd_T63 l0_0 x8_1).f1)).bind fun t188 => (if t188 = true then (if x8_1 > 0 then (if 0 ≤ (wrap64 (x8_1 - 1)) then (if (wrap64 (x8_1 - 1)) < (l0_0.length : Int) then (if ((Op.bytesLess (((rd_T63 l0_0 (wrap64 (x8_1 - 1))).f0).toList) (((rd_T63 l0_0 x8_1).f0).toList)) = true) then (impl_ValidIndex.l0 k1 l0_0 (l0_0.length : Int) (wrap64 (x8_1 + 1)) l0_0) else (some false)) else (none)) else (none)) else (impl_ValidIndex.l0 k1 l0_0 (l0_0.length : Int) (wrap64 (x8_1 + 1)) l0_0)) else (some false))))) = some r := by rw [if_pos rfl] at H; exact H
 clear H
 have H := H1
 clear H1
 by_cases c9 : (((rd_T63 l0_0 x8_1).f1).length : Int) < 1
 {
 rw [if_pos c9] at H
 have c9b0 : decide ((((rd_T63 l0_0 x8_1).f1).length : Int) < 1) = true := decide_eq_true c9
 have c9b1 : decide (((rd_T63 l0_0 x8_1).f1).length < 1) = true := decide_eq_true (by omega)
 clear c9
 obtain rfl := Option.some.inj H
 have p185 : 0 ≤ (x8_1 : Int) := of_decide_eq_true (by first | (with_reducible assumption) | assumption)
 have q185 : x8_1 < (l0_0.length : Int) := of_decide_eq_true (by first | (with_reducible assumption) | assumption)
 obtain ⟨ad185, A185_1, c185_1, e185, hx185_0, hx185_1, hl185_1, hi185_1⟩ := at_T63 HR0_0.out x8_1 p185 q185
 cases e185
 replace hx185_0 := (HB.out.cell (World.block_lt_of_cell? w _ hx185_0)).trans hx185_0
 replace hx185_1 := (HB.out.cell (World.block_lt_of_cell? w _ hx185_1)).trans hx185_1
 have HR185_1 := Aside0.mk hi185_1
 have HC185_1 := Aside0.mk hl185_1
 clear hi185_1 hl185_1
 replace p185 := eq_true p185
 replace q185 := eq_true q185
 try go_wp2_with (first | ((with_reducible refine gate_dst (N := 4) rfl ?_); (try (refine gate_guard (by rfl) ?_; dsimp only)); refine bx_ 4 #[.string (⟨#[]⟩ : ByteArray), .slice none 0 0] 63 ?_; intro gb186 hg w10 hbox hb; have GW186 := b6_ hg HB; have GE186 := b6_ hg HB; have NB184_186 := b4_ hg BK184; have NB186_184 := b5_ hg BK184; replace BK184 := b3_ BK184 hb; replace HB := Aside0.mk (below_step (y1_ HB.out) hb); have BK186 := Aside0.mk (hbox); clear hb hbox hg; have hnb11 := NB186_184.out; have hnc11 := NB184_186.out; have hcz12_0 := c1_ BK186 0 (.string (⟨#[]⟩ : ByteArray)); have hcz12_1 := c1_ BK186 1 (.slice none 0 0); have hfz12_0 := f1_ BK186 0; have hfz12_1 := f1_ BK186 1))
 have n0_ : Aside0 (((w10.setCell ⟨gb186, 0, none⟩ (.string ((rd_T63 l0_0 x8_1).f0))).setCell ⟨gb186, 1, none⟩ (.slice A185_1 ((rd_T63 l0_0 x8_1).f1).length c185_1)).heap[gb184]? = some (.cells #[.slice (some ad185) l0_0.length c0_0] 29 (0, 0))) := ⟨by (with_reducible repeat (first | refine blk_drewN ?_ _ | refine blk_drew ?_ | refine blk_alloc ?_ _)); refine blk_far ?_ NB184_186.out _; (with_reducible repeat (first | refine blk_drewN ?_ _ | refine blk_drew ?_ | refine blk_alloc ?_ _)); refine blk_far ?_ NB184_186.out _; (with_reducible repeat (first | refine blk_drewN ?_ _ | refine blk_drew ?_ | refine blk_alloc ?_ _)); exact BK184.out⟩
 have n1_ : Aside0 (((w10.setCell ⟨gb186, 0, none⟩ (.string ((rd_T63 l0_0 x8_1).f0))).setCell ⟨gb186, 1, none⟩ (.slice A185_1 ((rd_T63 l0_0 x8_1).f1).length c185_1)).heap[gb186]? = some (.cells #[.string ((rd_T63 l0_0 x8_1).f0), .slice A185_1 ((rd_T63 l0_0 x8_1).f1).length c185_1] 63 (0, 0))) := ⟨by (with_reducible repeat (first | refine blk_drewN ?_ _ | refine blk_drew ?_ | refine blk_alloc ?_ _)); refine blk_put (cs := #[.string ((rd_T63 l0_0 x8_1).f0), .slice none 0 0]) ?_ 1 _ rfl; (with_reducible repeat (first | refine blk_drewN ?_ _ | refine blk_drew ?_ | refine blk_alloc ?_ _)); refine blk_put (cs := #[.string (⟨#[]⟩ : ByteArray), .slice none 0 0]) ?_ 0 _ rfl; (with_reducible repeat (first | refine blk_drewN ?_ _ | refine blk_drew ?_ | refine blk_alloc ?_ _)); exact BK186.out⟩
 have n2_ : Aside0 (Below w.heap.size w ((w10.setCell ⟨gb186, 0, none⟩ (.string ((rd_T63 l0_0 x8_1).f0))).setCell ⟨gb186, 1, none⟩ (.slice A185_1 ((rd_T63 l0_0 x8_1).f1).length c185_1))) := ⟨by repeat (first | (with_reducible first | exact HB.out | apply below_alloc | apply pw_below_drewN | apply below_drew1 | refine below_set ?_ GE186.out) | exact HB.out)⟩
 (try clear BK184)
 (try clear BK186)
 (try clear HB)
 generalize ((w10.setCell ⟨gb186, 0, none⟩ (.string ((rd_T63 l0_0 x8_1).f0))).setCell ⟨gb186, 1, none⟩ (.slice A185_1 ((rd_T63 l0_0 x8_1).f1).length c185_1)) = w13 at n0_ n1_ n2_ ⊢
 have BK184 := n0_
 have BK186 := n1_
 have HB := n2_
 clear n0_ n1_ n2_
 replace BK184 := Aside0.mk (blk_drew BK184.out)
 replace BK186 := Aside0.mk (blk_drew BK186.out)
 replace HB := Aside0.mk (below_drew1 HB.out)
 refine start_ (n := 38) (S := fun w' => w'.cell? ⟨gb186, 0, none⟩ = some (.string ((rd_T63 l0_0 x8_1).f0)) ∧ w'.cell? ⟨gb186, 1, none⟩ = some (.slice A185_1 ((rd_T63 l0_0 x8_1).f1).length c185_1)) (ds := []) m0_ s2_ rfl rfl ⟨(blk_cell BK186.out 0).trans rfl, (blk_cell BK186.out 1).trans rfl⟩ (fun hHeld => ?_); refine with_tabW impl_ValidIndex.tab4 impl_ValidIndex.bits4 (fun HT_ HW_ => ?_)
 generalize w13.drew = w14 at BK184 BK186 HB hHeld ⊢
 refine pu_ 0 13 m1_ (any_of HT_.out s2_) ?_
 refine take_ (i := 1) (N := some 14) (v := ?_) (a' := ?_) m2_ rfl rfl (take_ofW HT_.out HW_.out s2_) (fun _ _ _ h => h) (Or.inl ⟨by rfl, ?_⟩) hHeld ?_ ?_
 rotate_left
 {
 rintro w' ⟨s0, s1⟩
 go_simp
 with_reducible rfl}
 rotate_left
 · exact p1_
 refine one_ (i := 2) (N := some 15) m3_ rfl rfl (one_of HT_.out s2_) (by decide) (fun K hK => ?_)
 refine goes_ Try.func51 s2_ rfl #[.string ((rd_T63 l0_0 x8_1).f0)] (by rfl) rfl rfl s3_ ?_
 with_reducible refine (impl_wordOk.calls k1 ((rd_T63 l0_0 x8_1).f0) true _ A7.out).mono ?_
 rintro e w' ⟨rfl, ⟨nd, rfl⟩⟩
 refine ⟨_, rfl, ?_⟩
 refine hK.out _ _ ⟨(blk_cell BK186.out 0).trans rfl, (blk_cell BK186.out 1).trans rfl⟩ (fun hHeld => ?_)
 clear hK K
 refine norm_ (a' := ?_) ?_ ?_
 rotate_left
 {
 show Act.put _ (some 15) _ = _
 simp only [Act.put, List.setIfInBounds_toArray, List.set_cons_zero, List.set_cons_succ, i64_w, i32_w]
 rfl}
 refine pu_ 3 16 m4_ (any_of HT_.out s2_) ?_
 refine pu_ 4 17 m5_ (any_of HT_.out s2_) ?_
 refine pu_ 5 18 m6_ (any_of HT_.out s2_) ?_
 refine take_ (i := 6) (N := some 19) (v := ?_) (a' := ?_) m7_ rfl rfl (take_ofW HT_.out HW_.out s2_) (fun _ _ _ h => h) (Or.inl ⟨by rfl, ?_⟩) hHeld ?_ ?_
 rotate_left
 {
 rintro w' ⟨s0, s1⟩
 go_simp
 with_reducible rfl}
 rotate_left
 · exact p1_
 refine pu_ 7 20 m8_ (any_of HT_.out s2_) ?_
 refine pu_ 8 21 m9_ (any_of HT_.out s2_) ?_
 refine pu_ 9 22 m10_ (any_of HT_.out s2_) ?_
 refine pu_ 10 23 m11_ (any_of HT_.out s2_) ?_
 refine pn_ 11 24 m12_ (any_of HT_.out s2_) ?_
 refine pn_ 12 25 m13_ (any_of HT_.out s2_) ?_
 refine pn_ 13 26 m14_ (any_of HT_.out s2_) ?_
 refine pn_ 14 27 m15_ (any_of HT_.out s2_) ?_
 refine pu_ 15 28 m16_ (any_of HT_.out s2_) ?_
 refine pu_ 16 29 m17_ (any_of HT_.out s2_) ?_
 refine pn_ 17 30 m18_ (any_of HT_.out s2_) ?_
 refine pn_ 18 31 m19_ (any_of HT_.out s2_) ?_
 refine pn_ 19 32 m20_ (any_of HT_.out s2_) ?_
 refine pn_ 20 33 m21_ (any_of HT_.out s2_) ?_
 refine pu_ 21 34 m22_ (any_of HT_.out s2_) ?_
 refine pu_ 22 35 m23_ (any_of HT_.out s2_) ?_
 refine pn_ 23 36 m24_ (any_of HT_.out s2_) ?_
 refine pn_ 24 37 m25_ (any_of HT_.out s2_) ?_
 refine pn_ 25 38 m26_ (any_of HT_.out s2_) ?_
 refine pn_ 26 39 m27_ (any_of HT_.out s2_) ?_
 refine pn_ 27 40 m28_ (any_of HT_.out s2_) ?_
 refine pn_ 28 41 m29_ (any_of HT_.out s2_) ?_
 refine pn_ 29 42 m30_ (any_of HT_.out s2_) ?_
 refine pn_ 30 43 m31_ (any_of HT_.out s2_) ?_
 refine pn_ 31 44 m32_ (any_of HT_.out s2_) ?_
 refine pn_ 32 45 m33_ (any_of HT_.out s2_) ?_
 refine pn_ 33 46 m34_ (any_of HT_.out s2_) ?_
 refine pn_ 34 47 m35_ (any_of HT_.out s2_) ?_
 refine pn_ 35 48 m36_ (any_of HT_.out s2_) ?_
 refine pn_ 36 49 m37_ (any_of HT_.out s2_) ?_
 refine pu_ 37 50 m38_ (any_of HT_.out s2_) ?_
 refine done_ (done_of HT_.out s2_) ?_
 try go_wp2
 go_ret
 exact ⟨by first | rfl | (simp [errW_none, errW_some] <;> rfl) | (simp [*, errW_none, errW_some] <;> rfl), by repeat (first | (with_reducible first | exact HB.out | apply below_alloc | apply pw_below_drewN | apply below_drew1) | exact HB.out)⟩}
 {
 rw [if_neg c9] at H
 have c9b0 : decide ((((rd_T63 l0_0 x8_1).f1).length : Int) < 1) = false := decide_eq_false c9
 have c9b1 : decide (((rd_T63 l0_0 x8_1).f1).length < 1) = false := decide_eq_false (by omega)
 clear c9
 by_cases c15 : (((rd_T63 l0_0 x8_1).f1).length : Int) > 40
 {
 rw [if_pos c15] at H
 have c15b0 : decide (40 < (((rd_T63 l0_0 x8_1).f1).length : Int)) = true := decide_eq_true c15
 have c15b1 : decide (40 < ((rd_T63 l0_0 x8_1).f1).length) = true := decide_eq_true (by omega)
 clear c15
 obtain rfl := Option.some.inj H
 have p185 : 0 ≤ (x8_1 : Int) := of_decide_eq_true (by first | (with_reducible assumption) | assumption)
 have q185 : x8_1 < (l0_0.length : Int) := of_decide_eq_true (by first | (with_reducible assumption) | assumption)
 obtain ⟨ad185, A185_1, c185_1, e185, hx185_0, hx185_1, hl185_1, hi185_1⟩ := at_T63 HR0_0.out x8_1 p185 q185
 cases e185
 replace hx185_0 := (HB.out.cell (World.block_lt_of_cell? w _ hx185_0)).trans hx185_0
 replace hx185_1 := (HB.out.cell (World.block_lt_of_cell? w _ hx185_1)).trans hx185_1
 have HR185_1 := Aside0.mk hi185_1
 have HC185_1 := Aside0.mk hl185_1
 clear hi185_1 hl185_1
 replace p185 := eq_true p185
 replace q185 := eq_true q185
 try go_wp2_with (first | ((with_reducible refine gate_dst (N := 4) rfl ?_); (try (refine gate_guard (by rfl) ?_; dsimp only)); refine bx_ 4 #[.string (⟨#[]⟩ : ByteArray), .slice none 0 0] 63 ?_; intro gb186 hg w16 hbox hb; have GW186 := b6_ hg HB; have GE186 := b6_ hg HB; have NB184_186 := b4_ hg BK184; have NB186_184 := b5_ hg BK184; replace BK184 := b3_ BK184 hb; replace HB := Aside0.mk (below_step (y1_ HB.out) hb); have BK186 := Aside0.mk (hbox); clear hb hbox hg; have hnb17 := NB186_184.out; have hnc17 := NB184_186.out; have hcz18_0 := c1_ BK186 0 (.string (⟨#[]⟩ : ByteArray)); have hcz18_1 := c1_ BK186 1 (.slice none 0 0); have hfz18_0 := f1_ BK186 0; have hfz18_1 := f1_ BK186 1))
 have n0_ : Aside0 (((w16.setCell ⟨gb186, 0, none⟩ (.string ((rd_T63 l0_0 x8_1).f0))).setCell ⟨gb186, 1, none⟩ (.slice A185_1 ((rd_T63 l0_0 x8_1).f1).length c185_1)).heap[gb184]? = some (.cells #[.slice (some ad185) l0_0.length c0_0] 29 (0, 0))) := ⟨by (with_reducible repeat (first | refine blk_drewN ?_ _ | refine blk_drew ?_ | refine blk_alloc ?_ _)); refine blk_far ?_ NB184_186.out _; (with_reducible repeat (first | refine blk_drewN ?_ _ | refine blk_drew ?_ | refine blk_alloc ?_ _)); refine blk_far ?_ NB184_186.out _; (with_reducible repeat (first | refine blk_drewN ?_ _ | refine blk_drew ?_ | refine blk_alloc ?_ _)); exact BK184.out⟩
 have n1_ : Aside0 (((w16.setCell ⟨gb186, 0, none⟩ (.string ((rd_T63 l0_0 x8_1).f0))).setCell ⟨gb186, 1, none⟩ (.slice A185_1 ((rd_T63 l0_0 x8_1).f1).length c185_1)).heap[gb186]? = some (.cells #[.string ((rd_T63 l0_0 x8_1).f0), .slice A185_1 ((rd_T63 l0_0 x8_1).f1).length c185_1] 63 (0, 0))) := ⟨by (with_reducible repeat (first | refine blk_drewN ?_ _ | refine blk_drew ?_ | refine blk_alloc ?_ _)); refine blk_put (cs := #[.string ((rd_T63 l0_0 x8_1).f0), .slice none 0 0]) ?_ 1 _ rfl; (with_reducible repeat (first | refine blk_drewN ?_ _ | refine blk_drew ?_ | refine blk_alloc ?_ _)); refine blk_put (cs := #[.string (⟨#[]⟩ : ByteArray), .slice none 0 0]) ?_ 0 _ rfl; (with_reducible repeat (first | refine blk_drewN ?_ _ | refine blk_drew ?_ | refine blk_alloc ?_ _)); exact BK186.out⟩
 have n2_ : Aside0 (Below w.heap.size w ((w16.setCell ⟨gb186, 0, none⟩ (.string ((rd_T63 l0_0 x8_1).f0))).setCell ⟨gb186, 1, none⟩ (.slice A185_1 ((rd_T63 l0_0 x8_1).f1).length c185_1))) := ⟨by repeat (first | (with_reducible first | exact HB.out | apply below_alloc | apply pw_below_drewN | apply below_drew1 | refine below_set ?_ GE186.out) | exact HB.out)⟩
 (try clear BK184)
 (try clear BK186)
 (try clear HB)
 generalize ((w16.setCell ⟨gb186, 0, none⟩ (.string ((rd_T63 l0_0 x8_1).f0))).setCell ⟨gb186, 1, none⟩ (.slice A185_1 ((rd_T63 l0_0 x8_1).f1).length c185_1)) = w19 at n0_ n1_ n2_ ⊢
 have BK184 := n0_
 have BK186 := n1_
 have HB := n2_
 clear n0_ n1_ n2_
 replace BK184 := Aside0.mk (blk_drew BK184.out)
 replace BK186 := Aside0.mk (blk_drew BK186.out)
 replace HB := Aside0.mk (below_drew1 HB.out)
 refine start_ (n := 38) (S := fun w' => w'.cell? ⟨gb186, 0, none⟩ = some (.string ((rd_T63 l0_0 x8_1).f0)) ∧ w'.cell? ⟨gb186, 1, none⟩ = some (.slice A185_1 ((rd_T63 l0_0 x8_1).f1).length c185_1)) (ds := []) m0_ s2_ rfl rfl ⟨(blk_cell BK186.out 0).trans rfl, (blk_cell BK186.out 1).trans rfl⟩ (fun hHeld => ?_); refine with_tabW impl_ValidIndex.tab4 impl_ValidIndex.bits4 (fun HT_ HW_ => ?_)
 generalize w19.drew = w20 at BK184 BK186 HB hHeld ⊢
 refine pu_ 0 13 m1_ (any_of HT_.out s2_) ?_
 refine take_ (i := 1) (N := some 14) (v := ?_) (a' := ?_) m2_ rfl rfl (take_ofW HT_.out HW_.out s2_) (fun _ _ _ h => h) (Or.inl ⟨by rfl, ?_⟩) hHeld ?_ ?_
 rotate_left
 {
 rintro w' ⟨s0, s1⟩
 go_simp
 with_reducible rfl}
 rotate_left
 · exact p1_
 refine one_ (i := 2) (N := some 15) m3_ rfl rfl (one_of HT_.out s2_) (by decide) (fun K hK => ?_)
 refine goes_ Try.func51 s2_ rfl #[.string ((rd_T63 l0_0 x8_1).f0)] (by rfl) rfl rfl s3_ ?_
 with_reducible refine (impl_wordOk.calls k1 ((rd_T63 l0_0 x8_1).f0) true _ A7.out).mono ?_
 rintro e w' ⟨rfl, ⟨nd, rfl⟩⟩
 refine ⟨_, rfl, ?_⟩
 refine hK.out _ _ ⟨(blk_cell BK186.out 0).trans rfl, (blk_cell BK186.out 1).trans rfl⟩ (fun hHeld => ?_)
 clear hK K
 refine norm_ (a' := ?_) ?_ ?_
 rotate_left
 {
 show Act.put _ (some 15) _ = _
 simp only [Act.put, List.setIfInBounds_toArray, List.set_cons_zero, List.set_cons_succ, i64_w, i32_w]
 rfl}
 refine pu_ 3 16 m4_ (any_of HT_.out s2_) ?_
 refine pu_ 4 17 m5_ (any_of HT_.out s2_) ?_
 refine pu_ 5 18 m6_ (any_of HT_.out s2_) ?_
 refine take_ (i := 6) (N := some 19) (v := ?_) (a' := ?_) m7_ rfl rfl (take_ofW HT_.out HW_.out s2_) (fun _ _ _ h => h) (Or.inl ⟨by rfl, ?_⟩) hHeld ?_ ?_
 rotate_left
 {
 rintro w' ⟨s0, s1⟩
 go_simp
 with_reducible rfl}
 rotate_left
 · exact p1_
 refine pu_ 7 20 m8_ (any_of HT_.out s2_) ?_
 refine pu_ 8 21 m9_ (any_of HT_.out s2_) ?_
 refine pu_ 9 22 m10_ (any_of HT_.out s2_) ?_
 refine pu_ 10 23 m11_ (any_of HT_.out s2_) ?_
 refine pu_ 11 24 m12_ (any_of HT_.out s2_) ?_
 refine take_ (i := 12) (N := some 25) (v := ?_) (a' := ?_) m13_ rfl rfl (take_ofW HT_.out HW_.out s2_) (fun _ _ _ h => h) (Or.inl ⟨by rfl, ?_⟩) hHeld ?_ ?_
 rotate_left
 {
 rintro w' ⟨s0, s1⟩
 go_simp
 with_reducible rfl}
 rotate_left
 · exact p1_
 refine pu_ 13 26 m14_ (any_of HT_.out s2_) ?_
 refine pu_ 14 27 m15_ (any_of HT_.out s2_) ?_
 refine pu_ 15 28 m16_ (any_of HT_.out s2_) ?_
 refine pu_ 16 29 m17_ (any_of HT_.out s2_) ?_
 refine pn_ 17 30 m18_ (any_of HT_.out s2_) ?_
 refine pn_ 18 31 m19_ (any_of HT_.out s2_) ?_
 refine pn_ 19 32 m20_ (any_of HT_.out s2_) ?_
 refine pn_ 20 33 m21_ (any_of HT_.out s2_) ?_
 refine pu_ 21 34 m22_ (any_of HT_.out s2_) ?_
 refine pu_ 22 35 m23_ (any_of HT_.out s2_) ?_
 refine pn_ 23 36 m24_ (any_of HT_.out s2_) ?_
 refine pn_ 24 37 m25_ (any_of HT_.out s2_) ?_
 refine pn_ 25 38 m26_ (any_of HT_.out s2_) ?_
 refine pn_ 26 39 m27_ (any_of HT_.out s2_) ?_
 refine pn_ 27 40 m28_ (any_of HT_.out s2_) ?_
 refine pn_ 28 41 m29_ (any_of HT_.out s2_) ?_
 refine pn_ 29 42 m30_ (any_of HT_.out s2_) ?_
 refine pn_ 30 43 m31_ (any_of HT_.out s2_) ?_
 refine pn_ 31 44 m32_ (any_of HT_.out s2_) ?_
 refine pn_ 32 45 m33_ (any_of HT_.out s2_) ?_
 refine pn_ 33 46 m34_ (any_of HT_.out s2_) ?_
 refine pn_ 34 47 m35_ (any_of HT_.out s2_) ?_
 refine pn_ 35 48 m36_ (any_of HT_.out s2_) ?_
 refine pn_ 36 49 m37_ (any_of HT_.out s2_) ?_
 refine pu_ 37 50 m38_ (any_of HT_.out s2_) ?_
 refine done_ (done_of HT_.out s2_) ?_
 try go_wp2
 go_ret
 exact ⟨by first | rfl | (simp [errW_none, errW_some] <;> rfl) | (simp [*, errW_none, errW_some] <;> rfl), by repeat (first | (with_reducible first | exact HB.out | apply below_alloc | apply pw_below_drewN | apply below_drew1) | exact HB.out)⟩}
 {
 rw [if_neg c15] at H
 have c15b0 : decide (40 < (((rd_T63 l0_0 x8_1).f1).length : Int)) = false := decide_eq_false c15
 have c15b1 : decide (40 < ((rd_T63 l0_0 x8_1).f1).length) = false := decide_eq_false (by omega)
 clear c15
 replace H := Option.bind_eq_some_iff.mp H
 obtain ⟨t188, A210, H⟩ := H
 replace H : (if t188 = true then (if x8_1 > 0 then (if 0 ≤ (wrap64 (x8_1 - 1)) then (if (wrap64 (x8_1 - 1)) < (l0_0.length : Int) then (if ((Op.bytesLess (((rd_T63 l0_0 (wrap64 (x8_1 - 1))).f0).toList) (((rd_T63 l0_0 x8_1).f0).toList)) = true) then (impl_ValidIndex.l0 k1 l0_0 (l0_0.length : Int) (wrap64 (x8_1 + 1)) l0_0) else (some false)) else (none)) else (none)) else (impl_ValidIndex.l0 k1 l0_0 (l0_0.length : Int) (wrap64 (x8_1 + 1)) l0_0)) else (some false)) = some r := H
 have A21 := Aside0.mk A210
 clear A210
 by_cases c22 : t188 = true
 {
 subst c22
 have H1 : (if x8_1 > 0 then (if 0 ≤ (wrap64 (x8_1 - 1)) then (if (wrap64 (x8_1 - 1)) < (l0_0.length : Int) then (if ((Op.bytesLess (((rd_T63 l0_0 (wrap64 (x8_1 - 1))).f0).toList) (((rd_T63 l0_0 x8_1).f0).toList)) = true) then (impl_ValidIndex.l0 k1 l0_0 (l0_0.length : Int) (wrap64 (x8_1 + 1)) l0_0) else (some false)) else (none)) else (none)) else (impl_ValidIndex.l0 k1 l0_0 (l0_0.length : Int) (wrap64 (x8_1 + 1)) l0_0)) = some r := by rw [if_pos rfl] at H; exact H
 clear H
 have H := H1
 clear H1
 by_cases c23 : x8_1 > 0
 {
 rw [if_pos c23] at H
 have c23b0 : decide (0 < x8_1) = true := decide_eq_true c23
 clear c23
 obtain ⟨ji24, hji24⟩ : ∃ j_ : Int, (wrap64 (x8_1 - 1)) = j_ := ⟨_, rfl⟩
 replace H : (if 0 ≤ (ji24) then (if (ji24) < (l0_0.length : Int) then (if ((Op.bytesLess (((rd_T63 l0_0 (ji24)).f0).toList) (((rd_T63 l0_0 x8_1).f0).toList)) = true) then (impl_ValidIndex.l0 k1 l0_0 (l0_0.length : Int) (wrap64 (x8_1 + 1)) l0_0) else (some false)) else (none)) else (none)) = some r := by first | (rw [hji24] at H; exact H) | (simp only [hji24] at H ⊢; exact H)
 (try rw [hji24] at A7)
 (try rw [hji24] at A21)
 have hji24w : (IntKind.i64.wrap (x8_1 - 1)) = ji24 := (i64_w _).trans hji24
 by_cases c25 : 0 ≤ (ji24)
 {
 rw [if_pos c25] at H
 have c25b0 : decide (0 ≤ (ji24)) = true := decide_eq_true c25
 clear c25
 by_cases c26 : (ji24) < (l0_0.length : Int)
 {
 rw [if_pos c26] at H
 have c26b0 : decide ((ji24) < (l0_0.length : Int)) = true := decide_eq_true c26
 clear c26
 by_cases c27 : ((Op.bytesLess (((rd_T63 l0_0 (ji24)).f0).toList) (((rd_T63 l0_0 x8_1).f0).toList)) = true)
 {
 rw [if_pos c27] at H
 have c27b0 : (Op.bytesLess (((rd_T63 l0_0 (ji24)).f0).toList) (((rd_T63 l0_0 x8_1).f0).toList)) = true := c27
 clear c27
 have H' := Aside0.mk H
 clear H
 have p185 : 0 ≤ (x8_1 : Int) := of_decide_eq_true (by first | (with_reducible assumption) | assumption)
 have q185 : x8_1 < (l0_0.length : Int) := of_decide_eq_true (by first | (with_reducible assumption) | assumption)
 obtain ⟨ad185, A185_1, c185_1, e185, hx185_0, hx185_1, hl185_1, hi185_1⟩ := at_T63 HR0_0.out x8_1 p185 q185
 cases e185
 replace hx185_0 := (HB.out.cell (World.block_lt_of_cell? w _ hx185_0)).trans hx185_0
 replace hx185_1 := (HB.out.cell (World.block_lt_of_cell? w _ hx185_1)).trans hx185_1
 have HR185_1 := Aside0.mk hi185_1
 have HC185_1 := Aside0.mk hl185_1
 clear hi185_1 hl185_1
 replace p185 := eq_true p185
 replace q185 := eq_true q185
 try go_wp2_with (first | ((with_reducible refine gate_dst (N := 4) rfl ?_); (try (refine gate_guard (by rfl) ?_; dsimp only)); refine bx_ 4 #[.string (⟨#[]⟩ : ByteArray), .slice none 0 0] 63 ?_; intro gb186 hg w28 hbox hb; have GW186 := b6_ hg HB; have GE186 := b6_ hg HB; have NB184_186 := b4_ hg BK184; have NB186_184 := b5_ hg BK184; replace BK184 := b3_ BK184 hb; replace HB := Aside0.mk (below_step (y1_ HB.out) hb); have BK186 := Aside0.mk (hbox); clear hb hbox hg; have hnb29 := NB186_184.out; have hnc29 := NB184_186.out; have hcz30_0 := c1_ BK186 0 (.string (⟨#[]⟩ : ByteArray)); have hcz30_1 := c1_ BK186 1 (.slice none 0 0); have hfz30_0 := f1_ BK186 0; have hfz30_1 := f1_ BK186 1))
 have n0_ : Aside0 (((w28.setCell ⟨gb186, 0, none⟩ (.string ((rd_T63 l0_0 x8_1).f0))).setCell ⟨gb186, 1, none⟩ (.slice A185_1 ((rd_T63 l0_0 x8_1).f1).length c185_1)).heap[gb184]? = some (.cells #[.slice (some ad185) l0_0.length c0_0] 29 (0, 0))) := ⟨by (with_reducible repeat (first | refine blk_drewN ?_ _ | refine blk_drew ?_ | refine blk_alloc ?_ _)); refine blk_far ?_ NB184_186.out _; (with_reducible repeat (first | refine blk_drewN ?_ _ | refine blk_drew ?_ | refine blk_alloc ?_ _)); refine blk_far ?_ NB184_186.out _; (with_reducible repeat (first | refine blk_drewN ?_ _ | refine blk_drew ?_ | refine blk_alloc ?_ _)); exact BK184.out⟩
 have n1_ : Aside0 (((w28.setCell ⟨gb186, 0, none⟩ (.string ((rd_T63 l0_0 x8_1).f0))).setCell ⟨gb186, 1, none⟩ (.slice A185_1 ((rd_T63 l0_0 x8_1).f1).length c185_1)).heap[gb186]? = some (.cells #[.string ((rd_T63 l0_0 x8_1).f0), .slice A185_1 ((rd_T63 l0_0 x8_1).f1).length c185_1] 63 (0, 0))) := ⟨by (with_reducible repeat (first | refine blk_drewN ?_ _ | refine blk_drew ?_ | refine blk_alloc ?_ _)); refine blk_put (cs := #[.string ((rd_T63 l0_0 x8_1).f0), .slice none 0 0]) ?_ 1 _ rfl; (with_reducible repeat (first | refine blk_drewN ?_ _ | refine blk_drew ?_ | refine blk_alloc ?_ _)); refine blk_put (cs := #[.string (⟨#[]⟩ : ByteArray), .slice none 0 0]) ?_ 0 _ rfl; (with_reducible repeat (first | refine blk_drewN ?_ _ | refine blk_drew ?_ | refine blk_alloc ?_ _)); exact BK186.out⟩
 have n2_ : Aside0 (Below w.heap.size w ((w28.setCell ⟨gb186, 0, none⟩ (.string ((rd_T63 l0_0 x8_1).f0))).setCell ⟨gb186, 1, none⟩ (.slice A185_1 ((rd_T63 l0_0 x8_1).f1).length c185_1))) := ⟨by repeat (first | (with_reducible first | exact HB.out | apply below_alloc | apply pw_below_drewN | apply below_drew1 | refine below_set ?_ GE186.out) | exact HB.out)⟩
 (try clear BK184)
 (try clear BK186)
 (try clear HB)
 generalize ((w28.setCell ⟨gb186, 0, none⟩ (.string ((rd_T63 l0_0 x8_1).f0))).setCell ⟨gb186, 1, none⟩ (.slice A185_1 ((rd_T63 l0_0 x8_1).f1).length c185_1)) = w31 at n0_ n1_ n2_ ⊢
 have BK184 := n0_
 have BK186 := n1_
 have HB := n2_
 clear n0_ n1_ n2_
 replace BK184 := Aside0.mk (blk_drew BK184.out)
 replace BK186 := Aside0.mk (blk_drew BK186.out)
 replace HB := Aside0.mk (below_drew1 HB.out)
 have p189 : 0 ≤ ((ji24) : Int) := of_decide_eq_true (by first | (with_reducible assumption) | assumption)
 have q189 : (ji24) < (l0_0.length : Int) := of_decide_eq_true (by first | (with_reducible assumption) | assumption)
 obtain ⟨ad189, A189_1, c189_1, e189, hx189_0, hx189_1, hl189_1, hi189_1⟩ := at_T63 HR0_0.out (ji24) p189 q189
 have hw189_1 := hx189_1
 have hw189_0 := hx189_0
 obtain rfl : ad185 = ad189 := (by injection e189)
 replace hx189_0 := (HB.out.cell (World.block_lt_of_cell? w _ hx189_0)).trans hx189_0
 replace hx189_1 := (HB.out.cell (World.block_lt_of_cell? w _ hx189_1)).trans hx189_1
 have HR189_1 := Aside0.mk hi189_1
 have HC189_1 := Aside0.mk hl189_1
 clear hi189_1 hl189_1
 replace p189 := eq_true p189
 replace q189 := eq_true q189
 refine start_ (n := 38) (S := fun w' => w'.cell? ⟨gb186, 0, none⟩ = some (.string ((rd_T63 l0_0 x8_1).f0)) ∧ w'.cell? ⟨gb186, 1, none⟩ = some (.slice A185_1 ((rd_T63 l0_0 x8_1).f1).length c185_1) ∧ w'.cell? ⟨gb184, 0, none⟩ = some (.slice (some ad185) l0_0.length c0_0) ∧ w'.cell? (ad185.add (((ji24)).toNat * 2)) = some (.string ((rd_T63 l0_0 (ji24)).f0)) ∧ w'.cell? ⟨(ad185.add (((ji24)).toNat * 2)).block, (ad185.add (((ji24)).toNat * 2)).off + 1, none⟩ = some (.slice A189_1 ((rd_T63 l0_0 (ji24)).f1).length c189_1)) (ds := []) m0_ s2_ rfl rfl ⟨(blk_cell BK186.out 0).trans rfl, (blk_cell BK186.out 1).trans rfl, (blk_cell BK184.out 0).trans rfl, ((HB.out.cell (World.block_lt_of_cell? w _ hw189_0)).trans hw189_0), ((HB.out.cell (World.block_lt_of_cell? w _ hw189_1)).trans hw189_1)⟩ (fun hHeld => ?_); refine with_tabW impl_ValidIndex.tab4 impl_ValidIndex.bits4 (fun HT_ HW_ => ?_)
 generalize w31.drew = w32 at BK184 BK186 HB HR189_1 hx189_0 hx189_1 hHeld ⊢
 refine pu_ 0 13 m1_ (any_of HT_.out s2_) ?_
 refine take_ (i := 1) (N := some 14) (v := ?_) (a' := ?_) m2_ rfl rfl (take_ofW HT_.out HW_.out s2_) (fun _ _ _ h => h) (Or.inl ⟨by rfl, ?_⟩) hHeld ?_ ?_
 rotate_left
 {
 rintro w' ⟨s0, s1, s2, s3, s4⟩
 go_simp
 with_reducible rfl}
 rotate_left
 · exact p1_
 refine one_ (i := 2) (N := some 15) m3_ rfl rfl (one_of HT_.out s2_) (by decide) (fun K hK => ?_)
 refine goes_ Try.func51 s2_ rfl #[.string ((rd_T63 l0_0 x8_1).f0)] (by rfl) rfl rfl s3_ ?_
 with_reducible refine (impl_wordOk.calls k1 ((rd_T63 l0_0 x8_1).f0) true _ A7.out).mono ?_
 rintro e w' ⟨rfl, ⟨nd, rfl⟩⟩
 refine ⟨_, rfl, ?_⟩
 refine hK.out _ _ ⟨(blk_cell BK186.out 0).trans rfl, (blk_cell BK186.out 1).trans rfl, (blk_cell BK184.out 0).trans rfl, ((HB.out.cell (World.block_lt_of_cell? w _ hw189_0)).trans hw189_0), ((HB.out.cell (World.block_lt_of_cell? w _ hw189_1)).trans hw189_1)⟩ (fun hHeld => ?_)
 clear hK K
 refine norm_ (a' := ?_) ?_ ?_
 rotate_left
 {
 show Act.put _ (some 15) _ = _
 simp only [Act.put, List.setIfInBounds_toArray, List.set_cons_zero, List.set_cons_succ, i64_w, i32_w]
 rfl}
 refine pu_ 3 16 m4_ (any_of HT_.out s2_) ?_
 refine pu_ 4 17 m5_ (any_of HT_.out s2_) ?_
 refine pu_ 5 18 m6_ (any_of HT_.out s2_) ?_
 refine take_ (i := 6) (N := some 19) (v := ?_) (a' := ?_) m7_ rfl rfl (take_ofW HT_.out HW_.out s2_) (fun _ _ _ h => h) (Or.inl ⟨by rfl, ?_⟩) hHeld ?_ ?_
 rotate_left
 {
 rintro w' ⟨s0, s1, s2, s3, s4⟩
 go_simp
 with_reducible rfl}
 rotate_left
 · exact p1_
 refine pu_ 7 20 m8_ (any_of HT_.out s2_) ?_
 refine pu_ 8 21 m9_ (any_of HT_.out s2_) ?_
 refine pu_ 9 22 m10_ (any_of HT_.out s2_) ?_
 refine pu_ 10 23 m11_ (any_of HT_.out s2_) ?_
 refine pu_ 11 24 m12_ (any_of HT_.out s2_) ?_
 refine take_ (i := 12) (N := some 25) (v := ?_) (a' := ?_) m13_ rfl rfl (take_ofW HT_.out HW_.out s2_) (fun _ _ _ h => h) (Or.inl ⟨by rfl, ?_⟩) hHeld ?_ ?_
 rotate_left
 {
 rintro w' ⟨s0, s1, s2, s3, s4⟩
 go_simp
 with_reducible rfl}
 rotate_left
 · exact p1_
 refine pu_ 13 26 m14_ (any_of HT_.out s2_) ?_
 refine pu_ 14 27 m15_ (any_of HT_.out s2_) ?_
 refine pu_ 15 28 m16_ (any_of HT_.out s2_) ?_
 refine pu_ 16 29 m17_ (any_of HT_.out s2_) ?_
 refine pu_ 17 30 m18_ (any_of HT_.out s2_) ?_
 refine take_ (i := 18) (N := some 31) (v := ?_) (a' := ?_) m19_ rfl rfl (take_ofW HT_.out HW_.out s2_) (fun _ _ _ h => h) (Or.inl ⟨by rfl, ?_⟩) hHeld ?_ ?_
 rotate_left
 {
 rintro w' ⟨s0, s1, s2, s3, s4⟩
 go_simp
 with_reducible rfl}
 rotate_left
 · exact p1_
 refine one_ (i := 19) (N := some 32) m20_ rfl rfl (one_of HT_.out s2_) (by decide) (fun K hK => ?_)
 refine goes_ Try.func52 s2_ rfl #[.slice A185_1 ((rd_T63 l0_0 x8_1).f1).length c185_1, .func (.func 53) #[] #[]] (by rfl) rfl rfl s3_ ?_
 with_reducible refine (impl_rising_v0.calls k1 _ _ ((rd_T63 l0_0 x8_1).f1)  true _ ?side1 ?side2 A21.out).mono ?_
 (case side1 => exact y2_ (Kd.C_below HR185_1.out (y1_ HB.out)))
 (case side2 => exact HC185_1.out)
 rintro e w' ⟨rfl, ⟨nd, rfl⟩⟩
 refine ⟨_, rfl, ?_⟩
 refine hK.out _ _ ⟨(blk_cell BK186.out 0).trans rfl, (blk_cell BK186.out 1).trans rfl, (blk_cell BK184.out 0).trans rfl, ((HB.out.cell (World.block_lt_of_cell? w _ hw189_0)).trans hw189_0), ((HB.out.cell (World.block_lt_of_cell? w _ hw189_1)).trans hw189_1)⟩ (fun hHeld => ?_)
 clear hK K
 refine norm_ (a' := ?_) ?_ ?_
 rotate_left
 {
 show Act.put _ (some 32) _ = _
 simp only [Act.put, List.setIfInBounds_toArray, List.set_cons_zero, List.set_cons_succ, i64_w, i32_w]
 rfl}
 refine pu_ 20 33 m21_ (any_of HT_.out s2_) ?_
 refine pu_ 21 34 m22_ (any_of HT_.out s2_) ?_
 refine pu_ 22 35 m23_ (any_of HT_.out s2_) ?_
 refine pu_ 23 36 m24_ (any_of HT_.out s2_) ?_
 refine pu_ 24 37 m25_ (any_of HT_.out s2_) ?_
 refine pu_ 25 38 m26_ (any_of HT_.out s2_) ?_
 refine pu_ 26 39 m27_ (any_of HT_.out s2_) ?_
 refine pu_ 28 41 m39_ (any_of HT_.out s2_) ?_
 refine pu_ 29 42 m40_ (any_of HT_.out s2_) ?_
 refine pu_ 33 46 m41_ (any_of HT_.out s2_) ?_
 refine take_ (i := 27) (N := some 40) (v := ?_) (a' := ?_) m42_ rfl rfl (take_ofW HT_.out HW_.out s2_) (fun _ _ _ h => h) (Or.inl ⟨by rfl, ?_⟩) hHeld ?_ ?_
 rotate_left
 {
 rintro w' ⟨s0, s1, s2, s3, s4⟩
 go_simp
 with_reducible rfl}
 rotate_left
 · exact p1_
 refine pu_ 30 43 m43_ (any_of HT_.out s2_) ?_
 refine pu_ 31 44 m44_ (any_of HT_.out s2_) ?_
 refine take_ (i := 32) (N := some 45) (v := ?_) (a' := ?_) m34_ rfl rfl (take_ofW HT_.out HW_.out s2_) (fun _ _ _ h => h) (Or.inl ⟨by rfl, ?_⟩) hHeld ?_ ?_
 rotate_left
 {
 rintro w' ⟨s0, s1, s2, s3, s4⟩
 go_simp
 with_reducible rfl}
 rotate_left
 · exact p1_
 refine take_ (i := 34) (N := some 47) (v := ?_) (a' := ?_) m35_ rfl rfl (take_ofW HT_.out HW_.out s2_) (fun _ _ _ h => h) (Or.inl ⟨by rfl, ?_⟩) hHeld ?_ ?_
 rotate_left
 {
 rintro w' ⟨s0, s1, s2, s3, s4⟩
 go_simp
 with_reducible rfl}
 rotate_left
 · exact p1_
 refine pu_ 35 48 m36_ (any_of HT_.out s2_) ?_
 refine pu_ 36 49 m37_ (any_of HT_.out s2_) ?_
 refine pu_ 37 50 m38_ (any_of HT_.out s2_) ?_
 refine done_ (done_of HT_.out s2_) ?_
 try go_wp2
 go_roundg k1
 case measure => have := HK1.out; omega
 case rel => exact ⟨(wrap64 (x8_1 + 1)), s1_, H', ⟨by have := HK1.out; omega⟩, ⟨b1_ BK184.out⟩, ⟨by repeat (first | (with_reducible first | exact HB.out | apply below_alloc | apply pw_below_drewN | apply below_drew1) | exact HB.out)⟩⟩}
 {
 rw [if_neg c27] at H
 have c27b0 : (Op.bytesLess (((rd_T63 l0_0 (ji24)).f0).toList) (((rd_T63 l0_0 x8_1).f0).toList)) = false := by simpa using c27
 clear c27
 obtain rfl := Option.some.inj H
 have p185 : 0 ≤ (x8_1 : Int) := of_decide_eq_true (by first | (with_reducible assumption) | assumption)
 have q185 : x8_1 < (l0_0.length : Int) := of_decide_eq_true (by first | (with_reducible assumption) | assumption)
 obtain ⟨ad185, A185_1, c185_1, e185, hx185_0, hx185_1, hl185_1, hi185_1⟩ := at_T63 HR0_0.out x8_1 p185 q185
 cases e185
 replace hx185_0 := (HB.out.cell (World.block_lt_of_cell? w _ hx185_0)).trans hx185_0
 replace hx185_1 := (HB.out.cell (World.block_lt_of_cell? w _ hx185_1)).trans hx185_1
 have HR185_1 := Aside0.mk hi185_1
 have HC185_1 := Aside0.mk hl185_1
 clear hi185_1 hl185_1
 replace p185 := eq_true p185
 replace q185 := eq_true q185
 try go_wp2_with (first | ((with_reducible refine gate_dst (N := 4) rfl ?_); (try (refine gate_guard (by rfl) ?_; dsimp only)); refine bx_ 4 #[.string (⟨#[]⟩ : ByteArray), .slice none 0 0] 63 ?_; intro gb186 hg w33 hbox hb; have GW186 := b6_ hg HB; have GE186 := b6_ hg HB; have NB184_186 := b4_ hg BK184; have NB186_184 := b5_ hg BK184; replace BK184 := b3_ BK184 hb; replace HB := Aside0.mk (below_step (y1_ HB.out) hb); have BK186 := Aside0.mk (hbox); clear hb hbox hg; have hnb34 := NB186_184.out; have hnc34 := NB184_186.out; have hcz35_0 := c1_ BK186 0 (.string (⟨#[]⟩ : ByteArray)); have hcz35_1 := c1_ BK186 1 (.slice none 0 0); have hfz35_0 := f1_ BK186 0; have hfz35_1 := f1_ BK186 1))
 have n0_ : Aside0 (((w33.setCell ⟨gb186, 0, none⟩ (.string ((rd_T63 l0_0 x8_1).f0))).setCell ⟨gb186, 1, none⟩ (.slice A185_1 ((rd_T63 l0_0 x8_1).f1).length c185_1)).heap[gb184]? = some (.cells #[.slice (some ad185) l0_0.length c0_0] 29 (0, 0))) := ⟨by (with_reducible repeat (first | refine blk_drewN ?_ _ | refine blk_drew ?_ | refine blk_alloc ?_ _)); refine blk_far ?_ NB184_186.out _; (with_reducible repeat (first | refine blk_drewN ?_ _ | refine blk_drew ?_ | refine blk_alloc ?_ _)); refine blk_far ?_ NB184_186.out _; (with_reducible repeat (first | refine blk_drewN ?_ _ | refine blk_drew ?_ | refine blk_alloc ?_ _)); exact BK184.out⟩
 have n1_ : Aside0 (((w33.setCell ⟨gb186, 0, none⟩ (.string ((rd_T63 l0_0 x8_1).f0))).setCell ⟨gb186, 1, none⟩ (.slice A185_1 ((rd_T63 l0_0 x8_1).f1).length c185_1)).heap[gb186]? = some (.cells #[.string ((rd_T63 l0_0 x8_1).f0), .slice A185_1 ((rd_T63 l0_0 x8_1).f1).length c185_1] 63 (0, 0))) := ⟨by (with_reducible repeat (first | refine blk_drewN ?_ _ | refine blk_drew ?_ | refine blk_alloc ?_ _)); refine blk_put (cs := #[.string ((rd_T63 l0_0 x8_1).f0), .slice none 0 0]) ?_ 1 _ rfl; (with_reducible repeat (first | refine blk_drewN ?_ _ | refine blk_drew ?_ | refine blk_alloc ?_ _)); refine blk_put (cs := #[.string (⟨#[]⟩ : ByteArray), .slice none 0 0]) ?_ 0 _ rfl; (with_reducible repeat (first | refine blk_drewN ?_ _ | refine blk_drew ?_ | refine blk_alloc ?_ _)); exact BK186.out⟩
 have n2_ : Aside0 (Below w.heap.size w ((w33.setCell ⟨gb186, 0, none⟩ (.string ((rd_T63 l0_0 x8_1).f0))).setCell ⟨gb186, 1, none⟩ (.slice A185_1 ((rd_T63 l0_0 x8_1).f1).length c185_1))) := ⟨by repeat (first | (with_reducible first | exact HB.out | apply below_alloc | apply pw_below_drewN | apply below_drew1 | refine below_set ?_ GE186.out) | exact HB.out)⟩
 (try clear BK184)
 (try clear BK186)
 (try clear HB)
 generalize ((w33.setCell ⟨gb186, 0, none⟩ (.string ((rd_T63 l0_0 x8_1).f0))).setCell ⟨gb186, 1, none⟩ (.slice A185_1 ((rd_T63 l0_0 x8_1).f1).length c185_1)) = w36 at n0_ n1_ n2_ ⊢
 have BK184 := n0_
 have BK186 := n1_
 have HB := n2_
 clear n0_ n1_ n2_
 replace BK184 := Aside0.mk (blk_drew BK184.out)
 replace BK186 := Aside0.mk (blk_drew BK186.out)
 replace HB := Aside0.mk (below_drew1 HB.out)
 have p189 : 0 ≤ ((ji24) : Int) := of_decide_eq_true (by first | (with_reducible assumption) | assumption)
 have q189 : (ji24) < (l0_0.length : Int) := of_decide_eq_true (by first | (with_reducible assumption) | assumption)
 obtain ⟨ad189, A189_1, c189_1, e189, hx189_0, hx189_1, hl189_1, hi189_1⟩ := at_T63 HR0_0.out (ji24) p189 q189
 have hw189_1 := hx189_1
 have hw189_0 := hx189_0
 obtain rfl : ad185 = ad189 := (by injection e189)
 replace hx189_0 := (HB.out.cell (World.block_lt_of_cell? w _ hx189_0)).trans hx189_0
 replace hx189_1 := (HB.out.cell (World.block_lt_of_cell? w _ hx189_1)).trans hx189_1
 have HR189_1 := Aside0.mk hi189_1
 have HC189_1 := Aside0.mk hl189_1
 clear hi189_1 hl189_1
 replace p189 := eq_true p189
 replace q189 := eq_true q189
 refine start_ (n := 38) (S := fun w' => w'.cell? ⟨gb186, 0, none⟩ = some (.string ((rd_T63 l0_0 x8_1).f0)) ∧ w'.cell? ⟨gb186, 1, none⟩ = some (.slice A185_1 ((rd_T63 l0_0 x8_1).f1).length c185_1) ∧ w'.cell? ⟨gb184, 0, none⟩ = some (.slice (some ad185) l0_0.length c0_0) ∧ w'.cell? (ad185.add (((ji24)).toNat * 2)) = some (.string ((rd_T63 l0_0 (ji24)).f0)) ∧ w'.cell? ⟨(ad185.add (((ji24)).toNat * 2)).block, (ad185.add (((ji24)).toNat * 2)).off + 1, none⟩ = some (.slice A189_1 ((rd_T63 l0_0 (ji24)).f1).length c189_1)) (ds := []) m0_ s2_ rfl rfl ⟨(blk_cell BK186.out 0).trans rfl, (blk_cell BK186.out 1).trans rfl, (blk_cell BK184.out 0).trans rfl, ((HB.out.cell (World.block_lt_of_cell? w _ hw189_0)).trans hw189_0), ((HB.out.cell (World.block_lt_of_cell? w _ hw189_1)).trans hw189_1)⟩ (fun hHeld => ?_); refine with_tabW impl_ValidIndex.tab4 impl_ValidIndex.bits4 (fun HT_ HW_ => ?_)
 generalize w36.drew = w37 at BK184 BK186 HB HR189_1 hx189_0 hx189_1 hHeld ⊢
 refine pu_ 0 13 m1_ (any_of HT_.out s2_) ?_
 refine take_ (i := 1) (N := some 14) (v := ?_) (a' := ?_) m2_ rfl rfl (take_ofW HT_.out HW_.out s2_) (fun _ _ _ h => h) (Or.inl ⟨by rfl, ?_⟩) hHeld ?_ ?_
 rotate_left
 {
 rintro w' ⟨s0, s1, s2, s3, s4⟩
 go_simp
 with_reducible rfl}
 rotate_left
 · exact p1_
 refine one_ (i := 2) (N := some 15) m3_ rfl rfl (one_of HT_.out s2_) (by decide) (fun K hK => ?_)
 refine goes_ Try.func51 s2_ rfl #[.string ((rd_T63 l0_0 x8_1).f0)] (by rfl) rfl rfl s3_ ?_
 with_reducible refine (impl_wordOk.calls k1 ((rd_T63 l0_0 x8_1).f0) true _ A7.out).mono ?_
 rintro e w' ⟨rfl, ⟨nd, rfl⟩⟩
 refine ⟨_, rfl, ?_⟩
 refine hK.out _ _ ⟨(blk_cell BK186.out 0).trans rfl, (blk_cell BK186.out 1).trans rfl, (blk_cell BK184.out 0).trans rfl, ((HB.out.cell (World.block_lt_of_cell? w _ hw189_0)).trans hw189_0), ((HB.out.cell (World.block_lt_of_cell? w _ hw189_1)).trans hw189_1)⟩ (fun hHeld => ?_)
 clear hK K
 refine norm_ (a' := ?_) ?_ ?_
 rotate_left
 {
 show Act.put _ (some 15) _ = _
 simp only [Act.put, List.setIfInBounds_toArray, List.set_cons_zero, List.set_cons_succ, i64_w, i32_w]
 rfl}
 refine pu_ 3 16 m4_ (any_of HT_.out s2_) ?_
 refine pu_ 4 17 m5_ (any_of HT_.out s2_) ?_
 refine pu_ 5 18 m6_ (any_of HT_.out s2_) ?_
 refine take_ (i := 6) (N := some 19) (v := ?_) (a' := ?_) m7_ rfl rfl (take_ofW HT_.out HW_.out s2_) (fun _ _ _ h => h) (Or.inl ⟨by rfl, ?_⟩) hHeld ?_ ?_
 rotate_left
 {
 rintro w' ⟨s0, s1, s2, s3, s4⟩
 go_simp
 with_reducible rfl}
 rotate_left
 · exact p1_
 refine pu_ 7 20 m8_ (any_of HT_.out s2_) ?_
 refine pu_ 8 21 m9_ (any_of HT_.out s2_) ?_
 refine pu_ 9 22 m10_ (any_of HT_.out s2_) ?_
 refine pu_ 10 23 m11_ (any_of HT_.out s2_) ?_
 refine pu_ 11 24 m12_ (any_of HT_.out s2_) ?_
 refine take_ (i := 12) (N := some 25) (v := ?_) (a' := ?_) m13_ rfl rfl (take_ofW HT_.out HW_.out s2_) (fun _ _ _ h => h) (Or.inl ⟨by rfl, ?_⟩) hHeld ?_ ?_
 rotate_left
 {
 rintro w' ⟨s0, s1, s2, s3, s4⟩
 go_simp
 with_reducible rfl}
 rotate_left
 · exact p1_
 refine pu_ 13 26 m14_ (any_of HT_.out s2_) ?_
 refine pu_ 14 27 m15_ (any_of HT_.out s2_) ?_
 refine pu_ 15 28 m16_ (any_of HT_.out s2_) ?_
 refine pu_ 16 29 m17_ (any_of HT_.out s2_) ?_
 refine pu_ 17 30 m18_ (any_of HT_.out s2_) ?_
 refine take_ (i := 18) (N := some 31) (v := ?_) (a' := ?_) m19_ rfl rfl (take_ofW HT_.out HW_.out s2_) (fun _ _ _ h => h) (Or.inl ⟨by rfl, ?_⟩) hHeld ?_ ?_
 rotate_left
 {
 rintro w' ⟨s0, s1, s2, s3, s4⟩
 go_simp
 with_reducible rfl}
 rotate_left
 · exact p1_
 refine one_ (i := 19) (N := some 32) m20_ rfl rfl (one_of HT_.out s2_) (by decide) (fun K hK => ?_)
 refine goes_ Try.func52 s2_ rfl #[.slice A185_1 ((rd_T63 l0_0 x8_1).f1).length c185_1, .func (.func 53) #[] #[]] (by rfl) rfl rfl s3_ ?_
 with_reducible refine (impl_rising_v0.calls k1 _ _ ((rd_T63 l0_0 x8_1).f1)  true _ ?side1 ?side2 A21.out).mono ?_
 (case side1 => exact y2_ (Kd.C_below HR185_1.out (y1_ HB.out)))
 (case side2 => exact HC185_1.out)
 rintro e w' ⟨rfl, ⟨nd, rfl⟩⟩
 refine ⟨_, rfl, ?_⟩
 refine hK.out _ _ ⟨(blk_cell BK186.out 0).trans rfl, (blk_cell BK186.out 1).trans rfl, (blk_cell BK184.out 0).trans rfl, ((HB.out.cell (World.block_lt_of_cell? w _ hw189_0)).trans hw189_0), ((HB.out.cell (World.block_lt_of_cell? w _ hw189_1)).trans hw189_1)⟩ (fun hHeld => ?_)
 clear hK K
 refine norm_ (a' := ?_) ?_ ?_
 rotate_left
 {
 show Act.put _ (some 32) _ = _
 simp only [Act.put, List.setIfInBounds_toArray, List.set_cons_zero, List.set_cons_succ, i64_w, i32_w]
 rfl}
 refine pu_ 20 33 m21_ (any_of HT_.out s2_) ?_
 refine pu_ 21 34 m22_ (any_of HT_.out s2_) ?_
 refine pu_ 22 35 m23_ (any_of HT_.out s2_) ?_
 refine pu_ 23 36 m24_ (any_of HT_.out s2_) ?_
 refine pu_ 24 37 m25_ (any_of HT_.out s2_) ?_
 refine pu_ 25 38 m26_ (any_of HT_.out s2_) ?_
 refine pu_ 26 39 m27_ (any_of HT_.out s2_) ?_
 refine pu_ 28 41 m39_ (any_of HT_.out s2_) ?_
 refine pu_ 29 42 m40_ (any_of HT_.out s2_) ?_
 refine pu_ 33 46 m41_ (any_of HT_.out s2_) ?_
 refine take_ (i := 27) (N := some 40) (v := ?_) (a' := ?_) m42_ rfl rfl (take_ofW HT_.out HW_.out s2_) (fun _ _ _ h => h) (Or.inl ⟨by rfl, ?_⟩) hHeld ?_ ?_
 rotate_left
 {
 rintro w' ⟨s0, s1, s2, s3, s4⟩
 go_simp
 with_reducible rfl}
 rotate_left
 · exact p1_
 refine pu_ 30 43 m43_ (any_of HT_.out s2_) ?_
 refine pu_ 31 44 m44_ (any_of HT_.out s2_) ?_
 refine take_ (i := 32) (N := some 45) (v := ?_) (a' := ?_) m34_ rfl rfl (take_ofW HT_.out HW_.out s2_) (fun _ _ _ h => h) (Or.inl ⟨by rfl, ?_⟩) hHeld ?_ ?_
 rotate_left
 {
 rintro w' ⟨s0, s1, s2, s3, s4⟩
 go_simp
 with_reducible rfl}
 rotate_left
 · exact p1_
 refine take_ (i := 34) (N := some 47) (v := ?_) (a' := ?_) m35_ rfl rfl (take_ofW HT_.out HW_.out s2_) (fun _ _ _ h => h) (Or.inl ⟨by rfl, ?_⟩) hHeld ?_ ?_
 rotate_left
 {
 rintro w' ⟨s0, s1, s2, s3, s4⟩
 go_simp
 with_reducible rfl}
 rotate_left
 · exact p1_
 refine pu_ 35 48 m36_ (any_of HT_.out s2_) ?_
 refine pu_ 36 49 m37_ (any_of HT_.out s2_) ?_
 refine pu_ 37 50 m38_ (any_of HT_.out s2_) ?_
 refine done_ (done_of HT_.out s2_) ?_
 try go_wp2
 go_ret
 exact ⟨by first | rfl | (simp [errW_none, errW_some] <;> rfl) | (simp only [← hji24]; first | rfl | (simp [errW_none, errW_some] <;> rfl)) | (simp [*, errW_none, errW_some] <;> rfl), by repeat (first | (with_reducible first | exact HB.out | apply below_alloc | apply pw_below_drewN | apply below_drew1) | exact HB.out)⟩}}
 {
 rw [if_neg c26] at H
 exact absurd H (by simp)}}
 {
 rw [if_neg c25] at H
 exact absurd H (by simp)}}
 {
 rw [if_neg c23] at H
 have c23b0 : decide (0 < x8_1) = false := decide_eq_false c23
 clear c23
 have H' := Aside0.mk H
 clear H
 have p185 : 0 ≤ (x8_1 : Int) := of_decide_eq_true (by first | (with_reducible assumption) | assumption)
 have q185 : x8_1 < (l0_0.length : Int) := of_decide_eq_true (by first | (with_reducible assumption) | assumption)
 obtain ⟨ad185, A185_1, c185_1, e185, hx185_0, hx185_1, hl185_1, hi185_1⟩ := at_T63 HR0_0.out x8_1 p185 q185
 cases e185
 replace hx185_0 := (HB.out.cell (World.block_lt_of_cell? w _ hx185_0)).trans hx185_0
 replace hx185_1 := (HB.out.cell (World.block_lt_of_cell? w _ hx185_1)).trans hx185_1
 have HR185_1 := Aside0.mk hi185_1
 have HC185_1 := Aside0.mk hl185_1
 clear hi185_1 hl185_1
 replace p185 := eq_true p185
 replace q185 := eq_true q185
 try go_wp2_with (first | ((with_reducible refine gate_dst (N := 4) rfl ?_); (try (refine gate_guard (by rfl) ?_; dsimp only)); refine bx_ 4 #[.string (⟨#[]⟩ : ByteArray), .slice none 0 0] 63 ?_; intro gb186 hg w38 hbox hb; have GW186 := b6_ hg HB; have GE186 := b6_ hg HB; have NB184_186 := b4_ hg BK184; have NB186_184 := b5_ hg BK184; replace BK184 := b3_ BK184 hb; replace HB := Aside0.mk (below_step (y1_ HB.out) hb); have BK186 := Aside0.mk (hbox); clear hb hbox hg; have hnb39 := NB186_184.out; have hnc39 := NB184_186.out; have hcz40_0 := c1_ BK186 0 (.string (⟨#[]⟩ : ByteArray)); have hcz40_1 := c1_ BK186 1 (.slice none 0 0); have hfz40_0 := f1_ BK186 0; have hfz40_1 := f1_ BK186 1))
 have n0_ : Aside0 (((w38.setCell ⟨gb186, 0, none⟩ (.string ((rd_T63 l0_0 x8_1).f0))).setCell ⟨gb186, 1, none⟩ (.slice A185_1 ((rd_T63 l0_0 x8_1).f1).length c185_1)).heap[gb184]? = some (.cells #[.slice (some ad185) l0_0.length c0_0] 29 (0, 0))) := ⟨by (with_reducible repeat (first | refine blk_drewN ?_ _ | refine blk_drew ?_ | refine blk_alloc ?_ _)); refine blk_far ?_ NB184_186.out _; (with_reducible repeat (first | refine blk_drewN ?_ _ | refine blk_drew ?_ | refine blk_alloc ?_ _)); refine blk_far ?_ NB184_186.out _; (with_reducible repeat (first | refine blk_drewN ?_ _ | refine blk_drew ?_ | refine blk_alloc ?_ _)); exact BK184.out⟩
 have n1_ : Aside0 (((w38.setCell ⟨gb186, 0, none⟩ (.string ((rd_T63 l0_0 x8_1).f0))).setCell ⟨gb186, 1, none⟩ (.slice A185_1 ((rd_T63 l0_0 x8_1).f1).length c185_1)).heap[gb186]? = some (.cells #[.string ((rd_T63 l0_0 x8_1).f0), .slice A185_1 ((rd_T63 l0_0 x8_1).f1).length c185_1] 63 (0, 0))) := ⟨by (with_reducible repeat (first | refine blk_drewN ?_ _ | refine blk_drew ?_ | refine blk_alloc ?_ _)); refine blk_put (cs := #[.string ((rd_T63 l0_0 x8_1).f0), .slice none 0 0]) ?_ 1 _ rfl; (with_reducible repeat (first | refine blk_drewN ?_ _ | refine blk_drew ?_ | refine blk_alloc ?_ _)); refine blk_put (cs := #[.string (⟨#[]⟩ : ByteArray), .slice none 0 0]) ?_ 0 _ rfl; (with_reducible repeat (first | refine blk_drewN ?_ _ | refine blk_drew ?_ | refine blk_alloc ?_ _)); exact BK186.out⟩
 have n2_ : Aside0 (Below w.heap.size w ((w38.setCell ⟨gb186, 0, none⟩ (.string ((rd_T63 l0_0 x8_1).f0))).setCell ⟨gb186, 1, none⟩ (.slice A185_1 ((rd_T63 l0_0 x8_1).f1).length c185_1))) := ⟨by repeat (first | (with_reducible first | exact HB.out | apply below_alloc | apply pw_below_drewN | apply below_drew1 | refine below_set ?_ GE186.out) | exact HB.out)⟩
 (try clear BK184)
 (try clear BK186)
 (try clear HB)
 generalize ((w38.setCell ⟨gb186, 0, none⟩ (.string ((rd_T63 l0_0 x8_1).f0))).setCell ⟨gb186, 1, none⟩ (.slice A185_1 ((rd_T63 l0_0 x8_1).f1).length c185_1)) = w41 at n0_ n1_ n2_ ⊢
 have BK184 := n0_
 have BK186 := n1_
 have HB := n2_
 clear n0_ n1_ n2_
 replace BK184 := Aside0.mk (blk_drew BK184.out)
 replace BK186 := Aside0.mk (blk_drew BK186.out)
 replace HB := Aside0.mk (below_drew1 HB.out)
 refine start_ (n := 38) (S := fun w' => w'.cell? ⟨gb186, 0, none⟩ = some (.string ((rd_T63 l0_0 x8_1).f0)) ∧ w'.cell? ⟨gb186, 1, none⟩ = some (.slice A185_1 ((rd_T63 l0_0 x8_1).f1).length c185_1)) (ds := []) m0_ s2_ rfl rfl ⟨(blk_cell BK186.out 0).trans rfl, (blk_cell BK186.out 1).trans rfl⟩ (fun hHeld => ?_); refine with_tabW impl_ValidIndex.tab4 impl_ValidIndex.bits4 (fun HT_ HW_ => ?_)
 generalize w41.drew = w42 at BK184 BK186 HB hHeld ⊢
 refine pu_ 0 13 m1_ (any_of HT_.out s2_) ?_
 refine take_ (i := 1) (N := some 14) (v := ?_) (a' := ?_) m2_ rfl rfl (take_ofW HT_.out HW_.out s2_) (fun _ _ _ h => h) (Or.inl ⟨by rfl, ?_⟩) hHeld ?_ ?_
 rotate_left
 {
 rintro w' ⟨s0, s1⟩
 go_simp
 with_reducible rfl}
 rotate_left
 · exact p1_
 refine one_ (i := 2) (N := some 15) m3_ rfl rfl (one_of HT_.out s2_) (by decide) (fun K hK => ?_)
 refine goes_ Try.func51 s2_ rfl #[.string ((rd_T63 l0_0 x8_1).f0)] (by rfl) rfl rfl s3_ ?_
 with_reducible refine (impl_wordOk.calls k1 ((rd_T63 l0_0 x8_1).f0) true _ A7.out).mono ?_
 rintro e w' ⟨rfl, ⟨nd, rfl⟩⟩
 refine ⟨_, rfl, ?_⟩
 refine hK.out _ _ ⟨(blk_cell BK186.out 0).trans rfl, (blk_cell BK186.out 1).trans rfl⟩ (fun hHeld => ?_)
 clear hK K
 refine norm_ (a' := ?_) ?_ ?_
 rotate_left
 {
 show Act.put _ (some 15) _ = _
 simp only [Act.put, List.setIfInBounds_toArray, List.set_cons_zero, List.set_cons_succ, i64_w, i32_w]
 rfl}
 refine pu_ 3 16 m4_ (any_of HT_.out s2_) ?_
 refine pu_ 4 17 m5_ (any_of HT_.out s2_) ?_
 refine pu_ 5 18 m6_ (any_of HT_.out s2_) ?_
 refine take_ (i := 6) (N := some 19) (v := ?_) (a' := ?_) m7_ rfl rfl (take_ofW HT_.out HW_.out s2_) (fun _ _ _ h => h) (Or.inl ⟨by rfl, ?_⟩) hHeld ?_ ?_
 rotate_left
 {
 rintro w' ⟨s0, s1⟩
 go_simp
 with_reducible rfl}
 rotate_left
 · exact p1_
 refine pu_ 7 20 m8_ (any_of HT_.out s2_) ?_
 refine pu_ 8 21 m9_ (any_of HT_.out s2_) ?_
 refine pu_ 9 22 m10_ (any_of HT_.out s2_) ?_
 refine pu_ 10 23 m11_ (any_of HT_.out s2_) ?_
 refine pu_ 11 24 m12_ (any_of HT_.out s2_) ?_
 refine take_ (i := 12) (N := some 25) (v := ?_) (a' := ?_) m13_ rfl rfl (take_ofW HT_.out HW_.out s2_) (fun _ _ _ h => h) (Or.inl ⟨by rfl, ?_⟩) hHeld ?_ ?_
 rotate_left
 {
 rintro w' ⟨s0, s1⟩
 go_simp
 with_reducible rfl}
 rotate_left
 · exact p1_
 refine pu_ 13 26 m14_ (any_of HT_.out s2_) ?_
 refine pu_ 14 27 m15_ (any_of HT_.out s2_) ?_
 refine pu_ 15 28 m16_ (any_of HT_.out s2_) ?_
 refine pu_ 16 29 m17_ (any_of HT_.out s2_) ?_
 refine pu_ 17 30 m18_ (any_of HT_.out s2_) ?_
 refine take_ (i := 18) (N := some 31) (v := ?_) (a' := ?_) m19_ rfl rfl (take_ofW HT_.out HW_.out s2_) (fun _ _ _ h => h) (Or.inl ⟨by rfl, ?_⟩) hHeld ?_ ?_
 rotate_left
 {
 rintro w' ⟨s0, s1⟩
 go_simp
 with_reducible rfl}
 rotate_left
 · exact p1_
 refine one_ (i := 19) (N := some 32) m20_ rfl rfl (one_of HT_.out s2_) (by decide) (fun K hK => ?_)
 refine goes_ Try.func52 s2_ rfl #[.slice A185_1 ((rd_T63 l0_0 x8_1).f1).length c185_1, .func (.func 53) #[] #[]] (by rfl) rfl rfl s3_ ?_
 with_reducible refine (impl_rising_v0.calls k1 _ _ ((rd_T63 l0_0 x8_1).f1)  true _ ?side1 ?side2 A21.out).mono ?_
 (case side1 => exact y2_ (Kd.C_below HR185_1.out (y1_ HB.out)))
 (case side2 => exact HC185_1.out)
 rintro e w' ⟨rfl, ⟨nd, rfl⟩⟩
 refine ⟨_, rfl, ?_⟩
 refine hK.out _ _ ⟨(blk_cell BK186.out 0).trans rfl, (blk_cell BK186.out 1).trans rfl⟩ (fun hHeld => ?_)
 clear hK K
 refine norm_ (a' := ?_) ?_ ?_
 rotate_left
 {
 show Act.put _ (some 32) _ = _
 simp only [Act.put, List.setIfInBounds_toArray, List.set_cons_zero, List.set_cons_succ, i64_w, i32_w]
 rfl}
 refine pu_ 20 33 m21_ (any_of HT_.out s2_) ?_
 refine pu_ 21 34 m22_ (any_of HT_.out s2_) ?_
 refine pu_ 22 35 m23_ (any_of HT_.out s2_) ?_
 refine pu_ 23 36 m24_ (any_of HT_.out s2_) ?_
 refine pu_ 24 37 m25_ (any_of HT_.out s2_) ?_
 refine pu_ 25 38 m26_ (any_of HT_.out s2_) ?_
 refine pn_ 26 39 m27_ (any_of HT_.out s2_) ?_
 refine pn_ 27 40 m28_ (any_of HT_.out s2_) ?_
 refine pn_ 28 41 m29_ (any_of HT_.out s2_) ?_
 refine pn_ 29 42 m30_ (any_of HT_.out s2_) ?_
 refine pn_ 30 43 m31_ (any_of HT_.out s2_) ?_
 refine pn_ 31 44 m32_ (any_of HT_.out s2_) ?_
 refine pn_ 32 45 m33_ (any_of HT_.out s2_) ?_
 refine pn_ 33 46 m34_ (any_of HT_.out s2_) ?_
 refine pn_ 34 47 m35_ (any_of HT_.out s2_) ?_
 refine pn_ 35 48 m36_ (any_of HT_.out s2_) ?_
 refine pu_ 36 49 m37_ (any_of HT_.out s2_) ?_
 refine pu_ 37 50 m38_ (any_of HT_.out s2_) ?_
 refine done_ (done_of HT_.out s2_) ?_
 try go_wp2
 go_roundg k1
 case measure => have := HK1.out; omega
 case rel => exact ⟨(wrap64 (x8_1 + 1)), s1_, H', ⟨by have := HK1.out; omega⟩, ⟨b1_ BK184.out⟩, ⟨by repeat (first | (with_reducible first | exact HB.out | apply below_alloc | apply pw_below_drewN | apply below_drew1) | exact HB.out)⟩⟩}}
 {
 replace c22 := Bool.eq_false_iff.mpr c22
 subst c22
 have H1 : (some false) = some r := by rw [if_neg (show ¬ (false = true) by decide)] at H; exact H
 clear H
 have H := H1
 clear H1
 obtain rfl := Option.some.inj H
 have p185 : 0 ≤ (x8_1 : Int) := of_decide_eq_true (by first | (with_reducible assumption) | assumption)
 have q185 : x8_1 < (l0_0.length : Int) := of_decide_eq_true (by first | (with_reducible assumption) | assumption)
 obtain ⟨ad185, A185_1, c185_1, e185, hx185_0, hx185_1, hl185_1, hi185_1⟩ := at_T63 HR0_0.out x8_1 p185 q185
 cases e185
 replace hx185_0 := (HB.out.cell (World.block_lt_of_cell? w _ hx185_0)).trans hx185_0
 replace hx185_1 := (HB.out.cell (World.block_lt_of_cell? w _ hx185_1)).trans hx185_1
 have HR185_1 := Aside0.mk hi185_1
 have HC185_1 := Aside0.mk hl185_1
 clear hi185_1 hl185_1
 replace p185 := eq_true p185
 replace q185 := eq_true q185
 try go_wp2_with (first | ((with_reducible refine gate_dst (N := 4) rfl ?_); (try (refine gate_guard (by rfl) ?_; dsimp only)); refine bx_ 4 #[.string (⟨#[]⟩ : ByteArray), .slice none 0 0] 63 ?_; intro gb186 hg w43 hbox hb; have GW186 := b6_ hg HB; have GE186 := b6_ hg HB; have NB184_186 := b4_ hg BK184; have NB186_184 := b5_ hg BK184; replace BK184 := b3_ BK184 hb; replace HB := Aside0.mk (below_step (y1_ HB.out) hb); have BK186 := Aside0.mk (hbox); clear hb hbox hg; have hnb44 := NB186_184.out; have hnc44 := NB184_186.out; have hcz45_0 := c1_ BK186 0 (.string (⟨#[]⟩ : ByteArray)); have hcz45_1 := c1_ BK186 1 (.slice none 0 0); have hfz45_0 := f1_ BK186 0; have hfz45_1 := f1_ BK186 1))
 have n0_ : Aside0 (((w43.setCell ⟨gb186, 0, none⟩ (.string ((rd_T63 l0_0 x8_1).f0))).setCell ⟨gb186, 1, none⟩ (.slice A185_1 ((rd_T63 l0_0 x8_1).f1).length c185_1)).heap[gb184]? = some (.cells #[.slice (some ad185) l0_0.length c0_0] 29 (0, 0))) := ⟨by (with_reducible repeat (first | refine blk_drewN ?_ _ | refine blk_drew ?_ | refine blk_alloc ?_ _)); refine blk_far ?_ NB184_186.out _; (with_reducible repeat (first | refine blk_drewN ?_ _ | refine blk_drew ?_ | refine blk_alloc ?_ _)); refine blk_far ?_ NB184_186.out _; (with_reducible repeat (first | refine blk_drewN ?_ _ | refine blk_drew ?_ | refine blk_alloc ?_ _)); exact BK184.out⟩
 have n1_ : Aside0 (((w43.setCell ⟨gb186, 0, none⟩ (.string ((rd_T63 l0_0 x8_1).f0))).setCell ⟨gb186, 1, none⟩ (.slice A185_1 ((rd_T63 l0_0 x8_1).f1).length c185_1)).heap[gb186]? = some (.cells #[.string ((rd_T63 l0_0 x8_1).f0), .slice A185_1 ((rd_T63 l0_0 x8_1).f1).length c185_1] 63 (0, 0))) := ⟨by (with_reducible repeat (first | refine blk_drewN ?_ _ | refine blk_drew ?_ | refine blk_alloc ?_ _)); refine blk_put (cs := #[.string ((rd_T63 l0_0 x8_1).f0), .slice none 0 0]) ?_ 1 _ rfl; (with_reducible repeat (first | refine blk_drewN ?_ _ | refine blk_drew ?_ | refine blk_alloc ?_ _)); refine blk_put (cs := #[.string (⟨#[]⟩ : ByteArray), .slice none 0 0]) ?_ 0 _ rfl; (with_reducible repeat (first | refine blk_drewN ?_ _ | refine blk_drew ?_ | refine blk_alloc ?_ _)); exact BK186.out⟩
 have n2_ : Aside0 (Below w.heap.size w ((w43.setCell ⟨gb186, 0, none⟩ (.string ((rd_T63 l0_0 x8_1).f0))).setCell ⟨gb186, 1, none⟩ (.slice A185_1 ((rd_T63 l0_0 x8_1).f1).length c185_1))) := ⟨by repeat (first | (with_reducible first | exact HB.out | apply below_alloc | apply pw_below_drewN | apply below_drew1 | refine below_set ?_ GE186.out) | exact HB.out)⟩
 (try clear BK184)
 (try clear BK186)
 (try clear HB)
 generalize ((w43.setCell ⟨gb186, 0, none⟩ (.string ((rd_T63 l0_0 x8_1).f0))).setCell ⟨gb186, 1, none⟩ (.slice A185_1 ((rd_T63 l0_0 x8_1).f1).length c185_1)) = w46 at n0_ n1_ n2_ ⊢
 have BK184 := n0_
 have BK186 := n1_
 have HB := n2_
 clear n0_ n1_ n2_
 replace BK184 := Aside0.mk (blk_drew BK184.out)
 replace BK186 := Aside0.mk (blk_drew BK186.out)
 replace HB := Aside0.mk (below_drew1 HB.out)
 refine start_ (n := 38) (S := fun w' => w'.cell? ⟨gb186, 0, none⟩ = some (.string ((rd_T63 l0_0 x8_1).f0)) ∧ w'.cell? ⟨gb186, 1, none⟩ = some (.slice A185_1 ((rd_T63 l0_0 x8_1).f1).length c185_1)) (ds := []) m0_ s2_ rfl rfl ⟨(blk_cell BK186.out 0).trans rfl, (blk_cell BK186.out 1).trans rfl⟩ (fun hHeld => ?_); refine with_tabW impl_ValidIndex.tab4 impl_ValidIndex.bits4 (fun HT_ HW_ => ?_)
 generalize w46.drew = w47 at BK184 BK186 HB hHeld ⊢
 refine pu_ 0 13 m1_ (any_of HT_.out s2_) ?_
 refine take_ (i := 1) (N := some 14) (v := ?_) (a' := ?_) m2_ rfl rfl (take_ofW HT_.out HW_.out s2_) (fun _ _ _ h => h) (Or.inl ⟨by rfl, ?_⟩) hHeld ?_ ?_
 rotate_left
 {
 rintro w' ⟨s0, s1⟩
 go_simp
 with_reducible rfl}
 rotate_left
 · exact p1_
 refine one_ (i := 2) (N := some 15) m3_ rfl rfl (one_of HT_.out s2_) (by decide) (fun K hK => ?_)
 refine goes_ Try.func51 s2_ rfl #[.string ((rd_T63 l0_0 x8_1).f0)] (by rfl) rfl rfl s3_ ?_
 with_reducible refine (impl_wordOk.calls k1 ((rd_T63 l0_0 x8_1).f0) true _ A7.out).mono ?_
 rintro e w' ⟨rfl, ⟨nd, rfl⟩⟩
 refine ⟨_, rfl, ?_⟩
 refine hK.out _ _ ⟨(blk_cell BK186.out 0).trans rfl, (blk_cell BK186.out 1).trans rfl⟩ (fun hHeld => ?_)
 clear hK K
 refine norm_ (a' := ?_) ?_ ?_
 rotate_left
 {
 show Act.put _ (some 15) _ = _
 simp only [Act.put, List.setIfInBounds_toArray, List.set_cons_zero, List.set_cons_succ, i64_w, i32_w]
 rfl}
 refine pu_ 3 16 m4_ (any_of HT_.out s2_) ?_
 refine pu_ 4 17 m5_ (any_of HT_.out s2_) ?_
 refine pu_ 5 18 m6_ (any_of HT_.out s2_) ?_
 refine take_ (i := 6) (N := some 19) (v := ?_) (a' := ?_) m7_ rfl rfl (take_ofW HT_.out HW_.out s2_) (fun _ _ _ h => h) (Or.inl ⟨by rfl, ?_⟩) hHeld ?_ ?_
 rotate_left
 {
 rintro w' ⟨s0, s1⟩
 go_simp
 with_reducible rfl}
 rotate_left
 · exact p1_
 refine pu_ 7 20 m8_ (any_of HT_.out s2_) ?_
 refine pu_ 8 21 m9_ (any_of HT_.out s2_) ?_
 refine pu_ 9 22 m10_ (any_of HT_.out s2_) ?_
 refine pu_ 10 23 m11_ (any_of HT_.out s2_) ?_
 refine pu_ 11 24 m12_ (any_of HT_.out s2_) ?_
 refine take_ (i := 12) (N := some 25) (v := ?_) (a' := ?_) m13_ rfl rfl (take_ofW HT_.out HW_.out s2_) (fun _ _ _ h => h) (Or.inl ⟨by rfl, ?_⟩) hHeld ?_ ?_
 rotate_left
 {
 rintro w' ⟨s0, s1⟩
 go_simp
 with_reducible rfl}
 rotate_left
 · exact p1_
 refine pu_ 13 26 m14_ (any_of HT_.out s2_) ?_
 refine pu_ 14 27 m15_ (any_of HT_.out s2_) ?_
 refine pu_ 15 28 m16_ (any_of HT_.out s2_) ?_
 refine pu_ 16 29 m17_ (any_of HT_.out s2_) ?_
 refine pu_ 17 30 m18_ (any_of HT_.out s2_) ?_
 refine take_ (i := 18) (N := some 31) (v := ?_) (a' := ?_) m19_ rfl rfl (take_ofW HT_.out HW_.out s2_) (fun _ _ _ h => h) (Or.inl ⟨by rfl, ?_⟩) hHeld ?_ ?_
 rotate_left
 {
 rintro w' ⟨s0, s1⟩
 go_simp
 with_reducible rfl}
 rotate_left
 · exact p1_
 refine one_ (i := 19) (N := some 32) m20_ rfl rfl (one_of HT_.out s2_) (by decide) (fun K hK => ?_)
 refine goes_ Try.func52 s2_ rfl #[.slice A185_1 ((rd_T63 l0_0 x8_1).f1).length c185_1, .func (.func 53) #[] #[]] (by rfl) rfl rfl s3_ ?_
 with_reducible refine (impl_rising_v0.calls k1 _ _ ((rd_T63 l0_0 x8_1).f1)  false _ ?side1 ?side2 A21.out).mono ?_
 (case side1 => exact y2_ (Kd.C_below HR185_1.out (y1_ HB.out)))
 (case side2 => exact HC185_1.out)
 rintro e w' ⟨rfl, ⟨nd, rfl⟩⟩
 refine ⟨_, rfl, ?_⟩
 refine hK.out _ _ ⟨(blk_cell BK186.out 0).trans rfl, (blk_cell BK186.out 1).trans rfl⟩ (fun hHeld => ?_)
 clear hK K
 refine norm_ (a' := ?_) ?_ ?_
 rotate_left
 {
 show Act.put _ (some 32) _ = _
 simp only [Act.put, List.setIfInBounds_toArray, List.set_cons_zero, List.set_cons_succ, i64_w, i32_w]
 rfl}
 refine pu_ 20 33 m21_ (any_of HT_.out s2_) ?_
 refine pu_ 21 34 m22_ (any_of HT_.out s2_) ?_
 refine pu_ 22 35 m23_ (any_of HT_.out s2_) ?_
 refine pn_ 23 36 m24_ (any_of HT_.out s2_) ?_
 refine pn_ 24 37 m25_ (any_of HT_.out s2_) ?_
 refine pn_ 25 38 m26_ (any_of HT_.out s2_) ?_
 refine pn_ 26 39 m27_ (any_of HT_.out s2_) ?_
 refine pn_ 27 40 m28_ (any_of HT_.out s2_) ?_
 refine pn_ 28 41 m29_ (any_of HT_.out s2_) ?_
 refine pn_ 29 42 m30_ (any_of HT_.out s2_) ?_
 refine pn_ 30 43 m31_ (any_of HT_.out s2_) ?_
 refine pn_ 31 44 m32_ (any_of HT_.out s2_) ?_
 refine pn_ 32 45 m33_ (any_of HT_.out s2_) ?_
 refine pn_ 33 46 m34_ (any_of HT_.out s2_) ?_
 refine pn_ 34 47 m35_ (any_of HT_.out s2_) ?_
 refine pn_ 35 48 m36_ (any_of HT_.out s2_) ?_
 refine pn_ 36 49 m37_ (any_of HT_.out s2_) ?_
 refine pu_ 37 50 m38_ (any_of HT_.out s2_) ?_
 refine done_ (done_of HT_.out s2_) ?_
 try go_wp2
 go_ret
 exact ⟨by first | rfl | (simp [errW_none, errW_some] <;> rfl) | (simp [*, errW_none, errW_some] <;> rfl), by repeat (first | (with_reducible first | exact HB.out | apply below_alloc | apply pw_below_drewN | apply below_drew1) | exact HB.out)⟩}}}}
 {
 replace c8 := Bool.eq_false_iff.mpr c8
 subst c8
 have H1 : (some false) = some r := by rw [if_neg (show ¬ (false = true) by decide)] at H; exact H
 clear H
 have H := H1
 clear H1
 obtain rfl := Option.some.inj H
 have p185 : 0 ≤ (x8_1 : Int) := of_decide_eq_true (by first | (with_reducible assumption) | assumption)
 have q185 : x8_1 < (l0_0.length : Int) := of_decide_eq_true (by first | (with_reducible assumption) | assumption)
 obtain ⟨ad185, A185_1, c185_1, e185, hx185_0, hx185_1, hl185_1, hi185_1⟩ := at_T63 HR0_0.out x8_1 p185 q185
 cases e185
 replace hx185_0 := (HB.out.cell (World.block_lt_of_cell? w _ hx185_0)).trans hx185_0
 replace hx185_1 := (HB.out.cell (World.block_lt_of_cell? w _ hx185_1)).trans hx185_1
 have HR185_1 := Aside0.mk hi185_1
 have HC185_1 := Aside0.mk hl185_1
 clear hi185_1 hl185_1
 replace p185 := eq_true p185
 replace q185 := eq_true q185
 try go_wp2_with (first | ((with_reducible refine gate_dst (N := 4) rfl ?_); (try (refine gate_guard (by rfl) ?_; dsimp only)); refine bx_ 4 #[.string (⟨#[]⟩ : ByteArray), .slice none 0 0] 63 ?_; intro gb186 hg w48 hbox hb; have GW186 := b6_ hg HB; have GE186 := b6_ hg HB; have NB184_186 := b4_ hg BK184; have NB186_184 := b5_ hg BK184; replace BK184 := b3_ BK184 hb; replace HB := Aside0.mk (below_step (y1_ HB.out) hb); have BK186 := Aside0.mk (hbox); clear hb hbox hg; have hnb49 := NB186_184.out; have hnc49 := NB184_186.out; have hcz50_0 := c1_ BK186 0 (.string (⟨#[]⟩ : ByteArray)); have hcz50_1 := c1_ BK186 1 (.slice none 0 0); have hfz50_0 := f1_ BK186 0; have hfz50_1 := f1_ BK186 1))
 have n0_ : Aside0 (((w48.setCell ⟨gb186, 0, none⟩ (.string ((rd_T63 l0_0 x8_1).f0))).setCell ⟨gb186, 1, none⟩ (.slice A185_1 ((rd_T63 l0_0 x8_1).f1).length c185_1)).heap[gb184]? = some (.cells #[.slice (some ad185) l0_0.length c0_0] 29 (0, 0))) := ⟨by (with_reducible repeat (first | refine blk_drewN ?_ _ | refine blk_drew ?_ | refine blk_alloc ?_ _)); refine blk_far ?_ NB184_186.out _; (with_reducible repeat (first | refine blk_drewN ?_ _ | refine blk_drew ?_ | refine blk_alloc ?_ _)); refine blk_far ?_ NB184_186.out _; (with_reducible repeat (first | refine blk_drewN ?_ _ | refine blk_drew ?_ | refine blk_alloc ?_ _)); exact BK184.out⟩
 have n1_ : Aside0 (((w48.setCell ⟨gb186, 0, none⟩ (.string ((rd_T63 l0_0 x8_1).f0))).setCell ⟨gb186, 1, none⟩ (.slice A185_1 ((rd_T63 l0_0 x8_1).f1).length c185_1)).heap[gb186]? = some (.cells #[.string ((rd_T63 l0_0 x8_1).f0), .slice A185_1 ((rd_T63 l0_0 x8_1).f1).length c185_1] 63 (0, 0))) := ⟨by (with_reducible repeat (first | refine blk_drewN ?_ _ | refine blk_drew ?_ | refine blk_alloc ?_ _)); refine blk_put (cs := #[.string ((rd_T63 l0_0 x8_1).f0), .slice none 0 0]) ?_ 1 _ rfl; (with_reducible repeat (first | refine blk_drewN ?_ _ | refine blk_drew ?_ | refine blk_alloc ?_ _)); refine blk_put (cs := #[.string (⟨#[]⟩ : ByteArray), .slice none 0 0]) ?_ 0 _ rfl; (with_reducible repeat (first | refine blk_drewN ?_ _ | refine blk_drew ?_ | refine blk_alloc ?_ _)); exact BK186.out⟩
 have n2_ : Aside0 (Below w.heap.size w ((w48.setCell ⟨gb186, 0, none⟩ (.string ((rd_T63 l0_0 x8_1).f0))).setCell ⟨gb186, 1, none⟩ (.slice A185_1 ((rd_T63 l0_0 x8_1).f1).length c185_1))) := ⟨by repeat (first | (with_reducible first | exact HB.out | apply below_alloc | apply pw_below_drewN | apply below_drew1 | refine below_set ?_ GE186.out) | exact HB.out)⟩
 (try clear BK184)
 (try clear BK186)
 (try clear HB)
 generalize ((w48.setCell ⟨gb186, 0, none⟩ (.string ((rd_T63 l0_0 x8_1).f0))).setCell ⟨gb186, 1, none⟩ (.slice A185_1 ((rd_T63 l0_0 x8_1).f1).length c185_1)) = w51 at n0_ n1_ n2_ ⊢
 have BK184 := n0_
 have BK186 := n1_
 have HB := n2_
 clear n0_ n1_ n2_
 replace BK184 := Aside0.mk (blk_drew BK184.out)
 replace BK186 := Aside0.mk (blk_drew BK186.out)
 replace HB := Aside0.mk (below_drew1 HB.out)
 refine start_ (n := 38) (S := fun w' => w'.cell? ⟨gb186, 0, none⟩ = some (.string ((rd_T63 l0_0 x8_1).f0)) ∧ w'.cell? ⟨gb186, 1, none⟩ = some (.slice A185_1 ((rd_T63 l0_0 x8_1).f1).length c185_1)) (ds := []) m0_ s2_ rfl rfl ⟨(blk_cell BK186.out 0).trans rfl, (blk_cell BK186.out 1).trans rfl⟩ (fun hHeld => ?_); refine with_tabW impl_ValidIndex.tab4 impl_ValidIndex.bits4 (fun HT_ HW_ => ?_)
 generalize w51.drew = w52 at BK184 BK186 HB hHeld ⊢
 refine pu_ 0 13 m1_ (any_of HT_.out s2_) ?_
 refine take_ (i := 1) (N := some 14) (v := ?_) (a' := ?_) m2_ rfl rfl (take_ofW HT_.out HW_.out s2_) (fun _ _ _ h => h) (Or.inl ⟨by rfl, ?_⟩) hHeld ?_ ?_
 rotate_left
 {
 rintro w' ⟨s0, s1⟩
 go_simp
 with_reducible rfl}
 rotate_left
 · exact p1_
 refine one_ (i := 2) (N := some 15) m3_ rfl rfl (one_of HT_.out s2_) (by decide) (fun K hK => ?_)
 refine goes_ Try.func51 s2_ rfl #[.string ((rd_T63 l0_0 x8_1).f0)] (by rfl) rfl rfl s3_ ?_
 with_reducible refine (impl_wordOk.calls k1 ((rd_T63 l0_0 x8_1).f0) false _ A7.out).mono ?_
 rintro e w' ⟨rfl, ⟨nd, rfl⟩⟩
 refine ⟨_, rfl, ?_⟩
 refine hK.out _ _ ⟨(blk_cell BK186.out 0).trans rfl, (blk_cell BK186.out 1).trans rfl⟩ (fun hHeld => ?_)
 clear hK K
 refine norm_ (a' := ?_) ?_ ?_
 rotate_left
 {
 show Act.put _ (some 15) _ = _
 simp only [Act.put, List.setIfInBounds_toArray, List.set_cons_zero, List.set_cons_succ, i64_w, i32_w]
 rfl}
 refine pu_ 3 16 m4_ (any_of HT_.out s2_) ?_
 refine pu_ 4 17 m5_ (any_of HT_.out s2_) ?_
 refine pn_ 5 18 m6_ (any_of HT_.out s2_) ?_
 refine pn_ 6 19 m7_ (any_of HT_.out s2_) ?_
 refine pn_ 7 20 m8_ (any_of HT_.out s2_) ?_
 refine pn_ 8 21 m9_ (any_of HT_.out s2_) ?_
 refine pu_ 9 22 m10_ (any_of HT_.out s2_) ?_
 refine pu_ 10 23 m11_ (any_of HT_.out s2_) ?_
 refine pn_ 11 24 m12_ (any_of HT_.out s2_) ?_
 refine pn_ 12 25 m13_ (any_of HT_.out s2_) ?_
 refine pn_ 13 26 m14_ (any_of HT_.out s2_) ?_
 refine pn_ 14 27 m15_ (any_of HT_.out s2_) ?_
 refine pu_ 15 28 m16_ (any_of HT_.out s2_) ?_
 refine pu_ 16 29 m17_ (any_of HT_.out s2_) ?_
 refine pn_ 17 30 m18_ (any_of HT_.out s2_) ?_
 refine pn_ 18 31 m19_ (any_of HT_.out s2_) ?_
 refine pn_ 19 32 m20_ (any_of HT_.out s2_) ?_
 refine pn_ 20 33 m21_ (any_of HT_.out s2_) ?_
 refine pu_ 21 34 m22_ (any_of HT_.out s2_) ?_
 refine pu_ 22 35 m23_ (any_of HT_.out s2_) ?_
 refine pn_ 23 36 m24_ (any_of HT_.out s2_) ?_
 refine pn_ 24 37 m25_ (any_of HT_.out s2_) ?_
 refine pn_ 25 38 m26_ (any_of HT_.out s2_) ?_
 refine pn_ 26 39 m27_ (any_of HT_.out s2_) ?_
 refine pn_ 27 40 m28_ (any_of HT_.out s2_) ?_
 refine pn_ 28 41 m29_ (any_of HT_.out s2_) ?_
 refine pn_ 29 42 m30_ (any_of HT_.out s2_) ?_
 refine pn_ 30 43 m31_ (any_of HT_.out s2_) ?_
 refine pn_ 31 44 m32_ (any_of HT_.out s2_) ?_
 refine pn_ 32 45 m33_ (any_of HT_.out s2_) ?_
 refine pn_ 33 46 m34_ (any_of HT_.out s2_) ?_
 refine pn_ 34 47 m35_ (any_of HT_.out s2_) ?_
 refine pn_ 35 48 m36_ (any_of HT_.out s2_) ?_
 refine pn_ 36 49 m37_ (any_of HT_.out s2_) ?_
 refine pu_ 37 50 m38_ (any_of HT_.out s2_) ?_
 refine done_ (done_of HT_.out s2_) ?_
 try go_wp2
 go_ret
 exact ⟨by first | rfl | (simp [errW_none, errW_some] <;> rfl) | (simp [*, errW_none, errW_some] <;> rfl), by repeat (first | (with_reducible first | exact HB.out | apply below_alloc | apply pw_below_drewN | apply below_drew1) | exact HB.out)⟩}}
 {
 rw [if_neg c6] at H
 exact absurd H (by simp)}}
 {
 rw [if_neg c5] at H
 exact absurd H (by simp)}}
 {
 rw [if_neg c4] at H
 have c4b0 : decide (x8_1 < (l0_0.length : Int)) = false := decide_eq_false c4
 clear c4
 obtain rfl := Option.some.inj H
 go_wp2
 go_ret
 exact ⟨by first | rfl | (simp [errW_none, errW_some] <;> rfl) | (simp [*, errW_none, errW_some] <;> rfl), by repeat (first | (with_reducible first | exact HB.out | apply below_alloc | apply pw_below_drewN | apply below_drew1) | exact HB.out)⟩}}}

end Go.Proofs.Ytcnhepjdibbkgaa.QFnExactNumbersOf
