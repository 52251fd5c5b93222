-- written by a program of this session, on the lines of the kit's print
import Derived.Test.YtgfilednbllkmaaQFnExactSweepPresencex0
import Derived.Test.YtgfilednbllkmaaQFnExactSweepPresencex3
import Derived.Test.YtgfilednbllkmaaQFnExactSweepPresencex5
namespace Go.Proofs.Ytgfilednbllkmaa.QFnExactSweepPresence
open Go.RowKit Go.Proofs.YtgfilednbllkmaaW.PrintWords Go.Proofs.YtgfilednbllkmaaW.PrintLast Go.Proofs.YtgfilednbllkmaaW.PrintMore
attribute [local go_sem] max2_int min2_int max_two min_two max_three min_three max_four min_four   -- for this text's walks alone
set_option linter.unusedVariables false
set_option linter.unusedSimpArgs false

/-! ### spec_SweepPresence: function 30 -/
abbrev spec_SweepPresence.T : Bool := true
abbrev spec_SweepPresence.F : Bool := false
theorem spec_SweepPresence.s1_ {P : Prop} (h : P := by first | rfl | (simp; done) | (simp [*]; done)) : P := h
theorem spec_SweepPresence.s2_ {P : Prop} (h : P := by kernel_rfl) : P := h
theorem spec_SweepPresence.s3_ {P : Prop} (h : P := by (try simp only [List.map_toArray, List.map_cons, List.map_nil]); first | done | rfl | (simp only [List.length_drop, List.length_take]; rfl)) : P := h
abbrev spec_SweepPresence.m0_ : Array Bool := #[F,F,F,F,F,F,F,F,F,F,F]
abbrev spec_SweepPresence.m1_ : Array Bool := #[T,F,F,F,F,F,F,F,F,F,F]
abbrev spec_SweepPresence.m2_ : Array Bool := #[T,F,T,F,F,F,F,F,F,F,F]
abbrev spec_SweepPresence.m3_ : Array Bool := #[T,F,T,F,T,F,F,F,F,F,F]
abbrev spec_SweepPresence.m4_ : Array Bool := #[T,T,T,F,T,F,F,F,F,F,F]
abbrev spec_SweepPresence.m5_ : Array Bool := #[T,T,T,T,T,F,F,F,F,F,F]
abbrev spec_SweepPresence.m6_ : Array Bool := #[T,T,T,T,T,T,F,F,F,F,F]
abbrev spec_SweepPresence.m7_ : Array Bool := #[T,T,T,T,T,T,T,F,F,F,F]
abbrev spec_SweepPresence.m8_ : Array Bool := #[T,T,T,T,T,T,T,T,F,F,F]
abbrev spec_SweepPresence.m9_ : Array Bool := #[T,T,T,T,T,T,T,T,T,F,F]
abbrev spec_SweepPresence.m10_ : Array Bool := #[T,T,T,T,T,T,T,T,T,T,F]
abbrev spec_SweepPresence.m11_ : Array Bool := #[T,T,T,T,T,T,T,T,T,T,T]
abbrev spec_SweepPresence.m12_ : Array Bool := #[F,F,F,F,F,F,F,F,F,F,F,F,F,F,F,F,F,F,F,F,F]
abbrev spec_SweepPresence.m13_ : Array Bool := #[T,F,F,F,F,F,F,F,F,F,F,F,F,F,F,F,F,F,F,F,F]
abbrev spec_SweepPresence.m14_ : Array Bool := #[T,F,T,F,F,F,F,F,F,F,F,F,F,F,F,F,F,F,F,F,F]
abbrev spec_SweepPresence.m15_ : Array Bool := #[T,F,T,F,F,F,T,F,F,F,F,F,F,F,F,F,F,F,F,F,F]
abbrev spec_SweepPresence.m16_ : Array Bool := #[T,T,T,F,F,F,T,F,F,F,F,F,F,F,F,F,F,F,F,F,F]
abbrev spec_SweepPresence.m17_ : Array Bool := #[T,T,T,T,F,F,T,F,F,F,F,F,F,F,F,F,F,F,F,F,F]
abbrev spec_SweepPresence.m18_ : Array Bool := #[T,T,T,T,T,F,T,F,F,F,F,F,F,F,F,F,F,F,F,F,F]
abbrev spec_SweepPresence.m19_ : Array Bool := #[T,T,T,T,T,T,T,F,F,F,F,F,F,F,F,F,F,F,F,F,F]
abbrev spec_SweepPresence.m20_ : Array Bool := #[T,T,T,T,T,T,T,T,F,F,F,F,F,F,F,F,F,F,F,F,F]
abbrev spec_SweepPresence.m21_ : Array Bool := #[T,T,T,T,T,T,T,T,T,F,F,F,F,F,F,F,F,F,F,F,F]
abbrev spec_SweepPresence.m22_ : Array Bool := #[T,T,T,T,T,T,T,T,T,T,F,F,F,F,F,F,F,F,F,F,F]
abbrev spec_SweepPresence.m23_ : Array Bool := #[T,T,T,T,T,T,T,T,T,T,F,T,F,F,F,F,F,F,F,F,F]
abbrev spec_SweepPresence.m24_ : Array Bool := #[T,T,T,T,T,T,T,T,T,T,F,T,F,T,F,F,F,F,F,F,F]
abbrev spec_SweepPresence.m25_ : Array Bool := #[T,T,T,T,T,T,T,T,T,T,F,T,F,T,F,F,F,F,T,F,F]
abbrev spec_SweepPresence.m26_ : Array Bool := #[T,T,T,T,T,T,T,T,T,T,T,T,F,T,F,F,F,F,T,F,F]
abbrev spec_SweepPresence.m27_ : Array Bool := #[T,T,T,T,T,T,T,T,T,T,T,T,T,T,F,F,F,F,T,F,F]
abbrev spec_SweepPresence.m28_ : Array Bool := #[T,T,T,T,T,T,T,T,T,T,T,T,T,T,T,F,F,F,T,F,F]
abbrev spec_SweepPresence.m29_ : Array Bool := #[T,T,T,T,T,T,T,T,T,T,T,T,T,T,T,T,F,F,T,F,F]
abbrev spec_SweepPresence.m30_ : Array Bool := #[T,T,T,T,T,T,T,T,T,T,T,T,T,T,T,T,T,F,T,F,F]
abbrev spec_SweepPresence.m31_ : Array Bool := #[T,T,T,T,T,T,T,T,T,T,T,T,T,T,T,T,T,T,T,F,F]
abbrev spec_SweepPresence.m32_ : Array Bool := #[T,T,T,T,T,T,T,T,T,T,T,T,T,T,T,T,T,T,T,T,F]
abbrev spec_SweepPresence.m33_ : Array Bool := #[T,T,T,T,T,T,T,T,T,T,T,T,T,T,T,T,T,T,T,T,T]
theorem spec_SweepPresence.p1_ {P : Prop} (h : P := by simp only [Act.put, List.setIfInBounds_toArray, List.set_cons_zero, List.set_cons_succ, i64_w, i32_w]; rfl) : P := h
theorem spec_SweepPresence.b1_ {P Q : Prop} (q : Q) (h : Q → P := by intro q_; (with_reducible repeat (first | refine blk_drewN ?_ _ | refine blk_drew ?_ | refine blk_alloc ?_ _)); exact q_) : P := h q
theorem spec_SweepPresence.b2_ {P Q : Prop} (q : Q) (h : Q → P := by intro q_; (with_reducible repeat (first | apply Kd.R_alloc | apply Kd.R_drewN | apply Kd.R_drew)); exact q_) : P := h q
theorem spec_SweepPresence.y1_ {P Q : Prop} (q : Q) (h : Q → P := by intro q_; repeat (first | (with_reducible first | exact q_ | apply below_alloc | apply pw_below_drewN | apply below_drew1) | exact q_)) : P := h q
theorem spec_SweepPresence.y2_ {P Q : Prop} (q : Q) (h : Q → P := by intro q_; repeat (first | exact q_ | (with_reducible refine Kd.C_alloc ?_ _) | (with_reducible refine Kd.C_drewN ?_ _) | (with_reducible refine Kd.C_drew ?_))) : P := h q
theorem spec_SweepPresence.b3_ {w w1 W : World} {g : Nat} {o : Obj} (q : Aside0 (w.heap[g]? = some o)) (hb : Below W.heap.size W w1) (h : w.heap[g]? = some o → W.heap[g]? = some o := by intro q_; (with_reducible repeat (first | refine blk_drewN ?_ _ | refine blk_drew ?_ | refine blk_alloc ?_ _)); exact q_) : Aside0 (w1.heap[g]? = some o) := ⟨blk_below (h q.out) hb⟩
theorem spec_SweepPresence.b4_ {w W : World} {g k : Nat} {o : Obj} (hg : k = W.heap.size) (q : Aside0 (w.heap[g]? = some o)) (h : w.heap[g]? = some o → W.heap[g]? = some o := by intro q_; (with_reducible repeat (first | refine blk_drewN ?_ _ | refine blk_drew ?_ | refine blk_alloc ?_ _)); exact q_) : Aside0 (g ≠ k) := ⟨by rw [hg]; exact Nat.ne_of_lt (blk_lt (h q.out))⟩
theorem spec_SweepPresence.b5_ {w W : World} {g k : Nat} {o : Obj} (hg : k = W.heap.size) (q : Aside0 (w.heap[g]? = some o)) (h : w.heap[g]? = some o → W.heap[g]? = some o := by intro q_; (with_reducible repeat (first | refine blk_drewN ?_ _ | refine blk_drew ?_ | refine blk_alloc ?_ _)); exact q_) : Aside0 (k ≠ g) := ⟨by rw [hg]; exact Nat.ne_of_gt (blk_lt (h q.out))⟩
theorem spec_SweepPresence.b6_ {w w' W : World} {k : Nat} (hg : k = W.heap.size) (q : Aside0 (Below w.heap.size w w')) (h : Below w.heap.size w w' → Below w.heap.size w W := by intro q_; repeat (first | (with_reducible first | exact q_ | apply below_alloc | apply pw_below_drewN | apply below_drew1) | exact q_)) : Aside0 (w.heap.size ≤ k) := ⟨by rw [hg]; exact below_size (h q.out)⟩
theorem spec_SweepPresence.bx_ {P : Program} {ops : Array Oper} {rest : List Oper} {o : Oper} {a : Act} {Q : Exit → Act → World → Prop} {W : World} (N : Tmp) (cs : Array Value) (t : TypeId) (h : ∀ g, g = W.heap.size → ∀ w1, w1.heap[g]? = some (.cells cs t (0, 0)) → Below W.heap.size W w1 → wpList P ops Q rest (a.put o.dst (.pointer (some ⟨g, 0, none⟩))) w1) (hgd : o.guard = none := by rfl) (hd : o.dst = some N := by rfl) (hrun : (execOp a.eval o).run P W = .ok (.value (.pointer (some ⟨W.heap.size, 0, none⟩))) (W.alloc (.cells cs t (0, 0))) := by first | (go_simp; done) | (go_simp; rfl)) : wpList P ops Q (o :: rest) a W := box_event hgd hd hrun h
theorem spec_SweepPresence.c1_ {w : World} {g : Nat} {t : TypeId} {cs : Array Value} (q : Aside0 (w.heap[g]? = some (.cells cs t (0, 0)))) (i : Nat) (v : Value) (h : cs[i]? = some v := by rfl) : w.cell? ⟨g, i, none⟩ = some v := (blk_cell q.out i).trans h
theorem spec_SweepPresence.f1_ {w : World} {g : Nat} {t : TypeId} {cs : Array Value} (q : Aside0 (w.heap[g]? = some (.cells cs t (0, 0)))) (i : Nat) : w.frozen? ⟨g, i, none⟩ = false := blk_frozen q.out i
theorem spec_SweepPresence.pu_ {P : Program} {md : Region.Mode} {ops : Array Oper} {Q : Exit → Act → World → Prop} {S : World → Prop} {ds : List Nat} {fuel : Nat} {l : Array Bool} {a : Act} {w : World} {oi : Oper} {a' : Act} {v : Value} (i N : Nat) (l' : Array Bool) (hc : anyB md ops l l' i = true) (h : wpAnyLast P md ops Q S ds fuel l' a' w) (hi : ops[i]? = some oi := by rfl) (hN : oi.dst = some N := by rfl) (hQ : ∀ c a w, Q (.panic c) (a.put oi.dst v) w → Q (.panic c) a w := by exact fun _ _ _ h => h) (hy : Yields P ops oi v a := by exact Or.inl ⟨by rfl, by intro w'; go_simp; with_reducible rfl⟩) (ha : a.put (some N) v = a' := by simp only [Act.put, List.setIfInBounds_toArray, List.set_cons_zero, List.set_cons_succ, i64_w, i32_w]; rfl) : wpAnyLast P md ops Q S ds (fuel + 1) l a w := pure_ l' hi hN hc hQ hy ha h
theorem spec_SweepPresence.pn_ {P : Program} {md : Region.Mode} {ops : Array Oper} {Q : Exit → Act → World → Prop} {S : World → Prop} {ds : List Nat} {fuel : Nat} {l : Array Bool} {a : Act} {w : World} {oi : Oper} {a' : Act} (i N : Nat) (l' : Array Bool) (hc : anyB md ops l l' i = true) (h : wpAnyLast P md ops Q S ds fuel l' a' w) (hi : ops[i]? = some oi := by rfl) (hN : oi.dst = some N := by rfl) (hQ : ∀ c a w, Q (.panic c) (a.put oi.dst undef) w → Q (.panic c) a w := by exact fun _ _ _ h => h) (hy : Yields P ops oi undef a := by exact Or.inr ⟨by rfl, rfl⟩) (ha : a.put (some N) undef = a' := by simp only [Act.put, List.setIfInBounds_toArray, List.set_cons_zero, List.set_cons_succ, i64_w, i32_w]; rfl) : wpAnyLast P md ops Q S ds (fuel + 1) l a w := pure_ l' hi hN hc hQ hy ha h
mutual
def spec_SweepPresence.j0 : Nat → Int → Bool → List (S63) → List (S63) → List (S73) → Option ((List (S63)) × (List (S63)) × (List (S73)) × Bool)
  | 0, _, _, _, _, _ => none
  | k + 1, x1, x15, x189000, x189001, x189002 => if x15 = true then (some (([] : List (S63)), ([] : List (S63)), ([] : List (S73)), false)) else ((some (([] : List (S73)) : List (S73))).bind fun y192 => (if y192.length + x189002.length < 8796093022208 then (spec_SweepPresence.l0 k x1 (x189000.length : Int) 0 x189000 x189001 x189002 ([] : List (S63)) (y192 ++ x189002)) else (none)))
def spec_SweepPresence.l0 : Nat → Int → Int → Int → List (S63) → List (S63) → List (S73) → List (S63) → List (S73) → Option ((List (S63)) × (List (S63)) × (List (S73)) × Bool)
  | 0, _, _, _, _, _, _, _, _ => none
  | k + 1, x1, x24, x25, x189000, x189001, x189002, x199000, x199002 => if x25 < x24 then (if 0 ≤ x25 then (if x25 < (x189000.length : Int) then (if ((rd_T63 x189000 x25).f1) > x1 then (if x199000.length < 8796093022208 then (spec_SweepPresence.l0 k x1 x24 (wrap64 (x25 + 1)) x189000 x189001 x189002 (x199000 ++ [(⟨(rd_T63 x189000 x25).f0, (rd_T63 x189000 x25).f1⟩ : S63)]) x199002) else (none)) else (spec_SweepPresence.l0 k x1 x24 (wrap64 (x25 + 1)) x189000 x189001 x189002 x199000 x199002)) else (none)) else (none)) else (spec_SweepPresence.l1 k x1 (x189001.length : Int) 0 x189000 x189001 x189002 x199000 ([] : List (S63)) x199002)
def spec_SweepPresence.l1 : Nat → Int → Int → Int → List (S63) → List (S63) → List (S73) → List (S63) → List (S63) → List (S73) → Option ((List (S63)) × (List (S63)) × (List (S73)) × Bool)
  | 0, _, _, _, _, _, _, _, _, _ => none
  | k + 1, x1, x49, x50, x189000, x189001, x189002, x199000, x199001, x199002 => if x50 < x49 then (if 0 ≤ x50 then (if x50 < (x189001.length : Int) then (if ((rd_T63 x189001 x50).f1) > x1 then ((spec_l05Until.f k x189000 ((rd_T63 x189001 x50).f0)).bind fun t206 => (if t206 > x1 then (if x199001.length < 8796093022208 then (spec_SweepPresence.l1 k x1 x49 (wrap64 (x50 + 1)) x189000 x189001 x189002 x199000 (x199001 ++ [(⟨(rd_T63 x189001 x50).f0, (rd_T63 x189001 x50).f1⟩ : S63)]) x199002) else (none)) else (spec_SweepPresence.l1 k x1 x49 (wrap64 (x50 + 1)) x189000 x189001 x189002 x199000 x199001 x199002))) else (spec_SweepPresence.l1 k x1 x49 (wrap64 (x50 + 1)) x189000 x189001 x189002 x199000 x199001 x199002)) else (none)) else (none)) else (some (x199000, x199001, x199002, true))
end
def spec_SweepPresence.f (k : Nat) (l0_0 : List (S63)) (l0_1 : List (S63)) (l0_2 : List (S73)) (a1 : Int) : Option ((List (S63)) × (List (S63)) × (List (S73)) × Bool) := (spec_l05Is.f k l0_0 l0_1 l0_2).bind fun t190 => (if t190 = true then ((spec_l01Tick.f a1).bind fun t191 => (spec_SweepPresence.j0 k a1 (!t191) l0_0 l0_1 l0_2)) else (spec_SweepPresence.j0 k a1 true l0_0 l0_1 l0_2))
theorem spec_SweepPresence.mono_l : ∀ k, (∀ y0 y1 y2 y3 y4, LeO (spec_SweepPresence.j0 k y0 y1 y2 y3 y4) (spec_SweepPresence.j0 (k + 1) y0 y1 y2 y3 y4)) ∧ (∀ y0 y1 y2 y3 y4 y5 y6 y7, LeO (spec_SweepPresence.l0 k y0 y1 y2 y3 y4 y5 y6 y7) (spec_SweepPresence.l0 (k + 1) y0 y1 y2 y3 y4 y5 y6 y7)) ∧ (∀ y0 y1 y2 y3 y4 y5 y6 y7 y8, LeO (spec_SweepPresence.l1 k y0 y1 y2 y3 y4 y5 y6 y7 y8) (spec_SweepPresence.l1 (k + 1) y0 y1 y2 y3 y4 y5 y6 y7 y8))
  | 0 => ⟨fun _ _ _ _ _ r h => by simp [spec_SweepPresence.j0] at h, fun _ _ _ _ _ _ _ _ r h => by simp [spec_SweepPresence.l0] at h, fun _ _ _ _ _ _ _ _ _ r h => by simp [spec_SweepPresence.l1] at h⟩
  | k + 1 => by
    obtain ⟨ih0, ih1, ih2⟩ := spec_SweepPresence.mono_l k
    refine ⟨?_, ?_, ?_⟩
    · intro y0 y1 y2 y3 y4
      unfold spec_SweepPresence.j0
      repeat' first
      | (with_reducible exact ih0 _ _ _ _ _)
      | (with_reducible exact ih1 _ _ _ _ _ _ _ _)
      | (with_reducible exact ih2 _ _ _ _ _ _ _ _ _)
      | (with_reducible exact spec_l05Is.mono _ _ _ _)
      | (with_reducible exact spec_l05Until.mono _ _ _)
      | (with_reducible exact LeO.refl _)
      | (with_reducible exact LeO.none _)
      | (with_reducible refine LeO.ite ?_ ?_)
      | (with_reducible refine LeO.bind ?_ (fun _ => ?_))
      | exact ih0 _ _ _ _ _
      | exact ih1 _ _ _ _ _ _ _ _
      | exact ih2 _ _ _ _ _ _ _ _ _
      | exact spec_l05Is.mono _ _ _ _
      | exact spec_l05Until.mono _ _ _
      | exact LeO.none _
      | refine LeO.ite ?_ ?_
      | refine LeO.bind ?_ (fun _ => ?_)
    · intro y0 y1 y2 y3 y4 y5 y6 y7
      unfold spec_SweepPresence.l0
      repeat' first
      | (with_reducible exact ih0 _ _ _ _ _)
      | (with_reducible exact ih1 _ _ _ _ _ _ _ _)
      | (with_reducible exact ih2 _ _ _ _ _ _ _ _ _)
      | (with_reducible exact spec_l05Is.mono _ _ _ _)
      | (with_reducible exact spec_l05Until.mono _ _ _)
      | (with_reducible exact LeO.refl _)
      | (with_reducible exact LeO.none _)
      | (with_reducible refine LeO.ite ?_ ?_)
      | (with_reducible refine LeO.bind ?_ (fun _ => ?_))
      | exact ih0 _ _ _ _ _
      | exact ih1 _ _ _ _ _ _ _ _
      | exact ih2 _ _ _ _ _ _ _ _ _
      | exact spec_l05Is.mono _ _ _ _
      | exact spec_l05Until.mono _ _ _
      | exact LeO.none _
      | refine LeO.ite ?_ ?_
      | refine LeO.bind ?_ (fun _ => ?_)
    · intro y0 y1 y2 y3 y4 y5 y6 y7 y8
      unfold spec_SweepPresence.l1
      repeat' first
      | (with_reducible exact ih0 _ _ _ _ _)
      | (with_reducible exact ih1 _ _ _ _ _ _ _ _)
      | (with_reducible exact ih2 _ _ _ _ _ _ _ _ _)
      | (with_reducible exact spec_l05Is.mono _ _ _ _)
      | (with_reducible exact spec_l05Until.mono _ _ _)
      | (with_reducible exact LeO.refl _)
      | (with_reducible exact LeO.none _)
      | (with_reducible refine LeO.ite ?_ ?_)
      | (with_reducible refine LeO.bind ?_ (fun _ => ?_))
      | exact ih0 _ _ _ _ _
      | exact ih1 _ _ _ _ _ _ _ _
      | exact ih2 _ _ _ _ _ _ _ _ _
      | exact spec_l05Is.mono _ _ _ _
      | exact spec_l05Until.mono _ _ _
      | exact LeO.none _
      | refine LeO.ite ?_ ?_
      | refine LeO.bind ?_ (fun _ => ?_)
theorem spec_SweepPresence.mono : ∀ a0 a1 a2 a3 k, LeO (spec_SweepPresence.f k a0 a1 a2 a3) (spec_SweepPresence.f (k + 1) a0 a1 a2 a3) := by
  intro a0 a1 a2 a3 k
  obtain ⟨ih0, ih1, ih2⟩ := spec_SweepPresence.mono_l k
  unfold spec_SweepPresence.f
  repeat' first
      | (with_reducible exact ih0 _ _ _ _ _)
      | (with_reducible exact ih1 _ _ _ _ _ _ _ _)
      | (with_reducible exact ih2 _ _ _ _ _ _ _ _ _)
      | (with_reducible exact spec_l05Is.mono _ _ _ _)
      | (with_reducible exact spec_l05Until.mono _ _ _)
      | (with_reducible exact LeO.refl _)
      | (with_reducible exact LeO.none _)
      | (with_reducible refine LeO.ite ?_ ?_)
      | (with_reducible refine LeO.bind ?_ (fun _ => ?_))
      | exact ih0 _ _ _ _ _
      | exact ih1 _ _ _ _ _ _ _ _
      | exact ih2 _ _ _ _ _ _ _ _ _
      | exact spec_l05Is.mono _ _ _ _
      | exact spec_l05Until.mono _ _ _
      | exact LeO.none _
      | refine LeO.ite ?_ ?_
      | refine LeO.bind ?_ (fun _ => ?_)
def spec_SweepPresence.T8 : Bool × List (List Nat × List Nat) := (true, [([], []), ([0], [0]), ([], []), ([2], [2]), ([], []), ([3, 4], [3, 4]), ([5], [5]), ([6], [6]), ([1, 7], [1, 7]), ([0, 1, 2, 3, 4, 5, 6, 7, 8], []), ([9, 8, 8, 0, 1, 2, 3, 4, 5, 6, 7, 8], [8, 9])])
def spec_SweepPresence.B8 : List Nat := [0, 1, 0, 4, 0, 28, 60, 124, 255, 511, 1023]
theorem spec_SweepPresence.tab8 : rtab .any (opsOf Try.f30 8) = spec_SweepPresence.T8 := by kernel_rfl
theorem spec_SweepPresence.bits8 : waitsOk spec_SweepPresence.T8.2 spec_SweepPresence.B8 = true := by kernel_rfl
def spec_SweepPresence.T13 : Bool × List (List Nat × List Nat) := (true, [([], []), ([0], [0]), ([], []), ([1, 2], [1, 2]), ([3], [3]), ([4], [4]), ([], []), ([5, 6], [5, 6]), ([7], [7]), ([8], [8]), ([9, 8], [8, 9]), ([8], [8]), ([11, 8], [8, 11]), ([8], [8]), ([12, 13, 8], [8, 12, 13]), ([14, 8], [8, 14]), ([15, 8], [8, 15]), ([10, 16, 8, 8], [8, 10, 16]), ([8], [8]), ([17, 18, 8], [8, 17, 18]), ([8, 19], [8, 19])])
def spec_SweepPresence.B13 : List Nat := [0, 1, 0, 7, 15, 31, 0, 127, 255, 511, 1023, 511, 2559, 511, 14847, 31231, 63999, 131071, 511, 524287, 1048575]
theorem spec_SweepPresence.tab13 : rtab .any (opsOf Try.f30 13) = spec_SweepPresence.T13 := by kernel_rfl
theorem spec_SweepPresence.bits13 : waitsOk spec_SweepPresence.T13.2 spec_SweepPresence.B13 = true := by kernel_rfl
def spec_SweepPresence.T14 : Bool × List (List Nat × List Nat) := (true, [([], []), ([0], [0]), ([], []), ([2], [2]), ([], []), ([3, 4], [3, 4]), ([5], [5]), ([6], [6]), ([1, 7], [1, 7]), ([0, 1, 2, 3, 4, 5, 6, 7, 8], []), ([9, 8, 8, 0, 1, 2, 3, 4, 5, 6, 7, 8], [8, 9])])
def spec_SweepPresence.B14 : List Nat := [0, 1, 0, 4, 0, 28, 60, 124, 255, 511, 1023]
theorem spec_SweepPresence.tab14 : rtab .any (opsOf Try.f30 14) = spec_SweepPresence.T14 := by kernel_rfl
theorem spec_SweepPresence.bits14 : waitsOk spec_SweepPresence.T14.2 spec_SweepPresence.B14 = true := by kernel_rfl
set_option maxHeartbeats 8000000 in
set_option maxRecDepth 100000 in
theorem spec_SweepPresence.calls (k : Nat) (A0_0 : Option Addr) (c0_0 : Nat) (l0_0 : List (S63)) (A0_1 : Option Addr) (c0_1 : Nat) (l0_1 : List (S63)) (A0_2 : Option Addr) (c0_2 : Nat) (l0_2 : List (S73)) (a1 : Int) (r1 : List (S63)) (r2 : List (S63)) (r3 : List (S73)) (r4 : Bool) (w : World) (hr0_0 : Kd.C k63 w A0_0 l0_0.length l0_0) (hc0_0 : l0_0.length ≤ c0_0) (hr0_1 : Kd.C k63 w A0_1 l0_1.length l0_1) (hc0_1 : l0_1.length ≤ c0_1) (hr0_2 : Kd.C k73 w A0_2 l0_2.length l0_2) (hc0_2 : l0_2.length ≤ c0_2) (h : spec_SweepPresence.f k l0_0 l0_1 l0_2 a1 = some (r1, r2, r3, r4)) :
    Calls Try.prog 30 #[.agg #[.slice A0_0 l0_0.length c0_0, .slice A0_1 l0_1.length c0_1, .slice A0_2 l0_2.length c0_2], .int .i64 a1] w fun e w' => ∃ v0_ v1_ v2_ : Value, e = .returned (.tuple #[.agg #[v0_, v1_, v2_], .bool r4]) ∧ Kd.R k63 63 w' w.heap.size (fun k_ => some k_ ≠ (v1_ : Value).ownBlock) v0_ r1 ∧ Kd.R k63 63 w' w.heap.size (fun k_ => some k_ ≠ (v0_ : Value).ownBlock) v1_ r2 ∧ Kd.R k73 73 w' w.heap.size (fun _ => True) v2_ r3 ∧ Below w.heap.size w w' := by
 have hu27 := Try.underlying27
 have hu63 := Try.underlying63
 have HR0_0 := Aside0.mk hr0_0
 have HC0_0 := Aside0.mk hc0_0
 clear hr0_0 hc0_0
 have HR0_1 := Aside0.mk hr0_1
 have HC0_1 := Aside0.mk hc0_1
 clear hr0_1 hc0_1
 have HR0_2 := Aside0.mk hr0_2
 have HC0_2 := Aside0.mk hc0_2
 clear hr0_2 hc0_2
 have HB := Aside0.mk (Below.refl w.heap.size w)
 have H : ((spec_l05Is.f k l0_0 l0_1 l0_2).bind fun t190 => (if t190 = true then ((spec_l01Tick.f a1).bind fun t191 => (spec_SweepPresence.j0 k a1 (!t191) l0_0 l0_1 l0_2)) else (spec_SweepPresence.j0 k a1 true l0_0 l0_1 l0_2))) = some (r1, r2, r3, r4) := h
 clear h
 have HC3 := Aside0.mk H
 clear H
 go_enter Try.func30, Try.ntmps30
 go_upto_region 1 with (first | ((with_reducible refine gate_dst (N := 2) rfl ?_); refine bx_ 2 #[.slice A0_0 l0_0.length c0_0, .slice A0_1 l0_1.length c0_1, .slice A0_2 l0_2.length c0_2] 27 ?_; intro gb188 hg w4 hbox hb; have GW188 := b6_ hg HB; have GE188 := b6_ hg HB; replace HB := Aside0.mk (below_step (y1_ HB.out) hb); have BK188 := Aside0.mk (hbox); clear hb hbox hg) | ((with_reducible refine gate_dst (N := 4) rfl ?_); refine bx_ 4 #[.slice none 0 0, .slice none 0 0, .slice none 0 0] 27 ?_; intro gb189 hg w5 hbox hb; have GW189 := b6_ hg HB; have GE189 := b6_ hg HB; have NB188_189 := b4_ hg BK188; have NB189_188 := b5_ hg BK188; replace BK188 := b3_ BK188 hb; replace HB := Aside0.mk (below_step (y1_ HB.out) hb); have BK189 := Aside0.mk (hbox); clear hb hbox hg))
 (try simp only [Act.put, List.setIfInBounds_toArray, List.set_cons_zero, List.set_cons_succ])
 go_cut [15] (fun v15 wc => ∃ (kq : Nat) (x15_2 : Bool), v15 = .bool x15_2 ∧ Aside0 (spec_SweepPresence.j0 kq a1 x15_2 l0_0 l0_1 l0_2 = some (r1, r2, r3, r4)) ∧ Aside0 (kq ≤ k) ∧ Aside0 (wc.heap[gb188]? = some (.cells #[(.slice A0_0 l0_0.length c0_0), (.slice A0_1 l0_1.length c0_1), (.slice A0_2 l0_2.length c0_2)] 27 (0, 0))) ∧ Aside0 (wc.heap[gb189]? = some (.cells #[(.slice none 0 0), (.slice none 0 0), (.slice none 0 0)] 27 (0, 0))) ∧ Aside0 (Below w.heap.size w wc))
 case first =>
  skip
  {
 have H := HC3.out
 clear HC3
 replace H := Option.bind_eq_some_iff.mp H
 obtain ⟨t190, A60, H⟩ := H
 replace H : (if t190 = true then ((spec_l01Tick.f a1).bind fun t191 => (spec_SweepPresence.j0 k a1 (!t191) l0_0 l0_1 l0_2)) else (spec_SweepPresence.j0 k a1 true l0_0 l0_1 l0_2)) = some (r1, r2, r3, r4) := H
 have A6 := Aside0.mk A60
 clear A60
 by_cases c7 : t190 = true
 {
 subst c7
 have H1 : ((spec_l01Tick.f a1).bind fun t191 => (spec_SweepPresence.j0 k a1 (!t191) l0_0 l0_1 l0_2)) = some (r1, r2, r3, r4) := by rw [if_pos rfl] at H; exact H
 clear H
 have H := H1
 clear H1
 replace H := Option.bind_eq_some_iff.mp H
 obtain ⟨t191, A80, H⟩ := H
 replace H : (spec_SweepPresence.j0 k a1 (!t191) l0_0 l0_1 l0_2) = some (r1, r2, r3, r4) := H
 have A8 := Aside0.mk A80
 clear A80
 have H' := Aside0.mk H
 clear H
 go_wp2_with (first | ((with_reducible refine gate_callee (f := 57) rfl ?_); refine goesL_ (some 9) rfl rfl Try.func57 s2_ rfl #[.pointer (some ⟨gb188, 0, none⟩)] rfl s3_ ?_; (with_reducible refine (spec_l05Is.calls k gb188 A0_0 c0_0 l0_0 A0_1 c0_1 l0_1 A0_2 c0_2 l0_2 true _ ?side1 ?side2 ?side3 ?side4 ?side5 ?side6 ?side7 A6.out).mono ?_); (case side1 => exact (b1_ BK188.out)); (case side2 => exact y2_ (Kd.C_below HR0_0.out HB.out)); (case side3 => exact HC0_0.out); (case side4 => exact y2_ (Kd.C_below HR0_1.out HB.out)); (case side5 => exact HC0_1.out); (case side6 => exact y2_ (Kd.C_below HR0_2.out HB.out)); (case side7 => exact HC0_2.out); rintro e w9 ⟨rfl, hb⟩; refine ⟨_, rfl, ?_⟩; replace BK188 := b3_ BK188 hb; replace BK189 := b3_ BK189 hb; replace HB := Aside0.mk (below_step (y1_ HB.out) hb); (try clear hb); (try clear hb2); (try clear hk); (try clear hi)) | (go_at_call 58; (with_reducible refine (spec_l01Tick.calls a1 t191 _ A8.out).mono ?_); rintro e w' ⟨rfl, ⟨nd, rfl⟩⟩))
 go_meet
 case rel => exact ⟨_, (!t191), s1_, H', ⟨by first | omega | exact Nat.le_refl _⟩, ⟨b1_ BK188.out⟩, ⟨b1_ BK189.out⟩, ⟨by repeat (first | (with_reducible first | exact HB.out | apply below_alloc | apply pw_below_drewN | apply below_drew1) | exact HB.out)⟩⟩}
 {
 replace c7 := Bool.eq_false_iff.mpr c7
 subst c7
 have H1 : (spec_SweepPresence.j0 k a1 true l0_0 l0_1 l0_2) = some (r1, r2, r3, r4) := by rw [if_neg (show ¬ (false = true) by decide)] at H; exact H
 clear H
 have H := H1
 clear H1
 have H' := Aside0.mk H
 clear H
 go_wp2_with (first | ((with_reducible refine gate_callee (f := 57) rfl ?_); refine goesL_ (some 9) rfl rfl Try.func57 s2_ rfl #[.pointer (some ⟨gb188, 0, none⟩)] rfl s3_ ?_; (with_reducible refine (spec_l05Is.calls k gb188 A0_0 c0_0 l0_0 A0_1 c0_1 l0_1 A0_2 c0_2 l0_2 false _ ?side1 ?side2 ?side3 ?side4 ?side5 ?side6 ?side7 A6.out).mono ?_); (case side1 => exact (b1_ BK188.out)); (case side2 => exact y2_ (Kd.C_below HR0_0.out HB.out)); (case side3 => exact HC0_0.out); (case side4 => exact y2_ (Kd.C_below HR0_1.out HB.out)); (case side5 => exact HC0_1.out); (case side6 => exact y2_ (Kd.C_below HR0_2.out HB.out)); (case side7 => exact HC0_2.out); rintro e w10 ⟨rfl, hb⟩; refine ⟨_, rfl, ?_⟩; replace BK188 := b3_ BK188 hb; replace BK189 := b3_ BK189 hb; replace HB := Aside0.mk (below_step (y1_ HB.out) hb); (try clear hb); (try clear hb2); (try clear hk); (try clear hi)))
 go_meet
 case rel => exact ⟨_, (true), s1_, H', ⟨by first | omega | exact Nat.le_refl _⟩, ⟨b1_ BK188.out⟩, ⟨b1_ BK189.out⟩, ⟨by repeat (first | (with_reducible first | exact HB.out | apply below_alloc | apply pw_below_drewN | apply below_drew1) | exact HB.out)⟩⟩}}
 case rest =>
  skip
  {
 clear HC3
 try clear p2
 try clear c3
 try clear c5
 try clear c7
 obtain ⟨kq, x15_2, rfl, HA, HJ2, BK188, BK189, HB⟩ := hcut
 cases kq with
 | zero => exact absurd HA.out (by simp [spec_SweepPresence.j0])
 | succ kj2 =>
  skip
  {
 have H := HA.out
 clear HA
 simp only [spec_SweepPresence.j0] at H
 by_cases c11 : x15_2 = true
 {
 subst c11
 have H1 : (some (([] : List (S63)), ([] : List (S63)), ([] : List (S73)), false)) = some (r1, r2, r3, r4) := by rw [if_pos rfl] at H; exact H
 clear H
 have H := H1
 clear H1
 simp only [Option.some.injEq, Prod.mk.injEq] at H
 obtain ⟨rfl, rfl, rfl, rfl⟩ := H
 have hnb12 := NB189_188.out
 have hnc12 := NB188_189.out
 have hcz13_0 := c1_ BK189 0 (.slice none 0 0)
 have hcz13_1 := c1_ BK189 1 (.slice none 0 0)
 have hcz13_2 := c1_ BK189 2 (.slice none 0 0)
 have hfz13_0 := f1_ BK189 0
 have hfz13_1 := f1_ BK189 1
 have hfz13_2 := f1_ BK189 2
 go_wp2
 refine bodyPost_ret (results_ct rfl _ _ gb189 27 #[.slice none 0 0, .slice none 0 0, .slice none 0 0] (0, 0) _ rfl (by (with_reducible repeat (first | refine blk_drewN ?_ _ | refine blk_drew ?_ | refine blk_alloc ?_ _)); refine blk_put3 (cs := #[.slice none 0 0, .slice none 0 0, .slice none 0 0]) ?_ rfl; (with_reducible repeat (first | refine blk_drewN ?_ _ | refine blk_drew ?_ | refine blk_alloc ?_ _)); exact BK189.out) Try.underlying27 rfl s2_) rfl ?_
 exact ⟨_, _, _, by first | rfl | (simp [errW_none, errW_some] <;> rfl) | (simp [*, errW_none, errW_some] <;> rfl), by first | exact Kd.R_nil _ _ _ _ _ | exact Kd.N_nil _ _ _ _ _ | exact Kd.V_nil _ _ _ _ _ | exact Kd.Q_nil _ _ _ _ _ | exact Kd.S_nil _ _ _ _ _, by first | exact Kd.R_nil _ _ _ _ _ | exact Kd.N_nil _ _ _ _ _ | exact Kd.V_nil _ _ _ _ _ | exact Kd.Q_nil _ _ _ _ _ | exact Kd.S_nil _ _ _ _ _, by first | exact Kd.R_nil _ _ _ _ _ | exact Kd.N_nil _ _ _ _ _ | exact Kd.V_nil _ _ _ _ _ | exact Kd.Q_nil _ _ _ _ _ | exact Kd.S_nil _ _ _ _ _, by repeat (first | (with_reducible first | exact HB.out | apply below_alloc | apply pw_below_drewN | apply below_drew1 | refine below_set ?_ GE189.out) | exact HB.out)⟩}
 {
 replace c11 := Bool.eq_false_iff.mpr c11
 subst c11
 have H1 : ((some (([] : List (S73)) : List (S73))).bind fun y192 => (if y192.length + l0_2.length < 8796093022208 then (spec_SweepPresence.l0 kj2 a1 (l0_0.length : Int) 0 l0_0 l0_1 l0_2 ([] : List (S63)) (y192 ++ l0_2)) else (none))) = some (r1, r2, r3, r4) := by rw [if_neg (show ¬ (false = true) by decide)] at H; exact H
 clear H
 have H := H1
 clear H1
 obtain ⟨y192, hy192⟩ : ∃ y_ : List (S73), y_ = (([] : List (S73))) := ⟨_, rfl⟩
 replace H : (if y192.length + l0_2.length < 8796093022208 then (spec_SweepPresence.l0 kj2 a1 (l0_0.length : Int) 0 l0_0 l0_1 l0_2 ([] : List (S63)) (y192 ++ l0_2)) else (none)) = some (r1, r2, r3, r4) := by first | (rw [hy192]; with_reducible exact H) | (have H2_ := (Option.bind_some _ _).symm.trans H; rw [hy192]; with_reducible exact H2_) | (have H2_ := (Option.bind_some _ _).symm.trans H; with_reducible exact H2_) | with_reducible exact H | (rw [hy192]; exact H) | exact H
 have Ny192 := Aside0.mk hy192
 clear hy192
 by_cases c14 : y192.length + l0_2.length < 8796093022208
 {
 rw [if_pos c14] at H
 have LMc14 := Aside0.mk c14
 clear c14
 obtain ⟨y195, hy195⟩ : ∃ y_ : List (S73), y_ = (y192 ++ l0_2) := ⟨_, rfl⟩
 replace H : (spec_SweepPresence.l0 kj2 a1 (l0_0.length : Int) 0 l0_0 l0_1 l0_2 ([] : List (S63)) y195) = some (r1, r2, r3, r4) := by first | (rw [hy195]; with_reducible exact H) | (have H2_ := (Option.bind_some _ _).symm.trans H; rw [hy195]; with_reducible exact H2_) | (have H2_ := (Option.bind_some _ _).symm.trans H; with_reducible exact H2_) | with_reducible exact H | (rw [hy195]; exact H) | exact H
 have Ny195 := Aside0.mk hy195
 clear hy195
 have H' := Aside0.mk H
 clear H
 go_wp2_with (first | ((with_reducible refine gate_dst (N := 17) rfl ?_); refine Kd.R_lit k73 _ 73 ?hg (N := 17) ?hd (xs := ([] : List (S73))) (inner := []) (ok := fun _ => True) (okp := fun _ => True) ?hr ?hp (fun _ hk => hk) trivial (Below.refl _ _) (Nat.le_refl _) (by simp) ?_; (case hd => rfl); (case hg => rfl); (case hr => first | (go_simp; done) | (go_simp; rfl)); (case hp => exact (Reps.none _ _)); intro v193 w15 ho16 hb hg_ hnew_; clear hg_ hnew_; (first | rw [← Ny192.out] at ho16 | (simp only [Int.reduceToNat] at ho16; rw [← Ny192.out] at ho16)); have HO194 := Aside0.mk (Kd.R_lower ho16 (below_size (y1_ HB.out))); replace BK188 := b3_ BK188 hb; replace BK189 := b3_ BK189 hb; replace HB := Aside0.mk (below_step (y1_ HB.out) hb); clear hb ho16; have hnb17 := NB188_189.out; have hnc17 := NB189_188.out; have hcz18_0 := c1_ BK188 0 (.slice A0_0 l0_0.length c0_0); have hcz18_1 := c1_ BK188 1 (.slice A0_1 l0_1.length c0_1); have hcz18_2 := c1_ BK188 2 (.slice A0_2 l0_2.length c0_2); have hfz18_0 := f1_ BK188 0; have hfz18_1 := f1_ BK188 1; have hfz18_2 := f1_ BK188 2) | ((with_reducible refine gate_builtin (b := .append) (xs := #[.tmp 17, .tmp 19]) rfl ?_); at_builtin; refine Kd.R_append_rows k73 (w0 := w) w.heap.size rfl (.tmp 17) (.tmp 19) 25 73 (.agg #[(.int .i64 0), (.int .i64 0)]) 16 rfl Try.underlying25 info73 rfl (by decide) (by omega) v193 y192 l0_2 _ _ _ (fun _ => True) (fun _ => False) rfl rfl ?aO ?aR (fun _ _ h => h) (fun _ h => h.elim) ?aF ?aB ?aS ?aL ?_; (case aR => exact y2_ (Kd.C_below HR0_2.out HB.out)); (case aB => exact (y1_ HB.out)); (case aF => exact (fun _ _ => trivial)); (case aO => exact (b2_ HO194.out)); (case aS => exact (below_size (y1_ HB.out))); (case aL => have := LMc14.out; omega); intro v196 w19 ho hb hg hat; rw [← Ny195.out] at ho; replace BK188 := Aside0.mk (blk_grown (g := gb188) (o := .cells #[.slice A0_0 l0_0.length c0_0, .slice A0_1 l0_1.length c0_1, .slice A0_2 l0_2.length c0_2] 27 (0, 0)) (b1_ BK188.out) hg (Kd.R_ne HO194.out BK188.out (by decide))); replace BK189 := Aside0.mk (blk_grown (g := gb189) (o := .cells #[.slice none 0 0, .slice none 0 0, .slice none 0 0] 27 (0, 0)) (b1_ BK189.out) hg (Kd.R_ne HO194.out BK189.out (by decide))); replace HB := Aside0.mk (hb); have HO197 := Aside0.mk (ho); clear HO194; clear ho hb hg hat; obtain ⟨Ao20, co20, eo20⟩ := Kd.R_slice HO197.out; subst eo20) | ((with_reducible refine gate_dst (N := 6) rfl ?_); refine bx_ 6 #[.slice none 0 0, .slice none 0 0, .slice none 0 0] 27 ?_; intro gb198 hg w21 hbox hb; have GW198 := b6_ hg HB; have GE198 := b6_ hg HB; have NB188_198 := b4_ hg BK188; have NB198_188 := b5_ hg BK188; have NB189_198 := b4_ hg BK189; have NB198_189 := b5_ hg BK189; replace HO197 := Aside0.mk (Kd.R_below (b2_ HO197.out) hb); replace BK188 := b3_ BK188 hb; replace BK189 := b3_ BK189 hb; replace HB := Aside0.mk (below_step (y1_ HB.out) hb); have BK198 := Aside0.mk (hbox); clear hb hbox hg; have hnb22 := NB198_188.out; have hnc22 := NB188_198.out; have hnb23 := NB198_189.out; have hnc23 := NB189_198.out; have hcz24_0 := c1_ BK198 0 (.slice none 0 0); have hcz24_1 := c1_ BK198 1 (.slice none 0 0); have hcz24_2 := c1_ BK198 2 (.slice none 0 0); have hfz24_0 := f1_ BK198 0; have hfz24_1 := f1_ BK198 1; have hfz24_2 := f1_ BK198 2; have hcz25_0 := c1_ BK188 0 (.slice A0_0 l0_0.length c0_0); have hcz25_1 := c1_ BK188 1 (.slice A0_1 l0_1.length c0_1); have hcz25_2 := c1_ BK188 2 (.slice A0_2 l0_2.length c0_2); have hfz25_0 := f1_ BK188 0; have hfz25_1 := f1_ BK188 1; have hfz25_2 := f1_ BK188 2))
 go_loopg [25] kj2 (fun kq v25 w' => ∃ (x25_2 : Int) (x199000_2 : List (S63)) (u199000 : Value), v25 = .int .i64 x25_2 ∧ Aside0 (spec_SweepPresence.l0 kq a1 (l0_0.length : Int) x25_2 l0_0 l0_1 l0_2 x199000_2 y195 = some (r1, r2, r3, r4)) ∧ Aside0 (kq ≤ kj2) ∧ Aside0 (Kd.R k63 63 w' w.heap.size (fun _ => True) u199000 x199000_2) ∧ Aside0 (Kd.R k73 73 w' w.heap.size (fun _ => True) (.slice Ao20 y195.length co20) y195) ∧ Aside0 (w'.heap[gb188]? = some (.cells #[(.slice A0_0 l0_0.length c0_0), (.slice A0_1 l0_1.length c0_1), (.slice A0_2 l0_2.length c0_2)] 27 (0, 0))) ∧ Aside0 (w'.heap[gb189]? = some (.cells #[(.slice none 0 0), (.slice none 0 0), (.slice none 0 0)] 27 (0, 0))) ∧ Aside0 (w'.heap[gb198]? = some (.cells #[u199000, (.slice none 0 0), (.slice Ao20 y195.length co20)] 27 (0, 0))) ∧ Aside0 (Below w.heap.size w w'))
 case atStart => exact ⟨(0), (([] : List (S63))), (.slice none 0 0), s1_, H', ⟨Nat.le_refl _⟩, ⟨by first | exact Kd.R_nil _ _ _ _ _ | exact Kd.N_nil _ _ _ _ _ | exact Kd.V_nil _ _ _ _ _ | exact Kd.Q_nil _ _ _ _ _ | exact Kd.S_nil _ _ _ _ _⟩, ⟨by (with_reducible repeat (first | apply Kd.R_alloc | apply Kd.R_drewN | apply Kd.R_drew)); exact Kd.R_mono (Kd.R_far3 (g := gb198) (Kd.R_types HO197.out BK198.out (by decide)) (fun _ hk => hk.2)) (fun _ hk => trivial)⟩, ⟨by (with_reducible repeat (first | refine blk_drewN ?_ _ | refine blk_drew ?_ | refine blk_alloc ?_ _)); refine blk_far3 ?_ NB188_198.out; (with_reducible repeat (first | refine blk_drewN ?_ _ | refine blk_drew ?_ | refine blk_alloc ?_ _)); exact BK188.out⟩, ⟨by (with_reducible repeat (first | refine blk_drewN ?_ _ | refine blk_drew ?_ | refine blk_alloc ?_ _)); refine blk_far3 ?_ NB189_198.out; (with_reducible repeat (first | refine blk_drewN ?_ _ | refine blk_drew ?_ | refine blk_alloc ?_ _)); exact BK189.out⟩, ⟨by (with_reducible repeat (first | refine blk_drewN ?_ _ | refine blk_drew ?_ | refine blk_alloc ?_ _)); refine blk_put3 (cs := #[.slice none 0 0, .slice none 0 0, .slice none 0 0]) ?_ rfl; (with_reducible repeat (first | refine blk_drewN ?_ _ | refine blk_drew ?_ | refine blk_alloc ?_ _)); exact BK198.out⟩, ⟨by repeat (first | (with_reducible first | exact HB.out | apply below_alloc | apply pw_below_drewN | apply below_drew1 | refine below_set ?_ GE198.out) | exact HB.out)⟩⟩
 case round =>
  skip
  {
 clear H'
 try clear c1
 try clear c2
 try clear p2
 try clear c3
 try clear c5
 try clear c7
 try clear c11
 try clear c12
 try clear c14
 try clear c17
 try clear c22
 try clear c23
 try clear hcz13_0
 try clear hcz13_1
 try clear hcz13_2
 try clear hcz18_0
 try clear hcz18_1
 try clear hcz18_2
 try clear hcz24_0
 try clear hcz24_1
 try clear hcz24_2
 try clear hcz25_0
 try clear hcz25_1
 try clear hcz25_2
 try clear hfz13_0
 try clear hfz13_1
 try clear hfz13_2
 try clear hfz18_0
 try clear hfz18_1
 try clear hfz18_2
 try clear hfz24_0
 try clear hfz24_1
 try clear hfz24_2
 try clear hfz25_0
 try clear hfz25_1
 try clear hfz25_2
 try clear p2
 obtain ⟨x25_2, x199000_2, u199000, rfl, HA, HK2, HO_199000, HO_199002, BK188, BK189, BK198, HB⟩ := hrel
 cases gk with
 | zero => exact absurd HA.out (by simp [spec_SweepPresence.l0])
 | succ k2 =>
  skip
  {
 have H := HA.out
 clear HA
 simp only [spec_SweepPresence.l0] at H
 by_cases c26 : x25_2 < (l0_0.length : Int)
 {
 rw [if_pos c26] at H
 have c26b0 : decide (x25_2 < (l0_0.length : Int)) = true := decide_eq_true c26
 clear c26
 by_cases c27 : 0 ≤ x25_2
 {
 rw [if_pos c27] at H
 have c27b0 : decide (0 ≤ x25_2) = true := decide_eq_true c27
 clear c27
 by_cases c28 : x25_2 < (l0_0.length : Int)
 {
 rw [if_pos c28] at H
 have c28b0 : decide (x25_2 < (l0_0.length : Int)) = true := decide_eq_true c28
 clear c28
 by_cases c29 : ((rd_T63 l0_0 x25_2).f1) > a1
 {
 rw [if_pos c29] at H
 have c29b0 : decide (a1 < ((rd_T63 l0_0 x25_2).f1)) = true := decide_eq_true c29
 clear c29
 by_cases c30 : x199000_2.length < 8796093022208
 {
 rw [if_pos c30] at H
 have LMc30 := Aside0.mk c30
 clear c30
 obtain ⟨y201, hy201⟩ : ∃ y_ : List (S63), y_ = (x199000_2 ++ [(⟨(rd_T63 l0_0 x25_2).f0, (rd_T63 l0_0 x25_2).f1⟩ : S63)]) := ⟨_, rfl⟩
 replace H : (spec_SweepPresence.l0 k2 a1 (l0_0.length : Int) (wrap64 (x25_2 + 1)) l0_0 l0_1 l0_2 y201 y195) = some (r1, r2, r3, r4) := by first | (rw [hy201]; with_reducible exact H) | (have H2_ := (Option.bind_some _ _).symm.trans H; rw [hy201]; with_reducible exact H2_) | (have H2_ := (Option.bind_some _ _).symm.trans H; with_reducible exact H2_) | with_reducible exact H | (rw [hy201]; exact H) | exact H
 have Ny201 := Aside0.mk hy201
 clear hy201
 have H' := Aside0.mk H
 clear H
 have hnb31 := NB188_189.out
 have hnc31 := NB189_188.out
 have hnb32 := NB188_198.out
 have hnc32 := NB198_188.out
 have hcz33_0 := c1_ BK188 0 (.slice A0_0 l0_0.length c0_0)
 have hcz33_1 := c1_ BK188 1 (.slice A0_1 l0_1.length c0_1)
 have hcz33_2 := c1_ BK188 2 (.slice A0_2 l0_2.length c0_2)
 have hfz33_0 := f1_ BK188 0
 have hfz33_1 := f1_ BK188 1
 have hfz33_2 := f1_ BK188 2
 have p199 : 0 ≤ (x25_2 : Int) := of_decide_eq_true (by first | (with_reducible assumption) | assumption)
 have q199 : x25_2 < (l0_0.length : Int) := of_decide_eq_true (by first | (with_reducible assumption) | assumption)
 obtain ⟨ad199, e199, hx199_0, hx199_1⟩ := at_T63 HR0_0.out x25_2 p199 q199
 cases e199
 replace hx199_0 := (HB.out.cell (World.block_lt_of_cell? w _ hx199_0)).trans hx199_0
 replace hx199_1 := (HB.out.cell (World.block_lt_of_cell? w _ hx199_1)).trans hx199_1
 replace p199 := eq_true p199
 replace q199 := eq_true q199
 try go_wp2
 replace HO_199000 := Aside0.mk (Kd.R_drew HO_199000.out)
 replace HO_199002 := Aside0.mk (Kd.R_drew HO_199002.out)
 replace BK188 := Aside0.mk (blk_drew BK188.out)
 replace BK189 := Aside0.mk (blk_drew BK189.out)
 replace BK198 := Aside0.mk (blk_drew BK198.out)
 replace HB := Aside0.mk (below_drew1 HB.out)
 have p200 : 0 ≤ (x25_2 : Int) := of_decide_eq_true (by first | (with_reducible assumption) | assumption)
 have q200 : x25_2 < (l0_0.length : Int) := of_decide_eq_true (by first | (with_reducible assumption) | assumption)
 obtain ⟨ad200, e200, hx200_0, hx200_1⟩ := at_T63 HR0_0.out x25_2 p200 q200
 have hw200_1 := hx200_1
 have hw200_0 := hx200_0
 obtain rfl : ad199 = ad200 := (by injection e200)
 replace hx200_0 := (HB.out.cell (World.block_lt_of_cell? w _ hx200_0)).trans hx200_0
 replace hx200_1 := (HB.out.cell (World.block_lt_of_cell? w _ hx200_1)).trans hx200_1
 replace p200 := eq_true p200
 replace q200 := eq_true q200
 refine start_ (n := 11) (S := fun w' => w'.cell? ⟨gb198, 0, none⟩ = some (u199000) ∧ w'.cell? ⟨gb198, 1, none⟩ = some (.slice none 0 0) ∧ w'.cell? ⟨gb198, 2, none⟩ = some (.slice Ao20 y195.length co20) ∧ w'.cell? ⟨gb188, 0, none⟩ = some (.slice (some ad199) l0_0.length c0_0) ∧ w'.cell? ⟨gb188, 1, none⟩ = some (.slice A0_1 l0_1.length c0_1) ∧ w'.cell? ⟨gb188, 2, none⟩ = some (.slice A0_2 l0_2.length c0_2) ∧ w'.cell? (ad199.add ((x25_2).toNat * 2)) = some (.int .i64 ((rd_T63 l0_0 x25_2).f0)) ∧ w'.cell? ⟨(ad199.add ((x25_2).toNat * 2)).block, (ad199.add ((x25_2).toNat * 2)).off + 1, none⟩ = some (.int .i64 ((rd_T63 l0_0 x25_2).f1))) (ds := [10]) m0_ s2_ rfl rfl ⟨(blk_cell BK198.out 0).trans rfl, (blk_cell BK198.out 1).trans rfl, (blk_cell BK198.out 2).trans rfl, (blk_cell BK188.out 0).trans rfl, (blk_cell BK188.out 1).trans rfl, (blk_cell BK188.out 2).trans rfl, ((HB.out.cell (World.block_lt_of_cell? w _ hw200_0)).trans hw200_0), ((HB.out.cell (World.block_lt_of_cell? w _ hw200_1)).trans hw200_1)⟩ (fun hHeld => ?_); refine with_tabW spec_SweepPresence.tab8 spec_SweepPresence.bits8 (fun HT_ HW_ => ?_)
 generalize wr.drew = w34 at HO_199000 HO_199002 BK188 BK189 BK198 HB hx200_0 hx200_1 hHeld ⊢
 refine pu_ 0 36 m1_ (any_of HT_.out s2_) ?_
 refine pu_ 2 38 m2_ (any_of HT_.out s2_) ?_
 refine pu_ 4 40 m3_ (any_of HT_.out s2_) ?_
 refine take_ (i := 1) (N := some 37) (v := ?_) (a' := ?_) m4_ rfl rfl (take_ofW HT_.out HW_.out s2_) (fun _ _ _ h => h) (Or.inl ⟨by rfl, ?_⟩) hHeld ?_ ?_
 rotate_left
 {
 rintro w' ⟨s0, s1, s2, s3, s4, s5, s6, s7⟩
 go_simp
 with_reducible rfl}
 rotate_left
 · exact p1_
 refine take_ (i := 3) (N := some 39) (v := ?_) (a' := ?_) m5_ rfl rfl (take_ofW HT_.out HW_.out s2_) (fun _ _ _ h => h) (Or.inl ⟨by rfl, ?_⟩) hHeld ?_ ?_
 rotate_left
 {
 rintro w' ⟨s0, s1, s2, s3, s4, s5, s6, s7⟩
 go_simp
 with_reducible rfl}
 rotate_left
 · exact p1_
 refine pu_ 5 41 m6_ (any_of HT_.out s2_) ?_
 refine take_ (i := 6) (N := some 42) (v := ?_) (a' := ?_) m7_ rfl rfl (take_ofW HT_.out HW_.out s2_) (fun _ _ _ h => h) (Or.inl ⟨by rfl, ?_⟩) hHeld ?_ ?_
 rotate_left
 {
 rintro w' ⟨s0, s1, s2, s3, s4, s5, s6, s7⟩
 go_simp
 with_reducible rfl}
 rotate_left
 · exact p1_
 refine one_ (i := 7) (N := some 43) m8_ rfl rfl (one_of HT_.out s2_) (by decide) (fun K hK => ?_)
 refine value_ (w1 := ?_) (v := ?_) (by rfl) rfl ?_ ?_
 rotate_left 2
 {
 go_simp
 constructor
 · rfl
 · rfl}
 refine hK.out _ _ ⟨(blk_cell (blk_alloc BK198.out _) 0).trans rfl, (blk_cell (blk_alloc BK198.out _) 1).trans rfl, (blk_cell (blk_alloc BK198.out _) 2).trans rfl, (blk_cell (blk_alloc BK188.out _) 0).trans rfl, (blk_cell (blk_alloc BK188.out _) 1).trans rfl, (blk_cell (blk_alloc BK188.out _) 2).trans rfl, (World.cell?_alloc_lt _ _ _ (World.block_lt_of_cell? _ _ (((HB.out.cell (World.block_lt_of_cell? w _ hw200_0)).trans hw200_0)))).trans (((HB.out.cell (World.block_lt_of_cell? w _ hw200_0)).trans hw200_0)), (World.cell?_alloc_lt _ _ _ (World.block_lt_of_cell? _ _ (((HB.out.cell (World.block_lt_of_cell? w _ hw200_1)).trans hw200_1)))).trans (((HB.out.cell (World.block_lt_of_cell? w _ hw200_1)).trans hw200_1))⟩ (fun hHeld => ?_)
 clear hK K
 refine norm_ (a' := ?_) ?_ ?_
 rotate_left
 {
 show Act.put _ (some 43) _ = _
 simp only [Act.put, List.setIfInBounds_toArray, List.set_cons_zero, List.set_cons_succ, i64_w, i32_w]
 rfl}
 refine one_ (i := 8) (N := some 44) m9_ rfl rfl (one_of HT_.out s2_) (by decide) (fun K hK => ?_)
 refine Kd.R_append_step k63 (w0 := w) w.heap.size (by rfl) (.tmp 37) (.tmp 43) 24 63 (.agg #[(.int .i64 0), (.int .i64 0)]) 16 rfl Try.underlying24 info63 rfl (by decide) (by omega) u199000 x199000_2 (⟨(rd_T63 l0_0 x25_2).f0, (rd_T63 l0_0 x25_2).f1⟩ : S63) [.int .i64 ((rd_T63 l0_0 x25_2).f0), .int .i64 ((rd_T63 l0_0 x25_2).f1)] (fun _ => True) (fun _ => False) rfl rfl ?aP (fun _ hk => hk.elim) ?aF ?aO ?aB ?aS ?aL ?_
 (case aP => exact k63_mkM _ _ _ (⟨(rd_T63 l0_0 x25_2).f0, (rd_T63 l0_0 x25_2).f1⟩ : S63))
 (case aB => exact (y1_ HB.out))
 (case aF => exact (fun _ _ => trivial))
 (case aO => exact (b2_ HO_199000.out))
 (case aS => exact (below_size (y1_ HB.out)))
 (case aL => have := LMc30.out; omega)
 intro v202 w35 ho hb hg hat
 rw [← Ny201.out] at ho
 replace HO_199002 := Aside0.mk (Kd.R_over' (b2_ HO_199002.out) (Kd.R_typed (b2_ HO_199000.out)) (by decide) hg)
 replace BK188 := Aside0.mk (blk_grown (g := gb188) (o := .cells #[.slice (some ad199) l0_0.length c0_0, .slice A0_1 l0_1.length c0_1, .slice A0_2 l0_2.length c0_2] 27 (0, 0)) (b1_ BK188.out) hg (Kd.R_ne HO_199000.out BK188.out (by decide)))
 replace BK189 := Aside0.mk (blk_grown (g := gb189) (o := .cells #[.slice none 0 0, .slice none 0 0, .slice none 0 0] 27 (0, 0)) (b1_ BK189.out) hg (Kd.R_ne HO_199000.out BK189.out (by decide)))
 replace BK198 := Aside0.mk (blk_grown (g := gb198) (o := .cells #[u199000, .slice none 0 0, .slice Ao20 y195.length co20] 27 (0, 0)) (b1_ BK198.out) hg (Kd.R_ne HO_199000.out BK198.out (by decide)))
 replace HB := Aside0.mk (hb)
 have HO203 := Aside0.mk (ho)
 clear HO_199000
 clear ho hb hg hat
 obtain ⟨Ao36, co36, eo36⟩ := Kd.R_slice HO203.out
 (first | subst eo36 | (injection eo36 with f1_ f2_ f3_; have f4_ := f1_.symm; have f5_ := f3_.symm; clear f1_ f2_ f3_; subst f4_; subst f5_))
 refine hK.out _ _ ⟨(blk_cell BK198.out 0).trans rfl, (blk_cell BK198.out 1).trans rfl, (blk_cell BK198.out 2).trans rfl, (blk_cell BK188.out 0).trans rfl, (blk_cell BK188.out 1).trans rfl, (blk_cell BK188.out 2).trans rfl, ((HB.out.cell (World.block_lt_of_cell? w _ hw200_0)).trans hw200_0), ((HB.out.cell (World.block_lt_of_cell? w _ hw200_1)).trans hw200_1)⟩ (fun hHeld => ?_)
 clear hK K
 refine norm_ (a' := ?_) ?_ ?_
 rotate_left
 {
 show Act.put _ (some 44) _ = _
 simp only [Act.put, List.setIfInBounds_toArray, List.set_cons_zero, List.set_cons_succ, i64_w, i32_w]
 rfl}
 refine pu_ 9 45 m10_ (any_of HT_.out s2_) ?_
 refine last_ (i := 10) (N := none) m11_ rfl rfl (one_of HT_.out s2_) (by decide) (fun K hK => ?_)
 have hs37 : w35.cell? ⟨gb198, 0, none⟩ = some (u199000) := (blk_cell BK198.out 0).trans rfl
 have hfs37 := blk_frozen BK198.out 0
 have hns37_0 := NB188_198.out
 have hns37_1 := NB189_198.out
 have hms37_0 := NB198_188.out
 have hms37_1 := NB198_189.out
 refine skip_ (w1 := ?_) (by rfl) rfl ?_ ?_
 rotate_left
 {
 go_simp
 rfl}
 refine hK.out _ _ ?_
 clear hK K
 refine done_ (done_of HT_.out s2_) ?_
 try go_wp2
 go_roundg k2
 case measure => have := HJ2.out; have := HK2.out; omega
 case rel => exact ⟨(wrap64 (x25_2 + 1)), (y201), (.slice Ao36 y201.length co36), s1_, H', ⟨by have := HJ2.out; have := HK2.out; omega⟩, ⟨by (with_reducible repeat (first | apply Kd.R_alloc | apply Kd.R_drewN | apply Kd.R_drew)); exact Kd.R_mono (Kd.R_far (p := ⟨gb198, 0, none⟩) (Kd.R_types HO203.out BK198.out (by decide)) (fun _ hk => hk.2) (.slice Ao36 y201.length co36)) (fun _ hk => trivial)⟩, ⟨by (with_reducible repeat (first | apply Kd.R_alloc | apply Kd.R_drewN | apply Kd.R_drew)); exact Kd.R_mono (Kd.R_far (p := ⟨gb198, 0, none⟩) (Kd.R_types HO_199002.out BK198.out (by decide)) (fun _ hk => hk.2) (.slice Ao36 y201.length co36)) (fun _ hk => trivial)⟩, ⟨by (with_reducible repeat (first | refine blk_drewN ?_ _ | refine blk_drew ?_ | refine blk_alloc ?_ _)); refine blk_far ?_ NB188_198.out _; (with_reducible repeat (first | refine blk_drewN ?_ _ | refine blk_drew ?_ | refine blk_alloc ?_ _)); exact BK188.out⟩, ⟨by (with_reducible repeat (first | refine blk_drewN ?_ _ | refine blk_drew ?_ | refine blk_alloc ?_ _)); refine blk_far ?_ NB189_198.out _; (with_reducible repeat (first | refine blk_drewN ?_ _ | refine blk_drew ?_ | refine blk_alloc ?_ _)); exact BK189.out⟩, ⟨by (with_reducible repeat (first | refine blk_drewN ?_ _ | refine blk_drew ?_ | refine blk_alloc ?_ _)); refine blk_put (cs := #[u199000, .slice none 0 0, .slice Ao20 y195.length co20]) ?_ 0 _ rfl; (with_reducible repeat (first | refine blk_drewN ?_ _ | refine blk_drew ?_ | refine blk_alloc ?_ _)); exact BK198.out⟩, ⟨by repeat (first | (with_reducible first | exact HB.out | apply below_alloc | apply pw_below_drewN | apply below_drew1 | refine below_set ?_ GE198.out) | exact HB.out)⟩⟩}
 {
 rw [if_neg c30] at H
 exact absurd H (by simp)}}
 {
 rw [if_neg c29] at H
 have c29b0 : decide (a1 < ((rd_T63 l0_0 x25_2).f1)) = false := decide_eq_false c29
 clear c29
 have H' := Aside0.mk H
 clear H
 have hnb38 := NB188_189.out
 have hnc38 := NB189_188.out
 have hnb39 := NB188_198.out
 have hnc39 := NB198_188.out
 have hcz40_0 := c1_ BK188 0 (.slice A0_0 l0_0.length c0_0)
 have hcz40_1 := c1_ BK188 1 (.slice A0_1 l0_1.length c0_1)
 have hcz40_2 := c1_ BK188 2 (.slice A0_2 l0_2.length c0_2)
 have hfz40_0 := f1_ BK188 0
 have hfz40_1 := f1_ BK188 1
 have hfz40_2 := f1_ BK188 2
 have p199 : 0 ≤ (x25_2 : Int) := of_decide_eq_true (by first | (with_reducible assumption) | assumption)
 have q199 : x25_2 < (l0_0.length : Int) := of_decide_eq_true (by first | (with_reducible assumption) | assumption)
 obtain ⟨ad199, e199, hx199_0, hx199_1⟩ := at_T63 HR0_0.out x25_2 p199 q199
 cases e199
 replace hx199_0 := (HB.out.cell (World.block_lt_of_cell? w _ hx199_0)).trans hx199_0
 replace hx199_1 := (HB.out.cell (World.block_lt_of_cell? w _ hx199_1)).trans hx199_1
 replace p199 := eq_true p199
 replace q199 := eq_true q199
 go_wp2
 go_roundg k2
 case measure => have := HJ2.out; have := HK2.out; omega
 case rel => exact ⟨(wrap64 (x25_2 + 1)), (x199000_2), (u199000), s1_, H', ⟨by have := HJ2.out; have := HK2.out; omega⟩, ⟨b2_ HO_199000.out⟩, ⟨b2_ HO_199002.out⟩, ⟨b1_ BK188.out⟩, ⟨b1_ BK189.out⟩, ⟨b1_ BK198.out⟩, ⟨by repeat (first | (with_reducible first | exact HB.out | apply below_alloc | apply pw_below_drewN | apply below_drew1) | exact HB.out)⟩⟩}}
 {
 rw [if_neg c28] at H
 exact absurd H (by simp)}}
 {
 rw [if_neg c27] at H
 exact absurd H (by simp)}}
 {
 rw [if_neg c26] at H
 have c26b0 : decide (x25_2 < (l0_0.length : Int)) = false := decide_eq_false c26
 clear c26
 have H' := Aside0.mk H
 clear H
 have hnb41 := NB188_189.out
 have hnc41 := NB189_188.out
 have hnb42 := NB188_198.out
 have hnc42 := NB198_188.out
 have hcz43_0 := c1_ BK188 0 (.slice A0_0 l0_0.length c0_0)
 have hcz43_1 := c1_ BK188 1 (.slice A0_1 l0_1.length c0_1)
 have hcz43_2 := c1_ BK188 2 (.slice A0_2 l0_2.length c0_2)
 have hfz43_0 := f1_ BK188 0
 have hfz43_1 := f1_ BK188 1
 have hfz43_2 := f1_ BK188 2
 go_wp2
 go_loopg [50] k2 (fun kq v50 w' => ∃ (x50_3 : Int) (x199001_3 : List (S63)) (u199001 : Value), v50 = .int .i64 x50_3 ∧ Aside0 (spec_SweepPresence.l1 kq a1 (l0_1.length : Int) x50_3 l0_0 l0_1 l0_2 x199000_2 x199001_3 y195 = some (r1, r2, r3, r4)) ∧ Aside0 (kq ≤ k2) ∧ Aside0 (Kd.R k63 63 w' w.heap.size (fun k_ => some k_ ≠ (u199001 : Value).ownBlock) u199000 x199000_2) ∧ Aside0 (Kd.R k63 63 w' w.heap.size (fun k_ => some k_ ≠ (u199000 : Value).ownBlock) u199001 x199001_3) ∧ Aside0 (Kd.R k73 73 w' w.heap.size (fun _ => True) (.slice Ao20 y195.length co20) y195) ∧ Aside0 (w'.heap[gb188]? = some (.cells #[(.slice A0_0 l0_0.length c0_0), (.slice A0_1 l0_1.length c0_1), (.slice A0_2 l0_2.length c0_2)] 27 (0, 0))) ∧ Aside0 (w'.heap[gb189]? = some (.cells #[(.slice none 0 0), (.slice none 0 0), (.slice none 0 0)] 27 (0, 0))) ∧ Aside0 (w'.heap[gb198]? = some (.cells #[u199000, u199001, (.slice Ao20 y195.length co20)] 27 (0, 0))) ∧ Aside0 (Below w.heap.size w w'))
 case atStart => exact ⟨(0), (([] : List (S63))), (.slice none 0 0), s1_, H', ⟨Nat.le_refl _⟩, ⟨by (with_reducible repeat (first | apply Kd.R_alloc | apply Kd.R_drewN | apply Kd.R_drew)); exact Kd.R_mono HO_199000.out (fun _ hk => (by simp [Value.ownBlock]))⟩, ⟨by first | exact Kd.R_nil _ _ _ _ _ | exact Kd.N_nil _ _ _ _ _ | exact Kd.V_nil _ _ _ _ _ | exact Kd.Q_nil _ _ _ _ _ | exact Kd.S_nil _ _ _ _ _⟩, ⟨b2_ HO_199002.out⟩, ⟨b1_ BK188.out⟩, ⟨b1_ BK189.out⟩, ⟨b1_ BK198.out⟩, ⟨by repeat (first | (with_reducible first | exact HB.out | apply below_alloc | apply pw_below_drewN | apply below_drew1) | exact HB.out)⟩⟩
 case round =>
  skip
  {
 clear H'
 try clear c1
 try clear p1
 try clear q1
 try clear hx1
 try clear c2
 try clear p2
 try clear q2
 try clear hx2
 try clear c3
 try clear c4
 try clear c5
 try clear p6
 try clear c7
 try clear c11
 try clear c12
 try clear c14
 try clear c17
 try clear p19
 try clear q19
 try clear hx19
 try clear p20
 try clear q20
 try clear hx20
 try clear c22
 try clear c23
 try clear c26
 try clear c26b0
 try clear c27
 try clear c27b0
 try clear c28
 try clear c28b0
 try clear c29
 try clear c29b0
 try clear c30
 try clear c31
 try clear c32
 try clear c38
 try clear c39
 try clear c41
 try clear c42
 try clear hcz13_0
 try clear hcz13_1
 try clear hcz13_2
 try clear hcz18_0
 try clear hcz18_1
 try clear hcz18_2
 try clear hcz24_0
 try clear hcz24_1
 try clear hcz24_2
 try clear hcz25_0
 try clear hcz25_1
 try clear hcz25_2
 try clear hcz33_0
 try clear hcz33_1
 try clear hcz33_2
 try clear hcz40_0
 try clear hcz40_1
 try clear hcz40_2
 try clear hcz43_0
 try clear hcz43_1
 try clear hcz43_2
 try clear hfz13_0
 try clear hfz13_1
 try clear hfz13_2
 try clear hfz18_0
 try clear hfz18_1
 try clear hfz18_2
 try clear hfz24_0
 try clear hfz24_1
 try clear hfz24_2
 try clear hfz25_0
 try clear hfz25_1
 try clear hfz25_2
 try clear hfz33_0
 try clear hfz33_1
 try clear hfz33_2
 try clear hfz40_0
 try clear hfz40_1
 try clear hfz40_2
 try clear hfz43_0
 try clear hfz43_1
 try clear hfz43_2
 try clear hx199_0
 try clear hx199_1
 try clear hx200_0
 try clear hx200_1
 try clear p199
 try clear p2
 try clear p200
 try clear q199
 try clear q200
 obtain ⟨x50_3, x199001_3, u199001, rfl, HA, HK3, HO_199000, HO_199001, HO_199002, BK188, BK189, BK198, HB⟩ := hrel
 cases gk with
 | zero => exact absurd HA.out (by simp [spec_SweepPresence.l1])
 | succ k3 =>
  skip
  {
 have H := HA.out
 clear HA
 simp only [spec_SweepPresence.l1] at H
 by_cases c44 : x50_3 < (l0_1.length : Int)
 {
 rw [if_pos c44] at H
 have c44b0 : decide (x50_3 < (l0_1.length : Int)) = true := decide_eq_true c44
 clear c44
 by_cases c45 : 0 ≤ x50_3
 {
 rw [if_pos c45] at H
 have c45b0 : decide (0 ≤ x50_3) = true := decide_eq_true c45
 clear c45
 by_cases c46 : x50_3 < (l0_1.length : Int)
 {
 rw [if_pos c46] at H
 have c46b0 : decide (x50_3 < (l0_1.length : Int)) = true := decide_eq_true c46
 clear c46
 by_cases c47 : ((rd_T63 l0_1 x50_3).f1) > a1
 {
 rw [if_pos c47] at H
 have c47b0 : decide (a1 < ((rd_T63 l0_1 x50_3).f1)) = true := decide_eq_true c47
 clear c47
 replace H := Option.bind_eq_some_iff.mp H
 obtain ⟨t206, A480, H⟩ := H
 replace H : (if t206 > a1 then (if x199001_3.length < 8796093022208 then (spec_SweepPresence.l1 k3 a1 (l0_1.length : Int) (wrap64 (x50_3 + 1)) l0_0 l0_1 l0_2 x199000_2 (x199001_3 ++ [(⟨(rd_T63 l0_1 x50_3).f0, (rd_T63 l0_1 x50_3).f1⟩ : S63)]) y195) else (none)) else (spec_SweepPresence.l1 k3 a1 (l0_1.length : Int) (wrap64 (x50_3 + 1)) l0_0 l0_1 l0_2 x199000_2 x199001_3 y195)) = some (r1, r2, r3, r4) := H
 have A48 := Aside0.mk A480
 clear A480
 by_cases c49 : t206 > a1
 {
 rw [if_pos c49] at H
 have c49b0 : decide (a1 < t206) = true := decide_eq_true c49
 clear c49
 by_cases c50 : x199001_3.length < 8796093022208
 {
 rw [if_pos c50] at H
 have LMc50 := Aside0.mk c50
 clear c50
 obtain ⟨y208, hy208⟩ : ∃ y_ : List (S63), y_ = (x199001_3 ++ [(⟨(rd_T63 l0_1 x50_3).f0, (rd_T63 l0_1 x50_3).f1⟩ : S63)]) := ⟨_, rfl⟩
 replace H : (spec_SweepPresence.l1 k3 a1 (l0_1.length : Int) (wrap64 (x50_3 + 1)) l0_0 l0_1 l0_2 x199000_2 y208 y195) = some (r1, r2, r3, r4) := by first | (rw [hy208]; with_reducible exact H) | (have H2_ := (Option.bind_some _ _).symm.trans H; rw [hy208]; with_reducible exact H2_) | (have H2_ := (Option.bind_some _ _).symm.trans H; with_reducible exact H2_) | with_reducible exact H | (rw [hy208]; exact H) | exact H
 have Ny208 := Aside0.mk hy208
 clear hy208
 have H' := Aside0.mk H
 clear H
 try go_wp2
 replace HO_199000 := Aside0.mk (Kd.R_drew HO_199000.out)
 replace HO_199001 := Aside0.mk (Kd.R_drew HO_199001.out)
 replace HO_199002 := Aside0.mk (Kd.R_drew HO_199002.out)
 replace BK188 := Aside0.mk (blk_drew BK188.out)
 replace BK189 := Aside0.mk (blk_drew BK189.out)
 replace BK198 := Aside0.mk (blk_drew BK198.out)
 replace HB := Aside0.mk (below_drew1 HB.out)
 have p204 : 0 ≤ (x50_3 : Int) := of_decide_eq_true (by first | (with_reducible assumption) | assumption)
 have q204 : x50_3 < (l0_1.length : Int) := of_decide_eq_true (by first | (with_reducible assumption) | assumption)
 obtain ⟨ad204, e204, hx204_0, hx204_1⟩ := at_T63 HR0_1.out x50_3 p204 q204
 have hw204_1 := hx204_1
 have hw204_0 := hx204_0
 cases e204
 replace hx204_0 := (HB.out.cell (World.block_lt_of_cell? w _ hx204_0)).trans hx204_0
 replace hx204_1 := (HB.out.cell (World.block_lt_of_cell? w _ hx204_1)).trans hx204_1
 replace p204 := eq_true p204
 replace q204 := eq_true q204
 have p205 : 0 ≤ (x50_3 : Int) := of_decide_eq_true (by first | (with_reducible assumption) | assumption)
 have q205 : x50_3 < (l0_1.length : Int) := of_decide_eq_true (by first | (with_reducible assumption) | assumption)
 obtain ⟨ad205, e205, hx205_0, hx205_1⟩ := at_T63 HR0_1.out x50_3 p205 q205
 have hw205_1 := hx205_1
 have hw205_0 := hx205_0
 obtain rfl : ad204 = ad205 := (by injection e205)
 replace hx205_0 := (HB.out.cell (World.block_lt_of_cell? w _ hx205_0)).trans hx205_0
 replace hx205_1 := (HB.out.cell (World.block_lt_of_cell? w _ hx205_1)).trans hx205_1
 replace p205 := eq_true p205
 replace q205 := eq_true q205
 refine start_ (n := 21) (S := fun w' => w'.cell? ⟨gb188, 0, none⟩ = some (.slice A0_0 l0_0.length c0_0) ∧ w'.cell? ⟨gb188, 1, none⟩ = some (.slice (some ad204) l0_1.length c0_1) ∧ w'.cell? ⟨gb188, 2, none⟩ = some (.slice A0_2 l0_2.length c0_2) ∧ w'.cell? (ad204.add ((x50_3).toNat * 2)) = some (.int .i64 ((rd_T63 l0_1 x50_3).f0)) ∧ w'.cell? ⟨(ad204.add ((x50_3).toNat * 2)).block, (ad204.add ((x50_3).toNat * 2)).off + 1, none⟩ = some (.int .i64 ((rd_T63 l0_1 x50_3).f1)) ∧ w'.cell? (ad204.add ((x50_3).toNat * 2)) = some (.int .i64 ((rd_T63 l0_1 x50_3).f0)) ∧ w'.cell? ⟨(ad204.add ((x50_3).toNat * 2)).block, (ad204.add ((x50_3).toNat * 2)).off + 1, none⟩ = some (.int .i64 ((rd_T63 l0_1 x50_3).f1))) (ds := []) m12_ s2_ rfl rfl ⟨(blk_cell BK188.out 0).trans rfl, (blk_cell BK188.out 1).trans rfl, (blk_cell BK188.out 2).trans rfl, ((HB.out.cell (World.block_lt_of_cell? w _ hw204_0)).trans hw204_0), ((HB.out.cell (World.block_lt_of_cell? w _ hw204_1)).trans hw204_1), ((HB.out.cell (World.block_lt_of_cell? w _ hw205_0)).trans hw205_0), ((HB.out.cell (World.block_lt_of_cell? w _ hw205_1)).trans hw205_1)⟩ (fun hHeld => ?_); refine with_tabW spec_SweepPresence.tab13 spec_SweepPresence.bits13 (fun HT_ HW_ => ?_)
 generalize wr.drew = w51 at HO_199000 HO_199001 HO_199002 BK188 BK189 BK198 HB hx204_0 hx204_1 hx205_0 hx205_1 hHeld ⊢
 refine pu_ 0 53 m13_ (any_of HT_.out s2_) ?_
 refine pu_ 2 55 m14_ (any_of HT_.out s2_) ?_
 refine pu_ 6 59 m15_ (any_of HT_.out s2_) ?_
 refine take_ (i := 1) (N := some 54) (v := ?_) (a' := ?_) m16_ rfl rfl (take_ofW HT_.out HW_.out s2_) (fun _ _ _ h => h) (Or.inl ⟨by rfl, ?_⟩) hHeld ?_ ?_
 rotate_left
 {
 rintro w' ⟨s0, s1, s2, s3, s4, s5, s6⟩
 go_simp
 with_reducible rfl}
 rotate_left
 · exact p1_
 refine pu_ 3 56 m17_ (any_of HT_.out s2_) ?_
 refine pu_ 4 57 m18_ (any_of HT_.out s2_) ?_
 refine take_ (i := 5) (N := some 58) (v := ?_) (a' := ?_) m19_ rfl rfl (take_ofW HT_.out HW_.out s2_) (fun _ _ _ h => h) (Or.inl ⟨by rfl, ?_⟩) hHeld ?_ ?_
 rotate_left
 {
 rintro w' ⟨s0, s1, s2, s3, s4, s5, s6⟩
 go_simp
 with_reducible rfl}
 rotate_left
 · exact p1_
 refine pu_ 7 60 m20_ (any_of HT_.out s2_) ?_
 refine pu_ 8 61 m21_ (any_of HT_.out s2_) ?_
 refine pu_ 9 62 m22_ (any_of HT_.out s2_) ?_
 refine pu_ 11 64 m23_ (any_of HT_.out s2_) ?_
 refine pu_ 13 66 m24_ (any_of HT_.out s2_) ?_
 refine pu_ 18 71 m25_ (any_of HT_.out s2_) ?_
 refine take_ (i := 10) (N := some 63) (v := ?_) (a' := ?_) m26_ rfl rfl (take_ofW HT_.out HW_.out s2_) (fun _ _ _ h => h) (Or.inl ⟨by rfl, ?_⟩) hHeld ?_ ?_
 rotate_left
 {
 rintro w' ⟨s0, s1, s2, s3, s4, s5, s6⟩
 go_simp
 with_reducible rfl}
 rotate_left
 · exact p1_
 refine take_ (i := 12) (N := some 65) (v := ?_) (a' := ?_) m27_ rfl rfl (take_ofW HT_.out HW_.out s2_) (fun _ _ _ h => h) (Or.inl ⟨by rfl, ?_⟩) hHeld ?_ ?_
 rotate_left
 {
 rintro w' ⟨s0, s1, s2, s3, s4, s5, s6⟩
 go_simp
 with_reducible rfl}
 rotate_left
 · exact p1_
 refine pu_ 14 67 m28_ (any_of HT_.out s2_) ?_
 refine pu_ 15 68 m29_ (any_of HT_.out s2_) ?_
 refine take_ (i := 16) (N := some 69) (v := ?_) (a' := ?_) m30_ rfl rfl (take_ofW HT_.out HW_.out s2_) (fun _ _ _ h => h) (Or.inl ⟨by rfl, ?_⟩) hHeld ?_ ?_
 rotate_left
 {
 rintro w' ⟨s0, s1, s2, s3, s4, s5, s6⟩
 go_simp
 with_reducible rfl}
 rotate_left
 · exact p1_
 refine one_ (i := 17) (N := some 70) m31_ rfl rfl (one_of HT_.out s2_) (by decide) (fun K hK => ?_)
 refine goes_ Try.func59 s2_ rfl #[.slice A0_0 l0_0.length c0_0, .int .i64 ((rd_T63 l0_1 x50_3).f0)] (by rfl) rfl rfl s3_ ?_
 with_reducible refine (spec_l05Until.calls k3 _ _ l0_0 ((rd_T63 l0_1 x50_3).f0) t206 _ ?side1 ?side2 A48.out).mono ?_
 (case side1 => exact y2_ (Kd.C_below HR0_0.out HB.out))
 (case side2 => exact HC0_0.out)
 rintro e w' ⟨rfl, ⟨nd, rfl⟩⟩
 refine ⟨_, rfl, ?_⟩
 refine hK.out _ _ ⟨(blk_cell BK188.out 0).trans rfl, (blk_cell BK188.out 1).trans rfl, (blk_cell BK188.out 2).trans rfl, ((HB.out.cell (World.block_lt_of_cell? w _ hw204_0)).trans hw204_0), ((HB.out.cell (World.block_lt_of_cell? w _ hw204_1)).trans hw204_1), ((HB.out.cell (World.block_lt_of_cell? w _ hw205_0)).trans hw205_0), ((HB.out.cell (World.block_lt_of_cell? w _ hw205_1)).trans hw205_1)⟩ (fun hHeld => ?_)
 clear hK K
 refine norm_ (a' := ?_) ?_ ?_
 rotate_left
 {
 show Act.put _ (some 70) _ = _
 simp only [Act.put, List.setIfInBounds_toArray, List.set_cons_zero, List.set_cons_succ, i64_w, i32_w]
 rfl}
 refine pu_ 19 72 m32_ (any_of HT_.out s2_) ?_
 refine pu_ 20 73 m33_ (any_of HT_.out s2_) ?_
 refine done_ (done_of HT_.out s2_) ?_
 try go_wp2
 (try (rw [drewN_self w51]; generalize hq_ : World.drewN w51 _ = w51; have n0_ : Aside0 (Kd.R k63 63 w51 w.heap.size (fun k_ => some k_ ≠ (u199001 : Value).ownBlock) u199000 x199000_2) := ⟨by rw [← hq_]; exact (b2_ HO_199000.out)⟩; have n1_ : Aside0 (Kd.R k63 63 w51 w.heap.size (fun k_ => some k_ ≠ (u199000 : Value).ownBlock) u199001 x199001_3) := ⟨by rw [← hq_]; exact (b2_ HO_199001.out)⟩; have n2_ : Aside0 (Kd.R k73 73 w51 w.heap.size (fun _ => True) (.slice Ao20 y195.length co20) y195) := ⟨by rw [← hq_]; exact (b2_ HO_199002.out)⟩; have n3_ : Aside0 (w51.heap[gb188]? = some (.cells #[.slice A0_0 l0_0.length c0_0, .slice (some ad204) l0_1.length c0_1, .slice A0_2 l0_2.length c0_2] 27 (0, 0))) := ⟨by rw [← hq_]; exact (b1_ BK188.out)⟩; have n4_ : Aside0 (w51.heap[gb189]? = some (.cells #[.slice none 0 0, .slice none 0 0, .slice none 0 0] 27 (0, 0))) := ⟨by rw [← hq_]; exact (b1_ BK189.out)⟩; have n5_ : Aside0 (w51.heap[gb198]? = some (.cells #[u199000, u199001, .slice Ao20 y195.length co20] 27 (0, 0))) := ⟨by rw [← hq_]; exact (b1_ BK198.out)⟩; have n6_ : Aside0 (Below w.heap.size w w51) := ⟨by rw [← hq_]; exact (y1_ HB.out)⟩; clear HO_199000 HO_199001 HO_199002 BK188 BK189 BK198 HB hq_; have HO_199000 := n0_; have HO_199001 := n1_; have HO_199002 := n2_; have BK188 := n3_; have BK189 := n4_; have BK198 := n5_; have HB := n6_; clear n0_ n1_ n2_ n3_ n4_ n5_ n6_))
 replace HO_199000 := Aside0.mk (Kd.R_drew HO_199000.out)
 replace HO_199001 := Aside0.mk (Kd.R_drew HO_199001.out)
 replace HO_199002 := Aside0.mk (Kd.R_drew HO_199002.out)
 replace BK188 := Aside0.mk (blk_drew BK188.out)
 replace BK189 := Aside0.mk (blk_drew BK189.out)
 replace BK198 := Aside0.mk (blk_drew BK198.out)
 replace HB := Aside0.mk (below_drew1 HB.out)
 have p207 : 0 ≤ (x50_3 : Int) := of_decide_eq_true (by first | (with_reducible assumption) | assumption)
 have q207 : x50_3 < (l0_1.length : Int) := of_decide_eq_true (by first | (with_reducible assumption) | assumption)
 obtain ⟨ad207, e207, hx207_0, hx207_1⟩ := at_T63 HR0_1.out x50_3 p207 q207
 have hw207_1 := hx207_1
 have hw207_0 := hx207_0
 obtain rfl : ad204 = ad207 := (by injection e207)
 replace hx207_0 := (HB.out.cell (World.block_lt_of_cell? w _ hx207_0)).trans hx207_0
 replace hx207_1 := (HB.out.cell (World.block_lt_of_cell? w _ hx207_1)).trans hx207_1
 replace p207 := eq_true p207
 replace q207 := eq_true q207
 refine start_ (n := 11) (S := fun w' => w'.cell? ⟨gb198, 0, none⟩ = some (u199000) ∧ w'.cell? ⟨gb198, 1, none⟩ = some (u199001) ∧ w'.cell? ⟨gb198, 2, none⟩ = some (.slice Ao20 y195.length co20) ∧ w'.cell? ⟨gb188, 0, none⟩ = some (.slice A0_0 l0_0.length c0_0) ∧ w'.cell? ⟨gb188, 1, none⟩ = some (.slice (some ad204) l0_1.length c0_1) ∧ w'.cell? ⟨gb188, 2, none⟩ = some (.slice A0_2 l0_2.length c0_2) ∧ w'.cell? (ad204.add ((x50_3).toNat * 2)) = some (.int .i64 ((rd_T63 l0_1 x50_3).f0)) ∧ w'.cell? ⟨(ad204.add ((x50_3).toNat * 2)).block, (ad204.add ((x50_3).toNat * 2)).off + 1, none⟩ = some (.int .i64 ((rd_T63 l0_1 x50_3).f1))) (ds := [10]) m0_ s2_ rfl rfl ⟨(blk_cell BK198.out 0).trans rfl, (blk_cell BK198.out 1).trans rfl, (blk_cell BK198.out 2).trans rfl, (blk_cell BK188.out 0).trans rfl, (blk_cell BK188.out 1).trans rfl, (blk_cell BK188.out 2).trans rfl, ((HB.out.cell (World.block_lt_of_cell? w _ hw207_0)).trans hw207_0), ((HB.out.cell (World.block_lt_of_cell? w _ hw207_1)).trans hw207_1)⟩ (fun hHeld => ?_); refine with_tabW spec_SweepPresence.tab14 spec_SweepPresence.bits14 (fun HT_ HW_ => ?_)
 generalize w51.drew = w52 at HO_199000 HO_199001 HO_199002 BK188 BK189 BK198 HB hx207_0 hx207_1 hHeld ⊢
 refine pu_ 0 74 m1_ (any_of HT_.out s2_) ?_
 refine pu_ 2 76 m2_ (any_of HT_.out s2_) ?_
 refine pu_ 4 78 m3_ (any_of HT_.out s2_) ?_
 refine take_ (i := 1) (N := some 75) (v := ?_) (a' := ?_) m4_ rfl rfl (take_ofW HT_.out HW_.out s2_) (fun _ _ _ h => h) (Or.inl ⟨by rfl, ?_⟩) hHeld ?_ ?_
 rotate_left
 {
 rintro w' ⟨s0, s1, s2, s3, s4, s5, s6, s7⟩
 go_simp
 with_reducible rfl}
 rotate_left
 · exact p1_
 refine take_ (i := 3) (N := some 77) (v := ?_) (a' := ?_) m5_ rfl rfl (take_ofW HT_.out HW_.out s2_) (fun _ _ _ h => h) (Or.inl ⟨by rfl, ?_⟩) hHeld ?_ ?_
 rotate_left
 {
 rintro w' ⟨s0, s1, s2, s3, s4, s5, s6, s7⟩
 go_simp
 with_reducible rfl}
 rotate_left
 · exact p1_
 refine pu_ 5 79 m6_ (any_of HT_.out s2_) ?_
 refine take_ (i := 6) (N := some 80) (v := ?_) (a' := ?_) m7_ rfl rfl (take_ofW HT_.out HW_.out s2_) (fun _ _ _ h => h) (Or.inl ⟨by rfl, ?_⟩) hHeld ?_ ?_
 rotate_left
 {
 rintro w' ⟨s0, s1, s2, s3, s4, s5, s6, s7⟩
 go_simp
 with_reducible rfl}
 rotate_left
 · exact p1_
 refine one_ (i := 7) (N := some 81) m8_ rfl rfl (one_of HT_.out s2_) (by decide) (fun K hK => ?_)
 refine value_ (w1 := ?_) (v := ?_) (by rfl) rfl ?_ ?_
 rotate_left 2
 {
 go_simp
 constructor
 · rfl
 · rfl}
 refine hK.out _ _ ⟨(blk_cell (blk_alloc BK198.out _) 0).trans rfl, (blk_cell (blk_alloc BK198.out _) 1).trans rfl, (blk_cell (blk_alloc BK198.out _) 2).trans rfl, (blk_cell (blk_alloc BK188.out _) 0).trans rfl, (blk_cell (blk_alloc BK188.out _) 1).trans rfl, (blk_cell (blk_alloc BK188.out _) 2).trans rfl, (World.cell?_alloc_lt _ _ _ (World.block_lt_of_cell? _ _ (((HB.out.cell (World.block_lt_of_cell? w _ hw207_0)).trans hw207_0)))).trans (((HB.out.cell (World.block_lt_of_cell? w _ hw207_0)).trans hw207_0)), (World.cell?_alloc_lt _ _ _ (World.block_lt_of_cell? _ _ (((HB.out.cell (World.block_lt_of_cell? w _ hw207_1)).trans hw207_1)))).trans (((HB.out.cell (World.block_lt_of_cell? w _ hw207_1)).trans hw207_1))⟩ (fun hHeld => ?_)
 clear hK K
 refine norm_ (a' := ?_) ?_ ?_
 rotate_left
 {
 show Act.put _ (some 81) _ = _
 simp only [Act.put, List.setIfInBounds_toArray, List.set_cons_zero, List.set_cons_succ, i64_w, i32_w]
 rfl}
 refine one_ (i := 8) (N := some 82) m9_ rfl rfl (one_of HT_.out s2_) (by decide) (fun K hK => ?_)
 refine Kd.R_append_step k63 (w0 := w) w.heap.size (by rfl) (.tmp 75) (.tmp 81) 24 63 (.agg #[(.int .i64 0), (.int .i64 0)]) 16 rfl Try.underlying24 info63 rfl (by decide) (by omega) u199001 x199001_3 (⟨(rd_T63 l0_1 x50_3).f0, (rd_T63 l0_1 x50_3).f1⟩ : S63) [.int .i64 ((rd_T63 l0_1 x50_3).f0), .int .i64 ((rd_T63 l0_1 x50_3).f1)] (fun k_ => some k_ ≠ (u199000 : Value).ownBlock) (fun _ => False) rfl rfl ?aP (fun _ hk => hk.elim) ?aF ?aO ?aB ?aS ?aL ?_
 (case aP => exact k63_mkM _ _ _ (⟨(rd_T63 l0_1 x50_3).f0, (rd_T63 l0_1 x50_3).f1⟩ : S63))
 (case aB => exact (y1_ HB.out))
 (case aF => exact (fun k_ hk => Kd.fresh' (Kd.R_lt (b2_ HO_199000.out)) k_ hk))
 (case aO => exact (b2_ HO_199001.out))
 (case aS => exact (below_size (y1_ HB.out)))
 (case aL => have := LMc50.out; omega)
 intro v209 w53 ho hb hg hat
 rw [← Ny208.out] at ho
 replace HO_199000 := Aside0.mk (Kd.R_after (ok := (fun _ => True)) (by (with_reducible repeat (first | apply Kd.R_alloc | apply Kd.R_drewN | apply Kd.R_drew)); exact Kd.R_mono HO_199000.out (fun _ hk => ⟨trivial, hk⟩)) hg hat)
 replace HO_199002 := Aside0.mk (Kd.R_over' (b2_ HO_199002.out) (Kd.R_typed (b2_ HO_199001.out)) (by decide) hg)
 replace BK188 := Aside0.mk (blk_grown (g := gb188) (o := .cells #[.slice A0_0 l0_0.length c0_0, .slice (some ad204) l0_1.length c0_1, .slice A0_2 l0_2.length c0_2] 27 (0, 0)) (b1_ BK188.out) hg (Kd.R_ne HO_199001.out BK188.out (by decide)))
 replace BK189 := Aside0.mk (blk_grown (g := gb189) (o := .cells #[.slice none 0 0, .slice none 0 0, .slice none 0 0] 27 (0, 0)) (b1_ BK189.out) hg (Kd.R_ne HO_199001.out BK189.out (by decide)))
 replace BK198 := Aside0.mk (blk_grown (g := gb198) (o := .cells #[u199000, u199001, .slice Ao20 y195.length co20] 27 (0, 0)) (b1_ BK198.out) hg (Kd.R_ne HO_199001.out BK198.out (by decide)))
 replace HB := Aside0.mk (hb)
 have HO210 := Aside0.mk (ho)
 clear HO_199001
 clear ho hb hg hat
 obtain ⟨Ao54, co54, eo54⟩ := Kd.R_slice HO210.out
 (first | subst eo54 | (injection eo54 with f1_ f2_ f3_; have f4_ := f1_.symm; have f5_ := f3_.symm; clear f1_ f2_ f3_; subst f4_; subst f5_))
 refine hK.out _ _ ⟨(blk_cell BK198.out 0).trans rfl, (blk_cell BK198.out 1).trans rfl, (blk_cell BK198.out 2).trans rfl, (blk_cell BK188.out 0).trans rfl, (blk_cell BK188.out 1).trans rfl, (blk_cell BK188.out 2).trans rfl, ((HB.out.cell (World.block_lt_of_cell? w _ hw207_0)).trans hw207_0), ((HB.out.cell (World.block_lt_of_cell? w _ hw207_1)).trans hw207_1)⟩ (fun hHeld => ?_)
 clear hK K
 refine norm_ (a' := ?_) ?_ ?_
 rotate_left
 {
 show Act.put _ (some 82) _ = _
 simp only [Act.put, List.setIfInBounds_toArray, List.set_cons_zero, List.set_cons_succ, i64_w, i32_w]
 rfl}
 refine pu_ 9 83 m10_ (any_of HT_.out s2_) ?_
 refine last_ (i := 10) (N := none) m11_ rfl rfl (one_of HT_.out s2_) (by decide) (fun K hK => ?_)
 have hs55 : w53.cell? ⟨gb198, 1, none⟩ = some (u199001) := (blk_cell BK198.out 1).trans rfl
 have hfs55 := blk_frozen BK198.out 1
 have hns55_0 := NB188_198.out
 have hns55_1 := NB189_198.out
 have hms55_0 := NB198_188.out
 have hms55_1 := NB198_189.out
 refine skip_ (w1 := ?_) (by rfl) rfl ?_ ?_
 rotate_left
 {
 go_simp
 rfl}
 refine hK.out _ _ ?_
 clear hK K
 refine done_ (done_of HT_.out s2_) ?_
 try go_wp2
 go_roundg k3
 case measure => have := HJ2.out; have := HK2.out; have := HK3.out; omega
 case rel => exact ⟨(wrap64 (x50_3 + 1)), (y208), (.slice Ao54 y208.length co54), s1_, H', ⟨by have := HJ2.out; have := HK2.out; have := HK3.out; omega⟩, ⟨by (with_reducible repeat (first | apply Kd.R_alloc | apply Kd.R_drewN | apply Kd.R_drew)); exact Kd.R_mono (Kd.R_far (p := ⟨gb198, 1, none⟩) (Kd.R_types HO_199000.out BK198.out (by decide)) (fun _ hk => hk.2) (.slice Ao54 y208.length co54)) (fun _ hk => hk.1.2)⟩, ⟨by (with_reducible repeat (first | apply Kd.R_alloc | apply Kd.R_drewN | apply Kd.R_drew)); exact Kd.R_mono (Kd.R_far (p := ⟨gb198, 1, none⟩) (Kd.R_types HO210.out BK198.out (by decide)) (fun _ hk => hk.2) (.slice Ao54 y208.length co54)) (fun _ hk => hk.1)⟩, ⟨by (with_reducible repeat (first | apply Kd.R_alloc | apply Kd.R_drewN | apply Kd.R_drew)); exact Kd.R_mono (Kd.R_far (p := ⟨gb198, 1, none⟩) (Kd.R_types HO_199002.out BK198.out (by decide)) (fun _ hk => hk.2) (.slice Ao54 y208.length co54)) (fun _ hk => trivial)⟩, ⟨by (with_reducible repeat (first | refine blk_drewN ?_ _ | refine blk_drew ?_ | refine blk_alloc ?_ _)); refine blk_far ?_ NB188_198.out _; (with_reducible repeat (first | refine blk_drewN ?_ _ | refine blk_drew ?_ | refine blk_alloc ?_ _)); exact BK188.out⟩, ⟨by (with_reducible repeat (first | refine blk_drewN ?_ _ | refine blk_drew ?_ | refine blk_alloc ?_ _)); refine blk_far ?_ NB189_198.out _; (with_reducible repeat (first | refine blk_drewN ?_ _ | refine blk_drew ?_ | refine blk_alloc ?_ _)); exact BK189.out⟩, ⟨by (with_reducible repeat (first | refine blk_drewN ?_ _ | refine blk_drew ?_ | refine blk_alloc ?_ _)); refine blk_put (cs := #[u199000, u199001, .slice Ao20 y195.length co20]) ?_ 1 _ rfl; (with_reducible repeat (first | refine blk_drewN ?_ _ | refine blk_drew ?_ | refine blk_alloc ?_ _)); exact BK198.out⟩, ⟨by repeat (first | (with_reducible first | exact HB.out | apply below_alloc | apply pw_below_drewN | apply below_drew1 | refine below_set ?_ GE198.out) | exact HB.out)⟩⟩}
 {
 rw [if_neg c50] at H
 exact absurd H (by simp)}}
 {
 rw [if_neg c49] at H
 have c49b0 : decide (a1 < t206) = false := decide_eq_false c49
 clear c49
 have H' := Aside0.mk H
 clear H
 try go_wp2
 replace HO_199000 := Aside0.mk (Kd.R_drew HO_199000.out)
 replace HO_199001 := Aside0.mk (Kd.R_drew HO_199001.out)
 replace HO_199002 := Aside0.mk (Kd.R_drew HO_199002.out)
 replace BK188 := Aside0.mk (blk_drew BK188.out)
 replace BK189 := Aside0.mk (blk_drew BK189.out)
 replace BK198 := Aside0.mk (blk_drew BK198.out)
 replace HB := Aside0.mk (below_drew1 HB.out)
 have p204 : 0 ≤ (x50_3 : Int) := of_decide_eq_true (by first | (with_reducible assumption) | assumption)
 have q204 : x50_3 < (l0_1.length : Int) := of_decide_eq_true (by first | (with_reducible assumption) | assumption)
 obtain ⟨ad204, e204, hx204_0, hx204_1⟩ := at_T63 HR0_1.out x50_3 p204 q204
 have hw204_1 := hx204_1
 have hw204_0 := hx204_0
 cases e204
 replace hx204_0 := (HB.out.cell (World.block_lt_of_cell? w _ hx204_0)).trans hx204_0
 replace hx204_1 := (HB.out.cell (World.block_lt_of_cell? w _ hx204_1)).trans hx204_1
 replace p204 := eq_true p204
 replace q204 := eq_true q204
 have p205 : 0 ≤ (x50_3 : Int) := of_decide_eq_true (by first | (with_reducible assumption) | assumption)
 have q205 : x50_3 < (l0_1.length : Int) := of_decide_eq_true (by first | (with_reducible assumption) | assumption)
 obtain ⟨ad205, e205, hx205_0, hx205_1⟩ := at_T63 HR0_1.out x50_3 p205 q205
 have hw205_1 := hx205_1
 have hw205_0 := hx205_0
 obtain rfl : ad204 = ad205 := (by injection e205)
 replace hx205_0 := (HB.out.cell (World.block_lt_of_cell? w _ hx205_0)).trans hx205_0
 replace hx205_1 := (HB.out.cell (World.block_lt_of_cell? w _ hx205_1)).trans hx205_1
 replace p205 := eq_true p205
 replace q205 := eq_true q205
 refine start_ (n := 21) (S := fun w' => w'.cell? ⟨gb188, 0, none⟩ = some (.slice A0_0 l0_0.length c0_0) ∧ w'.cell? ⟨gb188, 1, none⟩ = some (.slice (some ad204) l0_1.length c0_1) ∧ w'.cell? ⟨gb188, 2, none⟩ = some (.slice A0_2 l0_2.length c0_2) ∧ w'.cell? (ad204.add ((x50_3).toNat * 2)) = some (.int .i64 ((rd_T63 l0_1 x50_3).f0)) ∧ w'.cell? ⟨(ad204.add ((x50_3).toNat * 2)).block, (ad204.add ((x50_3).toNat * 2)).off + 1, none⟩ = some (.int .i64 ((rd_T63 l0_1 x50_3).f1)) ∧ w'.cell? (ad204.add ((x50_3).toNat * 2)) = some (.int .i64 ((rd_T63 l0_1 x50_3).f0)) ∧ w'.cell? ⟨(ad204.add ((x50_3).toNat * 2)).block, (ad204.add ((x50_3).toNat * 2)).off + 1, none⟩ = some (.int .i64 ((rd_T63 l0_1 x50_3).f1))) (ds := []) m12_ s2_ rfl rfl ⟨(blk_cell BK188.out 0).trans rfl, (blk_cell BK188.out 1).trans rfl, (blk_cell BK188.out 2).trans rfl, ((HB.out.cell (World.block_lt_of_cell? w _ hw204_0)).trans hw204_0), ((HB.out.cell (World.block_lt_of_cell? w _ hw204_1)).trans hw204_1), ((HB.out.cell (World.block_lt_of_cell? w _ hw205_0)).trans hw205_0), ((HB.out.cell (World.block_lt_of_cell? w _ hw205_1)).trans hw205_1)⟩ (fun hHeld => ?_); refine with_tabW spec_SweepPresence.tab13 spec_SweepPresence.bits13 (fun HT_ HW_ => ?_)
 generalize wr.drew = w56 at HO_199000 HO_199001 HO_199002 BK188 BK189 BK198 HB hx204_0 hx204_1 hx205_0 hx205_1 hHeld ⊢
 refine pu_ 0 53 m13_ (any_of HT_.out s2_) ?_
 refine pu_ 2 55 m14_ (any_of HT_.out s2_) ?_
 refine pu_ 6 59 m15_ (any_of HT_.out s2_) ?_
 refine take_ (i := 1) (N := some 54) (v := ?_) (a' := ?_) m16_ rfl rfl (take_ofW HT_.out HW_.out s2_) (fun _ _ _ h => h) (Or.inl ⟨by rfl, ?_⟩) hHeld ?_ ?_
 rotate_left
 {
 rintro w' ⟨s0, s1, s2, s3, s4, s5, s6⟩
 go_simp
 with_reducible rfl}
 rotate_left
 · exact p1_
 refine pu_ 3 56 m17_ (any_of HT_.out s2_) ?_
 refine pu_ 4 57 m18_ (any_of HT_.out s2_) ?_
 refine take_ (i := 5) (N := some 58) (v := ?_) (a' := ?_) m19_ rfl rfl (take_ofW HT_.out HW_.out s2_) (fun _ _ _ h => h) (Or.inl ⟨by rfl, ?_⟩) hHeld ?_ ?_
 rotate_left
 {
 rintro w' ⟨s0, s1, s2, s3, s4, s5, s6⟩
 go_simp
 with_reducible rfl}
 rotate_left
 · exact p1_
 refine pu_ 7 60 m20_ (any_of HT_.out s2_) ?_
 refine pu_ 8 61 m21_ (any_of HT_.out s2_) ?_
 refine pu_ 9 62 m22_ (any_of HT_.out s2_) ?_
 refine pu_ 11 64 m23_ (any_of HT_.out s2_) ?_
 refine pu_ 13 66 m24_ (any_of HT_.out s2_) ?_
 refine pu_ 18 71 m25_ (any_of HT_.out s2_) ?_
 refine take_ (i := 10) (N := some 63) (v := ?_) (a' := ?_) m26_ rfl rfl (take_ofW HT_.out HW_.out s2_) (fun _ _ _ h => h) (Or.inl ⟨by rfl, ?_⟩) hHeld ?_ ?_
 rotate_left
 {
 rintro w' ⟨s0, s1, s2, s3, s4, s5, s6⟩
 go_simp
 with_reducible rfl}
 rotate_left
 · exact p1_
 refine take_ (i := 12) (N := some 65) (v := ?_) (a' := ?_) m27_ rfl rfl (take_ofW HT_.out HW_.out s2_) (fun _ _ _ h => h) (Or.inl ⟨by rfl, ?_⟩) hHeld ?_ ?_
 rotate_left
 {
 rintro w' ⟨s0, s1, s2, s3, s4, s5, s6⟩
 go_simp
 with_reducible rfl}
 rotate_left
 · exact p1_
 refine pu_ 14 67 m28_ (any_of HT_.out s2_) ?_
 refine pu_ 15 68 m29_ (any_of HT_.out s2_) ?_
 refine take_ (i := 16) (N := some 69) (v := ?_) (a' := ?_) m30_ rfl rfl (take_ofW HT_.out HW_.out s2_) (fun _ _ _ h => h) (Or.inl ⟨by rfl, ?_⟩) hHeld ?_ ?_
 rotate_left
 {
 rintro w' ⟨s0, s1, s2, s3, s4, s5, s6⟩
 go_simp
 with_reducible rfl}
 rotate_left
 · exact p1_
 refine one_ (i := 17) (N := some 70) m31_ rfl rfl (one_of HT_.out s2_) (by decide) (fun K hK => ?_)
 refine goes_ Try.func59 s2_ rfl #[.slice A0_0 l0_0.length c0_0, .int .i64 ((rd_T63 l0_1 x50_3).f0)] (by rfl) rfl rfl s3_ ?_
 with_reducible refine (spec_l05Until.calls k3 _ _ l0_0 ((rd_T63 l0_1 x50_3).f0) t206 _ ?side1 ?side2 A48.out).mono ?_
 (case side1 => exact y2_ (Kd.C_below HR0_0.out HB.out))
 (case side2 => exact HC0_0.out)
 rintro e w' ⟨rfl, ⟨nd, rfl⟩⟩
 refine ⟨_, rfl, ?_⟩
 refine hK.out _ _ ⟨(blk_cell BK188.out 0).trans rfl, (blk_cell BK188.out 1).trans rfl, (blk_cell BK188.out 2).trans rfl, ((HB.out.cell (World.block_lt_of_cell? w _ hw204_0)).trans hw204_0), ((HB.out.cell (World.block_lt_of_cell? w _ hw204_1)).trans hw204_1), ((HB.out.cell (World.block_lt_of_cell? w _ hw205_0)).trans hw205_0), ((HB.out.cell (World.block_lt_of_cell? w _ hw205_1)).trans hw205_1)⟩ (fun hHeld => ?_)
 clear hK K
 refine norm_ (a' := ?_) ?_ ?_
 rotate_left
 {
 show Act.put _ (some 70) _ = _
 simp only [Act.put, List.setIfInBounds_toArray, List.set_cons_zero, List.set_cons_succ, i64_w, i32_w]
 rfl}
 refine pu_ 19 72 m32_ (any_of HT_.out s2_) ?_
 refine pu_ 20 73 m33_ (any_of HT_.out s2_) ?_
 refine done_ (done_of HT_.out s2_) ?_
 try go_wp2
 go_roundg k3
 case measure => have := HJ2.out; have := HK2.out; have := HK3.out; omega
 case rel => exact ⟨(wrap64 (x50_3 + 1)), (x199001_3), (u199001), s1_, H', ⟨by have := HJ2.out; have := HK2.out; have := HK3.out; omega⟩, ⟨b2_ HO_199000.out⟩, ⟨b2_ HO_199001.out⟩, ⟨b2_ HO_199002.out⟩, ⟨b1_ BK188.out⟩, ⟨b1_ BK189.out⟩, ⟨b1_ BK198.out⟩, ⟨by repeat (first | (with_reducible first | exact HB.out | apply below_alloc | apply pw_below_drewN | apply below_drew1) | exact HB.out)⟩⟩}}
 {
 rw [if_neg c47] at H
 have c47b0 : decide (a1 < ((rd_T63 l0_1 x50_3).f1)) = false := decide_eq_false c47
 clear c47
 have H' := Aside0.mk H
 clear H
 try go_wp2
 replace HO_199000 := Aside0.mk (Kd.R_drew HO_199000.out)
 replace HO_199001 := Aside0.mk (Kd.R_drew HO_199001.out)
 replace HO_199002 := Aside0.mk (Kd.R_drew HO_199002.out)
 replace BK188 := Aside0.mk (blk_drew BK188.out)
 replace BK189 := Aside0.mk (blk_drew BK189.out)
 replace BK198 := Aside0.mk (blk_drew BK198.out)
 replace HB := Aside0.mk (below_drew1 HB.out)
 have p204 : 0 ≤ (x50_3 : Int) := of_decide_eq_true (by first | (with_reducible assumption) | assumption)
 have q204 : x50_3 < (l0_1.length : Int) := of_decide_eq_true (by first | (with_reducible assumption) | assumption)
 obtain ⟨ad204, e204, hx204_0, hx204_1⟩ := at_T63 HR0_1.out x50_3 p204 q204
 have hw204_1 := hx204_1
 have hw204_0 := hx204_0
 cases e204
 replace hx204_0 := (HB.out.cell (World.block_lt_of_cell? w _ hx204_0)).trans hx204_0
 replace hx204_1 := (HB.out.cell (World.block_lt_of_cell? w _ hx204_1)).trans hx204_1
 replace p204 := eq_true p204
 replace q204 := eq_true q204
 refine start_ (n := 21) (S := fun w' => w'.cell? ⟨gb188, 0, none⟩ = some (.slice A0_0 l0_0.length c0_0) ∧ w'.cell? ⟨gb188, 1, none⟩ = some (.slice (some ad204) l0_1.length c0_1) ∧ w'.cell? ⟨gb188, 2, none⟩ = some (.slice A0_2 l0_2.length c0_2) ∧ w'.cell? (ad204.add ((x50_3).toNat * 2)) = some (.int .i64 ((rd_T63 l0_1 x50_3).f0)) ∧ w'.cell? ⟨(ad204.add ((x50_3).toNat * 2)).block, (ad204.add ((x50_3).toNat * 2)).off + 1, none⟩ = some (.int .i64 ((rd_T63 l0_1 x50_3).f1))) (ds := []) m12_ s2_ rfl rfl ⟨(blk_cell BK188.out 0).trans rfl, (blk_cell BK188.out 1).trans rfl, (blk_cell BK188.out 2).trans rfl, ((HB.out.cell (World.block_lt_of_cell? w _ hw204_0)).trans hw204_0), ((HB.out.cell (World.block_lt_of_cell? w _ hw204_1)).trans hw204_1)⟩ (fun hHeld => ?_); refine with_tabW spec_SweepPresence.tab13 spec_SweepPresence.bits13 (fun HT_ HW_ => ?_)
 generalize wr.drew = w57 at HO_199000 HO_199001 HO_199002 BK188 BK189 BK198 HB hx204_0 hx204_1 hHeld ⊢
 refine pu_ 0 53 m13_ (any_of HT_.out s2_) ?_
 refine pu_ 2 55 m14_ (any_of HT_.out s2_) ?_
 refine pu_ 6 59 m15_ (any_of HT_.out s2_) ?_
 refine take_ (i := 1) (N := some 54) (v := ?_) (a' := ?_) m16_ rfl rfl (take_ofW HT_.out HW_.out s2_) (fun _ _ _ h => h) (Or.inl ⟨by rfl, ?_⟩) hHeld ?_ ?_
 rotate_left
 {
 rintro w' ⟨s0, s1, s2, s3, s4⟩
 go_simp
 with_reducible rfl}
 rotate_left
 · exact p1_
 refine pu_ 3 56 m17_ (any_of HT_.out s2_) ?_
 refine pu_ 4 57 m18_ (any_of HT_.out s2_) ?_
 refine take_ (i := 5) (N := some 58) (v := ?_) (a' := ?_) m19_ rfl rfl (take_ofW HT_.out HW_.out s2_) (fun _ _ _ h => h) (Or.inl ⟨by rfl, ?_⟩) hHeld ?_ ?_
 rotate_left
 {
 rintro w' ⟨s0, s1, s2, s3, s4⟩
 go_simp
 with_reducible rfl}
 rotate_left
 · exact p1_
 refine pu_ 7 60 m20_ (any_of HT_.out s2_) ?_
 refine pu_ 8 61 m21_ (any_of HT_.out s2_) ?_
 refine pn_ 9 62 m22_ (any_of HT_.out s2_) ?_
 refine pn_ 10 63 #[T,T,T,T,T,T,T,T,T,T,T,F,F,F,F,F,F,F,F,F,F] (any_of HT_.out s2_) ?_
 refine pn_ 11 64 #[T,T,T,T,T,T,T,T,T,T,T,T,F,F,F,F,F,F,F,F,F] (any_of HT_.out s2_) ?_
 refine pn_ 12 65 #[T,T,T,T,T,T,T,T,T,T,T,T,T,F,F,F,F,F,F,F,F] (any_of HT_.out s2_) ?_
 refine pn_ 13 66 #[T,T,T,T,T,T,T,T,T,T,T,T,T,T,F,F,F,F,F,F,F] (any_of HT_.out s2_) ?_
 refine pn_ 14 67 #[T,T,T,T,T,T,T,T,T,T,T,T,T,T,T,F,F,F,F,F,F] (any_of HT_.out s2_) ?_
 refine pn_ 15 68 #[T,T,T,T,T,T,T,T,T,T,T,T,T,T,T,T,F,F,F,F,F] (any_of HT_.out s2_) ?_
 refine pn_ 16 69 #[T,T,T,T,T,T,T,T,T,T,T,T,T,T,T,T,T,F,F,F,F] (any_of HT_.out s2_) ?_
 refine pn_ 17 70 #[T,T,T,T,T,T,T,T,T,T,T,T,T,T,T,T,T,T,F,F,F] (any_of HT_.out s2_) ?_
 refine pn_ 18 71 m31_ (any_of HT_.out s2_) ?_
 refine pn_ 19 72 m32_ (any_of HT_.out s2_) ?_
 refine pu_ 20 73 m33_ (any_of HT_.out s2_) ?_
 refine done_ (done_of HT_.out s2_) ?_
 try go_wp2
 go_roundg k3
 case measure => have := HJ2.out; have := HK2.out; have := HK3.out; omega
 case rel => exact ⟨(wrap64 (x50_3 + 1)), (x199001_3), (u199001), s1_, H', ⟨by have := HJ2.out; have := HK2.out; have := HK3.out; omega⟩, ⟨b2_ HO_199000.out⟩, ⟨b2_ HO_199001.out⟩, ⟨b2_ HO_199002.out⟩, ⟨b1_ BK188.out⟩, ⟨b1_ BK189.out⟩, ⟨b1_ BK198.out⟩, ⟨by repeat (first | (with_reducible first | exact HB.out | apply below_alloc | apply pw_below_drewN | apply below_drew1) | exact HB.out)⟩⟩}}
 {
 rw [if_neg c46] at H
 exact absurd H (by simp)}}
 {
 rw [if_neg c45] at H
 exact absurd H (by simp)}}
 {
 rw [if_neg c44] at H
 have c44b0 : decide (x50_3 < (l0_1.length : Int)) = false := decide_eq_false c44
 clear c44
 simp only [Option.some.injEq, Prod.mk.injEq] at H
 obtain ⟨rfl, rfl, rfl, rfl⟩ := H
 have hnb58 := NB198_188.out
 have hnc58 := NB188_198.out
 have hnb59 := NB198_189.out
 have hnc59 := NB189_198.out
 have hcz60_0 := c1_ BK198 0 (u199000)
 have hcz60_1 := c1_ BK198 1 (u199001)
 have hcz60_2 := c1_ BK198 2 (.slice Ao20 y195.length co20)
 have hfz60_0 := f1_ BK198 0
 have hfz60_1 := f1_ BK198 1
 have hfz60_2 := f1_ BK198 2
 obtain ⟨Ao61, co61, eo61⟩ := Kd.R_slice HO_199000.out
 subst eo61
 have hnb62 := NB189_188.out
 have hnc62 := NB188_189.out
 have hcz63_0 := c1_ BK189 0 (.slice none 0 0)
 have hcz63_1 := c1_ BK189 1 (.slice none 0 0)
 have hcz63_2 := c1_ BK189 2 (.slice none 0 0)
 have hfz63_0 := f1_ BK189 0
 have hfz63_1 := f1_ BK189 1
 have hfz63_2 := f1_ BK189 2
 obtain ⟨Ao64, co64, eo64⟩ := Kd.R_slice HO_199001.out
 subst eo64
 go_wp2
 refine bodyPost_ret (results_ct rfl _ _ gb189 27 #[.slice Ao61 x199000_2.length co61, .slice Ao64 x199001_3.length co64, .slice Ao20 y195.length co20] (0, 0) _ rfl (by (with_reducible repeat (first | refine blk_drewN ?_ _ | refine blk_drew ?_ | refine blk_alloc ?_ _)); refine blk_put3 (cs := #[.slice none 0 0, .slice none 0 0, .slice none 0 0]) ?_ rfl; (with_reducible repeat (first | refine blk_drewN ?_ _ | refine blk_drew ?_ | refine blk_alloc ?_ _)); exact BK189.out) Try.underlying27 rfl s2_) rfl ?_
 exact ⟨_, _, _, by first | rfl | (simp [errW_none, errW_some] <;> rfl) | (simp [*, errW_none, errW_some] <;> rfl), by (with_reducible repeat (first | apply Kd.R_alloc | apply Kd.R_drewN | apply Kd.R_drew)); exact Kd.R_mono (Kd.R_far3 (g := gb189) (Kd.R_types HO_199000.out BK189.out (by decide)) (fun _ hk => hk.2)) (fun _ hk => hk.1), by (with_reducible repeat (first | apply Kd.R_alloc | apply Kd.R_drewN | apply Kd.R_drew)); exact Kd.R_mono (Kd.R_far3 (g := gb189) (Kd.R_types HO_199001.out BK189.out (by decide)) (fun _ hk => hk.2)) (fun _ hk => hk.1), by (with_reducible repeat (first | apply Kd.R_alloc | apply Kd.R_drewN | apply Kd.R_drew)); exact Kd.R_mono (Kd.R_far3 (g := gb189) (Kd.R_types HO_199002.out BK189.out (by decide)) (fun _ hk => hk.2)) (fun _ hk => trivial), by repeat (first | (with_reducible first | exact HB.out | apply below_alloc | apply pw_below_drewN | apply below_drew1 | refine below_set ?_ GE189.out) | exact HB.out)⟩}}}}}}}
 {
 rw [if_neg c14] at H
 exact absurd H (by simp)}}}}

end Go.Proofs.Ytgfilednbllkmaa.QFnExactSweepPresence
