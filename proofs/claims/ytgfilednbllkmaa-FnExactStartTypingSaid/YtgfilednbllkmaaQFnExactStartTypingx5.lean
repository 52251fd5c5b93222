-- written by a program of this session, on the lines of the kit's print
import Derived.Test.YtgfilednbllkmaaQFnExactStartTypingx0
import Derived.Test.YtgfilednbllkmaaQFnExactStartTypingx1
import Derived.Test.YtgfilednbllkmaaQFnExactStartTypingx2
import Derived.Test.YtgfilednbllkmaaQFnExactStartTypingx3
import Derived.Test.YtgfilednbllkmaaQFnExactStartTypingx4
namespace Go.Proofs.Ytgfilednbllkmaa.QFnExactStartTyping
open Go.RowKit Go.Proofs.YtgfilednbllkmaaW.PrintWords Go.Proofs.YtgfilednbllkmaaW.PrintLast Go.Proofs.YtgfilednbllkmaaW.PrintMore
attribute [local go_sem] max2_int min2_int max_two min_two max_three min_three max_four min_four   -- for this text's walks alone
set_option linter.unusedVariables false
set_option linter.unusedSimpArgs false

/-! ### impl_StartTyping: function 16 -/
abbrev impl_StartTyping.T : Bool := true
abbrev impl_StartTyping.F : Bool := false
theorem impl_StartTyping.s2_ {P : Prop} (h : P := by kernel_rfl) : P := h
theorem impl_StartTyping.s3_ {P : Prop} (h : P := by (try simp only [List.map_toArray, List.map_cons, List.map_nil]); first | done | rfl | (simp only [List.length_drop, List.length_take]; rfl)) : P := h
abbrev impl_StartTyping.m0_ : Array Bool := #[F,F,F,F,F,F,F,F,F]
abbrev impl_StartTyping.m1_ : Array Bool := #[T,F,F,F,F,F,F,F,F]
abbrev impl_StartTyping.m2_ : Array Bool := #[T,T,F,F,F,F,F,F,F]
abbrev impl_StartTyping.m3_ : Array Bool := #[T,T,T,F,F,F,F,F,F]
abbrev impl_StartTyping.m4_ : Array Bool := #[T,T,T,T,F,F,F,F,F]
abbrev impl_StartTyping.m5_ : Array Bool := #[T,T,T,T,T,F,F,F,F]
abbrev impl_StartTyping.m6_ : Array Bool := #[T,T,T,T,T,F,T,F,F]
abbrev impl_StartTyping.m7_ : Array Bool := #[T,T,T,T,T,T,T,F,F]
abbrev impl_StartTyping.m8_ : Array Bool := #[T,T,T,T,T,T,T,T,F]
abbrev impl_StartTyping.m9_ : Array Bool := #[T,T,T,T,T,T,T,T,T]
abbrev impl_StartTyping.m10_ : Array Bool := #[F,F,F,F,F,F,F,F,F,F,F,F,F]
abbrev impl_StartTyping.m11_ : Array Bool := #[T,F,F,F,F,F,F,F,F,F,F,F,F]
abbrev impl_StartTyping.m12_ : Array Bool := #[T,T,F,F,F,F,F,F,F,F,F,F,F]
abbrev impl_StartTyping.m13_ : Array Bool := #[T,T,T,F,F,F,F,F,F,F,F,F,F]
abbrev impl_StartTyping.m14_ : Array Bool := #[T,T,T,T,F,F,F,F,F,F,F,F,F]
abbrev impl_StartTyping.m15_ : Array Bool := #[T,T,T,T,T,F,F,F,F,F,F,F,F]
abbrev impl_StartTyping.m16_ : Array Bool := #[T,T,T,T,T,T,F,F,F,F,F,F,F]
abbrev impl_StartTyping.m17_ : Array Bool := #[T,T,T,T,T,T,T,F,F,F,F,F,F]
abbrev impl_StartTyping.m18_ : Array Bool := #[T,T,T,T,T,T,T,T,F,F,F,F,F]
abbrev impl_StartTyping.m19_ : Array Bool := #[T,T,T,T,T,T,T,T,T,F,F,F,F]
abbrev impl_StartTyping.m20_ : Array Bool := #[T,T,T,T,T,T,T,T,T,T,F,F,F]
abbrev impl_StartTyping.m21_ : Array Bool := #[T,T,T,T,T,T,T,T,T,T,T,F,F]
abbrev impl_StartTyping.m22_ : Array Bool := #[T,T,T,T,T,T,T,T,T,T,T,T,F]
abbrev impl_StartTyping.m23_ : Array Bool := #[T,T,T,T,T,T,T,T,T,T,T,T,T]
theorem impl_StartTyping.p1_ {P : Prop} (h : P := by simp only [Act.put, List.setIfInBounds_toArray, List.set_cons_zero, List.set_cons_succ, i64_w, i32_w]; rfl) : P := h
theorem impl_StartTyping.b1_ {P Q : Prop} (q : Q) (h : Q → P := by intro q_; (with_reducible repeat (first | refine blk_drewN ?_ _ | refine blk_drew ?_ | refine blk_alloc ?_ _)); exact q_) : P := h q
theorem impl_StartTyping.b2_ {P Q : Prop} (q : Q) (h : Q → P := by intro q_; (with_reducible repeat (first | apply Kd.R_alloc | apply Kd.R_drewN | apply Kd.R_drew)); exact q_) : P := h q
theorem impl_StartTyping.y1_ {P Q : Prop} (q : Q) (h : Q → P := by intro q_; repeat (first | (with_reducible first | exact q_ | apply below_alloc | apply pw_below_drewN | apply below_drew1) | exact q_)) : P := h q
theorem impl_StartTyping.y2_ {P Q : Prop} (q : Q) (h : Q → P := by intro q_; repeat (first | exact q_ | (with_reducible refine Kd.C_alloc ?_ _) | (with_reducible refine Kd.C_drewN ?_ _) | (with_reducible refine Kd.C_drew ?_))) : P := h q
theorem impl_StartTyping.b3_ {w w1 W : World} {g : Nat} {o : Obj} (q : Aside0 (w.heap[g]? = some o)) (hb : Below W.heap.size W w1) (h : w.heap[g]? = some o → W.heap[g]? = some o := by intro q_; (with_reducible repeat (first | refine blk_drewN ?_ _ | refine blk_drew ?_ | refine blk_alloc ?_ _)); exact q_) : Aside0 (w1.heap[g]? = some o) := ⟨blk_below (h q.out) hb⟩
theorem impl_StartTyping.b4_ {w W : World} {g k : Nat} {o : Obj} (hg : k = W.heap.size) (q : Aside0 (w.heap[g]? = some o)) (h : w.heap[g]? = some o → W.heap[g]? = some o := by intro q_; (with_reducible repeat (first | refine blk_drewN ?_ _ | refine blk_drew ?_ | refine blk_alloc ?_ _)); exact q_) : Aside0 (g ≠ k) := ⟨by rw [hg]; exact Nat.ne_of_lt (blk_lt (h q.out))⟩
theorem impl_StartTyping.b5_ {w W : World} {g k : Nat} {o : Obj} (hg : k = W.heap.size) (q : Aside0 (w.heap[g]? = some o)) (h : w.heap[g]? = some o → W.heap[g]? = some o := by intro q_; (with_reducible repeat (first | refine blk_drewN ?_ _ | refine blk_drew ?_ | refine blk_alloc ?_ _)); exact q_) : Aside0 (k ≠ g) := ⟨by rw [hg]; exact Nat.ne_of_gt (blk_lt (h q.out))⟩
theorem impl_StartTyping.b6_ {w w' W : World} {k : Nat} (hg : k = W.heap.size) (q : Aside0 (Below w.heap.size w w')) (h : Below w.heap.size w w' → Below w.heap.size w W := by intro q_; repeat (first | (with_reducible first | exact q_ | apply below_alloc | apply pw_below_drewN | apply below_drew1) | exact q_)) : Aside0 (w.heap.size ≤ k) := ⟨by rw [hg]; exact below_size (h q.out)⟩
theorem impl_StartTyping.bx_ {P : Program} {ops : Array Oper} {rest : List Oper} {o : Oper} {a : Act} {Q : Exit → Act → World → Prop} {W : World} (N : Tmp) (cs : Array Value) (t : TypeId) (h : ∀ g, g = W.heap.size → ∀ w1, w1.heap[g]? = some (.cells cs t (0, 0)) → Below W.heap.size W w1 → wpList P ops Q rest (a.put o.dst (.pointer (some ⟨g, 0, none⟩))) w1) (hgd : o.guard = none := by rfl) (hd : o.dst = some N := by rfl) (hrun : (execOp a.eval o).run P W = .ok (.value (.pointer (some ⟨W.heap.size, 0, none⟩))) (W.alloc (.cells cs t (0, 0))) := by first | (go_simp; done) | (go_simp; rfl)) : wpList P ops Q (o :: rest) a W := box_event hgd hd hrun h
theorem impl_StartTyping.c1_ {w : World} {g : Nat} {t : TypeId} {cs : Array Value} (q : Aside0 (w.heap[g]? = some (.cells cs t (0, 0)))) (i : Nat) (v : Value) (h : cs[i]? = some v := by rfl) : w.cell? ⟨g, i, none⟩ = some v := (blk_cell q.out i).trans h
theorem impl_StartTyping.f1_ {w : World} {g : Nat} {t : TypeId} {cs : Array Value} (q : Aside0 (w.heap[g]? = some (.cells cs t (0, 0)))) (i : Nat) : w.frozen? ⟨g, i, none⟩ = false := blk_frozen q.out i
theorem impl_StartTyping.r1_ {α : Type} {d : Kd α} {e base : Nat} {ok : Nat → Prop} {v : Value} {xs : List α} {w W w1 : World} (q : Aside0 (d.R e w base ok v xs)) (hb : Below W.heap.size W w1) (h : d.R e w base ok v xs → d.R e W base ok v xs := by intro q_; (with_reducible repeat (first | apply Kd.R_alloc | apply Kd.R_drewN | apply Kd.R_drew)); exact q_) : Aside0 (d.R e w1 base ok v xs) := ⟨Kd.R_below (h q.out) hb⟩
theorem impl_StartTyping.pu_ {P : Program} {md : Region.Mode} {ops : Array Oper} {Q : Exit → Act → World → Prop} {S : World → Prop} {ds : List Nat} {fuel : Nat} {l : Array Bool} {a : Act} {w : World} {oi : Oper} {a' : Act} {v : Value} (i N : Nat) (l' : Array Bool) (hc : anyB md ops l l' i = true) (h : wpAnyLast P md ops Q S ds fuel l' a' w) (hi : ops[i]? = some oi := by rfl) (hN : oi.dst = some N := by rfl) (hQ : ∀ c a w, Q (.panic c) (a.put oi.dst v) w → Q (.panic c) a w := by exact fun _ _ _ h => h) (hy : Yields P ops oi v a := by exact Or.inl ⟨by rfl, by intro w'; go_simp; with_reducible rfl⟩) (ha : a.put (some N) v = a' := by simp only [Act.put, List.setIfInBounds_toArray, List.set_cons_zero, List.set_cons_succ, i64_w, i32_w]; rfl) : wpAnyLast P md ops Q S ds (fuel + 1) l a w := pure_ l' hi hN hc hQ hy ha h
def impl_StartTyping.f (k : Nat) (l0_0 : List (S63)) (l0_1 : List (S63)) (l0_2 : List (S73)) (a1 : Int) (a2 : Int) : Option ((List (S63)) × (List (S63)) × (List (S73)) × Bool) := (impl_ValidPresence.f k l0_0 l0_1 l0_2).bind fun t144 => (if t144 = true then ((impl_clonePresence.f l0_0 l0_1 l0_2).bind fun bt145 => ((impl_until_n49.f k bt145.1 a1).bind fun t155 => ((impl_leased_n44.f k bt145.2.1 a1 (wrap64 (a2 + 6))).bind fun t156 => (if t155 > a2 then ((impl_isTick.f a2).bind fun t159 => (if t159 = true then ((impl_isTick.f (wrap64 (a2 + 6))).bind fun t160 => (if t160 = true then ((impl_ValidPresence.f k bt145.1 t156 bt145.2.2).bind fun t161 => (if t161 = true then (some (bt145.1, t156, bt145.2.2, true)) else (some (([] : List (S63)), ([] : List (S63)), ([] : List (S73)), false)))) else (some (([] : List (S63)), ([] : List (S63)), ([] : List (S73)), false)))) else (some (([] : List (S63)), ([] : List (S63)), ([] : List (S73)), false)))) else (some (([] : List (S63)), ([] : List (S63)), ([] : List (S73)), false)))))) else (some (([] : List (S63)), ([] : List (S63)), ([] : List (S73)), false)))
theorem impl_StartTyping.mono : ∀ a0 a1 a2 a3 a4 k, LeO (impl_StartTyping.f k a0 a1 a2 a3 a4) (impl_StartTyping.f (k + 1) a0 a1 a2 a3 a4) := by
  intro a0 a1 a2 a3 a4 k
  unfold impl_StartTyping.f
  repeat' first
      | (with_reducible exact impl_ValidPresence.mono _ _ _ _)
      | (with_reducible exact impl_leased_n44.mono _ _ _ _)
      | (with_reducible exact impl_until_n49.mono _ _ _)
      | (with_reducible exact LeO.refl _)
      | (with_reducible exact LeO.none _)
      | (with_reducible refine LeO.ite ?_ ?_)
      | (with_reducible refine LeO.bind ?_ (fun _ => ?_))
      | exact impl_ValidPresence.mono _ _ _ _
      | exact impl_leased_n44.mono _ _ _ _
      | exact impl_until_n49.mono _ _ _
      | exact LeO.none _
      | refine LeO.ite ?_ ?_
      | refine LeO.bind ?_ (fun _ => ?_)
def impl_StartTyping.g48.T1 : Bool × List (List Nat × List Nat) := (true, [([], []), ([0], [0]), ([1], [1]), ([2], [2]), ([], []), ([3, 4], [3, 4]), ([], []), ([5, 6], [5, 6]), ([7, 5, 0, 1, 2, 3, 4, 5, 6, 7], [7])])
def impl_StartTyping.g48.B1 : List Nat := [0, 1, 3, 7, 0, 31, 0, 127, 255]
theorem impl_StartTyping.g48.tab1 : rtab .any (opsOf Try.f48 1) = impl_StartTyping.g48.T1 := by kernel_rfl
theorem impl_StartTyping.g48.bits1 : waitsOk impl_StartTyping.g48.T1.2 impl_StartTyping.g48.B1 = true := by kernel_rfl
def impl_StartTyping.g48.T2 : Bool × List (List Nat × List Nat) := (true, [([], []), ([], []), ([1], [1]), ([2], [2]), ([3], [3]), ([], []), ([], []), ([6], [6]), ([5, 7], [5, 7]), ([4, 8], [4, 8]), ([0, 0, 1, 2, 3, 4, 5, 6, 7, 8, 9], [0]), ([10, 0, 1, 2, 3, 4, 5, 6, 7, 8, 9], [10]), ([11, 9, 9, 0, 1, 2, 3, 4, 5, 6, 7, 8, 9], [9, 11])])
def impl_StartTyping.g48.B2 : List Nat := [0, 0, 2, 6, 14, 0, 0, 64, 224, 510, 1023, 2047, 4095]
theorem impl_StartTyping.g48.tab2 : rtab .any (opsOf Try.f48 2) = impl_StartTyping.g48.T2 := by kernel_rfl
theorem impl_StartTyping.g48.bits2 : waitsOk impl_StartTyping.g48.T2.2 impl_StartTyping.g48.B2 = true := by kernel_rfl
set_option maxHeartbeats 40000000 in
set_option maxRecDepth 100000 in
theorem impl_StartTyping.calls (k : Nat) (A0_0 : Option Addr) (c0_0 : Nat) (l0_0 : List (S63)) (A0_1 : Option Addr) (c0_1 : Nat) (l0_1 : List (S63)) (A0_2 : Option Addr) (c0_2 : Nat) (l0_2 : List (S73)) (a1 : Int) (a2 : Int) (r1 : List (S63)) (r2 : List (S63)) (r3 : List (S73)) (r4 : Bool) (w : World) (hr0_0 : Kd.C k63 w A0_0 l0_0.length l0_0) (hc0_0 : l0_0.length ≤ c0_0) (hr0_1 : Kd.C k63 w A0_1 l0_1.length l0_1) (hc0_1 : l0_1.length ≤ c0_1) (hr0_2 : Kd.C k73 w A0_2 l0_2.length l0_2) (hc0_2 : l0_2.length ≤ c0_2) (h : impl_StartTyping.f k l0_0 l0_1 l0_2 a1 a2 = some (r1, r2, r3, r4)) :
    Calls Try.prog 16 #[.agg #[.slice A0_0 l0_0.length c0_0, .slice A0_1 l0_1.length c0_1, .slice A0_2 l0_2.length c0_2], .int .i64 a1, .int .i64 a2] w fun e w' => ∃ v0_ v1_ v2_ : Value, e = .returned (.tuple #[.agg #[v0_, v1_, v2_], .bool r4]) ∧ Kd.R k63 63 w' w.heap.size (fun k_ => some k_ ≠ (v1_ : Value).ownBlock) v0_ r1 ∧ Kd.R k63 63 w' w.heap.size (fun k_ => some k_ ≠ (v0_ : Value).ownBlock) v1_ r2 ∧ Kd.R k73 73 w' w.heap.size (fun _ => True) v2_ r3 ∧ Below w.heap.size w w' := by
 have hu27 := Try.underlying27
 have hu63 := Try.underlying63
 have HR0_0 := Aside0.mk hr0_0
 have HC0_0 := Aside0.mk hc0_0
 clear hr0_0 hc0_0
 have HR0_1 := Aside0.mk hr0_1
 have HC0_1 := Aside0.mk hc0_1
 clear hr0_1 hc0_1
 have HR0_2 := Aside0.mk hr0_2
 have HC0_2 := Aside0.mk hc0_2
 clear hr0_2 hc0_2
 have HB := Aside0.mk (Below.refl w.heap.size w)
 have H : ((impl_ValidPresence.f k l0_0 l0_1 l0_2).bind fun t144 => (if t144 = true then ((impl_clonePresence.f l0_0 l0_1 l0_2).bind fun bt145 => ((impl_until_n49.f k bt145.1 a1).bind fun t155 => ((impl_leased_n44.f k bt145.2.1 a1 (wrap64 (a2 + 6))).bind fun t156 => (if t155 > a2 then ((impl_isTick.f a2).bind fun t159 => (if t159 = true then ((impl_isTick.f (wrap64 (a2 + 6))).bind fun t160 => (if t160 = true then ((impl_ValidPresence.f k bt145.1 t156 bt145.2.2).bind fun t161 => (if t161 = true then (some (bt145.1, t156, bt145.2.2, true)) else (some (([] : List (S63)), ([] : List (S63)), ([] : List (S73)), false)))) else (some (([] : List (S63)), ([] : List (S63)), ([] : List (S73)), false)))) else (some (([] : List (S63)), ([] : List (S63)), ([] : List (S73)), false)))) else (some (([] : List (S63)), ([] : List (S63)), ([] : List (S73)), false)))))) else (some (([] : List (S63)), ([] : List (S63)), ([] : List (S73)), false)))) = some (r1, r2, r3, r4) := h
 clear h
 replace H := Option.bind_eq_some_iff.mp H
 obtain ⟨t144, A40, H⟩ := H
 replace H : (if t144 = true then ((impl_clonePresence.f l0_0 l0_1 l0_2).bind fun bt145 => ((impl_until_n49.f k bt145.1 a1).bind fun t155 => ((impl_leased_n44.f k bt145.2.1 a1 (wrap64 (a2 + 6))).bind fun t156 => (if t155 > a2 then ((impl_isTick.f a2).bind fun t159 => (if t159 = true then ((impl_isTick.f (wrap64 (a2 + 6))).bind fun t160 => (if t160 = true then ((impl_ValidPresence.f k bt145.1 t156 bt145.2.2).bind fun t161 => (if t161 = true then (some (bt145.1, t156, bt145.2.2, true)) else (some (([] : List (S63)), ([] : List (S63)), ([] : List (S73)), false)))) else (some (([] : List (S63)), ([] : List (S63)), ([] : List (S73)), false)))) else (some (([] : List (S63)), ([] : List (S63)), ([] : List (S73)), false)))) else (some (([] : List (S63)), ([] : List (S63)), ([] : List (S73)), false)))))) else (some (([] : List (S63)), ([] : List (S63)), ([] : List (S73)), false))) = some (r1, r2, r3, r4) := H
 have A4 := Aside0.mk A40
 clear A40
 by_cases c5 : t144 = true
 {
 subst c5
 have H1 : ((impl_clonePresence.f l0_0 l0_1 l0_2).bind fun bt145 => ((impl_until_n49.f k bt145.1 a1).bind fun t155 => ((impl_leased_n44.f k bt145.2.1 a1 (wrap64 (a2 + 6))).bind fun t156 => (if t155 > a2 then ((impl_isTick.f a2).bind fun t159 => (if t159 = true then ((impl_isTick.f (wrap64 (a2 + 6))).bind fun t160 => (if t160 = true then ((impl_ValidPresence.f k bt145.1 t156 bt145.2.2).bind fun t161 => (if t161 = true then (some (bt145.1, t156, bt145.2.2, true)) else (some (([] : List (S63)), ([] : List (S63)), ([] : List (S73)), false)))) else (some (([] : List (S63)), ([] : List (S63)), ([] : List (S73)), false)))) else (some (([] : List (S63)), ([] : List (S63)), ([] : List (S73)), false)))) else (some (([] : List (S63)), ([] : List (S63)), ([] : List (S73)), false)))))) = some (r1, r2, r3, r4) := by rw [if_pos rfl] at H; exact H
 clear H
 have H := H1
 clear H1
 replace H := Option.bind_eq_some_iff.mp H
 obtain ⟨⟨t145, t148, t151⟩, A60, H⟩ := H
 replace H : ((impl_until_n49.f k t145 a1).bind fun t155 => ((impl_leased_n44.f k t148 a1 (wrap64 (a2 + 6))).bind fun t156 => (if t155 > a2 then ((impl_isTick.f a2).bind fun t159 => (if t159 = true then ((impl_isTick.f (wrap64 (a2 + 6))).bind fun t160 => (if t160 = true then ((impl_ValidPresence.f k t145 t156 t151).bind fun t161 => (if t161 = true then (some (t145, t156, t151, true)) else (some (([] : List (S63)), ([] : List (S63)), ([] : List (S73)), false)))) else (some (([] : List (S63)), ([] : List (S63)), ([] : List (S73)), false)))) else (some (([] : List (S63)), ([] : List (S63)), ([] : List (S73)), false)))) else (some (([] : List (S63)), ([] : List (S63)), ([] : List (S73)), false))))) = some (r1, r2, r3, r4) := H
 have A6 := Aside0.mk A60
 clear A60
 replace H := Option.bind_eq_some_iff.mp H
 obtain ⟨t155, A70, H⟩ := H
 replace H : ((impl_leased_n44.f k t148 a1 (wrap64 (a2 + 6))).bind fun t156 => (if t155 > a2 then ((impl_isTick.f a2).bind fun t159 => (if t159 = true then ((impl_isTick.f (wrap64 (a2 + 6))).bind fun t160 => (if t160 = true then ((impl_ValidPresence.f k t145 t156 t151).bind fun t161 => (if t161 = true then (some (t145, t156, t151, true)) else (some (([] : List (S63)), ([] : List (S63)), ([] : List (S73)), false)))) else (some (([] : List (S63)), ([] : List (S63)), ([] : List (S73)), false)))) else (some (([] : List (S63)), ([] : List (S63)), ([] : List (S73)), false)))) else (some (([] : List (S63)), ([] : List (S63)), ([] : List (S73)), false)))) = some (r1, r2, r3, r4) := H
 have A7 := Aside0.mk A70
 clear A70
 replace H := Option.bind_eq_some_iff.mp H
 obtain ⟨t156, A80, H⟩ := H
 replace H : (if t155 > a2 then ((impl_isTick.f a2).bind fun t159 => (if t159 = true then ((impl_isTick.f (wrap64 (a2 + 6))).bind fun t160 => (if t160 = true then ((impl_ValidPresence.f k t145 t156 t151).bind fun t161 => (if t161 = true then (some (t145, t156, t151, true)) else (some (([] : List (S63)), ([] : List (S63)), ([] : List (S73)), false)))) else (some (([] : List (S63)), ([] : List (S63)), ([] : List (S73)), false)))) else (some (([] : List (S63)), ([] : List (S63)), ([] : List (S73)), false)))) else (some (([] : List (S63)), ([] : List (S63)), ([] : List (S73)), false))) = some (r1, r2, r3, r4) := H
 have A8 := Aside0.mk A80
 clear A80
 by_cases c9 : t155 > a2
 {
 rw [if_pos c9] at H
 have c9b0 : decide (a2 < t155) = true := decide_eq_true c9
 clear c9
 replace H := Option.bind_eq_some_iff.mp H
 obtain ⟨t159, A100, H⟩ := H
 replace H : (if t159 = true then ((impl_isTick.f (wrap64 (a2 + 6))).bind fun t160 => (if t160 = true then ((impl_ValidPresence.f k t145 t156 t151).bind fun t161 => (if t161 = true then (some (t145, t156, t151, true)) else (some (([] : List (S63)), ([] : List (S63)), ([] : List (S73)), false)))) else (some (([] : List (S63)), ([] : List (S63)), ([] : List (S73)), false)))) else (some (([] : List (S63)), ([] : List (S63)), ([] : List (S73)), false))) = some (r1, r2, r3, r4) := H
 have A10 := Aside0.mk A100
 clear A100
 by_cases c11 : t159 = true
 {
 subst c11
 have H1 : ((impl_isTick.f (wrap64 (a2 + 6))).bind fun t160 => (if t160 = true then ((impl_ValidPresence.f k t145 t156 t151).bind fun t161 => (if t161 = true then (some (t145, t156, t151, true)) else (some (([] : List (S63)), ([] : List (S63)), ([] : List (S73)), false)))) else (some (([] : List (S63)), ([] : List (S63)), ([] : List (S73)), false)))) = some (r1, r2, r3, r4) := by rw [if_pos rfl] at H; exact H
 clear H
 have H := H1
 clear H1
 replace H := Option.bind_eq_some_iff.mp H
 obtain ⟨t160, A120, H⟩ := H
 replace H : (if t160 = true then ((impl_ValidPresence.f k t145 t156 t151).bind fun t161 => (if t161 = true then (some (t145, t156, t151, true)) else (some (([] : List (S63)), ([] : List (S63)), ([] : List (S73)), false)))) else (some (([] : List (S63)), ([] : List (S63)), ([] : List (S73)), false))) = some (r1, r2, r3, r4) := H
 have A12 := Aside0.mk A120
 clear A120
 by_cases c13 : t160 = true
 {
 subst c13
 have H1 : ((impl_ValidPresence.f k t145 t156 t151).bind fun t161 => (if t161 = true then (some (t145, t156, t151, true)) else (some (([] : List (S63)), ([] : List (S63)), ([] : List (S73)), false)))) = some (r1, r2, r3, r4) := by rw [if_pos rfl] at H; exact H
 clear H
 have H := H1
 clear H1
 replace H := Option.bind_eq_some_iff.mp H
 obtain ⟨t161, A140, H⟩ := H
 replace H : (if t161 = true then (some (t145, t156, t151, true)) else (some (([] : List (S63)), ([] : List (S63)), ([] : List (S73)), false))) = some (r1, r2, r3, r4) := H
 have A14 := Aside0.mk A140
 clear A140
 by_cases c15 : t161 = true
 {
 subst c15
 have H1 : (some (t145, t156, t151, true)) = some (r1, r2, r3, r4) := by rw [if_pos rfl] at H; exact H
 clear H
 have H := H1
 clear H1
 simp only [Option.some.injEq, Prod.mk.injEq] at H
 obtain ⟨rfl, rfl, rfl, rfl⟩ := H
 go_enter Try.func16, Try.ntmps16
 try go_wp2_with (first | ((with_reducible refine gate_dst (N := 3) rfl ?_); (try (refine gate_guard (by rfl) ?_; dsimp only)); refine bx_ 3 #[.slice A0_0 l0_0.length c0_0, .slice A0_1 l0_1.length c0_1, .slice A0_2 l0_2.length c0_2] 27 ?_; intro gb138 hg w16 hbox hb; have GW138 := b6_ hg HB; have GE138 := b6_ hg HB; replace HB := Aside0.mk (below_step (y1_ HB.out) hb); have BK138 := Aside0.mk (hbox); clear hb hbox hg) | ((with_reducible refine gate_dst (N := 4) rfl ?_); (try (refine gate_guard (by rfl) ?_; dsimp only)); refine bx_ 4 #[.int .i64 a1] 2 ?_; intro gb139 hg w17 hbox hb; have GW139 := b6_ hg HB; have GE139 := b6_ hg HB; have NB138_139 := b4_ hg BK138; have NB139_138 := b5_ hg BK138; replace BK138 := b3_ BK138 hb; replace HB := Aside0.mk (below_step (y1_ HB.out) hb); have BK139 := Aside0.mk (hbox); clear hb hbox hg) | ((with_reducible refine gate_dst (N := 5) rfl ?_); (try (refine gate_guard (by rfl) ?_; dsimp only)); refine bx_ 5 #[.int .i64 a2] 2 ?_; intro gb140 hg w18 hbox hb; have GW140 := b6_ hg HB; have GE140 := b6_ hg HB; have NB138_140 := b4_ hg BK138; have NB140_138 := b5_ hg BK138; have NB139_140 := b4_ hg BK139; have NB140_139 := b5_ hg BK139; replace BK138 := b3_ BK138 hb; replace BK139 := b3_ BK139 hb; replace HB := Aside0.mk (below_step (y1_ HB.out) hb); have BK140 := Aside0.mk (hbox); clear hb hbox hg) | ((with_reducible refine gate_dst (N := 6) rfl ?_); (try (refine gate_guard (by rfl) ?_; dsimp only)); refine bx_ 6 #[.slice none 0 0, .slice none 0 0, .slice none 0 0] 27 ?_; intro gb141 hg w19 hbox hb; have GW141 := b6_ hg HB; have GE141 := b6_ hg HB; have NB138_141 := b4_ hg BK138; have NB141_138 := b5_ hg BK138; have NB139_141 := b4_ hg BK139; have NB141_139 := b5_ hg BK139; have NB140_141 := b4_ hg BK140; have NB141_140 := b5_ hg BK140; replace BK138 := b3_ BK138 hb; replace BK139 := b3_ BK139 hb; replace BK140 := b3_ BK140 hb; replace HB := Aside0.mk (below_step (y1_ HB.out) hb); have BK141 := Aside0.mk (hbox); clear hb hbox hg; have hnb20 := NB138_139.out; have hnc20 := NB139_138.out; have hnb21 := NB138_140.out; have hnc21 := NB140_138.out; have hnb22 := NB138_141.out; have hnc22 := NB141_138.out; have hcz23_0 := c1_ BK138 0 (.slice A0_0 l0_0.length c0_0); have hcz23_1 := c1_ BK138 1 (.slice A0_1 l0_1.length c0_1); have hcz23_2 := c1_ BK138 2 (.slice A0_2 l0_2.length c0_2); have hfz23_0 := f1_ BK138 0; have hfz23_1 := f1_ BK138 1; have hfz23_2 := f1_ BK138 2))
 go_at_call 42
 go_in
 try go_wp2_with (first | ((with_reducible refine gate_dst (N := 2) rfl ?_); (try (refine gate_guard (by rfl) ?_; dsimp only)); refine bx_ 2 #[.slice A0_0 l0_0.length c0_0, .slice A0_1 l0_1.length c0_1, .slice A0_2 l0_2.length c0_2] 27 ?_; intro gb142 hg w24 hbox hb; have GW142 := b6_ hg HB; have GE142 := b6_ hg HB; have NB139_142 := b4_ hg BK139; have NB142_139 := b5_ hg BK139; have NB140_142 := b4_ hg BK140; have NB142_140 := b5_ hg BK140; have NB141_142 := b4_ hg BK141; have NB142_141 := b5_ hg BK141; replace BK139 := b3_ BK139 hb; replace BK140 := b3_ BK140 hb; replace BK141 := b3_ BK141 hb; replace HB := Aside0.mk (below_step (y1_ HB.out) hb); have BK142 := Aside0.mk (hbox); clear hb hbox hg) | ((with_reducible refine gate_dst (N := 4) rfl ?_); (try (refine gate_guard (by rfl) ?_; dsimp only)); refine bx_ 4 #[.slice none 0 0, .slice none 0 0, .slice none 0 0] 27 ?_; intro gb143 hg w25 hbox hb; have GW143 := b6_ hg HB; have GE143 := b6_ hg HB; have NB139_143 := b4_ hg BK139; have NB143_139 := b5_ hg BK139; have NB140_143 := b4_ hg BK140; have NB143_140 := b5_ hg BK140; have NB141_143 := b4_ hg BK141; have NB143_141 := b5_ hg BK141; have NB142_143 := b4_ hg BK142; have NB143_142 := b5_ hg BK142; replace BK139 := b3_ BK139 hb; replace BK140 := b3_ BK140 hb; replace BK141 := b3_ BK141 hb; replace BK142 := b3_ BK142 hb; replace HB := Aside0.mk (below_step (y1_ HB.out) hb); have BK143 := Aside0.mk (hbox); clear hb hbox hg; have hnb26 := NB142_139.out; have hnc26 := NB139_142.out; have hnb27 := NB142_140.out; have hnc27 := NB140_142.out; have hnb28 := NB142_141.out; have hnc28 := NB141_142.out; have hnb29 := NB142_143.out; have hnc29 := NB143_142.out; have hcz30_0 := c1_ BK142 0 (.slice A0_0 l0_0.length c0_0); have hcz30_1 := c1_ BK142 1 (.slice A0_1 l0_1.length c0_1); have hcz30_2 := c1_ BK142 2 (.slice A0_2 l0_2.length c0_2); have hfz30_0 := f1_ BK142 0; have hfz30_1 := f1_ BK142 1; have hfz30_2 := f1_ BK142 2) | ((with_reducible refine gate_callee (f := 19) rfl ?_); refine goesL_ (some 8) rfl rfl Try.func19 s2_ rfl #[.agg #[.slice A0_0 l0_0.length c0_0, .slice A0_1 l0_1.length c0_1, .slice A0_2 l0_2.length c0_2]] rfl s3_ ?_; (with_reducible refine (impl_ValidPresence.calls k _ _ l0_0 _ _ l0_1 _ _ l0_2 true _ ?side1 ?side2 ?side3 ?side4 ?side5 ?side6 A4.out).mono ?_); (case side1 => exact y2_ (Kd.C_below HR0_0.out HB.out)); (case side2 => exact HC0_0.out); (case side3 => exact y2_ (Kd.C_below HR0_1.out HB.out)); (case side4 => exact HC0_1.out); (case side5 => exact y2_ (Kd.C_below HR0_2.out HB.out)); (case side6 => exact HC0_2.out); rintro e w31 ⟨rfl, hb⟩; refine ⟨_, rfl, ?_⟩; replace BK139 := b3_ BK139 hb; replace BK140 := b3_ BK140 hb; replace BK141 := b3_ BK141 hb; replace BK142 := b3_ BK142 hb; replace BK143 := b3_ BK143 hb; replace HB := Aside0.mk (below_step (y1_ HB.out) hb); (try clear hb); (try clear hb2); (try clear hk); (try clear hi); have hcz32_0 := c1_ BK142 0 (.slice A0_0 l0_0.length c0_0); have hcz32_1 := c1_ BK142 1 (.slice A0_1 l0_1.length c0_1); have hcz32_2 := c1_ BK142 2 (.slice A0_2 l0_2.length c0_2); have hfz32_0 := f1_ BK142 0; have hfz32_1 := f1_ BK142 1; have hfz32_2 := f1_ BK142 2) | ((with_reducible refine gate_callee (f := 90) rfl ?_); refine goesL_ (some 12) rfl rfl Try.func90 s2_ rfl #[.agg #[.slice A0_0 l0_0.length c0_0, .slice A0_1 l0_1.length c0_1, .slice A0_2 l0_2.length c0_2]] rfl s3_ ?_; (with_reducible refine (impl_clonePresence.calls _ _ l0_0 _ _ l0_1 _ _ l0_2 t145 t148 t151 _ ?side1 ?side2 ?side3 ?side4 ?side5 ?side6 A6.out).mono ?_); (case side1 => exact y2_ (Kd.C_below HR0_0.out HB.out)); (case side2 => exact HC0_0.out); (case side3 => exact y2_ (Kd.C_below HR0_1.out HB.out)); (case side4 => exact HC0_1.out); (case side5 => exact y2_ (Kd.C_below HR0_2.out HB.out)); (case side6 => exact HC0_2.out); rintro e w33 ⟨v146, v149, v152, rfl, ho0, ho1, ho2, hb⟩; refine ⟨_, rfl, ?_⟩; have HO147 := Aside0.mk (Kd.R_lower ho0 (below_size (y1_ HB.out))); have HO150 := Aside0.mk (Kd.R_lower ho1 (below_size (y1_ HB.out))); have HO153 := Aside0.mk (Kd.R_lower ho2 (below_size (y1_ HB.out))); replace BK139 := b3_ BK139 hb; replace BK140 := b3_ BK140 hb; replace BK141 := b3_ BK141 hb; replace BK143 := b3_ BK143 hb; replace HB := Aside0.mk (below_step (y1_ HB.out) hb); (try clear hb); (try clear hb2); (try clear hk); (try clear hi); (try clear ho0); (try clear ho1); (try clear ho2)) | ((with_reducible refine gate_dst (N := 6) rfl ?_); (try (refine gate_guard (by rfl) ?_; dsimp only)); refine bx_ 6 #[.slice none 0 0, .slice none 0 0, .slice none 0 0] 27 ?_; intro gb154 hg w34 hbox hb; have GW154 := b6_ hg HB; have GE154 := b6_ hg HB; have NB139_154 := b4_ hg BK139; have NB154_139 := b5_ hg BK139; have NB140_154 := b4_ hg BK140; have NB154_140 := b5_ hg BK140; have NB141_154 := b4_ hg BK141; have NB154_141 := b5_ hg BK141; have NB143_154 := b4_ hg BK143; have NB154_143 := b5_ hg BK143; replace HO147 := r1_ HO147 hb; replace HO150 := r1_ HO150 hb; replace HO153 := r1_ HO153 hb; replace BK139 := b3_ BK139 hb; replace BK140 := b3_ BK140 hb; replace BK141 := b3_ BK141 hb; replace BK143 := b3_ BK143 hb; replace HB := Aside0.mk (below_step (y1_ HB.out) hb); have BK154 := Aside0.mk (hbox); clear hb hbox hg; obtain ⟨Ao35, co35, eo35⟩ := Kd.R_slice HO147.out; subst eo35; have hnb36 := NB154_139.out; have hnc36 := NB139_154.out; have hnb37 := NB154_140.out; have hnc37 := NB140_154.out; have hnb38 := NB154_141.out; have hnc38 := NB141_154.out; have hnb39 := NB154_143.out; have hnc39 := NB143_154.out; have hcz40_0 := c1_ BK154 0 (.slice none 0 0); have hcz40_1 := c1_ BK154 1 (.slice none 0 0); have hcz40_2 := c1_ BK154 2 (.slice none 0 0); have hfz40_0 := f1_ BK154 0; have hfz40_1 := f1_ BK154 1; have hfz40_2 := f1_ BK154 2; obtain ⟨Ao41, co41, eo41⟩ := Kd.R_slice HO150.out; subst eo41; obtain ⟨Ao42, co42, eo42⟩ := Kd.R_slice HO153.out; subst eo42))
 go_at_call 48
 go_in
 try go_wp2_with (fail)
 have n0_ : Aside0 (Kd.R k63 63 (((w34.setCell ⟨gb154, 0, none⟩ (.slice Ao35 t145.length co35)).setCell ⟨gb154, 1, none⟩ (.slice Ao41 t148.length co41)).setCell ⟨gb154, 2, none⟩ (.slice Ao42 t151.length co42)) w.heap.size (fun k_ => some k_ ≠ (.slice Ao41 t148.length co41 : Value).ownBlock) (.slice Ao35 t145.length co35) t145) := ⟨by (with_reducible repeat (first | apply Kd.R_alloc | apply Kd.R_drewN | apply Kd.R_drew)); exact Kd.R_mono (Kd.R_far3 (g := gb154) (Kd.R_types HO147.out BK154.out (by decide)) (fun _ hk => hk.2)) (fun _ hk => hk.1)⟩
 have n1_ : Aside0 (Kd.R k63 63 (((w34.setCell ⟨gb154, 0, none⟩ (.slice Ao35 t145.length co35)).setCell ⟨gb154, 1, none⟩ (.slice Ao41 t148.length co41)).setCell ⟨gb154, 2, none⟩ (.slice Ao42 t151.length co42)) w.heap.size (fun k_ => some k_ ≠ (.slice Ao35 t145.length co35 : Value).ownBlock) (.slice Ao41 t148.length co41) t148) := ⟨by (with_reducible repeat (first | apply Kd.R_alloc | apply Kd.R_drewN | apply Kd.R_drew)); exact Kd.R_mono (Kd.R_far3 (g := gb154) (Kd.R_types HO150.out BK154.out (by decide)) (fun _ hk => hk.2)) (fun _ hk => hk.1)⟩
 have n2_ : Aside0 (Kd.R k73 73 (((w34.setCell ⟨gb154, 0, none⟩ (.slice Ao35 t145.length co35)).setCell ⟨gb154, 1, none⟩ (.slice Ao41 t148.length co41)).setCell ⟨gb154, 2, none⟩ (.slice Ao42 t151.length co42)) w.heap.size (fun _ => True) (.slice Ao42 t151.length co42) t151) := ⟨by (with_reducible repeat (first | apply Kd.R_alloc | apply Kd.R_drewN | apply Kd.R_drew)); exact Kd.R_mono (Kd.R_far3 (g := gb154) (Kd.R_types HO153.out BK154.out (by decide)) (fun _ hk => hk.2)) (fun _ hk => trivial)⟩
 have n3_ : Aside0 ((((w34.setCell ⟨gb154, 0, none⟩ (.slice Ao35 t145.length co35)).setCell ⟨gb154, 1, none⟩ (.slice Ao41 t148.length co41)).setCell ⟨gb154, 2, none⟩ (.slice Ao42 t151.length co42)).heap[gb139]? = some (.cells #[.int .i64 a1] 2 (0, 0))) := ⟨by (with_reducible repeat (first | refine blk_drewN ?_ _ | refine blk_drew ?_ | refine blk_alloc ?_ _)); refine blk_far3 ?_ NB139_154.out; (with_reducible repeat (first | refine blk_drewN ?_ _ | refine blk_drew ?_ | refine blk_alloc ?_ _)); exact BK139.out⟩
 have n4_ : Aside0 ((((w34.setCell ⟨gb154, 0, none⟩ (.slice Ao35 t145.length co35)).setCell ⟨gb154, 1, none⟩ (.slice Ao41 t148.length co41)).setCell ⟨gb154, 2, none⟩ (.slice Ao42 t151.length co42)).heap[gb140]? = some (.cells #[.int .i64 a2] 2 (0, 0))) := ⟨by (with_reducible repeat (first | refine blk_drewN ?_ _ | refine blk_drew ?_ | refine blk_alloc ?_ _)); refine blk_far3 ?_ NB140_154.out; (with_reducible repeat (first | refine blk_drewN ?_ _ | refine blk_drew ?_ | refine blk_alloc ?_ _)); exact BK140.out⟩
 have n5_ : Aside0 ((((w34.setCell ⟨gb154, 0, none⟩ (.slice Ao35 t145.length co35)).setCell ⟨gb154, 1, none⟩ (.slice Ao41 t148.length co41)).setCell ⟨gb154, 2, none⟩ (.slice Ao42 t151.length co42)).heap[gb141]? = some (.cells #[.slice none 0 0, .slice none 0 0, .slice none 0 0] 27 (0, 0))) := ⟨by (with_reducible repeat (first | refine blk_drewN ?_ _ | refine blk_drew ?_ | refine blk_alloc ?_ _)); refine blk_far3 ?_ NB141_154.out; (with_reducible repeat (first | refine blk_drewN ?_ _ | refine blk_drew ?_ | refine blk_alloc ?_ _)); exact BK141.out⟩
 have n6_ : Aside0 ((((w34.setCell ⟨gb154, 0, none⟩ (.slice Ao35 t145.length co35)).setCell ⟨gb154, 1, none⟩ (.slice Ao41 t148.length co41)).setCell ⟨gb154, 2, none⟩ (.slice Ao42 t151.length co42)).heap[gb143]? = some (.cells #[.slice none 0 0, .slice none 0 0, .slice none 0 0] 27 (0, 0))) := ⟨by (with_reducible repeat (first | refine blk_drewN ?_ _ | refine blk_drew ?_ | refine blk_alloc ?_ _)); refine blk_far3 ?_ NB143_154.out; (with_reducible repeat (first | refine blk_drewN ?_ _ | refine blk_drew ?_ | refine blk_alloc ?_ _)); exact BK143.out⟩
 have n7_ : Aside0 ((((w34.setCell ⟨gb154, 0, none⟩ (.slice Ao35 t145.length co35)).setCell ⟨gb154, 1, none⟩ (.slice Ao41 t148.length co41)).setCell ⟨gb154, 2, none⟩ (.slice Ao42 t151.length co42)).heap[gb154]? = some (.cells #[.slice Ao35 t145.length co35, .slice Ao41 t148.length co41, .slice Ao42 t151.length co42] 27 (0, 0))) := ⟨by (with_reducible repeat (first | refine blk_drewN ?_ _ | refine blk_drew ?_ | refine blk_alloc ?_ _)); refine blk_put3 (cs := #[.slice none 0 0, .slice none 0 0, .slice none 0 0]) ?_ rfl; (with_reducible repeat (first | refine blk_drewN ?_ _ | refine blk_drew ?_ | refine blk_alloc ?_ _)); exact BK154.out⟩
 have n8_ : Aside0 (Below w.heap.size w (((w34.setCell ⟨gb154, 0, none⟩ (.slice Ao35 t145.length co35)).setCell ⟨gb154, 1, none⟩ (.slice Ao41 t148.length co41)).setCell ⟨gb154, 2, none⟩ (.slice Ao42 t151.length co42))) := ⟨by repeat (first | (with_reducible first | exact HB.out | apply below_alloc | apply pw_below_drewN | apply below_drew1 | refine below_set ?_ GE154.out) | exact HB.out)⟩
 (try clear HO147)
 (try clear HO150)
 (try clear HO153)
 (try clear BK139)
 (try clear BK140)
 (try clear BK141)
 (try clear BK143)
 (try clear BK154)
 (try clear HB)
 generalize (((w34.setCell ⟨gb154, 0, none⟩ (.slice Ao35 t145.length co35)).setCell ⟨gb154, 1, none⟩ (.slice Ao41 t148.length co41)).setCell ⟨gb154, 2, none⟩ (.slice Ao42 t151.length co42)) = w43 at n0_ n1_ n2_ n3_ n4_ n5_ n6_ n7_ n8_ ⊢
 have HO147 := n0_
 have HO150 := n1_
 have HO153 := n2_
 have BK139 := n3_
 have BK140 := n4_
 have BK141 := n5_
 have BK143 := n6_
 have BK154 := n7_
 have HB := n8_
 clear n0_ n1_ n2_ n3_ n4_ n5_ n6_ n7_ n8_
 replace HO147 := Aside0.mk (Kd.R_drew HO147.out)
 replace HO150 := Aside0.mk (Kd.R_drew HO150.out)
 replace HO153 := Aside0.mk (Kd.R_drew HO153.out)
 replace BK139 := Aside0.mk (blk_drew BK139.out)
 replace BK140 := Aside0.mk (blk_drew BK140.out)
 replace BK141 := Aside0.mk (blk_drew BK141.out)
 replace BK143 := Aside0.mk (blk_drew BK143.out)
 replace BK154 := Aside0.mk (blk_drew BK154.out)
 replace HB := Aside0.mk (below_drew1 HB.out)
 refine start_ (n := 9) (S := fun w' => w'.cell? ⟨gb154, 0, none⟩ = some (.slice Ao35 t145.length co35) ∧ w'.cell? ⟨gb154, 1, none⟩ = some (.slice Ao41 t148.length co41) ∧ w'.cell? ⟨gb154, 2, none⟩ = some (.slice Ao42 t151.length co42) ∧ w'.cell? ⟨gb139, 0, none⟩ = some (.int .i64 a1) ∧ w'.cell? ⟨gb140, 0, none⟩ = some (.int .i64 a2)) (ds := []) m0_ s2_ rfl rfl ⟨(blk_cell BK154.out 0).trans rfl, (blk_cell BK154.out 1).trans rfl, (blk_cell BK154.out 2).trans rfl, (blk_cell BK139.out 0).trans rfl, (blk_cell BK140.out 0).trans rfl⟩ (fun hHeld => ?_)
 generalize w43.drew = w44 at HO147 HO150 HO153 BK139 BK140 BK141 BK143 BK154 HB HO147 HO150 HO153 hHeld ⊢
 refine pure_ (i := 0) (N := some 6) (v := ?_) (a' := ?_) m1_ rfl rfl s2_ (fun _ _ _ h => h) (Or.inl ⟨by rfl, ?_⟩) ?_ ?_
 rotate_left
 {
 intro w'
 go_simp
 with_reducible rfl}
 rotate_left
 · exact p1_
 refine pure_ (i := 1) (N := some 7) (v := ?_) (a' := ?_) m2_ rfl rfl s2_ (fun _ _ _ h => h) (Or.inl ⟨by rfl, ?_⟩) ?_ ?_
 rotate_left
 {
 intro w'
 go_simp
 with_reducible rfl}
 rotate_left
 · exact p1_
 refine pure_ (i := 2) (N := some 8) (v := ?_) (a' := ?_) m3_ rfl rfl s2_ (fun _ _ _ h => h) (Or.inl ⟨by rfl, ?_⟩) ?_ ?_
 rotate_left
 {
 intro w'
 go_simp
 with_reducible rfl}
 rotate_left
 · exact p1_
 refine take_ (i := 3) (N := some 9) (v := ?_) (a' := ?_) m4_ rfl rfl s2_ (fun _ _ _ h => h) (Or.inl ⟨by rfl, ?_⟩) hHeld ?_ ?_
 rotate_left
 {
 rintro w' ⟨s0, s1, s2, s3, s4⟩
 go_simp
 with_reducible rfl}
 rotate_left
 · exact p1_
 refine take_ (i := 4) (N := some 10) (v := ?_) (a' := ?_) m5_ rfl rfl s2_ (fun _ _ _ h => h) (Or.inl ⟨by rfl, ?_⟩) hHeld ?_ ?_
 rotate_left
 {
 rintro w' ⟨s0, s1, s2, s3, s4⟩
 go_simp
 with_reducible rfl}
 rotate_left
 · exact p1_
 refine take_ (i := 6) (N := some 12) (v := ?_) (a' := ?_) m6_ rfl rfl s2_ (fun _ _ _ h => h) (Or.inl ⟨by rfl, ?_⟩) hHeld ?_ ?_
 rotate_left
 {
 rintro w' ⟨s0, s1, s2, s3, s4⟩
 go_simp
 with_reducible rfl}
 rotate_left
 · exact p1_
 refine one_ (i := 5) (N := some 11) m7_ rfl rfl s2_ (by decide) (fun K hK => ?_)
 refine goes_ Try.func49 s2_ rfl #[.slice Ao35 t145.length co35, .int .i64 a1] (by rfl) rfl rfl s3_ ?_
 with_reducible refine (impl_until_n49.calls k _ _ t145 a1 t155 _ ?side1 ?side2 A7.out).mono ?_
 (case side1 => exact y2_ (Kd.R_reads' HO147.out).2.2)
 (case side2 => exact (Kd.R_reads' HO147.out).2.1)
 rintro e w45 ⟨rfl, hb⟩
 refine ⟨_, rfl, ?_⟩
 replace HO147 := r1_ HO147 hb
 replace HO150 := r1_ HO150 hb
 replace HO153 := r1_ HO153 hb
 replace BK139 := b3_ BK139 hb
 replace BK140 := b3_ BK140 hb
 replace BK141 := b3_ BK141 hb
 replace BK143 := b3_ BK143 hb
 replace BK154 := b3_ BK154 hb
 replace HB := Aside0.mk (below_step (y1_ HB.out) hb)
 (try clear hb)
 (try clear hb2)
 (try clear hk)
 (try clear hi)
 refine hK.out _ _ ⟨(blk_cell BK154.out 0).trans rfl, (blk_cell BK154.out 1).trans rfl, (blk_cell BK154.out 2).trans rfl, (blk_cell BK139.out 0).trans rfl, (blk_cell BK140.out 0).trans rfl⟩ (fun hHeld => ?_)
 clear hK K
 refine norm_ (a' := ?_) ?_ ?_
 rotate_left
 {
 show Act.put _ (some 11) _ = _
 simp only [Act.put, List.setIfInBounds_toArray, List.set_cons_zero, List.set_cons_succ, i64_w, i32_w]
 rfl}
 refine pure_ (i := 7) (N := some 13) (v := ?_) (a' := ?_) m8_ rfl rfl s2_ (fun _ _ _ h => h) (Or.inl ⟨by rfl, ?_⟩) ?_ ?_
 rotate_left
 {
 intro w'
 go_simp
 with_reducible rfl}
 rotate_left
 · exact p1_
 refine pure_ (i := 8) (N := some 5) (v := ?_) (a' := ?_) m9_ rfl rfl s2_ (fun _ _ _ h => h) (Or.inl ⟨by rfl, ?_⟩) ?_ ?_
 rotate_left
 {
 intro w'
 go_simp
 with_reducible rfl}
 rotate_left
 · exact p1_
 refine done_ s2_ ?_
 try go_wp2_with (fail)
 replace HO147 := Aside0.mk (Kd.R_drew HO147.out)
 replace HO150 := Aside0.mk (Kd.R_drew HO150.out)
 replace HO153 := Aside0.mk (Kd.R_drew HO153.out)
 replace BK139 := Aside0.mk (blk_drew BK139.out)
 replace BK140 := Aside0.mk (blk_drew BK140.out)
 replace BK141 := Aside0.mk (blk_drew BK141.out)
 replace BK143 := Aside0.mk (blk_drew BK143.out)
 replace BK154 := Aside0.mk (blk_drew BK154.out)
 replace HB := Aside0.mk (below_drew1 HB.out)
 refine start_ (n := 13) (S := fun w' => w'.cell? ⟨gb154, 0, none⟩ = some (.slice Ao35 t145.length co35) ∧ w'.cell? ⟨gb154, 1, none⟩ = some (.slice Ao41 t148.length co41) ∧ w'.cell? ⟨gb154, 2, none⟩ = some (.slice Ao42 t151.length co42) ∧ w'.cell? ⟨gb139, 0, none⟩ = some (.int .i64 a1) ∧ w'.cell? ⟨gb140, 0, none⟩ = some (.int .i64 a2)) (ds := [12]) m10_ s2_ rfl rfl ⟨(blk_cell BK154.out 0).trans rfl, (blk_cell BK154.out 1).trans rfl, (blk_cell BK154.out 2).trans rfl, (blk_cell BK139.out 0).trans rfl, (blk_cell BK140.out 0).trans rfl⟩ (fun hHeld => ?_)
 generalize w45.drew = w46 at HO147 HO150 HO153 BK139 BK140 BK141 BK143 BK154 HB hHeld ⊢
 refine pure_ (i := 0) (N := some 14) (v := ?_) (a' := ?_) m11_ rfl rfl s2_ (fun _ _ _ h => h) (Or.inl ⟨by rfl, ?_⟩) ?_ ?_
 rotate_left
 {
 intro w'
 go_simp
 with_reducible rfl}
 rotate_left
 · exact p1_
 refine pure_ (i := 1) (N := some 15) (v := ?_) (a' := ?_) m12_ rfl rfl s2_ (fun _ _ _ h => h) (Or.inl ⟨by rfl, ?_⟩) ?_ ?_
 rotate_left
 {
 intro w'
 go_simp
 with_reducible rfl}
 rotate_left
 · exact p1_
 refine pure_ (i := 2) (N := some 16) (v := ?_) (a' := ?_) m13_ rfl rfl s2_ (fun _ _ _ h => h) (Or.inl ⟨by rfl, ?_⟩) ?_ ?_
 rotate_left
 {
 intro w'
 go_simp
 with_reducible rfl}
 rotate_left
 · exact p1_
 refine pure_ (i := 3) (N := some 17) (v := ?_) (a' := ?_) m14_ rfl rfl s2_ (fun _ _ _ h => h) (Or.inl ⟨by rfl, ?_⟩) ?_ ?_
 rotate_left
 {
 intro w'
 go_simp
 with_reducible rfl}
 rotate_left
 · exact p1_
 refine take_ (i := 4) (N := some 18) (v := ?_) (a' := ?_) m15_ rfl rfl s2_ (fun _ _ _ h => h) (Or.inl ⟨by rfl, ?_⟩) hHeld ?_ ?_
 rotate_left
 {
 rintro w' ⟨s0, s1, s2, s3, s4⟩
 go_simp
 with_reducible rfl}
 rotate_left
 · exact p1_
 refine take_ (i := 5) (N := some 19) (v := ?_) (a' := ?_) m16_ rfl rfl s2_ (fun _ _ _ h => h) (Or.inl ⟨by rfl, ?_⟩) hHeld ?_ ?_
 rotate_left
 {
 rintro w' ⟨s0, s1, s2, s3, s4⟩
 go_simp
 with_reducible rfl}
 rotate_left
 · exact p1_
 refine take_ (i := 6) (N := some 20) (v := ?_) (a' := ?_) m17_ rfl rfl s2_ (fun _ _ _ h => h) (Or.inl ⟨by rfl, ?_⟩) hHeld ?_ ?_
 rotate_left
 {
 rintro w' ⟨s0, s1, s2, s3, s4⟩
 go_simp
 with_reducible rfl}
 rotate_left
 · exact p1_
 refine pure_ (i := 7) (N := some 21) (v := ?_) (a' := ?_) m18_ rfl rfl s2_ (fun _ _ _ h => h) (Or.inl ⟨by rfl, ?_⟩) ?_ ?_
 rotate_left
 {
 intro w'
 go_simp
 with_reducible rfl}
 rotate_left
 · exact p1_
 refine pure_ (i := 8) (N := some 22) (v := ?_) (a' := ?_) m19_ rfl rfl s2_ (fun _ _ _ h => h) (Or.inl ⟨by rfl, ?_⟩) ?_ ?_
 rotate_left
 {
 intro w'
 go_simp
 with_reducible rfl}
 rotate_left
 · exact p1_
 refine one_ (i := 9) (N := some 23) m20_ rfl rfl s2_ (by decide) (fun K hK => ?_)
 refine goes_ Try.func44 s2_ rfl #[.slice Ao41 t148.length co41, .agg #[.int .i64 a1, .int .i64 (wrap64 (a2 + 6))]] (by rfl) rfl rfl s3_ ?_
 with_reducible refine (impl_leased_n44.calls k (fun k_ => some k_ = (.slice Ao41 t148.length co41 : Value).ownBlock) (.slice Ao41 t148.length co41) t148 a1 (wrap64 (a2 + 6)) t156 w _ ?side1 ?side2 A8.out).mono ?_
 (case side1 => repeat (first | (with_reducible first | exact HB.out | apply below_alloc | apply pw_below_drewN | apply below_drew1) | exact HB.out))
 (case side2 => exact Kd.R_tight rfl HO150.out)
 rintro e w47 ⟨v157, rfl, ho0, hb, hkp⟩
 refine ⟨_, rfl, ?_⟩
 have n0_ := Aside0.mk (blk_kept (b1_ BK139.out) hkp (fun hs_ => (fun e_ => (Kd.R_ne HO150.out BK139.out (by decide)) e_) hs_))
 have n1_ := Aside0.mk (blk_kept (b1_ BK140.out) hkp (fun hs_ => (fun e_ => (Kd.R_ne HO150.out BK140.out (by decide)) e_) hs_))
 have n2_ := Aside0.mk (blk_kept (b1_ BK141.out) hkp (fun hs_ => (fun e_ => (Kd.R_ne HO150.out BK141.out (by decide)) e_) hs_))
 have n3_ := Aside0.mk (blk_kept (b1_ BK143.out) hkp (fun hs_ => (fun e_ => (Kd.R_ne HO150.out BK143.out (by decide)) e_) hs_))
 have n4_ := Aside0.mk (Kd.R_mono (ok' := fun k_ => some k_ ≠ (v157 : Value).ownBlock) (Kd.R_keptB (HO147.out) hkp (fun k_ hk_ hs_ => (hk_) hs_)) (fun k_ hk_ => fun e_ => Or.elim (ho0.1 k_ e_.symm) (fun hs_ => hk_.2.1 hs_) (fun hn_ => Nat.not_le.2 hk_.2.2 hn_)))
 have n5_ := Aside0.mk (Kd.R_mono (ok' := fun k_ => True) (Kd.R_keptB ((Kd.R_apart' HO153.out (Kd.R_typed HO150.out) (by decide))) hkp (fun k_ hk_ hs_ => (hk_.2) hs_)) (fun k_ hk_ => trivial))
 have n6_ := Aside0.mk (blk_kept (b1_ BK154.out) hkp (fun hs_ => (fun e_ => (Kd.R_ne HO150.out BK154.out (by decide)) e_) hs_))
 have n7_ := Aside0.mk (Kd.R_mono (ok' := fun k_ => some k_ ≠ (.slice Ao35 t145.length co35 : Value).ownBlock) ho0 (fun k_ hk_ => Or.elim hk_ (fun hs_ => fun e_ => (((HO147.out).1 k_ e_.symm)) hs_) (fun hn_ => (Kd.fresh' (Kd.R_lt (b2_ HO147.out)) k_ hn_))))
 have n8_ := Aside0.mk (hb)
 clear BK139
 clear BK140
 clear BK141
 clear BK143
 clear HO147
 clear HO153
 clear BK154
 clear HB
 clear HO150
 have BK139 := n0_
 have BK140 := n1_
 have BK141 := n2_
 have BK143 := n3_
 have HO147 := n4_
 have HO153 := n5_
 have BK154 := n6_
 have HO158 := n7_
 have HB := n8_
 clear n0_ n1_ n2_ n3_ n4_ n5_ n6_ n7_ n8_
 (try clear hb)
 (try clear hkp)
 (try clear ho0)
 obtain ⟨Ao48, co48, eo48⟩ := Kd.R_slice HO158.out
 (first | subst eo48 | (injection eo48 with f1_ f2_ f3_; have f4_ := f1_.symm; have f5_ := f3_.symm; clear f1_ f2_ f3_; subst f4_; subst f5_))
 refine hK.out _ _ ⟨(blk_cell BK154.out 0).trans rfl, (blk_cell BK154.out 1).trans rfl, (blk_cell BK154.out 2).trans rfl, (blk_cell BK139.out 0).trans rfl, (blk_cell BK140.out 0).trans rfl⟩ (fun hHeld => ?_)
 clear hK K
 refine norm_ (a' := ?_) ?_ ?_
 rotate_left
 {
 show Act.put _ (some 23) _ = _
 simp only [Act.put, List.setIfInBounds_toArray, List.set_cons_zero, List.set_cons_succ, i64_w, i32_w]
 rfl}
 refine pure_ (i := 10) (N := some 24) (v := ?_) (a' := ?_) m21_ rfl rfl s2_ (fun _ _ _ h => h) (Or.inl ⟨by rfl, ?_⟩) ?_ ?_
 rotate_left
 {
 intro w'
 go_simp
 with_reducible rfl}
 rotate_left
 · exact p1_
 refine pure_ (i := 11) (N := some 25) (v := ?_) (a' := ?_) m22_ rfl rfl s2_ (fun _ _ _ h => h) (Or.inl ⟨by rfl, ?_⟩) ?_ ?_
 rotate_left
 {
 intro w'
 go_simp
 with_reducible rfl}
 rotate_left
 · exact p1_
 refine last_ (i := 12) (N := none) m23_ rfl rfl s2_ (by decide) (fun K hK => ?_)
 have hs49 : w47.cell? ⟨gb154, 1, none⟩ = some (.slice Ao41 t148.length co41) := (blk_cell BK154.out 1).trans rfl
 have hfs49 := blk_frozen BK154.out 1
 have hns49_0 := NB139_154.out
 have hns49_1 := NB140_154.out
 have hns49_2 := NB141_154.out
 have hns49_3 := NB143_154.out
 have hms49_0 := NB154_139.out
 have hms49_1 := NB154_140.out
 have hms49_2 := NB154_141.out
 have hms49_3 := NB154_143.out
 refine skip_ (w1 := ?_) (by rfl) rfl ?_ ?_
 rotate_left
 {
 go_simp
 rfl}
 refine hK.out _ _ ?_
 clear hK K
 refine done_ s2_ ?_
 have hnb50 := NB140_139.out
 have hnc50 := NB139_140.out
 have hnb51 := NB140_141.out
 have hnc51 := NB141_140.out
 have hnb52 := NB140_143.out
 have hnc52 := NB143_140.out
 have hcz53_0 := c1_ BK140 0 (.int .i64 a2)
 have hfz53_0 := f1_ BK140 0
 try go_wp2_with (first | (go_at_call 45; (with_reducible refine (impl_isTick.calls a2 true _ A10.out).mono ?_); rintro e w' ⟨rfl, ⟨nd, rfl⟩⟩) | (go_at_call 45; (with_reducible refine (impl_isTick.calls (wrap64 (a2 + 6)) true _ A12.out).mono ?_); rintro e w' ⟨rfl, ⟨nd, rfl⟩⟩; have hcz54_0 := c1_ BK154 0 (.slice Ao35 t145.length co35); have hcz54_1 := c1_ BK154 1 (.slice Ao41 t148.length co41); have hcz54_2 := c1_ BK154 2 (.slice Ao42 t151.length co42); have hfz54_0 := f1_ BK154 0; have hfz54_1 := f1_ BK154 1; have hfz54_2 := f1_ BK154 2) | (go_at_call 19; (with_reducible refine (impl_ValidPresence.calls k _ _ t145 _ _ t156 _ _ t151 true _ ?side1 ?side2 ?side3 ?side4 ?side5 ?side6 A14.out).mono ?_); (case side1 => refine (Kd.R_reads' (e := 63) (base := w.heap.size) (ok := fun k_ => some k_ ≠ (.slice Ao48 t156.length co48 : Value).ownBlock) (n := t145.length) (c := co35) ?_).2.2; exact (by (with_reducible repeat (first | apply Kd.R_alloc | apply Kd.R_drewN | apply Kd.R_drew)); exact (Kd.R_mono (Kd.R_far (p := ⟨gb154, 1, none⟩) (Kd.R_types HO147.out BK154.out (by decide)) (fun _ hk => hk.2) (.slice Ao48 t156.length co48)) (fun _ h_ => h_.1)))); (case side2 => exact (Kd.R_reads' HO147.out).2.1); (case side3 => refine (Kd.R_reads' (e := 63) (base := w.heap.size) (ok := fun k_ => some k_ ≠ (.slice Ao35 t145.length co35 : Value).ownBlock) (n := t156.length) (c := co48) ?_).2.2; exact (by (with_reducible repeat (first | apply Kd.R_alloc | apply Kd.R_drewN | apply Kd.R_drew)); exact (Kd.R_mono (Kd.R_far (p := ⟨gb154, 1, none⟩) (Kd.R_types HO158.out BK154.out (by decide)) (fun _ hk => hk.2) (.slice Ao48 t156.length co48)) (fun _ h_ => h_.1)))); (case side4 => exact (Kd.R_reads' HO158.out).2.1); (case side5 => refine (Kd.R_reads' (e := 73) (base := w.heap.size) (ok := fun k_ => True) (n := t151.length) (c := co42) ?_).2.2; exact (by (with_reducible repeat (first | apply Kd.R_alloc | apply Kd.R_drewN | apply Kd.R_drew)); exact (Kd.R_mono (Kd.R_far (p := ⟨gb154, 1, none⟩) (Kd.R_types HO153.out BK154.out (by decide)) (fun _ hk => hk.2) (.slice Ao48 t156.length co48)) (fun _ h_ => h_.1)))); (case side6 => exact (Kd.R_reads' HO153.out).2.1); rintro e w55 ⟨rfl, hb⟩; replace HO147 := Aside0.mk (Kd.R_below (by (with_reducible repeat (first | apply Kd.R_alloc | apply Kd.R_drewN | apply Kd.R_drew)); exact (Kd.R_mono (Kd.R_far (p := ⟨gb154, 1, none⟩) (Kd.R_types HO147.out BK154.out (by decide)) (fun _ hk => hk.2) (.slice Ao48 t156.length co48)) (fun _ h_ => h_.1))) hb); replace HO153 := Aside0.mk (Kd.R_below (by (with_reducible repeat (first | apply Kd.R_alloc | apply Kd.R_drewN | apply Kd.R_drew)); exact (Kd.R_mono (Kd.R_far (p := ⟨gb154, 1, none⟩) (Kd.R_types HO153.out BK154.out (by decide)) (fun _ hk => hk.2) (.slice Ao48 t156.length co48)) (fun _ h_ => h_.1))) hb); replace HO158 := Aside0.mk (Kd.R_below (by (with_reducible repeat (first | apply Kd.R_alloc | apply Kd.R_drewN | apply Kd.R_drew)); exact (Kd.R_mono (Kd.R_far (p := ⟨gb154, 1, none⟩) (Kd.R_types HO158.out BK154.out (by decide)) (fun _ hk => hk.2) (.slice Ao48 t156.length co48)) (fun _ h_ => h_.1))) hb); replace BK139 := Aside0.mk (blk_below (g := gb139) (o := .cells #[.int .i64 a1] 2 (0, 0)) (by (with_reducible repeat (first | refine blk_drewN ?_ _ | refine blk_drew ?_ | refine blk_alloc ?_ _)); refine blk_far ?_ NB139_154.out _; (with_reducible repeat (first | refine blk_drewN ?_ _ | refine blk_drew ?_ | refine blk_alloc ?_ _)); exact BK139.out) hb); replace BK140 := Aside0.mk (blk_below (g := gb140) (o := .cells #[.int .i64 a2] 2 (0, 0)) (by (with_reducible repeat (first | refine blk_drewN ?_ _ | refine blk_drew ?_ | refine blk_alloc ?_ _)); refine blk_far ?_ NB140_154.out _; (with_reducible repeat (first | refine blk_drewN ?_ _ | refine blk_drew ?_ | refine blk_alloc ?_ _)); exact BK140.out) hb); replace BK141 := Aside0.mk (blk_below (g := gb141) (o := .cells #[.slice none 0 0, .slice none 0 0, .slice none 0 0] 27 (0, 0)) (by (with_reducible repeat (first | refine blk_drewN ?_ _ | refine blk_drew ?_ | refine blk_alloc ?_ _)); refine blk_far ?_ NB141_154.out _; (with_reducible repeat (first | refine blk_drewN ?_ _ | refine blk_drew ?_ | refine blk_alloc ?_ _)); exact BK141.out) hb); replace BK143 := Aside0.mk (blk_below (g := gb143) (o := .cells #[.slice none 0 0, .slice none 0 0, .slice none 0 0] 27 (0, 0)) (by (with_reducible repeat (first | refine blk_drewN ?_ _ | refine blk_drew ?_ | refine blk_alloc ?_ _)); refine blk_far ?_ NB143_154.out _; (with_reducible repeat (first | refine blk_drewN ?_ _ | refine blk_drew ?_ | refine blk_alloc ?_ _)); exact BK143.out) hb); replace BK154 := Aside0.mk (blk_below (g := gb154) (o := .cells #[.slice Ao35 t145.length co35, .slice Ao48 t156.length co48, .slice Ao42 t151.length co42] 27 (0, 0)) (by (with_reducible repeat (first | refine blk_drewN ?_ _ | refine blk_drew ?_ | refine blk_alloc ?_ _)); refine blk_put (cs := #[.slice Ao35 t145.length co35, .slice Ao41 t148.length co41, .slice Ao42 t151.length co42]) ?_ 1 _ rfl; (with_reducible repeat (first | refine blk_drewN ?_ _ | refine blk_drew ?_ | refine blk_alloc ?_ _)); exact BK154.out) hb); replace HB := Aside0.mk (below_step (by repeat (first | (with_reducible first | exact HB.out | apply below_alloc | apply pw_below_drewN | apply below_drew1 | refine below_set ?_ GE154.out) | exact HB.out)) hb); (try clear hb); (try clear hb2); (try clear hk); (try clear hi); have hcz56_0 := c1_ BK154 0 (.slice Ao35 t145.length co35); have hcz56_1 := c1_ BK154 1 (.slice Ao48 t156.length co48); have hcz56_2 := c1_ BK154 2 (.slice Ao42 t151.length co42); have hfz56_0 := f1_ BK154 0; have hfz56_1 := f1_ BK154 1; have hfz56_2 := f1_ BK154 2; have hnb57 := NB143_141.out; have hnc57 := NB141_143.out; have hcz58_0 := c1_ BK143 0 (.slice none 0 0); have hcz58_1 := c1_ BK143 1 (.slice none 0 0); have hcz58_2 := c1_ BK143 2 (.slice none 0 0); have hfz58_0 := f1_ BK143 0; have hfz58_1 := f1_ BK143 1; have hfz58_2 := f1_ BK143 2))
 (try simp only [Exit.inBlock, Exit.then])
 refine bodyPost_ret (results_ct rfl _ _ gb143 27 #[.slice Ao35 t145.length co35, .slice Ao48 t156.length co48, .slice Ao42 t151.length co42] (0, 0) _ rfl (by (with_reducible repeat (first | refine blk_drewN ?_ _ | refine blk_drew ?_ | refine blk_alloc ?_ _)); refine blk_put3 (cs := #[.slice none 0 0, .slice none 0 0, .slice none 0 0]) ?_ rfl; (with_reducible repeat (first | refine blk_drewN ?_ _ | refine blk_drew ?_ | refine blk_alloc ?_ _)); exact BK143.out) Try.underlying27 rfl s2_) rfl ?_
 (try simp only [])
 have hcz59_0 := c1_ BK141 0 (.slice none 0 0)
 have hcz59_1 := c1_ BK141 1 (.slice none 0 0)
 have hcz59_2 := c1_ BK141 2 (.slice none 0 0)
 have hfz59_0 := f1_ BK141 0
 have hfz59_1 := f1_ BK141 1
 have hfz59_2 := f1_ BK141 2
 try go_wp2_with (fail)
 refine bodyPost_ret (results_ct rfl _ _ gb141 27 #[.slice Ao35 t145.length co35, .slice Ao48 t156.length co48, .slice Ao42 t151.length co42] (0, 0) _ rfl (by (with_reducible repeat (first | refine blk_drewN ?_ _ | refine blk_drew ?_ | refine blk_alloc ?_ _)); refine blk_put3 (cs := #[.slice none 0 0, .slice none 0 0, .slice none 0 0]) ?_ rfl; (with_reducible repeat (first | refine blk_drewN ?_ _ | refine blk_drew ?_ | refine blk_alloc ?_ _)); refine blk_far3 ?_ NB141_143.out; (with_reducible repeat (first | refine blk_drewN ?_ _ | refine blk_drew ?_ | refine blk_alloc ?_ _)); exact BK141.out) Try.underlying27 rfl s2_) rfl ?_
 exact ⟨_, _, _, by first | rfl | (simp [errW_none, errW_some] <;> rfl) | (simp [*, errW_none, errW_some] <;> rfl), by (with_reducible repeat (first | apply Kd.R_alloc | apply Kd.R_drewN | apply Kd.R_drew)); exact Kd.R_mono (Kd.R_far3 (g := gb141) (Kd.R_far3 (g := gb143) (Kd.R_types (Kd.R_types HO147.out BK143.out (by decide)) BK141.out (by decide)) (fun _ hk => hk.1.2)) (fun _ hk => hk.2)) (fun _ hk => hk.1.1), by (with_reducible repeat (first | apply Kd.R_alloc | apply Kd.R_drewN | apply Kd.R_drew)); exact Kd.R_mono (Kd.R_far3 (g := gb141) (Kd.R_far3 (g := gb143) (Kd.R_types (Kd.R_types HO158.out BK143.out (by decide)) BK141.out (by decide)) (fun _ hk => hk.1.2)) (fun _ hk => hk.2)) (fun _ hk => hk.1.1), by (with_reducible repeat (first | apply Kd.R_alloc | apply Kd.R_drewN | apply Kd.R_drew)); exact Kd.R_mono (Kd.R_far3 (g := gb141) (Kd.R_far3 (g := gb143) (Kd.R_types (Kd.R_types HO153.out BK143.out (by decide)) BK141.out (by decide)) (fun _ hk => hk.1.2)) (fun _ hk => hk.2)) (fun _ hk => trivial), by repeat (first | (with_reducible first | exact HB.out | apply below_alloc | apply pw_below_drewN | apply below_drew1 | refine below_set ?_ GE141.out | refine below_set ?_ GE143.out) | exact HB.out)⟩}
 {
 replace c15 := Bool.eq_false_iff.mpr c15
 subst c15
 have H1 : (some (([] : List (S63)), ([] : List (S63)), ([] : List (S73)), false)) = some (r1, r2, r3, r4) := by rw [if_neg (show ¬ (false = true) by decide)] at H; exact H
 clear H
 have H := H1
 clear H1
 simp only [Option.some.injEq, Prod.mk.injEq] at H
 obtain ⟨rfl, rfl, rfl, rfl⟩ := H
 go_enter Try.func16, Try.ntmps16
 try go_wp2_with (first | ((with_reducible refine gate_dst (N := 3) rfl ?_); (try (refine gate_guard (by rfl) ?_; dsimp only)); refine bx_ 3 #[.slice A0_0 l0_0.length c0_0, .slice A0_1 l0_1.length c0_1, .slice A0_2 l0_2.length c0_2] 27 ?_; intro gb138 hg w60 hbox hb; have GW138 := b6_ hg HB; have GE138 := b6_ hg HB; replace HB := Aside0.mk (below_step (y1_ HB.out) hb); have BK138 := Aside0.mk (hbox); clear hb hbox hg) | ((with_reducible refine gate_dst (N := 4) rfl ?_); (try (refine gate_guard (by rfl) ?_; dsimp only)); refine bx_ 4 #[.int .i64 a1] 2 ?_; intro gb139 hg w61 hbox hb; have GW139 := b6_ hg HB; have GE139 := b6_ hg HB; have NB138_139 := b4_ hg BK138; have NB139_138 := b5_ hg BK138; replace BK138 := b3_ BK138 hb; replace HB := Aside0.mk (below_step (y1_ HB.out) hb); have BK139 := Aside0.mk (hbox); clear hb hbox hg) | ((with_reducible refine gate_dst (N := 5) rfl ?_); (try (refine gate_guard (by rfl) ?_; dsimp only)); refine bx_ 5 #[.int .i64 a2] 2 ?_; intro gb140 hg w62 hbox hb; have GW140 := b6_ hg HB; have GE140 := b6_ hg HB; have NB138_140 := b4_ hg BK138; have NB140_138 := b5_ hg BK138; have NB139_140 := b4_ hg BK139; have NB140_139 := b5_ hg BK139; replace BK138 := b3_ BK138 hb; replace BK139 := b3_ BK139 hb; replace HB := Aside0.mk (below_step (y1_ HB.out) hb); have BK140 := Aside0.mk (hbox); clear hb hbox hg) | ((with_reducible refine gate_dst (N := 6) rfl ?_); (try (refine gate_guard (by rfl) ?_; dsimp only)); refine bx_ 6 #[.slice none 0 0, .slice none 0 0, .slice none 0 0] 27 ?_; intro gb141 hg w63 hbox hb; have GW141 := b6_ hg HB; have GE141 := b6_ hg HB; have NB138_141 := b4_ hg BK138; have NB141_138 := b5_ hg BK138; have NB139_141 := b4_ hg BK139; have NB141_139 := b5_ hg BK139; have NB140_141 := b4_ hg BK140; have NB141_140 := b5_ hg BK140; replace BK138 := b3_ BK138 hb; replace BK139 := b3_ BK139 hb; replace BK140 := b3_ BK140 hb; replace HB := Aside0.mk (below_step (y1_ HB.out) hb); have BK141 := Aside0.mk (hbox); clear hb hbox hg; have hnb64 := NB138_139.out; have hnc64 := NB139_138.out; have hnb65 := NB138_140.out; have hnc65 := NB140_138.out; have hnb66 := NB138_141.out; have hnc66 := NB141_138.out; have hcz67_0 := c1_ BK138 0 (.slice A0_0 l0_0.length c0_0); have hcz67_1 := c1_ BK138 1 (.slice A0_1 l0_1.length c0_1); have hcz67_2 := c1_ BK138 2 (.slice A0_2 l0_2.length c0_2); have hfz67_0 := f1_ BK138 0; have hfz67_1 := f1_ BK138 1; have hfz67_2 := f1_ BK138 2))
 go_at_call 42
 go_in
 try go_wp2_with (first | ((with_reducible refine gate_dst (N := 2) rfl ?_); (try (refine gate_guard (by rfl) ?_; dsimp only)); refine bx_ 2 #[.slice A0_0 l0_0.length c0_0, .slice A0_1 l0_1.length c0_1, .slice A0_2 l0_2.length c0_2] 27 ?_; intro gb142 hg w68 hbox hb; have GW142 := b6_ hg HB; have GE142 := b6_ hg HB; have NB139_142 := b4_ hg BK139; have NB142_139 := b5_ hg BK139; have NB140_142 := b4_ hg BK140; have NB142_140 := b5_ hg BK140; have NB141_142 := b4_ hg BK141; have NB142_141 := b5_ hg BK141; replace BK139 := b3_ BK139 hb; replace BK140 := b3_ BK140 hb; replace BK141 := b3_ BK141 hb; replace HB := Aside0.mk (below_step (y1_ HB.out) hb); have BK142 := Aside0.mk (hbox); clear hb hbox hg) | ((with_reducible refine gate_dst (N := 4) rfl ?_); (try (refine gate_guard (by rfl) ?_; dsimp only)); refine bx_ 4 #[.slice none 0 0, .slice none 0 0, .slice none 0 0] 27 ?_; intro gb143 hg w69 hbox hb; have GW143 := b6_ hg HB; have GE143 := b6_ hg HB; have NB139_143 := b4_ hg BK139; have NB143_139 := b5_ hg BK139; have NB140_143 := b4_ hg BK140; have NB143_140 := b5_ hg BK140; have NB141_143 := b4_ hg BK141; have NB143_141 := b5_ hg BK141; have NB142_143 := b4_ hg BK142; have NB143_142 := b5_ hg BK142; replace BK139 := b3_ BK139 hb; replace BK140 := b3_ BK140 hb; replace BK141 := b3_ BK141 hb; replace BK142 := b3_ BK142 hb; replace HB := Aside0.mk (below_step (y1_ HB.out) hb); have BK143 := Aside0.mk (hbox); clear hb hbox hg; have hnb70 := NB142_139.out; have hnc70 := NB139_142.out; have hnb71 := NB142_140.out; have hnc71 := NB140_142.out; have hnb72 := NB142_141.out; have hnc72 := NB141_142.out; have hnb73 := NB142_143.out; have hnc73 := NB143_142.out; have hcz74_0 := c1_ BK142 0 (.slice A0_0 l0_0.length c0_0); have hcz74_1 := c1_ BK142 1 (.slice A0_1 l0_1.length c0_1); have hcz74_2 := c1_ BK142 2 (.slice A0_2 l0_2.length c0_2); have hfz74_0 := f1_ BK142 0; have hfz74_1 := f1_ BK142 1; have hfz74_2 := f1_ BK142 2) | ((with_reducible refine gate_callee (f := 19) rfl ?_); refine goesL_ (some 8) rfl rfl Try.func19 s2_ rfl #[.agg #[.slice A0_0 l0_0.length c0_0, .slice A0_1 l0_1.length c0_1, .slice A0_2 l0_2.length c0_2]] rfl s3_ ?_; (with_reducible refine (impl_ValidPresence.calls k _ _ l0_0 _ _ l0_1 _ _ l0_2 true _ ?side1 ?side2 ?side3 ?side4 ?side5 ?side6 A4.out).mono ?_); (case side1 => exact y2_ (Kd.C_below HR0_0.out HB.out)); (case side2 => exact HC0_0.out); (case side3 => exact y2_ (Kd.C_below HR0_1.out HB.out)); (case side4 => exact HC0_1.out); (case side5 => exact y2_ (Kd.C_below HR0_2.out HB.out)); (case side6 => exact HC0_2.out); rintro e w75 ⟨rfl, hb⟩; refine ⟨_, rfl, ?_⟩; replace BK139 := b3_ BK139 hb; replace BK140 := b3_ BK140 hb; replace BK141 := b3_ BK141 hb; replace BK142 := b3_ BK142 hb; replace BK143 := b3_ BK143 hb; replace HB := Aside0.mk (below_step (y1_ HB.out) hb); (try clear hb); (try clear hb2); (try clear hk); (try clear hi); have hcz76_0 := c1_ BK142 0 (.slice A0_0 l0_0.length c0_0); have hcz76_1 := c1_ BK142 1 (.slice A0_1 l0_1.length c0_1); have hcz76_2 := c1_ BK142 2 (.slice A0_2 l0_2.length c0_2); have hfz76_0 := f1_ BK142 0; have hfz76_1 := f1_ BK142 1; have hfz76_2 := f1_ BK142 2) | ((with_reducible refine gate_callee (f := 90) rfl ?_); refine goesL_ (some 12) rfl rfl Try.func90 s2_ rfl #[.agg #[.slice A0_0 l0_0.length c0_0, .slice A0_1 l0_1.length c0_1, .slice A0_2 l0_2.length c0_2]] rfl s3_ ?_; (with_reducible refine (impl_clonePresence.calls _ _ l0_0 _ _ l0_1 _ _ l0_2 t145 t148 t151 _ ?side1 ?side2 ?side3 ?side4 ?side5 ?side6 A6.out).mono ?_); (case side1 => exact y2_ (Kd.C_below HR0_0.out HB.out)); (case side2 => exact HC0_0.out); (case side3 => exact y2_ (Kd.C_below HR0_1.out HB.out)); (case side4 => exact HC0_1.out); (case side5 => exact y2_ (Kd.C_below HR0_2.out HB.out)); (case side6 => exact HC0_2.out); rintro e w77 ⟨v146, v149, v152, rfl, ho0, ho1, ho2, hb⟩; refine ⟨_, rfl, ?_⟩; have HO147 := Aside0.mk (Kd.R_lower ho0 (below_size (y1_ HB.out))); have HO150 := Aside0.mk (Kd.R_lower ho1 (below_size (y1_ HB.out))); have HO153 := Aside0.mk (Kd.R_lower ho2 (below_size (y1_ HB.out))); replace BK139 := b3_ BK139 hb; replace BK140 := b3_ BK140 hb; replace BK141 := b3_ BK141 hb; replace BK143 := b3_ BK143 hb; replace HB := Aside0.mk (below_step (y1_ HB.out) hb); (try clear hb); (try clear hb2); (try clear hk); (try clear hi); (try clear ho0); (try clear ho1); (try clear ho2)) | ((with_reducible refine gate_dst (N := 6) rfl ?_); (try (refine gate_guard (by rfl) ?_; dsimp only)); refine bx_ 6 #[.slice none 0 0, .slice none 0 0, .slice none 0 0] 27 ?_; intro gb154 hg w78 hbox hb; have GW154 := b6_ hg HB; have GE154 := b6_ hg HB; have NB139_154 := b4_ hg BK139; have NB154_139 := b5_ hg BK139; have NB140_154 := b4_ hg BK140; have NB154_140 := b5_ hg BK140; have NB141_154 := b4_ hg BK141; have NB154_141 := b5_ hg BK141; have NB143_154 := b4_ hg BK143; have NB154_143 := b5_ hg BK143; replace HO147 := r1_ HO147 hb; replace HO150 := r1_ HO150 hb; replace HO153 := r1_ HO153 hb; replace BK139 := b3_ BK139 hb; replace BK140 := b3_ BK140 hb; replace BK141 := b3_ BK141 hb; replace BK143 := b3_ BK143 hb; replace HB := Aside0.mk (below_step (y1_ HB.out) hb); have BK154 := Aside0.mk (hbox); clear hb hbox hg; obtain ⟨Ao79, co79, eo79⟩ := Kd.R_slice HO147.out; subst eo79; have hnb80 := NB154_139.out; have hnc80 := NB139_154.out; have hnb81 := NB154_140.out; have hnc81 := NB140_154.out; have hnb82 := NB154_141.out; have hnc82 := NB141_154.out; have hnb83 := NB154_143.out; have hnc83 := NB143_154.out; have hcz84_0 := c1_ BK154 0 (.slice none 0 0); have hcz84_1 := c1_ BK154 1 (.slice none 0 0); have hcz84_2 := c1_ BK154 2 (.slice none 0 0); have hfz84_0 := f1_ BK154 0; have hfz84_1 := f1_ BK154 1; have hfz84_2 := f1_ BK154 2; obtain ⟨Ao85, co85, eo85⟩ := Kd.R_slice HO150.out; subst eo85; obtain ⟨Ao86, co86, eo86⟩ := Kd.R_slice HO153.out; subst eo86))
 go_at_call 48
 go_in
 try go_wp2_with (fail)
 have n0_ : Aside0 (Kd.R k63 63 (((w78.setCell ⟨gb154, 0, none⟩ (.slice Ao79 t145.length co79)).setCell ⟨gb154, 1, none⟩ (.slice Ao85 t148.length co85)).setCell ⟨gb154, 2, none⟩ (.slice Ao86 t151.length co86)) w.heap.size (fun k_ => some k_ ≠ (.slice Ao85 t148.length co85 : Value).ownBlock) (.slice Ao79 t145.length co79) t145) := ⟨by (with_reducible repeat (first | apply Kd.R_alloc | apply Kd.R_drewN | apply Kd.R_drew)); exact Kd.R_mono (Kd.R_far3 (g := gb154) (Kd.R_types HO147.out BK154.out (by decide)) (fun _ hk => hk.2)) (fun _ hk => hk.1)⟩
 have n1_ : Aside0 (Kd.R k63 63 (((w78.setCell ⟨gb154, 0, none⟩ (.slice Ao79 t145.length co79)).setCell ⟨gb154, 1, none⟩ (.slice Ao85 t148.length co85)).setCell ⟨gb154, 2, none⟩ (.slice Ao86 t151.length co86)) w.heap.size (fun k_ => some k_ ≠ (.slice Ao79 t145.length co79 : Value).ownBlock) (.slice Ao85 t148.length co85) t148) := ⟨by (with_reducible repeat (first | apply Kd.R_alloc | apply Kd.R_drewN | apply Kd.R_drew)); exact Kd.R_mono (Kd.R_far3 (g := gb154) (Kd.R_types HO150.out BK154.out (by decide)) (fun _ hk => hk.2)) (fun _ hk => hk.1)⟩
 have n2_ : Aside0 (Kd.R k73 73 (((w78.setCell ⟨gb154, 0, none⟩ (.slice Ao79 t145.length co79)).setCell ⟨gb154, 1, none⟩ (.slice Ao85 t148.length co85)).setCell ⟨gb154, 2, none⟩ (.slice Ao86 t151.length co86)) w.heap.size (fun _ => True) (.slice Ao86 t151.length co86) t151) := ⟨by (with_reducible repeat (first | apply Kd.R_alloc | apply Kd.R_drewN | apply Kd.R_drew)); exact Kd.R_mono (Kd.R_far3 (g := gb154) (Kd.R_types HO153.out BK154.out (by decide)) (fun _ hk => hk.2)) (fun _ hk => trivial)⟩
 have n3_ : Aside0 ((((w78.setCell ⟨gb154, 0, none⟩ (.slice Ao79 t145.length co79)).setCell ⟨gb154, 1, none⟩ (.slice Ao85 t148.length co85)).setCell ⟨gb154, 2, none⟩ (.slice Ao86 t151.length co86)).heap[gb139]? = some (.cells #[.int .i64 a1] 2 (0, 0))) := ⟨by (with_reducible repeat (first | refine blk_drewN ?_ _ | refine blk_drew ?_ | refine blk_alloc ?_ _)); refine blk_far3 ?_ NB139_154.out; (with_reducible repeat (first | refine blk_drewN ?_ _ | refine blk_drew ?_ | refine blk_alloc ?_ _)); exact BK139.out⟩
 have n4_ : Aside0 ((((w78.setCell ⟨gb154, 0, none⟩ (.slice Ao79 t145.length co79)).setCell ⟨gb154, 1, none⟩ (.slice Ao85 t148.length co85)).setCell ⟨gb154, 2, none⟩ (.slice Ao86 t151.length co86)).heap[gb140]? = some (.cells #[.int .i64 a2] 2 (0, 0))) := ⟨by (with_reducible repeat (first | refine blk_drewN ?_ _ | refine blk_drew ?_ | refine blk_alloc ?_ _)); refine blk_far3 ?_ NB140_154.out; (with_reducible repeat (first | refine blk_drewN ?_ _ | refine blk_drew ?_ | refine blk_alloc ?_ _)); exact BK140.out⟩
 have n5_ : Aside0 ((((w78.setCell ⟨gb154, 0, none⟩ (.slice Ao79 t145.length co79)).setCell ⟨gb154, 1, none⟩ (.slice Ao85 t148.length co85)).setCell ⟨gb154, 2, none⟩ (.slice Ao86 t151.length co86)).heap[gb141]? = some (.cells #[.slice none 0 0, .slice none 0 0, .slice none 0 0] 27 (0, 0))) := ⟨by (with_reducible repeat (first | refine blk_drewN ?_ _ | refine blk_drew ?_ | refine blk_alloc ?_ _)); refine blk_far3 ?_ NB141_154.out; (with_reducible repeat (first | refine blk_drewN ?_ _ | refine blk_drew ?_ | refine blk_alloc ?_ _)); exact BK141.out⟩
 have n6_ : Aside0 ((((w78.setCell ⟨gb154, 0, none⟩ (.slice Ao79 t145.length co79)).setCell ⟨gb154, 1, none⟩ (.slice Ao85 t148.length co85)).setCell ⟨gb154, 2, none⟩ (.slice Ao86 t151.length co86)).heap[gb143]? = some (.cells #[.slice none 0 0, .slice none 0 0, .slice none 0 0] 27 (0, 0))) := ⟨by (with_reducible repeat (first | refine blk_drewN ?_ _ | refine blk_drew ?_ | refine blk_alloc ?_ _)); refine blk_far3 ?_ NB143_154.out; (with_reducible repeat (first | refine blk_drewN ?_ _ | refine blk_drew ?_ | refine blk_alloc ?_ _)); exact BK143.out⟩
 have n7_ : Aside0 ((((w78.setCell ⟨gb154, 0, none⟩ (.slice Ao79 t145.length co79)).setCell ⟨gb154, 1, none⟩ (.slice Ao85 t148.length co85)).setCell ⟨gb154, 2, none⟩ (.slice Ao86 t151.length co86)).heap[gb154]? = some (.cells #[.slice Ao79 t145.length co79, .slice Ao85 t148.length co85, .slice Ao86 t151.length co86] 27 (0, 0))) := ⟨by (with_reducible repeat (first | refine blk_drewN ?_ _ | refine blk_drew ?_ | refine blk_alloc ?_ _)); refine blk_put3 (cs := #[.slice none 0 0, .slice none 0 0, .slice none 0 0]) ?_ rfl; (with_reducible repeat (first | refine blk_drewN ?_ _ | refine blk_drew ?_ | refine blk_alloc ?_ _)); exact BK154.out⟩
 have n8_ : Aside0 (Below w.heap.size w (((w78.setCell ⟨gb154, 0, none⟩ (.slice Ao79 t145.length co79)).setCell ⟨gb154, 1, none⟩ (.slice Ao85 t148.length co85)).setCell ⟨gb154, 2, none⟩ (.slice Ao86 t151.length co86))) := ⟨by repeat (first | (with_reducible first | exact HB.out | apply below_alloc | apply pw_below_drewN | apply below_drew1 | refine below_set ?_ GE154.out) | exact HB.out)⟩
 (try clear HO147)
 (try clear HO150)
 (try clear HO153)
 (try clear BK139)
 (try clear BK140)
 (try clear BK141)
 (try clear BK143)
 (try clear BK154)
 (try clear HB)
 generalize (((w78.setCell ⟨gb154, 0, none⟩ (.slice Ao79 t145.length co79)).setCell ⟨gb154, 1, none⟩ (.slice Ao85 t148.length co85)).setCell ⟨gb154, 2, none⟩ (.slice Ao86 t151.length co86)) = w87 at n0_ n1_ n2_ n3_ n4_ n5_ n6_ n7_ n8_ ⊢
 have HO147 := n0_
 have HO150 := n1_
 have HO153 := n2_
 have BK139 := n3_
 have BK140 := n4_
 have BK141 := n5_
 have BK143 := n6_
 have BK154 := n7_
 have HB := n8_
 clear n0_ n1_ n2_ n3_ n4_ n5_ n6_ n7_ n8_
 replace HO147 := Aside0.mk (Kd.R_drew HO147.out)
 replace HO150 := Aside0.mk (Kd.R_drew HO150.out)
 replace HO153 := Aside0.mk (Kd.R_drew HO153.out)
 replace BK139 := Aside0.mk (blk_drew BK139.out)
 replace BK140 := Aside0.mk (blk_drew BK140.out)
 replace BK141 := Aside0.mk (blk_drew BK141.out)
 replace BK143 := Aside0.mk (blk_drew BK143.out)
 replace BK154 := Aside0.mk (blk_drew BK154.out)
 replace HB := Aside0.mk (below_drew1 HB.out)
 refine start_ (n := 9) (S := fun w' => w'.cell? ⟨gb154, 0, none⟩ = some (.slice Ao79 t145.length co79) ∧ w'.cell? ⟨gb154, 1, none⟩ = some (.slice Ao85 t148.length co85) ∧ w'.cell? ⟨gb154, 2, none⟩ = some (.slice Ao86 t151.length co86) ∧ w'.cell? ⟨gb139, 0, none⟩ = some (.int .i64 a1) ∧ w'.cell? ⟨gb140, 0, none⟩ = some (.int .i64 a2)) (ds := []) m0_ s2_ rfl rfl ⟨(blk_cell BK154.out 0).trans rfl, (blk_cell BK154.out 1).trans rfl, (blk_cell BK154.out 2).trans rfl, (blk_cell BK139.out 0).trans rfl, (blk_cell BK140.out 0).trans rfl⟩ (fun hHeld => ?_)
 generalize w87.drew = w88 at HO147 HO150 HO153 BK139 BK140 BK141 BK143 BK154 HB HO147 HO150 HO153 hHeld ⊢
 refine pure_ (i := 0) (N := some 6) (v := ?_) (a' := ?_) m1_ rfl rfl s2_ (fun _ _ _ h => h) (Or.inl ⟨by rfl, ?_⟩) ?_ ?_
 rotate_left
 {
 intro w'
 go_simp
 with_reducible rfl}
 rotate_left
 · exact p1_
 refine pure_ (i := 1) (N := some 7) (v := ?_) (a' := ?_) m2_ rfl rfl s2_ (fun _ _ _ h => h) (Or.inl ⟨by rfl, ?_⟩) ?_ ?_
 rotate_left
 {
 intro w'
 go_simp
 with_reducible rfl}
 rotate_left
 · exact p1_
 refine pure_ (i := 2) (N := some 8) (v := ?_) (a' := ?_) m3_ rfl rfl s2_ (fun _ _ _ h => h) (Or.inl ⟨by rfl, ?_⟩) ?_ ?_
 rotate_left
 {
 intro w'
 go_simp
 with_reducible rfl}
 rotate_left
 · exact p1_
 refine take_ (i := 3) (N := some 9) (v := ?_) (a' := ?_) m4_ rfl rfl s2_ (fun _ _ _ h => h) (Or.inl ⟨by rfl, ?_⟩) hHeld ?_ ?_
 rotate_left
 {
 rintro w' ⟨s0, s1, s2, s3, s4⟩
 go_simp
 with_reducible rfl}
 rotate_left
 · exact p1_
 refine take_ (i := 4) (N := some 10) (v := ?_) (a' := ?_) m5_ rfl rfl s2_ (fun _ _ _ h => h) (Or.inl ⟨by rfl, ?_⟩) hHeld ?_ ?_
 rotate_left
 {
 rintro w' ⟨s0, s1, s2, s3, s4⟩
 go_simp
 with_reducible rfl}
 rotate_left
 · exact p1_
 refine take_ (i := 6) (N := some 12) (v := ?_) (a' := ?_) m6_ rfl rfl s2_ (fun _ _ _ h => h) (Or.inl ⟨by rfl, ?_⟩) hHeld ?_ ?_
 rotate_left
 {
 rintro w' ⟨s0, s1, s2, s3, s4⟩
 go_simp
 with_reducible rfl}
 rotate_left
 · exact p1_
 refine one_ (i := 5) (N := some 11) m7_ rfl rfl s2_ (by decide) (fun K hK => ?_)
 refine goes_ Try.func49 s2_ rfl #[.slice Ao79 t145.length co79, .int .i64 a1] (by rfl) rfl rfl s3_ ?_
 with_reducible refine (impl_until_n49.calls k _ _ t145 a1 t155 _ ?side1 ?side2 A7.out).mono ?_
 (case side1 => exact y2_ (Kd.R_reads' HO147.out).2.2)
 (case side2 => exact (Kd.R_reads' HO147.out).2.1)
 rintro e w89 ⟨rfl, hb⟩
 refine ⟨_, rfl, ?_⟩
 replace HO147 := r1_ HO147 hb
 replace HO150 := r1_ HO150 hb
 replace HO153 := r1_ HO153 hb
 replace BK139 := b3_ BK139 hb
 replace BK140 := b3_ BK140 hb
 replace BK141 := b3_ BK141 hb
 replace BK143 := b3_ BK143 hb
 replace BK154 := b3_ BK154 hb
 replace HB := Aside0.mk (below_step (y1_ HB.out) hb)
 (try clear hb)
 (try clear hb2)
 (try clear hk)
 (try clear hi)
 refine hK.out _ _ ⟨(blk_cell BK154.out 0).trans rfl, (blk_cell BK154.out 1).trans rfl, (blk_cell BK154.out 2).trans rfl, (blk_cell BK139.out 0).trans rfl, (blk_cell BK140.out 0).trans rfl⟩ (fun hHeld => ?_)
 clear hK K
 refine norm_ (a' := ?_) ?_ ?_
 rotate_left
 {
 show Act.put _ (some 11) _ = _
 simp only [Act.put, List.setIfInBounds_toArray, List.set_cons_zero, List.set_cons_succ, i64_w, i32_w]
 rfl}
 refine pure_ (i := 7) (N := some 13) (v := ?_) (a' := ?_) m8_ rfl rfl s2_ (fun _ _ _ h => h) (Or.inl ⟨by rfl, ?_⟩) ?_ ?_
 rotate_left
 {
 intro w'
 go_simp
 with_reducible rfl}
 rotate_left
 · exact p1_
 refine pure_ (i := 8) (N := some 5) (v := ?_) (a' := ?_) m9_ rfl rfl s2_ (fun _ _ _ h => h) (Or.inl ⟨by rfl, ?_⟩) ?_ ?_
 rotate_left
 {
 intro w'
 go_simp
 with_reducible rfl}
 rotate_left
 · exact p1_
 refine done_ s2_ ?_
 try go_wp2_with (fail)
 replace HO147 := Aside0.mk (Kd.R_drew HO147.out)
 replace HO150 := Aside0.mk (Kd.R_drew HO150.out)
 replace HO153 := Aside0.mk (Kd.R_drew HO153.out)
 replace BK139 := Aside0.mk (blk_drew BK139.out)
 replace BK140 := Aside0.mk (blk_drew BK140.out)
 replace BK141 := Aside0.mk (blk_drew BK141.out)
 replace BK143 := Aside0.mk (blk_drew BK143.out)
 replace BK154 := Aside0.mk (blk_drew BK154.out)
 replace HB := Aside0.mk (below_drew1 HB.out)
 refine start_ (n := 13) (S := fun w' => w'.cell? ⟨gb154, 0, none⟩ = some (.slice Ao79 t145.length co79) ∧ w'.cell? ⟨gb154, 1, none⟩ = some (.slice Ao85 t148.length co85) ∧ w'.cell? ⟨gb154, 2, none⟩ = some (.slice Ao86 t151.length co86) ∧ w'.cell? ⟨gb139, 0, none⟩ = some (.int .i64 a1) ∧ w'.cell? ⟨gb140, 0, none⟩ = some (.int .i64 a2)) (ds := [12]) m10_ s2_ rfl rfl ⟨(blk_cell BK154.out 0).trans rfl, (blk_cell BK154.out 1).trans rfl, (blk_cell BK154.out 2).trans rfl, (blk_cell BK139.out 0).trans rfl, (blk_cell BK140.out 0).trans rfl⟩ (fun hHeld => ?_)
 generalize w89.drew = w90 at HO147 HO150 HO153 BK139 BK140 BK141 BK143 BK154 HB hHeld ⊢
 refine pure_ (i := 0) (N := some 14) (v := ?_) (a' := ?_) m11_ rfl rfl s2_ (fun _ _ _ h => h) (Or.inl ⟨by rfl, ?_⟩) ?_ ?_
 rotate_left
 {
 intro w'
 go_simp
 with_reducible rfl}
 rotate_left
 · exact p1_
 refine pure_ (i := 1) (N := some 15) (v := ?_) (a' := ?_) m12_ rfl rfl s2_ (fun _ _ _ h => h) (Or.inl ⟨by rfl, ?_⟩) ?_ ?_
 rotate_left
 {
 intro w'
 go_simp
 with_reducible rfl}
 rotate_left
 · exact p1_
 refine pure_ (i := 2) (N := some 16) (v := ?_) (a' := ?_) m13_ rfl rfl s2_ (fun _ _ _ h => h) (Or.inl ⟨by rfl, ?_⟩) ?_ ?_
 rotate_left
 {
 intro w'
 go_simp
 with_reducible rfl}
 rotate_left
 · exact p1_
 refine pure_ (i := 3) (N := some 17) (v := ?_) (a' := ?_) m14_ rfl rfl s2_ (fun _ _ _ h => h) (Or.inl ⟨by rfl, ?_⟩) ?_ ?_
 rotate_left
 {
 intro w'
 go_simp
 with_reducible rfl}
 rotate_left
 · exact p1_
 refine take_ (i := 4) (N := some 18) (v := ?_) (a' := ?_) m15_ rfl rfl s2_ (fun _ _ _ h => h) (Or.inl ⟨by rfl, ?_⟩) hHeld ?_ ?_
 rotate_left
 {
 rintro w' ⟨s0, s1, s2, s3, s4⟩
 go_simp
 with_reducible rfl}
 rotate_left
 · exact p1_
 refine take_ (i := 5) (N := some 19) (v := ?_) (a' := ?_) m16_ rfl rfl s2_ (fun _ _ _ h => h) (Or.inl ⟨by rfl, ?_⟩) hHeld ?_ ?_
 rotate_left
 {
 rintro w' ⟨s0, s1, s2, s3, s4⟩
 go_simp
 with_reducible rfl}
 rotate_left
 · exact p1_
 refine take_ (i := 6) (N := some 20) (v := ?_) (a' := ?_) m17_ rfl rfl s2_ (fun _ _ _ h => h) (Or.inl ⟨by rfl, ?_⟩) hHeld ?_ ?_
 rotate_left
 {
 rintro w' ⟨s0, s1, s2, s3, s4⟩
 go_simp
 with_reducible rfl}
 rotate_left
 · exact p1_
 refine pure_ (i := 7) (N := some 21) (v := ?_) (a' := ?_) m18_ rfl rfl s2_ (fun _ _ _ h => h) (Or.inl ⟨by rfl, ?_⟩) ?_ ?_
 rotate_left
 {
 intro w'
 go_simp
 with_reducible rfl}
 rotate_left
 · exact p1_
 refine pure_ (i := 8) (N := some 22) (v := ?_) (a' := ?_) m19_ rfl rfl s2_ (fun _ _ _ h => h) (Or.inl ⟨by rfl, ?_⟩) ?_ ?_
 rotate_left
 {
 intro w'
 go_simp
 with_reducible rfl}
 rotate_left
 · exact p1_
 refine one_ (i := 9) (N := some 23) m20_ rfl rfl s2_ (by decide) (fun K hK => ?_)
 refine goes_ Try.func44 s2_ rfl #[.slice Ao85 t148.length co85, .agg #[.int .i64 a1, .int .i64 (wrap64 (a2 + 6))]] (by rfl) rfl rfl s3_ ?_
 with_reducible refine (impl_leased_n44.calls k (fun k_ => some k_ = (.slice Ao85 t148.length co85 : Value).ownBlock) (.slice Ao85 t148.length co85) t148 a1 (wrap64 (a2 + 6)) t156 w _ ?side1 ?side2 A8.out).mono ?_
 (case side1 => repeat (first | (with_reducible first | exact HB.out | apply below_alloc | apply pw_below_drewN | apply below_drew1) | exact HB.out))
 (case side2 => exact Kd.R_tight rfl HO150.out)
 rintro e w91 ⟨v157, rfl, ho0, hb, hkp⟩
 refine ⟨_, rfl, ?_⟩
 have n0_ := Aside0.mk (blk_kept (b1_ BK139.out) hkp (fun hs_ => (fun e_ => (Kd.R_ne HO150.out BK139.out (by decide)) e_) hs_))
 have n1_ := Aside0.mk (blk_kept (b1_ BK140.out) hkp (fun hs_ => (fun e_ => (Kd.R_ne HO150.out BK140.out (by decide)) e_) hs_))
 have n2_ := Aside0.mk (blk_kept (b1_ BK141.out) hkp (fun hs_ => (fun e_ => (Kd.R_ne HO150.out BK141.out (by decide)) e_) hs_))
 have n3_ := Aside0.mk (blk_kept (b1_ BK143.out) hkp (fun hs_ => (fun e_ => (Kd.R_ne HO150.out BK143.out (by decide)) e_) hs_))
 have n4_ := Aside0.mk (Kd.R_mono (ok' := fun k_ => some k_ ≠ (v157 : Value).ownBlock) (Kd.R_keptB (HO147.out) hkp (fun k_ hk_ hs_ => (hk_) hs_)) (fun k_ hk_ => fun e_ => Or.elim (ho0.1 k_ e_.symm) (fun hs_ => hk_.2.1 hs_) (fun hn_ => Nat.not_le.2 hk_.2.2 hn_)))
 have n5_ := Aside0.mk (Kd.R_mono (ok' := fun k_ => True) (Kd.R_keptB ((Kd.R_apart' HO153.out (Kd.R_typed HO150.out) (by decide))) hkp (fun k_ hk_ hs_ => (hk_.2) hs_)) (fun k_ hk_ => trivial))
 have n6_ := Aside0.mk (blk_kept (b1_ BK154.out) hkp (fun hs_ => (fun e_ => (Kd.R_ne HO150.out BK154.out (by decide)) e_) hs_))
 have n7_ := Aside0.mk (Kd.R_mono (ok' := fun k_ => some k_ ≠ (.slice Ao79 t145.length co79 : Value).ownBlock) ho0 (fun k_ hk_ => Or.elim hk_ (fun hs_ => fun e_ => (((HO147.out).1 k_ e_.symm)) hs_) (fun hn_ => (Kd.fresh' (Kd.R_lt (b2_ HO147.out)) k_ hn_))))
 have n8_ := Aside0.mk (hb)
 clear BK139
 clear BK140
 clear BK141
 clear BK143
 clear HO147
 clear HO153
 clear BK154
 clear HB
 clear HO150
 have BK139 := n0_
 have BK140 := n1_
 have BK141 := n2_
 have BK143 := n3_
 have HO147 := n4_
 have HO153 := n5_
 have BK154 := n6_
 have HO158 := n7_
 have HB := n8_
 clear n0_ n1_ n2_ n3_ n4_ n5_ n6_ n7_ n8_
 (try clear hb)
 (try clear hkp)
 (try clear ho0)
 obtain ⟨Ao92, co92, eo92⟩ := Kd.R_slice HO158.out
 (first | subst eo92 | (injection eo92 with f1_ f2_ f3_; have f4_ := f1_.symm; have f5_ := f3_.symm; clear f1_ f2_ f3_; subst f4_; subst f5_))
 refine hK.out _ _ ⟨(blk_cell BK154.out 0).trans rfl, (blk_cell BK154.out 1).trans rfl, (blk_cell BK154.out 2).trans rfl, (blk_cell BK139.out 0).trans rfl, (blk_cell BK140.out 0).trans rfl⟩ (fun hHeld => ?_)
 clear hK K
 refine norm_ (a' := ?_) ?_ ?_
 rotate_left
 {
 show Act.put _ (some 23) _ = _
 simp only [Act.put, List.setIfInBounds_toArray, List.set_cons_zero, List.set_cons_succ, i64_w, i32_w]
 rfl}
 refine pure_ (i := 10) (N := some 24) (v := ?_) (a' := ?_) m21_ rfl rfl s2_ (fun _ _ _ h => h) (Or.inl ⟨by rfl, ?_⟩) ?_ ?_
 rotate_left
 {
 intro w'
 go_simp
 with_reducible rfl}
 rotate_left
 · exact p1_
 refine pure_ (i := 11) (N := some 25) (v := ?_) (a' := ?_) m22_ rfl rfl s2_ (fun _ _ _ h => h) (Or.inl ⟨by rfl, ?_⟩) ?_ ?_
 rotate_left
 {
 intro w'
 go_simp
 with_reducible rfl}
 rotate_left
 · exact p1_
 refine last_ (i := 12) (N := none) m23_ rfl rfl s2_ (by decide) (fun K hK => ?_)
 have hs93 : w91.cell? ⟨gb154, 1, none⟩ = some (.slice Ao85 t148.length co85) := (blk_cell BK154.out 1).trans rfl
 have hfs93 := blk_frozen BK154.out 1
 have hns93_0 := NB139_154.out
 have hns93_1 := NB140_154.out
 have hns93_2 := NB141_154.out
 have hns93_3 := NB143_154.out
 have hms93_0 := NB154_139.out
 have hms93_1 := NB154_140.out
 have hms93_2 := NB154_141.out
 have hms93_3 := NB154_143.out
 refine skip_ (w1 := ?_) (by rfl) rfl ?_ ?_
 rotate_left
 {
 go_simp
 rfl}
 refine hK.out _ _ ?_
 clear hK K
 refine done_ s2_ ?_
 have hnb94 := NB140_139.out
 have hnc94 := NB139_140.out
 have hnb95 := NB140_141.out
 have hnc95 := NB141_140.out
 have hnb96 := NB140_143.out
 have hnc96 := NB143_140.out
 have hcz97_0 := c1_ BK140 0 (.int .i64 a2)
 have hfz97_0 := f1_ BK140 0
 try go_wp2_with (first | (go_at_call 45; (with_reducible refine (impl_isTick.calls a2 true _ A10.out).mono ?_); rintro e w' ⟨rfl, ⟨nd, rfl⟩⟩) | (go_at_call 45; (with_reducible refine (impl_isTick.calls (wrap64 (a2 + 6)) true _ A12.out).mono ?_); rintro e w' ⟨rfl, ⟨nd, rfl⟩⟩; have hcz98_0 := c1_ BK154 0 (.slice Ao79 t145.length co79); have hcz98_1 := c1_ BK154 1 (.slice Ao85 t148.length co85); have hcz98_2 := c1_ BK154 2 (.slice Ao86 t151.length co86); have hfz98_0 := f1_ BK154 0; have hfz98_1 := f1_ BK154 1; have hfz98_2 := f1_ BK154 2) | (go_at_call 19; (with_reducible refine (impl_ValidPresence.calls k _ _ t145 _ _ t156 _ _ t151 false _ ?side1 ?side2 ?side3 ?side4 ?side5 ?side6 A14.out).mono ?_); (case side1 => refine (Kd.R_reads' (e := 63) (base := w.heap.size) (ok := fun k_ => some k_ ≠ (.slice Ao92 t156.length co92 : Value).ownBlock) (n := t145.length) (c := co79) ?_).2.2; exact (by (with_reducible repeat (first | apply Kd.R_alloc | apply Kd.R_drewN | apply Kd.R_drew)); exact (Kd.R_mono (Kd.R_far (p := ⟨gb154, 1, none⟩) (Kd.R_types HO147.out BK154.out (by decide)) (fun _ hk => hk.2) (.slice Ao92 t156.length co92)) (fun _ h_ => h_.1)))); (case side2 => exact (Kd.R_reads' HO147.out).2.1); (case side3 => refine (Kd.R_reads' (e := 63) (base := w.heap.size) (ok := fun k_ => some k_ ≠ (.slice Ao79 t145.length co79 : Value).ownBlock) (n := t156.length) (c := co92) ?_).2.2; exact (by (with_reducible repeat (first | apply Kd.R_alloc | apply Kd.R_drewN | apply Kd.R_drew)); exact (Kd.R_mono (Kd.R_far (p := ⟨gb154, 1, none⟩) (Kd.R_types HO158.out BK154.out (by decide)) (fun _ hk => hk.2) (.slice Ao92 t156.length co92)) (fun _ h_ => h_.1)))); (case side4 => exact (Kd.R_reads' HO158.out).2.1); (case side5 => refine (Kd.R_reads' (e := 73) (base := w.heap.size) (ok := fun k_ => True) (n := t151.length) (c := co86) ?_).2.2; exact (by (with_reducible repeat (first | apply Kd.R_alloc | apply Kd.R_drewN | apply Kd.R_drew)); exact (Kd.R_mono (Kd.R_far (p := ⟨gb154, 1, none⟩) (Kd.R_types HO153.out BK154.out (by decide)) (fun _ hk => hk.2) (.slice Ao92 t156.length co92)) (fun _ h_ => h_.1)))); (case side6 => exact (Kd.R_reads' HO153.out).2.1); rintro e w99 ⟨rfl, hb⟩; replace HO147 := Aside0.mk (Kd.R_below (by (with_reducible repeat (first | apply Kd.R_alloc | apply Kd.R_drewN | apply Kd.R_drew)); exact (Kd.R_mono (Kd.R_far (p := ⟨gb154, 1, none⟩) (Kd.R_types HO147.out BK154.out (by decide)) (fun _ hk => hk.2) (.slice Ao92 t156.length co92)) (fun _ h_ => h_.1))) hb); replace HO153 := Aside0.mk (Kd.R_below (by (with_reducible repeat (first | apply Kd.R_alloc | apply Kd.R_drewN | apply Kd.R_drew)); exact (Kd.R_mono (Kd.R_far (p := ⟨gb154, 1, none⟩) (Kd.R_types HO153.out BK154.out (by decide)) (fun _ hk => hk.2) (.slice Ao92 t156.length co92)) (fun _ h_ => h_.1))) hb); replace HO158 := Aside0.mk (Kd.R_below (by (with_reducible repeat (first | apply Kd.R_alloc | apply Kd.R_drewN | apply Kd.R_drew)); exact (Kd.R_mono (Kd.R_far (p := ⟨gb154, 1, none⟩) (Kd.R_types HO158.out BK154.out (by decide)) (fun _ hk => hk.2) (.slice Ao92 t156.length co92)) (fun _ h_ => h_.1))) hb); replace BK139 := Aside0.mk (blk_below (g := gb139) (o := .cells #[.int .i64 a1] 2 (0, 0)) (by (with_reducible repeat (first | refine blk_drewN ?_ _ | refine blk_drew ?_ | refine blk_alloc ?_ _)); refine blk_far ?_ NB139_154.out _; (with_reducible repeat (first | refine blk_drewN ?_ _ | refine blk_drew ?_ | refine blk_alloc ?_ _)); exact BK139.out) hb); replace BK140 := Aside0.mk (blk_below (g := gb140) (o := .cells #[.int .i64 a2] 2 (0, 0)) (by (with_reducible repeat (first | refine blk_drewN ?_ _ | refine blk_drew ?_ | refine blk_alloc ?_ _)); refine blk_far ?_ NB140_154.out _; (with_reducible repeat (first | refine blk_drewN ?_ _ | refine blk_drew ?_ | refine blk_alloc ?_ _)); exact BK140.out) hb); replace BK141 := Aside0.mk (blk_below (g := gb141) (o := .cells #[.slice none 0 0, .slice none 0 0, .slice none 0 0] 27 (0, 0)) (by (with_reducible repeat (first | refine blk_drewN ?_ _ | refine blk_drew ?_ | refine blk_alloc ?_ _)); refine blk_far ?_ NB141_154.out _; (with_reducible repeat (first | refine blk_drewN ?_ _ | refine blk_drew ?_ | refine blk_alloc ?_ _)); exact BK141.out) hb); replace BK143 := Aside0.mk (blk_below (g := gb143) (o := .cells #[.slice none 0 0, .slice none 0 0, .slice none 0 0] 27 (0, 0)) (by (with_reducible repeat (first | refine blk_drewN ?_ _ | refine blk_drew ?_ | refine blk_alloc ?_ _)); refine blk_far ?_ NB143_154.out _; (with_reducible repeat (first | refine blk_drewN ?_ _ | refine blk_drew ?_ | refine blk_alloc ?_ _)); exact BK143.out) hb); replace BK154 := Aside0.mk (blk_below (g := gb154) (o := .cells #[.slice Ao79 t145.length co79, .slice Ao92 t156.length co92, .slice Ao86 t151.length co86] 27 (0, 0)) (by (with_reducible repeat (first | refine blk_drewN ?_ _ | refine blk_drew ?_ | refine blk_alloc ?_ _)); refine blk_put (cs := #[.slice Ao79 t145.length co79, .slice Ao85 t148.length co85, .slice Ao86 t151.length co86]) ?_ 1 _ rfl; (with_reducible repeat (first | refine blk_drewN ?_ _ | refine blk_drew ?_ | refine blk_alloc ?_ _)); exact BK154.out) hb); replace HB := Aside0.mk (below_step (by repeat (first | (with_reducible first | exact HB.out | apply below_alloc | apply pw_below_drewN | apply below_drew1 | refine below_set ?_ GE154.out) | exact HB.out)) hb); (try clear hb); (try clear hb2); (try clear hk); (try clear hi); have hnb100 := NB143_141.out; have hnc100 := NB141_143.out; have hcz101_0 := c1_ BK143 0 (.slice none 0 0); have hcz101_1 := c1_ BK143 1 (.slice none 0 0); have hcz101_2 := c1_ BK143 2 (.slice none 0 0); have hfz101_0 := f1_ BK143 0; have hfz101_1 := f1_ BK143 1; have hfz101_2 := f1_ BK143 2))
 (try simp only [Exit.inBlock, Exit.then])
 refine bodyPost_ret (results_ct rfl _ _ gb143 27 #[.slice none 0 0, .slice none 0 0, .slice none 0 0] (0, 0) _ rfl (by (with_reducible repeat (first | refine blk_drewN ?_ _ | refine blk_drew ?_ | refine blk_alloc ?_ _)); refine blk_put3 (cs := #[.slice none 0 0, .slice none 0 0, .slice none 0 0]) ?_ rfl; (with_reducible repeat (first | refine blk_drewN ?_ _ | refine blk_drew ?_ | refine blk_alloc ?_ _)); exact BK143.out) Try.underlying27 rfl s2_) rfl ?_
 (try simp only [])
 have hcz102_0 := c1_ BK141 0 (.slice none 0 0)
 have hcz102_1 := c1_ BK141 1 (.slice none 0 0)
 have hcz102_2 := c1_ BK141 2 (.slice none 0 0)
 have hfz102_0 := f1_ BK141 0
 have hfz102_1 := f1_ BK141 1
 have hfz102_2 := f1_ BK141 2
 try go_wp2_with (fail)
 refine bodyPost_ret (results_ct rfl _ _ gb141 27 #[.slice none 0 0, .slice none 0 0, .slice none 0 0] (0, 0) _ rfl (by (with_reducible repeat (first | refine blk_drewN ?_ _ | refine blk_drew ?_ | refine blk_alloc ?_ _)); refine blk_put3 (cs := #[.slice none 0 0, .slice none 0 0, .slice none 0 0]) ?_ rfl; (with_reducible repeat (first | refine blk_drewN ?_ _ | refine blk_drew ?_ | refine blk_alloc ?_ _)); refine blk_far3 ?_ NB141_143.out; (with_reducible repeat (first | refine blk_drewN ?_ _ | refine blk_drew ?_ | refine blk_alloc ?_ _)); exact BK141.out) Try.underlying27 rfl s2_) rfl ?_
 exact ⟨_, _, _, by first | rfl | (simp [errW_none, errW_some] <;> rfl) | (simp [*, errW_none, errW_some] <;> rfl), by first | exact Kd.R_nil _ _ _ _ _ | exact Kd.N_nil _ _ _ _ _ | exact Kd.V_nil _ _ _ _ _ | exact Kd.Q_nil _ _ _ _ _ | exact Kd.S_nil _ _ _ _ _, by first | exact Kd.R_nil _ _ _ _ _ | exact Kd.N_nil _ _ _ _ _ | exact Kd.V_nil _ _ _ _ _ | exact Kd.Q_nil _ _ _ _ _ | exact Kd.S_nil _ _ _ _ _, by first | exact Kd.R_nil _ _ _ _ _ | exact Kd.N_nil _ _ _ _ _ | exact Kd.V_nil _ _ _ _ _ | exact Kd.Q_nil _ _ _ _ _ | exact Kd.S_nil _ _ _ _ _, by repeat (first | (with_reducible first | exact HB.out | apply below_alloc | apply pw_below_drewN | apply below_drew1 | refine below_set ?_ GE141.out | refine below_set ?_ GE143.out) | exact HB.out)⟩}}
 {
 replace c13 := Bool.eq_false_iff.mpr c13
 subst c13
 have H1 : (some (([] : List (S63)), ([] : List (S63)), ([] : List (S73)), false)) = some (r1, r2, r3, r4) := by rw [if_neg (show ¬ (false = true) by decide)] at H; exact H
 clear H
 have H := H1
 clear H1
 simp only [Option.some.injEq, Prod.mk.injEq] at H
 obtain ⟨rfl, rfl, rfl, rfl⟩ := H
 go_enter Try.func16, Try.ntmps16
 try go_wp2_with (first | ((with_reducible refine gate_dst (N := 3) rfl ?_); (try (refine gate_guard (by rfl) ?_; dsimp only)); refine bx_ 3 #[.slice A0_0 l0_0.length c0_0, .slice A0_1 l0_1.length c0_1, .slice A0_2 l0_2.length c0_2] 27 ?_; intro gb138 hg w103 hbox hb; have GW138 := b6_ hg HB; have GE138 := b6_ hg HB; replace HB := Aside0.mk (below_step (y1_ HB.out) hb); have BK138 := Aside0.mk (hbox); clear hb hbox hg) | ((with_reducible refine gate_dst (N := 4) rfl ?_); (try (refine gate_guard (by rfl) ?_; dsimp only)); refine bx_ 4 #[.int .i64 a1] 2 ?_; intro gb139 hg w104 hbox hb; have GW139 := b6_ hg HB; have GE139 := b6_ hg HB; have NB138_139 := b4_ hg BK138; have NB139_138 := b5_ hg BK138; replace BK138 := b3_ BK138 hb; replace HB := Aside0.mk (below_step (y1_ HB.out) hb); have BK139 := Aside0.mk (hbox); clear hb hbox hg) | ((with_reducible refine gate_dst (N := 5) rfl ?_); (try (refine gate_guard (by rfl) ?_; dsimp only)); refine bx_ 5 #[.int .i64 a2] 2 ?_; intro gb140 hg w105 hbox hb; have GW140 := b6_ hg HB; have GE140 := b6_ hg HB; have NB138_140 := b4_ hg BK138; have NB140_138 := b5_ hg BK138; have NB139_140 := b4_ hg BK139; have NB140_139 := b5_ hg BK139; replace BK138 := b3_ BK138 hb; replace BK139 := b3_ BK139 hb; replace HB := Aside0.mk (below_step (y1_ HB.out) hb); have BK140 := Aside0.mk (hbox); clear hb hbox hg) | ((with_reducible refine gate_dst (N := 6) rfl ?_); (try (refine gate_guard (by rfl) ?_; dsimp only)); refine bx_ 6 #[.slice none 0 0, .slice none 0 0, .slice none 0 0] 27 ?_; intro gb141 hg w106 hbox hb; have GW141 := b6_ hg HB; have GE141 := b6_ hg HB; have NB138_141 := b4_ hg BK138; have NB141_138 := b5_ hg BK138; have NB139_141 := b4_ hg BK139; have NB141_139 := b5_ hg BK139; have NB140_141 := b4_ hg BK140; have NB141_140 := b5_ hg BK140; replace BK138 := b3_ BK138 hb; replace BK139 := b3_ BK139 hb; replace BK140 := b3_ BK140 hb; replace HB := Aside0.mk (below_step (y1_ HB.out) hb); have BK141 := Aside0.mk (hbox); clear hb hbox hg; have hnb107 := NB138_139.out; have hnc107 := NB139_138.out; have hnb108 := NB138_140.out; have hnc108 := NB140_138.out; have hnb109 := NB138_141.out; have hnc109 := NB141_138.out; have hcz110_0 := c1_ BK138 0 (.slice A0_0 l0_0.length c0_0); have hcz110_1 := c1_ BK138 1 (.slice A0_1 l0_1.length c0_1); have hcz110_2 := c1_ BK138 2 (.slice A0_2 l0_2.length c0_2); have hfz110_0 := f1_ BK138 0; have hfz110_1 := f1_ BK138 1; have hfz110_2 := f1_ BK138 2))
 go_at_call 42
 go_in
 try go_wp2_with (first | ((with_reducible refine gate_dst (N := 2) rfl ?_); (try (refine gate_guard (by rfl) ?_; dsimp only)); refine bx_ 2 #[.slice A0_0 l0_0.length c0_0, .slice A0_1 l0_1.length c0_1, .slice A0_2 l0_2.length c0_2] 27 ?_; intro gb142 hg w111 hbox hb; have GW142 := b6_ hg HB; have GE142 := b6_ hg HB; have NB139_142 := b4_ hg BK139; have NB142_139 := b5_ hg BK139; have NB140_142 := b4_ hg BK140; have NB142_140 := b5_ hg BK140; have NB141_142 := b4_ hg BK141; have NB142_141 := b5_ hg BK141; replace BK139 := b3_ BK139 hb; replace BK140 := b3_ BK140 hb; replace BK141 := b3_ BK141 hb; replace HB := Aside0.mk (below_step (y1_ HB.out) hb); have BK142 := Aside0.mk (hbox); clear hb hbox hg) | ((with_reducible refine gate_dst (N := 4) rfl ?_); (try (refine gate_guard (by rfl) ?_; dsimp only)); refine bx_ 4 #[.slice none 0 0, .slice none 0 0, .slice none 0 0] 27 ?_; intro gb143 hg w112 hbox hb; have GW143 := b6_ hg HB; have GE143 := b6_ hg HB; have NB139_143 := b4_ hg BK139; have NB143_139 := b5_ hg BK139; have NB140_143 := b4_ hg BK140; have NB143_140 := b5_ hg BK140; have NB141_143 := b4_ hg BK141; have NB143_141 := b5_ hg BK141; have NB142_143 := b4_ hg BK142; have NB143_142 := b5_ hg BK142; replace BK139 := b3_ BK139 hb; replace BK140 := b3_ BK140 hb; replace BK141 := b3_ BK141 hb; replace BK142 := b3_ BK142 hb; replace HB := Aside0.mk (below_step (y1_ HB.out) hb); have BK143 := Aside0.mk (hbox); clear hb hbox hg; have hnb113 := NB142_139.out; have hnc113 := NB139_142.out; have hnb114 := NB142_140.out; have hnc114 := NB140_142.out; have hnb115 := NB142_141.out; have hnc115 := NB141_142.out; have hnb116 := NB142_143.out; have hnc116 := NB143_142.out; have hcz117_0 := c1_ BK142 0 (.slice A0_0 l0_0.length c0_0); have hcz117_1 := c1_ BK142 1 (.slice A0_1 l0_1.length c0_1); have hcz117_2 := c1_ BK142 2 (.slice A0_2 l0_2.length c0_2); have hfz117_0 := f1_ BK142 0; have hfz117_1 := f1_ BK142 1; have hfz117_2 := f1_ BK142 2) | ((with_reducible refine gate_callee (f := 19) rfl ?_); refine goesL_ (some 8) rfl rfl Try.func19 s2_ rfl #[.agg #[.slice A0_0 l0_0.length c0_0, .slice A0_1 l0_1.length c0_1, .slice A0_2 l0_2.length c0_2]] rfl s3_ ?_; (with_reducible refine (impl_ValidPresence.calls k _ _ l0_0 _ _ l0_1 _ _ l0_2 true _ ?side1 ?side2 ?side3 ?side4 ?side5 ?side6 A4.out).mono ?_); (case side1 => exact y2_ (Kd.C_below HR0_0.out HB.out)); (case side2 => exact HC0_0.out); (case side3 => exact y2_ (Kd.C_below HR0_1.out HB.out)); (case side4 => exact HC0_1.out); (case side5 => exact y2_ (Kd.C_below HR0_2.out HB.out)); (case side6 => exact HC0_2.out); rintro e w118 ⟨rfl, hb⟩; refine ⟨_, rfl, ?_⟩; replace BK139 := b3_ BK139 hb; replace BK140 := b3_ BK140 hb; replace BK141 := b3_ BK141 hb; replace BK142 := b3_ BK142 hb; replace BK143 := b3_ BK143 hb; replace HB := Aside0.mk (below_step (y1_ HB.out) hb); (try clear hb); (try clear hb2); (try clear hk); (try clear hi); have hcz119_0 := c1_ BK142 0 (.slice A0_0 l0_0.length c0_0); have hcz119_1 := c1_ BK142 1 (.slice A0_1 l0_1.length c0_1); have hcz119_2 := c1_ BK142 2 (.slice A0_2 l0_2.length c0_2); have hfz119_0 := f1_ BK142 0; have hfz119_1 := f1_ BK142 1; have hfz119_2 := f1_ BK142 2) | ((with_reducible refine gate_callee (f := 90) rfl ?_); refine goesL_ (some 12) rfl rfl Try.func90 s2_ rfl #[.agg #[.slice A0_0 l0_0.length c0_0, .slice A0_1 l0_1.length c0_1, .slice A0_2 l0_2.length c0_2]] rfl s3_ ?_; (with_reducible refine (impl_clonePresence.calls _ _ l0_0 _ _ l0_1 _ _ l0_2 t145 t148 t151 _ ?side1 ?side2 ?side3 ?side4 ?side5 ?side6 A6.out).mono ?_); (case side1 => exact y2_ (Kd.C_below HR0_0.out HB.out)); (case side2 => exact HC0_0.out); (case side3 => exact y2_ (Kd.C_below HR0_1.out HB.out)); (case side4 => exact HC0_1.out); (case side5 => exact y2_ (Kd.C_below HR0_2.out HB.out)); (case side6 => exact HC0_2.out); rintro e w120 ⟨v146, v149, v152, rfl, ho0, ho1, ho2, hb⟩; refine ⟨_, rfl, ?_⟩; have HO147 := Aside0.mk (Kd.R_lower ho0 (below_size (y1_ HB.out))); have HO150 := Aside0.mk (Kd.R_lower ho1 (below_size (y1_ HB.out))); have HO153 := Aside0.mk (Kd.R_lower ho2 (below_size (y1_ HB.out))); replace BK139 := b3_ BK139 hb; replace BK140 := b3_ BK140 hb; replace BK141 := b3_ BK141 hb; replace BK143 := b3_ BK143 hb; replace HB := Aside0.mk (below_step (y1_ HB.out) hb); (try clear hb); (try clear hb2); (try clear hk); (try clear hi); (try clear ho0); (try clear ho1); (try clear ho2)) | ((with_reducible refine gate_dst (N := 6) rfl ?_); (try (refine gate_guard (by rfl) ?_; dsimp only)); refine bx_ 6 #[.slice none 0 0, .slice none 0 0, .slice none 0 0] 27 ?_; intro gb154 hg w121 hbox hb; have GW154 := b6_ hg HB; have GE154 := b6_ hg HB; have NB139_154 := b4_ hg BK139; have NB154_139 := b5_ hg BK139; have NB140_154 := b4_ hg BK140; have NB154_140 := b5_ hg BK140; have NB141_154 := b4_ hg BK141; have NB154_141 := b5_ hg BK141; have NB143_154 := b4_ hg BK143; have NB154_143 := b5_ hg BK143; replace HO147 := r1_ HO147 hb; replace HO150 := r1_ HO150 hb; replace HO153 := r1_ HO153 hb; replace BK139 := b3_ BK139 hb; replace BK140 := b3_ BK140 hb; replace BK141 := b3_ BK141 hb; replace BK143 := b3_ BK143 hb; replace HB := Aside0.mk (below_step (y1_ HB.out) hb); have BK154 := Aside0.mk (hbox); clear hb hbox hg; obtain ⟨Ao122, co122, eo122⟩ := Kd.R_slice HO147.out; subst eo122; have hnb123 := NB154_139.out; have hnc123 := NB139_154.out; have hnb124 := NB154_140.out; have hnc124 := NB140_154.out; have hnb125 := NB154_141.out; have hnc125 := NB141_154.out; have hnb126 := NB154_143.out; have hnc126 := NB143_154.out; have hcz127_0 := c1_ BK154 0 (.slice none 0 0); have hcz127_1 := c1_ BK154 1 (.slice none 0 0); have hcz127_2 := c1_ BK154 2 (.slice none 0 0); have hfz127_0 := f1_ BK154 0; have hfz127_1 := f1_ BK154 1; have hfz127_2 := f1_ BK154 2; obtain ⟨Ao128, co128, eo128⟩ := Kd.R_slice HO150.out; subst eo128; obtain ⟨Ao129, co129, eo129⟩ := Kd.R_slice HO153.out; subst eo129))
 go_at_call 48
 go_in
 try go_wp2_with (fail)
 have n0_ : Aside0 (Kd.R k63 63 (((w121.setCell ⟨gb154, 0, none⟩ (.slice Ao122 t145.length co122)).setCell ⟨gb154, 1, none⟩ (.slice Ao128 t148.length co128)).setCell ⟨gb154, 2, none⟩ (.slice Ao129 t151.length co129)) w.heap.size (fun k_ => some k_ ≠ (.slice Ao128 t148.length co128 : Value).ownBlock) (.slice Ao122 t145.length co122) t145) := ⟨by (with_reducible repeat (first | apply Kd.R_alloc | apply Kd.R_drewN | apply Kd.R_drew)); exact Kd.R_mono (Kd.R_far3 (g := gb154) (Kd.R_types HO147.out BK154.out (by decide)) (fun _ hk => hk.2)) (fun _ hk => hk.1)⟩
 have n1_ : Aside0 (Kd.R k63 63 (((w121.setCell ⟨gb154, 0, none⟩ (.slice Ao122 t145.length co122)).setCell ⟨gb154, 1, none⟩ (.slice Ao128 t148.length co128)).setCell ⟨gb154, 2, none⟩ (.slice Ao129 t151.length co129)) w.heap.size (fun k_ => some k_ ≠ (.slice Ao122 t145.length co122 : Value).ownBlock) (.slice Ao128 t148.length co128) t148) := ⟨by (with_reducible repeat (first | apply Kd.R_alloc | apply Kd.R_drewN | apply Kd.R_drew)); exact Kd.R_mono (Kd.R_far3 (g := gb154) (Kd.R_types HO150.out BK154.out (by decide)) (fun _ hk => hk.2)) (fun _ hk => hk.1)⟩
 have n2_ : Aside0 (Kd.R k73 73 (((w121.setCell ⟨gb154, 0, none⟩ (.slice Ao122 t145.length co122)).setCell ⟨gb154, 1, none⟩ (.slice Ao128 t148.length co128)).setCell ⟨gb154, 2, none⟩ (.slice Ao129 t151.length co129)) w.heap.size (fun _ => True) (.slice Ao129 t151.length co129) t151) := ⟨by (with_reducible repeat (first | apply Kd.R_alloc | apply Kd.R_drewN | apply Kd.R_drew)); exact Kd.R_mono (Kd.R_far3 (g := gb154) (Kd.R_types HO153.out BK154.out (by decide)) (fun _ hk => hk.2)) (fun _ hk => trivial)⟩
 have n3_ : Aside0 ((((w121.setCell ⟨gb154, 0, none⟩ (.slice Ao122 t145.length co122)).setCell ⟨gb154, 1, none⟩ (.slice Ao128 t148.length co128)).setCell ⟨gb154, 2, none⟩ (.slice Ao129 t151.length co129)).heap[gb139]? = some (.cells #[.int .i64 a1] 2 (0, 0))) := ⟨by (with_reducible repeat (first | refine blk_drewN ?_ _ | refine blk_drew ?_ | refine blk_alloc ?_ _)); refine blk_far3 ?_ NB139_154.out; (with_reducible repeat (first | refine blk_drewN ?_ _ | refine blk_drew ?_ | refine blk_alloc ?_ _)); exact BK139.out⟩
 have n4_ : Aside0 ((((w121.setCell ⟨gb154, 0, none⟩ (.slice Ao122 t145.length co122)).setCell ⟨gb154, 1, none⟩ (.slice Ao128 t148.length co128)).setCell ⟨gb154, 2, none⟩ (.slice Ao129 t151.length co129)).heap[gb140]? = some (.cells #[.int .i64 a2] 2 (0, 0))) := ⟨by (with_reducible repeat (first | refine blk_drewN ?_ _ | refine blk_drew ?_ | refine blk_alloc ?_ _)); refine blk_far3 ?_ NB140_154.out; (with_reducible repeat (first | refine blk_drewN ?_ _ | refine blk_drew ?_ | refine blk_alloc ?_ _)); exact BK140.out⟩
 have n5_ : Aside0 ((((w121.setCell ⟨gb154, 0, none⟩ (.slice Ao122 t145.length co122)).setCell ⟨gb154, 1, none⟩ (.slice Ao128 t148.length co128)).setCell ⟨gb154, 2, none⟩ (.slice Ao129 t151.length co129)).heap[gb141]? = some (.cells #[.slice none 0 0, .slice none 0 0, .slice none 0 0] 27 (0, 0))) := ⟨by (with_reducible repeat (first | refine blk_drewN ?_ _ | refine blk_drew ?_ | refine blk_alloc ?_ _)); refine blk_far3 ?_ NB141_154.out; (with_reducible repeat (first | refine blk_drewN ?_ _ | refine blk_drew ?_ | refine blk_alloc ?_ _)); exact BK141.out⟩
 have n6_ : Aside0 ((((w121.setCell ⟨gb154, 0, none⟩ (.slice Ao122 t145.length co122)).setCell ⟨gb154, 1, none⟩ (.slice Ao128 t148.length co128)).setCell ⟨gb154, 2, none⟩ (.slice Ao129 t151.length co129)).heap[gb143]? = some (.cells #[.slice none 0 0, .slice none 0 0, .slice none 0 0] 27 (0, 0))) := ⟨by (with_reducible repeat (first | refine blk_drewN ?_ _ | refine blk_drew ?_ | refine blk_alloc ?_ _)); refine blk_far3 ?_ NB143_154.out; (with_reducible repeat (first | refine blk_drewN ?_ _ | refine blk_drew ?_ | refine blk_alloc ?_ _)); exact BK143.out⟩
 have n7_ : Aside0 ((((w121.setCell ⟨gb154, 0, none⟩ (.slice Ao122 t145.length co122)).setCell ⟨gb154, 1, none⟩ (.slice Ao128 t148.length co128)).setCell ⟨gb154, 2, none⟩ (.slice Ao129 t151.length co129)).heap[gb154]? = some (.cells #[.slice Ao122 t145.length co122, .slice Ao128 t148.length co128, .slice Ao129 t151.length co129] 27 (0, 0))) := ⟨by (with_reducible repeat (first | refine blk_drewN ?_ _ | refine blk_drew ?_ | refine blk_alloc ?_ _)); refine blk_put3 (cs := #[.slice none 0 0, .slice none 0 0, .slice none 0 0]) ?_ rfl; (with_reducible repeat (first | refine blk_drewN ?_ _ | refine blk_drew ?_ | refine blk_alloc ?_ _)); exact BK154.out⟩
 have n8_ : Aside0 (Below w.heap.size w (((w121.setCell ⟨gb154, 0, none⟩ (.slice Ao122 t145.length co122)).setCell ⟨gb154, 1, none⟩ (.slice Ao128 t148.length co128)).setCell ⟨gb154, 2, none⟩ (.slice Ao129 t151.length co129))) := ⟨by repeat (first | (with_reducible first | exact HB.out | apply below_alloc | apply pw_below_drewN | apply below_drew1 | refine below_set ?_ GE154.out) | exact HB.out)⟩
 (try clear HO147)
 (try clear HO150)
 (try clear HO153)
 (try clear BK139)
 (try clear BK140)
 (try clear BK141)
 (try clear BK143)
 (try clear BK154)
 (try clear HB)
 generalize (((w121.setCell ⟨gb154, 0, none⟩ (.slice Ao122 t145.length co122)).setCell ⟨gb154, 1, none⟩ (.slice Ao128 t148.length co128)).setCell ⟨gb154, 2, none⟩ (.slice Ao129 t151.length co129)) = w130 at n0_ n1_ n2_ n3_ n4_ n5_ n6_ n7_ n8_ ⊢
 have HO147 := n0_
 have HO150 := n1_
 have HO153 := n2_
 have BK139 := n3_
 have BK140 := n4_
 have BK141 := n5_
 have BK143 := n6_
 have BK154 := n7_
 have HB := n8_
 clear n0_ n1_ n2_ n3_ n4_ n5_ n6_ n7_ n8_
 replace HO147 := Aside0.mk (Kd.R_drew HO147.out)
 replace HO150 := Aside0.mk (Kd.R_drew HO150.out)
 replace HO153 := Aside0.mk (Kd.R_drew HO153.out)
 replace BK139 := Aside0.mk (blk_drew BK139.out)
 replace BK140 := Aside0.mk (blk_drew BK140.out)
 replace BK141 := Aside0.mk (blk_drew BK141.out)
 replace BK143 := Aside0.mk (blk_drew BK143.out)
 replace BK154 := Aside0.mk (blk_drew BK154.out)
 replace HB := Aside0.mk (below_drew1 HB.out)
 refine start_ (n := 9) (S := fun w' => w'.cell? ⟨gb154, 0, none⟩ = some (.slice Ao122 t145.length co122) ∧ w'.cell? ⟨gb154, 1, none⟩ = some (.slice Ao128 t148.length co128) ∧ w'.cell? ⟨gb154, 2, none⟩ = some (.slice Ao129 t151.length co129) ∧ w'.cell? ⟨gb139, 0, none⟩ = some (.int .i64 a1) ∧ w'.cell? ⟨gb140, 0, none⟩ = some (.int .i64 a2)) (ds := []) m0_ s2_ rfl rfl ⟨(blk_cell BK154.out 0).trans rfl, (blk_cell BK154.out 1).trans rfl, (blk_cell BK154.out 2).trans rfl, (blk_cell BK139.out 0).trans rfl, (blk_cell BK140.out 0).trans rfl⟩ (fun hHeld => ?_)
 generalize w130.drew = w131 at HO147 HO150 HO153 BK139 BK140 BK141 BK143 BK154 HB HO147 HO150 HO153 hHeld ⊢
 refine pure_ (i := 0) (N := some 6) (v := ?_) (a' := ?_) m1_ rfl rfl s2_ (fun _ _ _ h => h) (Or.inl ⟨by rfl, ?_⟩) ?_ ?_
 rotate_left
 {
 intro w'
 go_simp
 with_reducible rfl}
 rotate_left
 · exact p1_
 refine pure_ (i := 1) (N := some 7) (v := ?_) (a' := ?_) m2_ rfl rfl s2_ (fun _ _ _ h => h) (Or.inl ⟨by rfl, ?_⟩) ?_ ?_
 rotate_left
 {
 intro w'
 go_simp
 with_reducible rfl}
 rotate_left
 · exact p1_
 refine pure_ (i := 2) (N := some 8) (v := ?_) (a' := ?_) m3_ rfl rfl s2_ (fun _ _ _ h => h) (Or.inl ⟨by rfl, ?_⟩) ?_ ?_
 rotate_left
 {
 intro w'
 go_simp
 with_reducible rfl}
 rotate_left
 · exact p1_
 refine take_ (i := 3) (N := some 9) (v := ?_) (a' := ?_) m4_ rfl rfl s2_ (fun _ _ _ h => h) (Or.inl ⟨by rfl, ?_⟩) hHeld ?_ ?_
 rotate_left
 {
 rintro w' ⟨s0, s1, s2, s3, s4⟩
 go_simp
 with_reducible rfl}
 rotate_left
 · exact p1_
 refine take_ (i := 4) (N := some 10) (v := ?_) (a' := ?_) m5_ rfl rfl s2_ (fun _ _ _ h => h) (Or.inl ⟨by rfl, ?_⟩) hHeld ?_ ?_
 rotate_left
 {
 rintro w' ⟨s0, s1, s2, s3, s4⟩
 go_simp
 with_reducible rfl}
 rotate_left
 · exact p1_
 refine take_ (i := 6) (N := some 12) (v := ?_) (a' := ?_) m6_ rfl rfl s2_ (fun _ _ _ h => h) (Or.inl ⟨by rfl, ?_⟩) hHeld ?_ ?_
 rotate_left
 {
 rintro w' ⟨s0, s1, s2, s3, s4⟩
 go_simp
 with_reducible rfl}
 rotate_left
 · exact p1_
 refine one_ (i := 5) (N := some 11) m7_ rfl rfl s2_ (by decide) (fun K hK => ?_)
 refine goes_ Try.func49 s2_ rfl #[.slice Ao122 t145.length co122, .int .i64 a1] (by rfl) rfl rfl s3_ ?_
 with_reducible refine (impl_until_n49.calls k _ _ t145 a1 t155 _ ?side1 ?side2 A7.out).mono ?_
 (case side1 => exact y2_ (Kd.R_reads' HO147.out).2.2)
 (case side2 => exact (Kd.R_reads' HO147.out).2.1)
 rintro e w132 ⟨rfl, hb⟩
 refine ⟨_, rfl, ?_⟩
 replace HO147 := r1_ HO147 hb
 replace HO150 := r1_ HO150 hb
 replace HO153 := r1_ HO153 hb
 replace BK139 := b3_ BK139 hb
 replace BK140 := b3_ BK140 hb
 replace BK141 := b3_ BK141 hb
 replace BK143 := b3_ BK143 hb
 replace BK154 := b3_ BK154 hb
 replace HB := Aside0.mk (below_step (y1_ HB.out) hb)
 (try clear hb)
 (try clear hb2)
 (try clear hk)
 (try clear hi)
 refine hK.out _ _ ⟨(blk_cell BK154.out 0).trans rfl, (blk_cell BK154.out 1).trans rfl, (blk_cell BK154.out 2).trans rfl, (blk_cell BK139.out 0).trans rfl, (blk_cell BK140.out 0).trans rfl⟩ (fun hHeld => ?_)
 clear hK K
 refine norm_ (a' := ?_) ?_ ?_
 rotate_left
 {
 show Act.put _ (some 11) _ = _
 simp only [Act.put, List.setIfInBounds_toArray, List.set_cons_zero, List.set_cons_succ, i64_w, i32_w]
 rfl}
 refine pure_ (i := 7) (N := some 13) (v := ?_) (a' := ?_) m8_ rfl rfl s2_ (fun _ _ _ h => h) (Or.inl ⟨by rfl, ?_⟩) ?_ ?_
 rotate_left
 {
 intro w'
 go_simp
 with_reducible rfl}
 rotate_left
 · exact p1_
 refine pure_ (i := 8) (N := some 5) (v := ?_) (a' := ?_) m9_ rfl rfl s2_ (fun _ _ _ h => h) (Or.inl ⟨by rfl, ?_⟩) ?_ ?_
 rotate_left
 {
 intro w'
 go_simp
 with_reducible rfl}
 rotate_left
 · exact p1_
 refine done_ s2_ ?_
 try go_wp2_with (fail)
 replace HO147 := Aside0.mk (Kd.R_drew HO147.out)
 replace HO150 := Aside0.mk (Kd.R_drew HO150.out)
 replace HO153 := Aside0.mk (Kd.R_drew HO153.out)
 replace BK139 := Aside0.mk (blk_drew BK139.out)
 replace BK140 := Aside0.mk (blk_drew BK140.out)
 replace BK141 := Aside0.mk (blk_drew BK141.out)
 replace BK143 := Aside0.mk (blk_drew BK143.out)
 replace BK154 := Aside0.mk (blk_drew BK154.out)
 replace HB := Aside0.mk (below_drew1 HB.out)
 refine start_ (n := 13) (S := fun w' => w'.cell? ⟨gb154, 0, none⟩ = some (.slice Ao122 t145.length co122) ∧ w'.cell? ⟨gb154, 1, none⟩ = some (.slice Ao128 t148.length co128) ∧ w'.cell? ⟨gb154, 2, none⟩ = some (.slice Ao129 t151.length co129) ∧ w'.cell? ⟨gb139, 0, none⟩ = some (.int .i64 a1) ∧ w'.cell? ⟨gb140, 0, none⟩ = some (.int .i64 a2)) (ds := [12]) m10_ s2_ rfl rfl ⟨(blk_cell BK154.out 0).trans rfl, (blk_cell BK154.out 1).trans rfl, (blk_cell BK154.out 2).trans rfl, (blk_cell BK139.out 0).trans rfl, (blk_cell BK140.out 0).trans rfl⟩ (fun hHeld => ?_)
 generalize w132.drew = w133 at HO147 HO150 HO153 BK139 BK140 BK141 BK143 BK154 HB hHeld ⊢
 refine pure_ (i := 0) (N := some 14) (v := ?_) (a' := ?_) m11_ rfl rfl s2_ (fun _ _ _ h => h) (Or.inl ⟨by rfl, ?_⟩) ?_ ?_
 rotate_left
 {
 intro w'
 go_simp
 with_reducible rfl}
 rotate_left
 · exact p1_
 refine pure_ (i := 1) (N := some 15) (v := ?_) (a' := ?_) m12_ rfl rfl s2_ (fun _ _ _ h => h) (Or.inl ⟨by rfl, ?_⟩) ?_ ?_
 rotate_left
 {
 intro w'
 go_simp
 with_reducible rfl}
 rotate_left
 · exact p1_
 refine pure_ (i := 2) (N := some 16) (v := ?_) (a' := ?_) m13_ rfl rfl s2_ (fun _ _ _ h => h) (Or.inl ⟨by rfl, ?_⟩) ?_ ?_
 rotate_left
 {
 intro w'
 go_simp
 with_reducible rfl}
 rotate_left
 · exact p1_
 refine pure_ (i := 3) (N := some 17) (v := ?_) (a' := ?_) m14_ rfl rfl s2_ (fun _ _ _ h => h) (Or.inl ⟨by rfl, ?_⟩) ?_ ?_
 rotate_left
 {
 intro w'
 go_simp
 with_reducible rfl}
 rotate_left
 · exact p1_
 refine take_ (i := 4) (N := some 18) (v := ?_) (a' := ?_) m15_ rfl rfl s2_ (fun _ _ _ h => h) (Or.inl ⟨by rfl, ?_⟩) hHeld ?_ ?_
 rotate_left
 {
 rintro w' ⟨s0, s1, s2, s3, s4⟩
 go_simp
 with_reducible rfl}
 rotate_left
 · exact p1_
 refine take_ (i := 5) (N := some 19) (v := ?_) (a' := ?_) m16_ rfl rfl s2_ (fun _ _ _ h => h) (Or.inl ⟨by rfl, ?_⟩) hHeld ?_ ?_
 rotate_left
 {
 rintro w' ⟨s0, s1, s2, s3, s4⟩
 go_simp
 with_reducible rfl}
 rotate_left
 · exact p1_
 refine take_ (i := 6) (N := some 20) (v := ?_) (a' := ?_) m17_ rfl rfl s2_ (fun _ _ _ h => h) (Or.inl ⟨by rfl, ?_⟩) hHeld ?_ ?_
 rotate_left
 {
 rintro w' ⟨s0, s1, s2, s3, s4⟩
 go_simp
 with_reducible rfl}
 rotate_left
 · exact p1_
 refine pure_ (i := 7) (N := some 21) (v := ?_) (a' := ?_) m18_ rfl rfl s2_ (fun _ _ _ h => h) (Or.inl ⟨by rfl, ?_⟩) ?_ ?_
 rotate_left
 {
 intro w'
 go_simp
 with_reducible rfl}
 rotate_left
 · exact p1_
 refine pure_ (i := 8) (N := some 22) (v := ?_) (a' := ?_) m19_ rfl rfl s2_ (fun _ _ _ h => h) (Or.inl ⟨by rfl, ?_⟩) ?_ ?_
 rotate_left
 {
 intro w'
 go_simp
 with_reducible rfl}
 rotate_left
 · exact p1_
 refine one_ (i := 9) (N := some 23) m20_ rfl rfl s2_ (by decide) (fun K hK => ?_)
 refine goes_ Try.func44 s2_ rfl #[.slice Ao128 t148.length co128, .agg #[.int .i64 a1, .int .i64 (wrap64 (a2 + 6))]] (by rfl) rfl rfl s3_ ?_
 with_reducible refine (impl_leased_n44.calls k (fun k_ => some k_ = (.slice Ao128 t148.length co128 : Value).ownBlock) (.slice Ao128 t148.length co128) t148 a1 (wrap64 (a2 + 6)) t156 w _ ?side1 ?side2 A8.out).mono ?_
 (case side1 => repeat (first | (with_reducible first | exact HB.out | apply below_alloc | apply pw_below_drewN | apply below_drew1) | exact HB.out))
 (case side2 => exact Kd.R_tight rfl HO150.out)
 rintro e w134 ⟨v157, rfl, ho0, hb, hkp⟩
 refine ⟨_, rfl, ?_⟩
 have n0_ := Aside0.mk (blk_kept (b1_ BK139.out) hkp (fun hs_ => (fun e_ => (Kd.R_ne HO150.out BK139.out (by decide)) e_) hs_))
 have n1_ := Aside0.mk (blk_kept (b1_ BK140.out) hkp (fun hs_ => (fun e_ => (Kd.R_ne HO150.out BK140.out (by decide)) e_) hs_))
 have n2_ := Aside0.mk (blk_kept (b1_ BK141.out) hkp (fun hs_ => (fun e_ => (Kd.R_ne HO150.out BK141.out (by decide)) e_) hs_))
 have n3_ := Aside0.mk (blk_kept (b1_ BK143.out) hkp (fun hs_ => (fun e_ => (Kd.R_ne HO150.out BK143.out (by decide)) e_) hs_))
 have n4_ := Aside0.mk (Kd.R_mono (ok' := fun k_ => some k_ ≠ (v157 : Value).ownBlock) (Kd.R_keptB (HO147.out) hkp (fun k_ hk_ hs_ => (hk_) hs_)) (fun k_ hk_ => fun e_ => Or.elim (ho0.1 k_ e_.symm) (fun hs_ => hk_.2.1 hs_) (fun hn_ => Nat.not_le.2 hk_.2.2 hn_)))
 have n5_ := Aside0.mk (Kd.R_mono (ok' := fun k_ => True) (Kd.R_keptB ((Kd.R_apart' HO153.out (Kd.R_typed HO150.out) (by decide))) hkp (fun k_ hk_ hs_ => (hk_.2) hs_)) (fun k_ hk_ => trivial))
 have n6_ := Aside0.mk (blk_kept (b1_ BK154.out) hkp (fun hs_ => (fun e_ => (Kd.R_ne HO150.out BK154.out (by decide)) e_) hs_))
 have n7_ := Aside0.mk (Kd.R_mono (ok' := fun k_ => some k_ ≠ (.slice Ao122 t145.length co122 : Value).ownBlock) ho0 (fun k_ hk_ => Or.elim hk_ (fun hs_ => fun e_ => (((HO147.out).1 k_ e_.symm)) hs_) (fun hn_ => (Kd.fresh' (Kd.R_lt (b2_ HO147.out)) k_ hn_))))
 have n8_ := Aside0.mk (hb)
 clear BK139
 clear BK140
 clear BK141
 clear BK143
 clear HO147
 clear HO153
 clear BK154
 clear HB
 clear HO150
 have BK139 := n0_
 have BK140 := n1_
 have BK141 := n2_
 have BK143 := n3_
 have HO147 := n4_
 have HO153 := n5_
 have BK154 := n6_
 have HO158 := n7_
 have HB := n8_
 clear n0_ n1_ n2_ n3_ n4_ n5_ n6_ n7_ n8_
 (try clear hb)
 (try clear hkp)
 (try clear ho0)
 obtain ⟨Ao135, co135, eo135⟩ := Kd.R_slice HO158.out
 (first | subst eo135 | (injection eo135 with f1_ f2_ f3_; have f4_ := f1_.symm; have f5_ := f3_.symm; clear f1_ f2_ f3_; subst f4_; subst f5_))
 refine hK.out _ _ ⟨(blk_cell BK154.out 0).trans rfl, (blk_cell BK154.out 1).trans rfl, (blk_cell BK154.out 2).trans rfl, (blk_cell BK139.out 0).trans rfl, (blk_cell BK140.out 0).trans rfl⟩ (fun hHeld => ?_)
 clear hK K
 refine norm_ (a' := ?_) ?_ ?_
 rotate_left
 {
 show Act.put _ (some 23) _ = _
 simp only [Act.put, List.setIfInBounds_toArray, List.set_cons_zero, List.set_cons_succ, i64_w, i32_w]
 rfl}
 refine pure_ (i := 10) (N := some 24) (v := ?_) (a' := ?_) m21_ rfl rfl s2_ (fun _ _ _ h => h) (Or.inl ⟨by rfl, ?_⟩) ?_ ?_
 rotate_left
 {
 intro w'
 go_simp
 with_reducible rfl}
 rotate_left
 · exact p1_
 refine pure_ (i := 11) (N := some 25) (v := ?_) (a' := ?_) m22_ rfl rfl s2_ (fun _ _ _ h => h) (Or.inl ⟨by rfl, ?_⟩) ?_ ?_
 rotate_left
 {
 intro w'
 go_simp
 with_reducible rfl}
 rotate_left
 · exact p1_
 refine last_ (i := 12) (N := none) m23_ rfl rfl s2_ (by decide) (fun K hK => ?_)
 have hs136 : w134.cell? ⟨gb154, 1, none⟩ = some (.slice Ao128 t148.length co128) := (blk_cell BK154.out 1).trans rfl
 have hfs136 := blk_frozen BK154.out 1
 have hns136_0 := NB139_154.out
 have hns136_1 := NB140_154.out
 have hns136_2 := NB141_154.out
 have hns136_3 := NB143_154.out
 have hms136_0 := NB154_139.out
 have hms136_1 := NB154_140.out
 have hms136_2 := NB154_141.out
 have hms136_3 := NB154_143.out
 refine skip_ (w1 := ?_) (by rfl) rfl ?_ ?_
 rotate_left
 {
 go_simp
 rfl}
 refine hK.out _ _ ?_
 clear hK K
 refine done_ s2_ ?_
 have hnb137 := NB140_139.out
 have hnc137 := NB139_140.out
 have hnb138 := NB140_141.out
 have hnc138 := NB141_140.out
 have hnb139 := NB140_143.out
 have hnc139 := NB143_140.out
 have hcz140_0 := c1_ BK140 0 (.int .i64 a2)
 have hfz140_0 := f1_ BK140 0
 try go_wp2_with (first | (go_at_call 45; (with_reducible refine (impl_isTick.calls a2 true _ A10.out).mono ?_); rintro e w' ⟨rfl, ⟨nd, rfl⟩⟩) | (go_at_call 45; (with_reducible refine (impl_isTick.calls (wrap64 (a2 + 6)) false _ A12.out).mono ?_); rintro e w' ⟨rfl, ⟨nd, rfl⟩⟩; have hnb141 := NB143_139.out; have hnc141 := NB139_143.out; have hnb142 := NB143_141.out; have hnc142 := NB141_143.out; have hcz143_0 := c1_ BK143 0 (.slice none 0 0); have hcz143_1 := c1_ BK143 1 (.slice none 0 0); have hcz143_2 := c1_ BK143 2 (.slice none 0 0); have hfz143_0 := f1_ BK143 0; have hfz143_1 := f1_ BK143 1; have hfz143_2 := f1_ BK143 2))
 (try simp only [Exit.inBlock, Exit.then])
 refine bodyPost_ret (results_ct rfl _ _ gb143 27 #[.slice none 0 0, .slice none 0 0, .slice none 0 0] (0, 0) _ rfl (by (with_reducible repeat (first | refine blk_drewN ?_ _ | refine blk_drew ?_ | refine blk_alloc ?_ _)); refine blk_put3 (cs := #[.slice none 0 0, .slice none 0 0, .slice none 0 0]) ?_ rfl; (with_reducible repeat (first | refine blk_drewN ?_ _ | refine blk_drew ?_ | refine blk_alloc ?_ _)); refine blk_far ?_ NB143_154.out _; (with_reducible repeat (first | refine blk_drewN ?_ _ | refine blk_drew ?_ | refine blk_alloc ?_ _)); exact BK143.out) Try.underlying27 rfl s2_) rfl ?_
 (try simp only [])
 have hnb144 := NB141_139.out
 have hnc144 := NB139_141.out
 have hcz145_0 := c1_ BK141 0 (.slice none 0 0)
 have hcz145_1 := c1_ BK141 1 (.slice none 0 0)
 have hcz145_2 := c1_ BK141 2 (.slice none 0 0)
 have hfz145_0 := f1_ BK141 0
 have hfz145_1 := f1_ BK141 1
 have hfz145_2 := f1_ BK141 2
 try go_wp2_with (fail)
 refine bodyPost_ret (results_ct rfl _ _ gb141 27 #[.slice none 0 0, .slice none 0 0, .slice none 0 0] (0, 0) _ rfl (by (with_reducible repeat (first | refine blk_drewN ?_ _ | refine blk_drew ?_ | refine blk_alloc ?_ _)); refine blk_put3 (cs := #[.slice none 0 0, .slice none 0 0, .slice none 0 0]) ?_ rfl; (with_reducible repeat (first | refine blk_drewN ?_ _ | refine blk_drew ?_ | refine blk_alloc ?_ _)); refine blk_far3 ?_ NB141_143.out; (with_reducible repeat (first | refine blk_drewN ?_ _ | refine blk_drew ?_ | refine blk_alloc ?_ _)); refine blk_far ?_ NB141_154.out _; (with_reducible repeat (first | refine blk_drewN ?_ _ | refine blk_drew ?_ | refine blk_alloc ?_ _)); exact BK141.out) Try.underlying27 rfl s2_) rfl ?_
 exact ⟨_, _, _, by first | rfl | (simp [errW_none, errW_some] <;> rfl) | (simp [*, errW_none, errW_some] <;> rfl), by first | exact Kd.R_nil _ _ _ _ _ | exact Kd.N_nil _ _ _ _ _ | exact Kd.V_nil _ _ _ _ _ | exact Kd.Q_nil _ _ _ _ _ | exact Kd.S_nil _ _ _ _ _, by first | exact Kd.R_nil _ _ _ _ _ | exact Kd.N_nil _ _ _ _ _ | exact Kd.V_nil _ _ _ _ _ | exact Kd.Q_nil _ _ _ _ _ | exact Kd.S_nil _ _ _ _ _, by first | exact Kd.R_nil _ _ _ _ _ | exact Kd.N_nil _ _ _ _ _ | exact Kd.V_nil _ _ _ _ _ | exact Kd.Q_nil _ _ _ _ _ | exact Kd.S_nil _ _ _ _ _, by repeat (first | (with_reducible first | exact HB.out | apply below_alloc | apply pw_below_drewN | apply below_drew1 | refine below_set ?_ GE141.out | refine below_set ?_ GE143.out | refine below_set ?_ GE154.out) | exact HB.out)⟩}}
 {
 replace c11 := Bool.eq_false_iff.mpr c11
 subst c11
 have H1 : (some (([] : List (S63)), ([] : List (S63)), ([] : List (S73)), false)) = some (r1, r2, r3, r4) := by rw [if_neg (show ¬ (false = true) by decide)] at H; exact H
 clear H
 have H := H1
 clear H1
 simp only [Option.some.injEq, Prod.mk.injEq] at H
 obtain ⟨rfl, rfl, rfl, rfl⟩ := H
 go_enter Try.func16, Try.ntmps16
 try go_wp2_with (first | ((with_reducible refine gate_dst (N := 3) rfl ?_); (try (refine gate_guard (by rfl) ?_; dsimp only)); refine bx_ 3 #[.slice A0_0 l0_0.length c0_0, .slice A0_1 l0_1.length c0_1, .slice A0_2 l0_2.length c0_2] 27 ?_; intro gb138 hg w146 hbox hb; have GW138 := b6_ hg HB; have GE138 := b6_ hg HB; replace HB := Aside0.mk (below_step (y1_ HB.out) hb); have BK138 := Aside0.mk (hbox); clear hb hbox hg) | ((with_reducible refine gate_dst (N := 4) rfl ?_); (try (refine gate_guard (by rfl) ?_; dsimp only)); refine bx_ 4 #[.int .i64 a1] 2 ?_; intro gb139 hg w147 hbox hb; have GW139 := b6_ hg HB; have GE139 := b6_ hg HB; have NB138_139 := b4_ hg BK138; have NB139_138 := b5_ hg BK138; replace BK138 := b3_ BK138 hb; replace HB := Aside0.mk (below_step (y1_ HB.out) hb); have BK139 := Aside0.mk (hbox); clear hb hbox hg) | ((with_reducible refine gate_dst (N := 5) rfl ?_); (try (refine gate_guard (by rfl) ?_; dsimp only)); refine bx_ 5 #[.int .i64 a2] 2 ?_; intro gb140 hg w148 hbox hb; have GW140 := b6_ hg HB; have GE140 := b6_ hg HB; have NB138_140 := b4_ hg BK138; have NB140_138 := b5_ hg BK138; have NB139_140 := b4_ hg BK139; have NB140_139 := b5_ hg BK139; replace BK138 := b3_ BK138 hb; replace BK139 := b3_ BK139 hb; replace HB := Aside0.mk (below_step (y1_ HB.out) hb); have BK140 := Aside0.mk (hbox); clear hb hbox hg) | ((with_reducible refine gate_dst (N := 6) rfl ?_); (try (refine gate_guard (by rfl) ?_; dsimp only)); refine bx_ 6 #[.slice none 0 0, .slice none 0 0, .slice none 0 0] 27 ?_; intro gb141 hg w149 hbox hb; have GW141 := b6_ hg HB; have GE141 := b6_ hg HB; have NB138_141 := b4_ hg BK138; have NB141_138 := b5_ hg BK138; have NB139_141 := b4_ hg BK139; have NB141_139 := b5_ hg BK139; have NB140_141 := b4_ hg BK140; have NB141_140 := b5_ hg BK140; replace BK138 := b3_ BK138 hb; replace BK139 := b3_ BK139 hb; replace BK140 := b3_ BK140 hb; replace HB := Aside0.mk (below_step (y1_ HB.out) hb); have BK141 := Aside0.mk (hbox); clear hb hbox hg; have hnb150 := NB138_139.out; have hnc150 := NB139_138.out; have hnb151 := NB138_140.out; have hnc151 := NB140_138.out; have hnb152 := NB138_141.out; have hnc152 := NB141_138.out; have hcz153_0 := c1_ BK138 0 (.slice A0_0 l0_0.length c0_0); have hcz153_1 := c1_ BK138 1 (.slice A0_1 l0_1.length c0_1); have hcz153_2 := c1_ BK138 2 (.slice A0_2 l0_2.length c0_2); have hfz153_0 := f1_ BK138 0; have hfz153_1 := f1_ BK138 1; have hfz153_2 := f1_ BK138 2))
 go_at_call 42
 go_in
 try go_wp2_with (first | ((with_reducible refine gate_dst (N := 2) rfl ?_); (try (refine gate_guard (by rfl) ?_; dsimp only)); refine bx_ 2 #[.slice A0_0 l0_0.length c0_0, .slice A0_1 l0_1.length c0_1, .slice A0_2 l0_2.length c0_2] 27 ?_; intro gb142 hg w154 hbox hb; have GW142 := b6_ hg HB; have GE142 := b6_ hg HB; have NB139_142 := b4_ hg BK139; have NB142_139 := b5_ hg BK139; have NB140_142 := b4_ hg BK140; have NB142_140 := b5_ hg BK140; have NB141_142 := b4_ hg BK141; have NB142_141 := b5_ hg BK141; replace BK139 := b3_ BK139 hb; replace BK140 := b3_ BK140 hb; replace BK141 := b3_ BK141 hb; replace HB := Aside0.mk (below_step (y1_ HB.out) hb); have BK142 := Aside0.mk (hbox); clear hb hbox hg) | ((with_reducible refine gate_dst (N := 4) rfl ?_); (try (refine gate_guard (by rfl) ?_; dsimp only)); refine bx_ 4 #[.slice none 0 0, .slice none 0 0, .slice none 0 0] 27 ?_; intro gb143 hg w155 hbox hb; have GW143 := b6_ hg HB; have GE143 := b6_ hg HB; have NB139_143 := b4_ hg BK139; have NB143_139 := b5_ hg BK139; have NB140_143 := b4_ hg BK140; have NB143_140 := b5_ hg BK140; have NB141_143 := b4_ hg BK141; have NB143_141 := b5_ hg BK141; have NB142_143 := b4_ hg BK142; have NB143_142 := b5_ hg BK142; replace BK139 := b3_ BK139 hb; replace BK140 := b3_ BK140 hb; replace BK141 := b3_ BK141 hb; replace BK142 := b3_ BK142 hb; replace HB := Aside0.mk (below_step (y1_ HB.out) hb); have BK143 := Aside0.mk (hbox); clear hb hbox hg; have hnb156 := NB142_139.out; have hnc156 := NB139_142.out; have hnb157 := NB142_140.out; have hnc157 := NB140_142.out; have hnb158 := NB142_141.out; have hnc158 := NB141_142.out; have hnb159 := NB142_143.out; have hnc159 := NB143_142.out; have hcz160_0 := c1_ BK142 0 (.slice A0_0 l0_0.length c0_0); have hcz160_1 := c1_ BK142 1 (.slice A0_1 l0_1.length c0_1); have hcz160_2 := c1_ BK142 2 (.slice A0_2 l0_2.length c0_2); have hfz160_0 := f1_ BK142 0; have hfz160_1 := f1_ BK142 1; have hfz160_2 := f1_ BK142 2) | ((with_reducible refine gate_callee (f := 19) rfl ?_); refine goesL_ (some 8) rfl rfl Try.func19 s2_ rfl #[.agg #[.slice A0_0 l0_0.length c0_0, .slice A0_1 l0_1.length c0_1, .slice A0_2 l0_2.length c0_2]] rfl s3_ ?_; (with_reducible refine (impl_ValidPresence.calls k _ _ l0_0 _ _ l0_1 _ _ l0_2 true _ ?side1 ?side2 ?side3 ?side4 ?side5 ?side6 A4.out).mono ?_); (case side1 => exact y2_ (Kd.C_below HR0_0.out HB.out)); (case side2 => exact HC0_0.out); (case side3 => exact y2_ (Kd.C_below HR0_1.out HB.out)); (case side4 => exact HC0_1.out); (case side5 => exact y2_ (Kd.C_below HR0_2.out HB.out)); (case side6 => exact HC0_2.out); rintro e w161 ⟨rfl, hb⟩; refine ⟨_, rfl, ?_⟩; replace BK139 := b3_ BK139 hb; replace BK140 := b3_ BK140 hb; replace BK141 := b3_ BK141 hb; replace BK142 := b3_ BK142 hb; replace BK143 := b3_ BK143 hb; replace HB := Aside0.mk (below_step (y1_ HB.out) hb); (try clear hb); (try clear hb2); (try clear hk); (try clear hi); have hcz162_0 := c1_ BK142 0 (.slice A0_0 l0_0.length c0_0); have hcz162_1 := c1_ BK142 1 (.slice A0_1 l0_1.length c0_1); have hcz162_2 := c1_ BK142 2 (.slice A0_2 l0_2.length c0_2); have hfz162_0 := f1_ BK142 0; have hfz162_1 := f1_ BK142 1; have hfz162_2 := f1_ BK142 2) | ((with_reducible refine gate_callee (f := 90) rfl ?_); refine goesL_ (some 12) rfl rfl Try.func90 s2_ rfl #[.agg #[.slice A0_0 l0_0.length c0_0, .slice A0_1 l0_1.length c0_1, .slice A0_2 l0_2.length c0_2]] rfl s3_ ?_; (with_reducible refine (impl_clonePresence.calls _ _ l0_0 _ _ l0_1 _ _ l0_2 t145 t148 t151 _ ?side1 ?side2 ?side3 ?side4 ?side5 ?side6 A6.out).mono ?_); (case side1 => exact y2_ (Kd.C_below HR0_0.out HB.out)); (case side2 => exact HC0_0.out); (case side3 => exact y2_ (Kd.C_below HR0_1.out HB.out)); (case side4 => exact HC0_1.out); (case side5 => exact y2_ (Kd.C_below HR0_2.out HB.out)); (case side6 => exact HC0_2.out); rintro e w163 ⟨v146, v149, v152, rfl, ho0, ho1, ho2, hb⟩; refine ⟨_, rfl, ?_⟩; have HO147 := Aside0.mk (Kd.R_lower ho0 (below_size (y1_ HB.out))); have HO150 := Aside0.mk (Kd.R_lower ho1 (below_size (y1_ HB.out))); have HO153 := Aside0.mk (Kd.R_lower ho2 (below_size (y1_ HB.out))); replace BK139 := b3_ BK139 hb; replace BK140 := b3_ BK140 hb; replace BK141 := b3_ BK141 hb; replace BK143 := b3_ BK143 hb; replace HB := Aside0.mk (below_step (y1_ HB.out) hb); (try clear hb); (try clear hb2); (try clear hk); (try clear hi); (try clear ho0); (try clear ho1); (try clear ho2)) | ((with_reducible refine gate_dst (N := 6) rfl ?_); (try (refine gate_guard (by rfl) ?_; dsimp only)); refine bx_ 6 #[.slice none 0 0, .slice none 0 0, .slice none 0 0] 27 ?_; intro gb154 hg w164 hbox hb; have GW154 := b6_ hg HB; have GE154 := b6_ hg HB; have NB139_154 := b4_ hg BK139; have NB154_139 := b5_ hg BK139; have NB140_154 := b4_ hg BK140; have NB154_140 := b5_ hg BK140; have NB141_154 := b4_ hg BK141; have NB154_141 := b5_ hg BK141; have NB143_154 := b4_ hg BK143; have NB154_143 := b5_ hg BK143; replace HO147 := r1_ HO147 hb; replace HO150 := r1_ HO150 hb; replace HO153 := r1_ HO153 hb; replace BK139 := b3_ BK139 hb; replace BK140 := b3_ BK140 hb; replace BK141 := b3_ BK141 hb; replace BK143 := b3_ BK143 hb; replace HB := Aside0.mk (below_step (y1_ HB.out) hb); have BK154 := Aside0.mk (hbox); clear hb hbox hg; obtain ⟨Ao165, co165, eo165⟩ := Kd.R_slice HO147.out; subst eo165; have hnb166 := NB154_139.out; have hnc166 := NB139_154.out; have hnb167 := NB154_140.out; have hnc167 := NB140_154.out; have hnb168 := NB154_141.out; have hnc168 := NB141_154.out; have hnb169 := NB154_143.out; have hnc169 := NB143_154.out; have hcz170_0 := c1_ BK154 0 (.slice none 0 0); have hcz170_1 := c1_ BK154 1 (.slice none 0 0); have hcz170_2 := c1_ BK154 2 (.slice none 0 0); have hfz170_0 := f1_ BK154 0; have hfz170_1 := f1_ BK154 1; have hfz170_2 := f1_ BK154 2; obtain ⟨Ao171, co171, eo171⟩ := Kd.R_slice HO150.out; subst eo171; obtain ⟨Ao172, co172, eo172⟩ := Kd.R_slice HO153.out; subst eo172))
 go_at_call 48
 go_in
 try go_wp2_with (fail)
 have n0_ : Aside0 (Kd.R k63 63 (((w164.setCell ⟨gb154, 0, none⟩ (.slice Ao165 t145.length co165)).setCell ⟨gb154, 1, none⟩ (.slice Ao171 t148.length co171)).setCell ⟨gb154, 2, none⟩ (.slice Ao172 t151.length co172)) w.heap.size (fun k_ => some k_ ≠ (.slice Ao171 t148.length co171 : Value).ownBlock) (.slice Ao165 t145.length co165) t145) := ⟨by (with_reducible repeat (first | apply Kd.R_alloc | apply Kd.R_drewN | apply Kd.R_drew)); exact Kd.R_mono (Kd.R_far3 (g := gb154) (Kd.R_types HO147.out BK154.out (by decide)) (fun _ hk => hk.2)) (fun _ hk => hk.1)⟩
 have n1_ : Aside0 (Kd.R k63 63 (((w164.setCell ⟨gb154, 0, none⟩ (.slice Ao165 t145.length co165)).setCell ⟨gb154, 1, none⟩ (.slice Ao171 t148.length co171)).setCell ⟨gb154, 2, none⟩ (.slice Ao172 t151.length co172)) w.heap.size (fun k_ => some k_ ≠ (.slice Ao165 t145.length co165 : Value).ownBlock) (.slice Ao171 t148.length co171) t148) := ⟨by (with_reducible repeat (first | apply Kd.R_alloc | apply Kd.R_drewN | apply Kd.R_drew)); exact Kd.R_mono (Kd.R_far3 (g := gb154) (Kd.R_types HO150.out BK154.out (by decide)) (fun _ hk => hk.2)) (fun _ hk => hk.1)⟩
 have n2_ : Aside0 (Kd.R k73 73 (((w164.setCell ⟨gb154, 0, none⟩ (.slice Ao165 t145.length co165)).setCell ⟨gb154, 1, none⟩ (.slice Ao171 t148.length co171)).setCell ⟨gb154, 2, none⟩ (.slice Ao172 t151.length co172)) w.heap.size (fun _ => True) (.slice Ao172 t151.length co172) t151) := ⟨by (with_reducible repeat (first | apply Kd.R_alloc | apply Kd.R_drewN | apply Kd.R_drew)); exact Kd.R_mono (Kd.R_far3 (g := gb154) (Kd.R_types HO153.out BK154.out (by decide)) (fun _ hk => hk.2)) (fun _ hk => trivial)⟩
 have n3_ : Aside0 ((((w164.setCell ⟨gb154, 0, none⟩ (.slice Ao165 t145.length co165)).setCell ⟨gb154, 1, none⟩ (.slice Ao171 t148.length co171)).setCell ⟨gb154, 2, none⟩ (.slice Ao172 t151.length co172)).heap[gb139]? = some (.cells #[.int .i64 a1] 2 (0, 0))) := ⟨by (with_reducible repeat (first | refine blk_drewN ?_ _ | refine blk_drew ?_ | refine blk_alloc ?_ _)); refine blk_far3 ?_ NB139_154.out; (with_reducible repeat (first | refine blk_drewN ?_ _ | refine blk_drew ?_ | refine blk_alloc ?_ _)); exact BK139.out⟩
 have n4_ : Aside0 ((((w164.setCell ⟨gb154, 0, none⟩ (.slice Ao165 t145.length co165)).setCell ⟨gb154, 1, none⟩ (.slice Ao171 t148.length co171)).setCell ⟨gb154, 2, none⟩ (.slice Ao172 t151.length co172)).heap[gb140]? = some (.cells #[.int .i64 a2] 2 (0, 0))) := ⟨by (with_reducible repeat (first | refine blk_drewN ?_ _ | refine blk_drew ?_ | refine blk_alloc ?_ _)); refine blk_far3 ?_ NB140_154.out; (with_reducible repeat (first | refine blk_drewN ?_ _ | refine blk_drew ?_ | refine blk_alloc ?_ _)); exact BK140.out⟩
 have n5_ : Aside0 ((((w164.setCell ⟨gb154, 0, none⟩ (.slice Ao165 t145.length co165)).setCell ⟨gb154, 1, none⟩ (.slice Ao171 t148.length co171)).setCell ⟨gb154, 2, none⟩ (.slice Ao172 t151.length co172)).heap[gb141]? = some (.cells #[.slice none 0 0, .slice none 0 0, .slice none 0 0] 27 (0, 0))) := ⟨by (with_reducible repeat (first | refine blk_drewN ?_ _ | refine blk_drew ?_ | refine blk_alloc ?_ _)); refine blk_far3 ?_ NB141_154.out; (with_reducible repeat (first | refine blk_drewN ?_ _ | refine blk_drew ?_ | refine blk_alloc ?_ _)); exact BK141.out⟩
 have n6_ : Aside0 ((((w164.setCell ⟨gb154, 0, none⟩ (.slice Ao165 t145.length co165)).setCell ⟨gb154, 1, none⟩ (.slice Ao171 t148.length co171)).setCell ⟨gb154, 2, none⟩ (.slice Ao172 t151.length co172)).heap[gb143]? = some (.cells #[.slice none 0 0, .slice none 0 0, .slice none 0 0] 27 (0, 0))) := ⟨by (with_reducible repeat (first | refine blk_drewN ?_ _ | refine blk_drew ?_ | refine blk_alloc ?_ _)); refine blk_far3 ?_ NB143_154.out; (with_reducible repeat (first | refine blk_drewN ?_ _ | refine blk_drew ?_ | refine blk_alloc ?_ _)); exact BK143.out⟩
 have n7_ : Aside0 ((((w164.setCell ⟨gb154, 0, none⟩ (.slice Ao165 t145.length co165)).setCell ⟨gb154, 1, none⟩ (.slice Ao171 t148.length co171)).setCell ⟨gb154, 2, none⟩ (.slice Ao172 t151.length co172)).heap[gb154]? = some (.cells #[.slice Ao165 t145.length co165, .slice Ao171 t148.length co171, .slice Ao172 t151.length co172] 27 (0, 0))) := ⟨by (with_reducible repeat (first | refine blk_drewN ?_ _ | refine blk_drew ?_ | refine blk_alloc ?_ _)); refine blk_put3 (cs := #[.slice none 0 0, .slice none 0 0, .slice none 0 0]) ?_ rfl; (with_reducible repeat (first | refine blk_drewN ?_ _ | refine blk_drew ?_ | refine blk_alloc ?_ _)); exact BK154.out⟩
 have n8_ : Aside0 (Below w.heap.size w (((w164.setCell ⟨gb154, 0, none⟩ (.slice Ao165 t145.length co165)).setCell ⟨gb154, 1, none⟩ (.slice Ao171 t148.length co171)).setCell ⟨gb154, 2, none⟩ (.slice Ao172 t151.length co172))) := ⟨by repeat (first | (with_reducible first | exact HB.out | apply below_alloc | apply pw_below_drewN | apply below_drew1 | refine below_set ?_ GE154.out) | exact HB.out)⟩
 (try clear HO147)
 (try clear HO150)
 (try clear HO153)
 (try clear BK139)
 (try clear BK140)
 (try clear BK141)
 (try clear BK143)
 (try clear BK154)
 (try clear HB)
 generalize (((w164.setCell ⟨gb154, 0, none⟩ (.slice Ao165 t145.length co165)).setCell ⟨gb154, 1, none⟩ (.slice Ao171 t148.length co171)).setCell ⟨gb154, 2, none⟩ (.slice Ao172 t151.length co172)) = w173 at n0_ n1_ n2_ n3_ n4_ n5_ n6_ n7_ n8_ ⊢
 have HO147 := n0_
 have HO150 := n1_
 have HO153 := n2_
 have BK139 := n3_
 have BK140 := n4_
 have BK141 := n5_
 have BK143 := n6_
 have BK154 := n7_
 have HB := n8_
 clear n0_ n1_ n2_ n3_ n4_ n5_ n6_ n7_ n8_
 replace HO147 := Aside0.mk (Kd.R_drew HO147.out)
 replace HO150 := Aside0.mk (Kd.R_drew HO150.out)
 replace HO153 := Aside0.mk (Kd.R_drew HO153.out)
 replace BK139 := Aside0.mk (blk_drew BK139.out)
 replace BK140 := Aside0.mk (blk_drew BK140.out)
 replace BK141 := Aside0.mk (blk_drew BK141.out)
 replace BK143 := Aside0.mk (blk_drew BK143.out)
 replace BK154 := Aside0.mk (blk_drew BK154.out)
 replace HB := Aside0.mk (below_drew1 HB.out)
 refine start_ (n := 9) (S := fun w' => w'.cell? ⟨gb154, 0, none⟩ = some (.slice Ao165 t145.length co165) ∧ w'.cell? ⟨gb154, 1, none⟩ = some (.slice Ao171 t148.length co171) ∧ w'.cell? ⟨gb154, 2, none⟩ = some (.slice Ao172 t151.length co172) ∧ w'.cell? ⟨gb139, 0, none⟩ = some (.int .i64 a1) ∧ w'.cell? ⟨gb140, 0, none⟩ = some (.int .i64 a2)) (ds := []) m0_ s2_ rfl rfl ⟨(blk_cell BK154.out 0).trans rfl, (blk_cell BK154.out 1).trans rfl, (blk_cell BK154.out 2).trans rfl, (blk_cell BK139.out 0).trans rfl, (blk_cell BK140.out 0).trans rfl⟩ (fun hHeld => ?_)
 generalize w173.drew = w174 at HO147 HO150 HO153 BK139 BK140 BK141 BK143 BK154 HB HO147 HO150 HO153 hHeld ⊢
 refine pure_ (i := 0) (N := some 6) (v := ?_) (a' := ?_) m1_ rfl rfl s2_ (fun _ _ _ h => h) (Or.inl ⟨by rfl, ?_⟩) ?_ ?_
 rotate_left
 {
 intro w'
 go_simp
 with_reducible rfl}
 rotate_left
 · exact p1_
 refine pure_ (i := 1) (N := some 7) (v := ?_) (a' := ?_) m2_ rfl rfl s2_ (fun _ _ _ h => h) (Or.inl ⟨by rfl, ?_⟩) ?_ ?_
 rotate_left
 {
 intro w'
 go_simp
 with_reducible rfl}
 rotate_left
 · exact p1_
 refine pure_ (i := 2) (N := some 8) (v := ?_) (a' := ?_) m3_ rfl rfl s2_ (fun _ _ _ h => h) (Or.inl ⟨by rfl, ?_⟩) ?_ ?_
 rotate_left
 {
 intro w'
 go_simp
 with_reducible rfl}
 rotate_left
 · exact p1_
 refine take_ (i := 3) (N := some 9) (v := ?_) (a' := ?_) m4_ rfl rfl s2_ (fun _ _ _ h => h) (Or.inl ⟨by rfl, ?_⟩) hHeld ?_ ?_
 rotate_left
 {
 rintro w' ⟨s0, s1, s2, s3, s4⟩
 go_simp
 with_reducible rfl}
 rotate_left
 · exact p1_
 refine take_ (i := 4) (N := some 10) (v := ?_) (a' := ?_) m5_ rfl rfl s2_ (fun _ _ _ h => h) (Or.inl ⟨by rfl, ?_⟩) hHeld ?_ ?_
 rotate_left
 {
 rintro w' ⟨s0, s1, s2, s3, s4⟩
 go_simp
 with_reducible rfl}
 rotate_left
 · exact p1_
 refine take_ (i := 6) (N := some 12) (v := ?_) (a' := ?_) m6_ rfl rfl s2_ (fun _ _ _ h => h) (Or.inl ⟨by rfl, ?_⟩) hHeld ?_ ?_
 rotate_left
 {
 rintro w' ⟨s0, s1, s2, s3, s4⟩
 go_simp
 with_reducible rfl}
 rotate_left
 · exact p1_
 refine one_ (i := 5) (N := some 11) m7_ rfl rfl s2_ (by decide) (fun K hK => ?_)
 refine goes_ Try.func49 s2_ rfl #[.slice Ao165 t145.length co165, .int .i64 a1] (by rfl) rfl rfl s3_ ?_
 with_reducible refine (impl_until_n49.calls k _ _ t145 a1 t155 _ ?side1 ?side2 A7.out).mono ?_
 (case side1 => exact y2_ (Kd.R_reads' HO147.out).2.2)
 (case side2 => exact (Kd.R_reads' HO147.out).2.1)
 rintro e w175 ⟨rfl, hb⟩
 refine ⟨_, rfl, ?_⟩
 replace HO147 := r1_ HO147 hb
 replace HO150 := r1_ HO150 hb
 replace HO153 := r1_ HO153 hb
 replace BK139 := b3_ BK139 hb
 replace BK140 := b3_ BK140 hb
 replace BK141 := b3_ BK141 hb
 replace BK143 := b3_ BK143 hb
 replace BK154 := b3_ BK154 hb
 replace HB := Aside0.mk (below_step (y1_ HB.out) hb)
 (try clear hb)
 (try clear hb2)
 (try clear hk)
 (try clear hi)
 refine hK.out _ _ ⟨(blk_cell BK154.out 0).trans rfl, (blk_cell BK154.out 1).trans rfl, (blk_cell BK154.out 2).trans rfl, (blk_cell BK139.out 0).trans rfl, (blk_cell BK140.out 0).trans rfl⟩ (fun hHeld => ?_)
 clear hK K
 refine norm_ (a' := ?_) ?_ ?_
 rotate_left
 {
 show Act.put _ (some 11) _ = _
 simp only [Act.put, List.setIfInBounds_toArray, List.set_cons_zero, List.set_cons_succ, i64_w, i32_w]
 rfl}
 refine pure_ (i := 7) (N := some 13) (v := ?_) (a' := ?_) m8_ rfl rfl s2_ (fun _ _ _ h => h) (Or.inl ⟨by rfl, ?_⟩) ?_ ?_
 rotate_left
 {
 intro w'
 go_simp
 with_reducible rfl}
 rotate_left
 · exact p1_
 refine pure_ (i := 8) (N := some 5) (v := ?_) (a' := ?_) m9_ rfl rfl s2_ (fun _ _ _ h => h) (Or.inl ⟨by rfl, ?_⟩) ?_ ?_
 rotate_left
 {
 intro w'
 go_simp
 with_reducible rfl}
 rotate_left
 · exact p1_
 refine done_ s2_ ?_
 try go_wp2_with (fail)
 replace HO147 := Aside0.mk (Kd.R_drew HO147.out)
 replace HO150 := Aside0.mk (Kd.R_drew HO150.out)
 replace HO153 := Aside0.mk (Kd.R_drew HO153.out)
 replace BK139 := Aside0.mk (blk_drew BK139.out)
 replace BK140 := Aside0.mk (blk_drew BK140.out)
 replace BK141 := Aside0.mk (blk_drew BK141.out)
 replace BK143 := Aside0.mk (blk_drew BK143.out)
 replace BK154 := Aside0.mk (blk_drew BK154.out)
 replace HB := Aside0.mk (below_drew1 HB.out)
 refine start_ (n := 13) (S := fun w' => w'.cell? ⟨gb154, 0, none⟩ = some (.slice Ao165 t145.length co165) ∧ w'.cell? ⟨gb154, 1, none⟩ = some (.slice Ao171 t148.length co171) ∧ w'.cell? ⟨gb154, 2, none⟩ = some (.slice Ao172 t151.length co172) ∧ w'.cell? ⟨gb139, 0, none⟩ = some (.int .i64 a1) ∧ w'.cell? ⟨gb140, 0, none⟩ = some (.int .i64 a2)) (ds := [12]) m10_ s2_ rfl rfl ⟨(blk_cell BK154.out 0).trans rfl, (blk_cell BK154.out 1).trans rfl, (blk_cell BK154.out 2).trans rfl, (blk_cell BK139.out 0).trans rfl, (blk_cell BK140.out 0).trans rfl⟩ (fun hHeld => ?_)
 generalize w175.drew = w176 at HO147 HO150 HO153 BK139 BK140 BK141 BK143 BK154 HB hHeld ⊢
 refine pure_ (i := 0) (N := some 14) (v := ?_) (a' := ?_) m11_ rfl rfl s2_ (fun _ _ _ h => h) (Or.inl ⟨by rfl, ?_⟩) ?_ ?_
 rotate_left
 {
 intro w'
 go_simp
 with_reducible rfl}
 rotate_left
 · exact p1_
 refine pure_ (i := 1) (N := some 15) (v := ?_) (a' := ?_) m12_ rfl rfl s2_ (fun _ _ _ h => h) (Or.inl ⟨by rfl, ?_⟩) ?_ ?_
 rotate_left
 {
 intro w'
 go_simp
 with_reducible rfl}
 rotate_left
 · exact p1_
 refine pure_ (i := 2) (N := some 16) (v := ?_) (a' := ?_) m13_ rfl rfl s2_ (fun _ _ _ h => h) (Or.inl ⟨by rfl, ?_⟩) ?_ ?_
 rotate_left
 {
 intro w'
 go_simp
 with_reducible rfl}
 rotate_left
 · exact p1_
 refine pure_ (i := 3) (N := some 17) (v := ?_) (a' := ?_) m14_ rfl rfl s2_ (fun _ _ _ h => h) (Or.inl ⟨by rfl, ?_⟩) ?_ ?_
 rotate_left
 {
 intro w'
 go_simp
 with_reducible rfl}
 rotate_left
 · exact p1_
 refine take_ (i := 4) (N := some 18) (v := ?_) (a' := ?_) m15_ rfl rfl s2_ (fun _ _ _ h => h) (Or.inl ⟨by rfl, ?_⟩) hHeld ?_ ?_
 rotate_left
 {
 rintro w' ⟨s0, s1, s2, s3, s4⟩
 go_simp
 with_reducible rfl}
 rotate_left
 · exact p1_
 refine take_ (i := 5) (N := some 19) (v := ?_) (a' := ?_) m16_ rfl rfl s2_ (fun _ _ _ h => h) (Or.inl ⟨by rfl, ?_⟩) hHeld ?_ ?_
 rotate_left
 {
 rintro w' ⟨s0, s1, s2, s3, s4⟩
 go_simp
 with_reducible rfl}
 rotate_left
 · exact p1_
 refine take_ (i := 6) (N := some 20) (v := ?_) (a' := ?_) m17_ rfl rfl s2_ (fun _ _ _ h => h) (Or.inl ⟨by rfl, ?_⟩) hHeld ?_ ?_
 rotate_left
 {
 rintro w' ⟨s0, s1, s2, s3, s4⟩
 go_simp
 with_reducible rfl}
 rotate_left
 · exact p1_
 refine pure_ (i := 7) (N := some 21) (v := ?_) (a' := ?_) m18_ rfl rfl s2_ (fun _ _ _ h => h) (Or.inl ⟨by rfl, ?_⟩) ?_ ?_
 rotate_left
 {
 intro w'
 go_simp
 with_reducible rfl}
 rotate_left
 · exact p1_
 refine pure_ (i := 8) (N := some 22) (v := ?_) (a' := ?_) m19_ rfl rfl s2_ (fun _ _ _ h => h) (Or.inl ⟨by rfl, ?_⟩) ?_ ?_
 rotate_left
 {
 intro w'
 go_simp
 with_reducible rfl}
 rotate_left
 · exact p1_
 refine one_ (i := 9) (N := some 23) m20_ rfl rfl s2_ (by decide) (fun K hK => ?_)
 refine goes_ Try.func44 s2_ rfl #[.slice Ao171 t148.length co171, .agg #[.int .i64 a1, .int .i64 (wrap64 (a2 + 6))]] (by rfl) rfl rfl s3_ ?_
 with_reducible refine (impl_leased_n44.calls k (fun k_ => some k_ = (.slice Ao171 t148.length co171 : Value).ownBlock) (.slice Ao171 t148.length co171) t148 a1 (wrap64 (a2 + 6)) t156 w _ ?side1 ?side2 A8.out).mono ?_
 (case side1 => repeat (first | (with_reducible first | exact HB.out | apply below_alloc | apply pw_below_drewN | apply below_drew1) | exact HB.out))
 (case side2 => exact Kd.R_tight rfl HO150.out)
 rintro e w177 ⟨v157, rfl, ho0, hb, hkp⟩
 refine ⟨_, rfl, ?_⟩
 have n0_ := Aside0.mk (blk_kept (b1_ BK139.out) hkp (fun hs_ => (fun e_ => (Kd.R_ne HO150.out BK139.out (by decide)) e_) hs_))
 have n1_ := Aside0.mk (blk_kept (b1_ BK140.out) hkp (fun hs_ => (fun e_ => (Kd.R_ne HO150.out BK140.out (by decide)) e_) hs_))
 have n2_ := Aside0.mk (blk_kept (b1_ BK141.out) hkp (fun hs_ => (fun e_ => (Kd.R_ne HO150.out BK141.out (by decide)) e_) hs_))
 have n3_ := Aside0.mk (blk_kept (b1_ BK143.out) hkp (fun hs_ => (fun e_ => (Kd.R_ne HO150.out BK143.out (by decide)) e_) hs_))
 have n4_ := Aside0.mk (Kd.R_mono (ok' := fun k_ => some k_ ≠ (v157 : Value).ownBlock) (Kd.R_keptB (HO147.out) hkp (fun k_ hk_ hs_ => (hk_) hs_)) (fun k_ hk_ => fun e_ => Or.elim (ho0.1 k_ e_.symm) (fun hs_ => hk_.2.1 hs_) (fun hn_ => Nat.not_le.2 hk_.2.2 hn_)))
 have n5_ := Aside0.mk (Kd.R_mono (ok' := fun k_ => True) (Kd.R_keptB ((Kd.R_apart' HO153.out (Kd.R_typed HO150.out) (by decide))) hkp (fun k_ hk_ hs_ => (hk_.2) hs_)) (fun k_ hk_ => trivial))
 have n6_ := Aside0.mk (blk_kept (b1_ BK154.out) hkp (fun hs_ => (fun e_ => (Kd.R_ne HO150.out BK154.out (by decide)) e_) hs_))
 have n7_ := Aside0.mk (Kd.R_mono (ok' := fun k_ => some k_ ≠ (.slice Ao165 t145.length co165 : Value).ownBlock) ho0 (fun k_ hk_ => Or.elim hk_ (fun hs_ => fun e_ => (((HO147.out).1 k_ e_.symm)) hs_) (fun hn_ => (Kd.fresh' (Kd.R_lt (b2_ HO147.out)) k_ hn_))))
 have n8_ := Aside0.mk (hb)
 clear BK139
 clear BK140
 clear BK141
 clear BK143
 clear HO147
 clear HO153
 clear BK154
 clear HB
 clear HO150
 have BK139 := n0_
 have BK140 := n1_
 have BK141 := n2_
 have BK143 := n3_
 have HO147 := n4_
 have HO153 := n5_
 have BK154 := n6_
 have HO158 := n7_
 have HB := n8_
 clear n0_ n1_ n2_ n3_ n4_ n5_ n6_ n7_ n8_
 (try clear hb)
 (try clear hkp)
 (try clear ho0)
 obtain ⟨Ao178, co178, eo178⟩ := Kd.R_slice HO158.out
 (first | subst eo178 | (injection eo178 with f1_ f2_ f3_; have f4_ := f1_.symm; have f5_ := f3_.symm; clear f1_ f2_ f3_; subst f4_; subst f5_))
 refine hK.out _ _ ⟨(blk_cell BK154.out 0).trans rfl, (blk_cell BK154.out 1).trans rfl, (blk_cell BK154.out 2).trans rfl, (blk_cell BK139.out 0).trans rfl, (blk_cell BK140.out 0).trans rfl⟩ (fun hHeld => ?_)
 clear hK K
 refine norm_ (a' := ?_) ?_ ?_
 rotate_left
 {
 show Act.put _ (some 23) _ = _
 simp only [Act.put, List.setIfInBounds_toArray, List.set_cons_zero, List.set_cons_succ, i64_w, i32_w]
 rfl}
 refine pure_ (i := 10) (N := some 24) (v := ?_) (a' := ?_) m21_ rfl rfl s2_ (fun _ _ _ h => h) (Or.inl ⟨by rfl, ?_⟩) ?_ ?_
 rotate_left
 {
 intro w'
 go_simp
 with_reducible rfl}
 rotate_left
 · exact p1_
 refine pure_ (i := 11) (N := some 25) (v := ?_) (a' := ?_) m22_ rfl rfl s2_ (fun _ _ _ h => h) (Or.inl ⟨by rfl, ?_⟩) ?_ ?_
 rotate_left
 {
 intro w'
 go_simp
 with_reducible rfl}
 rotate_left
 · exact p1_
 refine last_ (i := 12) (N := none) m23_ rfl rfl s2_ (by decide) (fun K hK => ?_)
 have hs179 : w177.cell? ⟨gb154, 1, none⟩ = some (.slice Ao171 t148.length co171) := (blk_cell BK154.out 1).trans rfl
 have hfs179 := blk_frozen BK154.out 1
 have hns179_0 := NB139_154.out
 have hns179_1 := NB140_154.out
 have hns179_2 := NB141_154.out
 have hns179_3 := NB143_154.out
 have hms179_0 := NB154_139.out
 have hms179_1 := NB154_140.out
 have hms179_2 := NB154_141.out
 have hms179_3 := NB154_143.out
 refine skip_ (w1 := ?_) (by rfl) rfl ?_ ?_
 rotate_left
 {
 go_simp
 rfl}
 refine hK.out _ _ ?_
 clear hK K
 refine done_ s2_ ?_
 have hnb180 := NB140_139.out
 have hnc180 := NB139_140.out
 have hnb181 := NB140_141.out
 have hnc181 := NB141_140.out
 have hnb182 := NB140_143.out
 have hnc182 := NB143_140.out
 have hcz183_0 := c1_ BK140 0 (.int .i64 a2)
 have hfz183_0 := f1_ BK140 0
 try go_wp2_with (first | (go_at_call 45; (with_reducible refine (impl_isTick.calls a2 false _ A10.out).mono ?_); rintro e w' ⟨rfl, ⟨nd, rfl⟩⟩; have hnb184 := NB143_139.out; have hnc184 := NB139_143.out; have hnb185 := NB143_141.out; have hnc185 := NB141_143.out; have hcz186_0 := c1_ BK143 0 (.slice none 0 0); have hcz186_1 := c1_ BK143 1 (.slice none 0 0); have hcz186_2 := c1_ BK143 2 (.slice none 0 0); have hfz186_0 := f1_ BK143 0; have hfz186_1 := f1_ BK143 1; have hfz186_2 := f1_ BK143 2))
 (try simp only [Exit.inBlock, Exit.then])
 refine bodyPost_ret (results_ct rfl _ _ gb143 27 #[.slice none 0 0, .slice none 0 0, .slice none 0 0] (0, 0) _ rfl (by (with_reducible repeat (first | refine blk_drewN ?_ _ | refine blk_drew ?_ | refine blk_alloc ?_ _)); refine blk_put3 (cs := #[.slice none 0 0, .slice none 0 0, .slice none 0 0]) ?_ rfl; (with_reducible repeat (first | refine blk_drewN ?_ _ | refine blk_drew ?_ | refine blk_alloc ?_ _)); refine blk_far ?_ NB143_154.out _; (with_reducible repeat (first | refine blk_drewN ?_ _ | refine blk_drew ?_ | refine blk_alloc ?_ _)); exact BK143.out) Try.underlying27 rfl s2_) rfl ?_
 (try simp only [])
 have hnb187 := NB141_139.out
 have hnc187 := NB139_141.out
 have hcz188_0 := c1_ BK141 0 (.slice none 0 0)
 have hcz188_1 := c1_ BK141 1 (.slice none 0 0)
 have hcz188_2 := c1_ BK141 2 (.slice none 0 0)
 have hfz188_0 := f1_ BK141 0
 have hfz188_1 := f1_ BK141 1
 have hfz188_2 := f1_ BK141 2
 try go_wp2_with (fail)
 refine bodyPost_ret (results_ct rfl _ _ gb141 27 #[.slice none 0 0, .slice none 0 0, .slice none 0 0] (0, 0) _ rfl (by (with_reducible repeat (first | refine blk_drewN ?_ _ | refine blk_drew ?_ | refine blk_alloc ?_ _)); refine blk_put3 (cs := #[.slice none 0 0, .slice none 0 0, .slice none 0 0]) ?_ rfl; (with_reducible repeat (first | refine blk_drewN ?_ _ | refine blk_drew ?_ | refine blk_alloc ?_ _)); refine blk_far3 ?_ NB141_143.out; (with_reducible repeat (first | refine blk_drewN ?_ _ | refine blk_drew ?_ | refine blk_alloc ?_ _)); refine blk_far ?_ NB141_154.out _; (with_reducible repeat (first | refine blk_drewN ?_ _ | refine blk_drew ?_ | refine blk_alloc ?_ _)); exact BK141.out) Try.underlying27 rfl s2_) rfl ?_
 exact ⟨_, _, _, by first | rfl | (simp [errW_none, errW_some] <;> rfl) | (simp [*, errW_none, errW_some] <;> rfl), by first | exact Kd.R_nil _ _ _ _ _ | exact Kd.N_nil _ _ _ _ _ | exact Kd.V_nil _ _ _ _ _ | exact Kd.Q_nil _ _ _ _ _ | exact Kd.S_nil _ _ _ _ _, by first | exact Kd.R_nil _ _ _ _ _ | exact Kd.N_nil _ _ _ _ _ | exact Kd.V_nil _ _ _ _ _ | exact Kd.Q_nil _ _ _ _ _ | exact Kd.S_nil _ _ _ _ _, by first | exact Kd.R_nil _ _ _ _ _ | exact Kd.N_nil _ _ _ _ _ | exact Kd.V_nil _ _ _ _ _ | exact Kd.Q_nil _ _ _ _ _ | exact Kd.S_nil _ _ _ _ _, by repeat (first | (with_reducible first | exact HB.out | apply below_alloc | apply pw_below_drewN | apply below_drew1 | refine below_set ?_ GE141.out | refine below_set ?_ GE143.out | refine below_set ?_ GE154.out) | exact HB.out)⟩}}
 {
 rw [if_neg c9] at H
 have c9b0 : decide (a2 < t155) = false := decide_eq_false c9
 clear c9
 simp only [Option.some.injEq, Prod.mk.injEq] at H
 obtain ⟨rfl, rfl, rfl, rfl⟩ := H
 go_enter Try.func16, Try.ntmps16
 try go_wp2_with (first | ((with_reducible refine gate_dst (N := 3) rfl ?_); (try (refine gate_guard (by rfl) ?_; dsimp only)); refine bx_ 3 #[.slice A0_0 l0_0.length c0_0, .slice A0_1 l0_1.length c0_1, .slice A0_2 l0_2.length c0_2] 27 ?_; intro gb138 hg w189 hbox hb; have GW138 := b6_ hg HB; have GE138 := b6_ hg HB; replace HB := Aside0.mk (below_step (y1_ HB.out) hb); have BK138 := Aside0.mk (hbox); clear hb hbox hg) | ((with_reducible refine gate_dst (N := 4) rfl ?_); (try (refine gate_guard (by rfl) ?_; dsimp only)); refine bx_ 4 #[.int .i64 a1] 2 ?_; intro gb139 hg w190 hbox hb; have GW139 := b6_ hg HB; have GE139 := b6_ hg HB; have NB138_139 := b4_ hg BK138; have NB139_138 := b5_ hg BK138; replace BK138 := b3_ BK138 hb; replace HB := Aside0.mk (below_step (y1_ HB.out) hb); have BK139 := Aside0.mk (hbox); clear hb hbox hg) | ((with_reducible refine gate_dst (N := 5) rfl ?_); (try (refine gate_guard (by rfl) ?_; dsimp only)); refine bx_ 5 #[.int .i64 a2] 2 ?_; intro gb140 hg w191 hbox hb; have GW140 := b6_ hg HB; have GE140 := b6_ hg HB; have NB138_140 := b4_ hg BK138; have NB140_138 := b5_ hg BK138; have NB139_140 := b4_ hg BK139; have NB140_139 := b5_ hg BK139; replace BK138 := b3_ BK138 hb; replace BK139 := b3_ BK139 hb; replace HB := Aside0.mk (below_step (y1_ HB.out) hb); have BK140 := Aside0.mk (hbox); clear hb hbox hg) | ((with_reducible refine gate_dst (N := 6) rfl ?_); (try (refine gate_guard (by rfl) ?_; dsimp only)); refine bx_ 6 #[.slice none 0 0, .slice none 0 0, .slice none 0 0] 27 ?_; intro gb141 hg w192 hbox hb; have GW141 := b6_ hg HB; have GE141 := b6_ hg HB; have NB138_141 := b4_ hg BK138; have NB141_138 := b5_ hg BK138; have NB139_141 := b4_ hg BK139; have NB141_139 := b5_ hg BK139; have NB140_141 := b4_ hg BK140; have NB141_140 := b5_ hg BK140; replace BK138 := b3_ BK138 hb; replace BK139 := b3_ BK139 hb; replace BK140 := b3_ BK140 hb; replace HB := Aside0.mk (below_step (y1_ HB.out) hb); have BK141 := Aside0.mk (hbox); clear hb hbox hg; have hnb193 := NB138_139.out; have hnc193 := NB139_138.out; have hnb194 := NB138_140.out; have hnc194 := NB140_138.out; have hnb195 := NB138_141.out; have hnc195 := NB141_138.out; have hcz196_0 := c1_ BK138 0 (.slice A0_0 l0_0.length c0_0); have hcz196_1 := c1_ BK138 1 (.slice A0_1 l0_1.length c0_1); have hcz196_2 := c1_ BK138 2 (.slice A0_2 l0_2.length c0_2); have hfz196_0 := f1_ BK138 0; have hfz196_1 := f1_ BK138 1; have hfz196_2 := f1_ BK138 2))
 go_at_call 42
 go_in
 try go_wp2_with (first | ((with_reducible refine gate_dst (N := 2) rfl ?_); (try (refine gate_guard (by rfl) ?_; dsimp only)); refine bx_ 2 #[.slice A0_0 l0_0.length c0_0, .slice A0_1 l0_1.length c0_1, .slice A0_2 l0_2.length c0_2] 27 ?_; intro gb142 hg w197 hbox hb; have GW142 := b6_ hg HB; have GE142 := b6_ hg HB; have NB139_142 := b4_ hg BK139; have NB142_139 := b5_ hg BK139; have NB140_142 := b4_ hg BK140; have NB142_140 := b5_ hg BK140; have NB141_142 := b4_ hg BK141; have NB142_141 := b5_ hg BK141; replace BK139 := b3_ BK139 hb; replace BK140 := b3_ BK140 hb; replace BK141 := b3_ BK141 hb; replace HB := Aside0.mk (below_step (y1_ HB.out) hb); have BK142 := Aside0.mk (hbox); clear hb hbox hg) | ((with_reducible refine gate_dst (N := 4) rfl ?_); (try (refine gate_guard (by rfl) ?_; dsimp only)); refine bx_ 4 #[.slice none 0 0, .slice none 0 0, .slice none 0 0] 27 ?_; intro gb143 hg w198 hbox hb; have GW143 := b6_ hg HB; have GE143 := b6_ hg HB; have NB139_143 := b4_ hg BK139; have NB143_139 := b5_ hg BK139; have NB140_143 := b4_ hg BK140; have NB143_140 := b5_ hg BK140; have NB141_143 := b4_ hg BK141; have NB143_141 := b5_ hg BK141; have NB142_143 := b4_ hg BK142; have NB143_142 := b5_ hg BK142; replace BK139 := b3_ BK139 hb; replace BK140 := b3_ BK140 hb; replace BK141 := b3_ BK141 hb; replace BK142 := b3_ BK142 hb; replace HB := Aside0.mk (below_step (y1_ HB.out) hb); have BK143 := Aside0.mk (hbox); clear hb hbox hg; have hnb199 := NB142_139.out; have hnc199 := NB139_142.out; have hnb200 := NB142_140.out; have hnc200 := NB140_142.out; have hnb201 := NB142_141.out; have hnc201 := NB141_142.out; have hnb202 := NB142_143.out; have hnc202 := NB143_142.out; have hcz203_0 := c1_ BK142 0 (.slice A0_0 l0_0.length c0_0); have hcz203_1 := c1_ BK142 1 (.slice A0_1 l0_1.length c0_1); have hcz203_2 := c1_ BK142 2 (.slice A0_2 l0_2.length c0_2); have hfz203_0 := f1_ BK142 0; have hfz203_1 := f1_ BK142 1; have hfz203_2 := f1_ BK142 2) | ((with_reducible refine gate_callee (f := 19) rfl ?_); refine goesL_ (some 8) rfl rfl Try.func19 s2_ rfl #[.agg #[.slice A0_0 l0_0.length c0_0, .slice A0_1 l0_1.length c0_1, .slice A0_2 l0_2.length c0_2]] rfl s3_ ?_; (with_reducible refine (impl_ValidPresence.calls k _ _ l0_0 _ _ l0_1 _ _ l0_2 true _ ?side1 ?side2 ?side3 ?side4 ?side5 ?side6 A4.out).mono ?_); (case side1 => exact y2_ (Kd.C_below HR0_0.out HB.out)); (case side2 => exact HC0_0.out); (case side3 => exact y2_ (Kd.C_below HR0_1.out HB.out)); (case side4 => exact HC0_1.out); (case side5 => exact y2_ (Kd.C_below HR0_2.out HB.out)); (case side6 => exact HC0_2.out); rintro e w204 ⟨rfl, hb⟩; refine ⟨_, rfl, ?_⟩; replace BK139 := b3_ BK139 hb; replace BK140 := b3_ BK140 hb; replace BK141 := b3_ BK141 hb; replace BK142 := b3_ BK142 hb; replace BK143 := b3_ BK143 hb; replace HB := Aside0.mk (below_step (y1_ HB.out) hb); (try clear hb); (try clear hb2); (try clear hk); (try clear hi); have hcz205_0 := c1_ BK142 0 (.slice A0_0 l0_0.length c0_0); have hcz205_1 := c1_ BK142 1 (.slice A0_1 l0_1.length c0_1); have hcz205_2 := c1_ BK142 2 (.slice A0_2 l0_2.length c0_2); have hfz205_0 := f1_ BK142 0; have hfz205_1 := f1_ BK142 1; have hfz205_2 := f1_ BK142 2) | ((with_reducible refine gate_callee (f := 90) rfl ?_); refine goesL_ (some 12) rfl rfl Try.func90 s2_ rfl #[.agg #[.slice A0_0 l0_0.length c0_0, .slice A0_1 l0_1.length c0_1, .slice A0_2 l0_2.length c0_2]] rfl s3_ ?_; (with_reducible refine (impl_clonePresence.calls _ _ l0_0 _ _ l0_1 _ _ l0_2 t145 t148 t151 _ ?side1 ?side2 ?side3 ?side4 ?side5 ?side6 A6.out).mono ?_); (case side1 => exact y2_ (Kd.C_below HR0_0.out HB.out)); (case side2 => exact HC0_0.out); (case side3 => exact y2_ (Kd.C_below HR0_1.out HB.out)); (case side4 => exact HC0_1.out); (case side5 => exact y2_ (Kd.C_below HR0_2.out HB.out)); (case side6 => exact HC0_2.out); rintro e w206 ⟨v146, v149, v152, rfl, ho0, ho1, ho2, hb⟩; refine ⟨_, rfl, ?_⟩; have HO147 := Aside0.mk (Kd.R_lower ho0 (below_size (y1_ HB.out))); have HO150 := Aside0.mk (Kd.R_lower ho1 (below_size (y1_ HB.out))); have HO153 := Aside0.mk (Kd.R_lower ho2 (below_size (y1_ HB.out))); replace BK139 := b3_ BK139 hb; replace BK140 := b3_ BK140 hb; replace BK141 := b3_ BK141 hb; replace BK143 := b3_ BK143 hb; replace HB := Aside0.mk (below_step (y1_ HB.out) hb); (try clear hb); (try clear hb2); (try clear hk); (try clear hi); (try clear ho0); (try clear ho1); (try clear ho2)) | ((with_reducible refine gate_dst (N := 6) rfl ?_); (try (refine gate_guard (by rfl) ?_; dsimp only)); refine bx_ 6 #[.slice none 0 0, .slice none 0 0, .slice none 0 0] 27 ?_; intro gb154 hg w207 hbox hb; have GW154 := b6_ hg HB; have GE154 := b6_ hg HB; have NB139_154 := b4_ hg BK139; have NB154_139 := b5_ hg BK139; have NB140_154 := b4_ hg BK140; have NB154_140 := b5_ hg BK140; have NB141_154 := b4_ hg BK141; have NB154_141 := b5_ hg BK141; have NB143_154 := b4_ hg BK143; have NB154_143 := b5_ hg BK143; replace HO147 := r1_ HO147 hb; replace HO150 := r1_ HO150 hb; replace HO153 := r1_ HO153 hb; replace BK139 := b3_ BK139 hb; replace BK140 := b3_ BK140 hb; replace BK141 := b3_ BK141 hb; replace BK143 := b3_ BK143 hb; replace HB := Aside0.mk (below_step (y1_ HB.out) hb); have BK154 := Aside0.mk (hbox); clear hb hbox hg; obtain ⟨Ao208, co208, eo208⟩ := Kd.R_slice HO147.out; subst eo208; have hnb209 := NB154_139.out; have hnc209 := NB139_154.out; have hnb210 := NB154_140.out; have hnc210 := NB140_154.out; have hnb211 := NB154_141.out; have hnc211 := NB141_154.out; have hnb212 := NB154_143.out; have hnc212 := NB143_154.out; have hcz213_0 := c1_ BK154 0 (.slice none 0 0); have hcz213_1 := c1_ BK154 1 (.slice none 0 0); have hcz213_2 := c1_ BK154 2 (.slice none 0 0); have hfz213_0 := f1_ BK154 0; have hfz213_1 := f1_ BK154 1; have hfz213_2 := f1_ BK154 2; obtain ⟨Ao214, co214, eo214⟩ := Kd.R_slice HO150.out; subst eo214; obtain ⟨Ao215, co215, eo215⟩ := Kd.R_slice HO153.out; subst eo215))
 go_at_call 48
 go_in
 try go_wp2_with (fail)
 have n0_ : Aside0 (Kd.R k63 63 (((w207.setCell ⟨gb154, 0, none⟩ (.slice Ao208 t145.length co208)).setCell ⟨gb154, 1, none⟩ (.slice Ao214 t148.length co214)).setCell ⟨gb154, 2, none⟩ (.slice Ao215 t151.length co215)) w.heap.size (fun k_ => some k_ ≠ (.slice Ao214 t148.length co214 : Value).ownBlock) (.slice Ao208 t145.length co208) t145) := ⟨by (with_reducible repeat (first | apply Kd.R_alloc | apply Kd.R_drewN | apply Kd.R_drew)); exact Kd.R_mono (Kd.R_far3 (g := gb154) (Kd.R_types HO147.out BK154.out (by decide)) (fun _ hk => hk.2)) (fun _ hk => hk.1)⟩
 have n1_ : Aside0 (Kd.R k63 63 (((w207.setCell ⟨gb154, 0, none⟩ (.slice Ao208 t145.length co208)).setCell ⟨gb154, 1, none⟩ (.slice Ao214 t148.length co214)).setCell ⟨gb154, 2, none⟩ (.slice Ao215 t151.length co215)) w.heap.size (fun k_ => some k_ ≠ (.slice Ao208 t145.length co208 : Value).ownBlock) (.slice Ao214 t148.length co214) t148) := ⟨by (with_reducible repeat (first | apply Kd.R_alloc | apply Kd.R_drewN | apply Kd.R_drew)); exact Kd.R_mono (Kd.R_far3 (g := gb154) (Kd.R_types HO150.out BK154.out (by decide)) (fun _ hk => hk.2)) (fun _ hk => hk.1)⟩
 have n2_ : Aside0 (Kd.R k73 73 (((w207.setCell ⟨gb154, 0, none⟩ (.slice Ao208 t145.length co208)).setCell ⟨gb154, 1, none⟩ (.slice Ao214 t148.length co214)).setCell ⟨gb154, 2, none⟩ (.slice Ao215 t151.length co215)) w.heap.size (fun _ => True) (.slice Ao215 t151.length co215) t151) := ⟨by (with_reducible repeat (first | apply Kd.R_alloc | apply Kd.R_drewN | apply Kd.R_drew)); exact Kd.R_mono (Kd.R_far3 (g := gb154) (Kd.R_types HO153.out BK154.out (by decide)) (fun _ hk => hk.2)) (fun _ hk => trivial)⟩
 have n3_ : Aside0 ((((w207.setCell ⟨gb154, 0, none⟩ (.slice Ao208 t145.length co208)).setCell ⟨gb154, 1, none⟩ (.slice Ao214 t148.length co214)).setCell ⟨gb154, 2, none⟩ (.slice Ao215 t151.length co215)).heap[gb139]? = some (.cells #[.int .i64 a1] 2 (0, 0))) := ⟨by (with_reducible repeat (first | refine blk_drewN ?_ _ | refine blk_drew ?_ | refine blk_alloc ?_ _)); refine blk_far3 ?_ NB139_154.out; (with_reducible repeat (first | refine blk_drewN ?_ _ | refine blk_drew ?_ | refine blk_alloc ?_ _)); exact BK139.out⟩
 have n4_ : Aside0 ((((w207.setCell ⟨gb154, 0, none⟩ (.slice Ao208 t145.length co208)).setCell ⟨gb154, 1, none⟩ (.slice Ao214 t148.length co214)).setCell ⟨gb154, 2, none⟩ (.slice Ao215 t151.length co215)).heap[gb140]? = some (.cells #[.int .i64 a2] 2 (0, 0))) := ⟨by (with_reducible repeat (first | refine blk_drewN ?_ _ | refine blk_drew ?_ | refine blk_alloc ?_ _)); refine blk_far3 ?_ NB140_154.out; (with_reducible repeat (first | refine blk_drewN ?_ _ | refine blk_drew ?_ | refine blk_alloc ?_ _)); exact BK140.out⟩
 have n5_ : Aside0 ((((w207.setCell ⟨gb154, 0, none⟩ (.slice Ao208 t145.length co208)).setCell ⟨gb154, 1, none⟩ (.slice Ao214 t148.length co214)).setCell ⟨gb154, 2, none⟩ (.slice Ao215 t151.length co215)).heap[gb141]? = some (.cells #[.slice none 0 0, .slice none 0 0, .slice none 0 0] 27 (0, 0))) := ⟨by (with_reducible repeat (first | refine blk_drewN ?_ _ | refine blk_drew ?_ | refine blk_alloc ?_ _)); refine blk_far3 ?_ NB141_154.out; (with_reducible repeat (first | refine blk_drewN ?_ _ | refine blk_drew ?_ | refine blk_alloc ?_ _)); exact BK141.out⟩
 have n6_ : Aside0 ((((w207.setCell ⟨gb154, 0, none⟩ (.slice Ao208 t145.length co208)).setCell ⟨gb154, 1, none⟩ (.slice Ao214 t148.length co214)).setCell ⟨gb154, 2, none⟩ (.slice Ao215 t151.length co215)).heap[gb143]? = some (.cells #[.slice none 0 0, .slice none 0 0, .slice none 0 0] 27 (0, 0))) := ⟨by (with_reducible repeat (first | refine blk_drewN ?_ _ | refine blk_drew ?_ | refine blk_alloc ?_ _)); refine blk_far3 ?_ NB143_154.out; (with_reducible repeat (first | refine blk_drewN ?_ _ | refine blk_drew ?_ | refine blk_alloc ?_ _)); exact BK143.out⟩
 have n7_ : Aside0 ((((w207.setCell ⟨gb154, 0, none⟩ (.slice Ao208 t145.length co208)).setCell ⟨gb154, 1, none⟩ (.slice Ao214 t148.length co214)).setCell ⟨gb154, 2, none⟩ (.slice Ao215 t151.length co215)).heap[gb154]? = some (.cells #[.slice Ao208 t145.length co208, .slice Ao214 t148.length co214, .slice Ao215 t151.length co215] 27 (0, 0))) := ⟨by (with_reducible repeat (first | refine blk_drewN ?_ _ | refine blk_drew ?_ | refine blk_alloc ?_ _)); refine blk_put3 (cs := #[.slice none 0 0, .slice none 0 0, .slice none 0 0]) ?_ rfl; (with_reducible repeat (first | refine blk_drewN ?_ _ | refine blk_drew ?_ | refine blk_alloc ?_ _)); exact BK154.out⟩
 have n8_ : Aside0 (Below w.heap.size w (((w207.setCell ⟨gb154, 0, none⟩ (.slice Ao208 t145.length co208)).setCell ⟨gb154, 1, none⟩ (.slice Ao214 t148.length co214)).setCell ⟨gb154, 2, none⟩ (.slice Ao215 t151.length co215))) := ⟨by repeat (first | (with_reducible first | exact HB.out | apply below_alloc | apply pw_below_drewN | apply below_drew1 | refine below_set ?_ GE154.out) | exact HB.out)⟩
 (try clear HO147)
 (try clear HO150)
 (try clear HO153)
 (try clear BK139)
 (try clear BK140)
 (try clear BK141)
 (try clear BK143)
 (try clear BK154)
 (try clear HB)
 generalize (((w207.setCell ⟨gb154, 0, none⟩ (.slice Ao208 t145.length co208)).setCell ⟨gb154, 1, none⟩ (.slice Ao214 t148.length co214)).setCell ⟨gb154, 2, none⟩ (.slice Ao215 t151.length co215)) = w216 at n0_ n1_ n2_ n3_ n4_ n5_ n6_ n7_ n8_ ⊢
 have HO147 := n0_
 have HO150 := n1_
 have HO153 := n2_
 have BK139 := n3_
 have BK140 := n4_
 have BK141 := n5_
 have BK143 := n6_
 have BK154 := n7_
 have HB := n8_
 clear n0_ n1_ n2_ n3_ n4_ n5_ n6_ n7_ n8_
 replace HO147 := Aside0.mk (Kd.R_drew HO147.out)
 replace HO150 := Aside0.mk (Kd.R_drew HO150.out)
 replace HO153 := Aside0.mk (Kd.R_drew HO153.out)
 replace BK139 := Aside0.mk (blk_drew BK139.out)
 replace BK140 := Aside0.mk (blk_drew BK140.out)
 replace BK141 := Aside0.mk (blk_drew BK141.out)
 replace BK143 := Aside0.mk (blk_drew BK143.out)
 replace BK154 := Aside0.mk (blk_drew BK154.out)
 replace HB := Aside0.mk (below_drew1 HB.out)
 refine start_ (n := 9) (S := fun w' => w'.cell? ⟨gb154, 0, none⟩ = some (.slice Ao208 t145.length co208) ∧ w'.cell? ⟨gb154, 1, none⟩ = some (.slice Ao214 t148.length co214) ∧ w'.cell? ⟨gb154, 2, none⟩ = some (.slice Ao215 t151.length co215) ∧ w'.cell? ⟨gb139, 0, none⟩ = some (.int .i64 a1) ∧ w'.cell? ⟨gb140, 0, none⟩ = some (.int .i64 a2)) (ds := []) m0_ s2_ rfl rfl ⟨(blk_cell BK154.out 0).trans rfl, (blk_cell BK154.out 1).trans rfl, (blk_cell BK154.out 2).trans rfl, (blk_cell BK139.out 0).trans rfl, (blk_cell BK140.out 0).trans rfl⟩ (fun hHeld => ?_); refine with_tabW impl_StartTyping.g48.tab1 impl_StartTyping.g48.bits1 (fun HT_ HW_ => ?_)
 generalize w216.drew = w217 at HO147 HO150 HO153 BK139 BK140 BK141 BK143 BK154 HB HO147 HO150 HO153 hHeld ⊢
 refine pu_ 0 6 m1_ (any_of HT_.out s2_) ?_
 refine pu_ 1 7 m2_ (any_of HT_.out s2_) ?_
 refine pu_ 2 8 m3_ (any_of HT_.out s2_) ?_
 refine take_ (i := 3) (N := some 9) (v := ?_) (a' := ?_) m4_ rfl rfl (take_ofW HT_.out HW_.out s2_) (fun _ _ _ h => h) (Or.inl ⟨by rfl, ?_⟩) hHeld ?_ ?_
 rotate_left
 {
 rintro w' ⟨s0, s1, s2, s3, s4⟩
 go_simp
 with_reducible rfl}
 rotate_left
 · exact p1_
 refine take_ (i := 4) (N := some 10) (v := ?_) (a' := ?_) m5_ rfl rfl (take_ofW HT_.out HW_.out s2_) (fun _ _ _ h => h) (Or.inl ⟨by rfl, ?_⟩) hHeld ?_ ?_
 rotate_left
 {
 rintro w' ⟨s0, s1, s2, s3, s4⟩
 go_simp
 with_reducible rfl}
 rotate_left
 · exact p1_
 refine take_ (i := 6) (N := some 12) (v := ?_) (a' := ?_) m6_ rfl rfl (take_ofW HT_.out HW_.out s2_) (fun _ _ _ h => h) (Or.inl ⟨by rfl, ?_⟩) hHeld ?_ ?_
 rotate_left
 {
 rintro w' ⟨s0, s1, s2, s3, s4⟩
 go_simp
 with_reducible rfl}
 rotate_left
 · exact p1_
 refine one_ (i := 5) (N := some 11) m7_ rfl rfl (one_of HT_.out s2_) (by decide) (fun K hK => ?_)
 refine goes_ Try.func49 s2_ rfl #[.slice Ao208 t145.length co208, .int .i64 a1] (by rfl) rfl rfl s3_ ?_
 with_reducible refine (impl_until_n49.calls k _ _ t145 a1 t155 _ ?side1 ?side2 A7.out).mono ?_
 (case side1 => exact y2_ (Kd.R_reads' HO147.out).2.2)
 (case side2 => exact (Kd.R_reads' HO147.out).2.1)
 rintro e w218 ⟨rfl, hb⟩
 refine ⟨_, rfl, ?_⟩
 replace HO147 := r1_ HO147 hb
 replace HO150 := r1_ HO150 hb
 replace HO153 := r1_ HO153 hb
 replace BK139 := b3_ BK139 hb
 replace BK140 := b3_ BK140 hb
 replace BK141 := b3_ BK141 hb
 replace BK143 := b3_ BK143 hb
 replace BK154 := b3_ BK154 hb
 replace HB := Aside0.mk (below_step (y1_ HB.out) hb)
 (try clear hb)
 (try clear hb2)
 (try clear hk)
 (try clear hi)
 refine hK.out _ _ ⟨(blk_cell BK154.out 0).trans rfl, (blk_cell BK154.out 1).trans rfl, (blk_cell BK154.out 2).trans rfl, (blk_cell BK139.out 0).trans rfl, (blk_cell BK140.out 0).trans rfl⟩ (fun hHeld => ?_)
 clear hK K
 refine norm_ (a' := ?_) ?_ ?_
 rotate_left
 {
 show Act.put _ (some 11) _ = _
 simp only [Act.put, List.setIfInBounds_toArray, List.set_cons_zero, List.set_cons_succ, i64_w, i32_w]
 rfl}
 refine pu_ 7 13 m8_ (any_of HT_.out s2_) ?_
 refine pu_ 8 5 m9_ (any_of HT_.out s2_) ?_
 refine done_ (done_of HT_.out s2_) ?_
 try go_wp2_with (fail)
 replace HO147 := Aside0.mk (Kd.R_drew HO147.out)
 replace HO150 := Aside0.mk (Kd.R_drew HO150.out)
 replace HO153 := Aside0.mk (Kd.R_drew HO153.out)
 replace BK139 := Aside0.mk (blk_drew BK139.out)
 replace BK140 := Aside0.mk (blk_drew BK140.out)
 replace BK141 := Aside0.mk (blk_drew BK141.out)
 replace BK143 := Aside0.mk (blk_drew BK143.out)
 replace BK154 := Aside0.mk (blk_drew BK154.out)
 replace HB := Aside0.mk (below_drew1 HB.out)
 refine start_ (n := 13) (S := fun w' => w'.cell? ⟨gb154, 0, none⟩ = some (.slice Ao208 t145.length co208) ∧ w'.cell? ⟨gb154, 1, none⟩ = some (.slice Ao214 t148.length co214) ∧ w'.cell? ⟨gb154, 2, none⟩ = some (.slice Ao215 t151.length co215) ∧ w'.cell? ⟨gb139, 0, none⟩ = some (.int .i64 a1) ∧ w'.cell? ⟨gb140, 0, none⟩ = some (.int .i64 a2)) (ds := [12]) m10_ s2_ rfl rfl ⟨(blk_cell BK154.out 0).trans rfl, (blk_cell BK154.out 1).trans rfl, (blk_cell BK154.out 2).trans rfl, (blk_cell BK139.out 0).trans rfl, (blk_cell BK140.out 0).trans rfl⟩ (fun hHeld => ?_); refine with_tabW impl_StartTyping.g48.tab2 impl_StartTyping.g48.bits2 (fun HT_ HW_ => ?_)
 generalize w218.drew = w219 at HO147 HO150 HO153 BK139 BK140 BK141 BK143 BK154 HB hHeld ⊢
 refine pu_ 0 14 m11_ (any_of HT_.out s2_) ?_
 refine pu_ 1 15 m12_ (any_of HT_.out s2_) ?_
 refine pu_ 2 16 m13_ (any_of HT_.out s2_) ?_
 refine pu_ 3 17 m14_ (any_of HT_.out s2_) ?_
 refine take_ (i := 4) (N := some 18) (v := ?_) (a' := ?_) m15_ rfl rfl (take_ofW HT_.out HW_.out s2_) (fun _ _ _ h => h) (Or.inl ⟨by rfl, ?_⟩) hHeld ?_ ?_
 rotate_left
 {
 rintro w' ⟨s0, s1, s2, s3, s4⟩
 go_simp
 with_reducible rfl}
 rotate_left
 · exact p1_
 refine take_ (i := 5) (N := some 19) (v := ?_) (a' := ?_) m16_ rfl rfl (take_ofW HT_.out HW_.out s2_) (fun _ _ _ h => h) (Or.inl ⟨by rfl, ?_⟩) hHeld ?_ ?_
 rotate_left
 {
 rintro w' ⟨s0, s1, s2, s3, s4⟩
 go_simp
 with_reducible rfl}
 rotate_left
 · exact p1_
 refine take_ (i := 6) (N := some 20) (v := ?_) (a' := ?_) m17_ rfl rfl (take_ofW HT_.out HW_.out s2_) (fun _ _ _ h => h) (Or.inl ⟨by rfl, ?_⟩) hHeld ?_ ?_
 rotate_left
 {
 rintro w' ⟨s0, s1, s2, s3, s4⟩
 go_simp
 with_reducible rfl}
 rotate_left
 · exact p1_
 refine pu_ 7 21 m18_ (any_of HT_.out s2_) ?_
 refine pu_ 8 22 m19_ (any_of HT_.out s2_) ?_
 refine one_ (i := 9) (N := some 23) m20_ rfl rfl (one_of HT_.out s2_) (by decide) (fun K hK => ?_)
 refine goes_ Try.func44 s2_ rfl #[.slice Ao214 t148.length co214, .agg #[.int .i64 a1, .int .i64 (wrap64 (a2 + 6))]] (by rfl) rfl rfl s3_ ?_
 with_reducible refine (impl_leased_n44.calls k (fun k_ => some k_ = (.slice Ao214 t148.length co214 : Value).ownBlock) (.slice Ao214 t148.length co214) t148 a1 (wrap64 (a2 + 6)) t156 w _ ?side1 ?side2 A8.out).mono ?_
 (case side1 => repeat (first | (with_reducible first | exact HB.out | apply below_alloc | apply pw_below_drewN | apply below_drew1) | exact HB.out))
 (case side2 => exact Kd.R_tight rfl HO150.out)
 rintro e w220 ⟨v157, rfl, ho0, hb, hkp⟩
 refine ⟨_, rfl, ?_⟩
 have n0_ := Aside0.mk (blk_kept (b1_ BK139.out) hkp (fun hs_ => (fun e_ => (Kd.R_ne HO150.out BK139.out (by decide)) e_) hs_))
 have n1_ := Aside0.mk (blk_kept (b1_ BK140.out) hkp (fun hs_ => (fun e_ => (Kd.R_ne HO150.out BK140.out (by decide)) e_) hs_))
 have n2_ := Aside0.mk (blk_kept (b1_ BK141.out) hkp (fun hs_ => (fun e_ => (Kd.R_ne HO150.out BK141.out (by decide)) e_) hs_))
 have n3_ := Aside0.mk (blk_kept (b1_ BK143.out) hkp (fun hs_ => (fun e_ => (Kd.R_ne HO150.out BK143.out (by decide)) e_) hs_))
 have n4_ := Aside0.mk (Kd.R_mono (ok' := fun k_ => some k_ ≠ (v157 : Value).ownBlock) (Kd.R_keptB (HO147.out) hkp (fun k_ hk_ hs_ => (hk_) hs_)) (fun k_ hk_ => fun e_ => Or.elim (ho0.1 k_ e_.symm) (fun hs_ => hk_.2.1 hs_) (fun hn_ => Nat.not_le.2 hk_.2.2 hn_)))
 have n5_ := Aside0.mk (Kd.R_mono (ok' := fun k_ => True) (Kd.R_keptB ((Kd.R_apart' HO153.out (Kd.R_typed HO150.out) (by decide))) hkp (fun k_ hk_ hs_ => (hk_.2) hs_)) (fun k_ hk_ => trivial))
 have n6_ := Aside0.mk (blk_kept (b1_ BK154.out) hkp (fun hs_ => (fun e_ => (Kd.R_ne HO150.out BK154.out (by decide)) e_) hs_))
 have n7_ := Aside0.mk (Kd.R_mono (ok' := fun k_ => some k_ ≠ (.slice Ao208 t145.length co208 : Value).ownBlock) ho0 (fun k_ hk_ => Or.elim hk_ (fun hs_ => fun e_ => (((HO147.out).1 k_ e_.symm)) hs_) (fun hn_ => (Kd.fresh' (Kd.R_lt (b2_ HO147.out)) k_ hn_))))
 have n8_ := Aside0.mk (hb)
 clear BK139
 clear BK140
 clear BK141
 clear BK143
 clear HO147
 clear HO153
 clear BK154
 clear HB
 clear HO150
 have BK139 := n0_
 have BK140 := n1_
 have BK141 := n2_
 have BK143 := n3_
 have HO147 := n4_
 have HO153 := n5_
 have BK154 := n6_
 have HO158 := n7_
 have HB := n8_
 clear n0_ n1_ n2_ n3_ n4_ n5_ n6_ n7_ n8_
 (try clear hb)
 (try clear hkp)
 (try clear ho0)
 obtain ⟨Ao221, co221, eo221⟩ := Kd.R_slice HO158.out
 (first | subst eo221 | (injection eo221 with f1_ f2_ f3_; have f4_ := f1_.symm; have f5_ := f3_.symm; clear f1_ f2_ f3_; subst f4_; subst f5_))
 refine hK.out _ _ ⟨(blk_cell BK154.out 0).trans rfl, (blk_cell BK154.out 1).trans rfl, (blk_cell BK154.out 2).trans rfl, (blk_cell BK139.out 0).trans rfl, (blk_cell BK140.out 0).trans rfl⟩ (fun hHeld => ?_)
 clear hK K
 refine norm_ (a' := ?_) ?_ ?_
 rotate_left
 {
 show Act.put _ (some 23) _ = _
 simp only [Act.put, List.setIfInBounds_toArray, List.set_cons_zero, List.set_cons_succ, i64_w, i32_w]
 rfl}
 refine pu_ 10 24 m21_ (any_of HT_.out s2_) ?_
 refine pu_ 11 25 m22_ (any_of HT_.out s2_) ?_
 refine last_ (i := 12) (N := none) m23_ rfl rfl (one_of HT_.out s2_) (by decide) (fun K hK => ?_)
 have hs222 : w220.cell? ⟨gb154, 1, none⟩ = some (.slice Ao214 t148.length co214) := (blk_cell BK154.out 1).trans rfl
 have hfs222 := blk_frozen BK154.out 1
 have hns222_0 := NB139_154.out
 have hns222_1 := NB140_154.out
 have hns222_2 := NB141_154.out
 have hns222_3 := NB143_154.out
 have hms222_0 := NB154_139.out
 have hms222_1 := NB154_140.out
 have hms222_2 := NB154_141.out
 have hms222_3 := NB154_143.out
 refine skip_ (w1 := ?_) (by rfl) rfl ?_ ?_
 rotate_left
 {
 go_simp
 rfl}
 refine hK.out _ _ ?_
 clear hK K
 refine done_ (done_of HT_.out s2_) ?_
 have hnb223 := NB143_139.out
 have hnc223 := NB139_143.out
 have hnb224 := NB143_140.out
 have hnc224 := NB140_143.out
 have hnb225 := NB143_141.out
 have hnc225 := NB141_143.out
 have hcz226_0 := c1_ BK143 0 (.slice none 0 0)
 have hcz226_1 := c1_ BK143 1 (.slice none 0 0)
 have hcz226_2 := c1_ BK143 2 (.slice none 0 0)
 have hfz226_0 := f1_ BK143 0
 have hfz226_1 := f1_ BK143 1
 have hfz226_2 := f1_ BK143 2
 try go_wp2_with (fail)
 (try simp only [Exit.inBlock, Exit.then])
 refine bodyPost_ret (results_ct rfl _ _ gb143 27 #[.slice none 0 0, .slice none 0 0, .slice none 0 0] (0, 0) _ rfl (by (with_reducible repeat (first | refine blk_drewN ?_ _ | refine blk_drew ?_ | refine blk_alloc ?_ _)); refine blk_put3 (cs := #[.slice none 0 0, .slice none 0 0, .slice none 0 0]) ?_ rfl; (with_reducible repeat (first | refine blk_drewN ?_ _ | refine blk_drew ?_ | refine blk_alloc ?_ _)); refine blk_far ?_ NB143_154.out _; (with_reducible repeat (first | refine blk_drewN ?_ _ | refine blk_drew ?_ | refine blk_alloc ?_ _)); exact BK143.out) Try.underlying27 rfl s2_) rfl ?_
 (try simp only [])
 have hnb227 := NB141_139.out
 have hnc227 := NB139_141.out
 have hnb228 := NB141_140.out
 have hnc228 := NB140_141.out
 have hcz229_0 := c1_ BK141 0 (.slice none 0 0)
 have hcz229_1 := c1_ BK141 1 (.slice none 0 0)
 have hcz229_2 := c1_ BK141 2 (.slice none 0 0)
 have hfz229_0 := f1_ BK141 0
 have hfz229_1 := f1_ BK141 1
 have hfz229_2 := f1_ BK141 2
 try go_wp2_with (fail)
 refine bodyPost_ret (results_ct rfl _ _ gb141 27 #[.slice none 0 0, .slice none 0 0, .slice none 0 0] (0, 0) _ rfl (by (with_reducible repeat (first | refine blk_drewN ?_ _ | refine blk_drew ?_ | refine blk_alloc ?_ _)); refine blk_put3 (cs := #[.slice none 0 0, .slice none 0 0, .slice none 0 0]) ?_ rfl; (with_reducible repeat (first | refine blk_drewN ?_ _ | refine blk_drew ?_ | refine blk_alloc ?_ _)); refine blk_far3 ?_ NB141_143.out; (with_reducible repeat (first | refine blk_drewN ?_ _ | refine blk_drew ?_ | refine blk_alloc ?_ _)); refine blk_far ?_ NB141_154.out _; (with_reducible repeat (first | refine blk_drewN ?_ _ | refine blk_drew ?_ | refine blk_alloc ?_ _)); exact BK141.out) Try.underlying27 rfl s2_) rfl ?_
 exact ⟨_, _, _, by first | rfl | (simp [errW_none, errW_some] <;> rfl) | (simp [*, errW_none, errW_some] <;> rfl), by first | exact Kd.R_nil _ _ _ _ _ | exact Kd.N_nil _ _ _ _ _ | exact Kd.V_nil _ _ _ _ _ | exact Kd.Q_nil _ _ _ _ _ | exact Kd.S_nil _ _ _ _ _, by first | exact Kd.R_nil _ _ _ _ _ | exact Kd.N_nil _ _ _ _ _ | exact Kd.V_nil _ _ _ _ _ | exact Kd.Q_nil _ _ _ _ _ | exact Kd.S_nil _ _ _ _ _, by first | exact Kd.R_nil _ _ _ _ _ | exact Kd.N_nil _ _ _ _ _ | exact Kd.V_nil _ _ _ _ _ | exact Kd.Q_nil _ _ _ _ _ | exact Kd.S_nil _ _ _ _ _, by repeat (first | (with_reducible first | exact HB.out | apply below_alloc | apply pw_below_drewN | apply below_drew1 | refine below_set ?_ GE141.out | refine below_set ?_ GE143.out | refine below_set ?_ GE154.out) | exact HB.out)⟩}}
 {
 replace c5 := Bool.eq_false_iff.mpr c5
 subst c5
 have H1 : (some (([] : List (S63)), ([] : List (S63)), ([] : List (S73)), false)) = some (r1, r2, r3, r4) := by rw [if_neg (show ¬ (false = true) by decide)] at H; exact H
 clear H
 have H := H1
 clear H1
 simp only [Option.some.injEq, Prod.mk.injEq] at H
 obtain ⟨rfl, rfl, rfl, rfl⟩ := H
 go_enter Try.func16, Try.ntmps16
 try go_wp2_with (first | ((with_reducible refine gate_dst (N := 3) rfl ?_); (try (refine gate_guard (by rfl) ?_; dsimp only)); refine bx_ 3 #[.slice A0_0 l0_0.length c0_0, .slice A0_1 l0_1.length c0_1, .slice A0_2 l0_2.length c0_2] 27 ?_; intro gb138 hg w230 hbox hb; have GW138 := b6_ hg HB; have GE138 := b6_ hg HB; replace HB := Aside0.mk (below_step (y1_ HB.out) hb); have BK138 := Aside0.mk (hbox); clear hb hbox hg) | ((with_reducible refine gate_dst (N := 4) rfl ?_); (try (refine gate_guard (by rfl) ?_; dsimp only)); refine bx_ 4 #[.int .i64 a1] 2 ?_; intro gb139 hg w231 hbox hb; have GW139 := b6_ hg HB; have GE139 := b6_ hg HB; have NB138_139 := b4_ hg BK138; have NB139_138 := b5_ hg BK138; replace BK138 := b3_ BK138 hb; replace HB := Aside0.mk (below_step (y1_ HB.out) hb); have BK139 := Aside0.mk (hbox); clear hb hbox hg) | ((with_reducible refine gate_dst (N := 5) rfl ?_); (try (refine gate_guard (by rfl) ?_; dsimp only)); refine bx_ 5 #[.int .i64 a2] 2 ?_; intro gb140 hg w232 hbox hb; have GW140 := b6_ hg HB; have GE140 := b6_ hg HB; have NB138_140 := b4_ hg BK138; have NB140_138 := b5_ hg BK138; replace BK138 := b3_ BK138 hb; replace HB := Aside0.mk (below_step (y1_ HB.out) hb); have BK140 := Aside0.mk (hbox); clear hb hbox hg) | ((with_reducible refine gate_dst (N := 6) rfl ?_); (try (refine gate_guard (by rfl) ?_; dsimp only)); refine bx_ 6 #[.slice none 0 0, .slice none 0 0, .slice none 0 0] 27 ?_; intro gb141 hg w233 hbox hb; have GW141 := b6_ hg HB; have GE141 := b6_ hg HB; have NB138_141 := b4_ hg BK138; have NB141_138 := b5_ hg BK138; replace BK138 := b3_ BK138 hb; replace HB := Aside0.mk (below_step (y1_ HB.out) hb); have BK141 := Aside0.mk (hbox); clear hb hbox hg; have hnb234 := NB138_141.out; have hnc234 := NB141_138.out; have hcz235_0 := c1_ BK138 0 (.slice A0_0 l0_0.length c0_0); have hcz235_1 := c1_ BK138 1 (.slice A0_1 l0_1.length c0_1); have hcz235_2 := c1_ BK138 2 (.slice A0_2 l0_2.length c0_2); have hfz235_0 := f1_ BK138 0; have hfz235_1 := f1_ BK138 1; have hfz235_2 := f1_ BK138 2))
 go_at_call 42
 go_in
 try go_wp2_with (first | ((with_reducible refine gate_dst (N := 2) rfl ?_); (try (refine gate_guard (by rfl) ?_; dsimp only)); refine bx_ 2 #[.slice A0_0 l0_0.length c0_0, .slice A0_1 l0_1.length c0_1, .slice A0_2 l0_2.length c0_2] 27 ?_; intro gb142 hg w236 hbox hb; have GW142 := b6_ hg HB; have GE142 := b6_ hg HB; have NB141_142 := b4_ hg BK141; have NB142_141 := b5_ hg BK141; replace BK141 := b3_ BK141 hb; replace HB := Aside0.mk (below_step (y1_ HB.out) hb); have BK142 := Aside0.mk (hbox); clear hb hbox hg) | ((with_reducible refine gate_dst (N := 4) rfl ?_); (try (refine gate_guard (by rfl) ?_; dsimp only)); refine bx_ 4 #[.slice none 0 0, .slice none 0 0, .slice none 0 0] 27 ?_; intro gb143 hg w237 hbox hb; have GW143 := b6_ hg HB; have GE143 := b6_ hg HB; have NB141_143 := b4_ hg BK141; have NB143_141 := b5_ hg BK141; have NB142_143 := b4_ hg BK142; have NB143_142 := b5_ hg BK142; replace BK141 := b3_ BK141 hb; replace BK142 := b3_ BK142 hb; replace HB := Aside0.mk (below_step (y1_ HB.out) hb); have BK143 := Aside0.mk (hbox); clear hb hbox hg; have hnb238 := NB142_141.out; have hnc238 := NB141_142.out; have hnb239 := NB142_143.out; have hnc239 := NB143_142.out; have hcz240_0 := c1_ BK142 0 (.slice A0_0 l0_0.length c0_0); have hcz240_1 := c1_ BK142 1 (.slice A0_1 l0_1.length c0_1); have hcz240_2 := c1_ BK142 2 (.slice A0_2 l0_2.length c0_2); have hfz240_0 := f1_ BK142 0; have hfz240_1 := f1_ BK142 1; have hfz240_2 := f1_ BK142 2) | ((with_reducible refine gate_callee (f := 19) rfl ?_); refine goesL_ (some 8) rfl rfl Try.func19 s2_ rfl #[.agg #[.slice A0_0 l0_0.length c0_0, .slice A0_1 l0_1.length c0_1, .slice A0_2 l0_2.length c0_2]] rfl s3_ ?_; (with_reducible refine (impl_ValidPresence.calls k _ _ l0_0 _ _ l0_1 _ _ l0_2 false _ ?side1 ?side2 ?side3 ?side4 ?side5 ?side6 A4.out).mono ?_); (case side1 => exact y2_ (Kd.C_below HR0_0.out HB.out)); (case side2 => exact HC0_0.out); (case side3 => exact y2_ (Kd.C_below HR0_1.out HB.out)); (case side4 => exact HC0_1.out); (case side5 => exact y2_ (Kd.C_below HR0_2.out HB.out)); (case side6 => exact HC0_2.out); rintro e w241 ⟨rfl, hb⟩; refine ⟨_, rfl, ?_⟩; replace BK141 := b3_ BK141 hb; replace BK143 := b3_ BK143 hb; replace HB := Aside0.mk (below_step (y1_ HB.out) hb); (try clear hb); (try clear hb2); (try clear hk); (try clear hi); have hnb242 := NB143_141.out; have hnc242 := NB141_143.out; have hcz243_0 := c1_ BK143 0 (.slice none 0 0); have hcz243_1 := c1_ BK143 1 (.slice none 0 0); have hcz243_2 := c1_ BK143 2 (.slice none 0 0); have hfz243_0 := f1_ BK143 0; have hfz243_1 := f1_ BK143 1; have hfz243_2 := f1_ BK143 2))
 (try simp only [Exit.inBlock, Exit.then])
 refine bodyPost_ret (results_ct rfl _ _ gb143 27 #[.slice none 0 0, .slice none 0 0, .slice none 0 0] (0, 0) _ rfl (by (with_reducible repeat (first | refine blk_drewN ?_ _ | refine blk_drew ?_ | refine blk_alloc ?_ _)); refine blk_put3 (cs := #[.slice none 0 0, .slice none 0 0, .slice none 0 0]) ?_ rfl; (with_reducible repeat (first | refine blk_drewN ?_ _ | refine blk_drew ?_ | refine blk_alloc ?_ _)); exact BK143.out) Try.underlying27 rfl s2_) rfl ?_
 (try simp only [])
 have hcz244_0 := c1_ BK141 0 (.slice none 0 0)
 have hcz244_1 := c1_ BK141 1 (.slice none 0 0)
 have hcz244_2 := c1_ BK141 2 (.slice none 0 0)
 have hfz244_0 := f1_ BK141 0
 have hfz244_1 := f1_ BK141 1
 have hfz244_2 := f1_ BK141 2
 try go_wp2_with (fail)
 refine bodyPost_ret (results_ct rfl _ _ gb141 27 #[.slice none 0 0, .slice none 0 0, .slice none 0 0] (0, 0) _ rfl (by (with_reducible repeat (first | refine blk_drewN ?_ _ | refine blk_drew ?_ | refine blk_alloc ?_ _)); refine blk_put3 (cs := #[.slice none 0 0, .slice none 0 0, .slice none 0 0]) ?_ rfl; (with_reducible repeat (first | refine blk_drewN ?_ _ | refine blk_drew ?_ | refine blk_alloc ?_ _)); refine blk_far3 ?_ NB141_143.out; (with_reducible repeat (first | refine blk_drewN ?_ _ | refine blk_drew ?_ | refine blk_alloc ?_ _)); exact BK141.out) Try.underlying27 rfl s2_) rfl ?_
 exact ⟨_, _, _, by first | rfl | (simp [errW_none, errW_some] <;> rfl) | (simp [*, errW_none, errW_some] <;> rfl), by first | exact Kd.R_nil _ _ _ _ _ | exact Kd.N_nil _ _ _ _ _ | exact Kd.V_nil _ _ _ _ _ | exact Kd.Q_nil _ _ _ _ _ | exact Kd.S_nil _ _ _ _ _, by first | exact Kd.R_nil _ _ _ _ _ | exact Kd.N_nil _ _ _ _ _ | exact Kd.V_nil _ _ _ _ _ | exact Kd.Q_nil _ _ _ _ _ | exact Kd.S_nil _ _ _ _ _, by first | exact Kd.R_nil _ _ _ _ _ | exact Kd.N_nil _ _ _ _ _ | exact Kd.V_nil _ _ _ _ _ | exact Kd.Q_nil _ _ _ _ _ | exact Kd.S_nil _ _ _ _ _, by repeat (first | (with_reducible first | exact HB.out | apply below_alloc | apply pw_below_drewN | apply below_drew1 | refine below_set ?_ GE141.out | refine below_set ?_ GE143.out) | exact HB.out)⟩}

end Go.Proofs.Ytgfilednbllkmaa.QFnExactStartTyping
