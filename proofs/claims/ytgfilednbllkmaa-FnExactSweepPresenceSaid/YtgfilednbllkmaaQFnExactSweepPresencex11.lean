-- written by a program of this session, on the lines of the kit's print
import Derived.Test.YtgfilednbllkmaaQFnExactSweepPresencex0
import Derived.Test.YtgfilednbllkmaaQFnExactSweepPresencex7
import Derived.Test.YtgfilednbllkmaaQFnExactSweepPresencex8
import Derived.Test.YtgfilednbllkmaaQFnExactSweepPresencex10
namespace Go.Proofs.Ytgfilednbllkmaa.QFnExactSweepPresence
open Go.RowKit Go.Proofs.YtgfilednbllkmaaW.PrintWords Go.Proofs.YtgfilednbllkmaaW.PrintLast Go.Proofs.YtgfilednbllkmaaW.PrintMore
attribute [local go_sem] max2_int min2_int max_two min_two max_three min_three max_four min_four   -- for this text's walks alone
set_option linter.unusedVariables false
set_option linter.unusedSimpArgs false

/-! ### impl_SweepPresence: function 31 -/
abbrev impl_SweepPresence.T : Bool := true
abbrev impl_SweepPresence.F : Bool := false
theorem impl_SweepPresence.s2_ {P : Prop} (h : P := by kernel_rfl) : P := h
theorem impl_SweepPresence.s3_ {P : Prop} (h : P := by (try simp only [List.map_toArray, List.map_cons, List.map_nil]); first | done | rfl | (simp only [List.length_drop, List.length_take]; rfl)) : P := h
abbrev impl_SweepPresence.m0_ : Array Bool := #[F,F,F,F,F,F,F,F,F,F]
abbrev impl_SweepPresence.m1_ : Array Bool := #[T,F,F,F,F,F,F,F,F,F]
abbrev impl_SweepPresence.m2_ : Array Bool := #[T,T,F,F,F,F,F,F,F,F]
abbrev impl_SweepPresence.m3_ : Array Bool := #[T,T,T,F,F,F,F,F,F,F]
abbrev impl_SweepPresence.m4_ : Array Bool := #[T,T,T,T,F,F,F,F,F,F]
abbrev impl_SweepPresence.m5_ : Array Bool := #[T,T,T,T,F,T,F,F,F,F]
abbrev impl_SweepPresence.m6_ : Array Bool := #[T,T,T,T,T,T,F,F,F,F]
abbrev impl_SweepPresence.m7_ : Array Bool := #[T,T,T,T,T,T,T,F,F,F]
abbrev impl_SweepPresence.m8_ : Array Bool := #[T,T,T,T,T,T,T,T,F,F]
abbrev impl_SweepPresence.m9_ : Array Bool := #[T,T,T,T,T,T,T,T,T,F]
abbrev impl_SweepPresence.m10_ : Array Bool := #[T,T,T,T,T,T,T,T,T,T]
theorem impl_SweepPresence.p1_ {P : Prop} (h : P := by simp only [Act.put, List.setIfInBounds_toArray, List.set_cons_zero, List.set_cons_succ, i64_w, i32_w]; rfl) : P := h
theorem impl_SweepPresence.b1_ {P Q : Prop} (q : Q) (h : Q → P := by intro q_; (with_reducible repeat (first | refine blk_drewN ?_ _ | refine blk_drew ?_ | refine blk_alloc ?_ _)); exact q_) : P := h q
theorem impl_SweepPresence.b2_ {P Q : Prop} (q : Q) (h : Q → P := by intro q_; (with_reducible repeat (first | apply Kd.R_alloc | apply Kd.R_drewN | apply Kd.R_drew)); exact q_) : P := h q
theorem impl_SweepPresence.y1_ {P Q : Prop} (q : Q) (h : Q → P := by intro q_; repeat (first | (with_reducible first | exact q_ | apply below_alloc | apply pw_below_drewN | apply below_drew1) | exact q_)) : P := h q
theorem impl_SweepPresence.y2_ {P Q : Prop} (q : Q) (h : Q → P := by intro q_; repeat (first | exact q_ | (with_reducible refine Kd.C_alloc ?_ _) | (with_reducible refine Kd.C_drewN ?_ _) | (with_reducible refine Kd.C_drew ?_))) : P := h q
theorem impl_SweepPresence.b3_ {w w1 W : World} {g : Nat} {o : Obj} (q : Aside0 (w.heap[g]? = some o)) (hb : Below W.heap.size W w1) (h : w.heap[g]? = some o → W.heap[g]? = some o := by intro q_; (with_reducible repeat (first | refine blk_drewN ?_ _ | refine blk_drew ?_ | refine blk_alloc ?_ _)); exact q_) : Aside0 (w1.heap[g]? = some o) := ⟨blk_below (h q.out) hb⟩
theorem impl_SweepPresence.b4_ {w W : World} {g k : Nat} {o : Obj} (hg : k = W.heap.size) (q : Aside0 (w.heap[g]? = some o)) (h : w.heap[g]? = some o → W.heap[g]? = some o := by intro q_; (with_reducible repeat (first | refine blk_drewN ?_ _ | refine blk_drew ?_ | refine blk_alloc ?_ _)); exact q_) : Aside0 (g ≠ k) := ⟨by rw [hg]; exact Nat.ne_of_lt (blk_lt (h q.out))⟩
theorem impl_SweepPresence.b5_ {w W : World} {g k : Nat} {o : Obj} (hg : k = W.heap.size) (q : Aside0 (w.heap[g]? = some o)) (h : w.heap[g]? = some o → W.heap[g]? = some o := by intro q_; (with_reducible repeat (first | refine blk_drewN ?_ _ | refine blk_drew ?_ | refine blk_alloc ?_ _)); exact q_) : Aside0 (k ≠ g) := ⟨by rw [hg]; exact Nat.ne_of_gt (blk_lt (h q.out))⟩
theorem impl_SweepPresence.b6_ {w w' W : World} {k : Nat} (hg : k = W.heap.size) (q : Aside0 (Below w.heap.size w w')) (h : Below w.heap.size w w' → Below w.heap.size w W := by intro q_; repeat (first | (with_reducible first | exact q_ | apply below_alloc | apply pw_below_drewN | apply below_drew1) | exact q_)) : Aside0 (w.heap.size ≤ k) := ⟨by rw [hg]; exact below_size (h q.out)⟩
theorem impl_SweepPresence.bx_ {P : Program} {ops : Array Oper} {rest : List Oper} {o : Oper} {a : Act} {Q : Exit → Act → World → Prop} {W : World} (N : Tmp) (cs : Array Value) (t : TypeId) (h : ∀ g, g = W.heap.size → ∀ w1, w1.heap[g]? = some (.cells cs t (0, 0)) → Below W.heap.size W w1 → wpList P ops Q rest (a.put o.dst (.pointer (some ⟨g, 0, none⟩))) w1) (hgd : o.guard = none := by rfl) (hd : o.dst = some N := by rfl) (hrun : (execOp a.eval o).run P W = .ok (.value (.pointer (some ⟨W.heap.size, 0, none⟩))) (W.alloc (.cells cs t (0, 0))) := by first | (go_simp; done) | (go_simp; rfl)) : wpList P ops Q (o :: rest) a W := box_event hgd hd hrun h
theorem impl_SweepPresence.c1_ {w : World} {g : Nat} {t : TypeId} {cs : Array Value} (q : Aside0 (w.heap[g]? = some (.cells cs t (0, 0)))) (i : Nat) (v : Value) (h : cs[i]? = some v := by rfl) : w.cell? ⟨g, i, none⟩ = some v := (blk_cell q.out i).trans h
theorem impl_SweepPresence.f1_ {w : World} {g : Nat} {t : TypeId} {cs : Array Value} (q : Aside0 (w.heap[g]? = some (.cells cs t (0, 0)))) (i : Nat) : w.frozen? ⟨g, i, none⟩ = false := blk_frozen q.out i
theorem impl_SweepPresence.r1_ {α : Type} {d : Kd α} {e base : Nat} {ok : Nat → Prop} {v : Value} {xs : List α} {w W w1 : World} (q : Aside0 (d.R e w base ok v xs)) (hb : Below W.heap.size W w1) (h : d.R e w base ok v xs → d.R e W base ok v xs := by intro q_; (with_reducible repeat (first | apply Kd.R_alloc | apply Kd.R_drewN | apply Kd.R_drew)); exact q_) : Aside0 (d.R e w1 base ok v xs) := ⟨Kd.R_below (h q.out) hb⟩
def impl_SweepPresence.f (k : Nat) (l0_0 : List (S63)) (l0_1 : List (S63)) (l0_2 : List (S73)) (a1 : Int) : Option ((List (S63)) × (List (S63)) × (List (S73)) × Bool) := (impl_ValidPresence.f k l0_0 l0_1 l0_2).bind fun t245 => (if t245 = true then ((impl_clonePresence.f l0_0 l0_1 l0_2).bind fun bt246 => ((impl_dropLeases_v0.f k bt246.1 a1).bind fun t256 => ((impl_dropLeases_v4.f k bt246.2.1 a1 t256 bt246.2.1 bt246.2.2).bind fun t259 => ((impl_isTick.f a1).bind fun t262 => (if t262 = true then ((impl_ValidPresence.f k t256 t259 bt246.2.2).bind fun t263 => (if t263 = true then (some (t256, t259, bt246.2.2, true)) else (some (([] : List (S63)), ([] : List (S63)), ([] : List (S73)), false)))) else (some (([] : List (S63)), ([] : List (S63)), ([] : List (S73)), false))))))) else (some (([] : List (S63)), ([] : List (S63)), ([] : List (S73)), false)))
theorem impl_SweepPresence.mono : ∀ a0 a1 a2 a3 k, LeO (impl_SweepPresence.f k a0 a1 a2 a3) (impl_SweepPresence.f (k + 1) a0 a1 a2 a3) := by
  intro a0 a1 a2 a3 k
  unfold impl_SweepPresence.f
  repeat' first
      | (with_reducible exact impl_ValidPresence.mono _ _ _ _)
      | (with_reducible exact impl_dropLeases_v0.mono _ _ _)
      | (with_reducible exact impl_dropLeases_v4.mono _ _ _ _ _ _)
      | (with_reducible exact LeO.refl _)
      | (with_reducible exact LeO.none _)
      | (with_reducible refine LeO.ite ?_ ?_)
      | (with_reducible refine LeO.bind ?_ (fun _ => ?_))
      | exact impl_ValidPresence.mono _ _ _ _
      | exact impl_dropLeases_v0.mono _ _ _
      | exact impl_dropLeases_v4.mono _ _ _ _ _ _
      | exact LeO.none _
      | refine LeO.ite ?_ ?_
      | refine LeO.bind ?_ (fun _ => ?_)
set_option maxHeartbeats 8000000 in
set_option maxRecDepth 100000 in
theorem impl_SweepPresence.calls (k : Nat) (A0_0 : Option Addr) (c0_0 : Nat) (l0_0 : List (S63)) (A0_1 : Option Addr) (c0_1 : Nat) (l0_1 : List (S63)) (A0_2 : Option Addr) (c0_2 : Nat) (l0_2 : List (S73)) (a1 : Int) (r1 : List (S63)) (r2 : List (S63)) (r3 : List (S73)) (r4 : Bool) (w : World) (hr0_0 : Kd.C k63 w A0_0 l0_0.length l0_0) (hc0_0 : l0_0.length ≤ c0_0) (hr0_1 : Kd.C k63 w A0_1 l0_1.length l0_1) (hc0_1 : l0_1.length ≤ c0_1) (hr0_2 : Kd.C k73 w A0_2 l0_2.length l0_2) (hc0_2 : l0_2.length ≤ c0_2) (h : impl_SweepPresence.f k l0_0 l0_1 l0_2 a1 = some (r1, r2, r3, r4)) :
    Calls Try.prog 31 #[.agg #[.slice A0_0 l0_0.length c0_0, .slice A0_1 l0_1.length c0_1, .slice A0_2 l0_2.length c0_2], .int .i64 a1] w fun e w' => ∃ v0_ v1_ v2_ : Value, e = .returned (.tuple #[.agg #[v0_, v1_, v2_], .bool r4]) ∧ Kd.R k63 63 w' w.heap.size (fun k_ => some k_ ≠ (v1_ : Value).ownBlock) v0_ r1 ∧ Kd.R k63 63 w' w.heap.size (fun k_ => some k_ ≠ (v0_ : Value).ownBlock) v1_ r2 ∧ Kd.R k73 73 w' w.heap.size (fun _ => True) v2_ r3 ∧ Below w.heap.size w w' := by
 have hu27 := Try.underlying27
 have HR0_0 := Aside0.mk hr0_0
 have HC0_0 := Aside0.mk hc0_0
 clear hr0_0 hc0_0
 have HR0_1 := Aside0.mk hr0_1
 have HC0_1 := Aside0.mk hc0_1
 clear hr0_1 hc0_1
 have HR0_2 := Aside0.mk hr0_2
 have HC0_2 := Aside0.mk hc0_2
 clear hr0_2 hc0_2
 have HB := Aside0.mk (Below.refl w.heap.size w)
 have H : ((impl_ValidPresence.f k l0_0 l0_1 l0_2).bind fun t245 => (if t245 = true then ((impl_clonePresence.f l0_0 l0_1 l0_2).bind fun bt246 => ((impl_dropLeases_v0.f k bt246.1 a1).bind fun t256 => ((impl_dropLeases_v4.f k bt246.2.1 a1 t256 bt246.2.1 bt246.2.2).bind fun t259 => ((impl_isTick.f a1).bind fun t262 => (if t262 = true then ((impl_ValidPresence.f k t256 t259 bt246.2.2).bind fun t263 => (if t263 = true then (some (t256, t259, bt246.2.2, true)) else (some (([] : List (S63)), ([] : List (S63)), ([] : List (S73)), false)))) else (some (([] : List (S63)), ([] : List (S63)), ([] : List (S73)), false))))))) else (some (([] : List (S63)), ([] : List (S63)), ([] : List (S73)), false)))) = some (r1, r2, r3, r4) := h
 clear h
 replace H := Option.bind_eq_some_iff.mp H
 obtain ⟨t245, A30, H⟩ := H
 replace H : (if t245 = true then ((impl_clonePresence.f l0_0 l0_1 l0_2).bind fun bt246 => ((impl_dropLeases_v0.f k bt246.1 a1).bind fun t256 => ((impl_dropLeases_v4.f k bt246.2.1 a1 t256 bt246.2.1 bt246.2.2).bind fun t259 => ((impl_isTick.f a1).bind fun t262 => (if t262 = true then ((impl_ValidPresence.f k t256 t259 bt246.2.2).bind fun t263 => (if t263 = true then (some (t256, t259, bt246.2.2, true)) else (some (([] : List (S63)), ([] : List (S63)), ([] : List (S73)), false)))) else (some (([] : List (S63)), ([] : List (S63)), ([] : List (S73)), false))))))) else (some (([] : List (S63)), ([] : List (S63)), ([] : List (S73)), false))) = some (r1, r2, r3, r4) := H
 have A3 := Aside0.mk A30
 clear A30
 by_cases c4 : t245 = true
 {
 subst c4
 have H1 : ((impl_clonePresence.f l0_0 l0_1 l0_2).bind fun bt246 => ((impl_dropLeases_v0.f k bt246.1 a1).bind fun t256 => ((impl_dropLeases_v4.f k bt246.2.1 a1 t256 bt246.2.1 bt246.2.2).bind fun t259 => ((impl_isTick.f a1).bind fun t262 => (if t262 = true then ((impl_ValidPresence.f k t256 t259 bt246.2.2).bind fun t263 => (if t263 = true then (some (t256, t259, bt246.2.2, true)) else (some (([] : List (S63)), ([] : List (S63)), ([] : List (S73)), false)))) else (some (([] : List (S63)), ([] : List (S63)), ([] : List (S73)), false))))))) = some (r1, r2, r3, r4) := by rw [if_pos rfl] at H; exact H
 clear H
 have H := H1
 clear H1
 replace H := Option.bind_eq_some_iff.mp H
 obtain ⟨⟨t246, t249, t252⟩, A50, H⟩ := H
 replace H : ((impl_dropLeases_v0.f k t246 a1).bind fun t256 => ((impl_dropLeases_v4.f k t249 a1 t256 t249 t252).bind fun t259 => ((impl_isTick.f a1).bind fun t262 => (if t262 = true then ((impl_ValidPresence.f k t256 t259 t252).bind fun t263 => (if t263 = true then (some (t256, t259, t252, true)) else (some (([] : List (S63)), ([] : List (S63)), ([] : List (S73)), false)))) else (some (([] : List (S63)), ([] : List (S63)), ([] : List (S73)), false)))))) = some (r1, r2, r3, r4) := H
 have A5 := Aside0.mk A50
 clear A50
 replace H := Option.bind_eq_some_iff.mp H
 obtain ⟨t256, A60, H⟩ := H
 replace H : ((impl_dropLeases_v4.f k t249 a1 t256 t249 t252).bind fun t259 => ((impl_isTick.f a1).bind fun t262 => (if t262 = true then ((impl_ValidPresence.f k t256 t259 t252).bind fun t263 => (if t263 = true then (some (t256, t259, t252, true)) else (some (([] : List (S63)), ([] : List (S63)), ([] : List (S73)), false)))) else (some (([] : List (S63)), ([] : List (S63)), ([] : List (S73)), false))))) = some (r1, r2, r3, r4) := H
 have A6 := Aside0.mk A60
 clear A60
 replace H := Option.bind_eq_some_iff.mp H
 obtain ⟨t259, A70, H⟩ := H
 replace H : ((impl_isTick.f a1).bind fun t262 => (if t262 = true then ((impl_ValidPresence.f k t256 t259 t252).bind fun t263 => (if t263 = true then (some (t256, t259, t252, true)) else (some (([] : List (S63)), ([] : List (S63)), ([] : List (S73)), false)))) else (some (([] : List (S63)), ([] : List (S63)), ([] : List (S73)), false)))) = some (r1, r2, r3, r4) := H
 have A7 := Aside0.mk A70
 clear A70
 replace H := Option.bind_eq_some_iff.mp H
 obtain ⟨t262, A80, H⟩ := H
 replace H : (if t262 = true then ((impl_ValidPresence.f k t256 t259 t252).bind fun t263 => (if t263 = true then (some (t256, t259, t252, true)) else (some (([] : List (S63)), ([] : List (S63)), ([] : List (S73)), false)))) else (some (([] : List (S63)), ([] : List (S63)), ([] : List (S73)), false))) = some (r1, r2, r3, r4) := H
 have A8 := Aside0.mk A80
 clear A80
 by_cases c9 : t262 = true
 {
 subst c9
 have H1 : ((impl_ValidPresence.f k t256 t259 t252).bind fun t263 => (if t263 = true then (some (t256, t259, t252, true)) else (some (([] : List (S63)), ([] : List (S63)), ([] : List (S73)), false)))) = some (r1, r2, r3, r4) := by rw [if_pos rfl] at H; exact H
 clear H
 have H := H1
 clear H1
 replace H := Option.bind_eq_some_iff.mp H
 obtain ⟨t263, A100, H⟩ := H
 replace H : (if t263 = true then (some (t256, t259, t252, true)) else (some (([] : List (S63)), ([] : List (S63)), ([] : List (S73)), false))) = some (r1, r2, r3, r4) := H
 have A10 := Aside0.mk A100
 clear A100
 by_cases c11 : t263 = true
 {
 subst c11
 have H1 : (some (t256, t259, t252, true)) = some (r1, r2, r3, r4) := by rw [if_pos rfl] at H; exact H
 clear H
 have H := H1
 clear H1
 simp only [Option.some.injEq, Prod.mk.injEq] at H
 obtain ⟨rfl, rfl, rfl, rfl⟩ := H
 go_enter Try.func31, Try.ntmps31
 try go_wp2_with (first | ((with_reducible refine gate_dst (N := 2) rfl ?_); (try (refine gate_guard (by rfl) ?_; dsimp only)); refine bx_ 2 #[.slice A0_0 l0_0.length c0_0, .slice A0_1 l0_1.length c0_1, .slice A0_2 l0_2.length c0_2] 27 ?_; intro gb240 hg w12 hbox hb; have GW240 := b6_ hg HB; have GE240 := b6_ hg HB; replace HB := Aside0.mk (below_step (y1_ HB.out) hb); have BK240 := Aside0.mk (hbox); clear hb hbox hg) | ((with_reducible refine gate_dst (N := 3) rfl ?_); (try (refine gate_guard (by rfl) ?_; dsimp only)); refine bx_ 3 #[.int .i64 a1] 2 ?_; intro gb241 hg w13 hbox hb; have GW241 := b6_ hg HB; have GE241 := b6_ hg HB; have NB240_241 := b4_ hg BK240; have NB241_240 := b5_ hg BK240; replace BK240 := b3_ BK240 hb; replace HB := Aside0.mk (below_step (y1_ HB.out) hb); have BK241 := Aside0.mk (hbox); clear hb hbox hg) | ((with_reducible refine gate_dst (N := 4) rfl ?_); (try (refine gate_guard (by rfl) ?_; dsimp only)); refine bx_ 4 #[.slice none 0 0, .slice none 0 0, .slice none 0 0] 27 ?_; intro gb242 hg w14 hbox hb; have GW242 := b6_ hg HB; have GE242 := b6_ hg HB; have NB240_242 := b4_ hg BK240; have NB242_240 := b5_ hg BK240; have NB241_242 := b4_ hg BK241; have NB242_241 := b5_ hg BK241; replace BK240 := b3_ BK240 hb; replace BK241 := b3_ BK241 hb; replace HB := Aside0.mk (below_step (y1_ HB.out) hb); have BK242 := Aside0.mk (hbox); clear hb hbox hg; have hnb15 := NB240_241.out; have hnc15 := NB241_240.out; have hnb16 := NB240_242.out; have hnc16 := NB242_240.out; have hcz17_0 := c1_ BK240 0 (.slice A0_0 l0_0.length c0_0); have hcz17_1 := c1_ BK240 1 (.slice A0_1 l0_1.length c0_1); have hcz17_2 := c1_ BK240 2 (.slice A0_2 l0_2.length c0_2); have hfz17_0 := f1_ BK240 0; have hfz17_1 := f1_ BK240 1; have hfz17_2 := f1_ BK240 2))
 go_at_call 42
 go_in
 try go_wp2_with (first | ((with_reducible refine gate_dst (N := 2) rfl ?_); (try (refine gate_guard (by rfl) ?_; dsimp only)); refine bx_ 2 #[.slice A0_0 l0_0.length c0_0, .slice A0_1 l0_1.length c0_1, .slice A0_2 l0_2.length c0_2] 27 ?_; intro gb243 hg w18 hbox hb; have GW243 := b6_ hg HB; have GE243 := b6_ hg HB; have NB241_243 := b4_ hg BK241; have NB243_241 := b5_ hg BK241; have NB242_243 := b4_ hg BK242; have NB243_242 := b5_ hg BK242; replace BK241 := b3_ BK241 hb; replace BK242 := b3_ BK242 hb; replace HB := Aside0.mk (below_step (y1_ HB.out) hb); have BK243 := Aside0.mk (hbox); clear hb hbox hg) | ((with_reducible refine gate_dst (N := 4) rfl ?_); (try (refine gate_guard (by rfl) ?_; dsimp only)); refine bx_ 4 #[.slice none 0 0, .slice none 0 0, .slice none 0 0] 27 ?_; intro gb244 hg w19 hbox hb; have GW244 := b6_ hg HB; have GE244 := b6_ hg HB; have NB241_244 := b4_ hg BK241; have NB244_241 := b5_ hg BK241; have NB242_244 := b4_ hg BK242; have NB244_242 := b5_ hg BK242; have NB243_244 := b4_ hg BK243; have NB244_243 := b5_ hg BK243; replace BK241 := b3_ BK241 hb; replace BK242 := b3_ BK242 hb; replace BK243 := b3_ BK243 hb; replace HB := Aside0.mk (below_step (y1_ HB.out) hb); have BK244 := Aside0.mk (hbox); clear hb hbox hg; have hnb20 := NB243_241.out; have hnc20 := NB241_243.out; have hnb21 := NB243_242.out; have hnc21 := NB242_243.out; have hnb22 := NB243_244.out; have hnc22 := NB244_243.out; have hcz23_0 := c1_ BK243 0 (.slice A0_0 l0_0.length c0_0); have hcz23_1 := c1_ BK243 1 (.slice A0_1 l0_1.length c0_1); have hcz23_2 := c1_ BK243 2 (.slice A0_2 l0_2.length c0_2); have hfz23_0 := f1_ BK243 0; have hfz23_1 := f1_ BK243 1; have hfz23_2 := f1_ BK243 2) | ((with_reducible refine gate_callee (f := 19) rfl ?_); refine goesL_ (some 8) rfl rfl Try.func19 s2_ rfl #[.agg #[.slice A0_0 l0_0.length c0_0, .slice A0_1 l0_1.length c0_1, .slice A0_2 l0_2.length c0_2]] rfl s3_ ?_; (with_reducible refine (impl_ValidPresence.calls k _ _ l0_0 _ _ l0_1 _ _ l0_2 true _ ?side1 ?side2 ?side3 ?side4 ?side5 ?side6 A3.out).mono ?_); (case side1 => exact y2_ (Kd.C_below HR0_0.out HB.out)); (case side2 => exact HC0_0.out); (case side3 => exact y2_ (Kd.C_below HR0_1.out HB.out)); (case side4 => exact HC0_1.out); (case side5 => exact y2_ (Kd.C_below HR0_2.out HB.out)); (case side6 => exact HC0_2.out); rintro e w24 ⟨rfl, hb⟩; refine ⟨_, rfl, ?_⟩; replace BK241 := b3_ BK241 hb; replace BK242 := b3_ BK242 hb; replace BK243 := b3_ BK243 hb; replace BK244 := b3_ BK244 hb; replace HB := Aside0.mk (below_step (y1_ HB.out) hb); (try clear hb); (try clear hb2); (try clear hk); (try clear hi); have hcz25_0 := c1_ BK243 0 (.slice A0_0 l0_0.length c0_0); have hcz25_1 := c1_ BK243 1 (.slice A0_1 l0_1.length c0_1); have hcz25_2 := c1_ BK243 2 (.slice A0_2 l0_2.length c0_2); have hfz25_0 := f1_ BK243 0; have hfz25_1 := f1_ BK243 1; have hfz25_2 := f1_ BK243 2) | ((with_reducible refine gate_callee (f := 90) rfl ?_); refine goesL_ (some 12) rfl rfl Try.func90 s2_ rfl #[.agg #[.slice A0_0 l0_0.length c0_0, .slice A0_1 l0_1.length c0_1, .slice A0_2 l0_2.length c0_2]] rfl s3_ ?_; (with_reducible refine (impl_clonePresence.calls _ _ l0_0 _ _ l0_1 _ _ l0_2 t246 t249 t252 _ ?side1 ?side2 ?side3 ?side4 ?side5 ?side6 A5.out).mono ?_); (case side1 => exact y2_ (Kd.C_below HR0_0.out HB.out)); (case side2 => exact HC0_0.out); (case side3 => exact y2_ (Kd.C_below HR0_1.out HB.out)); (case side4 => exact HC0_1.out); (case side5 => exact y2_ (Kd.C_below HR0_2.out HB.out)); (case side6 => exact HC0_2.out); rintro e w26 ⟨v247, v250, v253, rfl, ho0, ho1, ho2, hb⟩; refine ⟨_, rfl, ?_⟩; have HO248 := Aside0.mk (Kd.R_lower ho0 (below_size (y1_ HB.out))); have HO251 := Aside0.mk (Kd.R_lower ho1 (below_size (y1_ HB.out))); have HO254 := Aside0.mk (Kd.R_lower ho2 (below_size (y1_ HB.out))); replace BK241 := b3_ BK241 hb; replace BK242 := b3_ BK242 hb; replace BK244 := b3_ BK244 hb; replace HB := Aside0.mk (below_step (y1_ HB.out) hb); (try clear hb); (try clear hb2); (try clear hk); (try clear hi); (try clear ho0); (try clear ho1); (try clear ho2)) | ((with_reducible refine gate_dst (N := 6) rfl ?_); (try (refine gate_guard (by rfl) ?_; dsimp only)); refine bx_ 6 #[.slice none 0 0, .slice none 0 0, .slice none 0 0] 27 ?_; intro gb255 hg w27 hbox hb; have GW255 := b6_ hg HB; have GE255 := b6_ hg HB; have NB241_255 := b4_ hg BK241; have NB255_241 := b5_ hg BK241; have NB242_255 := b4_ hg BK242; have NB255_242 := b5_ hg BK242; have NB244_255 := b4_ hg BK244; have NB255_244 := b5_ hg BK244; replace HO248 := r1_ HO248 hb; replace HO251 := r1_ HO251 hb; replace HO254 := r1_ HO254 hb; replace BK241 := b3_ BK241 hb; replace BK242 := b3_ BK242 hb; replace BK244 := b3_ BK244 hb; replace HB := Aside0.mk (below_step (y1_ HB.out) hb); have BK255 := Aside0.mk (hbox); clear hb hbox hg; obtain ⟨Ao28, co28, eo28⟩ := Kd.R_slice HO248.out; subst eo28; have hnb29 := NB255_241.out; have hnc29 := NB241_255.out; have hnb30 := NB255_242.out; have hnc30 := NB242_255.out; have hnb31 := NB255_244.out; have hnc31 := NB244_255.out; have hcz32_0 := c1_ BK255 0 (.slice none 0 0); have hcz32_1 := c1_ BK255 1 (.slice none 0 0); have hcz32_2 := c1_ BK255 2 (.slice none 0 0); have hfz32_0 := f1_ BK255 0; have hfz32_1 := f1_ BK255 1; have hfz32_2 := f1_ BK255 2; obtain ⟨Ao33, co33, eo33⟩ := Kd.R_slice HO251.out; subst eo33; obtain ⟨Ao34, co34, eo34⟩ := Kd.R_slice HO254.out; subst eo34))
 go_at_call 72
 go_in
 have n0_ : Aside0 (Kd.R k63 63 (((w27.setCell ⟨gb255, 0, none⟩ (.slice Ao28 t246.length co28)).setCell ⟨gb255, 1, none⟩ (.slice Ao33 t249.length co33)).setCell ⟨gb255, 2, none⟩ (.slice Ao34 t252.length co34)) w.heap.size (fun k_ => some k_ ≠ (.slice Ao33 t249.length co33 : Value).ownBlock) (.slice Ao28 t246.length co28) t246) := ⟨by (with_reducible repeat (first | apply Kd.R_alloc | apply Kd.R_drewN | apply Kd.R_drew)); exact Kd.R_mono (Kd.R_far3 (g := gb255) (Kd.R_types HO248.out BK255.out (by decide)) (fun _ hk => hk.2)) (fun _ hk => hk.1)⟩
 have n1_ : Aside0 (Kd.R k63 63 (((w27.setCell ⟨gb255, 0, none⟩ (.slice Ao28 t246.length co28)).setCell ⟨gb255, 1, none⟩ (.slice Ao33 t249.length co33)).setCell ⟨gb255, 2, none⟩ (.slice Ao34 t252.length co34)) w.heap.size (fun k_ => some k_ ≠ (.slice Ao28 t246.length co28 : Value).ownBlock) (.slice Ao33 t249.length co33) t249) := ⟨by (with_reducible repeat (first | apply Kd.R_alloc | apply Kd.R_drewN | apply Kd.R_drew)); exact Kd.R_mono (Kd.R_far3 (g := gb255) (Kd.R_types HO251.out BK255.out (by decide)) (fun _ hk => hk.2)) (fun _ hk => hk.1)⟩
 have n2_ : Aside0 (Kd.R k73 73 (((w27.setCell ⟨gb255, 0, none⟩ (.slice Ao28 t246.length co28)).setCell ⟨gb255, 1, none⟩ (.slice Ao33 t249.length co33)).setCell ⟨gb255, 2, none⟩ (.slice Ao34 t252.length co34)) w.heap.size (fun _ => True) (.slice Ao34 t252.length co34) t252) := ⟨by (with_reducible repeat (first | apply Kd.R_alloc | apply Kd.R_drewN | apply Kd.R_drew)); exact Kd.R_mono (Kd.R_far3 (g := gb255) (Kd.R_types HO254.out BK255.out (by decide)) (fun _ hk => hk.2)) (fun _ hk => trivial)⟩
 have n3_ : Aside0 ((((w27.setCell ⟨gb255, 0, none⟩ (.slice Ao28 t246.length co28)).setCell ⟨gb255, 1, none⟩ (.slice Ao33 t249.length co33)).setCell ⟨gb255, 2, none⟩ (.slice Ao34 t252.length co34)).heap[gb241]? = some (.cells #[.int .i64 a1] 2 (0, 0))) := ⟨by (with_reducible repeat (first | refine blk_drewN ?_ _ | refine blk_drew ?_ | refine blk_alloc ?_ _)); refine blk_far3 ?_ NB241_255.out; (with_reducible repeat (first | refine blk_drewN ?_ _ | refine blk_drew ?_ | refine blk_alloc ?_ _)); exact BK241.out⟩
 have n4_ : Aside0 ((((w27.setCell ⟨gb255, 0, none⟩ (.slice Ao28 t246.length co28)).setCell ⟨gb255, 1, none⟩ (.slice Ao33 t249.length co33)).setCell ⟨gb255, 2, none⟩ (.slice Ao34 t252.length co34)).heap[gb242]? = some (.cells #[.slice none 0 0, .slice none 0 0, .slice none 0 0] 27 (0, 0))) := ⟨by (with_reducible repeat (first | refine blk_drewN ?_ _ | refine blk_drew ?_ | refine blk_alloc ?_ _)); refine blk_far3 ?_ NB242_255.out; (with_reducible repeat (first | refine blk_drewN ?_ _ | refine blk_drew ?_ | refine blk_alloc ?_ _)); exact BK242.out⟩
 have n5_ : Aside0 ((((w27.setCell ⟨gb255, 0, none⟩ (.slice Ao28 t246.length co28)).setCell ⟨gb255, 1, none⟩ (.slice Ao33 t249.length co33)).setCell ⟨gb255, 2, none⟩ (.slice Ao34 t252.length co34)).heap[gb244]? = some (.cells #[.slice none 0 0, .slice none 0 0, .slice none 0 0] 27 (0, 0))) := ⟨by (with_reducible repeat (first | refine blk_drewN ?_ _ | refine blk_drew ?_ | refine blk_alloc ?_ _)); refine blk_far3 ?_ NB244_255.out; (with_reducible repeat (first | refine blk_drewN ?_ _ | refine blk_drew ?_ | refine blk_alloc ?_ _)); exact BK244.out⟩
 have n6_ : Aside0 ((((w27.setCell ⟨gb255, 0, none⟩ (.slice Ao28 t246.length co28)).setCell ⟨gb255, 1, none⟩ (.slice Ao33 t249.length co33)).setCell ⟨gb255, 2, none⟩ (.slice Ao34 t252.length co34)).heap[gb255]? = some (.cells #[.slice Ao28 t246.length co28, .slice Ao33 t249.length co33, .slice Ao34 t252.length co34] 27 (0, 0))) := ⟨by (with_reducible repeat (first | refine blk_drewN ?_ _ | refine blk_drew ?_ | refine blk_alloc ?_ _)); refine blk_put3 (cs := #[.slice none 0 0, .slice none 0 0, .slice none 0 0]) ?_ rfl; (with_reducible repeat (first | refine blk_drewN ?_ _ | refine blk_drew ?_ | refine blk_alloc ?_ _)); exact BK255.out⟩
 have n7_ : Aside0 (Below w.heap.size w (((w27.setCell ⟨gb255, 0, none⟩ (.slice Ao28 t246.length co28)).setCell ⟨gb255, 1, none⟩ (.slice Ao33 t249.length co33)).setCell ⟨gb255, 2, none⟩ (.slice Ao34 t252.length co34))) := ⟨by repeat (first | (with_reducible first | exact HB.out | apply below_alloc | apply pw_below_drewN | apply below_drew1 | refine below_set ?_ GE255.out) | exact HB.out)⟩
 (try clear HO248)
 (try clear HO251)
 (try clear HO254)
 (try clear BK241)
 (try clear BK242)
 (try clear BK244)
 (try clear BK255)
 (try clear HB)
 generalize (((w27.setCell ⟨gb255, 0, none⟩ (.slice Ao28 t246.length co28)).setCell ⟨gb255, 1, none⟩ (.slice Ao33 t249.length co33)).setCell ⟨gb255, 2, none⟩ (.slice Ao34 t252.length co34)) = w35 at n0_ n1_ n2_ n3_ n4_ n5_ n6_ n7_ ⊢
 have HO248 := n0_
 have HO251 := n1_
 have HO254 := n2_
 have BK241 := n3_
 have BK242 := n4_
 have BK244 := n5_
 have BK255 := n6_
 have HB := n7_
 clear n0_ n1_ n2_ n3_ n4_ n5_ n6_ n7_
 try go_wp2_with (first | ((with_reducible refine gate_dst (N := 2) rfl ?_); (try (refine gate_guard (by rfl) ?_; dsimp only)); refine bx_ 2 #[.pointer (some ⟨gb255, 0, none⟩)] 60 ?_; intro gb300 hg w300 hbox hb; have NB241_300 := b4_ hg BK241; have NB300_241 := b5_ hg BK241; have NB242_300 := b4_ hg BK242; have NB300_242 := b5_ hg BK242; have NB244_300 := b4_ hg BK244; have NB300_244 := b5_ hg BK244; have NB255_300 := b4_ hg BK255; have NB300_255 := b5_ hg BK255; replace HO248 := r1_ HO248 hb; replace HO251 := r1_ HO251 hb; replace HO254 := r1_ HO254 hb; replace BK241 := b3_ BK241 hb; replace BK242 := b3_ BK242 hb; replace BK244 := b3_ BK244 hb; replace BK255 := b3_ BK255 hb; replace HB := Aside0.mk (below_step (y1_ HB.out) hb); have BK300 := Aside0.mk (hbox); clear hb hbox hg))
 replace HO248 := Aside0.mk (Kd.R_drew HO248.out)
 replace HO251 := Aside0.mk (Kd.R_drew HO251.out)
 replace HO254 := Aside0.mk (Kd.R_drew HO254.out)
 replace BK241 := Aside0.mk (blk_drew BK241.out)
 replace BK300 := Aside0.mk (blk_drew BK300.out)
 replace BK242 := Aside0.mk (blk_drew BK242.out)
 replace BK244 := Aside0.mk (blk_drew BK244.out)
 replace BK255 := Aside0.mk (blk_drew BK255.out)
 replace HB := Aside0.mk (below_drew1 HB.out)
 refine start_ (n := 10) (S := fun w' => w'.cell? ⟨gb255, 0, none⟩ = some (.slice Ao28 t246.length co28) ∧ w'.cell? ⟨gb255, 1, none⟩ = some (.slice Ao33 t249.length co33) ∧ w'.cell? ⟨gb255, 2, none⟩ = some (.slice Ao34 t252.length co34) ∧ w'.cell? ⟨gb300, 0, none⟩ = some (.pointer (some ⟨gb255, 0, none⟩))) (ds := [9]) m0_ s2_ rfl rfl ⟨(blk_cell BK255.out 0).trans rfl, (blk_cell BK255.out 1).trans rfl, (blk_cell BK255.out 2).trans rfl, (blk_cell BK300.out 0).trans rfl⟩ (fun hHeld => ?_)
 generalize w35.drew = w36 at HO248 HO251 HO254 BK241 BK300 BK242 BK244 BK255 HB HO248 HO251 HO254 hHeld ⊢
 refine take_ (i := 0) (N := some 4) (v := ?_) (a' := ?_) m1_ rfl rfl s2_ (fun _ _ _ h => h) (Or.inl ⟨by rfl, ?_⟩) hHeld ?_ ?_
 rotate_left
 {
 rintro w' ⟨s0, s1, s2, s3⟩
 go_simp
 with_reducible rfl}
 rotate_left
 · exact p1_
 refine take_ (i := 1) (N := some 5) (v := ?_) (a' := ?_) m2_ rfl rfl s2_ (fun _ _ _ h => h) (Or.inl ⟨by rfl, ?_⟩) hHeld ?_ ?_
 rotate_left
 {
 rintro w' ⟨s0, s1, s2, s3⟩
 go_simp
 with_reducible rfl}
 rotate_left
 · exact p1_
 refine pure_ (i := 2) (N := some 6) (v := ?_) (a' := ?_) m3_ rfl rfl s2_ (fun _ _ _ h => h) (Or.inl ⟨by rfl, ?_⟩) ?_ ?_
 rotate_left
 {
 intro w'
 go_simp
 with_reducible rfl}
 rotate_left
 · exact p1_
 refine pure_ (i := 3) (N := some 7) (v := ?_) (a' := ?_) m4_ rfl rfl s2_ (fun _ _ _ h => h) (Or.inl ⟨by rfl, ?_⟩) ?_ ?_
 rotate_left
 {
 intro w'
 go_simp
 with_reducible rfl}
 rotate_left
 · exact p1_
 refine pure_ (i := 5) (N := some 9) (v := ?_) (a' := ?_) m5_ rfl rfl s2_ (fun _ _ _ h => h) (Or.inl ⟨by rfl, ?_⟩) ?_ ?_
 rotate_left
 {
 intro w'
 go_simp
 with_reducible rfl}
 rotate_left
 · exact p1_
 refine take_ (i := 4) (N := some 8) (v := ?_) (a' := ?_) m6_ rfl rfl s2_ (fun _ _ _ h => h) (Or.inl ⟨by rfl, ?_⟩) hHeld ?_ ?_
 rotate_left
 {
 rintro w' ⟨s0, s1, s2, s3⟩
 go_simp
 with_reducible rfl}
 rotate_left
 · exact p1_
 refine one_ (i := 6) (N := some 10) m7_ rfl rfl s2_ (by decide) (fun K hK => ?_)
 refine goes_ Try.func53 s2_ rfl #[.slice Ao28 t246.length co28, .func (.func 73) #[] #[.pointer (some ⟨gb241, 0, none⟩)]] (by rfl) rfl rfl s3_ ?_
 with_reducible refine (impl_dropLeases_v0.calls k (fun k_ => some k_ = (.slice Ao28 t246.length co28 : Value).ownBlock) (.slice Ao28 t246.length co28) t246 gb241 a1 t256 w _ ?side1 ?side2 ?side3 A6.out).mono ?_
 (case side1 => repeat (first | (with_reducible first | exact HB.out | apply below_alloc | apply pw_below_drewN | apply below_drew1) | exact HB.out))
 (case side2 => exact (b1_ BK241.out))
 (case side3 => exact Kd.R_tight rfl HO248.out)
 rintro e w37 ⟨v257, rfl, ho0, hb, hkp⟩
 refine ⟨_, rfl, ?_⟩
 have n0_ := Aside0.mk (blk_kept (b1_ BK241.out) hkp (fun hs_ => (fun e_ => (Kd.R_ne HO248.out BK241.out (by decide)) e_) hs_))
 have n0q_ := Aside0.mk (blk_kept (b1_ BK300.out) hkp (fun hs_ => (fun e_ => (Kd.R_ne HO248.out BK300.out (by decide)) e_) hs_))
 have n1_ := Aside0.mk (blk_kept (b1_ BK242.out) hkp (fun hs_ => (fun e_ => (Kd.R_ne HO248.out BK242.out (by decide)) e_) hs_))
 have n2_ := Aside0.mk (blk_kept (b1_ BK244.out) hkp (fun hs_ => (fun e_ => (Kd.R_ne HO248.out BK244.out (by decide)) e_) hs_))
 have n3_ := Aside0.mk (Kd.R_mono (ok' := fun k_ => some k_ ≠ (v257 : Value).ownBlock) (Kd.R_keptB (HO251.out) hkp (fun k_ hk_ hs_ => (hk_) hs_)) (fun k_ hk_ => fun e_ => Or.elim (ho0.1 k_ e_.symm) (fun hs_ => hk_.2.1 hs_) (fun hn_ => Nat.not_le.2 hk_.2.2 hn_)))
 have n4_ := Aside0.mk (Kd.R_mono (ok' := fun k_ => True) (Kd.R_keptB ((Kd.R_apart' HO254.out (Kd.R_typed HO248.out) (by decide))) hkp (fun k_ hk_ hs_ => (hk_.2) hs_)) (fun k_ hk_ => trivial))
 have n5_ := Aside0.mk (blk_kept (b1_ BK255.out) hkp (fun hs_ => (fun e_ => (Kd.R_ne HO248.out BK255.out (by decide)) e_) hs_))
 have n6_ := Aside0.mk (Kd.R_mono (ok' := fun k_ => some k_ ≠ (.slice Ao33 t249.length co33 : Value).ownBlock) ho0 (fun k_ hk_ => Or.elim hk_ (fun hs_ => fun e_ => (((HO251.out).1 k_ e_.symm)) hs_) (fun hn_ => (Kd.fresh' (Kd.R_lt (b2_ HO251.out)) k_ hn_))))
 have n7_ := Aside0.mk (hb)
 clear BK241
 clear BK300
 clear BK242
 clear BK244
 clear HO251
 clear HO254
 clear BK255
 clear HB
 clear HO248
 have BK241 := n0_
 have BK300 := n0q_
 have BK242 := n1_
 have BK244 := n2_
 have HO251 := n3_
 have HO254 := n4_
 have BK255 := n5_
 have HO258 := n6_
 have HB := n7_
 clear n0_ n1_ n2_ n3_ n4_ n5_ n6_ n7_ n0q_
 (try clear hb)
 (try clear hkp)
 (try clear ho0)
 obtain ⟨Ao38, co38, eo38⟩ := Kd.R_slice HO258.out
 (first | subst eo38 | (injection eo38 with f1_ f2_ f3_; have f4_ := f1_.symm; have f5_ := f3_.symm; clear f1_ f2_ f3_; subst f4_; subst f5_))
 refine hK.out _ _ ⟨(blk_cell BK255.out 0).trans rfl, (blk_cell BK255.out 1).trans rfl, (blk_cell BK255.out 2).trans rfl, (blk_cell BK300.out 0).trans rfl⟩ (fun hHeld => ?_)
 clear hK K
 refine norm_ (a' := ?_) ?_ ?_
 rotate_left
 {
 show Act.put _ (some 10) _ = _
 simp only [Act.put, List.setIfInBounds_toArray, List.set_cons_zero, List.set_cons_succ, i64_w, i32_w]
 rfl}
 refine pure_ (i := 7) (N := some 11) (v := ?_) (a' := ?_) m8_ rfl rfl s2_ (fun _ _ _ h => h) (Or.inl ⟨by rfl, ?_⟩) ?_ ?_
 rotate_left
 {
 intro w'
 go_simp
 with_reducible rfl}
 rotate_left
 · exact p1_
 refine pure_ (i := 8) (N := some 12) (v := ?_) (a' := ?_) m9_ rfl rfl s2_ (fun _ _ _ h => h) (Or.inl ⟨by rfl, ?_⟩) ?_ ?_
 rotate_left
 {
 intro w'
 go_simp
 with_reducible rfl}
 rotate_left
 · exact p1_
 refine last_ (i := 9) (N := none) m10_ rfl rfl s2_ (by decide) (fun K hK => ?_)
 have hs39 : w37.cell? ⟨gb255, 0, none⟩ = some (.slice Ao28 t246.length co28) := (blk_cell BK255.out 0).trans rfl
 have hfs39 := blk_frozen BK255.out 0
 have hns39_0 := NB241_255.out
 have hns39_0q := NB300_255.out
 have hns39_1 := NB242_255.out
 have hns39_2 := NB244_255.out
 have hms39_0 := NB255_241.out
 have hms39_0q := NB255_300.out
 have hms39_1 := NB255_242.out
 have hms39_2 := NB255_244.out
 refine skip_ (w1 := ?_) (by rfl) rfl ?_ ?_
 rotate_left
 {
 go_simp
 rfl}
 refine hK.out _ _ ?_
 clear hK K
 refine done_ s2_ ?_
 try go_wp2_with (fail)
 have n0_ : Aside0 (Kd.R k63 63 (w37.setCell ⟨gb255, 0, none⟩ (.slice Ao38 t256.length co38)) w.heap.size (fun k_ => some k_ ≠ (.slice Ao38 t256.length co38 : Value).ownBlock) (.slice Ao33 t249.length co33) t249) := ⟨by (with_reducible repeat (first | apply Kd.R_alloc | apply Kd.R_drewN | apply Kd.R_drew)); exact Kd.R_mono (Kd.R_far (p := ⟨gb255, 0, none⟩) (Kd.R_types HO251.out BK255.out (by decide)) (fun _ hk => hk.2) (.slice Ao38 t256.length co38)) (fun _ hk => hk.1)⟩
 have n1_ : Aside0 (Kd.R k73 73 (w37.setCell ⟨gb255, 0, none⟩ (.slice Ao38 t256.length co38)) w.heap.size (fun _ => True) (.slice Ao34 t252.length co34) t252) := ⟨by (with_reducible repeat (first | apply Kd.R_alloc | apply Kd.R_drewN | apply Kd.R_drew)); exact Kd.R_mono (Kd.R_far (p := ⟨gb255, 0, none⟩) (Kd.R_types HO254.out BK255.out (by decide)) (fun _ hk => hk.2) (.slice Ao38 t256.length co38)) (fun _ hk => trivial)⟩
 have n2_ : Aside0 (Kd.R k63 63 (w37.setCell ⟨gb255, 0, none⟩ (.slice Ao38 t256.length co38)) w.heap.size (fun k_ => some k_ ≠ (.slice Ao33 t249.length co33 : Value).ownBlock) (.slice Ao38 t256.length co38) t256) := ⟨by (with_reducible repeat (first | apply Kd.R_alloc | apply Kd.R_drewN | apply Kd.R_drew)); exact Kd.R_mono (Kd.R_far (p := ⟨gb255, 0, none⟩) (Kd.R_types HO258.out BK255.out (by decide)) (fun _ hk => hk.2) (.slice Ao38 t256.length co38)) (fun _ hk => hk.1)⟩
 have n3_ : Aside0 ((w37.setCell ⟨gb255, 0, none⟩ (.slice Ao38 t256.length co38)).heap[gb241]? = some (.cells #[.int .i64 a1] 2 (0, 0))) := ⟨by (with_reducible repeat (first | refine blk_drewN ?_ _ | refine blk_drew ?_ | refine blk_alloc ?_ _)); refine blk_far ?_ NB241_255.out _; (with_reducible repeat (first | refine blk_drewN ?_ _ | refine blk_drew ?_ | refine blk_alloc ?_ _)); exact BK241.out⟩
 have n3q_ : Aside0 ((w37.setCell ⟨gb255, 0, none⟩ (.slice Ao38 t256.length co38)).heap[gb300]? = some (.cells #[.pointer (some ⟨gb255, 0, none⟩)] 60 (0, 0))) := ⟨by (with_reducible repeat (first | refine blk_drewN ?_ _ | refine blk_drew ?_ | refine blk_alloc ?_ _)); refine blk_far ?_ NB300_255.out _; (with_reducible repeat (first | refine blk_drewN ?_ _ | refine blk_drew ?_ | refine blk_alloc ?_ _)); exact BK300.out⟩
 have n4_ : Aside0 ((w37.setCell ⟨gb255, 0, none⟩ (.slice Ao38 t256.length co38)).heap[gb242]? = some (.cells #[.slice none 0 0, .slice none 0 0, .slice none 0 0] 27 (0, 0))) := ⟨by (with_reducible repeat (first | refine blk_drewN ?_ _ | refine blk_drew ?_ | refine blk_alloc ?_ _)); refine blk_far ?_ NB242_255.out _; (with_reducible repeat (first | refine blk_drewN ?_ _ | refine blk_drew ?_ | refine blk_alloc ?_ _)); exact BK242.out⟩
 have n5_ : Aside0 ((w37.setCell ⟨gb255, 0, none⟩ (.slice Ao38 t256.length co38)).heap[gb244]? = some (.cells #[.slice none 0 0, .slice none 0 0, .slice none 0 0] 27 (0, 0))) := ⟨by (with_reducible repeat (first | refine blk_drewN ?_ _ | refine blk_drew ?_ | refine blk_alloc ?_ _)); refine blk_far ?_ NB244_255.out _; (with_reducible repeat (first | refine blk_drewN ?_ _ | refine blk_drew ?_ | refine blk_alloc ?_ _)); exact BK244.out⟩
 have n6_ : Aside0 ((w37.setCell ⟨gb255, 0, none⟩ (.slice Ao38 t256.length co38)).heap[gb255]? = some (.cells #[.slice Ao38 t256.length co38, .slice Ao33 t249.length co33, .slice Ao34 t252.length co34] 27 (0, 0))) := ⟨by (with_reducible repeat (first | refine blk_drewN ?_ _ | refine blk_drew ?_ | refine blk_alloc ?_ _)); refine blk_put (cs := #[.slice Ao28 t246.length co28, .slice Ao33 t249.length co33, .slice Ao34 t252.length co34]) ?_ 0 _ rfl; (with_reducible repeat (first | refine blk_drewN ?_ _ | refine blk_drew ?_ | refine blk_alloc ?_ _)); exact BK255.out⟩
 have n7_ : Aside0 (Below w.heap.size w (w37.setCell ⟨gb255, 0, none⟩ (.slice Ao38 t256.length co38))) := ⟨by repeat (first | (with_reducible first | exact HB.out | apply below_alloc | apply pw_below_drewN | apply below_drew1 | refine below_set ?_ GE255.out) | exact HB.out)⟩
 (try clear HO251)
 (try clear HO254)
 (try clear HO258)
 (try clear BK241)
 (try clear BK300)
 (try clear BK242)
 (try clear BK244)
 (try clear BK255)
 (try clear HB)
 generalize (w37.setCell ⟨gb255, 0, none⟩ (.slice Ao38 t256.length co38)) = w40 at n0_ n1_ n2_ n3_ n4_ n5_ n6_ n7_ n3q_ ⊢
 have HO251 := n0_
 have HO254 := n1_
 have HO258 := n2_
 have BK241 := n3_
 have BK300 := n3q_
 have BK242 := n4_
 have BK244 := n5_
 have BK255 := n6_
 have HB := n7_
 clear n0_ n1_ n2_ n3_ n4_ n5_ n6_ n7_ n3q_
 replace HO251 := Aside0.mk (Kd.R_drew HO251.out)
 replace HO254 := Aside0.mk (Kd.R_drew HO254.out)
 replace HO258 := Aside0.mk (Kd.R_drew HO258.out)
 replace BK241 := Aside0.mk (blk_drew BK241.out)
 replace BK300 := Aside0.mk (blk_drew BK300.out)
 replace BK242 := Aside0.mk (blk_drew BK242.out)
 replace BK244 := Aside0.mk (blk_drew BK244.out)
 replace BK255 := Aside0.mk (blk_drew BK255.out)
 replace HB := Aside0.mk (below_drew1 HB.out)
 refine start_ (n := 10) (S := fun w' => w'.cell? ⟨gb255, 0, none⟩ = some (.slice Ao38 t256.length co38) ∧ w'.cell? ⟨gb255, 1, none⟩ = some (.slice Ao33 t249.length co33) ∧ w'.cell? ⟨gb255, 2, none⟩ = some (.slice Ao34 t252.length co34) ∧ w'.cell? ⟨gb300, 0, none⟩ = some (.pointer (some ⟨gb255, 0, none⟩))) (ds := [9]) m0_ s2_ rfl rfl ⟨(blk_cell BK255.out 0).trans rfl, (blk_cell BK255.out 1).trans rfl, (blk_cell BK255.out 2).trans rfl, (blk_cell BK300.out 0).trans rfl⟩ (fun hHeld => ?_)
 generalize w40.drew = w41 at HO251 HO254 HO258 BK241 BK300 BK242 BK244 BK255 HB HO251 HO254 HO258 hHeld ⊢
 refine take_ (i := 0) (N := some 13) (v := ?_) (a' := ?_) m1_ rfl rfl s2_ (fun _ _ _ h => h) (Or.inl ⟨by rfl, ?_⟩) hHeld ?_ ?_
 rotate_left
 {
 rintro w' ⟨s0, s1, s2, s3⟩
 go_simp
 with_reducible rfl}
 rotate_left
 · exact p1_
 refine take_ (i := 1) (N := some 14) (v := ?_) (a' := ?_) m2_ rfl rfl s2_ (fun _ _ _ h => h) (Or.inl ⟨by rfl, ?_⟩) hHeld ?_ ?_
 rotate_left
 {
 rintro w' ⟨s0, s1, s2, s3⟩
 go_simp
 with_reducible rfl}
 rotate_left
 · exact p1_
 refine pure_ (i := 2) (N := some 15) (v := ?_) (a' := ?_) m3_ rfl rfl s2_ (fun _ _ _ h => h) (Or.inl ⟨by rfl, ?_⟩) ?_ ?_
 rotate_left
 {
 intro w'
 go_simp
 with_reducible rfl}
 rotate_left
 · exact p1_
 refine pure_ (i := 3) (N := some 16) (v := ?_) (a' := ?_) m4_ rfl rfl s2_ (fun _ _ _ h => h) (Or.inl ⟨by rfl, ?_⟩) ?_ ?_
 rotate_left
 {
 intro w'
 go_simp
 with_reducible rfl}
 rotate_left
 · exact p1_
 refine pure_ (i := 5) (N := some 18) (v := ?_) (a' := ?_) m5_ rfl rfl s2_ (fun _ _ _ h => h) (Or.inl ⟨by rfl, ?_⟩) ?_ ?_
 rotate_left
 {
 intro w'
 go_simp
 with_reducible rfl}
 rotate_left
 · exact p1_
 refine take_ (i := 4) (N := some 17) (v := ?_) (a' := ?_) m6_ rfl rfl s2_ (fun _ _ _ h => h) (Or.inl ⟨by rfl, ?_⟩) hHeld ?_ ?_
 rotate_left
 {
 rintro w' ⟨s0, s1, s2, s3⟩
 go_simp
 with_reducible rfl}
 rotate_left
 · exact p1_
 refine one_ (i := 6) (N := some 19) m7_ rfl rfl s2_ (by decide) (fun K hK => ?_)
 refine goes_ Try.func53 s2_ rfl #[.slice Ao33 t249.length co33, .func (.func 74) #[] #[.pointer (some ⟨gb241, 0, none⟩), .pointer (some ⟨gb300, 0, none⟩)]] (by rfl) rfl rfl s3_ ?_
 with_reducible refine (impl_dropLeases_v4.calls k (fun k_ => some k_ = (.slice Ao33 t249.length co33 : Value).ownBlock) (.slice Ao33 t249.length co33) t249 gb241 gb255 gb300 a1 Ao38 co38 t256 (.slice Ao33 t249.length co33) t249 (.slice Ao34 t252.length co34) t252 t259 w _ ?side1 ?side2 ?side3 ?sideq ?side4 ?side5 ?side6 A7.out).mono ?_
 (case side1 => repeat (first | (with_reducible first | exact HB.out | apply below_alloc | apply pw_below_drewN | apply below_drew1) | exact HB.out))
 (case side2 => exact (b1_ BK241.out))
 (case side3 => exact (b1_ BK255.out))
 (case sideq => exact (b1_ BK300.out))
 (case side4 => exact Kd.R_tight rfl HO251.out)
 (case side5 => exact Kd.C_kept_own (HO258.out) (fun k_ hk_ hs_ => (hk_) hs_))
 (case side6 => exact (Kd.R_reads' HO258.out).2.1)
 rintro e w42 ⟨v260, rfl, ho0, hb, hkp⟩
 refine ⟨_, rfl, ?_⟩
 have n0_ := Aside0.mk (blk_kept (b1_ BK241.out) hkp (fun hs_ => (fun e_ => (Kd.R_ne HO251.out BK241.out (by decide)) e_) hs_))
 have n0q_ := Aside0.mk (blk_kept (b1_ BK300.out) hkp (fun hs_ => (fun e_ => (Kd.R_ne HO251.out BK300.out (by decide)) e_) hs_))
 have n1_ := Aside0.mk (blk_kept (b1_ BK242.out) hkp (fun hs_ => (fun e_ => (Kd.R_ne HO251.out BK242.out (by decide)) e_) hs_))
 have n2_ := Aside0.mk (blk_kept (b1_ BK244.out) hkp (fun hs_ => (fun e_ => (Kd.R_ne HO251.out BK244.out (by decide)) e_) hs_))
 have n3_ := Aside0.mk (Kd.R_mono (ok' := fun k_ => True) (Kd.R_keptB ((Kd.R_apart' HO254.out (Kd.R_typed HO251.out) (by decide))) hkp (fun k_ hk_ hs_ => (hk_.2) hs_)) (fun k_ hk_ => trivial))
 have n4_ := Aside0.mk (blk_kept (b1_ BK255.out) hkp (fun hs_ => (fun e_ => (Kd.R_ne HO251.out BK255.out (by decide)) e_) hs_))
 have n5_ := Aside0.mk (Kd.R_mono (ok' := fun k_ => some k_ ≠ (v260 : Value).ownBlock) (Kd.R_keptB (HO258.out) hkp (fun k_ hk_ hs_ => (hk_) hs_)) (fun k_ hk_ => fun e_ => Or.elim (ho0.1 k_ e_.symm) (fun hs_ => hk_.2.1 hs_) (fun hn_ => Nat.not_le.2 hk_.2.2 hn_)))
 have n6_ := Aside0.mk (Kd.R_mono (ok' := fun k_ => some k_ ≠ (.slice Ao38 t256.length co38 : Value).ownBlock) ho0 (fun k_ hk_ => Or.elim hk_ (fun hs_ => fun e_ => (((HO258.out).1 k_ e_.symm)) hs_) (fun hn_ => (Kd.fresh' (Kd.R_lt (b2_ HO258.out)) k_ hn_))))
 have n7_ := Aside0.mk (hb)
 clear BK241
 clear BK300
 clear BK242
 clear BK244
 clear HO254
 clear BK255
 clear HO258
 clear HB
 clear HO251
 have BK241 := n0_
 have BK300 := n0q_
 have BK242 := n1_
 have BK244 := n2_
 have HO254 := n3_
 have BK255 := n4_
 have HO258 := n5_
 have HO261 := n6_
 have HB := n7_
 clear n0_ n1_ n2_ n3_ n4_ n5_ n6_ n7_ n0q_
 (try clear hb)
 (try clear hkp)
 (try clear ho0)
 obtain ⟨Ao43, co43, eo43⟩ := Kd.R_slice HO261.out
 (first | subst eo43 | (injection eo43 with f1_ f2_ f3_; have f4_ := f1_.symm; have f5_ := f3_.symm; clear f1_ f2_ f3_; subst f4_; subst f5_))
 refine hK.out _ _ ⟨(blk_cell BK255.out 0).trans rfl, (blk_cell BK255.out 1).trans rfl, (blk_cell BK255.out 2).trans rfl, (blk_cell BK300.out 0).trans rfl⟩ (fun hHeld => ?_)
 clear hK K
 refine norm_ (a' := ?_) ?_ ?_
 rotate_left
 {
 show Act.put _ (some 19) _ = _
 simp only [Act.put, List.setIfInBounds_toArray, List.set_cons_zero, List.set_cons_succ, i64_w, i32_w]
 rfl}
 refine pure_ (i := 7) (N := some 20) (v := ?_) (a' := ?_) m8_ rfl rfl s2_ (fun _ _ _ h => h) (Or.inl ⟨by rfl, ?_⟩) ?_ ?_
 rotate_left
 {
 intro w'
 go_simp
 with_reducible rfl}
 rotate_left
 · exact p1_
 refine pure_ (i := 8) (N := some 21) (v := ?_) (a' := ?_) m9_ rfl rfl s2_ (fun _ _ _ h => h) (Or.inl ⟨by rfl, ?_⟩) ?_ ?_
 rotate_left
 {
 intro w'
 go_simp
 with_reducible rfl}
 rotate_left
 · exact p1_
 refine last_ (i := 9) (N := none) m10_ rfl rfl s2_ (by decide) (fun K hK => ?_)
 have hs44 : w42.cell? ⟨gb255, 1, none⟩ = some (.slice Ao33 t249.length co33) := (blk_cell BK255.out 1).trans rfl
 have hfs44 := blk_frozen BK255.out 1
 have hns44_0 := NB241_255.out
 have hns44_0q := NB300_255.out
 have hns44_1 := NB242_255.out
 have hns44_2 := NB244_255.out
 have hms44_0 := NB255_241.out
 have hms44_0q := NB255_300.out
 have hms44_1 := NB255_242.out
 have hms44_2 := NB255_244.out
 refine skip_ (w1 := ?_) (by rfl) rfl ?_ ?_
 rotate_left
 {
 go_simp
 rfl}
 refine hK.out _ _ ?_
 clear hK K
 refine done_ s2_ ?_
 have hnb45 := NB241_242.out
 have hnb45q := NB300_242.out
 have hnc45 := NB242_241.out
 have hnc45q := NB242_300.out
 have hnb46 := NB241_244.out
 have hnb46q := NB300_244.out
 have hnc46 := NB244_241.out
 have hnc46q := NB244_300.out
 have hcz47_0 := c1_ BK241 0 (.int .i64 a1)
 have hfz47_0 := f1_ BK241 0
 try go_wp2_with (first | ((with_reducible refine gate_callee (f := 45) rfl ?_); refine goesL_ (some 23) rfl rfl Try.func45 s2_ rfl #[.int .i64 a1] rfl s3_ ?_; (with_reducible refine (impl_isTick.calls a1 true _ A8.out).mono ?_); rintro e w' ⟨rfl, ⟨nd, rfl⟩⟩; refine ⟨_, rfl, ?_⟩; have hcz48_0 := c1_ BK255 0 (.slice Ao38 t256.length co38); have hcz48_1 := c1_ BK255 1 (.slice Ao33 t249.length co33); have hcz48_2 := c1_ BK255 2 (.slice Ao34 t252.length co34); have hfz48_0 := f1_ BK255 0; have hfz48_1 := f1_ BK255 1; have hfz48_2 := f1_ BK255 2) | (go_at_call 19; (with_reducible refine (impl_ValidPresence.calls k _ _ t256 _ _ t259 _ _ t252 true _ ?side1 ?side2 ?side3 ?side4 ?side5 ?side6 A10.out).mono ?_); (case side1 => refine (Kd.R_reads' (e := 63) (base := w.heap.size) (ok := fun k_ => some k_ ≠ (.slice Ao43 t259.length co43 : Value).ownBlock) (n := t256.length) (c := co38) ?_).2.2; exact (by (with_reducible repeat (first | apply Kd.R_alloc | apply Kd.R_drewN | apply Kd.R_drew)); exact (Kd.R_mono (Kd.R_far (p := ⟨gb255, 1, none⟩) (Kd.R_types HO258.out BK255.out (by decide)) (fun _ hk => hk.2) (.slice Ao43 t259.length co43)) (fun _ h_ => h_.1)))); (case side2 => exact (Kd.R_reads' HO258.out).2.1); (case side3 => refine (Kd.R_reads' (e := 63) (base := w.heap.size) (ok := fun k_ => some k_ ≠ (.slice Ao38 t256.length co38 : Value).ownBlock) (n := t259.length) (c := co43) ?_).2.2; exact (by (with_reducible repeat (first | apply Kd.R_alloc | apply Kd.R_drewN | apply Kd.R_drew)); exact (Kd.R_mono (Kd.R_far (p := ⟨gb255, 1, none⟩) (Kd.R_types HO261.out BK255.out (by decide)) (fun _ hk => hk.2) (.slice Ao43 t259.length co43)) (fun _ h_ => h_.1)))); (case side4 => exact (Kd.R_reads' HO261.out).2.1); (case side5 => refine (Kd.R_reads' (e := 73) (base := w.heap.size) (ok := fun k_ => True) (n := t252.length) (c := co34) ?_).2.2; exact (by (with_reducible repeat (first | apply Kd.R_alloc | apply Kd.R_drewN | apply Kd.R_drew)); exact (Kd.R_mono (Kd.R_far (p := ⟨gb255, 1, none⟩) (Kd.R_types HO254.out BK255.out (by decide)) (fun _ hk => hk.2) (.slice Ao43 t259.length co43)) (fun _ h_ => h_.1)))); (case side6 => exact (Kd.R_reads' HO254.out).2.1); rintro e w49 ⟨rfl, hb⟩; replace HO254 := Aside0.mk (Kd.R_below (by (with_reducible repeat (first | apply Kd.R_alloc | apply Kd.R_drewN | apply Kd.R_drew)); exact (Kd.R_mono (Kd.R_far (p := ⟨gb255, 1, none⟩) (Kd.R_types HO254.out BK255.out (by decide)) (fun _ hk => hk.2) (.slice Ao43 t259.length co43)) (fun _ h_ => h_.1))) hb); replace HO258 := Aside0.mk (Kd.R_below (by (with_reducible repeat (first | apply Kd.R_alloc | apply Kd.R_drewN | apply Kd.R_drew)); exact (Kd.R_mono (Kd.R_far (p := ⟨gb255, 1, none⟩) (Kd.R_types HO258.out BK255.out (by decide)) (fun _ hk => hk.2) (.slice Ao43 t259.length co43)) (fun _ h_ => h_.1))) hb); replace HO261 := Aside0.mk (Kd.R_below (by (with_reducible repeat (first | apply Kd.R_alloc | apply Kd.R_drewN | apply Kd.R_drew)); exact (Kd.R_mono (Kd.R_far (p := ⟨gb255, 1, none⟩) (Kd.R_types HO261.out BK255.out (by decide)) (fun _ hk => hk.2) (.slice Ao43 t259.length co43)) (fun _ h_ => h_.1))) hb); replace BK241 := Aside0.mk (blk_below (g := gb241) (o := .cells #[.int .i64 a1] 2 (0, 0)) (by (with_reducible repeat (first | refine blk_drewN ?_ _ | refine blk_drew ?_ | refine blk_alloc ?_ _)); refine blk_far ?_ NB241_255.out _; (with_reducible repeat (first | refine blk_drewN ?_ _ | refine blk_drew ?_ | refine blk_alloc ?_ _)); exact BK241.out) hb); replace BK300 := Aside0.mk (blk_below (g := gb300) (o := .cells #[.pointer (some ⟨gb255, 0, none⟩)] 60 (0, 0)) (by (with_reducible repeat (first | refine blk_drewN ?_ _ | refine blk_drew ?_ | refine blk_alloc ?_ _)); refine blk_far ?_ NB300_255.out _; (with_reducible repeat (first | refine blk_drewN ?_ _ | refine blk_drew ?_ | refine blk_alloc ?_ _)); exact BK300.out) hb); replace BK242 := Aside0.mk (blk_below (g := gb242) (o := .cells #[.slice none 0 0, .slice none 0 0, .slice none 0 0] 27 (0, 0)) (by (with_reducible repeat (first | refine blk_drewN ?_ _ | refine blk_drew ?_ | refine blk_alloc ?_ _)); refine blk_far ?_ NB242_255.out _; (with_reducible repeat (first | refine blk_drewN ?_ _ | refine blk_drew ?_ | refine blk_alloc ?_ _)); exact BK242.out) hb); replace BK244 := Aside0.mk (blk_below (g := gb244) (o := .cells #[.slice none 0 0, .slice none 0 0, .slice none 0 0] 27 (0, 0)) (by (with_reducible repeat (first | refine blk_drewN ?_ _ | refine blk_drew ?_ | refine blk_alloc ?_ _)); refine blk_far ?_ NB244_255.out _; (with_reducible repeat (first | refine blk_drewN ?_ _ | refine blk_drew ?_ | refine blk_alloc ?_ _)); exact BK244.out) hb); replace BK255 := Aside0.mk (blk_below (g := gb255) (o := .cells #[.slice Ao38 t256.length co38, .slice Ao43 t259.length co43, .slice Ao34 t252.length co34] 27 (0, 0)) (by (with_reducible repeat (first | refine blk_drewN ?_ _ | refine blk_drew ?_ | refine blk_alloc ?_ _)); refine blk_put (cs := #[.slice Ao38 t256.length co38, .slice Ao33 t249.length co33, .slice Ao34 t252.length co34]) ?_ 1 _ rfl; (with_reducible repeat (first | refine blk_drewN ?_ _ | refine blk_drew ?_ | refine blk_alloc ?_ _)); exact BK255.out) hb); replace HB := Aside0.mk (below_step (by repeat (first | (with_reducible first | exact HB.out | apply below_alloc | apply pw_below_drewN | apply below_drew1 | refine below_set ?_ GE255.out) | exact HB.out)) hb); (try clear hb); (try clear hb2); (try clear hk); (try clear hi); have hcz50_0 := c1_ BK255 0 (.slice Ao38 t256.length co38); have hcz50_1 := c1_ BK255 1 (.slice Ao43 t259.length co43); have hcz50_2 := c1_ BK255 2 (.slice Ao34 t252.length co34); have hfz50_0 := f1_ BK255 0; have hfz50_1 := f1_ BK255 1; have hfz50_2 := f1_ BK255 2; have hnb51 := NB244_242.out; have hnc51 := NB242_244.out; have hcz52_0 := c1_ BK244 0 (.slice none 0 0); have hcz52_1 := c1_ BK244 1 (.slice none 0 0); have hcz52_2 := c1_ BK244 2 (.slice none 0 0); have hfz52_0 := f1_ BK244 0; have hfz52_1 := f1_ BK244 1; have hfz52_2 := f1_ BK244 2))
 (try simp only [Exit.inBlock, Exit.then])
 refine bodyPost_ret (results_ct rfl _ _ gb244 27 #[.slice Ao38 t256.length co38, .slice Ao43 t259.length co43, .slice Ao34 t252.length co34] (0, 0) _ rfl (by (with_reducible repeat (first | refine blk_drewN ?_ _ | refine blk_drew ?_ | refine blk_alloc ?_ _)); refine blk_put3 (cs := #[.slice none 0 0, .slice none 0 0, .slice none 0 0]) ?_ rfl; (with_reducible repeat (first | refine blk_drewN ?_ _ | refine blk_drew ?_ | refine blk_alloc ?_ _)); exact BK244.out) Try.underlying27 rfl s2_) rfl ?_
 (try simp only [])
 have hcz53_0 := c1_ BK242 0 (.slice none 0 0)
 have hcz53_1 := c1_ BK242 1 (.slice none 0 0)
 have hcz53_2 := c1_ BK242 2 (.slice none 0 0)
 have hfz53_0 := f1_ BK242 0
 have hfz53_1 := f1_ BK242 1
 have hfz53_2 := f1_ BK242 2
 try go_wp2_with (fail)
 refine bodyPost_ret (results_ct rfl _ _ gb242 27 #[.slice Ao38 t256.length co38, .slice Ao43 t259.length co43, .slice Ao34 t252.length co34] (0, 0) _ rfl (by (with_reducible repeat (first | refine blk_drewN ?_ _ | refine blk_drew ?_ | refine blk_alloc ?_ _)); refine blk_put3 (cs := #[.slice none 0 0, .slice none 0 0, .slice none 0 0]) ?_ rfl; (with_reducible repeat (first | refine blk_drewN ?_ _ | refine blk_drew ?_ | refine blk_alloc ?_ _)); refine blk_far3 ?_ NB242_244.out; (with_reducible repeat (first | refine blk_drewN ?_ _ | refine blk_drew ?_ | refine blk_alloc ?_ _)); exact BK242.out) Try.underlying27 rfl s2_) rfl ?_
 exact ⟨_, _, _, by first | rfl | (simp [errW_none, errW_some] <;> rfl) | (simp [*, errW_none, errW_some] <;> rfl), by (with_reducible repeat (first | apply Kd.R_alloc | apply Kd.R_drewN | apply Kd.R_drew)); exact Kd.R_mono (Kd.R_far3 (g := gb242) (Kd.R_far3 (g := gb244) (Kd.R_types (Kd.R_types HO258.out BK244.out (by decide)) BK242.out (by decide)) (fun _ hk => hk.1.2)) (fun _ hk => hk.2)) (fun _ hk => hk.1.1), by (with_reducible repeat (first | apply Kd.R_alloc | apply Kd.R_drewN | apply Kd.R_drew)); exact Kd.R_mono (Kd.R_far3 (g := gb242) (Kd.R_far3 (g := gb244) (Kd.R_types (Kd.R_types HO261.out BK244.out (by decide)) BK242.out (by decide)) (fun _ hk => hk.1.2)) (fun _ hk => hk.2)) (fun _ hk => hk.1.1), by (with_reducible repeat (first | apply Kd.R_alloc | apply Kd.R_drewN | apply Kd.R_drew)); exact Kd.R_mono (Kd.R_far3 (g := gb242) (Kd.R_far3 (g := gb244) (Kd.R_types (Kd.R_types HO254.out BK244.out (by decide)) BK242.out (by decide)) (fun _ hk => hk.1.2)) (fun _ hk => hk.2)) (fun _ hk => trivial), by repeat (first | (with_reducible first | exact HB.out | apply below_alloc | apply pw_below_drewN | apply below_drew1 | refine below_set ?_ GE242.out | refine below_set ?_ GE244.out) | exact HB.out)⟩}
 {
 replace c11 := Bool.eq_false_iff.mpr c11
 subst c11
 have H1 : (some (([] : List (S63)), ([] : List (S63)), ([] : List (S73)), false)) = some (r1, r2, r3, r4) := by rw [if_neg (show ¬ (false = true) by decide)] at H; exact H
 clear H
 have H := H1
 clear H1
 simp only [Option.some.injEq, Prod.mk.injEq] at H
 obtain ⟨rfl, rfl, rfl, rfl⟩ := H
 go_enter Try.func31, Try.ntmps31
 try go_wp2_with (first | ((with_reducible refine gate_dst (N := 2) rfl ?_); (try (refine gate_guard (by rfl) ?_; dsimp only)); refine bx_ 2 #[.slice A0_0 l0_0.length c0_0, .slice A0_1 l0_1.length c0_1, .slice A0_2 l0_2.length c0_2] 27 ?_; intro gb240 hg w54 hbox hb; have GW240 := b6_ hg HB; have GE240 := b6_ hg HB; replace HB := Aside0.mk (below_step (y1_ HB.out) hb); have BK240 := Aside0.mk (hbox); clear hb hbox hg) | ((with_reducible refine gate_dst (N := 3) rfl ?_); (try (refine gate_guard (by rfl) ?_; dsimp only)); refine bx_ 3 #[.int .i64 a1] 2 ?_; intro gb241 hg w55 hbox hb; have GW241 := b6_ hg HB; have GE241 := b6_ hg HB; have NB240_241 := b4_ hg BK240; have NB241_240 := b5_ hg BK240; replace BK240 := b3_ BK240 hb; replace HB := Aside0.mk (below_step (y1_ HB.out) hb); have BK241 := Aside0.mk (hbox); clear hb hbox hg) | ((with_reducible refine gate_dst (N := 4) rfl ?_); (try (refine gate_guard (by rfl) ?_; dsimp only)); refine bx_ 4 #[.slice none 0 0, .slice none 0 0, .slice none 0 0] 27 ?_; intro gb242 hg w56 hbox hb; have GW242 := b6_ hg HB; have GE242 := b6_ hg HB; have NB240_242 := b4_ hg BK240; have NB242_240 := b5_ hg BK240; have NB241_242 := b4_ hg BK241; have NB242_241 := b5_ hg BK241; replace BK240 := b3_ BK240 hb; replace BK241 := b3_ BK241 hb; replace HB := Aside0.mk (below_step (y1_ HB.out) hb); have BK242 := Aside0.mk (hbox); clear hb hbox hg; have hnb57 := NB240_241.out; have hnc57 := NB241_240.out; have hnb58 := NB240_242.out; have hnc58 := NB242_240.out; have hcz59_0 := c1_ BK240 0 (.slice A0_0 l0_0.length c0_0); have hcz59_1 := c1_ BK240 1 (.slice A0_1 l0_1.length c0_1); have hcz59_2 := c1_ BK240 2 (.slice A0_2 l0_2.length c0_2); have hfz59_0 := f1_ BK240 0; have hfz59_1 := f1_ BK240 1; have hfz59_2 := f1_ BK240 2))
 go_at_call 42
 go_in
 try go_wp2_with (first | ((with_reducible refine gate_dst (N := 2) rfl ?_); (try (refine gate_guard (by rfl) ?_; dsimp only)); refine bx_ 2 #[.slice A0_0 l0_0.length c0_0, .slice A0_1 l0_1.length c0_1, .slice A0_2 l0_2.length c0_2] 27 ?_; intro gb243 hg w60 hbox hb; have GW243 := b6_ hg HB; have GE243 := b6_ hg HB; have NB241_243 := b4_ hg BK241; have NB243_241 := b5_ hg BK241; have NB242_243 := b4_ hg BK242; have NB243_242 := b5_ hg BK242; replace BK241 := b3_ BK241 hb; replace BK242 := b3_ BK242 hb; replace HB := Aside0.mk (below_step (y1_ HB.out) hb); have BK243 := Aside0.mk (hbox); clear hb hbox hg) | ((with_reducible refine gate_dst (N := 4) rfl ?_); (try (refine gate_guard (by rfl) ?_; dsimp only)); refine bx_ 4 #[.slice none 0 0, .slice none 0 0, .slice none 0 0] 27 ?_; intro gb244 hg w61 hbox hb; have GW244 := b6_ hg HB; have GE244 := b6_ hg HB; have NB241_244 := b4_ hg BK241; have NB244_241 := b5_ hg BK241; have NB242_244 := b4_ hg BK242; have NB244_242 := b5_ hg BK242; have NB243_244 := b4_ hg BK243; have NB244_243 := b5_ hg BK243; replace BK241 := b3_ BK241 hb; replace BK242 := b3_ BK242 hb; replace BK243 := b3_ BK243 hb; replace HB := Aside0.mk (below_step (y1_ HB.out) hb); have BK244 := Aside0.mk (hbox); clear hb hbox hg; have hnb62 := NB243_241.out; have hnc62 := NB241_243.out; have hnb63 := NB243_242.out; have hnc63 := NB242_243.out; have hnb64 := NB243_244.out; have hnc64 := NB244_243.out; have hcz65_0 := c1_ BK243 0 (.slice A0_0 l0_0.length c0_0); have hcz65_1 := c1_ BK243 1 (.slice A0_1 l0_1.length c0_1); have hcz65_2 := c1_ BK243 2 (.slice A0_2 l0_2.length c0_2); have hfz65_0 := f1_ BK243 0; have hfz65_1 := f1_ BK243 1; have hfz65_2 := f1_ BK243 2) | ((with_reducible refine gate_callee (f := 19) rfl ?_); refine goesL_ (some 8) rfl rfl Try.func19 s2_ rfl #[.agg #[.slice A0_0 l0_0.length c0_0, .slice A0_1 l0_1.length c0_1, .slice A0_2 l0_2.length c0_2]] rfl s3_ ?_; (with_reducible refine (impl_ValidPresence.calls k _ _ l0_0 _ _ l0_1 _ _ l0_2 true _ ?side1 ?side2 ?side3 ?side4 ?side5 ?side6 A3.out).mono ?_); (case side1 => exact y2_ (Kd.C_below HR0_0.out HB.out)); (case side2 => exact HC0_0.out); (case side3 => exact y2_ (Kd.C_below HR0_1.out HB.out)); (case side4 => exact HC0_1.out); (case side5 => exact y2_ (Kd.C_below HR0_2.out HB.out)); (case side6 => exact HC0_2.out); rintro e w66 ⟨rfl, hb⟩; refine ⟨_, rfl, ?_⟩; replace BK241 := b3_ BK241 hb; replace BK242 := b3_ BK242 hb; replace BK243 := b3_ BK243 hb; replace BK244 := b3_ BK244 hb; replace HB := Aside0.mk (below_step (y1_ HB.out) hb); (try clear hb); (try clear hb2); (try clear hk); (try clear hi); have hcz67_0 := c1_ BK243 0 (.slice A0_0 l0_0.length c0_0); have hcz67_1 := c1_ BK243 1 (.slice A0_1 l0_1.length c0_1); have hcz67_2 := c1_ BK243 2 (.slice A0_2 l0_2.length c0_2); have hfz67_0 := f1_ BK243 0; have hfz67_1 := f1_ BK243 1; have hfz67_2 := f1_ BK243 2) | ((with_reducible refine gate_callee (f := 90) rfl ?_); refine goesL_ (some 12) rfl rfl Try.func90 s2_ rfl #[.agg #[.slice A0_0 l0_0.length c0_0, .slice A0_1 l0_1.length c0_1, .slice A0_2 l0_2.length c0_2]] rfl s3_ ?_; (with_reducible refine (impl_clonePresence.calls _ _ l0_0 _ _ l0_1 _ _ l0_2 t246 t249 t252 _ ?side1 ?side2 ?side3 ?side4 ?side5 ?side6 A5.out).mono ?_); (case side1 => exact y2_ (Kd.C_below HR0_0.out HB.out)); (case side2 => exact HC0_0.out); (case side3 => exact y2_ (Kd.C_below HR0_1.out HB.out)); (case side4 => exact HC0_1.out); (case side5 => exact y2_ (Kd.C_below HR0_2.out HB.out)); (case side6 => exact HC0_2.out); rintro e w68 ⟨v247, v250, v253, rfl, ho0, ho1, ho2, hb⟩; refine ⟨_, rfl, ?_⟩; have HO248 := Aside0.mk (Kd.R_lower ho0 (below_size (y1_ HB.out))); have HO251 := Aside0.mk (Kd.R_lower ho1 (below_size (y1_ HB.out))); have HO254 := Aside0.mk (Kd.R_lower ho2 (below_size (y1_ HB.out))); replace BK241 := b3_ BK241 hb; replace BK242 := b3_ BK242 hb; replace BK244 := b3_ BK244 hb; replace HB := Aside0.mk (below_step (y1_ HB.out) hb); (try clear hb); (try clear hb2); (try clear hk); (try clear hi); (try clear ho0); (try clear ho1); (try clear ho2)) | ((with_reducible refine gate_dst (N := 6) rfl ?_); (try (refine gate_guard (by rfl) ?_; dsimp only)); refine bx_ 6 #[.slice none 0 0, .slice none 0 0, .slice none 0 0] 27 ?_; intro gb255 hg w69 hbox hb; have GW255 := b6_ hg HB; have GE255 := b6_ hg HB; have NB241_255 := b4_ hg BK241; have NB255_241 := b5_ hg BK241; have NB242_255 := b4_ hg BK242; have NB255_242 := b5_ hg BK242; have NB244_255 := b4_ hg BK244; have NB255_244 := b5_ hg BK244; replace HO248 := r1_ HO248 hb; replace HO251 := r1_ HO251 hb; replace HO254 := r1_ HO254 hb; replace BK241 := b3_ BK241 hb; replace BK242 := b3_ BK242 hb; replace BK244 := b3_ BK244 hb; replace HB := Aside0.mk (below_step (y1_ HB.out) hb); have BK255 := Aside0.mk (hbox); clear hb hbox hg; obtain ⟨Ao70, co70, eo70⟩ := Kd.R_slice HO248.out; subst eo70; have hnb71 := NB255_241.out; have hnc71 := NB241_255.out; have hnb72 := NB255_242.out; have hnc72 := NB242_255.out; have hnb73 := NB255_244.out; have hnc73 := NB244_255.out; have hcz74_0 := c1_ BK255 0 (.slice none 0 0); have hcz74_1 := c1_ BK255 1 (.slice none 0 0); have hcz74_2 := c1_ BK255 2 (.slice none 0 0); have hfz74_0 := f1_ BK255 0; have hfz74_1 := f1_ BK255 1; have hfz74_2 := f1_ BK255 2; obtain ⟨Ao75, co75, eo75⟩ := Kd.R_slice HO251.out; subst eo75; obtain ⟨Ao76, co76, eo76⟩ := Kd.R_slice HO254.out; subst eo76))
 go_at_call 72
 go_in
 have n0_ : Aside0 (Kd.R k63 63 (((w69.setCell ⟨gb255, 0, none⟩ (.slice Ao70 t246.length co70)).setCell ⟨gb255, 1, none⟩ (.slice Ao75 t249.length co75)).setCell ⟨gb255, 2, none⟩ (.slice Ao76 t252.length co76)) w.heap.size (fun k_ => some k_ ≠ (.slice Ao75 t249.length co75 : Value).ownBlock) (.slice Ao70 t246.length co70) t246) := ⟨by (with_reducible repeat (first | apply Kd.R_alloc | apply Kd.R_drewN | apply Kd.R_drew)); exact Kd.R_mono (Kd.R_far3 (g := gb255) (Kd.R_types HO248.out BK255.out (by decide)) (fun _ hk => hk.2)) (fun _ hk => hk.1)⟩
 have n1_ : Aside0 (Kd.R k63 63 (((w69.setCell ⟨gb255, 0, none⟩ (.slice Ao70 t246.length co70)).setCell ⟨gb255, 1, none⟩ (.slice Ao75 t249.length co75)).setCell ⟨gb255, 2, none⟩ (.slice Ao76 t252.length co76)) w.heap.size (fun k_ => some k_ ≠ (.slice Ao70 t246.length co70 : Value).ownBlock) (.slice Ao75 t249.length co75) t249) := ⟨by (with_reducible repeat (first | apply Kd.R_alloc | apply Kd.R_drewN | apply Kd.R_drew)); exact Kd.R_mono (Kd.R_far3 (g := gb255) (Kd.R_types HO251.out BK255.out (by decide)) (fun _ hk => hk.2)) (fun _ hk => hk.1)⟩
 have n2_ : Aside0 (Kd.R k73 73 (((w69.setCell ⟨gb255, 0, none⟩ (.slice Ao70 t246.length co70)).setCell ⟨gb255, 1, none⟩ (.slice Ao75 t249.length co75)).setCell ⟨gb255, 2, none⟩ (.slice Ao76 t252.length co76)) w.heap.size (fun _ => True) (.slice Ao76 t252.length co76) t252) := ⟨by (with_reducible repeat (first | apply Kd.R_alloc | apply Kd.R_drewN | apply Kd.R_drew)); exact Kd.R_mono (Kd.R_far3 (g := gb255) (Kd.R_types HO254.out BK255.out (by decide)) (fun _ hk => hk.2)) (fun _ hk => trivial)⟩
 have n3_ : Aside0 ((((w69.setCell ⟨gb255, 0, none⟩ (.slice Ao70 t246.length co70)).setCell ⟨gb255, 1, none⟩ (.slice Ao75 t249.length co75)).setCell ⟨gb255, 2, none⟩ (.slice Ao76 t252.length co76)).heap[gb241]? = some (.cells #[.int .i64 a1] 2 (0, 0))) := ⟨by (with_reducible repeat (first | refine blk_drewN ?_ _ | refine blk_drew ?_ | refine blk_alloc ?_ _)); refine blk_far3 ?_ NB241_255.out; (with_reducible repeat (first | refine blk_drewN ?_ _ | refine blk_drew ?_ | refine blk_alloc ?_ _)); exact BK241.out⟩
 have n4_ : Aside0 ((((w69.setCell ⟨gb255, 0, none⟩ (.slice Ao70 t246.length co70)).setCell ⟨gb255, 1, none⟩ (.slice Ao75 t249.length co75)).setCell ⟨gb255, 2, none⟩ (.slice Ao76 t252.length co76)).heap[gb242]? = some (.cells #[.slice none 0 0, .slice none 0 0, .slice none 0 0] 27 (0, 0))) := ⟨by (with_reducible repeat (first | refine blk_drewN ?_ _ | refine blk_drew ?_ | refine blk_alloc ?_ _)); refine blk_far3 ?_ NB242_255.out; (with_reducible repeat (first | refine blk_drewN ?_ _ | refine blk_drew ?_ | refine blk_alloc ?_ _)); exact BK242.out⟩
 have n5_ : Aside0 ((((w69.setCell ⟨gb255, 0, none⟩ (.slice Ao70 t246.length co70)).setCell ⟨gb255, 1, none⟩ (.slice Ao75 t249.length co75)).setCell ⟨gb255, 2, none⟩ (.slice Ao76 t252.length co76)).heap[gb244]? = some (.cells #[.slice none 0 0, .slice none 0 0, .slice none 0 0] 27 (0, 0))) := ⟨by (with_reducible repeat (first | refine blk_drewN ?_ _ | refine blk_drew ?_ | refine blk_alloc ?_ _)); refine blk_far3 ?_ NB244_255.out; (with_reducible repeat (first | refine blk_drewN ?_ _ | refine blk_drew ?_ | refine blk_alloc ?_ _)); exact BK244.out⟩
 have n6_ : Aside0 ((((w69.setCell ⟨gb255, 0, none⟩ (.slice Ao70 t246.length co70)).setCell ⟨gb255, 1, none⟩ (.slice Ao75 t249.length co75)).setCell ⟨gb255, 2, none⟩ (.slice Ao76 t252.length co76)).heap[gb255]? = some (.cells #[.slice Ao70 t246.length co70, .slice Ao75 t249.length co75, .slice Ao76 t252.length co76] 27 (0, 0))) := ⟨by (with_reducible repeat (first | refine blk_drewN ?_ _ | refine blk_drew ?_ | refine blk_alloc ?_ _)); refine blk_put3 (cs := #[.slice none 0 0, .slice none 0 0, .slice none 0 0]) ?_ rfl; (with_reducible repeat (first | refine blk_drewN ?_ _ | refine blk_drew ?_ | refine blk_alloc ?_ _)); exact BK255.out⟩
 have n7_ : Aside0 (Below w.heap.size w (((w69.setCell ⟨gb255, 0, none⟩ (.slice Ao70 t246.length co70)).setCell ⟨gb255, 1, none⟩ (.slice Ao75 t249.length co75)).setCell ⟨gb255, 2, none⟩ (.slice Ao76 t252.length co76))) := ⟨by repeat (first | (with_reducible first | exact HB.out | apply below_alloc | apply pw_below_drewN | apply below_drew1 | refine below_set ?_ GE255.out) | exact HB.out)⟩
 (try clear HO248)
 (try clear HO251)
 (try clear HO254)
 (try clear BK241)
 (try clear BK242)
 (try clear BK244)
 (try clear BK255)
 (try clear HB)
 generalize (((w69.setCell ⟨gb255, 0, none⟩ (.slice Ao70 t246.length co70)).setCell ⟨gb255, 1, none⟩ (.slice Ao75 t249.length co75)).setCell ⟨gb255, 2, none⟩ (.slice Ao76 t252.length co76)) = w77 at n0_ n1_ n2_ n3_ n4_ n5_ n6_ n7_ ⊢
 have HO248 := n0_
 have HO251 := n1_
 have HO254 := n2_
 have BK241 := n3_
 have BK242 := n4_
 have BK244 := n5_
 have BK255 := n6_
 have HB := n7_
 clear n0_ n1_ n2_ n3_ n4_ n5_ n6_ n7_
 try go_wp2_with (first | ((with_reducible refine gate_dst (N := 2) rfl ?_); (try (refine gate_guard (by rfl) ?_; dsimp only)); refine bx_ 2 #[.pointer (some ⟨gb255, 0, none⟩)] 60 ?_; intro gb300 hg w300 hbox hb; have NB241_300 := b4_ hg BK241; have NB300_241 := b5_ hg BK241; have NB242_300 := b4_ hg BK242; have NB300_242 := b5_ hg BK242; have NB244_300 := b4_ hg BK244; have NB300_244 := b5_ hg BK244; have NB255_300 := b4_ hg BK255; have NB300_255 := b5_ hg BK255; replace HO248 := r1_ HO248 hb; replace HO251 := r1_ HO251 hb; replace HO254 := r1_ HO254 hb; replace BK241 := b3_ BK241 hb; replace BK242 := b3_ BK242 hb; replace BK244 := b3_ BK244 hb; replace BK255 := b3_ BK255 hb; replace HB := Aside0.mk (below_step (y1_ HB.out) hb); have BK300 := Aside0.mk (hbox); clear hb hbox hg))
 replace HO248 := Aside0.mk (Kd.R_drew HO248.out)
 replace HO251 := Aside0.mk (Kd.R_drew HO251.out)
 replace HO254 := Aside0.mk (Kd.R_drew HO254.out)
 replace BK241 := Aside0.mk (blk_drew BK241.out)
 replace BK300 := Aside0.mk (blk_drew BK300.out)
 replace BK242 := Aside0.mk (blk_drew BK242.out)
 replace BK244 := Aside0.mk (blk_drew BK244.out)
 replace BK255 := Aside0.mk (blk_drew BK255.out)
 replace HB := Aside0.mk (below_drew1 HB.out)
 refine start_ (n := 10) (S := fun w' => w'.cell? ⟨gb255, 0, none⟩ = some (.slice Ao70 t246.length co70) ∧ w'.cell? ⟨gb255, 1, none⟩ = some (.slice Ao75 t249.length co75) ∧ w'.cell? ⟨gb255, 2, none⟩ = some (.slice Ao76 t252.length co76) ∧ w'.cell? ⟨gb300, 0, none⟩ = some (.pointer (some ⟨gb255, 0, none⟩))) (ds := [9]) m0_ s2_ rfl rfl ⟨(blk_cell BK255.out 0).trans rfl, (blk_cell BK255.out 1).trans rfl, (blk_cell BK255.out 2).trans rfl, (blk_cell BK300.out 0).trans rfl⟩ (fun hHeld => ?_)
 generalize w77.drew = w78 at HO248 HO251 HO254 BK241 BK300 BK242 BK244 BK255 HB HO248 HO251 HO254 hHeld ⊢
 refine take_ (i := 0) (N := some 4) (v := ?_) (a' := ?_) m1_ rfl rfl s2_ (fun _ _ _ h => h) (Or.inl ⟨by rfl, ?_⟩) hHeld ?_ ?_
 rotate_left
 {
 rintro w' ⟨s0, s1, s2, s3⟩
 go_simp
 with_reducible rfl}
 rotate_left
 · exact p1_
 refine take_ (i := 1) (N := some 5) (v := ?_) (a' := ?_) m2_ rfl rfl s2_ (fun _ _ _ h => h) (Or.inl ⟨by rfl, ?_⟩) hHeld ?_ ?_
 rotate_left
 {
 rintro w' ⟨s0, s1, s2, s3⟩
 go_simp
 with_reducible rfl}
 rotate_left
 · exact p1_
 refine pure_ (i := 2) (N := some 6) (v := ?_) (a' := ?_) m3_ rfl rfl s2_ (fun _ _ _ h => h) (Or.inl ⟨by rfl, ?_⟩) ?_ ?_
 rotate_left
 {
 intro w'
 go_simp
 with_reducible rfl}
 rotate_left
 · exact p1_
 refine pure_ (i := 3) (N := some 7) (v := ?_) (a' := ?_) m4_ rfl rfl s2_ (fun _ _ _ h => h) (Or.inl ⟨by rfl, ?_⟩) ?_ ?_
 rotate_left
 {
 intro w'
 go_simp
 with_reducible rfl}
 rotate_left
 · exact p1_
 refine pure_ (i := 5) (N := some 9) (v := ?_) (a' := ?_) m5_ rfl rfl s2_ (fun _ _ _ h => h) (Or.inl ⟨by rfl, ?_⟩) ?_ ?_
 rotate_left
 {
 intro w'
 go_simp
 with_reducible rfl}
 rotate_left
 · exact p1_
 refine take_ (i := 4) (N := some 8) (v := ?_) (a' := ?_) m6_ rfl rfl s2_ (fun _ _ _ h => h) (Or.inl ⟨by rfl, ?_⟩) hHeld ?_ ?_
 rotate_left
 {
 rintro w' ⟨s0, s1, s2, s3⟩
 go_simp
 with_reducible rfl}
 rotate_left
 · exact p1_
 refine one_ (i := 6) (N := some 10) m7_ rfl rfl s2_ (by decide) (fun K hK => ?_)
 refine goes_ Try.func53 s2_ rfl #[.slice Ao70 t246.length co70, .func (.func 73) #[] #[.pointer (some ⟨gb241, 0, none⟩)]] (by rfl) rfl rfl s3_ ?_
 with_reducible refine (impl_dropLeases_v0.calls k (fun k_ => some k_ = (.slice Ao70 t246.length co70 : Value).ownBlock) (.slice Ao70 t246.length co70) t246 gb241 a1 t256 w _ ?side1 ?side2 ?side3 A6.out).mono ?_
 (case side1 => repeat (first | (with_reducible first | exact HB.out | apply below_alloc | apply pw_below_drewN | apply below_drew1) | exact HB.out))
 (case side2 => exact (b1_ BK241.out))
 (case side3 => exact Kd.R_tight rfl HO248.out)
 rintro e w79 ⟨v257, rfl, ho0, hb, hkp⟩
 refine ⟨_, rfl, ?_⟩
 have n0_ := Aside0.mk (blk_kept (b1_ BK241.out) hkp (fun hs_ => (fun e_ => (Kd.R_ne HO248.out BK241.out (by decide)) e_) hs_))
 have n0q_ := Aside0.mk (blk_kept (b1_ BK300.out) hkp (fun hs_ => (fun e_ => (Kd.R_ne HO248.out BK300.out (by decide)) e_) hs_))
 have n1_ := Aside0.mk (blk_kept (b1_ BK242.out) hkp (fun hs_ => (fun e_ => (Kd.R_ne HO248.out BK242.out (by decide)) e_) hs_))
 have n2_ := Aside0.mk (blk_kept (b1_ BK244.out) hkp (fun hs_ => (fun e_ => (Kd.R_ne HO248.out BK244.out (by decide)) e_) hs_))
 have n3_ := Aside0.mk (Kd.R_mono (ok' := fun k_ => some k_ ≠ (v257 : Value).ownBlock) (Kd.R_keptB (HO251.out) hkp (fun k_ hk_ hs_ => (hk_) hs_)) (fun k_ hk_ => fun e_ => Or.elim (ho0.1 k_ e_.symm) (fun hs_ => hk_.2.1 hs_) (fun hn_ => Nat.not_le.2 hk_.2.2 hn_)))
 have n4_ := Aside0.mk (Kd.R_mono (ok' := fun k_ => True) (Kd.R_keptB ((Kd.R_apart' HO254.out (Kd.R_typed HO248.out) (by decide))) hkp (fun k_ hk_ hs_ => (hk_.2) hs_)) (fun k_ hk_ => trivial))
 have n5_ := Aside0.mk (blk_kept (b1_ BK255.out) hkp (fun hs_ => (fun e_ => (Kd.R_ne HO248.out BK255.out (by decide)) e_) hs_))
 have n6_ := Aside0.mk (Kd.R_mono (ok' := fun k_ => some k_ ≠ (.slice Ao75 t249.length co75 : Value).ownBlock) ho0 (fun k_ hk_ => Or.elim hk_ (fun hs_ => fun e_ => (((HO251.out).1 k_ e_.symm)) hs_) (fun hn_ => (Kd.fresh' (Kd.R_lt (b2_ HO251.out)) k_ hn_))))
 have n7_ := Aside0.mk (hb)
 clear BK241
 clear BK300
 clear BK242
 clear BK244
 clear HO251
 clear HO254
 clear BK255
 clear HB
 clear HO248
 have BK241 := n0_
 have BK300 := n0q_
 have BK242 := n1_
 have BK244 := n2_
 have HO251 := n3_
 have HO254 := n4_
 have BK255 := n5_
 have HO258 := n6_
 have HB := n7_
 clear n0_ n1_ n2_ n3_ n4_ n5_ n6_ n7_ n0q_
 (try clear hb)
 (try clear hkp)
 (try clear ho0)
 obtain ⟨Ao80, co80, eo80⟩ := Kd.R_slice HO258.out
 (first | subst eo80 | (injection eo80 with f1_ f2_ f3_; have f4_ := f1_.symm; have f5_ := f3_.symm; clear f1_ f2_ f3_; subst f4_; subst f5_))
 refine hK.out _ _ ⟨(blk_cell BK255.out 0).trans rfl, (blk_cell BK255.out 1).trans rfl, (blk_cell BK255.out 2).trans rfl, (blk_cell BK300.out 0).trans rfl⟩ (fun hHeld => ?_)
 clear hK K
 refine norm_ (a' := ?_) ?_ ?_
 rotate_left
 {
 show Act.put _ (some 10) _ = _
 simp only [Act.put, List.setIfInBounds_toArray, List.set_cons_zero, List.set_cons_succ, i64_w, i32_w]
 rfl}
 refine pure_ (i := 7) (N := some 11) (v := ?_) (a' := ?_) m8_ rfl rfl s2_ (fun _ _ _ h => h) (Or.inl ⟨by rfl, ?_⟩) ?_ ?_
 rotate_left
 {
 intro w'
 go_simp
 with_reducible rfl}
 rotate_left
 · exact p1_
 refine pure_ (i := 8) (N := some 12) (v := ?_) (a' := ?_) m9_ rfl rfl s2_ (fun _ _ _ h => h) (Or.inl ⟨by rfl, ?_⟩) ?_ ?_
 rotate_left
 {
 intro w'
 go_simp
 with_reducible rfl}
 rotate_left
 · exact p1_
 refine last_ (i := 9) (N := none) m10_ rfl rfl s2_ (by decide) (fun K hK => ?_)
 have hs81 : w79.cell? ⟨gb255, 0, none⟩ = some (.slice Ao70 t246.length co70) := (blk_cell BK255.out 0).trans rfl
 have hfs81 := blk_frozen BK255.out 0
 have hns81_0 := NB241_255.out
 have hns81_0q := NB300_255.out
 have hns81_1 := NB242_255.out
 have hns81_2 := NB244_255.out
 have hms81_0 := NB255_241.out
 have hms81_0q := NB255_300.out
 have hms81_1 := NB255_242.out
 have hms81_2 := NB255_244.out
 refine skip_ (w1 := ?_) (by rfl) rfl ?_ ?_
 rotate_left
 {
 go_simp
 rfl}
 refine hK.out _ _ ?_
 clear hK K
 refine done_ s2_ ?_
 try go_wp2_with (fail)
 have n0_ : Aside0 (Kd.R k63 63 (w79.setCell ⟨gb255, 0, none⟩ (.slice Ao80 t256.length co80)) w.heap.size (fun k_ => some k_ ≠ (.slice Ao80 t256.length co80 : Value).ownBlock) (.slice Ao75 t249.length co75) t249) := ⟨by (with_reducible repeat (first | apply Kd.R_alloc | apply Kd.R_drewN | apply Kd.R_drew)); exact Kd.R_mono (Kd.R_far (p := ⟨gb255, 0, none⟩) (Kd.R_types HO251.out BK255.out (by decide)) (fun _ hk => hk.2) (.slice Ao80 t256.length co80)) (fun _ hk => hk.1)⟩
 have n1_ : Aside0 (Kd.R k73 73 (w79.setCell ⟨gb255, 0, none⟩ (.slice Ao80 t256.length co80)) w.heap.size (fun _ => True) (.slice Ao76 t252.length co76) t252) := ⟨by (with_reducible repeat (first | apply Kd.R_alloc | apply Kd.R_drewN | apply Kd.R_drew)); exact Kd.R_mono (Kd.R_far (p := ⟨gb255, 0, none⟩) (Kd.R_types HO254.out BK255.out (by decide)) (fun _ hk => hk.2) (.slice Ao80 t256.length co80)) (fun _ hk => trivial)⟩
 have n2_ : Aside0 (Kd.R k63 63 (w79.setCell ⟨gb255, 0, none⟩ (.slice Ao80 t256.length co80)) w.heap.size (fun k_ => some k_ ≠ (.slice Ao75 t249.length co75 : Value).ownBlock) (.slice Ao80 t256.length co80) t256) := ⟨by (with_reducible repeat (first | apply Kd.R_alloc | apply Kd.R_drewN | apply Kd.R_drew)); exact Kd.R_mono (Kd.R_far (p := ⟨gb255, 0, none⟩) (Kd.R_types HO258.out BK255.out (by decide)) (fun _ hk => hk.2) (.slice Ao80 t256.length co80)) (fun _ hk => hk.1)⟩
 have n3_ : Aside0 ((w79.setCell ⟨gb255, 0, none⟩ (.slice Ao80 t256.length co80)).heap[gb241]? = some (.cells #[.int .i64 a1] 2 (0, 0))) := ⟨by (with_reducible repeat (first | refine blk_drewN ?_ _ | refine blk_drew ?_ | refine blk_alloc ?_ _)); refine blk_far ?_ NB241_255.out _; (with_reducible repeat (first | refine blk_drewN ?_ _ | refine blk_drew ?_ | refine blk_alloc ?_ _)); exact BK241.out⟩
 have n3q_ : Aside0 ((w79.setCell ⟨gb255, 0, none⟩ (.slice Ao80 t256.length co80)).heap[gb300]? = some (.cells #[.pointer (some ⟨gb255, 0, none⟩)] 60 (0, 0))) := ⟨by (with_reducible repeat (first | refine blk_drewN ?_ _ | refine blk_drew ?_ | refine blk_alloc ?_ _)); refine blk_far ?_ NB300_255.out _; (with_reducible repeat (first | refine blk_drewN ?_ _ | refine blk_drew ?_ | refine blk_alloc ?_ _)); exact BK300.out⟩
 have n4_ : Aside0 ((w79.setCell ⟨gb255, 0, none⟩ (.slice Ao80 t256.length co80)).heap[gb242]? = some (.cells #[.slice none 0 0, .slice none 0 0, .slice none 0 0] 27 (0, 0))) := ⟨by (with_reducible repeat (first | refine blk_drewN ?_ _ | refine blk_drew ?_ | refine blk_alloc ?_ _)); refine blk_far ?_ NB242_255.out _; (with_reducible repeat (first | refine blk_drewN ?_ _ | refine blk_drew ?_ | refine blk_alloc ?_ _)); exact BK242.out⟩
 have n5_ : Aside0 ((w79.setCell ⟨gb255, 0, none⟩ (.slice Ao80 t256.length co80)).heap[gb244]? = some (.cells #[.slice none 0 0, .slice none 0 0, .slice none 0 0] 27 (0, 0))) := ⟨by (with_reducible repeat (first | refine blk_drewN ?_ _ | refine blk_drew ?_ | refine blk_alloc ?_ _)); refine blk_far ?_ NB244_255.out _; (with_reducible repeat (first | refine blk_drewN ?_ _ | refine blk_drew ?_ | refine blk_alloc ?_ _)); exact BK244.out⟩
 have n6_ : Aside0 ((w79.setCell ⟨gb255, 0, none⟩ (.slice Ao80 t256.length co80)).heap[gb255]? = some (.cells #[.slice Ao80 t256.length co80, .slice Ao75 t249.length co75, .slice Ao76 t252.length co76] 27 (0, 0))) := ⟨by (with_reducible repeat (first | refine blk_drewN ?_ _ | refine blk_drew ?_ | refine blk_alloc ?_ _)); refine blk_put (cs := #[.slice Ao70 t246.length co70, .slice Ao75 t249.length co75, .slice Ao76 t252.length co76]) ?_ 0 _ rfl; (with_reducible repeat (first | refine blk_drewN ?_ _ | refine blk_drew ?_ | refine blk_alloc ?_ _)); exact BK255.out⟩
 have n7_ : Aside0 (Below w.heap.size w (w79.setCell ⟨gb255, 0, none⟩ (.slice Ao80 t256.length co80))) := ⟨by repeat (first | (with_reducible first | exact HB.out | apply below_alloc | apply pw_below_drewN | apply below_drew1 | refine below_set ?_ GE255.out) | exact HB.out)⟩
 (try clear HO251)
 (try clear HO254)
 (try clear HO258)
 (try clear BK241)
 (try clear BK300)
 (try clear BK242)
 (try clear BK244)
 (try clear BK255)
 (try clear HB)
 generalize (w79.setCell ⟨gb255, 0, none⟩ (.slice Ao80 t256.length co80)) = w82 at n0_ n1_ n2_ n3_ n4_ n5_ n6_ n7_ n3q_ ⊢
 have HO251 := n0_
 have HO254 := n1_
 have HO258 := n2_
 have BK241 := n3_
 have BK300 := n3q_
 have BK242 := n4_
 have BK244 := n5_
 have BK255 := n6_
 have HB := n7_
 clear n0_ n1_ n2_ n3_ n4_ n5_ n6_ n7_ n3q_
 replace HO251 := Aside0.mk (Kd.R_drew HO251.out)
 replace HO254 := Aside0.mk (Kd.R_drew HO254.out)
 replace HO258 := Aside0.mk (Kd.R_drew HO258.out)
 replace BK241 := Aside0.mk (blk_drew BK241.out)
 replace BK300 := Aside0.mk (blk_drew BK300.out)
 replace BK242 := Aside0.mk (blk_drew BK242.out)
 replace BK244 := Aside0.mk (blk_drew BK244.out)
 replace BK255 := Aside0.mk (blk_drew BK255.out)
 replace HB := Aside0.mk (below_drew1 HB.out)
 refine start_ (n := 10) (S := fun w' => w'.cell? ⟨gb255, 0, none⟩ = some (.slice Ao80 t256.length co80) ∧ w'.cell? ⟨gb255, 1, none⟩ = some (.slice Ao75 t249.length co75) ∧ w'.cell? ⟨gb255, 2, none⟩ = some (.slice Ao76 t252.length co76) ∧ w'.cell? ⟨gb300, 0, none⟩ = some (.pointer (some ⟨gb255, 0, none⟩))) (ds := [9]) m0_ s2_ rfl rfl ⟨(blk_cell BK255.out 0).trans rfl, (blk_cell BK255.out 1).trans rfl, (blk_cell BK255.out 2).trans rfl, (blk_cell BK300.out 0).trans rfl⟩ (fun hHeld => ?_)
 generalize w82.drew = w83 at HO251 HO254 HO258 BK241 BK300 BK242 BK244 BK255 HB HO251 HO254 HO258 hHeld ⊢
 refine take_ (i := 0) (N := some 13) (v := ?_) (a' := ?_) m1_ rfl rfl s2_ (fun _ _ _ h => h) (Or.inl ⟨by rfl, ?_⟩) hHeld ?_ ?_
 rotate_left
 {
 rintro w' ⟨s0, s1, s2, s3⟩
 go_simp
 with_reducible rfl}
 rotate_left
 · exact p1_
 refine take_ (i := 1) (N := some 14) (v := ?_) (a' := ?_) m2_ rfl rfl s2_ (fun _ _ _ h => h) (Or.inl ⟨by rfl, ?_⟩) hHeld ?_ ?_
 rotate_left
 {
 rintro w' ⟨s0, s1, s2, s3⟩
 go_simp
 with_reducible rfl}
 rotate_left
 · exact p1_
 refine pure_ (i := 2) (N := some 15) (v := ?_) (a' := ?_) m3_ rfl rfl s2_ (fun _ _ _ h => h) (Or.inl ⟨by rfl, ?_⟩) ?_ ?_
 rotate_left
 {
 intro w'
 go_simp
 with_reducible rfl}
 rotate_left
 · exact p1_
 refine pure_ (i := 3) (N := some 16) (v := ?_) (a' := ?_) m4_ rfl rfl s2_ (fun _ _ _ h => h) (Or.inl ⟨by rfl, ?_⟩) ?_ ?_
 rotate_left
 {
 intro w'
 go_simp
 with_reducible rfl}
 rotate_left
 · exact p1_
 refine pure_ (i := 5) (N := some 18) (v := ?_) (a' := ?_) m5_ rfl rfl s2_ (fun _ _ _ h => h) (Or.inl ⟨by rfl, ?_⟩) ?_ ?_
 rotate_left
 {
 intro w'
 go_simp
 with_reducible rfl}
 rotate_left
 · exact p1_
 refine take_ (i := 4) (N := some 17) (v := ?_) (a' := ?_) m6_ rfl rfl s2_ (fun _ _ _ h => h) (Or.inl ⟨by rfl, ?_⟩) hHeld ?_ ?_
 rotate_left
 {
 rintro w' ⟨s0, s1, s2, s3⟩
 go_simp
 with_reducible rfl}
 rotate_left
 · exact p1_
 refine one_ (i := 6) (N := some 19) m7_ rfl rfl s2_ (by decide) (fun K hK => ?_)
 refine goes_ Try.func53 s2_ rfl #[.slice Ao75 t249.length co75, .func (.func 74) #[] #[.pointer (some ⟨gb241, 0, none⟩), .pointer (some ⟨gb300, 0, none⟩)]] (by rfl) rfl rfl s3_ ?_
 with_reducible refine (impl_dropLeases_v4.calls k (fun k_ => some k_ = (.slice Ao75 t249.length co75 : Value).ownBlock) (.slice Ao75 t249.length co75) t249 gb241 gb255 gb300 a1 Ao80 co80 t256 (.slice Ao75 t249.length co75) t249 (.slice Ao76 t252.length co76) t252 t259 w _ ?side1 ?side2 ?side3 ?sideq ?side4 ?side5 ?side6 A7.out).mono ?_
 (case side1 => repeat (first | (with_reducible first | exact HB.out | apply below_alloc | apply pw_below_drewN | apply below_drew1) | exact HB.out))
 (case side2 => exact (b1_ BK241.out))
 (case side3 => exact (b1_ BK255.out))
 (case sideq => exact (b1_ BK300.out))
 (case side4 => exact Kd.R_tight rfl HO251.out)
 (case side5 => exact Kd.C_kept_own (HO258.out) (fun k_ hk_ hs_ => (hk_) hs_))
 (case side6 => exact (Kd.R_reads' HO258.out).2.1)
 rintro e w84 ⟨v260, rfl, ho0, hb, hkp⟩
 refine ⟨_, rfl, ?_⟩
 have n0_ := Aside0.mk (blk_kept (b1_ BK241.out) hkp (fun hs_ => (fun e_ => (Kd.R_ne HO251.out BK241.out (by decide)) e_) hs_))
 have n0q_ := Aside0.mk (blk_kept (b1_ BK300.out) hkp (fun hs_ => (fun e_ => (Kd.R_ne HO251.out BK300.out (by decide)) e_) hs_))
 have n1_ := Aside0.mk (blk_kept (b1_ BK242.out) hkp (fun hs_ => (fun e_ => (Kd.R_ne HO251.out BK242.out (by decide)) e_) hs_))
 have n2_ := Aside0.mk (blk_kept (b1_ BK244.out) hkp (fun hs_ => (fun e_ => (Kd.R_ne HO251.out BK244.out (by decide)) e_) hs_))
 have n3_ := Aside0.mk (Kd.R_mono (ok' := fun k_ => True) (Kd.R_keptB ((Kd.R_apart' HO254.out (Kd.R_typed HO251.out) (by decide))) hkp (fun k_ hk_ hs_ => (hk_.2) hs_)) (fun k_ hk_ => trivial))
 have n4_ := Aside0.mk (blk_kept (b1_ BK255.out) hkp (fun hs_ => (fun e_ => (Kd.R_ne HO251.out BK255.out (by decide)) e_) hs_))
 have n5_ := Aside0.mk (Kd.R_mono (ok' := fun k_ => some k_ ≠ (v260 : Value).ownBlock) (Kd.R_keptB (HO258.out) hkp (fun k_ hk_ hs_ => (hk_) hs_)) (fun k_ hk_ => fun e_ => Or.elim (ho0.1 k_ e_.symm) (fun hs_ => hk_.2.1 hs_) (fun hn_ => Nat.not_le.2 hk_.2.2 hn_)))
 have n6_ := Aside0.mk (Kd.R_mono (ok' := fun k_ => some k_ ≠ (.slice Ao80 t256.length co80 : Value).ownBlock) ho0 (fun k_ hk_ => Or.elim hk_ (fun hs_ => fun e_ => (((HO258.out).1 k_ e_.symm)) hs_) (fun hn_ => (Kd.fresh' (Kd.R_lt (b2_ HO258.out)) k_ hn_))))
 have n7_ := Aside0.mk (hb)
 clear BK241
 clear BK300
 clear BK242
 clear BK244
 clear HO254
 clear BK255
 clear HO258
 clear HB
 clear HO251
 have BK241 := n0_
 have BK300 := n0q_
 have BK242 := n1_
 have BK244 := n2_
 have HO254 := n3_
 have BK255 := n4_
 have HO258 := n5_
 have HO261 := n6_
 have HB := n7_
 clear n0_ n1_ n2_ n3_ n4_ n5_ n6_ n7_ n0q_
 (try clear hb)
 (try clear hkp)
 (try clear ho0)
 obtain ⟨Ao85, co85, eo85⟩ := Kd.R_slice HO261.out
 (first | subst eo85 | (injection eo85 with f1_ f2_ f3_; have f4_ := f1_.symm; have f5_ := f3_.symm; clear f1_ f2_ f3_; subst f4_; subst f5_))
 refine hK.out _ _ ⟨(blk_cell BK255.out 0).trans rfl, (blk_cell BK255.out 1).trans rfl, (blk_cell BK255.out 2).trans rfl, (blk_cell BK300.out 0).trans rfl⟩ (fun hHeld => ?_)
 clear hK K
 refine norm_ (a' := ?_) ?_ ?_
 rotate_left
 {
 show Act.put _ (some 19) _ = _
 simp only [Act.put, List.setIfInBounds_toArray, List.set_cons_zero, List.set_cons_succ, i64_w, i32_w]
 rfl}
 refine pure_ (i := 7) (N := some 20) (v := ?_) (a' := ?_) m8_ rfl rfl s2_ (fun _ _ _ h => h) (Or.inl ⟨by rfl, ?_⟩) ?_ ?_
 rotate_left
 {
 intro w'
 go_simp
 with_reducible rfl}
 rotate_left
 · exact p1_
 refine pure_ (i := 8) (N := some 21) (v := ?_) (a' := ?_) m9_ rfl rfl s2_ (fun _ _ _ h => h) (Or.inl ⟨by rfl, ?_⟩) ?_ ?_
 rotate_left
 {
 intro w'
 go_simp
 with_reducible rfl}
 rotate_left
 · exact p1_
 refine last_ (i := 9) (N := none) m10_ rfl rfl s2_ (by decide) (fun K hK => ?_)
 have hs86 : w84.cell? ⟨gb255, 1, none⟩ = some (.slice Ao75 t249.length co75) := (blk_cell BK255.out 1).trans rfl
 have hfs86 := blk_frozen BK255.out 1
 have hns86_0 := NB241_255.out
 have hns86_0q := NB300_255.out
 have hns86_1 := NB242_255.out
 have hns86_2 := NB244_255.out
 have hms86_0 := NB255_241.out
 have hms86_0q := NB255_300.out
 have hms86_1 := NB255_242.out
 have hms86_2 := NB255_244.out
 refine skip_ (w1 := ?_) (by rfl) rfl ?_ ?_
 rotate_left
 {
 go_simp
 rfl}
 refine hK.out _ _ ?_
 clear hK K
 refine done_ s2_ ?_
 have hnb87 := NB241_242.out
 have hnb87q := NB300_242.out
 have hnc87 := NB242_241.out
 have hnc87q := NB242_300.out
 have hnb88 := NB241_244.out
 have hnb88q := NB300_244.out
 have hnc88 := NB244_241.out
 have hnc88q := NB244_300.out
 have hcz89_0 := c1_ BK241 0 (.int .i64 a1)
 have hfz89_0 := f1_ BK241 0
 try go_wp2_with (first | ((with_reducible refine gate_callee (f := 45) rfl ?_); refine goesL_ (some 23) rfl rfl Try.func45 s2_ rfl #[.int .i64 a1] rfl s3_ ?_; (with_reducible refine (impl_isTick.calls a1 true _ A8.out).mono ?_); rintro e w' ⟨rfl, ⟨nd, rfl⟩⟩; refine ⟨_, rfl, ?_⟩; have hcz90_0 := c1_ BK255 0 (.slice Ao80 t256.length co80); have hcz90_1 := c1_ BK255 1 (.slice Ao75 t249.length co75); have hcz90_2 := c1_ BK255 2 (.slice Ao76 t252.length co76); have hfz90_0 := f1_ BK255 0; have hfz90_1 := f1_ BK255 1; have hfz90_2 := f1_ BK255 2) | (go_at_call 19; (with_reducible refine (impl_ValidPresence.calls k _ _ t256 _ _ t259 _ _ t252 false _ ?side1 ?side2 ?side3 ?side4 ?side5 ?side6 A10.out).mono ?_); (case side1 => refine (Kd.R_reads' (e := 63) (base := w.heap.size) (ok := fun k_ => some k_ ≠ (.slice Ao85 t259.length co85 : Value).ownBlock) (n := t256.length) (c := co80) ?_).2.2; exact (by (with_reducible repeat (first | apply Kd.R_alloc | apply Kd.R_drewN | apply Kd.R_drew)); exact (Kd.R_mono (Kd.R_far (p := ⟨gb255, 1, none⟩) (Kd.R_types HO258.out BK255.out (by decide)) (fun _ hk => hk.2) (.slice Ao85 t259.length co85)) (fun _ h_ => h_.1)))); (case side2 => exact (Kd.R_reads' HO258.out).2.1); (case side3 => refine (Kd.R_reads' (e := 63) (base := w.heap.size) (ok := fun k_ => some k_ ≠ (.slice Ao80 t256.length co80 : Value).ownBlock) (n := t259.length) (c := co85) ?_).2.2; exact (by (with_reducible repeat (first | apply Kd.R_alloc | apply Kd.R_drewN | apply Kd.R_drew)); exact (Kd.R_mono (Kd.R_far (p := ⟨gb255, 1, none⟩) (Kd.R_types HO261.out BK255.out (by decide)) (fun _ hk => hk.2) (.slice Ao85 t259.length co85)) (fun _ h_ => h_.1)))); (case side4 => exact (Kd.R_reads' HO261.out).2.1); (case side5 => refine (Kd.R_reads' (e := 73) (base := w.heap.size) (ok := fun k_ => True) (n := t252.length) (c := co76) ?_).2.2; exact (by (with_reducible repeat (first | apply Kd.R_alloc | apply Kd.R_drewN | apply Kd.R_drew)); exact (Kd.R_mono (Kd.R_far (p := ⟨gb255, 1, none⟩) (Kd.R_types HO254.out BK255.out (by decide)) (fun _ hk => hk.2) (.slice Ao85 t259.length co85)) (fun _ h_ => h_.1)))); (case side6 => exact (Kd.R_reads' HO254.out).2.1); rintro e w91 ⟨rfl, hb⟩; replace HO254 := Aside0.mk (Kd.R_below (by (with_reducible repeat (first | apply Kd.R_alloc | apply Kd.R_drewN | apply Kd.R_drew)); exact (Kd.R_mono (Kd.R_far (p := ⟨gb255, 1, none⟩) (Kd.R_types HO254.out BK255.out (by decide)) (fun _ hk => hk.2) (.slice Ao85 t259.length co85)) (fun _ h_ => h_.1))) hb); replace HO258 := Aside0.mk (Kd.R_below (by (with_reducible repeat (first | apply Kd.R_alloc | apply Kd.R_drewN | apply Kd.R_drew)); exact (Kd.R_mono (Kd.R_far (p := ⟨gb255, 1, none⟩) (Kd.R_types HO258.out BK255.out (by decide)) (fun _ hk => hk.2) (.slice Ao85 t259.length co85)) (fun _ h_ => h_.1))) hb); replace HO261 := Aside0.mk (Kd.R_below (by (with_reducible repeat (first | apply Kd.R_alloc | apply Kd.R_drewN | apply Kd.R_drew)); exact (Kd.R_mono (Kd.R_far (p := ⟨gb255, 1, none⟩) (Kd.R_types HO261.out BK255.out (by decide)) (fun _ hk => hk.2) (.slice Ao85 t259.length co85)) (fun _ h_ => h_.1))) hb); replace BK241 := Aside0.mk (blk_below (g := gb241) (o := .cells #[.int .i64 a1] 2 (0, 0)) (by (with_reducible repeat (first | refine blk_drewN ?_ _ | refine blk_drew ?_ | refine blk_alloc ?_ _)); refine blk_far ?_ NB241_255.out _; (with_reducible repeat (first | refine blk_drewN ?_ _ | refine blk_drew ?_ | refine blk_alloc ?_ _)); exact BK241.out) hb); replace BK300 := Aside0.mk (blk_below (g := gb300) (o := .cells #[.pointer (some ⟨gb255, 0, none⟩)] 60 (0, 0)) (by (with_reducible repeat (first | refine blk_drewN ?_ _ | refine blk_drew ?_ | refine blk_alloc ?_ _)); refine blk_far ?_ NB300_255.out _; (with_reducible repeat (first | refine blk_drewN ?_ _ | refine blk_drew ?_ | refine blk_alloc ?_ _)); exact BK300.out) hb); replace BK242 := Aside0.mk (blk_below (g := gb242) (o := .cells #[.slice none 0 0, .slice none 0 0, .slice none 0 0] 27 (0, 0)) (by (with_reducible repeat (first | refine blk_drewN ?_ _ | refine blk_drew ?_ | refine blk_alloc ?_ _)); refine blk_far ?_ NB242_255.out _; (with_reducible repeat (first | refine blk_drewN ?_ _ | refine blk_drew ?_ | refine blk_alloc ?_ _)); exact BK242.out) hb); replace BK244 := Aside0.mk (blk_below (g := gb244) (o := .cells #[.slice none 0 0, .slice none 0 0, .slice none 0 0] 27 (0, 0)) (by (with_reducible repeat (first | refine blk_drewN ?_ _ | refine blk_drew ?_ | refine blk_alloc ?_ _)); refine blk_far ?_ NB244_255.out _; (with_reducible repeat (first | refine blk_drewN ?_ _ | refine blk_drew ?_ | refine blk_alloc ?_ _)); exact BK244.out) hb); replace BK255 := Aside0.mk (blk_below (g := gb255) (o := .cells #[.slice Ao80 t256.length co80, .slice Ao85 t259.length co85, .slice Ao76 t252.length co76] 27 (0, 0)) (by (with_reducible repeat (first | refine blk_drewN ?_ _ | refine blk_drew ?_ | refine blk_alloc ?_ _)); refine blk_put (cs := #[.slice Ao80 t256.length co80, .slice Ao75 t249.length co75, .slice Ao76 t252.length co76]) ?_ 1 _ rfl; (with_reducible repeat (first | refine blk_drewN ?_ _ | refine blk_drew ?_ | refine blk_alloc ?_ _)); exact BK255.out) hb); replace HB := Aside0.mk (below_step (by repeat (first | (with_reducible first | exact HB.out | apply below_alloc | apply pw_below_drewN | apply below_drew1 | refine below_set ?_ GE255.out) | exact HB.out)) hb); (try clear hb); (try clear hb2); (try clear hk); (try clear hi); have hnb92 := NB244_242.out; have hnc92 := NB242_244.out; have hcz93_0 := c1_ BK244 0 (.slice none 0 0); have hcz93_1 := c1_ BK244 1 (.slice none 0 0); have hcz93_2 := c1_ BK244 2 (.slice none 0 0); have hfz93_0 := f1_ BK244 0; have hfz93_1 := f1_ BK244 1; have hfz93_2 := f1_ BK244 2))
 (try simp only [Exit.inBlock, Exit.then])
 refine bodyPost_ret (results_ct rfl _ _ gb244 27 #[.slice none 0 0, .slice none 0 0, .slice none 0 0] (0, 0) _ rfl (by (with_reducible repeat (first | refine blk_drewN ?_ _ | refine blk_drew ?_ | refine blk_alloc ?_ _)); refine blk_put3 (cs := #[.slice none 0 0, .slice none 0 0, .slice none 0 0]) ?_ rfl; (with_reducible repeat (first | refine blk_drewN ?_ _ | refine blk_drew ?_ | refine blk_alloc ?_ _)); exact BK244.out) Try.underlying27 rfl s2_) rfl ?_
 (try simp only [])
 have hcz94_0 := c1_ BK242 0 (.slice none 0 0)
 have hcz94_1 := c1_ BK242 1 (.slice none 0 0)
 have hcz94_2 := c1_ BK242 2 (.slice none 0 0)
 have hfz94_0 := f1_ BK242 0
 have hfz94_1 := f1_ BK242 1
 have hfz94_2 := f1_ BK242 2
 try go_wp2_with (fail)
 refine bodyPost_ret (results_ct rfl _ _ gb242 27 #[.slice none 0 0, .slice none 0 0, .slice none 0 0] (0, 0) _ rfl (by (with_reducible repeat (first | refine blk_drewN ?_ _ | refine blk_drew ?_ | refine blk_alloc ?_ _)); refine blk_put3 (cs := #[.slice none 0 0, .slice none 0 0, .slice none 0 0]) ?_ rfl; (with_reducible repeat (first | refine blk_drewN ?_ _ | refine blk_drew ?_ | refine blk_alloc ?_ _)); refine blk_far3 ?_ NB242_244.out; (with_reducible repeat (first | refine blk_drewN ?_ _ | refine blk_drew ?_ | refine blk_alloc ?_ _)); exact BK242.out) Try.underlying27 rfl s2_) rfl ?_
 exact ⟨_, _, _, by first | rfl | (simp [errW_none, errW_some] <;> rfl) | (simp [*, errW_none, errW_some] <;> rfl), by first | exact Kd.R_nil _ _ _ _ _ | exact Kd.N_nil _ _ _ _ _ | exact Kd.V_nil _ _ _ _ _ | exact Kd.Q_nil _ _ _ _ _ | exact Kd.S_nil _ _ _ _ _, by first | exact Kd.R_nil _ _ _ _ _ | exact Kd.N_nil _ _ _ _ _ | exact Kd.V_nil _ _ _ _ _ | exact Kd.Q_nil _ _ _ _ _ | exact Kd.S_nil _ _ _ _ _, by first | exact Kd.R_nil _ _ _ _ _ | exact Kd.N_nil _ _ _ _ _ | exact Kd.V_nil _ _ _ _ _ | exact Kd.Q_nil _ _ _ _ _ | exact Kd.S_nil _ _ _ _ _, by repeat (first | (with_reducible first | exact HB.out | apply below_alloc | apply pw_below_drewN | apply below_drew1 | refine below_set ?_ GE242.out | refine below_set ?_ GE244.out) | exact HB.out)⟩}}
 {
 replace c9 := Bool.eq_false_iff.mpr c9
 subst c9
 have H1 : (some (([] : List (S63)), ([] : List (S63)), ([] : List (S73)), false)) = some (r1, r2, r3, r4) := by rw [if_neg (show ¬ (false = true) by decide)] at H; exact H
 clear H
 have H := H1
 clear H1
 simp only [Option.some.injEq, Prod.mk.injEq] at H
 obtain ⟨rfl, rfl, rfl, rfl⟩ := H
 go_enter Try.func31, Try.ntmps31
 try go_wp2_with (first | ((with_reducible refine gate_dst (N := 2) rfl ?_); (try (refine gate_guard (by rfl) ?_; dsimp only)); refine bx_ 2 #[.slice A0_0 l0_0.length c0_0, .slice A0_1 l0_1.length c0_1, .slice A0_2 l0_2.length c0_2] 27 ?_; intro gb240 hg w95 hbox hb; have GW240 := b6_ hg HB; have GE240 := b6_ hg HB; replace HB := Aside0.mk (below_step (y1_ HB.out) hb); have BK240 := Aside0.mk (hbox); clear hb hbox hg) | ((with_reducible refine gate_dst (N := 3) rfl ?_); (try (refine gate_guard (by rfl) ?_; dsimp only)); refine bx_ 3 #[.int .i64 a1] 2 ?_; intro gb241 hg w96 hbox hb; have GW241 := b6_ hg HB; have GE241 := b6_ hg HB; have NB240_241 := b4_ hg BK240; have NB241_240 := b5_ hg BK240; replace BK240 := b3_ BK240 hb; replace HB := Aside0.mk (below_step (y1_ HB.out) hb); have BK241 := Aside0.mk (hbox); clear hb hbox hg) | ((with_reducible refine gate_dst (N := 4) rfl ?_); (try (refine gate_guard (by rfl) ?_; dsimp only)); refine bx_ 4 #[.slice none 0 0, .slice none 0 0, .slice none 0 0] 27 ?_; intro gb242 hg w97 hbox hb; have GW242 := b6_ hg HB; have GE242 := b6_ hg HB; have NB240_242 := b4_ hg BK240; have NB242_240 := b5_ hg BK240; have NB241_242 := b4_ hg BK241; have NB242_241 := b5_ hg BK241; replace BK240 := b3_ BK240 hb; replace BK241 := b3_ BK241 hb; replace HB := Aside0.mk (below_step (y1_ HB.out) hb); have BK242 := Aside0.mk (hbox); clear hb hbox hg; have hnb98 := NB240_241.out; have hnc98 := NB241_240.out; have hnb99 := NB240_242.out; have hnc99 := NB242_240.out; have hcz100_0 := c1_ BK240 0 (.slice A0_0 l0_0.length c0_0); have hcz100_1 := c1_ BK240 1 (.slice A0_1 l0_1.length c0_1); have hcz100_2 := c1_ BK240 2 (.slice A0_2 l0_2.length c0_2); have hfz100_0 := f1_ BK240 0; have hfz100_1 := f1_ BK240 1; have hfz100_2 := f1_ BK240 2))
 go_at_call 42
 go_in
 try go_wp2_with (first | ((with_reducible refine gate_dst (N := 2) rfl ?_); (try (refine gate_guard (by rfl) ?_; dsimp only)); refine bx_ 2 #[.slice A0_0 l0_0.length c0_0, .slice A0_1 l0_1.length c0_1, .slice A0_2 l0_2.length c0_2] 27 ?_; intro gb243 hg w101 hbox hb; have GW243 := b6_ hg HB; have GE243 := b6_ hg HB; have NB241_243 := b4_ hg BK241; have NB243_241 := b5_ hg BK241; have NB242_243 := b4_ hg BK242; have NB243_242 := b5_ hg BK242; replace BK241 := b3_ BK241 hb; replace BK242 := b3_ BK242 hb; replace HB := Aside0.mk (below_step (y1_ HB.out) hb); have BK243 := Aside0.mk (hbox); clear hb hbox hg) | ((with_reducible refine gate_dst (N := 4) rfl ?_); (try (refine gate_guard (by rfl) ?_; dsimp only)); refine bx_ 4 #[.slice none 0 0, .slice none 0 0, .slice none 0 0] 27 ?_; intro gb244 hg w102 hbox hb; have GW244 := b6_ hg HB; have GE244 := b6_ hg HB; have NB241_244 := b4_ hg BK241; have NB244_241 := b5_ hg BK241; have NB242_244 := b4_ hg BK242; have NB244_242 := b5_ hg BK242; have NB243_244 := b4_ hg BK243; have NB244_243 := b5_ hg BK243; replace BK241 := b3_ BK241 hb; replace BK242 := b3_ BK242 hb; replace BK243 := b3_ BK243 hb; replace HB := Aside0.mk (below_step (y1_ HB.out) hb); have BK244 := Aside0.mk (hbox); clear hb hbox hg; have hnb103 := NB243_241.out; have hnc103 := NB241_243.out; have hnb104 := NB243_242.out; have hnc104 := NB242_243.out; have hnb105 := NB243_244.out; have hnc105 := NB244_243.out; have hcz106_0 := c1_ BK243 0 (.slice A0_0 l0_0.length c0_0); have hcz106_1 := c1_ BK243 1 (.slice A0_1 l0_1.length c0_1); have hcz106_2 := c1_ BK243 2 (.slice A0_2 l0_2.length c0_2); have hfz106_0 := f1_ BK243 0; have hfz106_1 := f1_ BK243 1; have hfz106_2 := f1_ BK243 2) | ((with_reducible refine gate_callee (f := 19) rfl ?_); refine goesL_ (some 8) rfl rfl Try.func19 s2_ rfl #[.agg #[.slice A0_0 l0_0.length c0_0, .slice A0_1 l0_1.length c0_1, .slice A0_2 l0_2.length c0_2]] rfl s3_ ?_; (with_reducible refine (impl_ValidPresence.calls k _ _ l0_0 _ _ l0_1 _ _ l0_2 true _ ?side1 ?side2 ?side3 ?side4 ?side5 ?side6 A3.out).mono ?_); (case side1 => exact y2_ (Kd.C_below HR0_0.out HB.out)); (case side2 => exact HC0_0.out); (case side3 => exact y2_ (Kd.C_below HR0_1.out HB.out)); (case side4 => exact HC0_1.out); (case side5 => exact y2_ (Kd.C_below HR0_2.out HB.out)); (case side6 => exact HC0_2.out); rintro e w107 ⟨rfl, hb⟩; refine ⟨_, rfl, ?_⟩; replace BK241 := b3_ BK241 hb; replace BK242 := b3_ BK242 hb; replace BK243 := b3_ BK243 hb; replace BK244 := b3_ BK244 hb; replace HB := Aside0.mk (below_step (y1_ HB.out) hb); (try clear hb); (try clear hb2); (try clear hk); (try clear hi); have hcz108_0 := c1_ BK243 0 (.slice A0_0 l0_0.length c0_0); have hcz108_1 := c1_ BK243 1 (.slice A0_1 l0_1.length c0_1); have hcz108_2 := c1_ BK243 2 (.slice A0_2 l0_2.length c0_2); have hfz108_0 := f1_ BK243 0; have hfz108_1 := f1_ BK243 1; have hfz108_2 := f1_ BK243 2) | ((with_reducible refine gate_callee (f := 90) rfl ?_); refine goesL_ (some 12) rfl rfl Try.func90 s2_ rfl #[.agg #[.slice A0_0 l0_0.length c0_0, .slice A0_1 l0_1.length c0_1, .slice A0_2 l0_2.length c0_2]] rfl s3_ ?_; (with_reducible refine (impl_clonePresence.calls _ _ l0_0 _ _ l0_1 _ _ l0_2 t246 t249 t252 _ ?side1 ?side2 ?side3 ?side4 ?side5 ?side6 A5.out).mono ?_); (case side1 => exact y2_ (Kd.C_below HR0_0.out HB.out)); (case side2 => exact HC0_0.out); (case side3 => exact y2_ (Kd.C_below HR0_1.out HB.out)); (case side4 => exact HC0_1.out); (case side5 => exact y2_ (Kd.C_below HR0_2.out HB.out)); (case side6 => exact HC0_2.out); rintro e w109 ⟨v247, v250, v253, rfl, ho0, ho1, ho2, hb⟩; refine ⟨_, rfl, ?_⟩; have HO248 := Aside0.mk (Kd.R_lower ho0 (below_size (y1_ HB.out))); have HO251 := Aside0.mk (Kd.R_lower ho1 (below_size (y1_ HB.out))); have HO254 := Aside0.mk (Kd.R_lower ho2 (below_size (y1_ HB.out))); replace BK241 := b3_ BK241 hb; replace BK242 := b3_ BK242 hb; replace BK244 := b3_ BK244 hb; replace HB := Aside0.mk (below_step (y1_ HB.out) hb); (try clear hb); (try clear hb2); (try clear hk); (try clear hi); (try clear ho0); (try clear ho1); (try clear ho2)) | ((with_reducible refine gate_dst (N := 6) rfl ?_); (try (refine gate_guard (by rfl) ?_; dsimp only)); refine bx_ 6 #[.slice none 0 0, .slice none 0 0, .slice none 0 0] 27 ?_; intro gb255 hg w110 hbox hb; have GW255 := b6_ hg HB; have GE255 := b6_ hg HB; have NB241_255 := b4_ hg BK241; have NB255_241 := b5_ hg BK241; have NB242_255 := b4_ hg BK242; have NB255_242 := b5_ hg BK242; have NB244_255 := b4_ hg BK244; have NB255_244 := b5_ hg BK244; replace HO248 := r1_ HO248 hb; replace HO251 := r1_ HO251 hb; replace HO254 := r1_ HO254 hb; replace BK241 := b3_ BK241 hb; replace BK242 := b3_ BK242 hb; replace BK244 := b3_ BK244 hb; replace HB := Aside0.mk (below_step (y1_ HB.out) hb); have BK255 := Aside0.mk (hbox); clear hb hbox hg; obtain ⟨Ao111, co111, eo111⟩ := Kd.R_slice HO248.out; subst eo111; have hnb112 := NB255_241.out; have hnc112 := NB241_255.out; have hnb113 := NB255_242.out; have hnc113 := NB242_255.out; have hnb114 := NB255_244.out; have hnc114 := NB244_255.out; have hcz115_0 := c1_ BK255 0 (.slice none 0 0); have hcz115_1 := c1_ BK255 1 (.slice none 0 0); have hcz115_2 := c1_ BK255 2 (.slice none 0 0); have hfz115_0 := f1_ BK255 0; have hfz115_1 := f1_ BK255 1; have hfz115_2 := f1_ BK255 2; obtain ⟨Ao116, co116, eo116⟩ := Kd.R_slice HO251.out; subst eo116; obtain ⟨Ao117, co117, eo117⟩ := Kd.R_slice HO254.out; subst eo117))
 go_at_call 72
 go_in
 have n0_ : Aside0 (Kd.R k63 63 (((w110.setCell ⟨gb255, 0, none⟩ (.slice Ao111 t246.length co111)).setCell ⟨gb255, 1, none⟩ (.slice Ao116 t249.length co116)).setCell ⟨gb255, 2, none⟩ (.slice Ao117 t252.length co117)) w.heap.size (fun k_ => some k_ ≠ (.slice Ao116 t249.length co116 : Value).ownBlock) (.slice Ao111 t246.length co111) t246) := ⟨by (with_reducible repeat (first | apply Kd.R_alloc | apply Kd.R_drewN | apply Kd.R_drew)); exact Kd.R_mono (Kd.R_far3 (g := gb255) (Kd.R_types HO248.out BK255.out (by decide)) (fun _ hk => hk.2)) (fun _ hk => hk.1)⟩
 have n1_ : Aside0 (Kd.R k63 63 (((w110.setCell ⟨gb255, 0, none⟩ (.slice Ao111 t246.length co111)).setCell ⟨gb255, 1, none⟩ (.slice Ao116 t249.length co116)).setCell ⟨gb255, 2, none⟩ (.slice Ao117 t252.length co117)) w.heap.size (fun k_ => some k_ ≠ (.slice Ao111 t246.length co111 : Value).ownBlock) (.slice Ao116 t249.length co116) t249) := ⟨by (with_reducible repeat (first | apply Kd.R_alloc | apply Kd.R_drewN | apply Kd.R_drew)); exact Kd.R_mono (Kd.R_far3 (g := gb255) (Kd.R_types HO251.out BK255.out (by decide)) (fun _ hk => hk.2)) (fun _ hk => hk.1)⟩
 have n2_ : Aside0 (Kd.R k73 73 (((w110.setCell ⟨gb255, 0, none⟩ (.slice Ao111 t246.length co111)).setCell ⟨gb255, 1, none⟩ (.slice Ao116 t249.length co116)).setCell ⟨gb255, 2, none⟩ (.slice Ao117 t252.length co117)) w.heap.size (fun _ => True) (.slice Ao117 t252.length co117) t252) := ⟨by (with_reducible repeat (first | apply Kd.R_alloc | apply Kd.R_drewN | apply Kd.R_drew)); exact Kd.R_mono (Kd.R_far3 (g := gb255) (Kd.R_types HO254.out BK255.out (by decide)) (fun _ hk => hk.2)) (fun _ hk => trivial)⟩
 have n3_ : Aside0 ((((w110.setCell ⟨gb255, 0, none⟩ (.slice Ao111 t246.length co111)).setCell ⟨gb255, 1, none⟩ (.slice Ao116 t249.length co116)).setCell ⟨gb255, 2, none⟩ (.slice Ao117 t252.length co117)).heap[gb241]? = some (.cells #[.int .i64 a1] 2 (0, 0))) := ⟨by (with_reducible repeat (first | refine blk_drewN ?_ _ | refine blk_drew ?_ | refine blk_alloc ?_ _)); refine blk_far3 ?_ NB241_255.out; (with_reducible repeat (first | refine blk_drewN ?_ _ | refine blk_drew ?_ | refine blk_alloc ?_ _)); exact BK241.out⟩
 have n4_ : Aside0 ((((w110.setCell ⟨gb255, 0, none⟩ (.slice Ao111 t246.length co111)).setCell ⟨gb255, 1, none⟩ (.slice Ao116 t249.length co116)).setCell ⟨gb255, 2, none⟩ (.slice Ao117 t252.length co117)).heap[gb242]? = some (.cells #[.slice none 0 0, .slice none 0 0, .slice none 0 0] 27 (0, 0))) := ⟨by (with_reducible repeat (first | refine blk_drewN ?_ _ | refine blk_drew ?_ | refine blk_alloc ?_ _)); refine blk_far3 ?_ NB242_255.out; (with_reducible repeat (first | refine blk_drewN ?_ _ | refine blk_drew ?_ | refine blk_alloc ?_ _)); exact BK242.out⟩
 have n5_ : Aside0 ((((w110.setCell ⟨gb255, 0, none⟩ (.slice Ao111 t246.length co111)).setCell ⟨gb255, 1, none⟩ (.slice Ao116 t249.length co116)).setCell ⟨gb255, 2, none⟩ (.slice Ao117 t252.length co117)).heap[gb244]? = some (.cells #[.slice none 0 0, .slice none 0 0, .slice none 0 0] 27 (0, 0))) := ⟨by (with_reducible repeat (first | refine blk_drewN ?_ _ | refine blk_drew ?_ | refine blk_alloc ?_ _)); refine blk_far3 ?_ NB244_255.out; (with_reducible repeat (first | refine blk_drewN ?_ _ | refine blk_drew ?_ | refine blk_alloc ?_ _)); exact BK244.out⟩
 have n6_ : Aside0 ((((w110.setCell ⟨gb255, 0, none⟩ (.slice Ao111 t246.length co111)).setCell ⟨gb255, 1, none⟩ (.slice Ao116 t249.length co116)).setCell ⟨gb255, 2, none⟩ (.slice Ao117 t252.length co117)).heap[gb255]? = some (.cells #[.slice Ao111 t246.length co111, .slice Ao116 t249.length co116, .slice Ao117 t252.length co117] 27 (0, 0))) := ⟨by (with_reducible repeat (first | refine blk_drewN ?_ _ | refine blk_drew ?_ | refine blk_alloc ?_ _)); refine blk_put3 (cs := #[.slice none 0 0, .slice none 0 0, .slice none 0 0]) ?_ rfl; (with_reducible repeat (first | refine blk_drewN ?_ _ | refine blk_drew ?_ | refine blk_alloc ?_ _)); exact BK255.out⟩
 have n7_ : Aside0 (Below w.heap.size w (((w110.setCell ⟨gb255, 0, none⟩ (.slice Ao111 t246.length co111)).setCell ⟨gb255, 1, none⟩ (.slice Ao116 t249.length co116)).setCell ⟨gb255, 2, none⟩ (.slice Ao117 t252.length co117))) := ⟨by repeat (first | (with_reducible first | exact HB.out | apply below_alloc | apply pw_below_drewN | apply below_drew1 | refine below_set ?_ GE255.out) | exact HB.out)⟩
 (try clear HO248)
 (try clear HO251)
 (try clear HO254)
 (try clear BK241)
 (try clear BK242)
 (try clear BK244)
 (try clear BK255)
 (try clear HB)
 generalize (((w110.setCell ⟨gb255, 0, none⟩ (.slice Ao111 t246.length co111)).setCell ⟨gb255, 1, none⟩ (.slice Ao116 t249.length co116)).setCell ⟨gb255, 2, none⟩ (.slice Ao117 t252.length co117)) = w118 at n0_ n1_ n2_ n3_ n4_ n5_ n6_ n7_ ⊢
 have HO248 := n0_
 have HO251 := n1_
 have HO254 := n2_
 have BK241 := n3_
 have BK242 := n4_
 have BK244 := n5_
 have BK255 := n6_
 have HB := n7_
 clear n0_ n1_ n2_ n3_ n4_ n5_ n6_ n7_
 try go_wp2_with (first | ((with_reducible refine gate_dst (N := 2) rfl ?_); (try (refine gate_guard (by rfl) ?_; dsimp only)); refine bx_ 2 #[.pointer (some ⟨gb255, 0, none⟩)] 60 ?_; intro gb300 hg w300 hbox hb; have NB241_300 := b4_ hg BK241; have NB300_241 := b5_ hg BK241; have NB242_300 := b4_ hg BK242; have NB300_242 := b5_ hg BK242; have NB244_300 := b4_ hg BK244; have NB300_244 := b5_ hg BK244; have NB255_300 := b4_ hg BK255; have NB300_255 := b5_ hg BK255; replace HO248 := r1_ HO248 hb; replace HO251 := r1_ HO251 hb; replace HO254 := r1_ HO254 hb; replace BK241 := b3_ BK241 hb; replace BK242 := b3_ BK242 hb; replace BK244 := b3_ BK244 hb; replace BK255 := b3_ BK255 hb; replace HB := Aside0.mk (below_step (y1_ HB.out) hb); have BK300 := Aside0.mk (hbox); clear hb hbox hg))
 replace HO248 := Aside0.mk (Kd.R_drew HO248.out)
 replace HO251 := Aside0.mk (Kd.R_drew HO251.out)
 replace HO254 := Aside0.mk (Kd.R_drew HO254.out)
 replace BK241 := Aside0.mk (blk_drew BK241.out)
 replace BK300 := Aside0.mk (blk_drew BK300.out)
 replace BK242 := Aside0.mk (blk_drew BK242.out)
 replace BK244 := Aside0.mk (blk_drew BK244.out)
 replace BK255 := Aside0.mk (blk_drew BK255.out)
 replace HB := Aside0.mk (below_drew1 HB.out)
 refine start_ (n := 10) (S := fun w' => w'.cell? ⟨gb255, 0, none⟩ = some (.slice Ao111 t246.length co111) ∧ w'.cell? ⟨gb255, 1, none⟩ = some (.slice Ao116 t249.length co116) ∧ w'.cell? ⟨gb255, 2, none⟩ = some (.slice Ao117 t252.length co117) ∧ w'.cell? ⟨gb300, 0, none⟩ = some (.pointer (some ⟨gb255, 0, none⟩))) (ds := [9]) m0_ s2_ rfl rfl ⟨(blk_cell BK255.out 0).trans rfl, (blk_cell BK255.out 1).trans rfl, (blk_cell BK255.out 2).trans rfl, (blk_cell BK300.out 0).trans rfl⟩ (fun hHeld => ?_)
 generalize w118.drew = w119 at HO248 HO251 HO254 BK241 BK300 BK242 BK244 BK255 HB HO248 HO251 HO254 hHeld ⊢
 refine take_ (i := 0) (N := some 4) (v := ?_) (a' := ?_) m1_ rfl rfl s2_ (fun _ _ _ h => h) (Or.inl ⟨by rfl, ?_⟩) hHeld ?_ ?_
 rotate_left
 {
 rintro w' ⟨s0, s1, s2, s3⟩
 go_simp
 with_reducible rfl}
 rotate_left
 · exact p1_
 refine take_ (i := 1) (N := some 5) (v := ?_) (a' := ?_) m2_ rfl rfl s2_ (fun _ _ _ h => h) (Or.inl ⟨by rfl, ?_⟩) hHeld ?_ ?_
 rotate_left
 {
 rintro w' ⟨s0, s1, s2, s3⟩
 go_simp
 with_reducible rfl}
 rotate_left
 · exact p1_
 refine pure_ (i := 2) (N := some 6) (v := ?_) (a' := ?_) m3_ rfl rfl s2_ (fun _ _ _ h => h) (Or.inl ⟨by rfl, ?_⟩) ?_ ?_
 rotate_left
 {
 intro w'
 go_simp
 with_reducible rfl}
 rotate_left
 · exact p1_
 refine pure_ (i := 3) (N := some 7) (v := ?_) (a' := ?_) m4_ rfl rfl s2_ (fun _ _ _ h => h) (Or.inl ⟨by rfl, ?_⟩) ?_ ?_
 rotate_left
 {
 intro w'
 go_simp
 with_reducible rfl}
 rotate_left
 · exact p1_
 refine pure_ (i := 5) (N := some 9) (v := ?_) (a' := ?_) m5_ rfl rfl s2_ (fun _ _ _ h => h) (Or.inl ⟨by rfl, ?_⟩) ?_ ?_
 rotate_left
 {
 intro w'
 go_simp
 with_reducible rfl}
 rotate_left
 · exact p1_
 refine take_ (i := 4) (N := some 8) (v := ?_) (a' := ?_) m6_ rfl rfl s2_ (fun _ _ _ h => h) (Or.inl ⟨by rfl, ?_⟩) hHeld ?_ ?_
 rotate_left
 {
 rintro w' ⟨s0, s1, s2, s3⟩
 go_simp
 with_reducible rfl}
 rotate_left
 · exact p1_
 refine one_ (i := 6) (N := some 10) m7_ rfl rfl s2_ (by decide) (fun K hK => ?_)
 refine goes_ Try.func53 s2_ rfl #[.slice Ao111 t246.length co111, .func (.func 73) #[] #[.pointer (some ⟨gb241, 0, none⟩)]] (by rfl) rfl rfl s3_ ?_
 with_reducible refine (impl_dropLeases_v0.calls k (fun k_ => some k_ = (.slice Ao111 t246.length co111 : Value).ownBlock) (.slice Ao111 t246.length co111) t246 gb241 a1 t256 w _ ?side1 ?side2 ?side3 A6.out).mono ?_
 (case side1 => repeat (first | (with_reducible first | exact HB.out | apply below_alloc | apply pw_below_drewN | apply below_drew1) | exact HB.out))
 (case side2 => exact (b1_ BK241.out))
 (case side3 => exact Kd.R_tight rfl HO248.out)
 rintro e w120 ⟨v257, rfl, ho0, hb, hkp⟩
 refine ⟨_, rfl, ?_⟩
 have n0_ := Aside0.mk (blk_kept (b1_ BK241.out) hkp (fun hs_ => (fun e_ => (Kd.R_ne HO248.out BK241.out (by decide)) e_) hs_))
 have n0q_ := Aside0.mk (blk_kept (b1_ BK300.out) hkp (fun hs_ => (fun e_ => (Kd.R_ne HO248.out BK300.out (by decide)) e_) hs_))
 have n1_ := Aside0.mk (blk_kept (b1_ BK242.out) hkp (fun hs_ => (fun e_ => (Kd.R_ne HO248.out BK242.out (by decide)) e_) hs_))
 have n2_ := Aside0.mk (blk_kept (b1_ BK244.out) hkp (fun hs_ => (fun e_ => (Kd.R_ne HO248.out BK244.out (by decide)) e_) hs_))
 have n3_ := Aside0.mk (Kd.R_mono (ok' := fun k_ => some k_ ≠ (v257 : Value).ownBlock) (Kd.R_keptB (HO251.out) hkp (fun k_ hk_ hs_ => (hk_) hs_)) (fun k_ hk_ => fun e_ => Or.elim (ho0.1 k_ e_.symm) (fun hs_ => hk_.2.1 hs_) (fun hn_ => Nat.not_le.2 hk_.2.2 hn_)))
 have n4_ := Aside0.mk (Kd.R_mono (ok' := fun k_ => True) (Kd.R_keptB ((Kd.R_apart' HO254.out (Kd.R_typed HO248.out) (by decide))) hkp (fun k_ hk_ hs_ => (hk_.2) hs_)) (fun k_ hk_ => trivial))
 have n5_ := Aside0.mk (blk_kept (b1_ BK255.out) hkp (fun hs_ => (fun e_ => (Kd.R_ne HO248.out BK255.out (by decide)) e_) hs_))
 have n6_ := Aside0.mk (Kd.R_mono (ok' := fun k_ => some k_ ≠ (.slice Ao116 t249.length co116 : Value).ownBlock) ho0 (fun k_ hk_ => Or.elim hk_ (fun hs_ => fun e_ => (((HO251.out).1 k_ e_.symm)) hs_) (fun hn_ => (Kd.fresh' (Kd.R_lt (b2_ HO251.out)) k_ hn_))))
 have n7_ := Aside0.mk (hb)
 clear BK241
 clear BK300
 clear BK242
 clear BK244
 clear HO251
 clear HO254
 clear BK255
 clear HB
 clear HO248
 have BK241 := n0_
 have BK300 := n0q_
 have BK242 := n1_
 have BK244 := n2_
 have HO251 := n3_
 have HO254 := n4_
 have BK255 := n5_
 have HO258 := n6_
 have HB := n7_
 clear n0_ n1_ n2_ n3_ n4_ n5_ n6_ n7_ n0q_
 (try clear hb)
 (try clear hkp)
 (try clear ho0)
 obtain ⟨Ao121, co121, eo121⟩ := Kd.R_slice HO258.out
 (first | subst eo121 | (injection eo121 with f1_ f2_ f3_; have f4_ := f1_.symm; have f5_ := f3_.symm; clear f1_ f2_ f3_; subst f4_; subst f5_))
 refine hK.out _ _ ⟨(blk_cell BK255.out 0).trans rfl, (blk_cell BK255.out 1).trans rfl, (blk_cell BK255.out 2).trans rfl, (blk_cell BK300.out 0).trans rfl⟩ (fun hHeld => ?_)
 clear hK K
 refine norm_ (a' := ?_) ?_ ?_
 rotate_left
 {
 show Act.put _ (some 10) _ = _
 simp only [Act.put, List.setIfInBounds_toArray, List.set_cons_zero, List.set_cons_succ, i64_w, i32_w]
 rfl}
 refine pure_ (i := 7) (N := some 11) (v := ?_) (a' := ?_) m8_ rfl rfl s2_ (fun _ _ _ h => h) (Or.inl ⟨by rfl, ?_⟩) ?_ ?_
 rotate_left
 {
 intro w'
 go_simp
 with_reducible rfl}
 rotate_left
 · exact p1_
 refine pure_ (i := 8) (N := some 12) (v := ?_) (a' := ?_) m9_ rfl rfl s2_ (fun _ _ _ h => h) (Or.inl ⟨by rfl, ?_⟩) ?_ ?_
 rotate_left
 {
 intro w'
 go_simp
 with_reducible rfl}
 rotate_left
 · exact p1_
 refine last_ (i := 9) (N := none) m10_ rfl rfl s2_ (by decide) (fun K hK => ?_)
 have hs122 : w120.cell? ⟨gb255, 0, none⟩ = some (.slice Ao111 t246.length co111) := (blk_cell BK255.out 0).trans rfl
 have hfs122 := blk_frozen BK255.out 0
 have hns122_0 := NB241_255.out
 have hns122_0q := NB300_255.out
 have hns122_1 := NB242_255.out
 have hns122_2 := NB244_255.out
 have hms122_0 := NB255_241.out
 have hms122_0q := NB255_300.out
 have hms122_1 := NB255_242.out
 have hms122_2 := NB255_244.out
 refine skip_ (w1 := ?_) (by rfl) rfl ?_ ?_
 rotate_left
 {
 go_simp
 rfl}
 refine hK.out _ _ ?_
 clear hK K
 refine done_ s2_ ?_
 try go_wp2_with (fail)
 have n0_ : Aside0 (Kd.R k63 63 (w120.setCell ⟨gb255, 0, none⟩ (.slice Ao121 t256.length co121)) w.heap.size (fun k_ => some k_ ≠ (.slice Ao121 t256.length co121 : Value).ownBlock) (.slice Ao116 t249.length co116) t249) := ⟨by (with_reducible repeat (first | apply Kd.R_alloc | apply Kd.R_drewN | apply Kd.R_drew)); exact Kd.R_mono (Kd.R_far (p := ⟨gb255, 0, none⟩) (Kd.R_types HO251.out BK255.out (by decide)) (fun _ hk => hk.2) (.slice Ao121 t256.length co121)) (fun _ hk => hk.1)⟩
 have n1_ : Aside0 (Kd.R k73 73 (w120.setCell ⟨gb255, 0, none⟩ (.slice Ao121 t256.length co121)) w.heap.size (fun _ => True) (.slice Ao117 t252.length co117) t252) := ⟨by (with_reducible repeat (first | apply Kd.R_alloc | apply Kd.R_drewN | apply Kd.R_drew)); exact Kd.R_mono (Kd.R_far (p := ⟨gb255, 0, none⟩) (Kd.R_types HO254.out BK255.out (by decide)) (fun _ hk => hk.2) (.slice Ao121 t256.length co121)) (fun _ hk => trivial)⟩
 have n2_ : Aside0 (Kd.R k63 63 (w120.setCell ⟨gb255, 0, none⟩ (.slice Ao121 t256.length co121)) w.heap.size (fun k_ => some k_ ≠ (.slice Ao116 t249.length co116 : Value).ownBlock) (.slice Ao121 t256.length co121) t256) := ⟨by (with_reducible repeat (first | apply Kd.R_alloc | apply Kd.R_drewN | apply Kd.R_drew)); exact Kd.R_mono (Kd.R_far (p := ⟨gb255, 0, none⟩) (Kd.R_types HO258.out BK255.out (by decide)) (fun _ hk => hk.2) (.slice Ao121 t256.length co121)) (fun _ hk => hk.1)⟩
 have n3_ : Aside0 ((w120.setCell ⟨gb255, 0, none⟩ (.slice Ao121 t256.length co121)).heap[gb241]? = some (.cells #[.int .i64 a1] 2 (0, 0))) := ⟨by (with_reducible repeat (first | refine blk_drewN ?_ _ | refine blk_drew ?_ | refine blk_alloc ?_ _)); refine blk_far ?_ NB241_255.out _; (with_reducible repeat (first | refine blk_drewN ?_ _ | refine blk_drew ?_ | refine blk_alloc ?_ _)); exact BK241.out⟩
 have n3q_ : Aside0 ((w120.setCell ⟨gb255, 0, none⟩ (.slice Ao121 t256.length co121)).heap[gb300]? = some (.cells #[.pointer (some ⟨gb255, 0, none⟩)] 60 (0, 0))) := ⟨by (with_reducible repeat (first | refine blk_drewN ?_ _ | refine blk_drew ?_ | refine blk_alloc ?_ _)); refine blk_far ?_ NB300_255.out _; (with_reducible repeat (first | refine blk_drewN ?_ _ | refine blk_drew ?_ | refine blk_alloc ?_ _)); exact BK300.out⟩
 have n4_ : Aside0 ((w120.setCell ⟨gb255, 0, none⟩ (.slice Ao121 t256.length co121)).heap[gb242]? = some (.cells #[.slice none 0 0, .slice none 0 0, .slice none 0 0] 27 (0, 0))) := ⟨by (with_reducible repeat (first | refine blk_drewN ?_ _ | refine blk_drew ?_ | refine blk_alloc ?_ _)); refine blk_far ?_ NB242_255.out _; (with_reducible repeat (first | refine blk_drewN ?_ _ | refine blk_drew ?_ | refine blk_alloc ?_ _)); exact BK242.out⟩
 have n5_ : Aside0 ((w120.setCell ⟨gb255, 0, none⟩ (.slice Ao121 t256.length co121)).heap[gb244]? = some (.cells #[.slice none 0 0, .slice none 0 0, .slice none 0 0] 27 (0, 0))) := ⟨by (with_reducible repeat (first | refine blk_drewN ?_ _ | refine blk_drew ?_ | refine blk_alloc ?_ _)); refine blk_far ?_ NB244_255.out _; (with_reducible repeat (first | refine blk_drewN ?_ _ | refine blk_drew ?_ | refine blk_alloc ?_ _)); exact BK244.out⟩
 have n6_ : Aside0 ((w120.setCell ⟨gb255, 0, none⟩ (.slice Ao121 t256.length co121)).heap[gb255]? = some (.cells #[.slice Ao121 t256.length co121, .slice Ao116 t249.length co116, .slice Ao117 t252.length co117] 27 (0, 0))) := ⟨by (with_reducible repeat (first | refine blk_drewN ?_ _ | refine blk_drew ?_ | refine blk_alloc ?_ _)); refine blk_put (cs := #[.slice Ao111 t246.length co111, .slice Ao116 t249.length co116, .slice Ao117 t252.length co117]) ?_ 0 _ rfl; (with_reducible repeat (first | refine blk_drewN ?_ _ | refine blk_drew ?_ | refine blk_alloc ?_ _)); exact BK255.out⟩
 have n7_ : Aside0 (Below w.heap.size w (w120.setCell ⟨gb255, 0, none⟩ (.slice Ao121 t256.length co121))) := ⟨by repeat (first | (with_reducible first | exact HB.out | apply below_alloc | apply pw_below_drewN | apply below_drew1 | refine below_set ?_ GE255.out) | exact HB.out)⟩
 (try clear HO251)
 (try clear HO254)
 (try clear HO258)
 (try clear BK241)
 (try clear BK300)
 (try clear BK242)
 (try clear BK244)
 (try clear BK255)
 (try clear HB)
 generalize (w120.setCell ⟨gb255, 0, none⟩ (.slice Ao121 t256.length co121)) = w123 at n0_ n1_ n2_ n3_ n4_ n5_ n6_ n7_ n3q_ ⊢
 have HO251 := n0_
 have HO254 := n1_
 have HO258 := n2_
 have BK241 := n3_
 have BK300 := n3q_
 have BK242 := n4_
 have BK244 := n5_
 have BK255 := n6_
 have HB := n7_
 clear n0_ n1_ n2_ n3_ n4_ n5_ n6_ n7_ n3q_
 replace HO251 := Aside0.mk (Kd.R_drew HO251.out)
 replace HO254 := Aside0.mk (Kd.R_drew HO254.out)
 replace HO258 := Aside0.mk (Kd.R_drew HO258.out)
 replace BK241 := Aside0.mk (blk_drew BK241.out)
 replace BK300 := Aside0.mk (blk_drew BK300.out)
 replace BK242 := Aside0.mk (blk_drew BK242.out)
 replace BK244 := Aside0.mk (blk_drew BK244.out)
 replace BK255 := Aside0.mk (blk_drew BK255.out)
 replace HB := Aside0.mk (below_drew1 HB.out)
 refine start_ (n := 10) (S := fun w' => w'.cell? ⟨gb255, 0, none⟩ = some (.slice Ao121 t256.length co121) ∧ w'.cell? ⟨gb255, 1, none⟩ = some (.slice Ao116 t249.length co116) ∧ w'.cell? ⟨gb255, 2, none⟩ = some (.slice Ao117 t252.length co117) ∧ w'.cell? ⟨gb300, 0, none⟩ = some (.pointer (some ⟨gb255, 0, none⟩))) (ds := [9]) m0_ s2_ rfl rfl ⟨(blk_cell BK255.out 0).trans rfl, (blk_cell BK255.out 1).trans rfl, (blk_cell BK255.out 2).trans rfl, (blk_cell BK300.out 0).trans rfl⟩ (fun hHeld => ?_)
 generalize w123.drew = w124 at HO251 HO254 HO258 BK241 BK300 BK242 BK244 BK255 HB HO251 HO254 HO258 hHeld ⊢
 refine take_ (i := 0) (N := some 13) (v := ?_) (a' := ?_) m1_ rfl rfl s2_ (fun _ _ _ h => h) (Or.inl ⟨by rfl, ?_⟩) hHeld ?_ ?_
 rotate_left
 {
 rintro w' ⟨s0, s1, s2, s3⟩
 go_simp
 with_reducible rfl}
 rotate_left
 · exact p1_
 refine take_ (i := 1) (N := some 14) (v := ?_) (a' := ?_) m2_ rfl rfl s2_ (fun _ _ _ h => h) (Or.inl ⟨by rfl, ?_⟩) hHeld ?_ ?_
 rotate_left
 {
 rintro w' ⟨s0, s1, s2, s3⟩
 go_simp
 with_reducible rfl}
 rotate_left
 · exact p1_
 refine pure_ (i := 2) (N := some 15) (v := ?_) (a' := ?_) m3_ rfl rfl s2_ (fun _ _ _ h => h) (Or.inl ⟨by rfl, ?_⟩) ?_ ?_
 rotate_left
 {
 intro w'
 go_simp
 with_reducible rfl}
 rotate_left
 · exact p1_
 refine pure_ (i := 3) (N := some 16) (v := ?_) (a' := ?_) m4_ rfl rfl s2_ (fun _ _ _ h => h) (Or.inl ⟨by rfl, ?_⟩) ?_ ?_
 rotate_left
 {
 intro w'
 go_simp
 with_reducible rfl}
 rotate_left
 · exact p1_
 refine pure_ (i := 5) (N := some 18) (v := ?_) (a' := ?_) m5_ rfl rfl s2_ (fun _ _ _ h => h) (Or.inl ⟨by rfl, ?_⟩) ?_ ?_
 rotate_left
 {
 intro w'
 go_simp
 with_reducible rfl}
 rotate_left
 · exact p1_
 refine take_ (i := 4) (N := some 17) (v := ?_) (a' := ?_) m6_ rfl rfl s2_ (fun _ _ _ h => h) (Or.inl ⟨by rfl, ?_⟩) hHeld ?_ ?_
 rotate_left
 {
 rintro w' ⟨s0, s1, s2, s3⟩
 go_simp
 with_reducible rfl}
 rotate_left
 · exact p1_
 refine one_ (i := 6) (N := some 19) m7_ rfl rfl s2_ (by decide) (fun K hK => ?_)
 refine goes_ Try.func53 s2_ rfl #[.slice Ao116 t249.length co116, .func (.func 74) #[] #[.pointer (some ⟨gb241, 0, none⟩), .pointer (some ⟨gb300, 0, none⟩)]] (by rfl) rfl rfl s3_ ?_
 with_reducible refine (impl_dropLeases_v4.calls k (fun k_ => some k_ = (.slice Ao116 t249.length co116 : Value).ownBlock) (.slice Ao116 t249.length co116) t249 gb241 gb255 gb300 a1 Ao121 co121 t256 (.slice Ao116 t249.length co116) t249 (.slice Ao117 t252.length co117) t252 t259 w _ ?side1 ?side2 ?side3 ?sideq ?side4 ?side5 ?side6 A7.out).mono ?_
 (case side1 => repeat (first | (with_reducible first | exact HB.out | apply below_alloc | apply pw_below_drewN | apply below_drew1) | exact HB.out))
 (case side2 => exact (b1_ BK241.out))
 (case side3 => exact (b1_ BK255.out))
 (case sideq => exact (b1_ BK300.out))
 (case side4 => exact Kd.R_tight rfl HO251.out)
 (case side5 => exact Kd.C_kept_own (HO258.out) (fun k_ hk_ hs_ => (hk_) hs_))
 (case side6 => exact (Kd.R_reads' HO258.out).2.1)
 rintro e w125 ⟨v260, rfl, ho0, hb, hkp⟩
 refine ⟨_, rfl, ?_⟩
 have n0_ := Aside0.mk (blk_kept (b1_ BK241.out) hkp (fun hs_ => (fun e_ => (Kd.R_ne HO251.out BK241.out (by decide)) e_) hs_))
 have n0q_ := Aside0.mk (blk_kept (b1_ BK300.out) hkp (fun hs_ => (fun e_ => (Kd.R_ne HO251.out BK300.out (by decide)) e_) hs_))
 have n1_ := Aside0.mk (blk_kept (b1_ BK242.out) hkp (fun hs_ => (fun e_ => (Kd.R_ne HO251.out BK242.out (by decide)) e_) hs_))
 have n2_ := Aside0.mk (blk_kept (b1_ BK244.out) hkp (fun hs_ => (fun e_ => (Kd.R_ne HO251.out BK244.out (by decide)) e_) hs_))
 have n3_ := Aside0.mk (Kd.R_mono (ok' := fun k_ => True) (Kd.R_keptB ((Kd.R_apart' HO254.out (Kd.R_typed HO251.out) (by decide))) hkp (fun k_ hk_ hs_ => (hk_.2) hs_)) (fun k_ hk_ => trivial))
 have n4_ := Aside0.mk (blk_kept (b1_ BK255.out) hkp (fun hs_ => (fun e_ => (Kd.R_ne HO251.out BK255.out (by decide)) e_) hs_))
 have n5_ := Aside0.mk (Kd.R_mono (ok' := fun k_ => some k_ ≠ (v260 : Value).ownBlock) (Kd.R_keptB (HO258.out) hkp (fun k_ hk_ hs_ => (hk_) hs_)) (fun k_ hk_ => fun e_ => Or.elim (ho0.1 k_ e_.symm) (fun hs_ => hk_.2.1 hs_) (fun hn_ => Nat.not_le.2 hk_.2.2 hn_)))
 have n6_ := Aside0.mk (Kd.R_mono (ok' := fun k_ => some k_ ≠ (.slice Ao121 t256.length co121 : Value).ownBlock) ho0 (fun k_ hk_ => Or.elim hk_ (fun hs_ => fun e_ => (((HO258.out).1 k_ e_.symm)) hs_) (fun hn_ => (Kd.fresh' (Kd.R_lt (b2_ HO258.out)) k_ hn_))))
 have n7_ := Aside0.mk (hb)
 clear BK241
 clear BK300
 clear BK242
 clear BK244
 clear HO254
 clear BK255
 clear HO258
 clear HB
 clear HO251
 have BK241 := n0_
 have BK300 := n0q_
 have BK242 := n1_
 have BK244 := n2_
 have HO254 := n3_
 have BK255 := n4_
 have HO258 := n5_
 have HO261 := n6_
 have HB := n7_
 clear n0_ n1_ n2_ n3_ n4_ n5_ n6_ n7_ n0q_
 (try clear hb)
 (try clear hkp)
 (try clear ho0)
 obtain ⟨Ao126, co126, eo126⟩ := Kd.R_slice HO261.out
 (first | subst eo126 | (injection eo126 with f1_ f2_ f3_; have f4_ := f1_.symm; have f5_ := f3_.symm; clear f1_ f2_ f3_; subst f4_; subst f5_))
 refine hK.out _ _ ⟨(blk_cell BK255.out 0).trans rfl, (blk_cell BK255.out 1).trans rfl, (blk_cell BK255.out 2).trans rfl, (blk_cell BK300.out 0).trans rfl⟩ (fun hHeld => ?_)
 clear hK K
 refine norm_ (a' := ?_) ?_ ?_
 rotate_left
 {
 show Act.put _ (some 19) _ = _
 simp only [Act.put, List.setIfInBounds_toArray, List.set_cons_zero, List.set_cons_succ, i64_w, i32_w]
 rfl}
 refine pure_ (i := 7) (N := some 20) (v := ?_) (a' := ?_) m8_ rfl rfl s2_ (fun _ _ _ h => h) (Or.inl ⟨by rfl, ?_⟩) ?_ ?_
 rotate_left
 {
 intro w'
 go_simp
 with_reducible rfl}
 rotate_left
 · exact p1_
 refine pure_ (i := 8) (N := some 21) (v := ?_) (a' := ?_) m9_ rfl rfl s2_ (fun _ _ _ h => h) (Or.inl ⟨by rfl, ?_⟩) ?_ ?_
 rotate_left
 {
 intro w'
 go_simp
 with_reducible rfl}
 rotate_left
 · exact p1_
 refine last_ (i := 9) (N := none) m10_ rfl rfl s2_ (by decide) (fun K hK => ?_)
 have hs127 : w125.cell? ⟨gb255, 1, none⟩ = some (.slice Ao116 t249.length co116) := (blk_cell BK255.out 1).trans rfl
 have hfs127 := blk_frozen BK255.out 1
 have hns127_0 := NB241_255.out
 have hns127_0q := NB300_255.out
 have hns127_1 := NB242_255.out
 have hns127_2 := NB244_255.out
 have hms127_0 := NB255_241.out
 have hms127_0q := NB255_300.out
 have hms127_1 := NB255_242.out
 have hms127_2 := NB255_244.out
 refine skip_ (w1 := ?_) (by rfl) rfl ?_ ?_
 rotate_left
 {
 go_simp
 rfl}
 refine hK.out _ _ ?_
 clear hK K
 refine done_ s2_ ?_
 have hnb128 := NB241_242.out
 have hnb128q := NB300_242.out
 have hnc128 := NB242_241.out
 have hnc128q := NB242_300.out
 have hnb129 := NB241_244.out
 have hnb129q := NB300_244.out
 have hnc129 := NB244_241.out
 have hnc129q := NB244_300.out
 have hcz130_0 := c1_ BK241 0 (.int .i64 a1)
 have hfz130_0 := f1_ BK241 0
 try go_wp2_with (first | ((with_reducible refine gate_callee (f := 45) rfl ?_); refine goesL_ (some 23) rfl rfl Try.func45 s2_ rfl #[.int .i64 a1] rfl s3_ ?_; (with_reducible refine (impl_isTick.calls a1 false _ A8.out).mono ?_); rintro e w' ⟨rfl, ⟨nd, rfl⟩⟩; refine ⟨_, rfl, ?_⟩; have hnb131 := NB244_242.out; have hnc131 := NB242_244.out; have hcz132_0 := c1_ BK244 0 (.slice none 0 0); have hcz132_1 := c1_ BK244 1 (.slice none 0 0); have hcz132_2 := c1_ BK244 2 (.slice none 0 0); have hfz132_0 := f1_ BK244 0; have hfz132_1 := f1_ BK244 1; have hfz132_2 := f1_ BK244 2))
 (try simp only [Exit.inBlock, Exit.then])
 refine bodyPost_ret (results_ct rfl _ _ gb244 27 #[.slice none 0 0, .slice none 0 0, .slice none 0 0] (0, 0) _ rfl (by (with_reducible repeat (first | refine blk_drewN ?_ _ | refine blk_drew ?_ | refine blk_alloc ?_ _)); refine blk_put3 (cs := #[.slice none 0 0, .slice none 0 0, .slice none 0 0]) ?_ rfl; (with_reducible repeat (first | refine blk_drewN ?_ _ | refine blk_drew ?_ | refine blk_alloc ?_ _)); refine blk_far ?_ NB244_255.out _; (with_reducible repeat (first | refine blk_drewN ?_ _ | refine blk_drew ?_ | refine blk_alloc ?_ _)); exact BK244.out) Try.underlying27 rfl s2_) rfl ?_
 (try simp only [])
 have hcz133_0 := c1_ BK242 0 (.slice none 0 0)
 have hcz133_1 := c1_ BK242 1 (.slice none 0 0)
 have hcz133_2 := c1_ BK242 2 (.slice none 0 0)
 have hfz133_0 := f1_ BK242 0
 have hfz133_1 := f1_ BK242 1
 have hfz133_2 := f1_ BK242 2
 try go_wp2_with (fail)
 refine bodyPost_ret (results_ct rfl _ _ gb242 27 #[.slice none 0 0, .slice none 0 0, .slice none 0 0] (0, 0) _ rfl (by (with_reducible repeat (first | refine blk_drewN ?_ _ | refine blk_drew ?_ | refine blk_alloc ?_ _)); refine blk_put3 (cs := #[.slice none 0 0, .slice none 0 0, .slice none 0 0]) ?_ rfl; (with_reducible repeat (first | refine blk_drewN ?_ _ | refine blk_drew ?_ | refine blk_alloc ?_ _)); refine blk_far3 ?_ NB242_244.out; (with_reducible repeat (first | refine blk_drewN ?_ _ | refine blk_drew ?_ | refine blk_alloc ?_ _)); refine blk_far ?_ NB242_255.out _; (with_reducible repeat (first | refine blk_drewN ?_ _ | refine blk_drew ?_ | refine blk_alloc ?_ _)); exact BK242.out) Try.underlying27 rfl s2_) rfl ?_
 exact ⟨_, _, _, by first | rfl | (simp [errW_none, errW_some] <;> rfl) | (simp [*, errW_none, errW_some] <;> rfl), by first | exact Kd.R_nil _ _ _ _ _ | exact Kd.N_nil _ _ _ _ _ | exact Kd.V_nil _ _ _ _ _ | exact Kd.Q_nil _ _ _ _ _ | exact Kd.S_nil _ _ _ _ _, by first | exact Kd.R_nil _ _ _ _ _ | exact Kd.N_nil _ _ _ _ _ | exact Kd.V_nil _ _ _ _ _ | exact Kd.Q_nil _ _ _ _ _ | exact Kd.S_nil _ _ _ _ _, by first | exact Kd.R_nil _ _ _ _ _ | exact Kd.N_nil _ _ _ _ _ | exact Kd.V_nil _ _ _ _ _ | exact Kd.Q_nil _ _ _ _ _ | exact Kd.S_nil _ _ _ _ _, by repeat (first | (with_reducible first | exact HB.out | apply below_alloc | apply pw_below_drewN | apply below_drew1 | refine below_set ?_ GE242.out | refine below_set ?_ GE244.out | refine below_set ?_ GE255.out) | exact HB.out)⟩}}
 {
 replace c4 := Bool.eq_false_iff.mpr c4
 subst c4
 have H1 : (some (([] : List (S63)), ([] : List (S63)), ([] : List (S73)), false)) = some (r1, r2, r3, r4) := by rw [if_neg (show ¬ (false = true) by decide)] at H; exact H
 clear H
 have H := H1
 clear H1
 simp only [Option.some.injEq, Prod.mk.injEq] at H
 obtain ⟨rfl, rfl, rfl, rfl⟩ := H
 go_enter Try.func31, Try.ntmps31
 try go_wp2_with (first | ((with_reducible refine gate_dst (N := 2) rfl ?_); (try (refine gate_guard (by rfl) ?_; dsimp only)); refine bx_ 2 #[.slice A0_0 l0_0.length c0_0, .slice A0_1 l0_1.length c0_1, .slice A0_2 l0_2.length c0_2] 27 ?_; intro gb240 hg w134 hbox hb; have GW240 := b6_ hg HB; have GE240 := b6_ hg HB; replace HB := Aside0.mk (below_step (y1_ HB.out) hb); have BK240 := Aside0.mk (hbox); clear hb hbox hg) | ((with_reducible refine gate_dst (N := 3) rfl ?_); (try (refine gate_guard (by rfl) ?_; dsimp only)); refine bx_ 3 #[.int .i64 a1] 2 ?_; intro gb241 hg w135 hbox hb; have GW241 := b6_ hg HB; have GE241 := b6_ hg HB; have NB240_241 := b4_ hg BK240; have NB241_240 := b5_ hg BK240; replace BK240 := b3_ BK240 hb; replace HB := Aside0.mk (below_step (y1_ HB.out) hb); have BK241 := Aside0.mk (hbox); clear hb hbox hg) | ((with_reducible refine gate_dst (N := 4) rfl ?_); (try (refine gate_guard (by rfl) ?_; dsimp only)); refine bx_ 4 #[.slice none 0 0, .slice none 0 0, .slice none 0 0] 27 ?_; intro gb242 hg w136 hbox hb; have GW242 := b6_ hg HB; have GE242 := b6_ hg HB; have NB240_242 := b4_ hg BK240; have NB242_240 := b5_ hg BK240; replace BK240 := b3_ BK240 hb; replace HB := Aside0.mk (below_step (y1_ HB.out) hb); have BK242 := Aside0.mk (hbox); clear hb hbox hg; have hnb137 := NB240_242.out; have hnc137 := NB242_240.out; have hcz138_0 := c1_ BK240 0 (.slice A0_0 l0_0.length c0_0); have hcz138_1 := c1_ BK240 1 (.slice A0_1 l0_1.length c0_1); have hcz138_2 := c1_ BK240 2 (.slice A0_2 l0_2.length c0_2); have hfz138_0 := f1_ BK240 0; have hfz138_1 := f1_ BK240 1; have hfz138_2 := f1_ BK240 2))
 go_at_call 42
 go_in
 try go_wp2_with (first | ((with_reducible refine gate_dst (N := 2) rfl ?_); (try (refine gate_guard (by rfl) ?_; dsimp only)); refine bx_ 2 #[.slice A0_0 l0_0.length c0_0, .slice A0_1 l0_1.length c0_1, .slice A0_2 l0_2.length c0_2] 27 ?_; intro gb243 hg w139 hbox hb; have GW243 := b6_ hg HB; have GE243 := b6_ hg HB; have NB242_243 := b4_ hg BK242; have NB243_242 := b5_ hg BK242; replace BK242 := b3_ BK242 hb; replace HB := Aside0.mk (below_step (y1_ HB.out) hb); have BK243 := Aside0.mk (hbox); clear hb hbox hg) | ((with_reducible refine gate_dst (N := 4) rfl ?_); (try (refine gate_guard (by rfl) ?_; dsimp only)); refine bx_ 4 #[.slice none 0 0, .slice none 0 0, .slice none 0 0] 27 ?_; intro gb244 hg w140 hbox hb; have GW244 := b6_ hg HB; have GE244 := b6_ hg HB; have NB242_244 := b4_ hg BK242; have NB244_242 := b5_ hg BK242; have NB243_244 := b4_ hg BK243; have NB244_243 := b5_ hg BK243; replace BK242 := b3_ BK242 hb; replace BK243 := b3_ BK243 hb; replace HB := Aside0.mk (below_step (y1_ HB.out) hb); have BK244 := Aside0.mk (hbox); clear hb hbox hg; have hnb141 := NB243_242.out; have hnc141 := NB242_243.out; have hnb142 := NB243_244.out; have hnc142 := NB244_243.out; have hcz143_0 := c1_ BK243 0 (.slice A0_0 l0_0.length c0_0); have hcz143_1 := c1_ BK243 1 (.slice A0_1 l0_1.length c0_1); have hcz143_2 := c1_ BK243 2 (.slice A0_2 l0_2.length c0_2); have hfz143_0 := f1_ BK243 0; have hfz143_1 := f1_ BK243 1; have hfz143_2 := f1_ BK243 2) | ((with_reducible refine gate_callee (f := 19) rfl ?_); refine goesL_ (some 8) rfl rfl Try.func19 s2_ rfl #[.agg #[.slice A0_0 l0_0.length c0_0, .slice A0_1 l0_1.length c0_1, .slice A0_2 l0_2.length c0_2]] rfl s3_ ?_; (with_reducible refine (impl_ValidPresence.calls k _ _ l0_0 _ _ l0_1 _ _ l0_2 false _ ?side1 ?side2 ?side3 ?side4 ?side5 ?side6 A3.out).mono ?_); (case side1 => exact y2_ (Kd.C_below HR0_0.out HB.out)); (case side2 => exact HC0_0.out); (case side3 => exact y2_ (Kd.C_below HR0_1.out HB.out)); (case side4 => exact HC0_1.out); (case side5 => exact y2_ (Kd.C_below HR0_2.out HB.out)); (case side6 => exact HC0_2.out); rintro e w144 ⟨rfl, hb⟩; refine ⟨_, rfl, ?_⟩; replace BK242 := b3_ BK242 hb; replace BK244 := b3_ BK244 hb; replace HB := Aside0.mk (below_step (y1_ HB.out) hb); (try clear hb); (try clear hb2); (try clear hk); (try clear hi); have hnb145 := NB244_242.out; have hnc145 := NB242_244.out; have hcz146_0 := c1_ BK244 0 (.slice none 0 0); have hcz146_1 := c1_ BK244 1 (.slice none 0 0); have hcz146_2 := c1_ BK244 2 (.slice none 0 0); have hfz146_0 := f1_ BK244 0; have hfz146_1 := f1_ BK244 1; have hfz146_2 := f1_ BK244 2))
 (try simp only [Exit.inBlock, Exit.then])
 refine bodyPost_ret (results_ct rfl _ _ gb244 27 #[.slice none 0 0, .slice none 0 0, .slice none 0 0] (0, 0) _ rfl (by (with_reducible repeat (first | refine blk_drewN ?_ _ | refine blk_drew ?_ | refine blk_alloc ?_ _)); refine blk_put3 (cs := #[.slice none 0 0, .slice none 0 0, .slice none 0 0]) ?_ rfl; (with_reducible repeat (first | refine blk_drewN ?_ _ | refine blk_drew ?_ | refine blk_alloc ?_ _)); exact BK244.out) Try.underlying27 rfl s2_) rfl ?_
 (try simp only [])
 have hcz147_0 := c1_ BK242 0 (.slice none 0 0)
 have hcz147_1 := c1_ BK242 1 (.slice none 0 0)
 have hcz147_2 := c1_ BK242 2 (.slice none 0 0)
 have hfz147_0 := f1_ BK242 0
 have hfz147_1 := f1_ BK242 1
 have hfz147_2 := f1_ BK242 2
 try go_wp2_with (fail)
 refine bodyPost_ret (results_ct rfl _ _ gb242 27 #[.slice none 0 0, .slice none 0 0, .slice none 0 0] (0, 0) _ rfl (by (with_reducible repeat (first | refine blk_drewN ?_ _ | refine blk_drew ?_ | refine blk_alloc ?_ _)); refine blk_put3 (cs := #[.slice none 0 0, .slice none 0 0, .slice none 0 0]) ?_ rfl; (with_reducible repeat (first | refine blk_drewN ?_ _ | refine blk_drew ?_ | refine blk_alloc ?_ _)); refine blk_far3 ?_ NB242_244.out; (with_reducible repeat (first | refine blk_drewN ?_ _ | refine blk_drew ?_ | refine blk_alloc ?_ _)); exact BK242.out) Try.underlying27 rfl s2_) rfl ?_
 exact ⟨_, _, _, by first | rfl | (simp [errW_none, errW_some] <;> rfl) | (simp [*, errW_none, errW_some] <;> rfl), by first | exact Kd.R_nil _ _ _ _ _ | exact Kd.N_nil _ _ _ _ _ | exact Kd.V_nil _ _ _ _ _ | exact Kd.Q_nil _ _ _ _ _ | exact Kd.S_nil _ _ _ _ _, by first | exact Kd.R_nil _ _ _ _ _ | exact Kd.N_nil _ _ _ _ _ | exact Kd.V_nil _ _ _ _ _ | exact Kd.Q_nil _ _ _ _ _ | exact Kd.S_nil _ _ _ _ _, by first | exact Kd.R_nil _ _ _ _ _ | exact Kd.N_nil _ _ _ _ _ | exact Kd.V_nil _ _ _ _ _ | exact Kd.Q_nil _ _ _ _ _ | exact Kd.S_nil _ _ _ _ _, by repeat (first | (with_reducible first | exact HB.out | apply below_alloc | apply pw_below_drewN | apply below_drew1 | refine below_set ?_ GE242.out | refine below_set ?_ GE244.out) | exact HB.out)⟩}

end Go.Proofs.Ytgfilednbllkmaa.QFnExactSweepPresence
