-- written by a program of this session, on the lines of the kit's print
import Derived.Test.YtgfilednbllkmaaQFnExactHeartbeatx0
import Derived.Test.YtgfilednbllkmaaQFnExactHeartbeatx1
import Derived.Test.YtgfilednbllkmaaQFnExactHeartbeatx2
import Derived.Test.YtgfilednbllkmaaQFnExactHeartbeatx3
namespace Go.Proofs.Ytgfilednbllkmaa.QFnExactHeartbeat
open Go.RowKit Go.Proofs.YtgfilednbllkmaaW.PrintWords Go.Proofs.YtgfilednbllkmaaW.PrintLast Go.Proofs.YtgfilednbllkmaaW.PrintMore
attribute [local go_sem] max2_int min2_int max_two min_two max_three min_three max_four min_four   -- for this text's walks alone
set_option linter.unusedVariables false
set_option linter.unusedSimpArgs false

/-! ### impl_Heartbeat: function 14 -/
abbrev impl_Heartbeat.T : Bool := true
abbrev impl_Heartbeat.F : Bool := false
theorem impl_Heartbeat.s2_ {P : Prop} (h : P := by kernel_rfl) : P := h
theorem impl_Heartbeat.s3_ {P : Prop} (h : P := by (try simp only [List.map_toArray, List.map_cons, List.map_nil]); first | done | rfl | (simp only [List.length_drop, List.length_take]; rfl)) : P := h
abbrev impl_Heartbeat.m0_ : Array Bool := #[F,F,F,F,F,F,F,F,F,F,F,F,F,F]
abbrev impl_Heartbeat.m1_ : Array Bool := #[T,F,F,F,F,F,F,F,F,F,F,F,F,F]
abbrev impl_Heartbeat.m2_ : Array Bool := #[T,T,F,F,F,F,F,F,F,F,F,F,F,F]
abbrev impl_Heartbeat.m3_ : Array Bool := #[T,T,T,F,F,F,F,F,F,F,F,F,F,F]
abbrev impl_Heartbeat.m4_ : Array Bool := #[T,T,T,T,F,F,F,F,F,F,F,F,F,F]
abbrev impl_Heartbeat.m5_ : Array Bool := #[T,T,T,T,T,F,F,F,F,F,F,F,F,F]
abbrev impl_Heartbeat.m6_ : Array Bool := #[T,T,T,T,T,T,F,F,F,F,F,F,F,F]
abbrev impl_Heartbeat.m7_ : Array Bool := #[T,T,T,T,T,T,T,F,F,F,F,F,F,F]
abbrev impl_Heartbeat.m8_ : Array Bool := #[T,T,T,T,T,T,T,T,F,F,F,F,F,F]
abbrev impl_Heartbeat.m9_ : Array Bool := #[T,T,T,T,T,T,T,T,T,F,F,F,F,F]
abbrev impl_Heartbeat.m10_ : Array Bool := #[T,T,T,T,T,T,T,T,T,T,F,F,F,F]
abbrev impl_Heartbeat.m11_ : Array Bool := #[T,T,T,T,T,T,T,T,T,T,T,F,F,F]
abbrev impl_Heartbeat.m12_ : Array Bool := #[T,T,T,T,T,T,T,T,T,T,T,T,F,F]
abbrev impl_Heartbeat.m13_ : Array Bool := #[T,T,T,T,T,T,T,T,T,T,T,T,T,F]
abbrev impl_Heartbeat.m14_ : Array Bool := #[T,T,T,T,T,T,T,T,T,T,T,T,T,T]
theorem impl_Heartbeat.p1_ {P : Prop} (h : P := by simp only [Act.put, List.setIfInBounds_toArray, List.set_cons_zero, List.set_cons_succ, i64_w, i32_w]; rfl) : P := h
theorem impl_Heartbeat.b1_ {P Q : Prop} (q : Q) (h : Q → P := by intro q_; (with_reducible repeat (first | refine blk_drewN ?_ _ | refine blk_drew ?_ | refine blk_alloc ?_ _)); exact q_) : P := h q
theorem impl_Heartbeat.b2_ {P Q : Prop} (q : Q) (h : Q → P := by intro q_; (with_reducible repeat (first | apply Kd.R_alloc | apply Kd.R_drewN | apply Kd.R_drew)); exact q_) : P := h q
theorem impl_Heartbeat.y1_ {P Q : Prop} (q : Q) (h : Q → P := by intro q_; repeat (first | (with_reducible first | exact q_ | apply below_alloc | apply pw_below_drewN | apply below_drew1) | exact q_)) : P := h q
theorem impl_Heartbeat.y2_ {P Q : Prop} (q : Q) (h : Q → P := by intro q_; repeat (first | exact q_ | (with_reducible refine Kd.C_alloc ?_ _) | (with_reducible refine Kd.C_drewN ?_ _) | (with_reducible refine Kd.C_drew ?_))) : P := h q
theorem impl_Heartbeat.b3_ {w w1 W : World} {g : Nat} {o : Obj} (q : Aside0 (w.heap[g]? = some o)) (hb : Below W.heap.size W w1) (h : w.heap[g]? = some o → W.heap[g]? = some o := by intro q_; (with_reducible repeat (first | refine blk_drewN ?_ _ | refine blk_drew ?_ | refine blk_alloc ?_ _)); exact q_) : Aside0 (w1.heap[g]? = some o) := ⟨blk_below (h q.out) hb⟩
theorem impl_Heartbeat.b4_ {w W : World} {g k : Nat} {o : Obj} (hg : k = W.heap.size) (q : Aside0 (w.heap[g]? = some o)) (h : w.heap[g]? = some o → W.heap[g]? = some o := by intro q_; (with_reducible repeat (first | refine blk_drewN ?_ _ | refine blk_drew ?_ | refine blk_alloc ?_ _)); exact q_) : Aside0 (g ≠ k) := ⟨by rw [hg]; exact Nat.ne_of_lt (blk_lt (h q.out))⟩
theorem impl_Heartbeat.b5_ {w W : World} {g k : Nat} {o : Obj} (hg : k = W.heap.size) (q : Aside0 (w.heap[g]? = some o)) (h : w.heap[g]? = some o → W.heap[g]? = some o := by intro q_; (with_reducible repeat (first | refine blk_drewN ?_ _ | refine blk_drew ?_ | refine blk_alloc ?_ _)); exact q_) : Aside0 (k ≠ g) := ⟨by rw [hg]; exact Nat.ne_of_gt (blk_lt (h q.out))⟩
theorem impl_Heartbeat.b6_ {w w' W : World} {k : Nat} (hg : k = W.heap.size) (q : Aside0 (Below w.heap.size w w')) (h : Below w.heap.size w w' → Below w.heap.size w W := by intro q_; repeat (first | (with_reducible first | exact q_ | apply below_alloc | apply pw_below_drewN | apply below_drew1) | exact q_)) : Aside0 (w.heap.size ≤ k) := ⟨by rw [hg]; exact below_size (h q.out)⟩
theorem impl_Heartbeat.bx_ {P : Program} {ops : Array Oper} {rest : List Oper} {o : Oper} {a : Act} {Q : Exit → Act → World → Prop} {W : World} (N : Tmp) (cs : Array Value) (t : TypeId) (h : ∀ g, g = W.heap.size → ∀ w1, w1.heap[g]? = some (.cells cs t (0, 0)) → Below W.heap.size W w1 → wpList P ops Q rest (a.put o.dst (.pointer (some ⟨g, 0, none⟩))) w1) (hgd : o.guard = none := by rfl) (hd : o.dst = some N := by rfl) (hrun : (execOp a.eval o).run P W = .ok (.value (.pointer (some ⟨W.heap.size, 0, none⟩))) (W.alloc (.cells cs t (0, 0))) := by first | (go_simp; done) | (go_simp; rfl)) : wpList P ops Q (o :: rest) a W := box_event hgd hd hrun h
theorem impl_Heartbeat.c1_ {w : World} {g : Nat} {t : TypeId} {cs : Array Value} (q : Aside0 (w.heap[g]? = some (.cells cs t (0, 0)))) (i : Nat) (v : Value) (h : cs[i]? = some v := by rfl) : w.cell? ⟨g, i, none⟩ = some v := (blk_cell q.out i).trans h
theorem impl_Heartbeat.f1_ {w : World} {g : Nat} {t : TypeId} {cs : Array Value} (q : Aside0 (w.heap[g]? = some (.cells cs t (0, 0)))) (i : Nat) : w.frozen? ⟨g, i, none⟩ = false := blk_frozen q.out i
theorem impl_Heartbeat.r1_ {α : Type} {d : Kd α} {e base : Nat} {ok : Nat → Prop} {v : Value} {xs : List α} {w W w1 : World} (q : Aside0 (d.R e w base ok v xs)) (hb : Below W.heap.size W w1) (h : d.R e w base ok v xs → d.R e W base ok v xs := by intro q_; (with_reducible repeat (first | apply Kd.R_alloc | apply Kd.R_drewN | apply Kd.R_drew)); exact q_) : Aside0 (d.R e w1 base ok v xs) := ⟨Kd.R_below (h q.out) hb⟩
def impl_Heartbeat.f (k : Nat) (l0_0 : List (S63)) (l0_1 : List (S63)) (l0_2 : List (S73)) (a1 : Int) (a2 : Int) (a3 : Int) : Option ((List (S63)) × (List (S63)) × (List (S73)) × Bool) := (impl_ValidPresence.f k l0_0 l0_1 l0_2).bind fun t145 => (if t145 = true then ((impl_clonePresence.f l0_0 l0_1 l0_2).bind fun bt146 => ((impl_leased_n44.f k bt146.1 a1 (wrap64 (a2 + a3))).bind fun t156 => ((impl_isTick.f a2).bind fun t159 => (if t159 = true then ((impl_in.f a3 1 1000).bind fun t160 => (if t160 = true then ((impl_isTick.f (wrap64 (a2 + a3))).bind fun t161 => (if t161 = true then ((impl_ValidPresence.f k t156 bt146.2.1 bt146.2.2).bind fun t162 => (if t162 = true then (some (t156, bt146.2.1, bt146.2.2, true)) else (some (([] : List (S63)), ([] : List (S63)), ([] : List (S73)), false)))) else (some (([] : List (S63)), ([] : List (S63)), ([] : List (S73)), false)))) else (some (([] : List (S63)), ([] : List (S63)), ([] : List (S73)), false)))) else (some (([] : List (S63)), ([] : List (S63)), ([] : List (S73)), false)))))) else (some (([] : List (S63)), ([] : List (S63)), ([] : List (S73)), false)))
theorem impl_Heartbeat.mono : ∀ a0 a1 a2 a3 a4 a5 k, LeO (impl_Heartbeat.f k a0 a1 a2 a3 a4 a5) (impl_Heartbeat.f (k + 1) a0 a1 a2 a3 a4 a5) := by
  intro a0 a1 a2 a3 a4 a5 k
  unfold impl_Heartbeat.f
  repeat' first
      | (with_reducible exact impl_ValidPresence.mono _ _ _ _)
      | (with_reducible exact impl_leased_n44.mono _ _ _ _)
      | (with_reducible exact LeO.refl _)
      | (with_reducible exact LeO.none _)
      | (with_reducible refine LeO.ite ?_ ?_)
      | (with_reducible refine LeO.bind ?_ (fun _ => ?_))
      | exact impl_ValidPresence.mono _ _ _ _
      | exact impl_leased_n44.mono _ _ _ _
      | exact LeO.none _
      | refine LeO.ite ?_ ?_
      | refine LeO.bind ?_ (fun _ => ?_)
set_option maxHeartbeats 40000000 in
set_option maxRecDepth 100000 in
theorem impl_Heartbeat.calls (k : Nat) (A0_0 : Option Addr) (c0_0 : Nat) (l0_0 : List (S63)) (A0_1 : Option Addr) (c0_1 : Nat) (l0_1 : List (S63)) (A0_2 : Option Addr) (c0_2 : Nat) (l0_2 : List (S73)) (a1 : Int) (a2 : Int) (a3 : Int) (r1 : List (S63)) (r2 : List (S63)) (r3 : List (S73)) (r4 : Bool) (w : World) (hr0_0 : Kd.C k63 w A0_0 l0_0.length l0_0) (hc0_0 : l0_0.length ≤ c0_0) (hr0_1 : Kd.C k63 w A0_1 l0_1.length l0_1) (hc0_1 : l0_1.length ≤ c0_1) (hr0_2 : Kd.C k73 w A0_2 l0_2.length l0_2) (hc0_2 : l0_2.length ≤ c0_2) (h : impl_Heartbeat.f k l0_0 l0_1 l0_2 a1 a2 a3 = some (r1, r2, r3, r4)) :
    Calls Try.prog 14 #[.agg #[.slice A0_0 l0_0.length c0_0, .slice A0_1 l0_1.length c0_1, .slice A0_2 l0_2.length c0_2], .int .i64 a1, .int .i64 a2, .int .i64 a3] w fun e w' => ∃ v0_ v1_ v2_ : Value, e = .returned (.tuple #[.agg #[v0_, v1_, v2_], .bool r4]) ∧ Kd.R k63 63 w' w.heap.size (fun k_ => some k_ ≠ (v1_ : Value).ownBlock) v0_ r1 ∧ Kd.R k63 63 w' w.heap.size (fun k_ => some k_ ≠ (v0_ : Value).ownBlock) v1_ r2 ∧ Kd.R k73 73 w' w.heap.size (fun _ => True) v2_ r3 ∧ Below w.heap.size w w' := by
 have hu27 := Try.underlying27
 have hu63 := Try.underlying63
 have HR0_0 := Aside0.mk hr0_0
 have HC0_0 := Aside0.mk hc0_0
 clear hr0_0 hc0_0
 have HR0_1 := Aside0.mk hr0_1
 have HC0_1 := Aside0.mk hc0_1
 clear hr0_1 hc0_1
 have HR0_2 := Aside0.mk hr0_2
 have HC0_2 := Aside0.mk hc0_2
 clear hr0_2 hc0_2
 have HB := Aside0.mk (Below.refl w.heap.size w)
 have H : ((impl_ValidPresence.f k l0_0 l0_1 l0_2).bind fun t145 => (if t145 = true then ((impl_clonePresence.f l0_0 l0_1 l0_2).bind fun bt146 => ((impl_leased_n44.f k bt146.1 a1 (wrap64 (a2 + a3))).bind fun t156 => ((impl_isTick.f a2).bind fun t159 => (if t159 = true then ((impl_in.f a3 1 1000).bind fun t160 => (if t160 = true then ((impl_isTick.f (wrap64 (a2 + a3))).bind fun t161 => (if t161 = true then ((impl_ValidPresence.f k t156 bt146.2.1 bt146.2.2).bind fun t162 => (if t162 = true then (some (t156, bt146.2.1, bt146.2.2, true)) else (some (([] : List (S63)), ([] : List (S63)), ([] : List (S73)), false)))) else (some (([] : List (S63)), ([] : List (S63)), ([] : List (S73)), false)))) else (some (([] : List (S63)), ([] : List (S63)), ([] : List (S73)), false)))) else (some (([] : List (S63)), ([] : List (S63)), ([] : List (S73)), false)))))) else (some (([] : List (S63)), ([] : List (S63)), ([] : List (S73)), false)))) = some (r1, r2, r3, r4) := h
 clear h
 replace H := Option.bind_eq_some_iff.mp H
 obtain ⟨t145, A50, H⟩ := H
 replace H : (if t145 = true then ((impl_clonePresence.f l0_0 l0_1 l0_2).bind fun bt146 => ((impl_leased_n44.f k bt146.1 a1 (wrap64 (a2 + a3))).bind fun t156 => ((impl_isTick.f a2).bind fun t159 => (if t159 = true then ((impl_in.f a3 1 1000).bind fun t160 => (if t160 = true then ((impl_isTick.f (wrap64 (a2 + a3))).bind fun t161 => (if t161 = true then ((impl_ValidPresence.f k t156 bt146.2.1 bt146.2.2).bind fun t162 => (if t162 = true then (some (t156, bt146.2.1, bt146.2.2, true)) else (some (([] : List (S63)), ([] : List (S63)), ([] : List (S73)), false)))) else (some (([] : List (S63)), ([] : List (S63)), ([] : List (S73)), false)))) else (some (([] : List (S63)), ([] : List (S63)), ([] : List (S73)), false)))) else (some (([] : List (S63)), ([] : List (S63)), ([] : List (S73)), false)))))) else (some (([] : List (S63)), ([] : List (S63)), ([] : List (S73)), false))) = some (r1, r2, r3, r4) := H
 have A5 := Aside0.mk A50
 clear A50
 by_cases c6 : t145 = true
 {
 subst c6
 have H1 : ((impl_clonePresence.f l0_0 l0_1 l0_2).bind fun bt146 => ((impl_leased_n44.f k bt146.1 a1 (wrap64 (a2 + a3))).bind fun t156 => ((impl_isTick.f a2).bind fun t159 => (if t159 = true then ((impl_in.f a3 1 1000).bind fun t160 => (if t160 = true then ((impl_isTick.f (wrap64 (a2 + a3))).bind fun t161 => (if t161 = true then ((impl_ValidPresence.f k t156 bt146.2.1 bt146.2.2).bind fun t162 => (if t162 = true then (some (t156, bt146.2.1, bt146.2.2, true)) else (some (([] : List (S63)), ([] : List (S63)), ([] : List (S73)), false)))) else (some (([] : List (S63)), ([] : List (S63)), ([] : List (S73)), false)))) else (some (([] : List (S63)), ([] : List (S63)), ([] : List (S73)), false)))) else (some (([] : List (S63)), ([] : List (S63)), ([] : List (S73)), false)))))) = some (r1, r2, r3, r4) := by rw [if_pos rfl] at H; exact H
 clear H
 have H := H1
 clear H1
 replace H := Option.bind_eq_some_iff.mp H
 obtain ⟨⟨t146, t149, t152⟩, A70, H⟩ := H
 replace H : ((impl_leased_n44.f k t146 a1 (wrap64 (a2 + a3))).bind fun t156 => ((impl_isTick.f a2).bind fun t159 => (if t159 = true then ((impl_in.f a3 1 1000).bind fun t160 => (if t160 = true then ((impl_isTick.f (wrap64 (a2 + a3))).bind fun t161 => (if t161 = true then ((impl_ValidPresence.f k t156 t149 t152).bind fun t162 => (if t162 = true then (some (t156, t149, t152, true)) else (some (([] : List (S63)), ([] : List (S63)), ([] : List (S73)), false)))) else (some (([] : List (S63)), ([] : List (S63)), ([] : List (S73)), false)))) else (some (([] : List (S63)), ([] : List (S63)), ([] : List (S73)), false)))) else (some (([] : List (S63)), ([] : List (S63)), ([] : List (S73)), false))))) = some (r1, r2, r3, r4) := H
 have A7 := Aside0.mk A70
 clear A70
 replace H := Option.bind_eq_some_iff.mp H
 obtain ⟨t156, A80, H⟩ := H
 replace H : ((impl_isTick.f a2).bind fun t159 => (if t159 = true then ((impl_in.f a3 1 1000).bind fun t160 => (if t160 = true then ((impl_isTick.f (wrap64 (a2 + a3))).bind fun t161 => (if t161 = true then ((impl_ValidPresence.f k t156 t149 t152).bind fun t162 => (if t162 = true then (some (t156, t149, t152, true)) else (some (([] : List (S63)), ([] : List (S63)), ([] : List (S73)), false)))) else (some (([] : List (S63)), ([] : List (S63)), ([] : List (S73)), false)))) else (some (([] : List (S63)), ([] : List (S63)), ([] : List (S73)), false)))) else (some (([] : List (S63)), ([] : List (S63)), ([] : List (S73)), false)))) = some (r1, r2, r3, r4) := H
 have A8 := Aside0.mk A80
 clear A80
 replace H := Option.bind_eq_some_iff.mp H
 obtain ⟨t159, A90, H⟩ := H
 replace H : (if t159 = true then ((impl_in.f a3 1 1000).bind fun t160 => (if t160 = true then ((impl_isTick.f (wrap64 (a2 + a3))).bind fun t161 => (if t161 = true then ((impl_ValidPresence.f k t156 t149 t152).bind fun t162 => (if t162 = true then (some (t156, t149, t152, true)) else (some (([] : List (S63)), ([] : List (S63)), ([] : List (S73)), false)))) else (some (([] : List (S63)), ([] : List (S63)), ([] : List (S73)), false)))) else (some (([] : List (S63)), ([] : List (S63)), ([] : List (S73)), false)))) else (some (([] : List (S63)), ([] : List (S63)), ([] : List (S73)), false))) = some (r1, r2, r3, r4) := H
 have A9 := Aside0.mk A90
 clear A90
 by_cases c10 : t159 = true
 {
 subst c10
 have H1 : ((impl_in.f a3 1 1000).bind fun t160 => (if t160 = true then ((impl_isTick.f (wrap64 (a2 + a3))).bind fun t161 => (if t161 = true then ((impl_ValidPresence.f k t156 t149 t152).bind fun t162 => (if t162 = true then (some (t156, t149, t152, true)) else (some (([] : List (S63)), ([] : List (S63)), ([] : List (S73)), false)))) else (some (([] : List (S63)), ([] : List (S63)), ([] : List (S73)), false)))) else (some (([] : List (S63)), ([] : List (S63)), ([] : List (S73)), false)))) = some (r1, r2, r3, r4) := by rw [if_pos rfl] at H; exact H
 clear H
 have H := H1
 clear H1
 replace H := Option.bind_eq_some_iff.mp H
 obtain ⟨t160, A110, H⟩ := H
 replace H : (if t160 = true then ((impl_isTick.f (wrap64 (a2 + a3))).bind fun t161 => (if t161 = true then ((impl_ValidPresence.f k t156 t149 t152).bind fun t162 => (if t162 = true then (some (t156, t149, t152, true)) else (some (([] : List (S63)), ([] : List (S63)), ([] : List (S73)), false)))) else (some (([] : List (S63)), ([] : List (S63)), ([] : List (S73)), false)))) else (some (([] : List (S63)), ([] : List (S63)), ([] : List (S73)), false))) = some (r1, r2, r3, r4) := H
 have A11 := Aside0.mk A110
 clear A110
 by_cases c12 : t160 = true
 {
 subst c12
 have H1 : ((impl_isTick.f (wrap64 (a2 + a3))).bind fun t161 => (if t161 = true then ((impl_ValidPresence.f k t156 t149 t152).bind fun t162 => (if t162 = true then (some (t156, t149, t152, true)) else (some (([] : List (S63)), ([] : List (S63)), ([] : List (S73)), false)))) else (some (([] : List (S63)), ([] : List (S63)), ([] : List (S73)), false)))) = some (r1, r2, r3, r4) := by rw [if_pos rfl] at H; exact H
 clear H
 have H := H1
 clear H1
 replace H := Option.bind_eq_some_iff.mp H
 obtain ⟨t161, A130, H⟩ := H
 replace H : (if t161 = true then ((impl_ValidPresence.f k t156 t149 t152).bind fun t162 => (if t162 = true then (some (t156, t149, t152, true)) else (some (([] : List (S63)), ([] : List (S63)), ([] : List (S73)), false)))) else (some (([] : List (S63)), ([] : List (S63)), ([] : List (S73)), false))) = some (r1, r2, r3, r4) := H
 have A13 := Aside0.mk A130
 clear A130
 by_cases c14 : t161 = true
 {
 subst c14
 have H1 : ((impl_ValidPresence.f k t156 t149 t152).bind fun t162 => (if t162 = true then (some (t156, t149, t152, true)) else (some (([] : List (S63)), ([] : List (S63)), ([] : List (S73)), false)))) = some (r1, r2, r3, r4) := by rw [if_pos rfl] at H; exact H
 clear H
 have H := H1
 clear H1
 replace H := Option.bind_eq_some_iff.mp H
 obtain ⟨t162, A150, H⟩ := H
 replace H : (if t162 = true then (some (t156, t149, t152, true)) else (some (([] : List (S63)), ([] : List (S63)), ([] : List (S73)), false))) = some (r1, r2, r3, r4) := H
 have A15 := Aside0.mk A150
 clear A150
 by_cases c16 : t162 = true
 {
 subst c16
 have H1 : (some (t156, t149, t152, true)) = some (r1, r2, r3, r4) := by rw [if_pos rfl] at H; exact H
 clear H
 have H := H1
 clear H1
 simp only [Option.some.injEq, Prod.mk.injEq] at H
 obtain ⟨rfl, rfl, rfl, rfl⟩ := H
 go_enter Try.func14, Try.ntmps14
 try go_wp2_with (first | ((with_reducible refine gate_dst (N := 4) rfl ?_); (try (refine gate_guard (by rfl) ?_; dsimp only)); refine bx_ 4 #[.slice A0_0 l0_0.length c0_0, .slice A0_1 l0_1.length c0_1, .slice A0_2 l0_2.length c0_2] 27 ?_; intro gb138 hg w17 hbox hb; have GW138 := b6_ hg HB; have GE138 := b6_ hg HB; replace HB := Aside0.mk (below_step (y1_ HB.out) hb); have BK138 := Aside0.mk (hbox); clear hb hbox hg) | ((with_reducible refine gate_dst (N := 5) rfl ?_); (try (refine gate_guard (by rfl) ?_; dsimp only)); refine bx_ 5 #[.int .i64 a1] 2 ?_; intro gb139 hg w18 hbox hb; have GW139 := b6_ hg HB; have GE139 := b6_ hg HB; have NB138_139 := b4_ hg BK138; have NB139_138 := b5_ hg BK138; replace BK138 := b3_ BK138 hb; replace HB := Aside0.mk (below_step (y1_ HB.out) hb); have BK139 := Aside0.mk (hbox); clear hb hbox hg) | ((with_reducible refine gate_dst (N := 6) rfl ?_); (try (refine gate_guard (by rfl) ?_; dsimp only)); refine bx_ 6 #[.int .i64 a2] 2 ?_; intro gb140 hg w19 hbox hb; have GW140 := b6_ hg HB; have GE140 := b6_ hg HB; have NB138_140 := b4_ hg BK138; have NB140_138 := b5_ hg BK138; have NB139_140 := b4_ hg BK139; have NB140_139 := b5_ hg BK139; replace BK138 := b3_ BK138 hb; replace BK139 := b3_ BK139 hb; replace HB := Aside0.mk (below_step (y1_ HB.out) hb); have BK140 := Aside0.mk (hbox); clear hb hbox hg) | ((with_reducible refine gate_dst (N := 7) rfl ?_); (try (refine gate_guard (by rfl) ?_; dsimp only)); refine bx_ 7 #[.int .i64 a3] 2 ?_; intro gb141 hg w20 hbox hb; have GW141 := b6_ hg HB; have GE141 := b6_ hg HB; have NB138_141 := b4_ hg BK138; have NB141_138 := b5_ hg BK138; have NB139_141 := b4_ hg BK139; have NB141_139 := b5_ hg BK139; have NB140_141 := b4_ hg BK140; have NB141_140 := b5_ hg BK140; replace BK138 := b3_ BK138 hb; replace BK139 := b3_ BK139 hb; replace BK140 := b3_ BK140 hb; replace HB := Aside0.mk (below_step (y1_ HB.out) hb); have BK141 := Aside0.mk (hbox); clear hb hbox hg) | ((with_reducible refine gate_dst (N := 8) rfl ?_); (try (refine gate_guard (by rfl) ?_; dsimp only)); refine bx_ 8 #[.slice none 0 0, .slice none 0 0, .slice none 0 0] 27 ?_; intro gb142 hg w21 hbox hb; have GW142 := b6_ hg HB; have GE142 := b6_ hg HB; have NB138_142 := b4_ hg BK138; have NB142_138 := b5_ hg BK138; have NB139_142 := b4_ hg BK139; have NB142_139 := b5_ hg BK139; have NB140_142 := b4_ hg BK140; have NB142_140 := b5_ hg BK140; have NB141_142 := b4_ hg BK141; have NB142_141 := b5_ hg BK141; replace BK138 := b3_ BK138 hb; replace BK139 := b3_ BK139 hb; replace BK140 := b3_ BK140 hb; replace BK141 := b3_ BK141 hb; replace HB := Aside0.mk (below_step (y1_ HB.out) hb); have BK142 := Aside0.mk (hbox); clear hb hbox hg; have hnb22 := NB138_139.out; have hnc22 := NB139_138.out; have hnb23 := NB138_140.out; have hnc23 := NB140_138.out; have hnb24 := NB138_141.out; have hnc24 := NB141_138.out; have hnb25 := NB138_142.out; have hnc25 := NB142_138.out; have hcz26_0 := c1_ BK138 0 (.slice A0_0 l0_0.length c0_0); have hcz26_1 := c1_ BK138 1 (.slice A0_1 l0_1.length c0_1); have hcz26_2 := c1_ BK138 2 (.slice A0_2 l0_2.length c0_2); have hfz26_0 := f1_ BK138 0; have hfz26_1 := f1_ BK138 1; have hfz26_2 := f1_ BK138 2))
 go_at_call 42
 go_in
 try go_wp2_with (first | ((with_reducible refine gate_dst (N := 2) rfl ?_); (try (refine gate_guard (by rfl) ?_; dsimp only)); refine bx_ 2 #[.slice A0_0 l0_0.length c0_0, .slice A0_1 l0_1.length c0_1, .slice A0_2 l0_2.length c0_2] 27 ?_; intro gb143 hg w27 hbox hb; have GW143 := b6_ hg HB; have GE143 := b6_ hg HB; have NB139_143 := b4_ hg BK139; have NB143_139 := b5_ hg BK139; have NB140_143 := b4_ hg BK140; have NB143_140 := b5_ hg BK140; have NB141_143 := b4_ hg BK141; have NB143_141 := b5_ hg BK141; have NB142_143 := b4_ hg BK142; have NB143_142 := b5_ hg BK142; replace BK139 := b3_ BK139 hb; replace BK140 := b3_ BK140 hb; replace BK141 := b3_ BK141 hb; replace BK142 := b3_ BK142 hb; replace HB := Aside0.mk (below_step (y1_ HB.out) hb); have BK143 := Aside0.mk (hbox); clear hb hbox hg) | ((with_reducible refine gate_dst (N := 4) rfl ?_); (try (refine gate_guard (by rfl) ?_; dsimp only)); refine bx_ 4 #[.slice none 0 0, .slice none 0 0, .slice none 0 0] 27 ?_; intro gb144 hg w28 hbox hb; have GW144 := b6_ hg HB; have GE144 := b6_ hg HB; have NB139_144 := b4_ hg BK139; have NB144_139 := b5_ hg BK139; have NB140_144 := b4_ hg BK140; have NB144_140 := b5_ hg BK140; have NB141_144 := b4_ hg BK141; have NB144_141 := b5_ hg BK141; have NB142_144 := b4_ hg BK142; have NB144_142 := b5_ hg BK142; have NB143_144 := b4_ hg BK143; have NB144_143 := b5_ hg BK143; replace BK139 := b3_ BK139 hb; replace BK140 := b3_ BK140 hb; replace BK141 := b3_ BK141 hb; replace BK142 := b3_ BK142 hb; replace BK143 := b3_ BK143 hb; replace HB := Aside0.mk (below_step (y1_ HB.out) hb); have BK144 := Aside0.mk (hbox); clear hb hbox hg; have hnb29 := NB143_139.out; have hnc29 := NB139_143.out; have hnb30 := NB143_140.out; have hnc30 := NB140_143.out; have hnb31 := NB143_141.out; have hnc31 := NB141_143.out; have hnb32 := NB143_142.out; have hnc32 := NB142_143.out; have hnb33 := NB143_144.out; have hnc33 := NB144_143.out; have hcz34_0 := c1_ BK143 0 (.slice A0_0 l0_0.length c0_0); have hcz34_1 := c1_ BK143 1 (.slice A0_1 l0_1.length c0_1); have hcz34_2 := c1_ BK143 2 (.slice A0_2 l0_2.length c0_2); have hfz34_0 := f1_ BK143 0; have hfz34_1 := f1_ BK143 1; have hfz34_2 := f1_ BK143 2) | ((with_reducible refine gate_callee (f := 19) rfl ?_); refine goesL_ (some 8) rfl rfl Try.func19 s2_ rfl #[.agg #[.slice A0_0 l0_0.length c0_0, .slice A0_1 l0_1.length c0_1, .slice A0_2 l0_2.length c0_2]] rfl s3_ ?_; (with_reducible refine (impl_ValidPresence.calls k _ _ l0_0 _ _ l0_1 _ _ l0_2 true _ ?side1 ?side2 ?side3 ?side4 ?side5 ?side6 A5.out).mono ?_); (case side1 => exact y2_ (Kd.C_below HR0_0.out HB.out)); (case side2 => exact HC0_0.out); (case side3 => exact y2_ (Kd.C_below HR0_1.out HB.out)); (case side4 => exact HC0_1.out); (case side5 => exact y2_ (Kd.C_below HR0_2.out HB.out)); (case side6 => exact HC0_2.out); rintro e w35 ⟨rfl, hb⟩; refine ⟨_, rfl, ?_⟩; replace BK139 := b3_ BK139 hb; replace BK140 := b3_ BK140 hb; replace BK141 := b3_ BK141 hb; replace BK142 := b3_ BK142 hb; replace BK143 := b3_ BK143 hb; replace BK144 := b3_ BK144 hb; replace HB := Aside0.mk (below_step (y1_ HB.out) hb); (try clear hb); (try clear hb2); (try clear hk); (try clear hi); have hcz36_0 := c1_ BK143 0 (.slice A0_0 l0_0.length c0_0); have hcz36_1 := c1_ BK143 1 (.slice A0_1 l0_1.length c0_1); have hcz36_2 := c1_ BK143 2 (.slice A0_2 l0_2.length c0_2); have hfz36_0 := f1_ BK143 0; have hfz36_1 := f1_ BK143 1; have hfz36_2 := f1_ BK143 2) | ((with_reducible refine gate_callee (f := 90) rfl ?_); refine goesL_ (some 12) rfl rfl Try.func90 s2_ rfl #[.agg #[.slice A0_0 l0_0.length c0_0, .slice A0_1 l0_1.length c0_1, .slice A0_2 l0_2.length c0_2]] rfl s3_ ?_; (with_reducible refine (impl_clonePresence.calls _ _ l0_0 _ _ l0_1 _ _ l0_2 t146 t149 t152 _ ?side1 ?side2 ?side3 ?side4 ?side5 ?side6 A7.out).mono ?_); (case side1 => exact y2_ (Kd.C_below HR0_0.out HB.out)); (case side2 => exact HC0_0.out); (case side3 => exact y2_ (Kd.C_below HR0_1.out HB.out)); (case side4 => exact HC0_1.out); (case side5 => exact y2_ (Kd.C_below HR0_2.out HB.out)); (case side6 => exact HC0_2.out); rintro e w37 ⟨v147, v150, v153, rfl, ho0, ho1, ho2, hb⟩; refine ⟨_, rfl, ?_⟩; have HO148 := Aside0.mk (Kd.R_lower ho0 (below_size (y1_ HB.out))); have HO151 := Aside0.mk (Kd.R_lower ho1 (below_size (y1_ HB.out))); have HO154 := Aside0.mk (Kd.R_lower ho2 (below_size (y1_ HB.out))); replace BK139 := b3_ BK139 hb; replace BK140 := b3_ BK140 hb; replace BK141 := b3_ BK141 hb; replace BK142 := b3_ BK142 hb; replace BK144 := b3_ BK144 hb; replace HB := Aside0.mk (below_step (y1_ HB.out) hb); (try clear hb); (try clear hb2); (try clear hk); (try clear hi); (try clear ho0); (try clear ho1); (try clear ho2)) | ((with_reducible refine gate_dst (N := 6) rfl ?_); (try (refine gate_guard (by rfl) ?_; dsimp only)); refine bx_ 6 #[.slice none 0 0, .slice none 0 0, .slice none 0 0] 27 ?_; intro gb155 hg w38 hbox hb; have GW155 := b6_ hg HB; have GE155 := b6_ hg HB; have NB139_155 := b4_ hg BK139; have NB155_139 := b5_ hg BK139; have NB140_155 := b4_ hg BK140; have NB155_140 := b5_ hg BK140; have NB141_155 := b4_ hg BK141; have NB155_141 := b5_ hg BK141; have NB142_155 := b4_ hg BK142; have NB155_142 := b5_ hg BK142; have NB144_155 := b4_ hg BK144; have NB155_144 := b5_ hg BK144; replace HO148 := r1_ HO148 hb; replace HO151 := r1_ HO151 hb; replace HO154 := r1_ HO154 hb; replace BK139 := b3_ BK139 hb; replace BK140 := b3_ BK140 hb; replace BK141 := b3_ BK141 hb; replace BK142 := b3_ BK142 hb; replace BK144 := b3_ BK144 hb; replace HB := Aside0.mk (below_step (y1_ HB.out) hb); have BK155 := Aside0.mk (hbox); clear hb hbox hg; obtain ⟨Ao39, co39, eo39⟩ := Kd.R_slice HO148.out; subst eo39; have hnb40 := NB155_139.out; have hnc40 := NB139_155.out; have hnb41 := NB155_140.out; have hnc41 := NB140_155.out; have hnb42 := NB155_141.out; have hnc42 := NB141_155.out; have hnb43 := NB155_142.out; have hnc43 := NB142_155.out; have hnb44 := NB155_144.out; have hnc44 := NB144_155.out; have hcz45_0 := c1_ BK155 0 (.slice none 0 0); have hcz45_1 := c1_ BK155 1 (.slice none 0 0); have hcz45_2 := c1_ BK155 2 (.slice none 0 0); have hfz45_0 := f1_ BK155 0; have hfz45_1 := f1_ BK155 1; have hfz45_2 := f1_ BK155 2; obtain ⟨Ao46, co46, eo46⟩ := Kd.R_slice HO151.out; subst eo46; obtain ⟨Ao47, co47, eo47⟩ := Kd.R_slice HO154.out; subst eo47))
 go_at_call 43
 go_in
 try go_wp2_with (fail)
 have n0_ : Aside0 (Kd.R k63 63 (((w38.setCell ⟨gb155, 0, none⟩ (.slice Ao39 t146.length co39)).setCell ⟨gb155, 1, none⟩ (.slice Ao46 t149.length co46)).setCell ⟨gb155, 2, none⟩ (.slice Ao47 t152.length co47)) w.heap.size (fun k_ => some k_ ≠ (.slice Ao46 t149.length co46 : Value).ownBlock) (.slice Ao39 t146.length co39) t146) := ⟨by (with_reducible repeat (first | apply Kd.R_alloc | apply Kd.R_drewN | apply Kd.R_drew)); exact Kd.R_mono (Kd.R_far3 (g := gb155) (Kd.R_types HO148.out BK155.out (by decide)) (fun _ hk => hk.2)) (fun _ hk => hk.1)⟩
 have n1_ : Aside0 (Kd.R k63 63 (((w38.setCell ⟨gb155, 0, none⟩ (.slice Ao39 t146.length co39)).setCell ⟨gb155, 1, none⟩ (.slice Ao46 t149.length co46)).setCell ⟨gb155, 2, none⟩ (.slice Ao47 t152.length co47)) w.heap.size (fun k_ => some k_ ≠ (.slice Ao39 t146.length co39 : Value).ownBlock) (.slice Ao46 t149.length co46) t149) := ⟨by (with_reducible repeat (first | apply Kd.R_alloc | apply Kd.R_drewN | apply Kd.R_drew)); exact Kd.R_mono (Kd.R_far3 (g := gb155) (Kd.R_types HO151.out BK155.out (by decide)) (fun _ hk => hk.2)) (fun _ hk => hk.1)⟩
 have n2_ : Aside0 (Kd.R k73 73 (((w38.setCell ⟨gb155, 0, none⟩ (.slice Ao39 t146.length co39)).setCell ⟨gb155, 1, none⟩ (.slice Ao46 t149.length co46)).setCell ⟨gb155, 2, none⟩ (.slice Ao47 t152.length co47)) w.heap.size (fun _ => True) (.slice Ao47 t152.length co47) t152) := ⟨by (with_reducible repeat (first | apply Kd.R_alloc | apply Kd.R_drewN | apply Kd.R_drew)); exact Kd.R_mono (Kd.R_far3 (g := gb155) (Kd.R_types HO154.out BK155.out (by decide)) (fun _ hk => hk.2)) (fun _ hk => trivial)⟩
 have n3_ : Aside0 ((((w38.setCell ⟨gb155, 0, none⟩ (.slice Ao39 t146.length co39)).setCell ⟨gb155, 1, none⟩ (.slice Ao46 t149.length co46)).setCell ⟨gb155, 2, none⟩ (.slice Ao47 t152.length co47)).heap[gb139]? = some (.cells #[.int .i64 a1] 2 (0, 0))) := ⟨by (with_reducible repeat (first | refine blk_drewN ?_ _ | refine blk_drew ?_ | refine blk_alloc ?_ _)); refine blk_far3 ?_ NB139_155.out; (with_reducible repeat (first | refine blk_drewN ?_ _ | refine blk_drew ?_ | refine blk_alloc ?_ _)); exact BK139.out⟩
 have n4_ : Aside0 ((((w38.setCell ⟨gb155, 0, none⟩ (.slice Ao39 t146.length co39)).setCell ⟨gb155, 1, none⟩ (.slice Ao46 t149.length co46)).setCell ⟨gb155, 2, none⟩ (.slice Ao47 t152.length co47)).heap[gb140]? = some (.cells #[.int .i64 a2] 2 (0, 0))) := ⟨by (with_reducible repeat (first | refine blk_drewN ?_ _ | refine blk_drew ?_ | refine blk_alloc ?_ _)); refine blk_far3 ?_ NB140_155.out; (with_reducible repeat (first | refine blk_drewN ?_ _ | refine blk_drew ?_ | refine blk_alloc ?_ _)); exact BK140.out⟩
 have n5_ : Aside0 ((((w38.setCell ⟨gb155, 0, none⟩ (.slice Ao39 t146.length co39)).setCell ⟨gb155, 1, none⟩ (.slice Ao46 t149.length co46)).setCell ⟨gb155, 2, none⟩ (.slice Ao47 t152.length co47)).heap[gb141]? = some (.cells #[.int .i64 a3] 2 (0, 0))) := ⟨by (with_reducible repeat (first | refine blk_drewN ?_ _ | refine blk_drew ?_ | refine blk_alloc ?_ _)); refine blk_far3 ?_ NB141_155.out; (with_reducible repeat (first | refine blk_drewN ?_ _ | refine blk_drew ?_ | refine blk_alloc ?_ _)); exact BK141.out⟩
 have n6_ : Aside0 ((((w38.setCell ⟨gb155, 0, none⟩ (.slice Ao39 t146.length co39)).setCell ⟨gb155, 1, none⟩ (.slice Ao46 t149.length co46)).setCell ⟨gb155, 2, none⟩ (.slice Ao47 t152.length co47)).heap[gb142]? = some (.cells #[.slice none 0 0, .slice none 0 0, .slice none 0 0] 27 (0, 0))) := ⟨by (with_reducible repeat (first | refine blk_drewN ?_ _ | refine blk_drew ?_ | refine blk_alloc ?_ _)); refine blk_far3 ?_ NB142_155.out; (with_reducible repeat (first | refine blk_drewN ?_ _ | refine blk_drew ?_ | refine blk_alloc ?_ _)); exact BK142.out⟩
 have n7_ : Aside0 ((((w38.setCell ⟨gb155, 0, none⟩ (.slice Ao39 t146.length co39)).setCell ⟨gb155, 1, none⟩ (.slice Ao46 t149.length co46)).setCell ⟨gb155, 2, none⟩ (.slice Ao47 t152.length co47)).heap[gb144]? = some (.cells #[.slice none 0 0, .slice none 0 0, .slice none 0 0] 27 (0, 0))) := ⟨by (with_reducible repeat (first | refine blk_drewN ?_ _ | refine blk_drew ?_ | refine blk_alloc ?_ _)); refine blk_far3 ?_ NB144_155.out; (with_reducible repeat (first | refine blk_drewN ?_ _ | refine blk_drew ?_ | refine blk_alloc ?_ _)); exact BK144.out⟩
 have n8_ : Aside0 ((((w38.setCell ⟨gb155, 0, none⟩ (.slice Ao39 t146.length co39)).setCell ⟨gb155, 1, none⟩ (.slice Ao46 t149.length co46)).setCell ⟨gb155, 2, none⟩ (.slice Ao47 t152.length co47)).heap[gb155]? = some (.cells #[.slice Ao39 t146.length co39, .slice Ao46 t149.length co46, .slice Ao47 t152.length co47] 27 (0, 0))) := ⟨by (with_reducible repeat (first | refine blk_drewN ?_ _ | refine blk_drew ?_ | refine blk_alloc ?_ _)); refine blk_put3 (cs := #[.slice none 0 0, .slice none 0 0, .slice none 0 0]) ?_ rfl; (with_reducible repeat (first | refine blk_drewN ?_ _ | refine blk_drew ?_ | refine blk_alloc ?_ _)); exact BK155.out⟩
 have n9_ : Aside0 (Below w.heap.size w (((w38.setCell ⟨gb155, 0, none⟩ (.slice Ao39 t146.length co39)).setCell ⟨gb155, 1, none⟩ (.slice Ao46 t149.length co46)).setCell ⟨gb155, 2, none⟩ (.slice Ao47 t152.length co47))) := ⟨by repeat (first | (with_reducible first | exact HB.out | apply below_alloc | apply pw_below_drewN | apply below_drew1 | refine below_set ?_ GE155.out) | exact HB.out)⟩
 (try clear HO148)
 (try clear HO151)
 (try clear HO154)
 (try clear BK139)
 (try clear BK140)
 (try clear BK141)
 (try clear BK142)
 (try clear BK144)
 (try clear BK155)
 (try clear HB)
 generalize (((w38.setCell ⟨gb155, 0, none⟩ (.slice Ao39 t146.length co39)).setCell ⟨gb155, 1, none⟩ (.slice Ao46 t149.length co46)).setCell ⟨gb155, 2, none⟩ (.slice Ao47 t152.length co47)) = w48 at n0_ n1_ n2_ n3_ n4_ n5_ n6_ n7_ n8_ n9_ ⊢
 have HO148 := n0_
 have HO151 := n1_
 have HO154 := n2_
 have BK139 := n3_
 have BK140 := n4_
 have BK141 := n5_
 have BK142 := n6_
 have BK144 := n7_
 have BK155 := n8_
 have HB := n9_
 clear n0_ n1_ n2_ n3_ n4_ n5_ n6_ n7_ n8_ n9_
 replace HO148 := Aside0.mk (Kd.R_drew HO148.out)
 replace HO151 := Aside0.mk (Kd.R_drew HO151.out)
 replace HO154 := Aside0.mk (Kd.R_drew HO154.out)
 replace BK139 := Aside0.mk (blk_drew BK139.out)
 replace BK140 := Aside0.mk (blk_drew BK140.out)
 replace BK141 := Aside0.mk (blk_drew BK141.out)
 replace BK142 := Aside0.mk (blk_drew BK142.out)
 replace BK144 := Aside0.mk (blk_drew BK144.out)
 replace BK155 := Aside0.mk (blk_drew BK155.out)
 replace HB := Aside0.mk (below_drew1 HB.out)
 refine start_ (n := 14) (S := fun w' => w'.cell? ⟨gb155, 0, none⟩ = some (.slice Ao39 t146.length co39) ∧ w'.cell? ⟨gb155, 1, none⟩ = some (.slice Ao46 t149.length co46) ∧ w'.cell? ⟨gb155, 2, none⟩ = some (.slice Ao47 t152.length co47) ∧ w'.cell? ⟨gb139, 0, none⟩ = some (.int .i64 a1) ∧ w'.cell? ⟨gb140, 0, none⟩ = some (.int .i64 a2) ∧ w'.cell? ⟨gb141, 0, none⟩ = some (.int .i64 a3)) (ds := [13]) m0_ s2_ rfl rfl ⟨(blk_cell BK155.out 0).trans rfl, (blk_cell BK155.out 1).trans rfl, (blk_cell BK155.out 2).trans rfl, (blk_cell BK139.out 0).trans rfl, (blk_cell BK140.out 0).trans rfl, (blk_cell BK141.out 0).trans rfl⟩ (fun hHeld => ?_)
 generalize w48.drew = w49 at HO148 HO151 HO154 BK139 BK140 BK141 BK142 BK144 BK155 HB HO148 HO151 HO154 hHeld ⊢
 refine pure_ (i := 0) (N := some 6) (v := ?_) (a' := ?_) m1_ rfl rfl s2_ (fun _ _ _ h => h) (Or.inl ⟨by rfl, ?_⟩) ?_ ?_
 rotate_left
 {
 intro w'
 go_simp
 with_reducible rfl}
 rotate_left
 · exact p1_
 refine pure_ (i := 1) (N := some 7) (v := ?_) (a' := ?_) m2_ rfl rfl s2_ (fun _ _ _ h => h) (Or.inl ⟨by rfl, ?_⟩) ?_ ?_
 rotate_left
 {
 intro w'
 go_simp
 with_reducible rfl}
 rotate_left
 · exact p1_
 refine pure_ (i := 2) (N := some 8) (v := ?_) (a' := ?_) m3_ rfl rfl s2_ (fun _ _ _ h => h) (Or.inl ⟨by rfl, ?_⟩) ?_ ?_
 rotate_left
 {
 intro w'
 go_simp
 with_reducible rfl}
 rotate_left
 · exact p1_
 refine pure_ (i := 3) (N := some 9) (v := ?_) (a' := ?_) m4_ rfl rfl s2_ (fun _ _ _ h => h) (Or.inl ⟨by rfl, ?_⟩) ?_ ?_
 rotate_left
 {
 intro w'
 go_simp
 with_reducible rfl}
 rotate_left
 · exact p1_
 refine take_ (i := 4) (N := some 10) (v := ?_) (a' := ?_) m5_ rfl rfl s2_ (fun _ _ _ h => h) (Or.inl ⟨by rfl, ?_⟩) hHeld ?_ ?_
 rotate_left
 {
 rintro w' ⟨s0, s1, s2, s3, s4, s5⟩
 go_simp
 with_reducible rfl}
 rotate_left
 · exact p1_
 refine take_ (i := 5) (N := some 11) (v := ?_) (a' := ?_) m6_ rfl rfl s2_ (fun _ _ _ h => h) (Or.inl ⟨by rfl, ?_⟩) hHeld ?_ ?_
 rotate_left
 {
 rintro w' ⟨s0, s1, s2, s3, s4, s5⟩
 go_simp
 with_reducible rfl}
 rotate_left
 · exact p1_
 refine take_ (i := 6) (N := some 12) (v := ?_) (a' := ?_) m7_ rfl rfl s2_ (fun _ _ _ h => h) (Or.inl ⟨by rfl, ?_⟩) hHeld ?_ ?_
 rotate_left
 {
 rintro w' ⟨s0, s1, s2, s3, s4, s5⟩
 go_simp
 with_reducible rfl}
 rotate_left
 · exact p1_
 refine take_ (i := 7) (N := some 13) (v := ?_) (a' := ?_) m8_ rfl rfl s2_ (fun _ _ _ h => h) (Or.inl ⟨by rfl, ?_⟩) hHeld ?_ ?_
 rotate_left
 {
 rintro w' ⟨s0, s1, s2, s3, s4, s5⟩
 go_simp
 with_reducible rfl}
 rotate_left
 · exact p1_
 refine pure_ (i := 8) (N := some 14) (v := ?_) (a' := ?_) m9_ rfl rfl s2_ (fun _ _ _ h => h) (Or.inl ⟨by rfl, ?_⟩) ?_ ?_
 rotate_left
 {
 intro w'
 go_simp
 with_reducible rfl}
 rotate_left
 · exact p1_
 refine pure_ (i := 9) (N := some 15) (v := ?_) (a' := ?_) m10_ rfl rfl s2_ (fun _ _ _ h => h) (Or.inl ⟨by rfl, ?_⟩) ?_ ?_
 rotate_left
 {
 intro w'
 go_simp
 with_reducible rfl}
 rotate_left
 · exact p1_
 refine one_ (i := 10) (N := some 16) m11_ rfl rfl s2_ (by decide) (fun K hK => ?_)
 refine goes_ Try.func44 s2_ rfl #[.slice Ao39 t146.length co39, .agg #[.int .i64 a1, .int .i64 (wrap64 (a2 + a3))]] (by rfl) rfl rfl s3_ ?_
 with_reducible refine (impl_leased_n44.calls k (fun k_ => some k_ = (.slice Ao39 t146.length co39 : Value).ownBlock) (.slice Ao39 t146.length co39) t146 a1 (wrap64 (a2 + a3)) t156 w _ ?side1 ?side2 A8.out).mono ?_
 (case side1 => repeat (first | (with_reducible first | exact HB.out | apply below_alloc | apply pw_below_drewN | apply below_drew1) | exact HB.out))
 (case side2 => exact Kd.R_tight rfl HO148.out)
 rintro e w50 ⟨v157, rfl, ho0, hb, hkp⟩
 refine ⟨_, rfl, ?_⟩
 have n0_ := Aside0.mk (blk_kept (b1_ BK139.out) hkp (fun hs_ => (fun e_ => (Kd.R_ne HO148.out BK139.out (by decide)) e_) hs_))
 have n1_ := Aside0.mk (blk_kept (b1_ BK140.out) hkp (fun hs_ => (fun e_ => (Kd.R_ne HO148.out BK140.out (by decide)) e_) hs_))
 have n2_ := Aside0.mk (blk_kept (b1_ BK141.out) hkp (fun hs_ => (fun e_ => (Kd.R_ne HO148.out BK141.out (by decide)) e_) hs_))
 have n3_ := Aside0.mk (blk_kept (b1_ BK142.out) hkp (fun hs_ => (fun e_ => (Kd.R_ne HO148.out BK142.out (by decide)) e_) hs_))
 have n4_ := Aside0.mk (blk_kept (b1_ BK144.out) hkp (fun hs_ => (fun e_ => (Kd.R_ne HO148.out BK144.out (by decide)) e_) hs_))
 have n5_ := Aside0.mk (Kd.R_mono (ok' := fun k_ => some k_ ≠ (v157 : Value).ownBlock) (Kd.R_keptB (HO151.out) hkp (fun k_ hk_ hs_ => (hk_) hs_)) (fun k_ hk_ => fun e_ => Or.elim (ho0.1 k_ e_.symm) (fun hs_ => hk_.2.1 hs_) (fun hn_ => Nat.not_le.2 hk_.2.2 hn_)))
 have n6_ := Aside0.mk (Kd.R_mono (ok' := fun k_ => True) (Kd.R_keptB ((Kd.R_apart' HO154.out (Kd.R_typed HO148.out) (by decide))) hkp (fun k_ hk_ hs_ => (hk_.2) hs_)) (fun k_ hk_ => trivial))
 have n7_ := Aside0.mk (blk_kept (b1_ BK155.out) hkp (fun hs_ => (fun e_ => (Kd.R_ne HO148.out BK155.out (by decide)) e_) hs_))
 have n8_ := Aside0.mk (Kd.R_mono (ok' := fun k_ => some k_ ≠ (.slice Ao46 t149.length co46 : Value).ownBlock) ho0 (fun k_ hk_ => Or.elim hk_ (fun hs_ => fun e_ => (((HO151.out).1 k_ e_.symm)) hs_) (fun hn_ => (Kd.fresh' (Kd.R_lt (b2_ HO151.out)) k_ hn_))))
 have n9_ := Aside0.mk (hb)
 clear BK139
 clear BK140
 clear BK141
 clear BK142
 clear BK144
 clear HO151
 clear HO154
 clear BK155
 clear HB
 clear HO148
 have BK139 := n0_
 have BK140 := n1_
 have BK141 := n2_
 have BK142 := n3_
 have BK144 := n4_
 have HO151 := n5_
 have HO154 := n6_
 have BK155 := n7_
 have HO158 := n8_
 have HB := n9_
 clear n0_ n1_ n2_ n3_ n4_ n5_ n6_ n7_ n8_ n9_
 (try clear hb)
 (try clear hkp)
 (try clear ho0)
 obtain ⟨Ao51, co51, eo51⟩ := Kd.R_slice HO158.out
 (first | subst eo51 | (injection eo51 with f1_ f2_ f3_; have f4_ := f1_.symm; have f5_ := f3_.symm; clear f1_ f2_ f3_; subst f4_; subst f5_))
 refine hK.out _ _ ⟨(blk_cell BK155.out 0).trans rfl, (blk_cell BK155.out 1).trans rfl, (blk_cell BK155.out 2).trans rfl, (blk_cell BK139.out 0).trans rfl, (blk_cell BK140.out 0).trans rfl, (blk_cell BK141.out 0).trans rfl⟩ (fun hHeld => ?_)
 clear hK K
 refine norm_ (a' := ?_) ?_ ?_
 rotate_left
 {
 show Act.put _ (some 16) _ = _
 simp only [Act.put, List.setIfInBounds_toArray, List.set_cons_zero, List.set_cons_succ, i64_w, i32_w]
 rfl}
 refine pure_ (i := 11) (N := some 17) (v := ?_) (a' := ?_) m12_ rfl rfl s2_ (fun _ _ _ h => h) (Or.inl ⟨by rfl, ?_⟩) ?_ ?_
 rotate_left
 {
 intro w'
 go_simp
 with_reducible rfl}
 rotate_left
 · exact p1_
 refine pure_ (i := 12) (N := some 18) (v := ?_) (a' := ?_) m13_ rfl rfl s2_ (fun _ _ _ h => h) (Or.inl ⟨by rfl, ?_⟩) ?_ ?_
 rotate_left
 {
 intro w'
 go_simp
 with_reducible rfl}
 rotate_left
 · exact p1_
 refine last_ (i := 13) (N := none) m14_ rfl rfl s2_ (by decide) (fun K hK => ?_)
 have hs52 : w50.cell? ⟨gb155, 0, none⟩ = some (.slice Ao39 t146.length co39) := (blk_cell BK155.out 0).trans rfl
 have hfs52 := blk_frozen BK155.out 0
 have hns52_0 := NB139_155.out
 have hns52_1 := NB140_155.out
 have hns52_2 := NB141_155.out
 have hns52_3 := NB142_155.out
 have hns52_4 := NB144_155.out
 have hms52_0 := NB155_139.out
 have hms52_1 := NB155_140.out
 have hms52_2 := NB155_141.out
 have hms52_3 := NB155_142.out
 have hms52_4 := NB155_144.out
 refine skip_ (w1 := ?_) (by rfl) rfl ?_ ?_
 rotate_left
 {
 go_simp
 rfl}
 refine hK.out _ _ ?_
 clear hK K
 refine done_ s2_ ?_
 have hnb53 := NB140_139.out
 have hnc53 := NB139_140.out
 have hnb54 := NB140_141.out
 have hnc54 := NB141_140.out
 have hnb55 := NB140_142.out
 have hnc55 := NB142_140.out
 have hnb56 := NB140_144.out
 have hnc56 := NB144_140.out
 have hcz57_0 := c1_ BK140 0 (.int .i64 a2)
 have hfz57_0 := f1_ BK140 0
 try go_wp2_with (first | ((with_reducible refine gate_callee (f := 45) rfl ?_); refine goesL_ (some 20) rfl rfl Try.func45 s2_ rfl #[.int .i64 a2] rfl s3_ ?_; (with_reducible refine (impl_isTick.calls a2 true _ A9.out).mono ?_); rintro e w' ⟨rfl, ⟨nd, rfl⟩⟩; refine ⟨_, rfl, ?_⟩; have hnb58 := NB141_139.out; have hnc58 := NB139_141.out; have hnb59 := NB141_142.out; have hnc59 := NB142_141.out; have hnb60 := NB141_144.out; have hnc60 := NB144_141.out; have hcz61_0 := c1_ BK141 0 (.int .i64 a3); have hfz61_0 := f1_ BK141 0) | (go_at_call 46; (with_reducible refine (impl_in.calls a3 1 1000 true _ A11.out).mono ?_); rintro e w' ⟨rfl, ⟨nd, rfl⟩⟩) | (go_at_call 45; (with_reducible refine (impl_isTick.calls (wrap64 (a2 + a3)) true _ A13.out).mono ?_); rintro e w' ⟨rfl, ⟨nd, rfl⟩⟩; have hcz62_0 := c1_ BK155 0 (.slice Ao39 t146.length co39); have hcz62_1 := c1_ BK155 1 (.slice Ao46 t149.length co46); have hcz62_2 := c1_ BK155 2 (.slice Ao47 t152.length co47); have hfz62_0 := f1_ BK155 0; have hfz62_1 := f1_ BK155 1; have hfz62_2 := f1_ BK155 2) | (go_at_call 19; (with_reducible refine (impl_ValidPresence.calls k _ _ t156 _ _ t149 _ _ t152 true _ ?side1 ?side2 ?side3 ?side4 ?side5 ?side6 A15.out).mono ?_); (case side1 => refine (Kd.R_reads' (e := 63) (base := w.heap.size) (ok := fun k_ => some k_ ≠ (.slice Ao46 t149.length co46 : Value).ownBlock) (n := t156.length) (c := co51) ?_).2.2; exact (by (with_reducible repeat (first | apply Kd.R_alloc | apply Kd.R_drewN | apply Kd.R_drew)); exact (Kd.R_mono (Kd.R_far (p := ⟨gb155, 0, none⟩) (Kd.R_types HO158.out BK155.out (by decide)) (fun _ hk => hk.2) (.slice Ao51 t156.length co51)) (fun _ h_ => h_.1)))); (case side2 => exact (Kd.R_reads' HO158.out).2.1); (case side3 => refine (Kd.R_reads' (e := 63) (base := w.heap.size) (ok := fun k_ => some k_ ≠ (.slice Ao51 t156.length co51 : Value).ownBlock) (n := t149.length) (c := co46) ?_).2.2; exact (by (with_reducible repeat (first | apply Kd.R_alloc | apply Kd.R_drewN | apply Kd.R_drew)); exact (Kd.R_mono (Kd.R_far (p := ⟨gb155, 0, none⟩) (Kd.R_types HO151.out BK155.out (by decide)) (fun _ hk => hk.2) (.slice Ao51 t156.length co51)) (fun _ h_ => h_.1)))); (case side4 => exact (Kd.R_reads' HO151.out).2.1); (case side5 => refine (Kd.R_reads' (e := 73) (base := w.heap.size) (ok := fun k_ => True) (n := t152.length) (c := co47) ?_).2.2; exact (by (with_reducible repeat (first | apply Kd.R_alloc | apply Kd.R_drewN | apply Kd.R_drew)); exact (Kd.R_mono (Kd.R_far (p := ⟨gb155, 0, none⟩) (Kd.R_types HO154.out BK155.out (by decide)) (fun _ hk => hk.2) (.slice Ao51 t156.length co51)) (fun _ h_ => h_.1)))); (case side6 => exact (Kd.R_reads' HO154.out).2.1); rintro e w63 ⟨rfl, hb⟩; replace HO151 := Aside0.mk (Kd.R_below (by (with_reducible repeat (first | apply Kd.R_alloc | apply Kd.R_drewN | apply Kd.R_drew)); exact (Kd.R_mono (Kd.R_far (p := ⟨gb155, 0, none⟩) (Kd.R_types HO151.out BK155.out (by decide)) (fun _ hk => hk.2) (.slice Ao51 t156.length co51)) (fun _ h_ => h_.1))) hb); replace HO154 := Aside0.mk (Kd.R_below (by (with_reducible repeat (first | apply Kd.R_alloc | apply Kd.R_drewN | apply Kd.R_drew)); exact (Kd.R_mono (Kd.R_far (p := ⟨gb155, 0, none⟩) (Kd.R_types HO154.out BK155.out (by decide)) (fun _ hk => hk.2) (.slice Ao51 t156.length co51)) (fun _ h_ => h_.1))) hb); replace HO158 := Aside0.mk (Kd.R_below (by (with_reducible repeat (first | apply Kd.R_alloc | apply Kd.R_drewN | apply Kd.R_drew)); exact (Kd.R_mono (Kd.R_far (p := ⟨gb155, 0, none⟩) (Kd.R_types HO158.out BK155.out (by decide)) (fun _ hk => hk.2) (.slice Ao51 t156.length co51)) (fun _ h_ => h_.1))) hb); replace BK139 := Aside0.mk (blk_below (g := gb139) (o := .cells #[.int .i64 a1] 2 (0, 0)) (by (with_reducible repeat (first | refine blk_drewN ?_ _ | refine blk_drew ?_ | refine blk_alloc ?_ _)); refine blk_far ?_ NB139_155.out _; (with_reducible repeat (first | refine blk_drewN ?_ _ | refine blk_drew ?_ | refine blk_alloc ?_ _)); exact BK139.out) hb); replace BK140 := Aside0.mk (blk_below (g := gb140) (o := .cells #[.int .i64 a2] 2 (0, 0)) (by (with_reducible repeat (first | refine blk_drewN ?_ _ | refine blk_drew ?_ | refine blk_alloc ?_ _)); refine blk_far ?_ NB140_155.out _; (with_reducible repeat (first | refine blk_drewN ?_ _ | refine blk_drew ?_ | refine blk_alloc ?_ _)); exact BK140.out) hb); replace BK141 := Aside0.mk (blk_below (g := gb141) (o := .cells #[.int .i64 a3] 2 (0, 0)) (by (with_reducible repeat (first | refine blk_drewN ?_ _ | refine blk_drew ?_ | refine blk_alloc ?_ _)); refine blk_far ?_ NB141_155.out _; (with_reducible repeat (first | refine blk_drewN ?_ _ | refine blk_drew ?_ | refine blk_alloc ?_ _)); exact BK141.out) hb); replace BK142 := Aside0.mk (blk_below (g := gb142) (o := .cells #[.slice none 0 0, .slice none 0 0, .slice none 0 0] 27 (0, 0)) (by (with_reducible repeat (first | refine blk_drewN ?_ _ | refine blk_drew ?_ | refine blk_alloc ?_ _)); refine blk_far ?_ NB142_155.out _; (with_reducible repeat (first | refine blk_drewN ?_ _ | refine blk_drew ?_ | refine blk_alloc ?_ _)); exact BK142.out) hb); replace BK144 := Aside0.mk (blk_below (g := gb144) (o := .cells #[.slice none 0 0, .slice none 0 0, .slice none 0 0] 27 (0, 0)) (by (with_reducible repeat (first | refine blk_drewN ?_ _ | refine blk_drew ?_ | refine blk_alloc ?_ _)); refine blk_far ?_ NB144_155.out _; (with_reducible repeat (first | refine blk_drewN ?_ _ | refine blk_drew ?_ | refine blk_alloc ?_ _)); exact BK144.out) hb); replace BK155 := Aside0.mk (blk_below (g := gb155) (o := .cells #[.slice Ao51 t156.length co51, .slice Ao46 t149.length co46, .slice Ao47 t152.length co47] 27 (0, 0)) (by (with_reducible repeat (first | refine blk_drewN ?_ _ | refine blk_drew ?_ | refine blk_alloc ?_ _)); refine blk_put (cs := #[.slice Ao39 t146.length co39, .slice Ao46 t149.length co46, .slice Ao47 t152.length co47]) ?_ 0 _ rfl; (with_reducible repeat (first | refine blk_drewN ?_ _ | refine blk_drew ?_ | refine blk_alloc ?_ _)); exact BK155.out) hb); replace HB := Aside0.mk (below_step (by repeat (first | (with_reducible first | exact HB.out | apply below_alloc | apply pw_below_drewN | apply below_drew1 | refine below_set ?_ GE155.out) | exact HB.out)) hb); (try clear hb); (try clear hb2); (try clear hk); (try clear hi); have hcz64_0 := c1_ BK155 0 (.slice Ao51 t156.length co51); have hcz64_1 := c1_ BK155 1 (.slice Ao46 t149.length co46); have hcz64_2 := c1_ BK155 2 (.slice Ao47 t152.length co47); have hfz64_0 := f1_ BK155 0; have hfz64_1 := f1_ BK155 1; have hfz64_2 := f1_ BK155 2; have hnb65 := NB144_142.out; have hnc65 := NB142_144.out; have hcz66_0 := c1_ BK144 0 (.slice none 0 0); have hcz66_1 := c1_ BK144 1 (.slice none 0 0); have hcz66_2 := c1_ BK144 2 (.slice none 0 0); have hfz66_0 := f1_ BK144 0; have hfz66_1 := f1_ BK144 1; have hfz66_2 := f1_ BK144 2))
 (try simp only [Exit.inBlock, Exit.then])
 refine bodyPost_ret (results_ct rfl _ _ gb144 27 #[.slice Ao51 t156.length co51, .slice Ao46 t149.length co46, .slice Ao47 t152.length co47] (0, 0) _ rfl (by (with_reducible repeat (first | refine blk_drewN ?_ _ | refine blk_drew ?_ | refine blk_alloc ?_ _)); refine blk_put3 (cs := #[.slice none 0 0, .slice none 0 0, .slice none 0 0]) ?_ rfl; (with_reducible repeat (first | refine blk_drewN ?_ _ | refine blk_drew ?_ | refine blk_alloc ?_ _)); exact BK144.out) Try.underlying27 rfl s2_) rfl ?_
 (try simp only [])
 have hcz67_0 := c1_ BK142 0 (.slice none 0 0)
 have hcz67_1 := c1_ BK142 1 (.slice none 0 0)
 have hcz67_2 := c1_ BK142 2 (.slice none 0 0)
 have hfz67_0 := f1_ BK142 0
 have hfz67_1 := f1_ BK142 1
 have hfz67_2 := f1_ BK142 2
 try go_wp2_with (fail)
 refine bodyPost_ret (results_ct rfl _ _ gb142 27 #[.slice Ao51 t156.length co51, .slice Ao46 t149.length co46, .slice Ao47 t152.length co47] (0, 0) _ rfl (by (with_reducible repeat (first | refine blk_drewN ?_ _ | refine blk_drew ?_ | refine blk_alloc ?_ _)); refine blk_put3 (cs := #[.slice none 0 0, .slice none 0 0, .slice none 0 0]) ?_ rfl; (with_reducible repeat (first | refine blk_drewN ?_ _ | refine blk_drew ?_ | refine blk_alloc ?_ _)); refine blk_far3 ?_ NB142_144.out; (with_reducible repeat (first | refine blk_drewN ?_ _ | refine blk_drew ?_ | refine blk_alloc ?_ _)); exact BK142.out) Try.underlying27 rfl s2_) rfl ?_
 exact ⟨_, _, _, by first | rfl | (simp [errW_none, errW_some] <;> rfl) | (simp [*, errW_none, errW_some] <;> rfl), by (with_reducible repeat (first | apply Kd.R_alloc | apply Kd.R_drewN | apply Kd.R_drew)); exact Kd.R_mono (Kd.R_far3 (g := gb142) (Kd.R_far3 (g := gb144) (Kd.R_types (Kd.R_types HO158.out BK144.out (by decide)) BK142.out (by decide)) (fun _ hk => hk.1.2)) (fun _ hk => hk.2)) (fun _ hk => hk.1.1), by (with_reducible repeat (first | apply Kd.R_alloc | apply Kd.R_drewN | apply Kd.R_drew)); exact Kd.R_mono (Kd.R_far3 (g := gb142) (Kd.R_far3 (g := gb144) (Kd.R_types (Kd.R_types HO151.out BK144.out (by decide)) BK142.out (by decide)) (fun _ hk => hk.1.2)) (fun _ hk => hk.2)) (fun _ hk => hk.1.1), by (with_reducible repeat (first | apply Kd.R_alloc | apply Kd.R_drewN | apply Kd.R_drew)); exact Kd.R_mono (Kd.R_far3 (g := gb142) (Kd.R_far3 (g := gb144) (Kd.R_types (Kd.R_types HO154.out BK144.out (by decide)) BK142.out (by decide)) (fun _ hk => hk.1.2)) (fun _ hk => hk.2)) (fun _ hk => trivial), by repeat (first | (with_reducible first | exact HB.out | apply below_alloc | apply pw_below_drewN | apply below_drew1 | refine below_set ?_ GE142.out | refine below_set ?_ GE144.out) | exact HB.out)⟩}
 {
 replace c16 := Bool.eq_false_iff.mpr c16
 subst c16
 have H1 : (some (([] : List (S63)), ([] : List (S63)), ([] : List (S73)), false)) = some (r1, r2, r3, r4) := by rw [if_neg (show ¬ (false = true) by decide)] at H; exact H
 clear H
 have H := H1
 clear H1
 simp only [Option.some.injEq, Prod.mk.injEq] at H
 obtain ⟨rfl, rfl, rfl, rfl⟩ := H
 go_enter Try.func14, Try.ntmps14
 try go_wp2_with (first | ((with_reducible refine gate_dst (N := 4) rfl ?_); (try (refine gate_guard (by rfl) ?_; dsimp only)); refine bx_ 4 #[.slice A0_0 l0_0.length c0_0, .slice A0_1 l0_1.length c0_1, .slice A0_2 l0_2.length c0_2] 27 ?_; intro gb138 hg w68 hbox hb; have GW138 := b6_ hg HB; have GE138 := b6_ hg HB; replace HB := Aside0.mk (below_step (y1_ HB.out) hb); have BK138 := Aside0.mk (hbox); clear hb hbox hg) | ((with_reducible refine gate_dst (N := 5) rfl ?_); (try (refine gate_guard (by rfl) ?_; dsimp only)); refine bx_ 5 #[.int .i64 a1] 2 ?_; intro gb139 hg w69 hbox hb; have GW139 := b6_ hg HB; have GE139 := b6_ hg HB; have NB138_139 := b4_ hg BK138; have NB139_138 := b5_ hg BK138; replace BK138 := b3_ BK138 hb; replace HB := Aside0.mk (below_step (y1_ HB.out) hb); have BK139 := Aside0.mk (hbox); clear hb hbox hg) | ((with_reducible refine gate_dst (N := 6) rfl ?_); (try (refine gate_guard (by rfl) ?_; dsimp only)); refine bx_ 6 #[.int .i64 a2] 2 ?_; intro gb140 hg w70 hbox hb; have GW140 := b6_ hg HB; have GE140 := b6_ hg HB; have NB138_140 := b4_ hg BK138; have NB140_138 := b5_ hg BK138; have NB139_140 := b4_ hg BK139; have NB140_139 := b5_ hg BK139; replace BK138 := b3_ BK138 hb; replace BK139 := b3_ BK139 hb; replace HB := Aside0.mk (below_step (y1_ HB.out) hb); have BK140 := Aside0.mk (hbox); clear hb hbox hg) | ((with_reducible refine gate_dst (N := 7) rfl ?_); (try (refine gate_guard (by rfl) ?_; dsimp only)); refine bx_ 7 #[.int .i64 a3] 2 ?_; intro gb141 hg w71 hbox hb; have GW141 := b6_ hg HB; have GE141 := b6_ hg HB; have NB138_141 := b4_ hg BK138; have NB141_138 := b5_ hg BK138; have NB139_141 := b4_ hg BK139; have NB141_139 := b5_ hg BK139; have NB140_141 := b4_ hg BK140; have NB141_140 := b5_ hg BK140; replace BK138 := b3_ BK138 hb; replace BK139 := b3_ BK139 hb; replace BK140 := b3_ BK140 hb; replace HB := Aside0.mk (below_step (y1_ HB.out) hb); have BK141 := Aside0.mk (hbox); clear hb hbox hg) | ((with_reducible refine gate_dst (N := 8) rfl ?_); (try (refine gate_guard (by rfl) ?_; dsimp only)); refine bx_ 8 #[.slice none 0 0, .slice none 0 0, .slice none 0 0] 27 ?_; intro gb142 hg w72 hbox hb; have GW142 := b6_ hg HB; have GE142 := b6_ hg HB; have NB138_142 := b4_ hg BK138; have NB142_138 := b5_ hg BK138; have NB139_142 := b4_ hg BK139; have NB142_139 := b5_ hg BK139; have NB140_142 := b4_ hg BK140; have NB142_140 := b5_ hg BK140; have NB141_142 := b4_ hg BK141; have NB142_141 := b5_ hg BK141; replace BK138 := b3_ BK138 hb; replace BK139 := b3_ BK139 hb; replace BK140 := b3_ BK140 hb; replace BK141 := b3_ BK141 hb; replace HB := Aside0.mk (below_step (y1_ HB.out) hb); have BK142 := Aside0.mk (hbox); clear hb hbox hg; have hnb73 := NB138_139.out; have hnc73 := NB139_138.out; have hnb74 := NB138_140.out; have hnc74 := NB140_138.out; have hnb75 := NB138_141.out; have hnc75 := NB141_138.out; have hnb76 := NB138_142.out; have hnc76 := NB142_138.out; have hcz77_0 := c1_ BK138 0 (.slice A0_0 l0_0.length c0_0); have hcz77_1 := c1_ BK138 1 (.slice A0_1 l0_1.length c0_1); have hcz77_2 := c1_ BK138 2 (.slice A0_2 l0_2.length c0_2); have hfz77_0 := f1_ BK138 0; have hfz77_1 := f1_ BK138 1; have hfz77_2 := f1_ BK138 2))
 go_at_call 42
 go_in
 try go_wp2_with (first | ((with_reducible refine gate_dst (N := 2) rfl ?_); (try (refine gate_guard (by rfl) ?_; dsimp only)); refine bx_ 2 #[.slice A0_0 l0_0.length c0_0, .slice A0_1 l0_1.length c0_1, .slice A0_2 l0_2.length c0_2] 27 ?_; intro gb143 hg w78 hbox hb; have GW143 := b6_ hg HB; have GE143 := b6_ hg HB; have NB139_143 := b4_ hg BK139; have NB143_139 := b5_ hg BK139; have NB140_143 := b4_ hg BK140; have NB143_140 := b5_ hg BK140; have NB141_143 := b4_ hg BK141; have NB143_141 := b5_ hg BK141; have NB142_143 := b4_ hg BK142; have NB143_142 := b5_ hg BK142; replace BK139 := b3_ BK139 hb; replace BK140 := b3_ BK140 hb; replace BK141 := b3_ BK141 hb; replace BK142 := b3_ BK142 hb; replace HB := Aside0.mk (below_step (y1_ HB.out) hb); have BK143 := Aside0.mk (hbox); clear hb hbox hg) | ((with_reducible refine gate_dst (N := 4) rfl ?_); (try (refine gate_guard (by rfl) ?_; dsimp only)); refine bx_ 4 #[.slice none 0 0, .slice none 0 0, .slice none 0 0] 27 ?_; intro gb144 hg w79 hbox hb; have GW144 := b6_ hg HB; have GE144 := b6_ hg HB; have NB139_144 := b4_ hg BK139; have NB144_139 := b5_ hg BK139; have NB140_144 := b4_ hg BK140; have NB144_140 := b5_ hg BK140; have NB141_144 := b4_ hg BK141; have NB144_141 := b5_ hg BK141; have NB142_144 := b4_ hg BK142; have NB144_142 := b5_ hg BK142; have NB143_144 := b4_ hg BK143; have NB144_143 := b5_ hg BK143; replace BK139 := b3_ BK139 hb; replace BK140 := b3_ BK140 hb; replace BK141 := b3_ BK141 hb; replace BK142 := b3_ BK142 hb; replace BK143 := b3_ BK143 hb; replace HB := Aside0.mk (below_step (y1_ HB.out) hb); have BK144 := Aside0.mk (hbox); clear hb hbox hg; have hnb80 := NB143_139.out; have hnc80 := NB139_143.out; have hnb81 := NB143_140.out; have hnc81 := NB140_143.out; have hnb82 := NB143_141.out; have hnc82 := NB141_143.out; have hnb83 := NB143_142.out; have hnc83 := NB142_143.out; have hnb84 := NB143_144.out; have hnc84 := NB144_143.out; have hcz85_0 := c1_ BK143 0 (.slice A0_0 l0_0.length c0_0); have hcz85_1 := c1_ BK143 1 (.slice A0_1 l0_1.length c0_1); have hcz85_2 := c1_ BK143 2 (.slice A0_2 l0_2.length c0_2); have hfz85_0 := f1_ BK143 0; have hfz85_1 := f1_ BK143 1; have hfz85_2 := f1_ BK143 2) | ((with_reducible refine gate_callee (f := 19) rfl ?_); refine goesL_ (some 8) rfl rfl Try.func19 s2_ rfl #[.agg #[.slice A0_0 l0_0.length c0_0, .slice A0_1 l0_1.length c0_1, .slice A0_2 l0_2.length c0_2]] rfl s3_ ?_; (with_reducible refine (impl_ValidPresence.calls k _ _ l0_0 _ _ l0_1 _ _ l0_2 true _ ?side1 ?side2 ?side3 ?side4 ?side5 ?side6 A5.out).mono ?_); (case side1 => exact y2_ (Kd.C_below HR0_0.out HB.out)); (case side2 => exact HC0_0.out); (case side3 => exact y2_ (Kd.C_below HR0_1.out HB.out)); (case side4 => exact HC0_1.out); (case side5 => exact y2_ (Kd.C_below HR0_2.out HB.out)); (case side6 => exact HC0_2.out); rintro e w86 ⟨rfl, hb⟩; refine ⟨_, rfl, ?_⟩; replace BK139 := b3_ BK139 hb; replace BK140 := b3_ BK140 hb; replace BK141 := b3_ BK141 hb; replace BK142 := b3_ BK142 hb; replace BK143 := b3_ BK143 hb; replace BK144 := b3_ BK144 hb; replace HB := Aside0.mk (below_step (y1_ HB.out) hb); (try clear hb); (try clear hb2); (try clear hk); (try clear hi); have hcz87_0 := c1_ BK143 0 (.slice A0_0 l0_0.length c0_0); have hcz87_1 := c1_ BK143 1 (.slice A0_1 l0_1.length c0_1); have hcz87_2 := c1_ BK143 2 (.slice A0_2 l0_2.length c0_2); have hfz87_0 := f1_ BK143 0; have hfz87_1 := f1_ BK143 1; have hfz87_2 := f1_ BK143 2) | ((with_reducible refine gate_callee (f := 90) rfl ?_); refine goesL_ (some 12) rfl rfl Try.func90 s2_ rfl #[.agg #[.slice A0_0 l0_0.length c0_0, .slice A0_1 l0_1.length c0_1, .slice A0_2 l0_2.length c0_2]] rfl s3_ ?_; (with_reducible refine (impl_clonePresence.calls _ _ l0_0 _ _ l0_1 _ _ l0_2 t146 t149 t152 _ ?side1 ?side2 ?side3 ?side4 ?side5 ?side6 A7.out).mono ?_); (case side1 => exact y2_ (Kd.C_below HR0_0.out HB.out)); (case side2 => exact HC0_0.out); (case side3 => exact y2_ (Kd.C_below HR0_1.out HB.out)); (case side4 => exact HC0_1.out); (case side5 => exact y2_ (Kd.C_below HR0_2.out HB.out)); (case side6 => exact HC0_2.out); rintro e w88 ⟨v147, v150, v153, rfl, ho0, ho1, ho2, hb⟩; refine ⟨_, rfl, ?_⟩; have HO148 := Aside0.mk (Kd.R_lower ho0 (below_size (y1_ HB.out))); have HO151 := Aside0.mk (Kd.R_lower ho1 (below_size (y1_ HB.out))); have HO154 := Aside0.mk (Kd.R_lower ho2 (below_size (y1_ HB.out))); replace BK139 := b3_ BK139 hb; replace BK140 := b3_ BK140 hb; replace BK141 := b3_ BK141 hb; replace BK142 := b3_ BK142 hb; replace BK144 := b3_ BK144 hb; replace HB := Aside0.mk (below_step (y1_ HB.out) hb); (try clear hb); (try clear hb2); (try clear hk); (try clear hi); (try clear ho0); (try clear ho1); (try clear ho2)) | ((with_reducible refine gate_dst (N := 6) rfl ?_); (try (refine gate_guard (by rfl) ?_; dsimp only)); refine bx_ 6 #[.slice none 0 0, .slice none 0 0, .slice none 0 0] 27 ?_; intro gb155 hg w89 hbox hb; have GW155 := b6_ hg HB; have GE155 := b6_ hg HB; have NB139_155 := b4_ hg BK139; have NB155_139 := b5_ hg BK139; have NB140_155 := b4_ hg BK140; have NB155_140 := b5_ hg BK140; have NB141_155 := b4_ hg BK141; have NB155_141 := b5_ hg BK141; have NB142_155 := b4_ hg BK142; have NB155_142 := b5_ hg BK142; have NB144_155 := b4_ hg BK144; have NB155_144 := b5_ hg BK144; replace HO148 := r1_ HO148 hb; replace HO151 := r1_ HO151 hb; replace HO154 := r1_ HO154 hb; replace BK139 := b3_ BK139 hb; replace BK140 := b3_ BK140 hb; replace BK141 := b3_ BK141 hb; replace BK142 := b3_ BK142 hb; replace BK144 := b3_ BK144 hb; replace HB := Aside0.mk (below_step (y1_ HB.out) hb); have BK155 := Aside0.mk (hbox); clear hb hbox hg; obtain ⟨Ao90, co90, eo90⟩ := Kd.R_slice HO148.out; subst eo90; have hnb91 := NB155_139.out; have hnc91 := NB139_155.out; have hnb92 := NB155_140.out; have hnc92 := NB140_155.out; have hnb93 := NB155_141.out; have hnc93 := NB141_155.out; have hnb94 := NB155_142.out; have hnc94 := NB142_155.out; have hnb95 := NB155_144.out; have hnc95 := NB144_155.out; have hcz96_0 := c1_ BK155 0 (.slice none 0 0); have hcz96_1 := c1_ BK155 1 (.slice none 0 0); have hcz96_2 := c1_ BK155 2 (.slice none 0 0); have hfz96_0 := f1_ BK155 0; have hfz96_1 := f1_ BK155 1; have hfz96_2 := f1_ BK155 2; obtain ⟨Ao97, co97, eo97⟩ := Kd.R_slice HO151.out; subst eo97; obtain ⟨Ao98, co98, eo98⟩ := Kd.R_slice HO154.out; subst eo98))
 go_at_call 43
 go_in
 try go_wp2_with (fail)
 have n0_ : Aside0 (Kd.R k63 63 (((w89.setCell ⟨gb155, 0, none⟩ (.slice Ao90 t146.length co90)).setCell ⟨gb155, 1, none⟩ (.slice Ao97 t149.length co97)).setCell ⟨gb155, 2, none⟩ (.slice Ao98 t152.length co98)) w.heap.size (fun k_ => some k_ ≠ (.slice Ao97 t149.length co97 : Value).ownBlock) (.slice Ao90 t146.length co90) t146) := ⟨by (with_reducible repeat (first | apply Kd.R_alloc | apply Kd.R_drewN | apply Kd.R_drew)); exact Kd.R_mono (Kd.R_far3 (g := gb155) (Kd.R_types HO148.out BK155.out (by decide)) (fun _ hk => hk.2)) (fun _ hk => hk.1)⟩
 have n1_ : Aside0 (Kd.R k63 63 (((w89.setCell ⟨gb155, 0, none⟩ (.slice Ao90 t146.length co90)).setCell ⟨gb155, 1, none⟩ (.slice Ao97 t149.length co97)).setCell ⟨gb155, 2, none⟩ (.slice Ao98 t152.length co98)) w.heap.size (fun k_ => some k_ ≠ (.slice Ao90 t146.length co90 : Value).ownBlock) (.slice Ao97 t149.length co97) t149) := ⟨by (with_reducible repeat (first | apply Kd.R_alloc | apply Kd.R_drewN | apply Kd.R_drew)); exact Kd.R_mono (Kd.R_far3 (g := gb155) (Kd.R_types HO151.out BK155.out (by decide)) (fun _ hk => hk.2)) (fun _ hk => hk.1)⟩
 have n2_ : Aside0 (Kd.R k73 73 (((w89.setCell ⟨gb155, 0, none⟩ (.slice Ao90 t146.length co90)).setCell ⟨gb155, 1, none⟩ (.slice Ao97 t149.length co97)).setCell ⟨gb155, 2, none⟩ (.slice Ao98 t152.length co98)) w.heap.size (fun _ => True) (.slice Ao98 t152.length co98) t152) := ⟨by (with_reducible repeat (first | apply Kd.R_alloc | apply Kd.R_drewN | apply Kd.R_drew)); exact Kd.R_mono (Kd.R_far3 (g := gb155) (Kd.R_types HO154.out BK155.out (by decide)) (fun _ hk => hk.2)) (fun _ hk => trivial)⟩
 have n3_ : Aside0 ((((w89.setCell ⟨gb155, 0, none⟩ (.slice Ao90 t146.length co90)).setCell ⟨gb155, 1, none⟩ (.slice Ao97 t149.length co97)).setCell ⟨gb155, 2, none⟩ (.slice Ao98 t152.length co98)).heap[gb139]? = some (.cells #[.int .i64 a1] 2 (0, 0))) := ⟨by (with_reducible repeat (first | refine blk_drewN ?_ _ | refine blk_drew ?_ | refine blk_alloc ?_ _)); refine blk_far3 ?_ NB139_155.out; (with_reducible repeat (first | refine blk_drewN ?_ _ | refine blk_drew ?_ | refine blk_alloc ?_ _)); exact BK139.out⟩
 have n4_ : Aside0 ((((w89.setCell ⟨gb155, 0, none⟩ (.slice Ao90 t146.length co90)).setCell ⟨gb155, 1, none⟩ (.slice Ao97 t149.length co97)).setCell ⟨gb155, 2, none⟩ (.slice Ao98 t152.length co98)).heap[gb140]? = some (.cells #[.int .i64 a2] 2 (0, 0))) := ⟨by (with_reducible repeat (first | refine blk_drewN ?_ _ | refine blk_drew ?_ | refine blk_alloc ?_ _)); refine blk_far3 ?_ NB140_155.out; (with_reducible repeat (first | refine blk_drewN ?_ _ | refine blk_drew ?_ | refine blk_alloc ?_ _)); exact BK140.out⟩
 have n5_ : Aside0 ((((w89.setCell ⟨gb155, 0, none⟩ (.slice Ao90 t146.length co90)).setCell ⟨gb155, 1, none⟩ (.slice Ao97 t149.length co97)).setCell ⟨gb155, 2, none⟩ (.slice Ao98 t152.length co98)).heap[gb141]? = some (.cells #[.int .i64 a3] 2 (0, 0))) := ⟨by (with_reducible repeat (first | refine blk_drewN ?_ _ | refine blk_drew ?_ | refine blk_alloc ?_ _)); refine blk_far3 ?_ NB141_155.out; (with_reducible repeat (first | refine blk_drewN ?_ _ | refine blk_drew ?_ | refine blk_alloc ?_ _)); exact BK141.out⟩
 have n6_ : Aside0 ((((w89.setCell ⟨gb155, 0, none⟩ (.slice Ao90 t146.length co90)).setCell ⟨gb155, 1, none⟩ (.slice Ao97 t149.length co97)).setCell ⟨gb155, 2, none⟩ (.slice Ao98 t152.length co98)).heap[gb142]? = some (.cells #[.slice none 0 0, .slice none 0 0, .slice none 0 0] 27 (0, 0))) := ⟨by (with_reducible repeat (first | refine blk_drewN ?_ _ | refine blk_drew ?_ | refine blk_alloc ?_ _)); refine blk_far3 ?_ NB142_155.out; (with_reducible repeat (first | refine blk_drewN ?_ _ | refine blk_drew ?_ | refine blk_alloc ?_ _)); exact BK142.out⟩
 have n7_ : Aside0 ((((w89.setCell ⟨gb155, 0, none⟩ (.slice Ao90 t146.length co90)).setCell ⟨gb155, 1, none⟩ (.slice Ao97 t149.length co97)).setCell ⟨gb155, 2, none⟩ (.slice Ao98 t152.length co98)).heap[gb144]? = some (.cells #[.slice none 0 0, .slice none 0 0, .slice none 0 0] 27 (0, 0))) := ⟨by (with_reducible repeat (first | refine blk_drewN ?_ _ | refine blk_drew ?_ | refine blk_alloc ?_ _)); refine blk_far3 ?_ NB144_155.out; (with_reducible repeat (first | refine blk_drewN ?_ _ | refine blk_drew ?_ | refine blk_alloc ?_ _)); exact BK144.out⟩
 have n8_ : Aside0 ((((w89.setCell ⟨gb155, 0, none⟩ (.slice Ao90 t146.length co90)).setCell ⟨gb155, 1, none⟩ (.slice Ao97 t149.length co97)).setCell ⟨gb155, 2, none⟩ (.slice Ao98 t152.length co98)).heap[gb155]? = some (.cells #[.slice Ao90 t146.length co90, .slice Ao97 t149.length co97, .slice Ao98 t152.length co98] 27 (0, 0))) := ⟨by (with_reducible repeat (first | refine blk_drewN ?_ _ | refine blk_drew ?_ | refine blk_alloc ?_ _)); refine blk_put3 (cs := #[.slice none 0 0, .slice none 0 0, .slice none 0 0]) ?_ rfl; (with_reducible repeat (first | refine blk_drewN ?_ _ | refine blk_drew ?_ | refine blk_alloc ?_ _)); exact BK155.out⟩
 have n9_ : Aside0 (Below w.heap.size w (((w89.setCell ⟨gb155, 0, none⟩ (.slice Ao90 t146.length co90)).setCell ⟨gb155, 1, none⟩ (.slice Ao97 t149.length co97)).setCell ⟨gb155, 2, none⟩ (.slice Ao98 t152.length co98))) := ⟨by repeat (first | (with_reducible first | exact HB.out | apply below_alloc | apply pw_below_drewN | apply below_drew1 | refine below_set ?_ GE155.out) | exact HB.out)⟩
 (try clear HO148)
 (try clear HO151)
 (try clear HO154)
 (try clear BK139)
 (try clear BK140)
 (try clear BK141)
 (try clear BK142)
 (try clear BK144)
 (try clear BK155)
 (try clear HB)
 generalize (((w89.setCell ⟨gb155, 0, none⟩ (.slice Ao90 t146.length co90)).setCell ⟨gb155, 1, none⟩ (.slice Ao97 t149.length co97)).setCell ⟨gb155, 2, none⟩ (.slice Ao98 t152.length co98)) = w99 at n0_ n1_ n2_ n3_ n4_ n5_ n6_ n7_ n8_ n9_ ⊢
 have HO148 := n0_
 have HO151 := n1_
 have HO154 := n2_
 have BK139 := n3_
 have BK140 := n4_
 have BK141 := n5_
 have BK142 := n6_
 have BK144 := n7_
 have BK155 := n8_
 have HB := n9_
 clear n0_ n1_ n2_ n3_ n4_ n5_ n6_ n7_ n8_ n9_
 replace HO148 := Aside0.mk (Kd.R_drew HO148.out)
 replace HO151 := Aside0.mk (Kd.R_drew HO151.out)
 replace HO154 := Aside0.mk (Kd.R_drew HO154.out)
 replace BK139 := Aside0.mk (blk_drew BK139.out)
 replace BK140 := Aside0.mk (blk_drew BK140.out)
 replace BK141 := Aside0.mk (blk_drew BK141.out)
 replace BK142 := Aside0.mk (blk_drew BK142.out)
 replace BK144 := Aside0.mk (blk_drew BK144.out)
 replace BK155 := Aside0.mk (blk_drew BK155.out)
 replace HB := Aside0.mk (below_drew1 HB.out)
 refine start_ (n := 14) (S := fun w' => w'.cell? ⟨gb155, 0, none⟩ = some (.slice Ao90 t146.length co90) ∧ w'.cell? ⟨gb155, 1, none⟩ = some (.slice Ao97 t149.length co97) ∧ w'.cell? ⟨gb155, 2, none⟩ = some (.slice Ao98 t152.length co98) ∧ w'.cell? ⟨gb139, 0, none⟩ = some (.int .i64 a1) ∧ w'.cell? ⟨gb140, 0, none⟩ = some (.int .i64 a2) ∧ w'.cell? ⟨gb141, 0, none⟩ = some (.int .i64 a3)) (ds := [13]) m0_ s2_ rfl rfl ⟨(blk_cell BK155.out 0).trans rfl, (blk_cell BK155.out 1).trans rfl, (blk_cell BK155.out 2).trans rfl, (blk_cell BK139.out 0).trans rfl, (blk_cell BK140.out 0).trans rfl, (blk_cell BK141.out 0).trans rfl⟩ (fun hHeld => ?_)
 generalize w99.drew = w100 at HO148 HO151 HO154 BK139 BK140 BK141 BK142 BK144 BK155 HB HO148 HO151 HO154 hHeld ⊢
 refine pure_ (i := 0) (N := some 6) (v := ?_) (a' := ?_) m1_ rfl rfl s2_ (fun _ _ _ h => h) (Or.inl ⟨by rfl, ?_⟩) ?_ ?_
 rotate_left
 {
 intro w'
 go_simp
 with_reducible rfl}
 rotate_left
 · exact p1_
 refine pure_ (i := 1) (N := some 7) (v := ?_) (a' := ?_) m2_ rfl rfl s2_ (fun _ _ _ h => h) (Or.inl ⟨by rfl, ?_⟩) ?_ ?_
 rotate_left
 {
 intro w'
 go_simp
 with_reducible rfl}
 rotate_left
 · exact p1_
 refine pure_ (i := 2) (N := some 8) (v := ?_) (a' := ?_) m3_ rfl rfl s2_ (fun _ _ _ h => h) (Or.inl ⟨by rfl, ?_⟩) ?_ ?_
 rotate_left
 {
 intro w'
 go_simp
 with_reducible rfl}
 rotate_left
 · exact p1_
 refine pure_ (i := 3) (N := some 9) (v := ?_) (a' := ?_) m4_ rfl rfl s2_ (fun _ _ _ h => h) (Or.inl ⟨by rfl, ?_⟩) ?_ ?_
 rotate_left
 {
 intro w'
 go_simp
 with_reducible rfl}
 rotate_left
 · exact p1_
 refine take_ (i := 4) (N := some 10) (v := ?_) (a' := ?_) m5_ rfl rfl s2_ (fun _ _ _ h => h) (Or.inl ⟨by rfl, ?_⟩) hHeld ?_ ?_
 rotate_left
 {
 rintro w' ⟨s0, s1, s2, s3, s4, s5⟩
 go_simp
 with_reducible rfl}
 rotate_left
 · exact p1_
 refine take_ (i := 5) (N := some 11) (v := ?_) (a' := ?_) m6_ rfl rfl s2_ (fun _ _ _ h => h) (Or.inl ⟨by rfl, ?_⟩) hHeld ?_ ?_
 rotate_left
 {
 rintro w' ⟨s0, s1, s2, s3, s4, s5⟩
 go_simp
 with_reducible rfl}
 rotate_left
 · exact p1_
 refine take_ (i := 6) (N := some 12) (v := ?_) (a' := ?_) m7_ rfl rfl s2_ (fun _ _ _ h => h) (Or.inl ⟨by rfl, ?_⟩) hHeld ?_ ?_
 rotate_left
 {
 rintro w' ⟨s0, s1, s2, s3, s4, s5⟩
 go_simp
 with_reducible rfl}
 rotate_left
 · exact p1_
 refine take_ (i := 7) (N := some 13) (v := ?_) (a' := ?_) m8_ rfl rfl s2_ (fun _ _ _ h => h) (Or.inl ⟨by rfl, ?_⟩) hHeld ?_ ?_
 rotate_left
 {
 rintro w' ⟨s0, s1, s2, s3, s4, s5⟩
 go_simp
 with_reducible rfl}
 rotate_left
 · exact p1_
 refine pure_ (i := 8) (N := some 14) (v := ?_) (a' := ?_) m9_ rfl rfl s2_ (fun _ _ _ h => h) (Or.inl ⟨by rfl, ?_⟩) ?_ ?_
 rotate_left
 {
 intro w'
 go_simp
 with_reducible rfl}
 rotate_left
 · exact p1_
 refine pure_ (i := 9) (N := some 15) (v := ?_) (a' := ?_) m10_ rfl rfl s2_ (fun _ _ _ h => h) (Or.inl ⟨by rfl, ?_⟩) ?_ ?_
 rotate_left
 {
 intro w'
 go_simp
 with_reducible rfl}
 rotate_left
 · exact p1_
 refine one_ (i := 10) (N := some 16) m11_ rfl rfl s2_ (by decide) (fun K hK => ?_)
 refine goes_ Try.func44 s2_ rfl #[.slice Ao90 t146.length co90, .agg #[.int .i64 a1, .int .i64 (wrap64 (a2 + a3))]] (by rfl) rfl rfl s3_ ?_
 with_reducible refine (impl_leased_n44.calls k (fun k_ => some k_ = (.slice Ao90 t146.length co90 : Value).ownBlock) (.slice Ao90 t146.length co90) t146 a1 (wrap64 (a2 + a3)) t156 w _ ?side1 ?side2 A8.out).mono ?_
 (case side1 => repeat (first | (with_reducible first | exact HB.out | apply below_alloc | apply pw_below_drewN | apply below_drew1) | exact HB.out))
 (case side2 => exact Kd.R_tight rfl HO148.out)
 rintro e w101 ⟨v157, rfl, ho0, hb, hkp⟩
 refine ⟨_, rfl, ?_⟩
 have n0_ := Aside0.mk (blk_kept (b1_ BK139.out) hkp (fun hs_ => (fun e_ => (Kd.R_ne HO148.out BK139.out (by decide)) e_) hs_))
 have n1_ := Aside0.mk (blk_kept (b1_ BK140.out) hkp (fun hs_ => (fun e_ => (Kd.R_ne HO148.out BK140.out (by decide)) e_) hs_))
 have n2_ := Aside0.mk (blk_kept (b1_ BK141.out) hkp (fun hs_ => (fun e_ => (Kd.R_ne HO148.out BK141.out (by decide)) e_) hs_))
 have n3_ := Aside0.mk (blk_kept (b1_ BK142.out) hkp (fun hs_ => (fun e_ => (Kd.R_ne HO148.out BK142.out (by decide)) e_) hs_))
 have n4_ := Aside0.mk (blk_kept (b1_ BK144.out) hkp (fun hs_ => (fun e_ => (Kd.R_ne HO148.out BK144.out (by decide)) e_) hs_))
 have n5_ := Aside0.mk (Kd.R_mono (ok' := fun k_ => some k_ ≠ (v157 : Value).ownBlock) (Kd.R_keptB (HO151.out) hkp (fun k_ hk_ hs_ => (hk_) hs_)) (fun k_ hk_ => fun e_ => Or.elim (ho0.1 k_ e_.symm) (fun hs_ => hk_.2.1 hs_) (fun hn_ => Nat.not_le.2 hk_.2.2 hn_)))
 have n6_ := Aside0.mk (Kd.R_mono (ok' := fun k_ => True) (Kd.R_keptB ((Kd.R_apart' HO154.out (Kd.R_typed HO148.out) (by decide))) hkp (fun k_ hk_ hs_ => (hk_.2) hs_)) (fun k_ hk_ => trivial))
 have n7_ := Aside0.mk (blk_kept (b1_ BK155.out) hkp (fun hs_ => (fun e_ => (Kd.R_ne HO148.out BK155.out (by decide)) e_) hs_))
 have n8_ := Aside0.mk (Kd.R_mono (ok' := fun k_ => some k_ ≠ (.slice Ao97 t149.length co97 : Value).ownBlock) ho0 (fun k_ hk_ => Or.elim hk_ (fun hs_ => fun e_ => (((HO151.out).1 k_ e_.symm)) hs_) (fun hn_ => (Kd.fresh' (Kd.R_lt (b2_ HO151.out)) k_ hn_))))
 have n9_ := Aside0.mk (hb)
 clear BK139
 clear BK140
 clear BK141
 clear BK142
 clear BK144
 clear HO151
 clear HO154
 clear BK155
 clear HB
 clear HO148
 have BK139 := n0_
 have BK140 := n1_
 have BK141 := n2_
 have BK142 := n3_
 have BK144 := n4_
 have HO151 := n5_
 have HO154 := n6_
 have BK155 := n7_
 have HO158 := n8_
 have HB := n9_
 clear n0_ n1_ n2_ n3_ n4_ n5_ n6_ n7_ n8_ n9_
 (try clear hb)
 (try clear hkp)
 (try clear ho0)
 obtain ⟨Ao102, co102, eo102⟩ := Kd.R_slice HO158.out
 (first | subst eo102 | (injection eo102 with f1_ f2_ f3_; have f4_ := f1_.symm; have f5_ := f3_.symm; clear f1_ f2_ f3_; subst f4_; subst f5_))
 refine hK.out _ _ ⟨(blk_cell BK155.out 0).trans rfl, (blk_cell BK155.out 1).trans rfl, (blk_cell BK155.out 2).trans rfl, (blk_cell BK139.out 0).trans rfl, (blk_cell BK140.out 0).trans rfl, (blk_cell BK141.out 0).trans rfl⟩ (fun hHeld => ?_)
 clear hK K
 refine norm_ (a' := ?_) ?_ ?_
 rotate_left
 {
 show Act.put _ (some 16) _ = _
 simp only [Act.put, List.setIfInBounds_toArray, List.set_cons_zero, List.set_cons_succ, i64_w, i32_w]
 rfl}
 refine pure_ (i := 11) (N := some 17) (v := ?_) (a' := ?_) m12_ rfl rfl s2_ (fun _ _ _ h => h) (Or.inl ⟨by rfl, ?_⟩) ?_ ?_
 rotate_left
 {
 intro w'
 go_simp
 with_reducible rfl}
 rotate_left
 · exact p1_
 refine pure_ (i := 12) (N := some 18) (v := ?_) (a' := ?_) m13_ rfl rfl s2_ (fun _ _ _ h => h) (Or.inl ⟨by rfl, ?_⟩) ?_ ?_
 rotate_left
 {
 intro w'
 go_simp
 with_reducible rfl}
 rotate_left
 · exact p1_
 refine last_ (i := 13) (N := none) m14_ rfl rfl s2_ (by decide) (fun K hK => ?_)
 have hs103 : w101.cell? ⟨gb155, 0, none⟩ = some (.slice Ao90 t146.length co90) := (blk_cell BK155.out 0).trans rfl
 have hfs103 := blk_frozen BK155.out 0
 have hns103_0 := NB139_155.out
 have hns103_1 := NB140_155.out
 have hns103_2 := NB141_155.out
 have hns103_3 := NB142_155.out
 have hns103_4 := NB144_155.out
 have hms103_0 := NB155_139.out
 have hms103_1 := NB155_140.out
 have hms103_2 := NB155_141.out
 have hms103_3 := NB155_142.out
 have hms103_4 := NB155_144.out
 refine skip_ (w1 := ?_) (by rfl) rfl ?_ ?_
 rotate_left
 {
 go_simp
 rfl}
 refine hK.out _ _ ?_
 clear hK K
 refine done_ s2_ ?_
 have hnb104 := NB140_139.out
 have hnc104 := NB139_140.out
 have hnb105 := NB140_141.out
 have hnc105 := NB141_140.out
 have hnb106 := NB140_142.out
 have hnc106 := NB142_140.out
 have hnb107 := NB140_144.out
 have hnc107 := NB144_140.out
 have hcz108_0 := c1_ BK140 0 (.int .i64 a2)
 have hfz108_0 := f1_ BK140 0
 try go_wp2_with (first | ((with_reducible refine gate_callee (f := 45) rfl ?_); refine goesL_ (some 20) rfl rfl Try.func45 s2_ rfl #[.int .i64 a2] rfl s3_ ?_; (with_reducible refine (impl_isTick.calls a2 true _ A9.out).mono ?_); rintro e w' ⟨rfl, ⟨nd, rfl⟩⟩; refine ⟨_, rfl, ?_⟩; have hnb109 := NB141_139.out; have hnc109 := NB139_141.out; have hnb110 := NB141_142.out; have hnc110 := NB142_141.out; have hnb111 := NB141_144.out; have hnc111 := NB144_141.out; have hcz112_0 := c1_ BK141 0 (.int .i64 a3); have hfz112_0 := f1_ BK141 0) | (go_at_call 46; (with_reducible refine (impl_in.calls a3 1 1000 true _ A11.out).mono ?_); rintro e w' ⟨rfl, ⟨nd, rfl⟩⟩) | (go_at_call 45; (with_reducible refine (impl_isTick.calls (wrap64 (a2 + a3)) true _ A13.out).mono ?_); rintro e w' ⟨rfl, ⟨nd, rfl⟩⟩; have hcz113_0 := c1_ BK155 0 (.slice Ao90 t146.length co90); have hcz113_1 := c1_ BK155 1 (.slice Ao97 t149.length co97); have hcz113_2 := c1_ BK155 2 (.slice Ao98 t152.length co98); have hfz113_0 := f1_ BK155 0; have hfz113_1 := f1_ BK155 1; have hfz113_2 := f1_ BK155 2) | (go_at_call 19; (with_reducible refine (impl_ValidPresence.calls k _ _ t156 _ _ t149 _ _ t152 false _ ?side1 ?side2 ?side3 ?side4 ?side5 ?side6 A15.out).mono ?_); (case side1 => refine (Kd.R_reads' (e := 63) (base := w.heap.size) (ok := fun k_ => some k_ ≠ (.slice Ao97 t149.length co97 : Value).ownBlock) (n := t156.length) (c := co102) ?_).2.2; exact (by (with_reducible repeat (first | apply Kd.R_alloc | apply Kd.R_drewN | apply Kd.R_drew)); exact (Kd.R_mono (Kd.R_far (p := ⟨gb155, 0, none⟩) (Kd.R_types HO158.out BK155.out (by decide)) (fun _ hk => hk.2) (.slice Ao102 t156.length co102)) (fun _ h_ => h_.1)))); (case side2 => exact (Kd.R_reads' HO158.out).2.1); (case side3 => refine (Kd.R_reads' (e := 63) (base := w.heap.size) (ok := fun k_ => some k_ ≠ (.slice Ao102 t156.length co102 : Value).ownBlock) (n := t149.length) (c := co97) ?_).2.2; exact (by (with_reducible repeat (first | apply Kd.R_alloc | apply Kd.R_drewN | apply Kd.R_drew)); exact (Kd.R_mono (Kd.R_far (p := ⟨gb155, 0, none⟩) (Kd.R_types HO151.out BK155.out (by decide)) (fun _ hk => hk.2) (.slice Ao102 t156.length co102)) (fun _ h_ => h_.1)))); (case side4 => exact (Kd.R_reads' HO151.out).2.1); (case side5 => refine (Kd.R_reads' (e := 73) (base := w.heap.size) (ok := fun k_ => True) (n := t152.length) (c := co98) ?_).2.2; exact (by (with_reducible repeat (first | apply Kd.R_alloc | apply Kd.R_drewN | apply Kd.R_drew)); exact (Kd.R_mono (Kd.R_far (p := ⟨gb155, 0, none⟩) (Kd.R_types HO154.out BK155.out (by decide)) (fun _ hk => hk.2) (.slice Ao102 t156.length co102)) (fun _ h_ => h_.1)))); (case side6 => exact (Kd.R_reads' HO154.out).2.1); rintro e w114 ⟨rfl, hb⟩; replace HO151 := Aside0.mk (Kd.R_below (by (with_reducible repeat (first | apply Kd.R_alloc | apply Kd.R_drewN | apply Kd.R_drew)); exact (Kd.R_mono (Kd.R_far (p := ⟨gb155, 0, none⟩) (Kd.R_types HO151.out BK155.out (by decide)) (fun _ hk => hk.2) (.slice Ao102 t156.length co102)) (fun _ h_ => h_.1))) hb); replace HO154 := Aside0.mk (Kd.R_below (by (with_reducible repeat (first | apply Kd.R_alloc | apply Kd.R_drewN | apply Kd.R_drew)); exact (Kd.R_mono (Kd.R_far (p := ⟨gb155, 0, none⟩) (Kd.R_types HO154.out BK155.out (by decide)) (fun _ hk => hk.2) (.slice Ao102 t156.length co102)) (fun _ h_ => h_.1))) hb); replace HO158 := Aside0.mk (Kd.R_below (by (with_reducible repeat (first | apply Kd.R_alloc | apply Kd.R_drewN | apply Kd.R_drew)); exact (Kd.R_mono (Kd.R_far (p := ⟨gb155, 0, none⟩) (Kd.R_types HO158.out BK155.out (by decide)) (fun _ hk => hk.2) (.slice Ao102 t156.length co102)) (fun _ h_ => h_.1))) hb); replace BK139 := Aside0.mk (blk_below (g := gb139) (o := .cells #[.int .i64 a1] 2 (0, 0)) (by (with_reducible repeat (first | refine blk_drewN ?_ _ | refine blk_drew ?_ | refine blk_alloc ?_ _)); refine blk_far ?_ NB139_155.out _; (with_reducible repeat (first | refine blk_drewN ?_ _ | refine blk_drew ?_ | refine blk_alloc ?_ _)); exact BK139.out) hb); replace BK140 := Aside0.mk (blk_below (g := gb140) (o := .cells #[.int .i64 a2] 2 (0, 0)) (by (with_reducible repeat (first | refine blk_drewN ?_ _ | refine blk_drew ?_ | refine blk_alloc ?_ _)); refine blk_far ?_ NB140_155.out _; (with_reducible repeat (first | refine blk_drewN ?_ _ | refine blk_drew ?_ | refine blk_alloc ?_ _)); exact BK140.out) hb); replace BK141 := Aside0.mk (blk_below (g := gb141) (o := .cells #[.int .i64 a3] 2 (0, 0)) (by (with_reducible repeat (first | refine blk_drewN ?_ _ | refine blk_drew ?_ | refine blk_alloc ?_ _)); refine blk_far ?_ NB141_155.out _; (with_reducible repeat (first | refine blk_drewN ?_ _ | refine blk_drew ?_ | refine blk_alloc ?_ _)); exact BK141.out) hb); replace BK142 := Aside0.mk (blk_below (g := gb142) (o := .cells #[.slice none 0 0, .slice none 0 0, .slice none 0 0] 27 (0, 0)) (by (with_reducible repeat (first | refine blk_drewN ?_ _ | refine blk_drew ?_ | refine blk_alloc ?_ _)); refine blk_far ?_ NB142_155.out _; (with_reducible repeat (first | refine blk_drewN ?_ _ | refine blk_drew ?_ | refine blk_alloc ?_ _)); exact BK142.out) hb); replace BK144 := Aside0.mk (blk_below (g := gb144) (o := .cells #[.slice none 0 0, .slice none 0 0, .slice none 0 0] 27 (0, 0)) (by (with_reducible repeat (first | refine blk_drewN ?_ _ | refine blk_drew ?_ | refine blk_alloc ?_ _)); refine blk_far ?_ NB144_155.out _; (with_reducible repeat (first | refine blk_drewN ?_ _ | refine blk_drew ?_ | refine blk_alloc ?_ _)); exact BK144.out) hb); replace BK155 := Aside0.mk (blk_below (g := gb155) (o := .cells #[.slice Ao102 t156.length co102, .slice Ao97 t149.length co97, .slice Ao98 t152.length co98] 27 (0, 0)) (by (with_reducible repeat (first | refine blk_drewN ?_ _ | refine blk_drew ?_ | refine blk_alloc ?_ _)); refine blk_put (cs := #[.slice Ao90 t146.length co90, .slice Ao97 t149.length co97, .slice Ao98 t152.length co98]) ?_ 0 _ rfl; (with_reducible repeat (first | refine blk_drewN ?_ _ | refine blk_drew ?_ | refine blk_alloc ?_ _)); exact BK155.out) hb); replace HB := Aside0.mk (below_step (by repeat (first | (with_reducible first | exact HB.out | apply below_alloc | apply pw_below_drewN | apply below_drew1 | refine below_set ?_ GE155.out) | exact HB.out)) hb); (try clear hb); (try clear hb2); (try clear hk); (try clear hi); have hnb115 := NB144_142.out; have hnc115 := NB142_144.out; have hcz116_0 := c1_ BK144 0 (.slice none 0 0); have hcz116_1 := c1_ BK144 1 (.slice none 0 0); have hcz116_2 := c1_ BK144 2 (.slice none 0 0); have hfz116_0 := f1_ BK144 0; have hfz116_1 := f1_ BK144 1; have hfz116_2 := f1_ BK144 2))
 (try simp only [Exit.inBlock, Exit.then])
 refine bodyPost_ret (results_ct rfl _ _ gb144 27 #[.slice none 0 0, .slice none 0 0, .slice none 0 0] (0, 0) _ rfl (by (with_reducible repeat (first | refine blk_drewN ?_ _ | refine blk_drew ?_ | refine blk_alloc ?_ _)); refine blk_put3 (cs := #[.slice none 0 0, .slice none 0 0, .slice none 0 0]) ?_ rfl; (with_reducible repeat (first | refine blk_drewN ?_ _ | refine blk_drew ?_ | refine blk_alloc ?_ _)); exact BK144.out) Try.underlying27 rfl s2_) rfl ?_
 (try simp only [])
 have hcz117_0 := c1_ BK142 0 (.slice none 0 0)
 have hcz117_1 := c1_ BK142 1 (.slice none 0 0)
 have hcz117_2 := c1_ BK142 2 (.slice none 0 0)
 have hfz117_0 := f1_ BK142 0
 have hfz117_1 := f1_ BK142 1
 have hfz117_2 := f1_ BK142 2
 try go_wp2_with (fail)
 refine bodyPost_ret (results_ct rfl _ _ gb142 27 #[.slice none 0 0, .slice none 0 0, .slice none 0 0] (0, 0) _ rfl (by (with_reducible repeat (first | refine blk_drewN ?_ _ | refine blk_drew ?_ | refine blk_alloc ?_ _)); refine blk_put3 (cs := #[.slice none 0 0, .slice none 0 0, .slice none 0 0]) ?_ rfl; (with_reducible repeat (first | refine blk_drewN ?_ _ | refine blk_drew ?_ | refine blk_alloc ?_ _)); refine blk_far3 ?_ NB142_144.out; (with_reducible repeat (first | refine blk_drewN ?_ _ | refine blk_drew ?_ | refine blk_alloc ?_ _)); exact BK142.out) Try.underlying27 rfl s2_) rfl ?_
 exact ⟨_, _, _, by first | rfl | (simp [errW_none, errW_some] <;> rfl) | (simp [*, errW_none, errW_some] <;> rfl), by first | exact Kd.R_nil _ _ _ _ _ | exact Kd.N_nil _ _ _ _ _ | exact Kd.V_nil _ _ _ _ _ | exact Kd.Q_nil _ _ _ _ _ | exact Kd.S_nil _ _ _ _ _, by first | exact Kd.R_nil _ _ _ _ _ | exact Kd.N_nil _ _ _ _ _ | exact Kd.V_nil _ _ _ _ _ | exact Kd.Q_nil _ _ _ _ _ | exact Kd.S_nil _ _ _ _ _, by first | exact Kd.R_nil _ _ _ _ _ | exact Kd.N_nil _ _ _ _ _ | exact Kd.V_nil _ _ _ _ _ | exact Kd.Q_nil _ _ _ _ _ | exact Kd.S_nil _ _ _ _ _, by repeat (first | (with_reducible first | exact HB.out | apply below_alloc | apply pw_below_drewN | apply below_drew1 | refine below_set ?_ GE142.out | refine below_set ?_ GE144.out) | exact HB.out)⟩}}
 {
 replace c14 := Bool.eq_false_iff.mpr c14
 subst c14
 have H1 : (some (([] : List (S63)), ([] : List (S63)), ([] : List (S73)), false)) = some (r1, r2, r3, r4) := by rw [if_neg (show ¬ (false = true) by decide)] at H; exact H
 clear H
 have H := H1
 clear H1
 simp only [Option.some.injEq, Prod.mk.injEq] at H
 obtain ⟨rfl, rfl, rfl, rfl⟩ := H
 go_enter Try.func14, Try.ntmps14
 try go_wp2_with (first | ((with_reducible refine gate_dst (N := 4) rfl ?_); (try (refine gate_guard (by rfl) ?_; dsimp only)); refine bx_ 4 #[.slice A0_0 l0_0.length c0_0, .slice A0_1 l0_1.length c0_1, .slice A0_2 l0_2.length c0_2] 27 ?_; intro gb138 hg w118 hbox hb; have GW138 := b6_ hg HB; have GE138 := b6_ hg HB; replace HB := Aside0.mk (below_step (y1_ HB.out) hb); have BK138 := Aside0.mk (hbox); clear hb hbox hg) | ((with_reducible refine gate_dst (N := 5) rfl ?_); (try (refine gate_guard (by rfl) ?_; dsimp only)); refine bx_ 5 #[.int .i64 a1] 2 ?_; intro gb139 hg w119 hbox hb; have GW139 := b6_ hg HB; have GE139 := b6_ hg HB; have NB138_139 := b4_ hg BK138; have NB139_138 := b5_ hg BK138; replace BK138 := b3_ BK138 hb; replace HB := Aside0.mk (below_step (y1_ HB.out) hb); have BK139 := Aside0.mk (hbox); clear hb hbox hg) | ((with_reducible refine gate_dst (N := 6) rfl ?_); (try (refine gate_guard (by rfl) ?_; dsimp only)); refine bx_ 6 #[.int .i64 a2] 2 ?_; intro gb140 hg w120 hbox hb; have GW140 := b6_ hg HB; have GE140 := b6_ hg HB; have NB138_140 := b4_ hg BK138; have NB140_138 := b5_ hg BK138; have NB139_140 := b4_ hg BK139; have NB140_139 := b5_ hg BK139; replace BK138 := b3_ BK138 hb; replace BK139 := b3_ BK139 hb; replace HB := Aside0.mk (below_step (y1_ HB.out) hb); have BK140 := Aside0.mk (hbox); clear hb hbox hg) | ((with_reducible refine gate_dst (N := 7) rfl ?_); (try (refine gate_guard (by rfl) ?_; dsimp only)); refine bx_ 7 #[.int .i64 a3] 2 ?_; intro gb141 hg w121 hbox hb; have GW141 := b6_ hg HB; have GE141 := b6_ hg HB; have NB138_141 := b4_ hg BK138; have NB141_138 := b5_ hg BK138; have NB139_141 := b4_ hg BK139; have NB141_139 := b5_ hg BK139; have NB140_141 := b4_ hg BK140; have NB141_140 := b5_ hg BK140; replace BK138 := b3_ BK138 hb; replace BK139 := b3_ BK139 hb; replace BK140 := b3_ BK140 hb; replace HB := Aside0.mk (below_step (y1_ HB.out) hb); have BK141 := Aside0.mk (hbox); clear hb hbox hg) | ((with_reducible refine gate_dst (N := 8) rfl ?_); (try (refine gate_guard (by rfl) ?_; dsimp only)); refine bx_ 8 #[.slice none 0 0, .slice none 0 0, .slice none 0 0] 27 ?_; intro gb142 hg w122 hbox hb; have GW142 := b6_ hg HB; have GE142 := b6_ hg HB; have NB138_142 := b4_ hg BK138; have NB142_138 := b5_ hg BK138; have NB139_142 := b4_ hg BK139; have NB142_139 := b5_ hg BK139; have NB140_142 := b4_ hg BK140; have NB142_140 := b5_ hg BK140; have NB141_142 := b4_ hg BK141; have NB142_141 := b5_ hg BK141; replace BK138 := b3_ BK138 hb; replace BK139 := b3_ BK139 hb; replace BK140 := b3_ BK140 hb; replace BK141 := b3_ BK141 hb; replace HB := Aside0.mk (below_step (y1_ HB.out) hb); have BK142 := Aside0.mk (hbox); clear hb hbox hg; have hnb123 := NB138_139.out; have hnc123 := NB139_138.out; have hnb124 := NB138_140.out; have hnc124 := NB140_138.out; have hnb125 := NB138_141.out; have hnc125 := NB141_138.out; have hnb126 := NB138_142.out; have hnc126 := NB142_138.out; have hcz127_0 := c1_ BK138 0 (.slice A0_0 l0_0.length c0_0); have hcz127_1 := c1_ BK138 1 (.slice A0_1 l0_1.length c0_1); have hcz127_2 := c1_ BK138 2 (.slice A0_2 l0_2.length c0_2); have hfz127_0 := f1_ BK138 0; have hfz127_1 := f1_ BK138 1; have hfz127_2 := f1_ BK138 2))
 go_at_call 42
 go_in
 try go_wp2_with (first | ((with_reducible refine gate_dst (N := 2) rfl ?_); (try (refine gate_guard (by rfl) ?_; dsimp only)); refine bx_ 2 #[.slice A0_0 l0_0.length c0_0, .slice A0_1 l0_1.length c0_1, .slice A0_2 l0_2.length c0_2] 27 ?_; intro gb143 hg w128 hbox hb; have GW143 := b6_ hg HB; have GE143 := b6_ hg HB; have NB139_143 := b4_ hg BK139; have NB143_139 := b5_ hg BK139; have NB140_143 := b4_ hg BK140; have NB143_140 := b5_ hg BK140; have NB141_143 := b4_ hg BK141; have NB143_141 := b5_ hg BK141; have NB142_143 := b4_ hg BK142; have NB143_142 := b5_ hg BK142; replace BK139 := b3_ BK139 hb; replace BK140 := b3_ BK140 hb; replace BK141 := b3_ BK141 hb; replace BK142 := b3_ BK142 hb; replace HB := Aside0.mk (below_step (y1_ HB.out) hb); have BK143 := Aside0.mk (hbox); clear hb hbox hg) | ((with_reducible refine gate_dst (N := 4) rfl ?_); (try (refine gate_guard (by rfl) ?_; dsimp only)); refine bx_ 4 #[.slice none 0 0, .slice none 0 0, .slice none 0 0] 27 ?_; intro gb144 hg w129 hbox hb; have GW144 := b6_ hg HB; have GE144 := b6_ hg HB; have NB139_144 := b4_ hg BK139; have NB144_139 := b5_ hg BK139; have NB140_144 := b4_ hg BK140; have NB144_140 := b5_ hg BK140; have NB141_144 := b4_ hg BK141; have NB144_141 := b5_ hg BK141; have NB142_144 := b4_ hg BK142; have NB144_142 := b5_ hg BK142; have NB143_144 := b4_ hg BK143; have NB144_143 := b5_ hg BK143; replace BK139 := b3_ BK139 hb; replace BK140 := b3_ BK140 hb; replace BK141 := b3_ BK141 hb; replace BK142 := b3_ BK142 hb; replace BK143 := b3_ BK143 hb; replace HB := Aside0.mk (below_step (y1_ HB.out) hb); have BK144 := Aside0.mk (hbox); clear hb hbox hg; have hnb130 := NB143_139.out; have hnc130 := NB139_143.out; have hnb131 := NB143_140.out; have hnc131 := NB140_143.out; have hnb132 := NB143_141.out; have hnc132 := NB141_143.out; have hnb133 := NB143_142.out; have hnc133 := NB142_143.out; have hnb134 := NB143_144.out; have hnc134 := NB144_143.out; have hcz135_0 := c1_ BK143 0 (.slice A0_0 l0_0.length c0_0); have hcz135_1 := c1_ BK143 1 (.slice A0_1 l0_1.length c0_1); have hcz135_2 := c1_ BK143 2 (.slice A0_2 l0_2.length c0_2); have hfz135_0 := f1_ BK143 0; have hfz135_1 := f1_ BK143 1; have hfz135_2 := f1_ BK143 2) | ((with_reducible refine gate_callee (f := 19) rfl ?_); refine goesL_ (some 8) rfl rfl Try.func19 s2_ rfl #[.agg #[.slice A0_0 l0_0.length c0_0, .slice A0_1 l0_1.length c0_1, .slice A0_2 l0_2.length c0_2]] rfl s3_ ?_; (with_reducible refine (impl_ValidPresence.calls k _ _ l0_0 _ _ l0_1 _ _ l0_2 true _ ?side1 ?side2 ?side3 ?side4 ?side5 ?side6 A5.out).mono ?_); (case side1 => exact y2_ (Kd.C_below HR0_0.out HB.out)); (case side2 => exact HC0_0.out); (case side3 => exact y2_ (Kd.C_below HR0_1.out HB.out)); (case side4 => exact HC0_1.out); (case side5 => exact y2_ (Kd.C_below HR0_2.out HB.out)); (case side6 => exact HC0_2.out); rintro e w136 ⟨rfl, hb⟩; refine ⟨_, rfl, ?_⟩; replace BK139 := b3_ BK139 hb; replace BK140 := b3_ BK140 hb; replace BK141 := b3_ BK141 hb; replace BK142 := b3_ BK142 hb; replace BK143 := b3_ BK143 hb; replace BK144 := b3_ BK144 hb; replace HB := Aside0.mk (below_step (y1_ HB.out) hb); (try clear hb); (try clear hb2); (try clear hk); (try clear hi); have hcz137_0 := c1_ BK143 0 (.slice A0_0 l0_0.length c0_0); have hcz137_1 := c1_ BK143 1 (.slice A0_1 l0_1.length c0_1); have hcz137_2 := c1_ BK143 2 (.slice A0_2 l0_2.length c0_2); have hfz137_0 := f1_ BK143 0; have hfz137_1 := f1_ BK143 1; have hfz137_2 := f1_ BK143 2) | ((with_reducible refine gate_callee (f := 90) rfl ?_); refine goesL_ (some 12) rfl rfl Try.func90 s2_ rfl #[.agg #[.slice A0_0 l0_0.length c0_0, .slice A0_1 l0_1.length c0_1, .slice A0_2 l0_2.length c0_2]] rfl s3_ ?_; (with_reducible refine (impl_clonePresence.calls _ _ l0_0 _ _ l0_1 _ _ l0_2 t146 t149 t152 _ ?side1 ?side2 ?side3 ?side4 ?side5 ?side6 A7.out).mono ?_); (case side1 => exact y2_ (Kd.C_below HR0_0.out HB.out)); (case side2 => exact HC0_0.out); (case side3 => exact y2_ (Kd.C_below HR0_1.out HB.out)); (case side4 => exact HC0_1.out); (case side5 => exact y2_ (Kd.C_below HR0_2.out HB.out)); (case side6 => exact HC0_2.out); rintro e w138 ⟨v147, v150, v153, rfl, ho0, ho1, ho2, hb⟩; refine ⟨_, rfl, ?_⟩; have HO148 := Aside0.mk (Kd.R_lower ho0 (below_size (y1_ HB.out))); have HO151 := Aside0.mk (Kd.R_lower ho1 (below_size (y1_ HB.out))); have HO154 := Aside0.mk (Kd.R_lower ho2 (below_size (y1_ HB.out))); replace BK139 := b3_ BK139 hb; replace BK140 := b3_ BK140 hb; replace BK141 := b3_ BK141 hb; replace BK142 := b3_ BK142 hb; replace BK144 := b3_ BK144 hb; replace HB := Aside0.mk (below_step (y1_ HB.out) hb); (try clear hb); (try clear hb2); (try clear hk); (try clear hi); (try clear ho0); (try clear ho1); (try clear ho2)) | ((with_reducible refine gate_dst (N := 6) rfl ?_); (try (refine gate_guard (by rfl) ?_; dsimp only)); refine bx_ 6 #[.slice none 0 0, .slice none 0 0, .slice none 0 0] 27 ?_; intro gb155 hg w139 hbox hb; have GW155 := b6_ hg HB; have GE155 := b6_ hg HB; have NB139_155 := b4_ hg BK139; have NB155_139 := b5_ hg BK139; have NB140_155 := b4_ hg BK140; have NB155_140 := b5_ hg BK140; have NB141_155 := b4_ hg BK141; have NB155_141 := b5_ hg BK141; have NB142_155 := b4_ hg BK142; have NB155_142 := b5_ hg BK142; have NB144_155 := b4_ hg BK144; have NB155_144 := b5_ hg BK144; replace HO148 := r1_ HO148 hb; replace HO151 := r1_ HO151 hb; replace HO154 := r1_ HO154 hb; replace BK139 := b3_ BK139 hb; replace BK140 := b3_ BK140 hb; replace BK141 := b3_ BK141 hb; replace BK142 := b3_ BK142 hb; replace BK144 := b3_ BK144 hb; replace HB := Aside0.mk (below_step (y1_ HB.out) hb); have BK155 := Aside0.mk (hbox); clear hb hbox hg; obtain ⟨Ao140, co140, eo140⟩ := Kd.R_slice HO148.out; subst eo140; have hnb141 := NB155_139.out; have hnc141 := NB139_155.out; have hnb142 := NB155_140.out; have hnc142 := NB140_155.out; have hnb143 := NB155_141.out; have hnc143 := NB141_155.out; have hnb144 := NB155_142.out; have hnc144 := NB142_155.out; have hnb145 := NB155_144.out; have hnc145 := NB144_155.out; have hcz146_0 := c1_ BK155 0 (.slice none 0 0); have hcz146_1 := c1_ BK155 1 (.slice none 0 0); have hcz146_2 := c1_ BK155 2 (.slice none 0 0); have hfz146_0 := f1_ BK155 0; have hfz146_1 := f1_ BK155 1; have hfz146_2 := f1_ BK155 2; obtain ⟨Ao147, co147, eo147⟩ := Kd.R_slice HO151.out; subst eo147; obtain ⟨Ao148, co148, eo148⟩ := Kd.R_slice HO154.out; subst eo148))
 go_at_call 43
 go_in
 try go_wp2_with (fail)
 have n0_ : Aside0 (Kd.R k63 63 (((w139.setCell ⟨gb155, 0, none⟩ (.slice Ao140 t146.length co140)).setCell ⟨gb155, 1, none⟩ (.slice Ao147 t149.length co147)).setCell ⟨gb155, 2, none⟩ (.slice Ao148 t152.length co148)) w.heap.size (fun k_ => some k_ ≠ (.slice Ao147 t149.length co147 : Value).ownBlock) (.slice Ao140 t146.length co140) t146) := ⟨by (with_reducible repeat (first | apply Kd.R_alloc | apply Kd.R_drewN | apply Kd.R_drew)); exact Kd.R_mono (Kd.R_far3 (g := gb155) (Kd.R_types HO148.out BK155.out (by decide)) (fun _ hk => hk.2)) (fun _ hk => hk.1)⟩
 have n1_ : Aside0 (Kd.R k63 63 (((w139.setCell ⟨gb155, 0, none⟩ (.slice Ao140 t146.length co140)).setCell ⟨gb155, 1, none⟩ (.slice Ao147 t149.length co147)).setCell ⟨gb155, 2, none⟩ (.slice Ao148 t152.length co148)) w.heap.size (fun k_ => some k_ ≠ (.slice Ao140 t146.length co140 : Value).ownBlock) (.slice Ao147 t149.length co147) t149) := ⟨by (with_reducible repeat (first | apply Kd.R_alloc | apply Kd.R_drewN | apply Kd.R_drew)); exact Kd.R_mono (Kd.R_far3 (g := gb155) (Kd.R_types HO151.out BK155.out (by decide)) (fun _ hk => hk.2)) (fun _ hk => hk.1)⟩
 have n2_ : Aside0 (Kd.R k73 73 (((w139.setCell ⟨gb155, 0, none⟩ (.slice Ao140 t146.length co140)).setCell ⟨gb155, 1, none⟩ (.slice Ao147 t149.length co147)).setCell ⟨gb155, 2, none⟩ (.slice Ao148 t152.length co148)) w.heap.size (fun _ => True) (.slice Ao148 t152.length co148) t152) := ⟨by (with_reducible repeat (first | apply Kd.R_alloc | apply Kd.R_drewN | apply Kd.R_drew)); exact Kd.R_mono (Kd.R_far3 (g := gb155) (Kd.R_types HO154.out BK155.out (by decide)) (fun _ hk => hk.2)) (fun _ hk => trivial)⟩
 have n3_ : Aside0 ((((w139.setCell ⟨gb155, 0, none⟩ (.slice Ao140 t146.length co140)).setCell ⟨gb155, 1, none⟩ (.slice Ao147 t149.length co147)).setCell ⟨gb155, 2, none⟩ (.slice Ao148 t152.length co148)).heap[gb139]? = some (.cells #[.int .i64 a1] 2 (0, 0))) := ⟨by (with_reducible repeat (first | refine blk_drewN ?_ _ | refine blk_drew ?_ | refine blk_alloc ?_ _)); refine blk_far3 ?_ NB139_155.out; (with_reducible repeat (first | refine blk_drewN ?_ _ | refine blk_drew ?_ | refine blk_alloc ?_ _)); exact BK139.out⟩
 have n4_ : Aside0 ((((w139.setCell ⟨gb155, 0, none⟩ (.slice Ao140 t146.length co140)).setCell ⟨gb155, 1, none⟩ (.slice Ao147 t149.length co147)).setCell ⟨gb155, 2, none⟩ (.slice Ao148 t152.length co148)).heap[gb140]? = some (.cells #[.int .i64 a2] 2 (0, 0))) := ⟨by (with_reducible repeat (first | refine blk_drewN ?_ _ | refine blk_drew ?_ | refine blk_alloc ?_ _)); refine blk_far3 ?_ NB140_155.out; (with_reducible repeat (first | refine blk_drewN ?_ _ | refine blk_drew ?_ | refine blk_alloc ?_ _)); exact BK140.out⟩
 have n5_ : Aside0 ((((w139.setCell ⟨gb155, 0, none⟩ (.slice Ao140 t146.length co140)).setCell ⟨gb155, 1, none⟩ (.slice Ao147 t149.length co147)).setCell ⟨gb155, 2, none⟩ (.slice Ao148 t152.length co148)).heap[gb141]? = some (.cells #[.int .i64 a3] 2 (0, 0))) := ⟨by (with_reducible repeat (first | refine blk_drewN ?_ _ | refine blk_drew ?_ | refine blk_alloc ?_ _)); refine blk_far3 ?_ NB141_155.out; (with_reducible repeat (first | refine blk_drewN ?_ _ | refine blk_drew ?_ | refine blk_alloc ?_ _)); exact BK141.out⟩
 have n6_ : Aside0 ((((w139.setCell ⟨gb155, 0, none⟩ (.slice Ao140 t146.length co140)).setCell ⟨gb155, 1, none⟩ (.slice Ao147 t149.length co147)).setCell ⟨gb155, 2, none⟩ (.slice Ao148 t152.length co148)).heap[gb142]? = some (.cells #[.slice none 0 0, .slice none 0 0, .slice none 0 0] 27 (0, 0))) := ⟨by (with_reducible repeat (first | refine blk_drewN ?_ _ | refine blk_drew ?_ | refine blk_alloc ?_ _)); refine blk_far3 ?_ NB142_155.out; (with_reducible repeat (first | refine blk_drewN ?_ _ | refine blk_drew ?_ | refine blk_alloc ?_ _)); exact BK142.out⟩
 have n7_ : Aside0 ((((w139.setCell ⟨gb155, 0, none⟩ (.slice Ao140 t146.length co140)).setCell ⟨gb155, 1, none⟩ (.slice Ao147 t149.length co147)).setCell ⟨gb155, 2, none⟩ (.slice Ao148 t152.length co148)).heap[gb144]? = some (.cells #[.slice none 0 0, .slice none 0 0, .slice none 0 0] 27 (0, 0))) := ⟨by (with_reducible repeat (first | refine blk_drewN ?_ _ | refine blk_drew ?_ | refine blk_alloc ?_ _)); refine blk_far3 ?_ NB144_155.out; (with_reducible repeat (first | refine blk_drewN ?_ _ | refine blk_drew ?_ | refine blk_alloc ?_ _)); exact BK144.out⟩
 have n8_ : Aside0 ((((w139.setCell ⟨gb155, 0, none⟩ (.slice Ao140 t146.length co140)).setCell ⟨gb155, 1, none⟩ (.slice Ao147 t149.length co147)).setCell ⟨gb155, 2, none⟩ (.slice Ao148 t152.length co148)).heap[gb155]? = some (.cells #[.slice Ao140 t146.length co140, .slice Ao147 t149.length co147, .slice Ao148 t152.length co148] 27 (0, 0))) := ⟨by (with_reducible repeat (first | refine blk_drewN ?_ _ | refine blk_drew ?_ | refine blk_alloc ?_ _)); refine blk_put3 (cs := #[.slice none 0 0, .slice none 0 0, .slice none 0 0]) ?_ rfl; (with_reducible repeat (first | refine blk_drewN ?_ _ | refine blk_drew ?_ | refine blk_alloc ?_ _)); exact BK155.out⟩
 have n9_ : Aside0 (Below w.heap.size w (((w139.setCell ⟨gb155, 0, none⟩ (.slice Ao140 t146.length co140)).setCell ⟨gb155, 1, none⟩ (.slice Ao147 t149.length co147)).setCell ⟨gb155, 2, none⟩ (.slice Ao148 t152.length co148))) := ⟨by repeat (first | (with_reducible first | exact HB.out | apply below_alloc | apply pw_below_drewN | apply below_drew1 | refine below_set ?_ GE155.out) | exact HB.out)⟩
 (try clear HO148)
 (try clear HO151)
 (try clear HO154)
 (try clear BK139)
 (try clear BK140)
 (try clear BK141)
 (try clear BK142)
 (try clear BK144)
 (try clear BK155)
 (try clear HB)
 generalize (((w139.setCell ⟨gb155, 0, none⟩ (.slice Ao140 t146.length co140)).setCell ⟨gb155, 1, none⟩ (.slice Ao147 t149.length co147)).setCell ⟨gb155, 2, none⟩ (.slice Ao148 t152.length co148)) = w149 at n0_ n1_ n2_ n3_ n4_ n5_ n6_ n7_ n8_ n9_ ⊢
 have HO148 := n0_
 have HO151 := n1_
 have HO154 := n2_
 have BK139 := n3_
 have BK140 := n4_
 have BK141 := n5_
 have BK142 := n6_
 have BK144 := n7_
 have BK155 := n8_
 have HB := n9_
 clear n0_ n1_ n2_ n3_ n4_ n5_ n6_ n7_ n8_ n9_
 replace HO148 := Aside0.mk (Kd.R_drew HO148.out)
 replace HO151 := Aside0.mk (Kd.R_drew HO151.out)
 replace HO154 := Aside0.mk (Kd.R_drew HO154.out)
 replace BK139 := Aside0.mk (blk_drew BK139.out)
 replace BK140 := Aside0.mk (blk_drew BK140.out)
 replace BK141 := Aside0.mk (blk_drew BK141.out)
 replace BK142 := Aside0.mk (blk_drew BK142.out)
 replace BK144 := Aside0.mk (blk_drew BK144.out)
 replace BK155 := Aside0.mk (blk_drew BK155.out)
 replace HB := Aside0.mk (below_drew1 HB.out)
 refine start_ (n := 14) (S := fun w' => w'.cell? ⟨gb155, 0, none⟩ = some (.slice Ao140 t146.length co140) ∧ w'.cell? ⟨gb155, 1, none⟩ = some (.slice Ao147 t149.length co147) ∧ w'.cell? ⟨gb155, 2, none⟩ = some (.slice Ao148 t152.length co148) ∧ w'.cell? ⟨gb139, 0, none⟩ = some (.int .i64 a1) ∧ w'.cell? ⟨gb140, 0, none⟩ = some (.int .i64 a2) ∧ w'.cell? ⟨gb141, 0, none⟩ = some (.int .i64 a3)) (ds := [13]) m0_ s2_ rfl rfl ⟨(blk_cell BK155.out 0).trans rfl, (blk_cell BK155.out 1).trans rfl, (blk_cell BK155.out 2).trans rfl, (blk_cell BK139.out 0).trans rfl, (blk_cell BK140.out 0).trans rfl, (blk_cell BK141.out 0).trans rfl⟩ (fun hHeld => ?_)
 generalize w149.drew = w150 at HO148 HO151 HO154 BK139 BK140 BK141 BK142 BK144 BK155 HB HO148 HO151 HO154 hHeld ⊢
 refine pure_ (i := 0) (N := some 6) (v := ?_) (a' := ?_) m1_ rfl rfl s2_ (fun _ _ _ h => h) (Or.inl ⟨by rfl, ?_⟩) ?_ ?_
 rotate_left
 {
 intro w'
 go_simp
 with_reducible rfl}
 rotate_left
 · exact p1_
 refine pure_ (i := 1) (N := some 7) (v := ?_) (a' := ?_) m2_ rfl rfl s2_ (fun _ _ _ h => h) (Or.inl ⟨by rfl, ?_⟩) ?_ ?_
 rotate_left
 {
 intro w'
 go_simp
 with_reducible rfl}
 rotate_left
 · exact p1_
 refine pure_ (i := 2) (N := some 8) (v := ?_) (a' := ?_) m3_ rfl rfl s2_ (fun _ _ _ h => h) (Or.inl ⟨by rfl, ?_⟩) ?_ ?_
 rotate_left
 {
 intro w'
 go_simp
 with_reducible rfl}
 rotate_left
 · exact p1_
 refine pure_ (i := 3) (N := some 9) (v := ?_) (a' := ?_) m4_ rfl rfl s2_ (fun _ _ _ h => h) (Or.inl ⟨by rfl, ?_⟩) ?_ ?_
 rotate_left
 {
 intro w'
 go_simp
 with_reducible rfl}
 rotate_left
 · exact p1_
 refine take_ (i := 4) (N := some 10) (v := ?_) (a' := ?_) m5_ rfl rfl s2_ (fun _ _ _ h => h) (Or.inl ⟨by rfl, ?_⟩) hHeld ?_ ?_
 rotate_left
 {
 rintro w' ⟨s0, s1, s2, s3, s4, s5⟩
 go_simp
 with_reducible rfl}
 rotate_left
 · exact p1_
 refine take_ (i := 5) (N := some 11) (v := ?_) (a' := ?_) m6_ rfl rfl s2_ (fun _ _ _ h => h) (Or.inl ⟨by rfl, ?_⟩) hHeld ?_ ?_
 rotate_left
 {
 rintro w' ⟨s0, s1, s2, s3, s4, s5⟩
 go_simp
 with_reducible rfl}
 rotate_left
 · exact p1_
 refine take_ (i := 6) (N := some 12) (v := ?_) (a' := ?_) m7_ rfl rfl s2_ (fun _ _ _ h => h) (Or.inl ⟨by rfl, ?_⟩) hHeld ?_ ?_
 rotate_left
 {
 rintro w' ⟨s0, s1, s2, s3, s4, s5⟩
 go_simp
 with_reducible rfl}
 rotate_left
 · exact p1_
 refine take_ (i := 7) (N := some 13) (v := ?_) (a' := ?_) m8_ rfl rfl s2_ (fun _ _ _ h => h) (Or.inl ⟨by rfl, ?_⟩) hHeld ?_ ?_
 rotate_left
 {
 rintro w' ⟨s0, s1, s2, s3, s4, s5⟩
 go_simp
 with_reducible rfl}
 rotate_left
 · exact p1_
 refine pure_ (i := 8) (N := some 14) (v := ?_) (a' := ?_) m9_ rfl rfl s2_ (fun _ _ _ h => h) (Or.inl ⟨by rfl, ?_⟩) ?_ ?_
 rotate_left
 {
 intro w'
 go_simp
 with_reducible rfl}
 rotate_left
 · exact p1_
 refine pure_ (i := 9) (N := some 15) (v := ?_) (a' := ?_) m10_ rfl rfl s2_ (fun _ _ _ h => h) (Or.inl ⟨by rfl, ?_⟩) ?_ ?_
 rotate_left
 {
 intro w'
 go_simp
 with_reducible rfl}
 rotate_left
 · exact p1_
 refine one_ (i := 10) (N := some 16) m11_ rfl rfl s2_ (by decide) (fun K hK => ?_)
 refine goes_ Try.func44 s2_ rfl #[.slice Ao140 t146.length co140, .agg #[.int .i64 a1, .int .i64 (wrap64 (a2 + a3))]] (by rfl) rfl rfl s3_ ?_
 with_reducible refine (impl_leased_n44.calls k (fun k_ => some k_ = (.slice Ao140 t146.length co140 : Value).ownBlock) (.slice Ao140 t146.length co140) t146 a1 (wrap64 (a2 + a3)) t156 w _ ?side1 ?side2 A8.out).mono ?_
 (case side1 => repeat (first | (with_reducible first | exact HB.out | apply below_alloc | apply pw_below_drewN | apply below_drew1) | exact HB.out))
 (case side2 => exact Kd.R_tight rfl HO148.out)
 rintro e w151 ⟨v157, rfl, ho0, hb, hkp⟩
 refine ⟨_, rfl, ?_⟩
 have n0_ := Aside0.mk (blk_kept (b1_ BK139.out) hkp (fun hs_ => (fun e_ => (Kd.R_ne HO148.out BK139.out (by decide)) e_) hs_))
 have n1_ := Aside0.mk (blk_kept (b1_ BK140.out) hkp (fun hs_ => (fun e_ => (Kd.R_ne HO148.out BK140.out (by decide)) e_) hs_))
 have n2_ := Aside0.mk (blk_kept (b1_ BK141.out) hkp (fun hs_ => (fun e_ => (Kd.R_ne HO148.out BK141.out (by decide)) e_) hs_))
 have n3_ := Aside0.mk (blk_kept (b1_ BK142.out) hkp (fun hs_ => (fun e_ => (Kd.R_ne HO148.out BK142.out (by decide)) e_) hs_))
 have n4_ := Aside0.mk (blk_kept (b1_ BK144.out) hkp (fun hs_ => (fun e_ => (Kd.R_ne HO148.out BK144.out (by decide)) e_) hs_))
 have n5_ := Aside0.mk (Kd.R_mono (ok' := fun k_ => some k_ ≠ (v157 : Value).ownBlock) (Kd.R_keptB (HO151.out) hkp (fun k_ hk_ hs_ => (hk_) hs_)) (fun k_ hk_ => fun e_ => Or.elim (ho0.1 k_ e_.symm) (fun hs_ => hk_.2.1 hs_) (fun hn_ => Nat.not_le.2 hk_.2.2 hn_)))
 have n6_ := Aside0.mk (Kd.R_mono (ok' := fun k_ => True) (Kd.R_keptB ((Kd.R_apart' HO154.out (Kd.R_typed HO148.out) (by decide))) hkp (fun k_ hk_ hs_ => (hk_.2) hs_)) (fun k_ hk_ => trivial))
 have n7_ := Aside0.mk (blk_kept (b1_ BK155.out) hkp (fun hs_ => (fun e_ => (Kd.R_ne HO148.out BK155.out (by decide)) e_) hs_))
 have n8_ := Aside0.mk (Kd.R_mono (ok' := fun k_ => some k_ ≠ (.slice Ao147 t149.length co147 : Value).ownBlock) ho0 (fun k_ hk_ => Or.elim hk_ (fun hs_ => fun e_ => (((HO151.out).1 k_ e_.symm)) hs_) (fun hn_ => (Kd.fresh' (Kd.R_lt (b2_ HO151.out)) k_ hn_))))
 have n9_ := Aside0.mk (hb)
 clear BK139
 clear BK140
 clear BK141
 clear BK142
 clear BK144
 clear HO151
 clear HO154
 clear BK155
 clear HB
 clear HO148
 have BK139 := n0_
 have BK140 := n1_
 have BK141 := n2_
 have BK142 := n3_
 have BK144 := n4_
 have HO151 := n5_
 have HO154 := n6_
 have BK155 := n7_
 have HO158 := n8_
 have HB := n9_
 clear n0_ n1_ n2_ n3_ n4_ n5_ n6_ n7_ n8_ n9_
 (try clear hb)
 (try clear hkp)
 (try clear ho0)
 obtain ⟨Ao152, co152, eo152⟩ := Kd.R_slice HO158.out
 (first | subst eo152 | (injection eo152 with f1_ f2_ f3_; have f4_ := f1_.symm; have f5_ := f3_.symm; clear f1_ f2_ f3_; subst f4_; subst f5_))
 refine hK.out _ _ ⟨(blk_cell BK155.out 0).trans rfl, (blk_cell BK155.out 1).trans rfl, (blk_cell BK155.out 2).trans rfl, (blk_cell BK139.out 0).trans rfl, (blk_cell BK140.out 0).trans rfl, (blk_cell BK141.out 0).trans rfl⟩ (fun hHeld => ?_)
 clear hK K
 refine norm_ (a' := ?_) ?_ ?_
 rotate_left
 {
 show Act.put _ (some 16) _ = _
 simp only [Act.put, List.setIfInBounds_toArray, List.set_cons_zero, List.set_cons_succ, i64_w, i32_w]
 rfl}
 refine pure_ (i := 11) (N := some 17) (v := ?_) (a' := ?_) m12_ rfl rfl s2_ (fun _ _ _ h => h) (Or.inl ⟨by rfl, ?_⟩) ?_ ?_
 rotate_left
 {
 intro w'
 go_simp
 with_reducible rfl}
 rotate_left
 · exact p1_
 refine pure_ (i := 12) (N := some 18) (v := ?_) (a' := ?_) m13_ rfl rfl s2_ (fun _ _ _ h => h) (Or.inl ⟨by rfl, ?_⟩) ?_ ?_
 rotate_left
 {
 intro w'
 go_simp
 with_reducible rfl}
 rotate_left
 · exact p1_
 refine last_ (i := 13) (N := none) m14_ rfl rfl s2_ (by decide) (fun K hK => ?_)
 have hs153 : w151.cell? ⟨gb155, 0, none⟩ = some (.slice Ao140 t146.length co140) := (blk_cell BK155.out 0).trans rfl
 have hfs153 := blk_frozen BK155.out 0
 have hns153_0 := NB139_155.out
 have hns153_1 := NB140_155.out
 have hns153_2 := NB141_155.out
 have hns153_3 := NB142_155.out
 have hns153_4 := NB144_155.out
 have hms153_0 := NB155_139.out
 have hms153_1 := NB155_140.out
 have hms153_2 := NB155_141.out
 have hms153_3 := NB155_142.out
 have hms153_4 := NB155_144.out
 refine skip_ (w1 := ?_) (by rfl) rfl ?_ ?_
 rotate_left
 {
 go_simp
 rfl}
 refine hK.out _ _ ?_
 clear hK K
 refine done_ s2_ ?_
 have hnb154 := NB140_139.out
 have hnc154 := NB139_140.out
 have hnb155 := NB140_141.out
 have hnc155 := NB141_140.out
 have hnb156 := NB140_142.out
 have hnc156 := NB142_140.out
 have hnb157 := NB140_144.out
 have hnc157 := NB144_140.out
 have hcz158_0 := c1_ BK140 0 (.int .i64 a2)
 have hfz158_0 := f1_ BK140 0
 try go_wp2_with (first | ((with_reducible refine gate_callee (f := 45) rfl ?_); refine goesL_ (some 20) rfl rfl Try.func45 s2_ rfl #[.int .i64 a2] rfl s3_ ?_; (with_reducible refine (impl_isTick.calls a2 true _ A9.out).mono ?_); rintro e w' ⟨rfl, ⟨nd, rfl⟩⟩; refine ⟨_, rfl, ?_⟩; have hnb159 := NB141_139.out; have hnc159 := NB139_141.out; have hnb160 := NB141_142.out; have hnc160 := NB142_141.out; have hnb161 := NB141_144.out; have hnc161 := NB144_141.out; have hcz162_0 := c1_ BK141 0 (.int .i64 a3); have hfz162_0 := f1_ BK141 0) | (go_at_call 46; (with_reducible refine (impl_in.calls a3 1 1000 true _ A11.out).mono ?_); rintro e w' ⟨rfl, ⟨nd, rfl⟩⟩) | (go_at_call 45; (with_reducible refine (impl_isTick.calls (wrap64 (a2 + a3)) false _ A13.out).mono ?_); rintro e w' ⟨rfl, ⟨nd, rfl⟩⟩; have hnb163 := NB144_139.out; have hnc163 := NB139_144.out; have hnb164 := NB144_142.out; have hnc164 := NB142_144.out; have hcz165_0 := c1_ BK144 0 (.slice none 0 0); have hcz165_1 := c1_ BK144 1 (.slice none 0 0); have hcz165_2 := c1_ BK144 2 (.slice none 0 0); have hfz165_0 := f1_ BK144 0; have hfz165_1 := f1_ BK144 1; have hfz165_2 := f1_ BK144 2))
 (try simp only [Exit.inBlock, Exit.then])
 refine bodyPost_ret (results_ct rfl _ _ gb144 27 #[.slice none 0 0, .slice none 0 0, .slice none 0 0] (0, 0) _ rfl (by (with_reducible repeat (first | refine blk_drewN ?_ _ | refine blk_drew ?_ | refine blk_alloc ?_ _)); refine blk_put3 (cs := #[.slice none 0 0, .slice none 0 0, .slice none 0 0]) ?_ rfl; (with_reducible repeat (first | refine blk_drewN ?_ _ | refine blk_drew ?_ | refine blk_alloc ?_ _)); refine blk_far ?_ NB144_155.out _; (with_reducible repeat (first | refine blk_drewN ?_ _ | refine blk_drew ?_ | refine blk_alloc ?_ _)); exact BK144.out) Try.underlying27 rfl s2_) rfl ?_
 (try simp only [])
 have hnb166 := NB142_139.out
 have hnc166 := NB139_142.out
 have hcz167_0 := c1_ BK142 0 (.slice none 0 0)
 have hcz167_1 := c1_ BK142 1 (.slice none 0 0)
 have hcz167_2 := c1_ BK142 2 (.slice none 0 0)
 have hfz167_0 := f1_ BK142 0
 have hfz167_1 := f1_ BK142 1
 have hfz167_2 := f1_ BK142 2
 try go_wp2_with (fail)
 refine bodyPost_ret (results_ct rfl _ _ gb142 27 #[.slice none 0 0, .slice none 0 0, .slice none 0 0] (0, 0) _ rfl (by (with_reducible repeat (first | refine blk_drewN ?_ _ | refine blk_drew ?_ | refine blk_alloc ?_ _)); refine blk_put3 (cs := #[.slice none 0 0, .slice none 0 0, .slice none 0 0]) ?_ rfl; (with_reducible repeat (first | refine blk_drewN ?_ _ | refine blk_drew ?_ | refine blk_alloc ?_ _)); refine blk_far3 ?_ NB142_144.out; (with_reducible repeat (first | refine blk_drewN ?_ _ | refine blk_drew ?_ | refine blk_alloc ?_ _)); refine blk_far ?_ NB142_155.out _; (with_reducible repeat (first | refine blk_drewN ?_ _ | refine blk_drew ?_ | refine blk_alloc ?_ _)); exact BK142.out) Try.underlying27 rfl s2_) rfl ?_
 exact ⟨_, _, _, by first | rfl | (simp [errW_none, errW_some] <;> rfl) | (simp [*, errW_none, errW_some] <;> rfl), by first | exact Kd.R_nil _ _ _ _ _ | exact Kd.N_nil _ _ _ _ _ | exact Kd.V_nil _ _ _ _ _ | exact Kd.Q_nil _ _ _ _ _ | exact Kd.S_nil _ _ _ _ _, by first | exact Kd.R_nil _ _ _ _ _ | exact Kd.N_nil _ _ _ _ _ | exact Kd.V_nil _ _ _ _ _ | exact Kd.Q_nil _ _ _ _ _ | exact Kd.S_nil _ _ _ _ _, by first | exact Kd.R_nil _ _ _ _ _ | exact Kd.N_nil _ _ _ _ _ | exact Kd.V_nil _ _ _ _ _ | exact Kd.Q_nil _ _ _ _ _ | exact Kd.S_nil _ _ _ _ _, by repeat (first | (with_reducible first | exact HB.out | apply below_alloc | apply pw_below_drewN | apply below_drew1 | refine below_set ?_ GE142.out | refine below_set ?_ GE144.out | refine below_set ?_ GE155.out) | exact HB.out)⟩}}
 {
 replace c12 := Bool.eq_false_iff.mpr c12
 subst c12
 have H1 : (some (([] : List (S63)), ([] : List (S63)), ([] : List (S73)), false)) = some (r1, r2, r3, r4) := by rw [if_neg (show ¬ (false = true) by decide)] at H; exact H
 clear H
 have H := H1
 clear H1
 simp only [Option.some.injEq, Prod.mk.injEq] at H
 obtain ⟨rfl, rfl, rfl, rfl⟩ := H
 go_enter Try.func14, Try.ntmps14
 try go_wp2_with (first | ((with_reducible refine gate_dst (N := 4) rfl ?_); (try (refine gate_guard (by rfl) ?_; dsimp only)); refine bx_ 4 #[.slice A0_0 l0_0.length c0_0, .slice A0_1 l0_1.length c0_1, .slice A0_2 l0_2.length c0_2] 27 ?_; intro gb138 hg w168 hbox hb; have GW138 := b6_ hg HB; have GE138 := b6_ hg HB; replace HB := Aside0.mk (below_step (y1_ HB.out) hb); have BK138 := Aside0.mk (hbox); clear hb hbox hg) | ((with_reducible refine gate_dst (N := 5) rfl ?_); (try (refine gate_guard (by rfl) ?_; dsimp only)); refine bx_ 5 #[.int .i64 a1] 2 ?_; intro gb139 hg w169 hbox hb; have GW139 := b6_ hg HB; have GE139 := b6_ hg HB; have NB138_139 := b4_ hg BK138; have NB139_138 := b5_ hg BK138; replace BK138 := b3_ BK138 hb; replace HB := Aside0.mk (below_step (y1_ HB.out) hb); have BK139 := Aside0.mk (hbox); clear hb hbox hg) | ((with_reducible refine gate_dst (N := 6) rfl ?_); (try (refine gate_guard (by rfl) ?_; dsimp only)); refine bx_ 6 #[.int .i64 a2] 2 ?_; intro gb140 hg w170 hbox hb; have GW140 := b6_ hg HB; have GE140 := b6_ hg HB; have NB138_140 := b4_ hg BK138; have NB140_138 := b5_ hg BK138; have NB139_140 := b4_ hg BK139; have NB140_139 := b5_ hg BK139; replace BK138 := b3_ BK138 hb; replace BK139 := b3_ BK139 hb; replace HB := Aside0.mk (below_step (y1_ HB.out) hb); have BK140 := Aside0.mk (hbox); clear hb hbox hg) | ((with_reducible refine gate_dst (N := 7) rfl ?_); (try (refine gate_guard (by rfl) ?_; dsimp only)); refine bx_ 7 #[.int .i64 a3] 2 ?_; intro gb141 hg w171 hbox hb; have GW141 := b6_ hg HB; have GE141 := b6_ hg HB; have NB138_141 := b4_ hg BK138; have NB141_138 := b5_ hg BK138; have NB139_141 := b4_ hg BK139; have NB141_139 := b5_ hg BK139; have NB140_141 := b4_ hg BK140; have NB141_140 := b5_ hg BK140; replace BK138 := b3_ BK138 hb; replace BK139 := b3_ BK139 hb; replace BK140 := b3_ BK140 hb; replace HB := Aside0.mk (below_step (y1_ HB.out) hb); have BK141 := Aside0.mk (hbox); clear hb hbox hg) | ((with_reducible refine gate_dst (N := 8) rfl ?_); (try (refine gate_guard (by rfl) ?_; dsimp only)); refine bx_ 8 #[.slice none 0 0, .slice none 0 0, .slice none 0 0] 27 ?_; intro gb142 hg w172 hbox hb; have GW142 := b6_ hg HB; have GE142 := b6_ hg HB; have NB138_142 := b4_ hg BK138; have NB142_138 := b5_ hg BK138; have NB139_142 := b4_ hg BK139; have NB142_139 := b5_ hg BK139; have NB140_142 := b4_ hg BK140; have NB142_140 := b5_ hg BK140; have NB141_142 := b4_ hg BK141; have NB142_141 := b5_ hg BK141; replace BK138 := b3_ BK138 hb; replace BK139 := b3_ BK139 hb; replace BK140 := b3_ BK140 hb; replace BK141 := b3_ BK141 hb; replace HB := Aside0.mk (below_step (y1_ HB.out) hb); have BK142 := Aside0.mk (hbox); clear hb hbox hg; have hnb173 := NB138_139.out; have hnc173 := NB139_138.out; have hnb174 := NB138_140.out; have hnc174 := NB140_138.out; have hnb175 := NB138_141.out; have hnc175 := NB141_138.out; have hnb176 := NB138_142.out; have hnc176 := NB142_138.out; have hcz177_0 := c1_ BK138 0 (.slice A0_0 l0_0.length c0_0); have hcz177_1 := c1_ BK138 1 (.slice A0_1 l0_1.length c0_1); have hcz177_2 := c1_ BK138 2 (.slice A0_2 l0_2.length c0_2); have hfz177_0 := f1_ BK138 0; have hfz177_1 := f1_ BK138 1; have hfz177_2 := f1_ BK138 2))
 go_at_call 42
 go_in
 try go_wp2_with (first | ((with_reducible refine gate_dst (N := 2) rfl ?_); (try (refine gate_guard (by rfl) ?_; dsimp only)); refine bx_ 2 #[.slice A0_0 l0_0.length c0_0, .slice A0_1 l0_1.length c0_1, .slice A0_2 l0_2.length c0_2] 27 ?_; intro gb143 hg w178 hbox hb; have GW143 := b6_ hg HB; have GE143 := b6_ hg HB; have NB139_143 := b4_ hg BK139; have NB143_139 := b5_ hg BK139; have NB140_143 := b4_ hg BK140; have NB143_140 := b5_ hg BK140; have NB141_143 := b4_ hg BK141; have NB143_141 := b5_ hg BK141; have NB142_143 := b4_ hg BK142; have NB143_142 := b5_ hg BK142; replace BK139 := b3_ BK139 hb; replace BK140 := b3_ BK140 hb; replace BK141 := b3_ BK141 hb; replace BK142 := b3_ BK142 hb; replace HB := Aside0.mk (below_step (y1_ HB.out) hb); have BK143 := Aside0.mk (hbox); clear hb hbox hg) | ((with_reducible refine gate_dst (N := 4) rfl ?_); (try (refine gate_guard (by rfl) ?_; dsimp only)); refine bx_ 4 #[.slice none 0 0, .slice none 0 0, .slice none 0 0] 27 ?_; intro gb144 hg w179 hbox hb; have GW144 := b6_ hg HB; have GE144 := b6_ hg HB; have NB139_144 := b4_ hg BK139; have NB144_139 := b5_ hg BK139; have NB140_144 := b4_ hg BK140; have NB144_140 := b5_ hg BK140; have NB141_144 := b4_ hg BK141; have NB144_141 := b5_ hg BK141; have NB142_144 := b4_ hg BK142; have NB144_142 := b5_ hg BK142; have NB143_144 := b4_ hg BK143; have NB144_143 := b5_ hg BK143; replace BK139 := b3_ BK139 hb; replace BK140 := b3_ BK140 hb; replace BK141 := b3_ BK141 hb; replace BK142 := b3_ BK142 hb; replace BK143 := b3_ BK143 hb; replace HB := Aside0.mk (below_step (y1_ HB.out) hb); have BK144 := Aside0.mk (hbox); clear hb hbox hg; have hnb180 := NB143_139.out; have hnc180 := NB139_143.out; have hnb181 := NB143_140.out; have hnc181 := NB140_143.out; have hnb182 := NB143_141.out; have hnc182 := NB141_143.out; have hnb183 := NB143_142.out; have hnc183 := NB142_143.out; have hnb184 := NB143_144.out; have hnc184 := NB144_143.out; have hcz185_0 := c1_ BK143 0 (.slice A0_0 l0_0.length c0_0); have hcz185_1 := c1_ BK143 1 (.slice A0_1 l0_1.length c0_1); have hcz185_2 := c1_ BK143 2 (.slice A0_2 l0_2.length c0_2); have hfz185_0 := f1_ BK143 0; have hfz185_1 := f1_ BK143 1; have hfz185_2 := f1_ BK143 2) | ((with_reducible refine gate_callee (f := 19) rfl ?_); refine goesL_ (some 8) rfl rfl Try.func19 s2_ rfl #[.agg #[.slice A0_0 l0_0.length c0_0, .slice A0_1 l0_1.length c0_1, .slice A0_2 l0_2.length c0_2]] rfl s3_ ?_; (with_reducible refine (impl_ValidPresence.calls k _ _ l0_0 _ _ l0_1 _ _ l0_2 true _ ?side1 ?side2 ?side3 ?side4 ?side5 ?side6 A5.out).mono ?_); (case side1 => exact y2_ (Kd.C_below HR0_0.out HB.out)); (case side2 => exact HC0_0.out); (case side3 => exact y2_ (Kd.C_below HR0_1.out HB.out)); (case side4 => exact HC0_1.out); (case side5 => exact y2_ (Kd.C_below HR0_2.out HB.out)); (case side6 => exact HC0_2.out); rintro e w186 ⟨rfl, hb⟩; refine ⟨_, rfl, ?_⟩; replace BK139 := b3_ BK139 hb; replace BK140 := b3_ BK140 hb; replace BK141 := b3_ BK141 hb; replace BK142 := b3_ BK142 hb; replace BK143 := b3_ BK143 hb; replace BK144 := b3_ BK144 hb; replace HB := Aside0.mk (below_step (y1_ HB.out) hb); (try clear hb); (try clear hb2); (try clear hk); (try clear hi); have hcz187_0 := c1_ BK143 0 (.slice A0_0 l0_0.length c0_0); have hcz187_1 := c1_ BK143 1 (.slice A0_1 l0_1.length c0_1); have hcz187_2 := c1_ BK143 2 (.slice A0_2 l0_2.length c0_2); have hfz187_0 := f1_ BK143 0; have hfz187_1 := f1_ BK143 1; have hfz187_2 := f1_ BK143 2) | ((with_reducible refine gate_callee (f := 90) rfl ?_); refine goesL_ (some 12) rfl rfl Try.func90 s2_ rfl #[.agg #[.slice A0_0 l0_0.length c0_0, .slice A0_1 l0_1.length c0_1, .slice A0_2 l0_2.length c0_2]] rfl s3_ ?_; (with_reducible refine (impl_clonePresence.calls _ _ l0_0 _ _ l0_1 _ _ l0_2 t146 t149 t152 _ ?side1 ?side2 ?side3 ?side4 ?side5 ?side6 A7.out).mono ?_); (case side1 => exact y2_ (Kd.C_below HR0_0.out HB.out)); (case side2 => exact HC0_0.out); (case side3 => exact y2_ (Kd.C_below HR0_1.out HB.out)); (case side4 => exact HC0_1.out); (case side5 => exact y2_ (Kd.C_below HR0_2.out HB.out)); (case side6 => exact HC0_2.out); rintro e w188 ⟨v147, v150, v153, rfl, ho0, ho1, ho2, hb⟩; refine ⟨_, rfl, ?_⟩; have HO148 := Aside0.mk (Kd.R_lower ho0 (below_size (y1_ HB.out))); have HO151 := Aside0.mk (Kd.R_lower ho1 (below_size (y1_ HB.out))); have HO154 := Aside0.mk (Kd.R_lower ho2 (below_size (y1_ HB.out))); replace BK139 := b3_ BK139 hb; replace BK140 := b3_ BK140 hb; replace BK141 := b3_ BK141 hb; replace BK142 := b3_ BK142 hb; replace BK144 := b3_ BK144 hb; replace HB := Aside0.mk (below_step (y1_ HB.out) hb); (try clear hb); (try clear hb2); (try clear hk); (try clear hi); (try clear ho0); (try clear ho1); (try clear ho2)) | ((with_reducible refine gate_dst (N := 6) rfl ?_); (try (refine gate_guard (by rfl) ?_; dsimp only)); refine bx_ 6 #[.slice none 0 0, .slice none 0 0, .slice none 0 0] 27 ?_; intro gb155 hg w189 hbox hb; have GW155 := b6_ hg HB; have GE155 := b6_ hg HB; have NB139_155 := b4_ hg BK139; have NB155_139 := b5_ hg BK139; have NB140_155 := b4_ hg BK140; have NB155_140 := b5_ hg BK140; have NB141_155 := b4_ hg BK141; have NB155_141 := b5_ hg BK141; have NB142_155 := b4_ hg BK142; have NB155_142 := b5_ hg BK142; have NB144_155 := b4_ hg BK144; have NB155_144 := b5_ hg BK144; replace HO148 := r1_ HO148 hb; replace HO151 := r1_ HO151 hb; replace HO154 := r1_ HO154 hb; replace BK139 := b3_ BK139 hb; replace BK140 := b3_ BK140 hb; replace BK141 := b3_ BK141 hb; replace BK142 := b3_ BK142 hb; replace BK144 := b3_ BK144 hb; replace HB := Aside0.mk (below_step (y1_ HB.out) hb); have BK155 := Aside0.mk (hbox); clear hb hbox hg; obtain ⟨Ao190, co190, eo190⟩ := Kd.R_slice HO148.out; subst eo190; have hnb191 := NB155_139.out; have hnc191 := NB139_155.out; have hnb192 := NB155_140.out; have hnc192 := NB140_155.out; have hnb193 := NB155_141.out; have hnc193 := NB141_155.out; have hnb194 := NB155_142.out; have hnc194 := NB142_155.out; have hnb195 := NB155_144.out; have hnc195 := NB144_155.out; have hcz196_0 := c1_ BK155 0 (.slice none 0 0); have hcz196_1 := c1_ BK155 1 (.slice none 0 0); have hcz196_2 := c1_ BK155 2 (.slice none 0 0); have hfz196_0 := f1_ BK155 0; have hfz196_1 := f1_ BK155 1; have hfz196_2 := f1_ BK155 2; obtain ⟨Ao197, co197, eo197⟩ := Kd.R_slice HO151.out; subst eo197; obtain ⟨Ao198, co198, eo198⟩ := Kd.R_slice HO154.out; subst eo198))
 go_at_call 43
 go_in
 try go_wp2_with (fail)
 have n0_ : Aside0 (Kd.R k63 63 (((w189.setCell ⟨gb155, 0, none⟩ (.slice Ao190 t146.length co190)).setCell ⟨gb155, 1, none⟩ (.slice Ao197 t149.length co197)).setCell ⟨gb155, 2, none⟩ (.slice Ao198 t152.length co198)) w.heap.size (fun k_ => some k_ ≠ (.slice Ao197 t149.length co197 : Value).ownBlock) (.slice Ao190 t146.length co190) t146) := ⟨by (with_reducible repeat (first | apply Kd.R_alloc | apply Kd.R_drewN | apply Kd.R_drew)); exact Kd.R_mono (Kd.R_far3 (g := gb155) (Kd.R_types HO148.out BK155.out (by decide)) (fun _ hk => hk.2)) (fun _ hk => hk.1)⟩
 have n1_ : Aside0 (Kd.R k63 63 (((w189.setCell ⟨gb155, 0, none⟩ (.slice Ao190 t146.length co190)).setCell ⟨gb155, 1, none⟩ (.slice Ao197 t149.length co197)).setCell ⟨gb155, 2, none⟩ (.slice Ao198 t152.length co198)) w.heap.size (fun k_ => some k_ ≠ (.slice Ao190 t146.length co190 : Value).ownBlock) (.slice Ao197 t149.length co197) t149) := ⟨by (with_reducible repeat (first | apply Kd.R_alloc | apply Kd.R_drewN | apply Kd.R_drew)); exact Kd.R_mono (Kd.R_far3 (g := gb155) (Kd.R_types HO151.out BK155.out (by decide)) (fun _ hk => hk.2)) (fun _ hk => hk.1)⟩
 have n2_ : Aside0 (Kd.R k73 73 (((w189.setCell ⟨gb155, 0, none⟩ (.slice Ao190 t146.length co190)).setCell ⟨gb155, 1, none⟩ (.slice Ao197 t149.length co197)).setCell ⟨gb155, 2, none⟩ (.slice Ao198 t152.length co198)) w.heap.size (fun _ => True) (.slice Ao198 t152.length co198) t152) := ⟨by (with_reducible repeat (first | apply Kd.R_alloc | apply Kd.R_drewN | apply Kd.R_drew)); exact Kd.R_mono (Kd.R_far3 (g := gb155) (Kd.R_types HO154.out BK155.out (by decide)) (fun _ hk => hk.2)) (fun _ hk => trivial)⟩
 have n3_ : Aside0 ((((w189.setCell ⟨gb155, 0, none⟩ (.slice Ao190 t146.length co190)).setCell ⟨gb155, 1, none⟩ (.slice Ao197 t149.length co197)).setCell ⟨gb155, 2, none⟩ (.slice Ao198 t152.length co198)).heap[gb139]? = some (.cells #[.int .i64 a1] 2 (0, 0))) := ⟨by (with_reducible repeat (first | refine blk_drewN ?_ _ | refine blk_drew ?_ | refine blk_alloc ?_ _)); refine blk_far3 ?_ NB139_155.out; (with_reducible repeat (first | refine blk_drewN ?_ _ | refine blk_drew ?_ | refine blk_alloc ?_ _)); exact BK139.out⟩
 have n4_ : Aside0 ((((w189.setCell ⟨gb155, 0, none⟩ (.slice Ao190 t146.length co190)).setCell ⟨gb155, 1, none⟩ (.slice Ao197 t149.length co197)).setCell ⟨gb155, 2, none⟩ (.slice Ao198 t152.length co198)).heap[gb140]? = some (.cells #[.int .i64 a2] 2 (0, 0))) := ⟨by (with_reducible repeat (first | refine blk_drewN ?_ _ | refine blk_drew ?_ | refine blk_alloc ?_ _)); refine blk_far3 ?_ NB140_155.out; (with_reducible repeat (first | refine blk_drewN ?_ _ | refine blk_drew ?_ | refine blk_alloc ?_ _)); exact BK140.out⟩
 have n5_ : Aside0 ((((w189.setCell ⟨gb155, 0, none⟩ (.slice Ao190 t146.length co190)).setCell ⟨gb155, 1, none⟩ (.slice Ao197 t149.length co197)).setCell ⟨gb155, 2, none⟩ (.slice Ao198 t152.length co198)).heap[gb141]? = some (.cells #[.int .i64 a3] 2 (0, 0))) := ⟨by (with_reducible repeat (first | refine blk_drewN ?_ _ | refine blk_drew ?_ | refine blk_alloc ?_ _)); refine blk_far3 ?_ NB141_155.out; (with_reducible repeat (first | refine blk_drewN ?_ _ | refine blk_drew ?_ | refine blk_alloc ?_ _)); exact BK141.out⟩
 have n6_ : Aside0 ((((w189.setCell ⟨gb155, 0, none⟩ (.slice Ao190 t146.length co190)).setCell ⟨gb155, 1, none⟩ (.slice Ao197 t149.length co197)).setCell ⟨gb155, 2, none⟩ (.slice Ao198 t152.length co198)).heap[gb142]? = some (.cells #[.slice none 0 0, .slice none 0 0, .slice none 0 0] 27 (0, 0))) := ⟨by (with_reducible repeat (first | refine blk_drewN ?_ _ | refine blk_drew ?_ | refine blk_alloc ?_ _)); refine blk_far3 ?_ NB142_155.out; (with_reducible repeat (first | refine blk_drewN ?_ _ | refine blk_drew ?_ | refine blk_alloc ?_ _)); exact BK142.out⟩
 have n7_ : Aside0 ((((w189.setCell ⟨gb155, 0, none⟩ (.slice Ao190 t146.length co190)).setCell ⟨gb155, 1, none⟩ (.slice Ao197 t149.length co197)).setCell ⟨gb155, 2, none⟩ (.slice Ao198 t152.length co198)).heap[gb144]? = some (.cells #[.slice none 0 0, .slice none 0 0, .slice none 0 0] 27 (0, 0))) := ⟨by (with_reducible repeat (first | refine blk_drewN ?_ _ | refine blk_drew ?_ | refine blk_alloc ?_ _)); refine blk_far3 ?_ NB144_155.out; (with_reducible repeat (first | refine blk_drewN ?_ _ | refine blk_drew ?_ | refine blk_alloc ?_ _)); exact BK144.out⟩
 have n8_ : Aside0 ((((w189.setCell ⟨gb155, 0, none⟩ (.slice Ao190 t146.length co190)).setCell ⟨gb155, 1, none⟩ (.slice Ao197 t149.length co197)).setCell ⟨gb155, 2, none⟩ (.slice Ao198 t152.length co198)).heap[gb155]? = some (.cells #[.slice Ao190 t146.length co190, .slice Ao197 t149.length co197, .slice Ao198 t152.length co198] 27 (0, 0))) := ⟨by (with_reducible repeat (first | refine blk_drewN ?_ _ | refine blk_drew ?_ | refine blk_alloc ?_ _)); refine blk_put3 (cs := #[.slice none 0 0, .slice none 0 0, .slice none 0 0]) ?_ rfl; (with_reducible repeat (first | refine blk_drewN ?_ _ | refine blk_drew ?_ | refine blk_alloc ?_ _)); exact BK155.out⟩
 have n9_ : Aside0 (Below w.heap.size w (((w189.setCell ⟨gb155, 0, none⟩ (.slice Ao190 t146.length co190)).setCell ⟨gb155, 1, none⟩ (.slice Ao197 t149.length co197)).setCell ⟨gb155, 2, none⟩ (.slice Ao198 t152.length co198))) := ⟨by repeat (first | (with_reducible first | exact HB.out | apply below_alloc | apply pw_below_drewN | apply below_drew1 | refine below_set ?_ GE155.out) | exact HB.out)⟩
 (try clear HO148)
 (try clear HO151)
 (try clear HO154)
 (try clear BK139)
 (try clear BK140)
 (try clear BK141)
 (try clear BK142)
 (try clear BK144)
 (try clear BK155)
 (try clear HB)
 generalize (((w189.setCell ⟨gb155, 0, none⟩ (.slice Ao190 t146.length co190)).setCell ⟨gb155, 1, none⟩ (.slice Ao197 t149.length co197)).setCell ⟨gb155, 2, none⟩ (.slice Ao198 t152.length co198)) = w199 at n0_ n1_ n2_ n3_ n4_ n5_ n6_ n7_ n8_ n9_ ⊢
 have HO148 := n0_
 have HO151 := n1_
 have HO154 := n2_
 have BK139 := n3_
 have BK140 := n4_
 have BK141 := n5_
 have BK142 := n6_
 have BK144 := n7_
 have BK155 := n8_
 have HB := n9_
 clear n0_ n1_ n2_ n3_ n4_ n5_ n6_ n7_ n8_ n9_
 replace HO148 := Aside0.mk (Kd.R_drew HO148.out)
 replace HO151 := Aside0.mk (Kd.R_drew HO151.out)
 replace HO154 := Aside0.mk (Kd.R_drew HO154.out)
 replace BK139 := Aside0.mk (blk_drew BK139.out)
 replace BK140 := Aside0.mk (blk_drew BK140.out)
 replace BK141 := Aside0.mk (blk_drew BK141.out)
 replace BK142 := Aside0.mk (blk_drew BK142.out)
 replace BK144 := Aside0.mk (blk_drew BK144.out)
 replace BK155 := Aside0.mk (blk_drew BK155.out)
 replace HB := Aside0.mk (below_drew1 HB.out)
 refine start_ (n := 14) (S := fun w' => w'.cell? ⟨gb155, 0, none⟩ = some (.slice Ao190 t146.length co190) ∧ w'.cell? ⟨gb155, 1, none⟩ = some (.slice Ao197 t149.length co197) ∧ w'.cell? ⟨gb155, 2, none⟩ = some (.slice Ao198 t152.length co198) ∧ w'.cell? ⟨gb139, 0, none⟩ = some (.int .i64 a1) ∧ w'.cell? ⟨gb140, 0, none⟩ = some (.int .i64 a2) ∧ w'.cell? ⟨gb141, 0, none⟩ = some (.int .i64 a3)) (ds := [13]) m0_ s2_ rfl rfl ⟨(blk_cell BK155.out 0).trans rfl, (blk_cell BK155.out 1).trans rfl, (blk_cell BK155.out 2).trans rfl, (blk_cell BK139.out 0).trans rfl, (blk_cell BK140.out 0).trans rfl, (blk_cell BK141.out 0).trans rfl⟩ (fun hHeld => ?_)
 generalize w199.drew = w200 at HO148 HO151 HO154 BK139 BK140 BK141 BK142 BK144 BK155 HB HO148 HO151 HO154 hHeld ⊢
 refine pure_ (i := 0) (N := some 6) (v := ?_) (a' := ?_) m1_ rfl rfl s2_ (fun _ _ _ h => h) (Or.inl ⟨by rfl, ?_⟩) ?_ ?_
 rotate_left
 {
 intro w'
 go_simp
 with_reducible rfl}
 rotate_left
 · exact p1_
 refine pure_ (i := 1) (N := some 7) (v := ?_) (a' := ?_) m2_ rfl rfl s2_ (fun _ _ _ h => h) (Or.inl ⟨by rfl, ?_⟩) ?_ ?_
 rotate_left
 {
 intro w'
 go_simp
 with_reducible rfl}
 rotate_left
 · exact p1_
 refine pure_ (i := 2) (N := some 8) (v := ?_) (a' := ?_) m3_ rfl rfl s2_ (fun _ _ _ h => h) (Or.inl ⟨by rfl, ?_⟩) ?_ ?_
 rotate_left
 {
 intro w'
 go_simp
 with_reducible rfl}
 rotate_left
 · exact p1_
 refine pure_ (i := 3) (N := some 9) (v := ?_) (a' := ?_) m4_ rfl rfl s2_ (fun _ _ _ h => h) (Or.inl ⟨by rfl, ?_⟩) ?_ ?_
 rotate_left
 {
 intro w'
 go_simp
 with_reducible rfl}
 rotate_left
 · exact p1_
 refine take_ (i := 4) (N := some 10) (v := ?_) (a' := ?_) m5_ rfl rfl s2_ (fun _ _ _ h => h) (Or.inl ⟨by rfl, ?_⟩) hHeld ?_ ?_
 rotate_left
 {
 rintro w' ⟨s0, s1, s2, s3, s4, s5⟩
 go_simp
 with_reducible rfl}
 rotate_left
 · exact p1_
 refine take_ (i := 5) (N := some 11) (v := ?_) (a' := ?_) m6_ rfl rfl s2_ (fun _ _ _ h => h) (Or.inl ⟨by rfl, ?_⟩) hHeld ?_ ?_
 rotate_left
 {
 rintro w' ⟨s0, s1, s2, s3, s4, s5⟩
 go_simp
 with_reducible rfl}
 rotate_left
 · exact p1_
 refine take_ (i := 6) (N := some 12) (v := ?_) (a' := ?_) m7_ rfl rfl s2_ (fun _ _ _ h => h) (Or.inl ⟨by rfl, ?_⟩) hHeld ?_ ?_
 rotate_left
 {
 rintro w' ⟨s0, s1, s2, s3, s4, s5⟩
 go_simp
 with_reducible rfl}
 rotate_left
 · exact p1_
 refine take_ (i := 7) (N := some 13) (v := ?_) (a' := ?_) m8_ rfl rfl s2_ (fun _ _ _ h => h) (Or.inl ⟨by rfl, ?_⟩) hHeld ?_ ?_
 rotate_left
 {
 rintro w' ⟨s0, s1, s2, s3, s4, s5⟩
 go_simp
 with_reducible rfl}
 rotate_left
 · exact p1_
 refine pure_ (i := 8) (N := some 14) (v := ?_) (a' := ?_) m9_ rfl rfl s2_ (fun _ _ _ h => h) (Or.inl ⟨by rfl, ?_⟩) ?_ ?_
 rotate_left
 {
 intro w'
 go_simp
 with_reducible rfl}
 rotate_left
 · exact p1_
 refine pure_ (i := 9) (N := some 15) (v := ?_) (a' := ?_) m10_ rfl rfl s2_ (fun _ _ _ h => h) (Or.inl ⟨by rfl, ?_⟩) ?_ ?_
 rotate_left
 {
 intro w'
 go_simp
 with_reducible rfl}
 rotate_left
 · exact p1_
 refine one_ (i := 10) (N := some 16) m11_ rfl rfl s2_ (by decide) (fun K hK => ?_)
 refine goes_ Try.func44 s2_ rfl #[.slice Ao190 t146.length co190, .agg #[.int .i64 a1, .int .i64 (wrap64 (a2 + a3))]] (by rfl) rfl rfl s3_ ?_
 with_reducible refine (impl_leased_n44.calls k (fun k_ => some k_ = (.slice Ao190 t146.length co190 : Value).ownBlock) (.slice Ao190 t146.length co190) t146 a1 (wrap64 (a2 + a3)) t156 w _ ?side1 ?side2 A8.out).mono ?_
 (case side1 => repeat (first | (with_reducible first | exact HB.out | apply below_alloc | apply pw_below_drewN | apply below_drew1) | exact HB.out))
 (case side2 => exact Kd.R_tight rfl HO148.out)
 rintro e w201 ⟨v157, rfl, ho0, hb, hkp⟩
 refine ⟨_, rfl, ?_⟩
 have n0_ := Aside0.mk (blk_kept (b1_ BK139.out) hkp (fun hs_ => (fun e_ => (Kd.R_ne HO148.out BK139.out (by decide)) e_) hs_))
 have n1_ := Aside0.mk (blk_kept (b1_ BK140.out) hkp (fun hs_ => (fun e_ => (Kd.R_ne HO148.out BK140.out (by decide)) e_) hs_))
 have n2_ := Aside0.mk (blk_kept (b1_ BK141.out) hkp (fun hs_ => (fun e_ => (Kd.R_ne HO148.out BK141.out (by decide)) e_) hs_))
 have n3_ := Aside0.mk (blk_kept (b1_ BK142.out) hkp (fun hs_ => (fun e_ => (Kd.R_ne HO148.out BK142.out (by decide)) e_) hs_))
 have n4_ := Aside0.mk (blk_kept (b1_ BK144.out) hkp (fun hs_ => (fun e_ => (Kd.R_ne HO148.out BK144.out (by decide)) e_) hs_))
 have n5_ := Aside0.mk (Kd.R_mono (ok' := fun k_ => some k_ ≠ (v157 : Value).ownBlock) (Kd.R_keptB (HO151.out) hkp (fun k_ hk_ hs_ => (hk_) hs_)) (fun k_ hk_ => fun e_ => Or.elim (ho0.1 k_ e_.symm) (fun hs_ => hk_.2.1 hs_) (fun hn_ => Nat.not_le.2 hk_.2.2 hn_)))
 have n6_ := Aside0.mk (Kd.R_mono (ok' := fun k_ => True) (Kd.R_keptB ((Kd.R_apart' HO154.out (Kd.R_typed HO148.out) (by decide))) hkp (fun k_ hk_ hs_ => (hk_.2) hs_)) (fun k_ hk_ => trivial))
 have n7_ := Aside0.mk (blk_kept (b1_ BK155.out) hkp (fun hs_ => (fun e_ => (Kd.R_ne HO148.out BK155.out (by decide)) e_) hs_))
 have n8_ := Aside0.mk (Kd.R_mono (ok' := fun k_ => some k_ ≠ (.slice Ao197 t149.length co197 : Value).ownBlock) ho0 (fun k_ hk_ => Or.elim hk_ (fun hs_ => fun e_ => (((HO151.out).1 k_ e_.symm)) hs_) (fun hn_ => (Kd.fresh' (Kd.R_lt (b2_ HO151.out)) k_ hn_))))
 have n9_ := Aside0.mk (hb)
 clear BK139
 clear BK140
 clear BK141
 clear BK142
 clear BK144
 clear HO151
 clear HO154
 clear BK155
 clear HB
 clear HO148
 have BK139 := n0_
 have BK140 := n1_
 have BK141 := n2_
 have BK142 := n3_
 have BK144 := n4_
 have HO151 := n5_
 have HO154 := n6_
 have BK155 := n7_
 have HO158 := n8_
 have HB := n9_
 clear n0_ n1_ n2_ n3_ n4_ n5_ n6_ n7_ n8_ n9_
 (try clear hb)
 (try clear hkp)
 (try clear ho0)
 obtain ⟨Ao202, co202, eo202⟩ := Kd.R_slice HO158.out
 (first | subst eo202 | (injection eo202 with f1_ f2_ f3_; have f4_ := f1_.symm; have f5_ := f3_.symm; clear f1_ f2_ f3_; subst f4_; subst f5_))
 refine hK.out _ _ ⟨(blk_cell BK155.out 0).trans rfl, (blk_cell BK155.out 1).trans rfl, (blk_cell BK155.out 2).trans rfl, (blk_cell BK139.out 0).trans rfl, (blk_cell BK140.out 0).trans rfl, (blk_cell BK141.out 0).trans rfl⟩ (fun hHeld => ?_)
 clear hK K
 refine norm_ (a' := ?_) ?_ ?_
 rotate_left
 {
 show Act.put _ (some 16) _ = _
 simp only [Act.put, List.setIfInBounds_toArray, List.set_cons_zero, List.set_cons_succ, i64_w, i32_w]
 rfl}
 refine pure_ (i := 11) (N := some 17) (v := ?_) (a' := ?_) m12_ rfl rfl s2_ (fun _ _ _ h => h) (Or.inl ⟨by rfl, ?_⟩) ?_ ?_
 rotate_left
 {
 intro w'
 go_simp
 with_reducible rfl}
 rotate_left
 · exact p1_
 refine pure_ (i := 12) (N := some 18) (v := ?_) (a' := ?_) m13_ rfl rfl s2_ (fun _ _ _ h => h) (Or.inl ⟨by rfl, ?_⟩) ?_ ?_
 rotate_left
 {
 intro w'
 go_simp
 with_reducible rfl}
 rotate_left
 · exact p1_
 refine last_ (i := 13) (N := none) m14_ rfl rfl s2_ (by decide) (fun K hK => ?_)
 have hs203 : w201.cell? ⟨gb155, 0, none⟩ = some (.slice Ao190 t146.length co190) := (blk_cell BK155.out 0).trans rfl
 have hfs203 := blk_frozen BK155.out 0
 have hns203_0 := NB139_155.out
 have hns203_1 := NB140_155.out
 have hns203_2 := NB141_155.out
 have hns203_3 := NB142_155.out
 have hns203_4 := NB144_155.out
 have hms203_0 := NB155_139.out
 have hms203_1 := NB155_140.out
 have hms203_2 := NB155_141.out
 have hms203_3 := NB155_142.out
 have hms203_4 := NB155_144.out
 refine skip_ (w1 := ?_) (by rfl) rfl ?_ ?_
 rotate_left
 {
 go_simp
 rfl}
 refine hK.out _ _ ?_
 clear hK K
 refine done_ s2_ ?_
 have hnb204 := NB140_139.out
 have hnc204 := NB139_140.out
 have hnb205 := NB140_141.out
 have hnc205 := NB141_140.out
 have hnb206 := NB140_142.out
 have hnc206 := NB142_140.out
 have hnb207 := NB140_144.out
 have hnc207 := NB144_140.out
 have hcz208_0 := c1_ BK140 0 (.int .i64 a2)
 have hfz208_0 := f1_ BK140 0
 try go_wp2_with (first | ((with_reducible refine gate_callee (f := 45) rfl ?_); refine goesL_ (some 20) rfl rfl Try.func45 s2_ rfl #[.int .i64 a2] rfl s3_ ?_; (with_reducible refine (impl_isTick.calls a2 true _ A9.out).mono ?_); rintro e w' ⟨rfl, ⟨nd, rfl⟩⟩; refine ⟨_, rfl, ?_⟩; have hnb209 := NB141_139.out; have hnc209 := NB139_141.out; have hnb210 := NB141_142.out; have hnc210 := NB142_141.out; have hnb211 := NB141_144.out; have hnc211 := NB144_141.out; have hcz212_0 := c1_ BK141 0 (.int .i64 a3); have hfz212_0 := f1_ BK141 0) | (go_at_call 46; (with_reducible refine (impl_in.calls a3 1 1000 false _ A11.out).mono ?_); rintro e w' ⟨rfl, ⟨nd, rfl⟩⟩; have hnb213 := NB144_139.out; have hnc213 := NB139_144.out; have hnb214 := NB144_142.out; have hnc214 := NB142_144.out; have hcz215_0 := c1_ BK144 0 (.slice none 0 0); have hcz215_1 := c1_ BK144 1 (.slice none 0 0); have hcz215_2 := c1_ BK144 2 (.slice none 0 0); have hfz215_0 := f1_ BK144 0; have hfz215_1 := f1_ BK144 1; have hfz215_2 := f1_ BK144 2))
 (try simp only [Exit.inBlock, Exit.then])
 refine bodyPost_ret (results_ct rfl _ _ gb144 27 #[.slice none 0 0, .slice none 0 0, .slice none 0 0] (0, 0) _ rfl (by (with_reducible repeat (first | refine blk_drewN ?_ _ | refine blk_drew ?_ | refine blk_alloc ?_ _)); refine blk_put3 (cs := #[.slice none 0 0, .slice none 0 0, .slice none 0 0]) ?_ rfl; (with_reducible repeat (first | refine blk_drewN ?_ _ | refine blk_drew ?_ | refine blk_alloc ?_ _)); refine blk_far ?_ NB144_155.out _; (with_reducible repeat (first | refine blk_drewN ?_ _ | refine blk_drew ?_ | refine blk_alloc ?_ _)); exact BK144.out) Try.underlying27 rfl s2_) rfl ?_
 (try simp only [])
 have hnb216 := NB142_139.out
 have hnc216 := NB139_142.out
 have hcz217_0 := c1_ BK142 0 (.slice none 0 0)
 have hcz217_1 := c1_ BK142 1 (.slice none 0 0)
 have hcz217_2 := c1_ BK142 2 (.slice none 0 0)
 have hfz217_0 := f1_ BK142 0
 have hfz217_1 := f1_ BK142 1
 have hfz217_2 := f1_ BK142 2
 try go_wp2_with (fail)
 refine bodyPost_ret (results_ct rfl _ _ gb142 27 #[.slice none 0 0, .slice none 0 0, .slice none 0 0] (0, 0) _ rfl (by (with_reducible repeat (first | refine blk_drewN ?_ _ | refine blk_drew ?_ | refine blk_alloc ?_ _)); refine blk_put3 (cs := #[.slice none 0 0, .slice none 0 0, .slice none 0 0]) ?_ rfl; (with_reducible repeat (first | refine blk_drewN ?_ _ | refine blk_drew ?_ | refine blk_alloc ?_ _)); refine blk_far3 ?_ NB142_144.out; (with_reducible repeat (first | refine blk_drewN ?_ _ | refine blk_drew ?_ | refine blk_alloc ?_ _)); refine blk_far ?_ NB142_155.out _; (with_reducible repeat (first | refine blk_drewN ?_ _ | refine blk_drew ?_ | refine blk_alloc ?_ _)); exact BK142.out) Try.underlying27 rfl s2_) rfl ?_
 exact ⟨_, _, _, by first | rfl | (simp [errW_none, errW_some] <;> rfl) | (simp [*, errW_none, errW_some] <;> rfl), by first | exact Kd.R_nil _ _ _ _ _ | exact Kd.N_nil _ _ _ _ _ | exact Kd.V_nil _ _ _ _ _ | exact Kd.Q_nil _ _ _ _ _ | exact Kd.S_nil _ _ _ _ _, by first | exact Kd.R_nil _ _ _ _ _ | exact Kd.N_nil _ _ _ _ _ | exact Kd.V_nil _ _ _ _ _ | exact Kd.Q_nil _ _ _ _ _ | exact Kd.S_nil _ _ _ _ _, by first | exact Kd.R_nil _ _ _ _ _ | exact Kd.N_nil _ _ _ _ _ | exact Kd.V_nil _ _ _ _ _ | exact Kd.Q_nil _ _ _ _ _ | exact Kd.S_nil _ _ _ _ _, by repeat (first | (with_reducible first | exact HB.out | apply below_alloc | apply pw_below_drewN | apply below_drew1 | refine below_set ?_ GE142.out | refine below_set ?_ GE144.out | refine below_set ?_ GE155.out) | exact HB.out)⟩}}
 {
 replace c10 := Bool.eq_false_iff.mpr c10
 subst c10
 have H1 : (some (([] : List (S63)), ([] : List (S63)), ([] : List (S73)), false)) = some (r1, r2, r3, r4) := by rw [if_neg (show ¬ (false = true) by decide)] at H; exact H
 clear H
 have H := H1
 clear H1
 simp only [Option.some.injEq, Prod.mk.injEq] at H
 obtain ⟨rfl, rfl, rfl, rfl⟩ := H
 go_enter Try.func14, Try.ntmps14
 try go_wp2_with (first | ((with_reducible refine gate_dst (N := 4) rfl ?_); (try (refine gate_guard (by rfl) ?_; dsimp only)); refine bx_ 4 #[.slice A0_0 l0_0.length c0_0, .slice A0_1 l0_1.length c0_1, .slice A0_2 l0_2.length c0_2] 27 ?_; intro gb138 hg w218 hbox hb; have GW138 := b6_ hg HB; have GE138 := b6_ hg HB; replace HB := Aside0.mk (below_step (y1_ HB.out) hb); have BK138 := Aside0.mk (hbox); clear hb hbox hg) | ((with_reducible refine gate_dst (N := 5) rfl ?_); (try (refine gate_guard (by rfl) ?_; dsimp only)); refine bx_ 5 #[.int .i64 a1] 2 ?_; intro gb139 hg w219 hbox hb; have GW139 := b6_ hg HB; have GE139 := b6_ hg HB; have NB138_139 := b4_ hg BK138; have NB139_138 := b5_ hg BK138; replace BK138 := b3_ BK138 hb; replace HB := Aside0.mk (below_step (y1_ HB.out) hb); have BK139 := Aside0.mk (hbox); clear hb hbox hg) | ((with_reducible refine gate_dst (N := 6) rfl ?_); (try (refine gate_guard (by rfl) ?_; dsimp only)); refine bx_ 6 #[.int .i64 a2] 2 ?_; intro gb140 hg w220 hbox hb; have GW140 := b6_ hg HB; have GE140 := b6_ hg HB; have NB138_140 := b4_ hg BK138; have NB140_138 := b5_ hg BK138; have NB139_140 := b4_ hg BK139; have NB140_139 := b5_ hg BK139; replace BK138 := b3_ BK138 hb; replace BK139 := b3_ BK139 hb; replace HB := Aside0.mk (below_step (y1_ HB.out) hb); have BK140 := Aside0.mk (hbox); clear hb hbox hg) | ((with_reducible refine gate_dst (N := 7) rfl ?_); (try (refine gate_guard (by rfl) ?_; dsimp only)); refine bx_ 7 #[.int .i64 a3] 2 ?_; intro gb141 hg w221 hbox hb; have GW141 := b6_ hg HB; have GE141 := b6_ hg HB; have NB138_141 := b4_ hg BK138; have NB141_138 := b5_ hg BK138; have NB139_141 := b4_ hg BK139; have NB141_139 := b5_ hg BK139; have NB140_141 := b4_ hg BK140; have NB141_140 := b5_ hg BK140; replace BK138 := b3_ BK138 hb; replace BK139 := b3_ BK139 hb; replace BK140 := b3_ BK140 hb; replace HB := Aside0.mk (below_step (y1_ HB.out) hb); have BK141 := Aside0.mk (hbox); clear hb hbox hg) | ((with_reducible refine gate_dst (N := 8) rfl ?_); (try (refine gate_guard (by rfl) ?_; dsimp only)); refine bx_ 8 #[.slice none 0 0, .slice none 0 0, .slice none 0 0] 27 ?_; intro gb142 hg w222 hbox hb; have GW142 := b6_ hg HB; have GE142 := b6_ hg HB; have NB138_142 := b4_ hg BK138; have NB142_138 := b5_ hg BK138; have NB139_142 := b4_ hg BK139; have NB142_139 := b5_ hg BK139; have NB140_142 := b4_ hg BK140; have NB142_140 := b5_ hg BK140; have NB141_142 := b4_ hg BK141; have NB142_141 := b5_ hg BK141; replace BK138 := b3_ BK138 hb; replace BK139 := b3_ BK139 hb; replace BK140 := b3_ BK140 hb; replace BK141 := b3_ BK141 hb; replace HB := Aside0.mk (below_step (y1_ HB.out) hb); have BK142 := Aside0.mk (hbox); clear hb hbox hg; have hnb223 := NB138_139.out; have hnc223 := NB139_138.out; have hnb224 := NB138_140.out; have hnc224 := NB140_138.out; have hnb225 := NB138_141.out; have hnc225 := NB141_138.out; have hnb226 := NB138_142.out; have hnc226 := NB142_138.out; have hcz227_0 := c1_ BK138 0 (.slice A0_0 l0_0.length c0_0); have hcz227_1 := c1_ BK138 1 (.slice A0_1 l0_1.length c0_1); have hcz227_2 := c1_ BK138 2 (.slice A0_2 l0_2.length c0_2); have hfz227_0 := f1_ BK138 0; have hfz227_1 := f1_ BK138 1; have hfz227_2 := f1_ BK138 2))
 go_at_call 42
 go_in
 try go_wp2_with (first | ((with_reducible refine gate_dst (N := 2) rfl ?_); (try (refine gate_guard (by rfl) ?_; dsimp only)); refine bx_ 2 #[.slice A0_0 l0_0.length c0_0, .slice A0_1 l0_1.length c0_1, .slice A0_2 l0_2.length c0_2] 27 ?_; intro gb143 hg w228 hbox hb; have GW143 := b6_ hg HB; have GE143 := b6_ hg HB; have NB139_143 := b4_ hg BK139; have NB143_139 := b5_ hg BK139; have NB140_143 := b4_ hg BK140; have NB143_140 := b5_ hg BK140; have NB141_143 := b4_ hg BK141; have NB143_141 := b5_ hg BK141; have NB142_143 := b4_ hg BK142; have NB143_142 := b5_ hg BK142; replace BK139 := b3_ BK139 hb; replace BK140 := b3_ BK140 hb; replace BK141 := b3_ BK141 hb; replace BK142 := b3_ BK142 hb; replace HB := Aside0.mk (below_step (y1_ HB.out) hb); have BK143 := Aside0.mk (hbox); clear hb hbox hg) | ((with_reducible refine gate_dst (N := 4) rfl ?_); (try (refine gate_guard (by rfl) ?_; dsimp only)); refine bx_ 4 #[.slice none 0 0, .slice none 0 0, .slice none 0 0] 27 ?_; intro gb144 hg w229 hbox hb; have GW144 := b6_ hg HB; have GE144 := b6_ hg HB; have NB139_144 := b4_ hg BK139; have NB144_139 := b5_ hg BK139; have NB140_144 := b4_ hg BK140; have NB144_140 := b5_ hg BK140; have NB141_144 := b4_ hg BK141; have NB144_141 := b5_ hg BK141; have NB142_144 := b4_ hg BK142; have NB144_142 := b5_ hg BK142; have NB143_144 := b4_ hg BK143; have NB144_143 := b5_ hg BK143; replace BK139 := b3_ BK139 hb; replace BK140 := b3_ BK140 hb; replace BK141 := b3_ BK141 hb; replace BK142 := b3_ BK142 hb; replace BK143 := b3_ BK143 hb; replace HB := Aside0.mk (below_step (y1_ HB.out) hb); have BK144 := Aside0.mk (hbox); clear hb hbox hg; have hnb230 := NB143_139.out; have hnc230 := NB139_143.out; have hnb231 := NB143_140.out; have hnc231 := NB140_143.out; have hnb232 := NB143_141.out; have hnc232 := NB141_143.out; have hnb233 := NB143_142.out; have hnc233 := NB142_143.out; have hnb234 := NB143_144.out; have hnc234 := NB144_143.out; have hcz235_0 := c1_ BK143 0 (.slice A0_0 l0_0.length c0_0); have hcz235_1 := c1_ BK143 1 (.slice A0_1 l0_1.length c0_1); have hcz235_2 := c1_ BK143 2 (.slice A0_2 l0_2.length c0_2); have hfz235_0 := f1_ BK143 0; have hfz235_1 := f1_ BK143 1; have hfz235_2 := f1_ BK143 2) | ((with_reducible refine gate_callee (f := 19) rfl ?_); refine goesL_ (some 8) rfl rfl Try.func19 s2_ rfl #[.agg #[.slice A0_0 l0_0.length c0_0, .slice A0_1 l0_1.length c0_1, .slice A0_2 l0_2.length c0_2]] rfl s3_ ?_; (with_reducible refine (impl_ValidPresence.calls k _ _ l0_0 _ _ l0_1 _ _ l0_2 true _ ?side1 ?side2 ?side3 ?side4 ?side5 ?side6 A5.out).mono ?_); (case side1 => exact y2_ (Kd.C_below HR0_0.out HB.out)); (case side2 => exact HC0_0.out); (case side3 => exact y2_ (Kd.C_below HR0_1.out HB.out)); (case side4 => exact HC0_1.out); (case side5 => exact y2_ (Kd.C_below HR0_2.out HB.out)); (case side6 => exact HC0_2.out); rintro e w236 ⟨rfl, hb⟩; refine ⟨_, rfl, ?_⟩; replace BK139 := b3_ BK139 hb; replace BK140 := b3_ BK140 hb; replace BK141 := b3_ BK141 hb; replace BK142 := b3_ BK142 hb; replace BK143 := b3_ BK143 hb; replace BK144 := b3_ BK144 hb; replace HB := Aside0.mk (below_step (y1_ HB.out) hb); (try clear hb); (try clear hb2); (try clear hk); (try clear hi); have hcz237_0 := c1_ BK143 0 (.slice A0_0 l0_0.length c0_0); have hcz237_1 := c1_ BK143 1 (.slice A0_1 l0_1.length c0_1); have hcz237_2 := c1_ BK143 2 (.slice A0_2 l0_2.length c0_2); have hfz237_0 := f1_ BK143 0; have hfz237_1 := f1_ BK143 1; have hfz237_2 := f1_ BK143 2) | ((with_reducible refine gate_callee (f := 90) rfl ?_); refine goesL_ (some 12) rfl rfl Try.func90 s2_ rfl #[.agg #[.slice A0_0 l0_0.length c0_0, .slice A0_1 l0_1.length c0_1, .slice A0_2 l0_2.length c0_2]] rfl s3_ ?_; (with_reducible refine (impl_clonePresence.calls _ _ l0_0 _ _ l0_1 _ _ l0_2 t146 t149 t152 _ ?side1 ?side2 ?side3 ?side4 ?side5 ?side6 A7.out).mono ?_); (case side1 => exact y2_ (Kd.C_below HR0_0.out HB.out)); (case side2 => exact HC0_0.out); (case side3 => exact y2_ (Kd.C_below HR0_1.out HB.out)); (case side4 => exact HC0_1.out); (case side5 => exact y2_ (Kd.C_below HR0_2.out HB.out)); (case side6 => exact HC0_2.out); rintro e w238 ⟨v147, v150, v153, rfl, ho0, ho1, ho2, hb⟩; refine ⟨_, rfl, ?_⟩; have HO148 := Aside0.mk (Kd.R_lower ho0 (below_size (y1_ HB.out))); have HO151 := Aside0.mk (Kd.R_lower ho1 (below_size (y1_ HB.out))); have HO154 := Aside0.mk (Kd.R_lower ho2 (below_size (y1_ HB.out))); replace BK139 := b3_ BK139 hb; replace BK140 := b3_ BK140 hb; replace BK141 := b3_ BK141 hb; replace BK142 := b3_ BK142 hb; replace BK144 := b3_ BK144 hb; replace HB := Aside0.mk (below_step (y1_ HB.out) hb); (try clear hb); (try clear hb2); (try clear hk); (try clear hi); (try clear ho0); (try clear ho1); (try clear ho2)) | ((with_reducible refine gate_dst (N := 6) rfl ?_); (try (refine gate_guard (by rfl) ?_; dsimp only)); refine bx_ 6 #[.slice none 0 0, .slice none 0 0, .slice none 0 0] 27 ?_; intro gb155 hg w239 hbox hb; have GW155 := b6_ hg HB; have GE155 := b6_ hg HB; have NB139_155 := b4_ hg BK139; have NB155_139 := b5_ hg BK139; have NB140_155 := b4_ hg BK140; have NB155_140 := b5_ hg BK140; have NB141_155 := b4_ hg BK141; have NB155_141 := b5_ hg BK141; have NB142_155 := b4_ hg BK142; have NB155_142 := b5_ hg BK142; have NB144_155 := b4_ hg BK144; have NB155_144 := b5_ hg BK144; replace HO148 := r1_ HO148 hb; replace HO151 := r1_ HO151 hb; replace HO154 := r1_ HO154 hb; replace BK139 := b3_ BK139 hb; replace BK140 := b3_ BK140 hb; replace BK141 := b3_ BK141 hb; replace BK142 := b3_ BK142 hb; replace BK144 := b3_ BK144 hb; replace HB := Aside0.mk (below_step (y1_ HB.out) hb); have BK155 := Aside0.mk (hbox); clear hb hbox hg; obtain ⟨Ao240, co240, eo240⟩ := Kd.R_slice HO148.out; subst eo240; have hnb241 := NB155_139.out; have hnc241 := NB139_155.out; have hnb242 := NB155_140.out; have hnc242 := NB140_155.out; have hnb243 := NB155_141.out; have hnc243 := NB141_155.out; have hnb244 := NB155_142.out; have hnc244 := NB142_155.out; have hnb245 := NB155_144.out; have hnc245 := NB144_155.out; have hcz246_0 := c1_ BK155 0 (.slice none 0 0); have hcz246_1 := c1_ BK155 1 (.slice none 0 0); have hcz246_2 := c1_ BK155 2 (.slice none 0 0); have hfz246_0 := f1_ BK155 0; have hfz246_1 := f1_ BK155 1; have hfz246_2 := f1_ BK155 2; obtain ⟨Ao247, co247, eo247⟩ := Kd.R_slice HO151.out; subst eo247; obtain ⟨Ao248, co248, eo248⟩ := Kd.R_slice HO154.out; subst eo248))
 go_at_call 43
 go_in
 try go_wp2_with (fail)
 have n0_ : Aside0 (Kd.R k63 63 (((w239.setCell ⟨gb155, 0, none⟩ (.slice Ao240 t146.length co240)).setCell ⟨gb155, 1, none⟩ (.slice Ao247 t149.length co247)).setCell ⟨gb155, 2, none⟩ (.slice Ao248 t152.length co248)) w.heap.size (fun k_ => some k_ ≠ (.slice Ao247 t149.length co247 : Value).ownBlock) (.slice Ao240 t146.length co240) t146) := ⟨by (with_reducible repeat (first | apply Kd.R_alloc | apply Kd.R_drewN | apply Kd.R_drew)); exact Kd.R_mono (Kd.R_far3 (g := gb155) (Kd.R_types HO148.out BK155.out (by decide)) (fun _ hk => hk.2)) (fun _ hk => hk.1)⟩
 have n1_ : Aside0 (Kd.R k63 63 (((w239.setCell ⟨gb155, 0, none⟩ (.slice Ao240 t146.length co240)).setCell ⟨gb155, 1, none⟩ (.slice Ao247 t149.length co247)).setCell ⟨gb155, 2, none⟩ (.slice Ao248 t152.length co248)) w.heap.size (fun k_ => some k_ ≠ (.slice Ao240 t146.length co240 : Value).ownBlock) (.slice Ao247 t149.length co247) t149) := ⟨by (with_reducible repeat (first | apply Kd.R_alloc | apply Kd.R_drewN | apply Kd.R_drew)); exact Kd.R_mono (Kd.R_far3 (g := gb155) (Kd.R_types HO151.out BK155.out (by decide)) (fun _ hk => hk.2)) (fun _ hk => hk.1)⟩
 have n2_ : Aside0 (Kd.R k73 73 (((w239.setCell ⟨gb155, 0, none⟩ (.slice Ao240 t146.length co240)).setCell ⟨gb155, 1, none⟩ (.slice Ao247 t149.length co247)).setCell ⟨gb155, 2, none⟩ (.slice Ao248 t152.length co248)) w.heap.size (fun _ => True) (.slice Ao248 t152.length co248) t152) := ⟨by (with_reducible repeat (first | apply Kd.R_alloc | apply Kd.R_drewN | apply Kd.R_drew)); exact Kd.R_mono (Kd.R_far3 (g := gb155) (Kd.R_types HO154.out BK155.out (by decide)) (fun _ hk => hk.2)) (fun _ hk => trivial)⟩
 have n3_ : Aside0 ((((w239.setCell ⟨gb155, 0, none⟩ (.slice Ao240 t146.length co240)).setCell ⟨gb155, 1, none⟩ (.slice Ao247 t149.length co247)).setCell ⟨gb155, 2, none⟩ (.slice Ao248 t152.length co248)).heap[gb139]? = some (.cells #[.int .i64 a1] 2 (0, 0))) := ⟨by (with_reducible repeat (first | refine blk_drewN ?_ _ | refine blk_drew ?_ | refine blk_alloc ?_ _)); refine blk_far3 ?_ NB139_155.out; (with_reducible repeat (first | refine blk_drewN ?_ _ | refine blk_drew ?_ | refine blk_alloc ?_ _)); exact BK139.out⟩
 have n4_ : Aside0 ((((w239.setCell ⟨gb155, 0, none⟩ (.slice Ao240 t146.length co240)).setCell ⟨gb155, 1, none⟩ (.slice Ao247 t149.length co247)).setCell ⟨gb155, 2, none⟩ (.slice Ao248 t152.length co248)).heap[gb140]? = some (.cells #[.int .i64 a2] 2 (0, 0))) := ⟨by (with_reducible repeat (first | refine blk_drewN ?_ _ | refine blk_drew ?_ | refine blk_alloc ?_ _)); refine blk_far3 ?_ NB140_155.out; (with_reducible repeat (first | refine blk_drewN ?_ _ | refine blk_drew ?_ | refine blk_alloc ?_ _)); exact BK140.out⟩
 have n5_ : Aside0 ((((w239.setCell ⟨gb155, 0, none⟩ (.slice Ao240 t146.length co240)).setCell ⟨gb155, 1, none⟩ (.slice Ao247 t149.length co247)).setCell ⟨gb155, 2, none⟩ (.slice Ao248 t152.length co248)).heap[gb141]? = some (.cells #[.int .i64 a3] 2 (0, 0))) := ⟨by (with_reducible repeat (first | refine blk_drewN ?_ _ | refine blk_drew ?_ | refine blk_alloc ?_ _)); refine blk_far3 ?_ NB141_155.out; (with_reducible repeat (first | refine blk_drewN ?_ _ | refine blk_drew ?_ | refine blk_alloc ?_ _)); exact BK141.out⟩
 have n6_ : Aside0 ((((w239.setCell ⟨gb155, 0, none⟩ (.slice Ao240 t146.length co240)).setCell ⟨gb155, 1, none⟩ (.slice Ao247 t149.length co247)).setCell ⟨gb155, 2, none⟩ (.slice Ao248 t152.length co248)).heap[gb142]? = some (.cells #[.slice none 0 0, .slice none 0 0, .slice none 0 0] 27 (0, 0))) := ⟨by (with_reducible repeat (first | refine blk_drewN ?_ _ | refine blk_drew ?_ | refine blk_alloc ?_ _)); refine blk_far3 ?_ NB142_155.out; (with_reducible repeat (first | refine blk_drewN ?_ _ | refine blk_drew ?_ | refine blk_alloc ?_ _)); exact BK142.out⟩
 have n7_ : Aside0 ((((w239.setCell ⟨gb155, 0, none⟩ (.slice Ao240 t146.length co240)).setCell ⟨gb155, 1, none⟩ (.slice Ao247 t149.length co247)).setCell ⟨gb155, 2, none⟩ (.slice Ao248 t152.length co248)).heap[gb144]? = some (.cells #[.slice none 0 0, .slice none 0 0, .slice none 0 0] 27 (0, 0))) := ⟨by (with_reducible repeat (first | refine blk_drewN ?_ _ | refine blk_drew ?_ | refine blk_alloc ?_ _)); refine blk_far3 ?_ NB144_155.out; (with_reducible repeat (first | refine blk_drewN ?_ _ | refine blk_drew ?_ | refine blk_alloc ?_ _)); exact BK144.out⟩
 have n8_ : Aside0 ((((w239.setCell ⟨gb155, 0, none⟩ (.slice Ao240 t146.length co240)).setCell ⟨gb155, 1, none⟩ (.slice Ao247 t149.length co247)).setCell ⟨gb155, 2, none⟩ (.slice Ao248 t152.length co248)).heap[gb155]? = some (.cells #[.slice Ao240 t146.length co240, .slice Ao247 t149.length co247, .slice Ao248 t152.length co248] 27 (0, 0))) := ⟨by (with_reducible repeat (first | refine blk_drewN ?_ _ | refine blk_drew ?_ | refine blk_alloc ?_ _)); refine blk_put3 (cs := #[.slice none 0 0, .slice none 0 0, .slice none 0 0]) ?_ rfl; (with_reducible repeat (first | refine blk_drewN ?_ _ | refine blk_drew ?_ | refine blk_alloc ?_ _)); exact BK155.out⟩
 have n9_ : Aside0 (Below w.heap.size w (((w239.setCell ⟨gb155, 0, none⟩ (.slice Ao240 t146.length co240)).setCell ⟨gb155, 1, none⟩ (.slice Ao247 t149.length co247)).setCell ⟨gb155, 2, none⟩ (.slice Ao248 t152.length co248))) := ⟨by repeat (first | (with_reducible first | exact HB.out | apply below_alloc | apply pw_below_drewN | apply below_drew1 | refine below_set ?_ GE155.out) | exact HB.out)⟩
 (try clear HO148)
 (try clear HO151)
 (try clear HO154)
 (try clear BK139)
 (try clear BK140)
 (try clear BK141)
 (try clear BK142)
 (try clear BK144)
 (try clear BK155)
 (try clear HB)
 generalize (((w239.setCell ⟨gb155, 0, none⟩ (.slice Ao240 t146.length co240)).setCell ⟨gb155, 1, none⟩ (.slice Ao247 t149.length co247)).setCell ⟨gb155, 2, none⟩ (.slice Ao248 t152.length co248)) = w249 at n0_ n1_ n2_ n3_ n4_ n5_ n6_ n7_ n8_ n9_ ⊢
 have HO148 := n0_
 have HO151 := n1_
 have HO154 := n2_
 have BK139 := n3_
 have BK140 := n4_
 have BK141 := n5_
 have BK142 := n6_
 have BK144 := n7_
 have BK155 := n8_
 have HB := n9_
 clear n0_ n1_ n2_ n3_ n4_ n5_ n6_ n7_ n8_ n9_
 replace HO148 := Aside0.mk (Kd.R_drew HO148.out)
 replace HO151 := Aside0.mk (Kd.R_drew HO151.out)
 replace HO154 := Aside0.mk (Kd.R_drew HO154.out)
 replace BK139 := Aside0.mk (blk_drew BK139.out)
 replace BK140 := Aside0.mk (blk_drew BK140.out)
 replace BK141 := Aside0.mk (blk_drew BK141.out)
 replace BK142 := Aside0.mk (blk_drew BK142.out)
 replace BK144 := Aside0.mk (blk_drew BK144.out)
 replace BK155 := Aside0.mk (blk_drew BK155.out)
 replace HB := Aside0.mk (below_drew1 HB.out)
 refine start_ (n := 14) (S := fun w' => w'.cell? ⟨gb155, 0, none⟩ = some (.slice Ao240 t146.length co240) ∧ w'.cell? ⟨gb155, 1, none⟩ = some (.slice Ao247 t149.length co247) ∧ w'.cell? ⟨gb155, 2, none⟩ = some (.slice Ao248 t152.length co248) ∧ w'.cell? ⟨gb139, 0, none⟩ = some (.int .i64 a1) ∧ w'.cell? ⟨gb140, 0, none⟩ = some (.int .i64 a2) ∧ w'.cell? ⟨gb141, 0, none⟩ = some (.int .i64 a3)) (ds := [13]) m0_ s2_ rfl rfl ⟨(blk_cell BK155.out 0).trans rfl, (blk_cell BK155.out 1).trans rfl, (blk_cell BK155.out 2).trans rfl, (blk_cell BK139.out 0).trans rfl, (blk_cell BK140.out 0).trans rfl, (blk_cell BK141.out 0).trans rfl⟩ (fun hHeld => ?_)
 generalize w249.drew = w250 at HO148 HO151 HO154 BK139 BK140 BK141 BK142 BK144 BK155 HB HO148 HO151 HO154 hHeld ⊢
 refine pure_ (i := 0) (N := some 6) (v := ?_) (a' := ?_) m1_ rfl rfl s2_ (fun _ _ _ h => h) (Or.inl ⟨by rfl, ?_⟩) ?_ ?_
 rotate_left
 {
 intro w'
 go_simp
 with_reducible rfl}
 rotate_left
 · exact p1_
 refine pure_ (i := 1) (N := some 7) (v := ?_) (a' := ?_) m2_ rfl rfl s2_ (fun _ _ _ h => h) (Or.inl ⟨by rfl, ?_⟩) ?_ ?_
 rotate_left
 {
 intro w'
 go_simp
 with_reducible rfl}
 rotate_left
 · exact p1_
 refine pure_ (i := 2) (N := some 8) (v := ?_) (a' := ?_) m3_ rfl rfl s2_ (fun _ _ _ h => h) (Or.inl ⟨by rfl, ?_⟩) ?_ ?_
 rotate_left
 {
 intro w'
 go_simp
 with_reducible rfl}
 rotate_left
 · exact p1_
 refine pure_ (i := 3) (N := some 9) (v := ?_) (a' := ?_) m4_ rfl rfl s2_ (fun _ _ _ h => h) (Or.inl ⟨by rfl, ?_⟩) ?_ ?_
 rotate_left
 {
 intro w'
 go_simp
 with_reducible rfl}
 rotate_left
 · exact p1_
 refine take_ (i := 4) (N := some 10) (v := ?_) (a' := ?_) m5_ rfl rfl s2_ (fun _ _ _ h => h) (Or.inl ⟨by rfl, ?_⟩) hHeld ?_ ?_
 rotate_left
 {
 rintro w' ⟨s0, s1, s2, s3, s4, s5⟩
 go_simp
 with_reducible rfl}
 rotate_left
 · exact p1_
 refine take_ (i := 5) (N := some 11) (v := ?_) (a' := ?_) m6_ rfl rfl s2_ (fun _ _ _ h => h) (Or.inl ⟨by rfl, ?_⟩) hHeld ?_ ?_
 rotate_left
 {
 rintro w' ⟨s0, s1, s2, s3, s4, s5⟩
 go_simp
 with_reducible rfl}
 rotate_left
 · exact p1_
 refine take_ (i := 6) (N := some 12) (v := ?_) (a' := ?_) m7_ rfl rfl s2_ (fun _ _ _ h => h) (Or.inl ⟨by rfl, ?_⟩) hHeld ?_ ?_
 rotate_left
 {
 rintro w' ⟨s0, s1, s2, s3, s4, s5⟩
 go_simp
 with_reducible rfl}
 rotate_left
 · exact p1_
 refine take_ (i := 7) (N := some 13) (v := ?_) (a' := ?_) m8_ rfl rfl s2_ (fun _ _ _ h => h) (Or.inl ⟨by rfl, ?_⟩) hHeld ?_ ?_
 rotate_left
 {
 rintro w' ⟨s0, s1, s2, s3, s4, s5⟩
 go_simp
 with_reducible rfl}
 rotate_left
 · exact p1_
 refine pure_ (i := 8) (N := some 14) (v := ?_) (a' := ?_) m9_ rfl rfl s2_ (fun _ _ _ h => h) (Or.inl ⟨by rfl, ?_⟩) ?_ ?_
 rotate_left
 {
 intro w'
 go_simp
 with_reducible rfl}
 rotate_left
 · exact p1_
 refine pure_ (i := 9) (N := some 15) (v := ?_) (a' := ?_) m10_ rfl rfl s2_ (fun _ _ _ h => h) (Or.inl ⟨by rfl, ?_⟩) ?_ ?_
 rotate_left
 {
 intro w'
 go_simp
 with_reducible rfl}
 rotate_left
 · exact p1_
 refine one_ (i := 10) (N := some 16) m11_ rfl rfl s2_ (by decide) (fun K hK => ?_)
 refine goes_ Try.func44 s2_ rfl #[.slice Ao240 t146.length co240, .agg #[.int .i64 a1, .int .i64 (wrap64 (a2 + a3))]] (by rfl) rfl rfl s3_ ?_
 with_reducible refine (impl_leased_n44.calls k (fun k_ => some k_ = (.slice Ao240 t146.length co240 : Value).ownBlock) (.slice Ao240 t146.length co240) t146 a1 (wrap64 (a2 + a3)) t156 w _ ?side1 ?side2 A8.out).mono ?_
 (case side1 => repeat (first | (with_reducible first | exact HB.out | apply below_alloc | apply pw_below_drewN | apply below_drew1) | exact HB.out))
 (case side2 => exact Kd.R_tight rfl HO148.out)
 rintro e w251 ⟨v157, rfl, ho0, hb, hkp⟩
 refine ⟨_, rfl, ?_⟩
 have n0_ := Aside0.mk (blk_kept (b1_ BK139.out) hkp (fun hs_ => (fun e_ => (Kd.R_ne HO148.out BK139.out (by decide)) e_) hs_))
 have n1_ := Aside0.mk (blk_kept (b1_ BK140.out) hkp (fun hs_ => (fun e_ => (Kd.R_ne HO148.out BK140.out (by decide)) e_) hs_))
 have n2_ := Aside0.mk (blk_kept (b1_ BK141.out) hkp (fun hs_ => (fun e_ => (Kd.R_ne HO148.out BK141.out (by decide)) e_) hs_))
 have n3_ := Aside0.mk (blk_kept (b1_ BK142.out) hkp (fun hs_ => (fun e_ => (Kd.R_ne HO148.out BK142.out (by decide)) e_) hs_))
 have n4_ := Aside0.mk (blk_kept (b1_ BK144.out) hkp (fun hs_ => (fun e_ => (Kd.R_ne HO148.out BK144.out (by decide)) e_) hs_))
 have n5_ := Aside0.mk (Kd.R_mono (ok' := fun k_ => some k_ ≠ (v157 : Value).ownBlock) (Kd.R_keptB (HO151.out) hkp (fun k_ hk_ hs_ => (hk_) hs_)) (fun k_ hk_ => fun e_ => Or.elim (ho0.1 k_ e_.symm) (fun hs_ => hk_.2.1 hs_) (fun hn_ => Nat.not_le.2 hk_.2.2 hn_)))
 have n6_ := Aside0.mk (Kd.R_mono (ok' := fun k_ => True) (Kd.R_keptB ((Kd.R_apart' HO154.out (Kd.R_typed HO148.out) (by decide))) hkp (fun k_ hk_ hs_ => (hk_.2) hs_)) (fun k_ hk_ => trivial))
 have n7_ := Aside0.mk (blk_kept (b1_ BK155.out) hkp (fun hs_ => (fun e_ => (Kd.R_ne HO148.out BK155.out (by decide)) e_) hs_))
 have n8_ := Aside0.mk (Kd.R_mono (ok' := fun k_ => some k_ ≠ (.slice Ao247 t149.length co247 : Value).ownBlock) ho0 (fun k_ hk_ => Or.elim hk_ (fun hs_ => fun e_ => (((HO151.out).1 k_ e_.symm)) hs_) (fun hn_ => (Kd.fresh' (Kd.R_lt (b2_ HO151.out)) k_ hn_))))
 have n9_ := Aside0.mk (hb)
 clear BK139
 clear BK140
 clear BK141
 clear BK142
 clear BK144
 clear HO151
 clear HO154
 clear BK155
 clear HB
 clear HO148
 have BK139 := n0_
 have BK140 := n1_
 have BK141 := n2_
 have BK142 := n3_
 have BK144 := n4_
 have HO151 := n5_
 have HO154 := n6_
 have BK155 := n7_
 have HO158 := n8_
 have HB := n9_
 clear n0_ n1_ n2_ n3_ n4_ n5_ n6_ n7_ n8_ n9_
 (try clear hb)
 (try clear hkp)
 (try clear ho0)
 obtain ⟨Ao252, co252, eo252⟩ := Kd.R_slice HO158.out
 (first | subst eo252 | (injection eo252 with f1_ f2_ f3_; have f4_ := f1_.symm; have f5_ := f3_.symm; clear f1_ f2_ f3_; subst f4_; subst f5_))
 refine hK.out _ _ ⟨(blk_cell BK155.out 0).trans rfl, (blk_cell BK155.out 1).trans rfl, (blk_cell BK155.out 2).trans rfl, (blk_cell BK139.out 0).trans rfl, (blk_cell BK140.out 0).trans rfl, (blk_cell BK141.out 0).trans rfl⟩ (fun hHeld => ?_)
 clear hK K
 refine norm_ (a' := ?_) ?_ ?_
 rotate_left
 {
 show Act.put _ (some 16) _ = _
 simp only [Act.put, List.setIfInBounds_toArray, List.set_cons_zero, List.set_cons_succ, i64_w, i32_w]
 rfl}
 refine pure_ (i := 11) (N := some 17) (v := ?_) (a' := ?_) m12_ rfl rfl s2_ (fun _ _ _ h => h) (Or.inl ⟨by rfl, ?_⟩) ?_ ?_
 rotate_left
 {
 intro w'
 go_simp
 with_reducible rfl}
 rotate_left
 · exact p1_
 refine pure_ (i := 12) (N := some 18) (v := ?_) (a' := ?_) m13_ rfl rfl s2_ (fun _ _ _ h => h) (Or.inl ⟨by rfl, ?_⟩) ?_ ?_
 rotate_left
 {
 intro w'
 go_simp
 with_reducible rfl}
 rotate_left
 · exact p1_
 refine last_ (i := 13) (N := none) m14_ rfl rfl s2_ (by decide) (fun K hK => ?_)
 have hs253 : w251.cell? ⟨gb155, 0, none⟩ = some (.slice Ao240 t146.length co240) := (blk_cell BK155.out 0).trans rfl
 have hfs253 := blk_frozen BK155.out 0
 have hns253_0 := NB139_155.out
 have hns253_1 := NB140_155.out
 have hns253_2 := NB141_155.out
 have hns253_3 := NB142_155.out
 have hns253_4 := NB144_155.out
 have hms253_0 := NB155_139.out
 have hms253_1 := NB155_140.out
 have hms253_2 := NB155_141.out
 have hms253_3 := NB155_142.out
 have hms253_4 := NB155_144.out
 refine skip_ (w1 := ?_) (by rfl) rfl ?_ ?_
 rotate_left
 {
 go_simp
 rfl}
 refine hK.out _ _ ?_
 clear hK K
 refine done_ s2_ ?_
 have hnb254 := NB140_139.out
 have hnc254 := NB139_140.out
 have hnb255 := NB140_141.out
 have hnc255 := NB141_140.out
 have hnb256 := NB140_142.out
 have hnc256 := NB142_140.out
 have hnb257 := NB140_144.out
 have hnc257 := NB144_140.out
 have hcz258_0 := c1_ BK140 0 (.int .i64 a2)
 have hfz258_0 := f1_ BK140 0
 try go_wp2_with (first | ((with_reducible refine gate_callee (f := 45) rfl ?_); refine goesL_ (some 20) rfl rfl Try.func45 s2_ rfl #[.int .i64 a2] rfl s3_ ?_; (with_reducible refine (impl_isTick.calls a2 false _ A9.out).mono ?_); rintro e w' ⟨rfl, ⟨nd, rfl⟩⟩; refine ⟨_, rfl, ?_⟩; have hnb259 := NB144_139.out; have hnc259 := NB139_144.out; have hnb260 := NB144_141.out; have hnc260 := NB141_144.out; have hnb261 := NB144_142.out; have hnc261 := NB142_144.out; have hcz262_0 := c1_ BK144 0 (.slice none 0 0); have hcz262_1 := c1_ BK144 1 (.slice none 0 0); have hcz262_2 := c1_ BK144 2 (.slice none 0 0); have hfz262_0 := f1_ BK144 0; have hfz262_1 := f1_ BK144 1; have hfz262_2 := f1_ BK144 2))
 (try simp only [Exit.inBlock, Exit.then])
 refine bodyPost_ret (results_ct rfl _ _ gb144 27 #[.slice none 0 0, .slice none 0 0, .slice none 0 0] (0, 0) _ rfl (by (with_reducible repeat (first | refine blk_drewN ?_ _ | refine blk_drew ?_ | refine blk_alloc ?_ _)); refine blk_put3 (cs := #[.slice none 0 0, .slice none 0 0, .slice none 0 0]) ?_ rfl; (with_reducible repeat (first | refine blk_drewN ?_ _ | refine blk_drew ?_ | refine blk_alloc ?_ _)); refine blk_far ?_ NB144_155.out _; (with_reducible repeat (first | refine blk_drewN ?_ _ | refine blk_drew ?_ | refine blk_alloc ?_ _)); exact BK144.out) Try.underlying27 rfl s2_) rfl ?_
 (try simp only [])
 have hnb263 := NB142_139.out
 have hnc263 := NB139_142.out
 have hnb264 := NB142_141.out
 have hnc264 := NB141_142.out
 have hcz265_0 := c1_ BK142 0 (.slice none 0 0)
 have hcz265_1 := c1_ BK142 1 (.slice none 0 0)
 have hcz265_2 := c1_ BK142 2 (.slice none 0 0)
 have hfz265_0 := f1_ BK142 0
 have hfz265_1 := f1_ BK142 1
 have hfz265_2 := f1_ BK142 2
 try go_wp2_with (fail)
 refine bodyPost_ret (results_ct rfl _ _ gb142 27 #[.slice none 0 0, .slice none 0 0, .slice none 0 0] (0, 0) _ rfl (by (with_reducible repeat (first | refine blk_drewN ?_ _ | refine blk_drew ?_ | refine blk_alloc ?_ _)); refine blk_put3 (cs := #[.slice none 0 0, .slice none 0 0, .slice none 0 0]) ?_ rfl; (with_reducible repeat (first | refine blk_drewN ?_ _ | refine blk_drew ?_ | refine blk_alloc ?_ _)); refine blk_far3 ?_ NB142_144.out; (with_reducible repeat (first | refine blk_drewN ?_ _ | refine blk_drew ?_ | refine blk_alloc ?_ _)); refine blk_far ?_ NB142_155.out _; (with_reducible repeat (first | refine blk_drewN ?_ _ | refine blk_drew ?_ | refine blk_alloc ?_ _)); exact BK142.out) Try.underlying27 rfl s2_) rfl ?_
 exact ⟨_, _, _, by first | rfl | (simp [errW_none, errW_some] <;> rfl) | (simp [*, errW_none, errW_some] <;> rfl), by first | exact Kd.R_nil _ _ _ _ _ | exact Kd.N_nil _ _ _ _ _ | exact Kd.V_nil _ _ _ _ _ | exact Kd.Q_nil _ _ _ _ _ | exact Kd.S_nil _ _ _ _ _, by first | exact Kd.R_nil _ _ _ _ _ | exact Kd.N_nil _ _ _ _ _ | exact Kd.V_nil _ _ _ _ _ | exact Kd.Q_nil _ _ _ _ _ | exact Kd.S_nil _ _ _ _ _, by first | exact Kd.R_nil _ _ _ _ _ | exact Kd.N_nil _ _ _ _ _ | exact Kd.V_nil _ _ _ _ _ | exact Kd.Q_nil _ _ _ _ _ | exact Kd.S_nil _ _ _ _ _, by repeat (first | (with_reducible first | exact HB.out | apply below_alloc | apply pw_below_drewN | apply below_drew1 | refine below_set ?_ GE142.out | refine below_set ?_ GE144.out | refine below_set ?_ GE155.out) | exact HB.out)⟩}}
 {
 replace c6 := Bool.eq_false_iff.mpr c6
 subst c6
 have H1 : (some (([] : List (S63)), ([] : List (S63)), ([] : List (S73)), false)) = some (r1, r2, r3, r4) := by rw [if_neg (show ¬ (false = true) by decide)] at H; exact H
 clear H
 have H := H1
 clear H1
 simp only [Option.some.injEq, Prod.mk.injEq] at H
 obtain ⟨rfl, rfl, rfl, rfl⟩ := H
 go_enter Try.func14, Try.ntmps14
 try go_wp2_with (first | ((with_reducible refine gate_dst (N := 4) rfl ?_); (try (refine gate_guard (by rfl) ?_; dsimp only)); refine bx_ 4 #[.slice A0_0 l0_0.length c0_0, .slice A0_1 l0_1.length c0_1, .slice A0_2 l0_2.length c0_2] 27 ?_; intro gb138 hg w266 hbox hb; have GW138 := b6_ hg HB; have GE138 := b6_ hg HB; replace HB := Aside0.mk (below_step (y1_ HB.out) hb); have BK138 := Aside0.mk (hbox); clear hb hbox hg) | ((with_reducible refine gate_dst (N := 5) rfl ?_); (try (refine gate_guard (by rfl) ?_; dsimp only)); refine bx_ 5 #[.int .i64 a1] 2 ?_; intro gb139 hg w267 hbox hb; have GW139 := b6_ hg HB; have GE139 := b6_ hg HB; have NB138_139 := b4_ hg BK138; have NB139_138 := b5_ hg BK138; replace BK138 := b3_ BK138 hb; replace HB := Aside0.mk (below_step (y1_ HB.out) hb); have BK139 := Aside0.mk (hbox); clear hb hbox hg) | ((with_reducible refine gate_dst (N := 6) rfl ?_); (try (refine gate_guard (by rfl) ?_; dsimp only)); refine bx_ 6 #[.int .i64 a2] 2 ?_; intro gb140 hg w268 hbox hb; have GW140 := b6_ hg HB; have GE140 := b6_ hg HB; have NB138_140 := b4_ hg BK138; have NB140_138 := b5_ hg BK138; replace BK138 := b3_ BK138 hb; replace HB := Aside0.mk (below_step (y1_ HB.out) hb); have BK140 := Aside0.mk (hbox); clear hb hbox hg) | ((with_reducible refine gate_dst (N := 7) rfl ?_); (try (refine gate_guard (by rfl) ?_; dsimp only)); refine bx_ 7 #[.int .i64 a3] 2 ?_; intro gb141 hg w269 hbox hb; have GW141 := b6_ hg HB; have GE141 := b6_ hg HB; have NB138_141 := b4_ hg BK138; have NB141_138 := b5_ hg BK138; replace BK138 := b3_ BK138 hb; replace HB := Aside0.mk (below_step (y1_ HB.out) hb); have BK141 := Aside0.mk (hbox); clear hb hbox hg) | ((with_reducible refine gate_dst (N := 8) rfl ?_); (try (refine gate_guard (by rfl) ?_; dsimp only)); refine bx_ 8 #[.slice none 0 0, .slice none 0 0, .slice none 0 0] 27 ?_; intro gb142 hg w270 hbox hb; have GW142 := b6_ hg HB; have GE142 := b6_ hg HB; have NB138_142 := b4_ hg BK138; have NB142_138 := b5_ hg BK138; replace BK138 := b3_ BK138 hb; replace HB := Aside0.mk (below_step (y1_ HB.out) hb); have BK142 := Aside0.mk (hbox); clear hb hbox hg; have hnb271 := NB138_142.out; have hnc271 := NB142_138.out; have hcz272_0 := c1_ BK138 0 (.slice A0_0 l0_0.length c0_0); have hcz272_1 := c1_ BK138 1 (.slice A0_1 l0_1.length c0_1); have hcz272_2 := c1_ BK138 2 (.slice A0_2 l0_2.length c0_2); have hfz272_0 := f1_ BK138 0; have hfz272_1 := f1_ BK138 1; have hfz272_2 := f1_ BK138 2))
 go_at_call 42
 go_in
 try go_wp2_with (first | ((with_reducible refine gate_dst (N := 2) rfl ?_); (try (refine gate_guard (by rfl) ?_; dsimp only)); refine bx_ 2 #[.slice A0_0 l0_0.length c0_0, .slice A0_1 l0_1.length c0_1, .slice A0_2 l0_2.length c0_2] 27 ?_; intro gb143 hg w273 hbox hb; have GW143 := b6_ hg HB; have GE143 := b6_ hg HB; have NB142_143 := b4_ hg BK142; have NB143_142 := b5_ hg BK142; replace BK142 := b3_ BK142 hb; replace HB := Aside0.mk (below_step (y1_ HB.out) hb); have BK143 := Aside0.mk (hbox); clear hb hbox hg) | ((with_reducible refine gate_dst (N := 4) rfl ?_); (try (refine gate_guard (by rfl) ?_; dsimp only)); refine bx_ 4 #[.slice none 0 0, .slice none 0 0, .slice none 0 0] 27 ?_; intro gb144 hg w274 hbox hb; have GW144 := b6_ hg HB; have GE144 := b6_ hg HB; have NB142_144 := b4_ hg BK142; have NB144_142 := b5_ hg BK142; have NB143_144 := b4_ hg BK143; have NB144_143 := b5_ hg BK143; replace BK142 := b3_ BK142 hb; replace BK143 := b3_ BK143 hb; replace HB := Aside0.mk (below_step (y1_ HB.out) hb); have BK144 := Aside0.mk (hbox); clear hb hbox hg; have hnb275 := NB143_142.out; have hnc275 := NB142_143.out; have hnb276 := NB143_144.out; have hnc276 := NB144_143.out; have hcz277_0 := c1_ BK143 0 (.slice A0_0 l0_0.length c0_0); have hcz277_1 := c1_ BK143 1 (.slice A0_1 l0_1.length c0_1); have hcz277_2 := c1_ BK143 2 (.slice A0_2 l0_2.length c0_2); have hfz277_0 := f1_ BK143 0; have hfz277_1 := f1_ BK143 1; have hfz277_2 := f1_ BK143 2) | ((with_reducible refine gate_callee (f := 19) rfl ?_); refine goesL_ (some 8) rfl rfl Try.func19 s2_ rfl #[.agg #[.slice A0_0 l0_0.length c0_0, .slice A0_1 l0_1.length c0_1, .slice A0_2 l0_2.length c0_2]] rfl s3_ ?_; (with_reducible refine (impl_ValidPresence.calls k _ _ l0_0 _ _ l0_1 _ _ l0_2 false _ ?side1 ?side2 ?side3 ?side4 ?side5 ?side6 A5.out).mono ?_); (case side1 => exact y2_ (Kd.C_below HR0_0.out HB.out)); (case side2 => exact HC0_0.out); (case side3 => exact y2_ (Kd.C_below HR0_1.out HB.out)); (case side4 => exact HC0_1.out); (case side5 => exact y2_ (Kd.C_below HR0_2.out HB.out)); (case side6 => exact HC0_2.out); rintro e w278 ⟨rfl, hb⟩; refine ⟨_, rfl, ?_⟩; replace BK142 := b3_ BK142 hb; replace BK144 := b3_ BK144 hb; replace HB := Aside0.mk (below_step (y1_ HB.out) hb); (try clear hb); (try clear hb2); (try clear hk); (try clear hi); have hnb279 := NB144_142.out; have hnc279 := NB142_144.out; have hcz280_0 := c1_ BK144 0 (.slice none 0 0); have hcz280_1 := c1_ BK144 1 (.slice none 0 0); have hcz280_2 := c1_ BK144 2 (.slice none 0 0); have hfz280_0 := f1_ BK144 0; have hfz280_1 := f1_ BK144 1; have hfz280_2 := f1_ BK144 2))
 (try simp only [Exit.inBlock, Exit.then])
 refine bodyPost_ret (results_ct rfl _ _ gb144 27 #[.slice none 0 0, .slice none 0 0, .slice none 0 0] (0, 0) _ rfl (by (with_reducible repeat (first | refine blk_drewN ?_ _ | refine blk_drew ?_ | refine blk_alloc ?_ _)); refine blk_put3 (cs := #[.slice none 0 0, .slice none 0 0, .slice none 0 0]) ?_ rfl; (with_reducible repeat (first | refine blk_drewN ?_ _ | refine blk_drew ?_ | refine blk_alloc ?_ _)); exact BK144.out) Try.underlying27 rfl s2_) rfl ?_
 (try simp only [])
 have hcz281_0 := c1_ BK142 0 (.slice none 0 0)
 have hcz281_1 := c1_ BK142 1 (.slice none 0 0)
 have hcz281_2 := c1_ BK142 2 (.slice none 0 0)
 have hfz281_0 := f1_ BK142 0
 have hfz281_1 := f1_ BK142 1
 have hfz281_2 := f1_ BK142 2
 try go_wp2_with (fail)
 refine bodyPost_ret (results_ct rfl _ _ gb142 27 #[.slice none 0 0, .slice none 0 0, .slice none 0 0] (0, 0) _ rfl (by (with_reducible repeat (first | refine blk_drewN ?_ _ | refine blk_drew ?_ | refine blk_alloc ?_ _)); refine blk_put3 (cs := #[.slice none 0 0, .slice none 0 0, .slice none 0 0]) ?_ rfl; (with_reducible repeat (first | refine blk_drewN ?_ _ | refine blk_drew ?_ | refine blk_alloc ?_ _)); refine blk_far3 ?_ NB142_144.out; (with_reducible repeat (first | refine blk_drewN ?_ _ | refine blk_drew ?_ | refine blk_alloc ?_ _)); exact BK142.out) Try.underlying27 rfl s2_) rfl ?_
 exact ⟨_, _, _, by first | rfl | (simp [errW_none, errW_some] <;> rfl) | (simp [*, errW_none, errW_some] <;> rfl), by first | exact Kd.R_nil _ _ _ _ _ | exact Kd.N_nil _ _ _ _ _ | exact Kd.V_nil _ _ _ _ _ | exact Kd.Q_nil _ _ _ _ _ | exact Kd.S_nil _ _ _ _ _, by first | exact Kd.R_nil _ _ _ _ _ | exact Kd.N_nil _ _ _ _ _ | exact Kd.V_nil _ _ _ _ _ | exact Kd.Q_nil _ _ _ _ _ | exact Kd.S_nil _ _ _ _ _, by first | exact Kd.R_nil _ _ _ _ _ | exact Kd.N_nil _ _ _ _ _ | exact Kd.V_nil _ _ _ _ _ | exact Kd.Q_nil _ _ _ _ _ | exact Kd.S_nil _ _ _ _ _, by repeat (first | (with_reducible first | exact HB.out | apply below_alloc | apply pw_below_drewN | apply below_drew1 | refine below_set ?_ GE142.out | refine below_set ?_ GE144.out) | exact HB.out)⟩}

end Go.Proofs.Ytgfilednbllkmaa.QFnExactHeartbeat
