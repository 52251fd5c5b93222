-- written by a program of this session, on the lines of the kit's print
import Derived.Test.YtgfilednbllkmaaQFnExactReadUpTox0
import Derived.Test.YtgfilednbllkmaaQFnExactReadUpTox7
import Derived.Test.YtgfilednbllkmaaQFnExactReadUpTox8
import Derived.Test.YtgfilednbllkmaaQFnExactReadUpTox9
import Derived.Test.YtgfilednbllkmaaQFnExactReadUpTox10
namespace Go.Proofs.Ytgfilednbllkmaa.QFnExactReadUpTo
open Go.RowKit Go.Proofs.YtgfilednbllkmaaW.PrintWords Go.Proofs.YtgfilednbllkmaaW.PrintLast Go.Proofs.YtgfilednbllkmaaW.PrintMore
attribute [local go_sem] max2_int min2_int max_two min_two max_three min_three max_four min_four   -- for this text's walks alone
set_option linter.unusedVariables false
set_option linter.unusedSimpArgs false

/-! ### impl_ReadUpTo: function 34 -/
abbrev impl_ReadUpTo.T : Bool := true
abbrev impl_ReadUpTo.F : Bool := false
theorem impl_ReadUpTo.s2_ {P : Prop} (h : P := by kernel_rfl) : P := h
theorem impl_ReadUpTo.s3_ {P : Prop} (h : P := by (try simp only [List.map_toArray, List.map_cons, List.map_nil]); first | done | rfl | (simp only [List.length_drop, List.length_take]; rfl)) : P := h
abbrev impl_ReadUpTo.m0_ : Array Bool := #[F,F,F,F,F,F,F,F,F,F,F,F]
abbrev impl_ReadUpTo.m1_ : Array Bool := #[T,F,F,F,F,F,F,F,F,F,F,F]
abbrev impl_ReadUpTo.m2_ : Array Bool := #[T,T,F,F,F,F,F,F,F,F,F,F]
abbrev impl_ReadUpTo.m3_ : Array Bool := #[T,T,T,F,F,F,F,F,F,F,F,F]
abbrev impl_ReadUpTo.m4_ : Array Bool := #[T,T,T,T,F,F,F,F,F,F,F,F]
abbrev impl_ReadUpTo.m5_ : Array Bool := #[T,T,T,T,T,F,F,F,F,F,F,F]
abbrev impl_ReadUpTo.m6_ : Array Bool := #[T,T,T,T,T,T,F,F,F,F,F,F]
abbrev impl_ReadUpTo.m7_ : Array Bool := #[T,T,T,T,T,T,T,F,F,F,F,F]
abbrev impl_ReadUpTo.m8_ : Array Bool := #[T,T,T,T,T,T,T,T,F,F,F,F]
abbrev impl_ReadUpTo.m9_ : Array Bool := #[T,T,T,T,T,T,T,T,T,F,F,F]
abbrev impl_ReadUpTo.m10_ : Array Bool := #[T,T,T,T,T,T,T,T,T,T,F,F]
abbrev impl_ReadUpTo.m11_ : Array Bool := #[T,T,T,T,T,T,T,T,T,T,T,F]
abbrev impl_ReadUpTo.m12_ : Array Bool := #[T,T,T,T,T,T,T,T,T,T,T,T]
theorem impl_ReadUpTo.p1_ {P : Prop} (h : P := by simp only [Act.put, List.setIfInBounds_toArray, List.set_cons_zero, List.set_cons_succ, i64_w, i32_w]; rfl) : P := h
theorem impl_ReadUpTo.b1_ {P Q : Prop} (q : Q) (h : Q → P := by intro q_; (with_reducible repeat (first | refine blk_drewN ?_ _ | refine blk_drew ?_ | refine blk_alloc ?_ _)); exact q_) : P := h q
theorem impl_ReadUpTo.b2_ {P Q : Prop} (q : Q) (h : Q → P := by intro q_; (with_reducible repeat (first | apply Kd.R_alloc | apply Kd.R_drewN | apply Kd.R_drew)); exact q_) : P := h q
theorem impl_ReadUpTo.y1_ {P Q : Prop} (q : Q) (h : Q → P := by intro q_; repeat (first | (with_reducible first | exact q_ | apply below_alloc | apply pw_below_drewN | apply below_drew1) | exact q_)) : P := h q
theorem impl_ReadUpTo.y2_ {P Q : Prop} (q : Q) (h : Q → P := by intro q_; repeat (first | exact q_ | (with_reducible refine Kd.C_alloc ?_ _) | (with_reducible refine Kd.C_drewN ?_ _) | (with_reducible refine Kd.C_drew ?_))) : P := h q
theorem impl_ReadUpTo.b3_ {w w1 W : World} {g : Nat} {o : Obj} (q : Aside0 (w.heap[g]? = some o)) (hb : Below W.heap.size W w1) (h : w.heap[g]? = some o → W.heap[g]? = some o := by intro q_; (with_reducible repeat (first | refine blk_drewN ?_ _ | refine blk_drew ?_ | refine blk_alloc ?_ _)); exact q_) : Aside0 (w1.heap[g]? = some o) := ⟨blk_below (h q.out) hb⟩
theorem impl_ReadUpTo.b4_ {w W : World} {g k : Nat} {o : Obj} (hg : k = W.heap.size) (q : Aside0 (w.heap[g]? = some o)) (h : w.heap[g]? = some o → W.heap[g]? = some o := by intro q_; (with_reducible repeat (first | refine blk_drewN ?_ _ | refine blk_drew ?_ | refine blk_alloc ?_ _)); exact q_) : Aside0 (g ≠ k) := ⟨by rw [hg]; exact Nat.ne_of_lt (blk_lt (h q.out))⟩
theorem impl_ReadUpTo.b5_ {w W : World} {g k : Nat} {o : Obj} (hg : k = W.heap.size) (q : Aside0 (w.heap[g]? = some o)) (h : w.heap[g]? = some o → W.heap[g]? = some o := by intro q_; (with_reducible repeat (first | refine blk_drewN ?_ _ | refine blk_drew ?_ | refine blk_alloc ?_ _)); exact q_) : Aside0 (k ≠ g) := ⟨by rw [hg]; exact Nat.ne_of_gt (blk_lt (h q.out))⟩
theorem impl_ReadUpTo.b6_ {w w' W : World} {k : Nat} (hg : k = W.heap.size) (q : Aside0 (Below w.heap.size w w')) (h : Below w.heap.size w w' → Below w.heap.size w W := by intro q_; repeat (first | (with_reducible first | exact q_ | apply below_alloc | apply pw_below_drewN | apply below_drew1) | exact q_)) : Aside0 (w.heap.size ≤ k) := ⟨by rw [hg]; exact below_size (h q.out)⟩
theorem impl_ReadUpTo.r1_ {α : Type} {d : Kd α} {e base : Nat} {ok : Nat → Prop} {v : Value} {xs : List α} {w W w1 : World} (q : Aside0 (d.R e w base ok v xs)) (hb : Below W.heap.size W w1) (h : d.R e w base ok v xs → d.R e W base ok v xs := by intro q_; (with_reducible repeat (first | apply Kd.R_alloc | apply Kd.R_drewN | apply Kd.R_drew)); exact q_) : Aside0 (d.R e w1 base ok v xs) := ⟨Kd.R_below (h q.out) hb⟩
def impl_ReadUpTo.f (k : Nat) (l0_0 : List (S63)) (l0_1 : List (S63)) (l0_2 : List (S73)) (a1 : Int) (a2 : Int) : Option ((List (S63)) × (List (S63)) × (List (S73)) × Bool) := (impl_ValidPresence.f k l0_0 l0_1 l0_2).bind fun t311 => (if t311 = true then ((impl_clonePresence.f l0_0 l0_1 l0_2).bind fun bt312 => ((impl_marked_n78.f k bt312.2.2 a1 a2).bind fun t322 => ((impl_in.f a2 0 1000000000).bind fun t325 => (if t325 = true then ((impl_ValidPresence.f k bt312.1 bt312.2.1 t322).bind fun t326 => (if t326 = true then (some (bt312.1, bt312.2.1, t322, true)) else (some (([] : List (S63)), ([] : List (S63)), ([] : List (S73)), false)))) else (some (([] : List (S63)), ([] : List (S63)), ([] : List (S73)), false)))))) else (some (([] : List (S63)), ([] : List (S63)), ([] : List (S73)), false)))
theorem impl_ReadUpTo.mono : ∀ a0 a1 a2 a3 a4 k, LeO (impl_ReadUpTo.f k a0 a1 a2 a3 a4) (impl_ReadUpTo.f (k + 1) a0 a1 a2 a3 a4) := by
  intro a0 a1 a2 a3 a4 k
  unfold impl_ReadUpTo.f
  repeat' first
      | (with_reducible exact impl_ValidPresence.mono _ _ _ _)
      | (with_reducible exact impl_marked_n78.mono _ _ _ _)
      | (with_reducible exact LeO.refl _)
      | (with_reducible exact LeO.none _)
      | (with_reducible refine LeO.ite ?_ ?_)
      | (with_reducible refine LeO.bind ?_ (fun _ => ?_))
      | exact impl_ValidPresence.mono _ _ _ _
      | exact impl_marked_n78.mono _ _ _ _
      | exact LeO.none _
      | refine LeO.ite ?_ ?_
      | refine LeO.bind ?_ (fun _ => ?_)
set_option maxHeartbeats 8000000 in
set_option maxRecDepth 100000 in
theorem impl_ReadUpTo.calls (k : Nat) (A0_0 : Option Addr) (c0_0 : Nat) (l0_0 : List (S63)) (A0_1 : Option Addr) (c0_1 : Nat) (l0_1 : List (S63)) (A0_2 : Option Addr) (c0_2 : Nat) (l0_2 : List (S73)) (a1 : Int) (a2 : Int) (r1 : List (S63)) (r2 : List (S63)) (r3 : List (S73)) (r4 : Bool) (w : World) (hr0_0 : Kd.C k63 w A0_0 l0_0.length l0_0) (hc0_0 : l0_0.length ≤ c0_0) (hr0_1 : Kd.C k63 w A0_1 l0_1.length l0_1) (hc0_1 : l0_1.length ≤ c0_1) (hr0_2 : Kd.C k73 w A0_2 l0_2.length l0_2) (hc0_2 : l0_2.length ≤ c0_2) (h : impl_ReadUpTo.f k l0_0 l0_1 l0_2 a1 a2 = some (r1, r2, r3, r4)) :
    Calls Try.prog 34 #[.agg #[.slice A0_0 l0_0.length c0_0, .slice A0_1 l0_1.length c0_1, .slice A0_2 l0_2.length c0_2], .int .i64 a1, .int .i64 a2] w fun e w' => ∃ v0_ v1_ v2_ : Value, e = .returned (.tuple #[.agg #[v0_, v1_, v2_], .bool r4]) ∧ Kd.R k63 63 w' w.heap.size (fun k_ => some k_ ≠ (v1_ : Value).ownBlock) v0_ r1 ∧ Kd.R k63 63 w' w.heap.size (fun k_ => some k_ ≠ (v0_ : Value).ownBlock) v1_ r2 ∧ Kd.R k73 73 w' w.heap.size (fun _ => True) v2_ r3 ∧ Below w.heap.size w w' := by
 have hu27 := Try.underlying27
 have hu73 := Try.underlying73
 have HR0_0 := Aside0.mk hr0_0
 have HC0_0 := Aside0.mk hc0_0
 clear hr0_0 hc0_0
 have HR0_1 := Aside0.mk hr0_1
 have HC0_1 := Aside0.mk hc0_1
 clear hr0_1 hc0_1
 have HR0_2 := Aside0.mk hr0_2
 have HC0_2 := Aside0.mk hc0_2
 clear hr0_2 hc0_2
 have HB := Aside0.mk (Below.refl w.heap.size w)
 have H : ((impl_ValidPresence.f k l0_0 l0_1 l0_2).bind fun t311 => (if t311 = true then ((impl_clonePresence.f l0_0 l0_1 l0_2).bind fun bt312 => ((impl_marked_n78.f k bt312.2.2 a1 a2).bind fun t322 => ((impl_in.f a2 0 1000000000).bind fun t325 => (if t325 = true then ((impl_ValidPresence.f k bt312.1 bt312.2.1 t322).bind fun t326 => (if t326 = true then (some (bt312.1, bt312.2.1, t322, true)) else (some (([] : List (S63)), ([] : List (S63)), ([] : List (S73)), false)))) else (some (([] : List (S63)), ([] : List (S63)), ([] : List (S73)), false)))))) else (some (([] : List (S63)), ([] : List (S63)), ([] : List (S73)), false)))) = some (r1, r2, r3, r4) := h
 clear h
 replace H := Option.bind_eq_some_iff.mp H
 obtain ⟨t311, A40, H⟩ := H
 replace H : (if t311 = true then ((impl_clonePresence.f l0_0 l0_1 l0_2).bind fun bt312 => ((impl_marked_n78.f k bt312.2.2 a1 a2).bind fun t322 => ((impl_in.f a2 0 1000000000).bind fun t325 => (if t325 = true then ((impl_ValidPresence.f k bt312.1 bt312.2.1 t322).bind fun t326 => (if t326 = true then (some (bt312.1, bt312.2.1, t322, true)) else (some (([] : List (S63)), ([] : List (S63)), ([] : List (S73)), false)))) else (some (([] : List (S63)), ([] : List (S63)), ([] : List (S73)), false)))))) else (some (([] : List (S63)), ([] : List (S63)), ([] : List (S73)), false))) = some (r1, r2, r3, r4) := H
 have A4 := Aside0.mk A40
 clear A40
 by_cases c5 : t311 = true
 {
 subst c5
 have H1 : ((impl_clonePresence.f l0_0 l0_1 l0_2).bind fun bt312 => ((impl_marked_n78.f k bt312.2.2 a1 a2).bind fun t322 => ((impl_in.f a2 0 1000000000).bind fun t325 => (if t325 = true then ((impl_ValidPresence.f k bt312.1 bt312.2.1 t322).bind fun t326 => (if t326 = true then (some (bt312.1, bt312.2.1, t322, true)) else (some (([] : List (S63)), ([] : List (S63)), ([] : List (S73)), false)))) else (some (([] : List (S63)), ([] : List (S63)), ([] : List (S73)), false)))))) = some (r1, r2, r3, r4) := by rw [if_pos rfl] at H; exact H
 clear H
 have H := H1
 clear H1
 replace H := Option.bind_eq_some_iff.mp H
 obtain ⟨⟨t312, t315, t318⟩, A60, H⟩ := H
 replace H : ((impl_marked_n78.f k t318 a1 a2).bind fun t322 => ((impl_in.f a2 0 1000000000).bind fun t325 => (if t325 = true then ((impl_ValidPresence.f k t312 t315 t322).bind fun t326 => (if t326 = true then (some (t312, t315, t322, true)) else (some (([] : List (S63)), ([] : List (S63)), ([] : List (S73)), false)))) else (some (([] : List (S63)), ([] : List (S63)), ([] : List (S73)), false))))) = some (r1, r2, r3, r4) := H
 have A6 := Aside0.mk A60
 clear A60
 replace H := Option.bind_eq_some_iff.mp H
 obtain ⟨t322, A70, H⟩ := H
 replace H : ((impl_in.f a2 0 1000000000).bind fun t325 => (if t325 = true then ((impl_ValidPresence.f k t312 t315 t322).bind fun t326 => (if t326 = true then (some (t312, t315, t322, true)) else (some (([] : List (S63)), ([] : List (S63)), ([] : List (S73)), false)))) else (some (([] : List (S63)), ([] : List (S63)), ([] : List (S73)), false)))) = some (r1, r2, r3, r4) := H
 have A7 := Aside0.mk A70
 clear A70
 replace H := Option.bind_eq_some_iff.mp H
 obtain ⟨t325, A80, H⟩ := H
 replace H : (if t325 = true then ((impl_ValidPresence.f k t312 t315 t322).bind fun t326 => (if t326 = true then (some (t312, t315, t322, true)) else (some (([] : List (S63)), ([] : List (S63)), ([] : List (S73)), false)))) else (some (([] : List (S63)), ([] : List (S63)), ([] : List (S73)), false))) = some (r1, r2, r3, r4) := H
 have A8 := Aside0.mk A80
 clear A80
 by_cases c9 : t325 = true
 {
 subst c9
 have H1 : ((impl_ValidPresence.f k t312 t315 t322).bind fun t326 => (if t326 = true then (some (t312, t315, t322, true)) else (some (([] : List (S63)), ([] : List (S63)), ([] : List (S73)), false)))) = some (r1, r2, r3, r4) := by rw [if_pos rfl] at H; exact H
 clear H
 have H := H1
 clear H1
 replace H := Option.bind_eq_some_iff.mp H
 obtain ⟨t326, A100, H⟩ := H
 replace H : (if t326 = true then (some (t312, t315, t322, true)) else (some (([] : List (S63)), ([] : List (S63)), ([] : List (S73)), false))) = some (r1, r2, r3, r4) := H
 have A10 := Aside0.mk A100
 clear A100
 by_cases c11 : t326 = true
 {
 subst c11
 have H1 : (some (t312, t315, t322, true)) = some (r1, r2, r3, r4) := by rw [if_pos rfl] at H; exact H
 clear H
 have H := H1
 clear H1
 simp only [Option.some.injEq, Prod.mk.injEq] at H
 obtain ⟨rfl, rfl, rfl, rfl⟩ := H
 go_enter Try.func34, Try.ntmps34
 try go_wp2_with (first | ((with_reducible refine gate_dst (N := 3) rfl ?_); (try (refine gate_guard (by rfl) ?_; dsimp only)); refine box_event ?hg (N := 3) ?hd (cs := #[.slice A0_0 l0_0.length c0_0, .slice A0_1 l0_1.length c0_1, .slice A0_2 l0_2.length c0_2]) (t := 27) ?hr ?_; (case hd => rfl); (case hg => rfl); (case hr => first | (go_simp; done) | (go_simp; rfl)); intro gb305 hg w12 hbox hb; have GW305 := b6_ hg HB; have GE305 := b6_ hg HB; have n0_ := Aside0.mk (below_step (y1_ HB.out) hb); have n1_ := Aside0.mk (hbox); clear HB; have HB := n0_; have BK305 := n1_; clear n0_ n1_; clear hb hbox hg) | ((with_reducible refine gate_dst (N := 4) rfl ?_); (try (refine gate_guard (by rfl) ?_; dsimp only)); refine box_event ?hg (N := 4) ?hd (cs := #[.int .i64 a1]) (t := 2) ?hr ?_; (case hd => rfl); (case hg => rfl); (case hr => first | (go_simp; done) | (go_simp; rfl)); intro gb306 hg w13 hbox hb; have GW306 := b6_ hg HB; have GE306 := b6_ hg HB; have NB305_306 := b4_ hg BK305; have NB306_305 := b5_ hg BK305; have n0_ := b3_ BK305 hb; have n1_ := Aside0.mk (below_step (y1_ HB.out) hb); have n2_ := Aside0.mk (hbox); clear BK305; clear HB; have BK305 := n0_; have HB := n1_; have BK306 := n2_; clear n0_ n1_ n2_; clear hb hbox hg) | ((with_reducible refine gate_dst (N := 5) rfl ?_); (try (refine gate_guard (by rfl) ?_; dsimp only)); refine box_event ?hg (N := 5) ?hd (cs := #[.int .i64 a2]) (t := 2) ?hr ?_; (case hd => rfl); (case hg => rfl); (case hr => first | (go_simp; done) | (go_simp; rfl)); intro gb307 hg w14 hbox hb; have GW307 := b6_ hg HB; have GE307 := b6_ hg HB; have NB305_307 := b4_ hg BK305; have NB307_305 := b5_ hg BK305; have NB306_307 := b4_ hg BK306; have NB307_306 := b5_ hg BK306; have n0_ := b3_ BK305 hb; have n1_ := b3_ BK306 hb; have n2_ := Aside0.mk (below_step (y1_ HB.out) hb); have n3_ := Aside0.mk (hbox); clear BK305; clear BK306; clear HB; have BK305 := n0_; have BK306 := n1_; have HB := n2_; have BK307 := n3_; clear n0_ n1_ n2_ n3_; clear hb hbox hg) | ((with_reducible refine gate_dst (N := 6) rfl ?_); (try (refine gate_guard (by rfl) ?_; dsimp only)); refine box_event ?hg (N := 6) ?hd (cs := #[.slice none 0 0, .slice none 0 0, .slice none 0 0]) (t := 27) ?hr ?_; (case hd => rfl); (case hg => rfl); (case hr => first | (go_simp; done) | (go_simp; rfl)); intro gb308 hg w15 hbox hb; have GW308 := b6_ hg HB; have GE308 := b6_ hg HB; have NB305_308 := b4_ hg BK305; have NB308_305 := b5_ hg BK305; have NB306_308 := b4_ hg BK306; have NB308_306 := b5_ hg BK306; have NB307_308 := b4_ hg BK307; have NB308_307 := b5_ hg BK307; have n0_ := b3_ BK305 hb; have n1_ := b3_ BK306 hb; have n2_ := b3_ BK307 hb; have n3_ := Aside0.mk (below_step (y1_ HB.out) hb); have n4_ := Aside0.mk (hbox); clear BK305; clear BK306; clear BK307; clear HB; have BK305 := n0_; have BK306 := n1_; have BK307 := n2_; have HB := n3_; have BK308 := n4_; clear n0_ n1_ n2_ n3_ n4_; clear hb hbox hg; have hnb16 := NB305_306.out; have hnc16 := NB306_305.out; have hnb17 := NB305_307.out; have hnc17 := NB307_305.out; have hnb18 := NB305_308.out; have hnc18 := NB308_305.out; have hcz19_0 : w15.cell? ⟨gb305, 0, none⟩ = some (.slice A0_0 l0_0.length c0_0) := (blk_cell BK305.out 0).trans rfl; have hcz19_1 : w15.cell? ⟨gb305, 1, none⟩ = some (.slice A0_1 l0_1.length c0_1) := (blk_cell BK305.out 1).trans rfl; have hcz19_2 : w15.cell? ⟨gb305, 2, none⟩ = some (.slice A0_2 l0_2.length c0_2) := (blk_cell BK305.out 2).trans rfl; have hfz19_0 := blk_frozen BK305.out 0; have hfz19_1 := blk_frozen BK305.out 1; have hfz19_2 := blk_frozen BK305.out 2))
 go_at_call 42
 go_in
 try go_wp2_with (first | ((with_reducible refine gate_dst (N := 2) rfl ?_); (try (refine gate_guard (by rfl) ?_; dsimp only)); refine box_event ?hg (N := 2) ?hd (cs := #[.slice A0_0 l0_0.length c0_0, .slice A0_1 l0_1.length c0_1, .slice A0_2 l0_2.length c0_2]) (t := 27) ?hr ?_; (case hd => rfl); (case hg => rfl); (case hr => first | (go_simp; done) | (go_simp; rfl)); intro gb309 hg w20 hbox hb; have GW309 := b6_ hg HB; have GE309 := b6_ hg HB; have NB306_309 := b4_ hg BK306; have NB309_306 := b5_ hg BK306; have NB307_309 := b4_ hg BK307; have NB309_307 := b5_ hg BK307; have NB308_309 := b4_ hg BK308; have NB309_308 := b5_ hg BK308; have n0_ := b3_ BK306 hb; have n1_ := b3_ BK307 hb; have n2_ := b3_ BK308 hb; have n3_ := Aside0.mk (below_step (y1_ HB.out) hb); have n4_ := Aside0.mk (hbox); clear BK306; clear BK307; clear BK308; clear HB; have BK306 := n0_; have BK307 := n1_; have BK308 := n2_; have HB := n3_; have BK309 := n4_; clear n0_ n1_ n2_ n3_ n4_; clear hb hbox hg) | ((with_reducible refine gate_dst (N := 4) rfl ?_); (try (refine gate_guard (by rfl) ?_; dsimp only)); refine box_event ?hg (N := 4) ?hd (cs := #[.slice none 0 0, .slice none 0 0, .slice none 0 0]) (t := 27) ?hr ?_; (case hd => rfl); (case hg => rfl); (case hr => first | (go_simp; done) | (go_simp; rfl)); intro gb310 hg w21 hbox hb; have GW310 := b6_ hg HB; have GE310 := b6_ hg HB; have NB306_310 := b4_ hg BK306; have NB310_306 := b5_ hg BK306; have NB307_310 := b4_ hg BK307; have NB310_307 := b5_ hg BK307; have NB308_310 := b4_ hg BK308; have NB310_308 := b5_ hg BK308; have NB309_310 := b4_ hg BK309; have NB310_309 := b5_ hg BK309; have n0_ := b3_ BK306 hb; have n1_ := b3_ BK307 hb; have n2_ := b3_ BK308 hb; have n3_ := b3_ BK309 hb; have n4_ := Aside0.mk (below_step (y1_ HB.out) hb); have n5_ := Aside0.mk (hbox); clear BK306; clear BK307; clear BK308; clear BK309; clear HB; have BK306 := n0_; have BK307 := n1_; have BK308 := n2_; have BK309 := n3_; have HB := n4_; have BK310 := n5_; clear n0_ n1_ n2_ n3_ n4_ n5_; clear hb hbox hg; have hnb22 := NB309_306.out; have hnc22 := NB306_309.out; have hnb23 := NB309_307.out; have hnc23 := NB307_309.out; have hnb24 := NB309_308.out; have hnc24 := NB308_309.out; have hnb25 := NB309_310.out; have hnc25 := NB310_309.out; have hcz26_0 : w21.cell? ⟨gb309, 0, none⟩ = some (.slice A0_0 l0_0.length c0_0) := (blk_cell BK309.out 0).trans rfl; have hcz26_1 : w21.cell? ⟨gb309, 1, none⟩ = some (.slice A0_1 l0_1.length c0_1) := (blk_cell BK309.out 1).trans rfl; have hcz26_2 : w21.cell? ⟨gb309, 2, none⟩ = some (.slice A0_2 l0_2.length c0_2) := (blk_cell BK309.out 2).trans rfl; have hfz26_0 := blk_frozen BK309.out 0; have hfz26_1 := blk_frozen BK309.out 1; have hfz26_2 := blk_frozen BK309.out 2) | ((with_reducible refine gate_callee (f := 19) rfl ?_); refine goesL_ (some 8) rfl rfl Try.func19 s2_ rfl #[.agg #[.slice A0_0 l0_0.length c0_0, .slice A0_1 l0_1.length c0_1, .slice A0_2 l0_2.length c0_2]] rfl s3_ ?_; (with_reducible refine (impl_ValidPresence.calls k _ _ l0_0 _ _ l0_1 _ _ l0_2 true _ ?side1 ?side2 ?side3 ?side4 ?side5 ?side6 A4.out).mono ?_); (case side1 => exact y2_ (Kd.C_below HR0_0.out HB.out)); (case side2 => exact HC0_0.out); (case side3 => exact y2_ (Kd.C_below HR0_1.out HB.out)); (case side4 => exact HC0_1.out); (case side5 => exact y2_ (Kd.C_below HR0_2.out HB.out)); (case side6 => exact HC0_2.out); rintro e w27 ⟨rfl, hb⟩; refine ⟨_, rfl, ?_⟩; have n0_ := b3_ BK306 hb; have n1_ := b3_ BK307 hb; have n2_ := b3_ BK308 hb; have n3_ := b3_ BK309 hb; have n4_ := b3_ BK310 hb; have n5_ := Aside0.mk (below_step (y1_ HB.out) hb); clear BK306; clear BK307; clear BK308; clear BK309; clear BK310; clear HB; have BK306 := n0_; have BK307 := n1_; have BK308 := n2_; have BK309 := n3_; have BK310 := n4_; have HB := n5_; clear n0_ n1_ n2_ n3_ n4_ n5_; (try clear hb); (try clear hb2); (try clear hk); (try clear hi); have hcz28_0 : w27.cell? ⟨gb309, 0, none⟩ = some (.slice A0_0 l0_0.length c0_0) := (blk_cell BK309.out 0).trans rfl; have hcz28_1 : w27.cell? ⟨gb309, 1, none⟩ = some (.slice A0_1 l0_1.length c0_1) := (blk_cell BK309.out 1).trans rfl; have hcz28_2 : w27.cell? ⟨gb309, 2, none⟩ = some (.slice A0_2 l0_2.length c0_2) := (blk_cell BK309.out 2).trans rfl; have hfz28_0 := blk_frozen BK309.out 0; have hfz28_1 := blk_frozen BK309.out 1; have hfz28_2 := blk_frozen BK309.out 2) | ((with_reducible refine gate_callee (f := 90) rfl ?_); refine goesL_ (some 12) rfl rfl Try.func90 s2_ rfl #[.agg #[.slice A0_0 l0_0.length c0_0, .slice A0_1 l0_1.length c0_1, .slice A0_2 l0_2.length c0_2]] rfl s3_ ?_; (with_reducible refine (impl_clonePresence.calls _ _ l0_0 _ _ l0_1 _ _ l0_2 t312 t315 t318 _ ?side1 ?side2 ?side3 ?side4 ?side5 ?side6 A6.out).mono ?_); (case side1 => exact y2_ (Kd.C_below HR0_0.out HB.out)); (case side2 => exact HC0_0.out); (case side3 => exact y2_ (Kd.C_below HR0_1.out HB.out)); (case side4 => exact HC0_1.out); (case side5 => exact y2_ (Kd.C_below HR0_2.out HB.out)); (case side6 => exact HC0_2.out); rintro e w29 ⟨v313, v316, v319, rfl, ho0, ho1, ho2, hb⟩; refine ⟨_, rfl, ?_⟩; have n0_ := Aside0.mk (Kd.R_lower ho0 (below_size (y1_ HB.out))); have n1_ := Aside0.mk (Kd.R_lower ho1 (below_size (y1_ HB.out))); have n2_ := Aside0.mk (Kd.R_lower ho2 (below_size (y1_ HB.out))); have n3_ := b3_ BK306 hb; have n4_ := b3_ BK307 hb; have n5_ := b3_ BK308 hb; have n6_ := b3_ BK310 hb; have n7_ := Aside0.mk (below_step (y1_ HB.out) hb); clear BK306; clear BK307; clear BK308; clear BK310; clear HB; have HO314 := n0_; have HO317 := n1_; have HO320 := n2_; have BK306 := n3_; have BK307 := n4_; have BK308 := n5_; have BK310 := n6_; have HB := n7_; clear n0_ n1_ n2_ n3_ n4_ n5_ n6_ n7_; (try clear hb); (try clear hb2); (try clear hk); (try clear hi); (try clear ho0); (try clear ho1); (try clear ho2)) | ((with_reducible refine gate_dst (N := 6) rfl ?_); (try (refine gate_guard (by rfl) ?_; dsimp only)); refine box_event ?hg (N := 6) ?hd (cs := #[.slice none 0 0, .slice none 0 0, .slice none 0 0]) (t := 27) ?hr ?_; (case hd => rfl); (case hg => rfl); (case hr => first | (go_simp; done) | (go_simp; rfl)); intro gb321 hg w30 hbox hb; have GW321 := b6_ hg HB; have GE321 := b6_ hg HB; have NB306_321 := b4_ hg BK306; have NB321_306 := b5_ hg BK306; have NB307_321 := b4_ hg BK307; have NB321_307 := b5_ hg BK307; have NB308_321 := b4_ hg BK308; have NB321_308 := b5_ hg BK308; have NB310_321 := b4_ hg BK310; have NB321_310 := b5_ hg BK310; have n0_ := r1_ HO314 hb; have n1_ := r1_ HO317 hb; have n2_ := r1_ HO320 hb; have n3_ := b3_ BK306 hb; have n4_ := b3_ BK307 hb; have n5_ := b3_ BK308 hb; have n6_ := b3_ BK310 hb; have n7_ := Aside0.mk (below_step (y1_ HB.out) hb); have n8_ := Aside0.mk (hbox); clear HO314; clear HO317; clear HO320; clear BK306; clear BK307; clear BK308; clear BK310; clear HB; have HO314 := n0_; have HO317 := n1_; have HO320 := n2_; have BK306 := n3_; have BK307 := n4_; have BK308 := n5_; have BK310 := n6_; have HB := n7_; have BK321 := n8_; clear n0_ n1_ n2_ n3_ n4_ n5_ n6_ n7_ n8_; clear hb hbox hg; obtain ⟨Ao31, co31, eo31⟩ := Kd.R_slice HO314.out; subst eo31; have hnb32 := NB321_306.out; have hnc32 := NB306_321.out; have hnb33 := NB321_307.out; have hnc33 := NB307_321.out; have hnb34 := NB321_308.out; have hnc34 := NB308_321.out; have hnb35 := NB321_310.out; have hnc35 := NB310_321.out; have hcz36_0 : w30.cell? ⟨gb321, 0, none⟩ = some (.slice none 0 0) := (blk_cell BK321.out 0).trans rfl; have hcz36_1 : w30.cell? ⟨gb321, 1, none⟩ = some (.slice none 0 0) := (blk_cell BK321.out 1).trans rfl; have hcz36_2 : w30.cell? ⟨gb321, 2, none⟩ = some (.slice none 0 0) := (blk_cell BK321.out 2).trans rfl; have hfz36_0 := blk_frozen BK321.out 0; have hfz36_1 := blk_frozen BK321.out 1; have hfz36_2 := blk_frozen BK321.out 2; obtain ⟨Ao37, co37, eo37⟩ := Kd.R_slice HO317.out; subst eo37; obtain ⟨Ao38, co38, eo38⟩ := Kd.R_slice HO320.out; subst eo38))
 go_at_call 77
 go_in
 try go_wp2_with (fail)
 have n0_ : Aside0 (Kd.R k63 63 (((w30.setCell ⟨gb321, 0, none⟩ (.slice Ao31 t312.length co31)).setCell ⟨gb321, 1, none⟩ (.slice Ao37 t315.length co37)).setCell ⟨gb321, 2, none⟩ (.slice Ao38 t318.length co38)) w.heap.size (fun k_ => some k_ ≠ (.slice Ao37 t315.length co37 : Value).ownBlock) (.slice Ao31 t312.length co31) t312) := ⟨by (with_reducible repeat (first | apply Kd.R_alloc | apply Kd.R_drewN | apply Kd.R_drew)); exact Kd.R_mono (Kd.R_far3 (g := gb321) (Kd.R_types HO314.out BK321.out (by decide)) (fun _ hk => hk.2)) (fun _ hk => hk.1)⟩
 have n1_ : Aside0 (Kd.R k63 63 (((w30.setCell ⟨gb321, 0, none⟩ (.slice Ao31 t312.length co31)).setCell ⟨gb321, 1, none⟩ (.slice Ao37 t315.length co37)).setCell ⟨gb321, 2, none⟩ (.slice Ao38 t318.length co38)) w.heap.size (fun k_ => some k_ ≠ (.slice Ao31 t312.length co31 : Value).ownBlock) (.slice Ao37 t315.length co37) t315) := ⟨by (with_reducible repeat (first | apply Kd.R_alloc | apply Kd.R_drewN | apply Kd.R_drew)); exact Kd.R_mono (Kd.R_far3 (g := gb321) (Kd.R_types HO317.out BK321.out (by decide)) (fun _ hk => hk.2)) (fun _ hk => hk.1)⟩
 have n2_ : Aside0 (Kd.R k73 73 (((w30.setCell ⟨gb321, 0, none⟩ (.slice Ao31 t312.length co31)).setCell ⟨gb321, 1, none⟩ (.slice Ao37 t315.length co37)).setCell ⟨gb321, 2, none⟩ (.slice Ao38 t318.length co38)) w.heap.size (fun _ => True) (.slice Ao38 t318.length co38) t318) := ⟨by (with_reducible repeat (first | apply Kd.R_alloc | apply Kd.R_drewN | apply Kd.R_drew)); exact Kd.R_mono (Kd.R_far3 (g := gb321) (Kd.R_types HO320.out BK321.out (by decide)) (fun _ hk => hk.2)) (fun _ hk => trivial)⟩
 have n3_ : Aside0 ((((w30.setCell ⟨gb321, 0, none⟩ (.slice Ao31 t312.length co31)).setCell ⟨gb321, 1, none⟩ (.slice Ao37 t315.length co37)).setCell ⟨gb321, 2, none⟩ (.slice Ao38 t318.length co38)).heap[gb306]? = some (.cells #[.int .i64 a1] 2 (0, 0))) := ⟨by (with_reducible repeat (first | refine blk_drewN ?_ _ | refine blk_drew ?_ | refine blk_alloc ?_ _)); refine blk_far3 ?_ NB306_321.out; (with_reducible repeat (first | refine blk_drewN ?_ _ | refine blk_drew ?_ | refine blk_alloc ?_ _)); exact BK306.out⟩
 have n4_ : Aside0 ((((w30.setCell ⟨gb321, 0, none⟩ (.slice Ao31 t312.length co31)).setCell ⟨gb321, 1, none⟩ (.slice Ao37 t315.length co37)).setCell ⟨gb321, 2, none⟩ (.slice Ao38 t318.length co38)).heap[gb307]? = some (.cells #[.int .i64 a2] 2 (0, 0))) := ⟨by (with_reducible repeat (first | refine blk_drewN ?_ _ | refine blk_drew ?_ | refine blk_alloc ?_ _)); refine blk_far3 ?_ NB307_321.out; (with_reducible repeat (first | refine blk_drewN ?_ _ | refine blk_drew ?_ | refine blk_alloc ?_ _)); exact BK307.out⟩
 have n5_ : Aside0 ((((w30.setCell ⟨gb321, 0, none⟩ (.slice Ao31 t312.length co31)).setCell ⟨gb321, 1, none⟩ (.slice Ao37 t315.length co37)).setCell ⟨gb321, 2, none⟩ (.slice Ao38 t318.length co38)).heap[gb308]? = some (.cells #[.slice none 0 0, .slice none 0 0, .slice none 0 0] 27 (0, 0))) := ⟨by (with_reducible repeat (first | refine blk_drewN ?_ _ | refine blk_drew ?_ | refine blk_alloc ?_ _)); refine blk_far3 ?_ NB308_321.out; (with_reducible repeat (first | refine blk_drewN ?_ _ | refine blk_drew ?_ | refine blk_alloc ?_ _)); exact BK308.out⟩
 have n6_ : Aside0 ((((w30.setCell ⟨gb321, 0, none⟩ (.slice Ao31 t312.length co31)).setCell ⟨gb321, 1, none⟩ (.slice Ao37 t315.length co37)).setCell ⟨gb321, 2, none⟩ (.slice Ao38 t318.length co38)).heap[gb310]? = some (.cells #[.slice none 0 0, .slice none 0 0, .slice none 0 0] 27 (0, 0))) := ⟨by (with_reducible repeat (first | refine blk_drewN ?_ _ | refine blk_drew ?_ | refine blk_alloc ?_ _)); refine blk_far3 ?_ NB310_321.out; (with_reducible repeat (first | refine blk_drewN ?_ _ | refine blk_drew ?_ | refine blk_alloc ?_ _)); exact BK310.out⟩
 have n7_ : Aside0 ((((w30.setCell ⟨gb321, 0, none⟩ (.slice Ao31 t312.length co31)).setCell ⟨gb321, 1, none⟩ (.slice Ao37 t315.length co37)).setCell ⟨gb321, 2, none⟩ (.slice Ao38 t318.length co38)).heap[gb321]? = some (.cells #[.slice Ao31 t312.length co31, .slice Ao37 t315.length co37, .slice Ao38 t318.length co38] 27 (0, 0))) := ⟨by (with_reducible repeat (first | refine blk_drewN ?_ _ | refine blk_drew ?_ | refine blk_alloc ?_ _)); refine blk_put3 (cs := #[.slice none 0 0, .slice none 0 0, .slice none 0 0]) ?_ rfl; (with_reducible repeat (first | refine blk_drewN ?_ _ | refine blk_drew ?_ | refine blk_alloc ?_ _)); exact BK321.out⟩
 have n8_ : Aside0 (Below w.heap.size w (((w30.setCell ⟨gb321, 0, none⟩ (.slice Ao31 t312.length co31)).setCell ⟨gb321, 1, none⟩ (.slice Ao37 t315.length co37)).setCell ⟨gb321, 2, none⟩ (.slice Ao38 t318.length co38))) := ⟨by repeat (first | (with_reducible first | exact HB.out | apply below_alloc | apply pw_below_drewN | apply below_drew1 | refine below_set ?_ GE321.out) | exact HB.out)⟩
 (try clear HO314)
 (try clear HO317)
 (try clear HO320)
 (try clear BK306)
 (try clear BK307)
 (try clear BK308)
 (try clear BK310)
 (try clear BK321)
 (try clear HB)
 generalize (((w30.setCell ⟨gb321, 0, none⟩ (.slice Ao31 t312.length co31)).setCell ⟨gb321, 1, none⟩ (.slice Ao37 t315.length co37)).setCell ⟨gb321, 2, none⟩ (.slice Ao38 t318.length co38)) = w39 at n0_ n1_ n2_ n3_ n4_ n5_ n6_ n7_ n8_ ⊢
 have HO314 := n0_
 have HO317 := n1_
 have HO320 := n2_
 have BK306 := n3_
 have BK307 := n4_
 have BK308 := n5_
 have BK310 := n6_
 have BK321 := n7_
 have HB := n8_
 clear n0_ n1_ n2_ n3_ n4_ n5_ n6_ n7_ n8_
 have n0_ := Aside0.mk (Kd.R_drew HO314.out)
 have n1_ := Aside0.mk (Kd.R_drew HO317.out)
 have n2_ := Aside0.mk (Kd.R_drew HO320.out)
 have n3_ := Aside0.mk (blk_drew BK306.out)
 have n4_ := Aside0.mk (blk_drew BK307.out)
 have n5_ := Aside0.mk (blk_drew BK308.out)
 have n6_ := Aside0.mk (blk_drew BK310.out)
 have n7_ := Aside0.mk (blk_drew BK321.out)
 have n8_ := Aside0.mk (below_drew1 HB.out)
 clear HO314
 clear HO317
 clear HO320
 clear BK306
 clear BK307
 clear BK308
 clear BK310
 clear BK321
 clear HB
 have HO314 := n0_
 have HO317 := n1_
 have HO320 := n2_
 have BK306 := n3_
 have BK307 := n4_
 have BK308 := n5_
 have BK310 := n6_
 have BK321 := n7_
 have HB := n8_
 clear n0_ n1_ n2_ n3_ n4_ n5_ n6_ n7_ n8_
 refine start_ (n := 12) (S := fun w' => w'.cell? ⟨gb321, 0, none⟩ = some (.slice Ao31 t312.length co31) ∧ w'.cell? ⟨gb321, 1, none⟩ = some (.slice Ao37 t315.length co37) ∧ w'.cell? ⟨gb321, 2, none⟩ = some (.slice Ao38 t318.length co38) ∧ w'.cell? ⟨gb306, 0, none⟩ = some (.int .i64 a1) ∧ w'.cell? ⟨gb307, 0, none⟩ = some (.int .i64 a2)) (ds := [11]) m0_ s2_ rfl rfl ⟨(blk_cell BK321.out 0).trans rfl, (blk_cell BK321.out 1).trans rfl, (blk_cell BK321.out 2).trans rfl, (blk_cell BK306.out 0).trans rfl, (blk_cell BK307.out 0).trans rfl⟩ (fun hHeld => ?_)
 generalize w39.drew = w40 at HO314 HO317 HO320 BK306 BK307 BK308 BK310 BK321 HB hHeld ⊢
 refine pure_ (i := 0) (N := some 5) (v := ?_) (a' := ?_) m1_ rfl rfl s2_ (fun _ _ _ h => h) (Or.inl ⟨by rfl, ?_⟩) ?_ ?_
 rotate_left
 {
 intro w'
 go_simp
 with_reducible rfl}
 rotate_left
 · exact p1_
 refine pure_ (i := 1) (N := some 6) (v := ?_) (a' := ?_) m2_ rfl rfl s2_ (fun _ _ _ h => h) (Or.inl ⟨by rfl, ?_⟩) ?_ ?_
 rotate_left
 {
 intro w'
 go_simp
 with_reducible rfl}
 rotate_left
 · exact p1_
 refine pure_ (i := 2) (N := some 7) (v := ?_) (a' := ?_) m3_ rfl rfl s2_ (fun _ _ _ h => h) (Or.inl ⟨by rfl, ?_⟩) ?_ ?_
 rotate_left
 {
 intro w'
 go_simp
 with_reducible rfl}
 rotate_left
 · exact p1_
 refine pure_ (i := 3) (N := some 8) (v := ?_) (a' := ?_) m4_ rfl rfl s2_ (fun _ _ _ h => h) (Or.inl ⟨by rfl, ?_⟩) ?_ ?_
 rotate_left
 {
 intro w'
 go_simp
 with_reducible rfl}
 rotate_left
 · exact p1_
 refine take_ (i := 4) (N := some 9) (v := ?_) (a' := ?_) m5_ rfl rfl s2_ (fun _ _ _ h => h) (Or.inl ⟨by rfl, ?_⟩) hHeld ?_ ?_
 rotate_left
 {
 rintro w' ⟨s0, s1, s2, s3, s4⟩
 go_simp
 with_reducible rfl}
 rotate_left
 · exact p1_
 refine take_ (i := 5) (N := some 10) (v := ?_) (a' := ?_) m6_ rfl rfl s2_ (fun _ _ _ h => h) (Or.inl ⟨by rfl, ?_⟩) hHeld ?_ ?_
 rotate_left
 {
 rintro w' ⟨s0, s1, s2, s3, s4⟩
 go_simp
 with_reducible rfl}
 rotate_left
 · exact p1_
 refine take_ (i := 6) (N := some 11) (v := ?_) (a' := ?_) m7_ rfl rfl s2_ (fun _ _ _ h => h) (Or.inl ⟨by rfl, ?_⟩) hHeld ?_ ?_
 rotate_left
 {
 rintro w' ⟨s0, s1, s2, s3, s4⟩
 go_simp
 with_reducible rfl}
 rotate_left
 · exact p1_
 refine pure_ (i := 7) (N := some 12) (v := ?_) (a' := ?_) m8_ rfl rfl s2_ (fun _ _ _ h => h) (Or.inl ⟨by rfl, ?_⟩) ?_ ?_
 rotate_left
 {
 intro w'
 go_simp
 with_reducible rfl}
 rotate_left
 · exact p1_
 refine one_ (i := 8) (N := some 13) m9_ rfl rfl s2_ (by decide) (fun K hK => ?_)
 refine goes_ Try.func78 s2_ rfl #[.slice Ao38 t318.length co38, .agg #[.int .i64 a1, .int .i64 a2]] (by rfl) rfl rfl s3_ ?_
 with_reducible refine (impl_marked_n78.calls k (fun k_ => some k_ = (.slice Ao38 t318.length co38 : Value).ownBlock) (.slice Ao38 t318.length co38) t318 a1 a2 t322 w _ ?side1 ?side2 A7.out).mono ?_
 (case side1 => repeat (first | (with_reducible first | exact HB.out | apply below_alloc | apply pw_below_drewN | apply below_drew1) | exact HB.out))
 (case side2 => exact Kd.R_tight rfl HO320.out)
 rintro e w41 ⟨v323, rfl, ho0, hb, hkp⟩
 refine ⟨_, rfl, ?_⟩
 have n0_ := Aside0.mk (blk_kept (b1_ BK306.out) hkp (fun hs_ => (fun e_ => (Kd.R_ne HO320.out BK306.out (by decide)) e_) hs_))
 have n1_ := Aside0.mk (blk_kept (b1_ BK307.out) hkp (fun hs_ => (fun e_ => (Kd.R_ne HO320.out BK307.out (by decide)) e_) hs_))
 have n2_ := Aside0.mk (blk_kept (b1_ BK308.out) hkp (fun hs_ => (fun e_ => (Kd.R_ne HO320.out BK308.out (by decide)) e_) hs_))
 have n3_ := Aside0.mk (blk_kept (b1_ BK310.out) hkp (fun hs_ => (fun e_ => (Kd.R_ne HO320.out BK310.out (by decide)) e_) hs_))
 have n4_ := Aside0.mk (Kd.R_mono (ok' := fun k_ => some k_ ≠ (.slice Ao37 t315.length co37 : Value).ownBlock) (Kd.R_keptB ((Kd.R_apart' HO314.out (Kd.R_typed HO320.out) (by decide))) hkp (fun k_ hk_ hs_ => (hk_.2) hs_)) (fun k_ hk_ => hk_.1.1))
 have n5_ := Aside0.mk (Kd.R_mono (ok' := fun k_ => some k_ ≠ (.slice Ao31 t312.length co31 : Value).ownBlock) (Kd.R_keptB ((Kd.R_apart' HO317.out (Kd.R_typed HO320.out) (by decide))) hkp (fun k_ hk_ hs_ => (hk_.2) hs_)) (fun k_ hk_ => hk_.1.1))
 have n6_ := Aside0.mk (blk_kept (b1_ BK321.out) hkp (fun hs_ => (fun e_ => (Kd.R_ne HO320.out BK321.out (by decide)) e_) hs_))
 have n7_ := Aside0.mk (Kd.R_mono (ok' := fun k_ => True) ho0 (fun k_ hk_ => trivial))
 have n8_ := Aside0.mk (hb)
 clear BK306
 clear BK307
 clear BK308
 clear BK310
 clear HO314
 clear HO317
 clear BK321
 clear HB
 clear HO320
 have BK306 := n0_
 have BK307 := n1_
 have BK308 := n2_
 have BK310 := n3_
 have HO314 := n4_
 have HO317 := n5_
 have BK321 := n6_
 have HO324 := n7_
 have HB := n8_
 clear n0_ n1_ n2_ n3_ n4_ n5_ n6_ n7_ n8_
 (try clear hb)
 (try clear hkp)
 (try clear ho0)
 obtain ⟨Ao42, co42, eo42⟩ := Kd.R_slice HO324.out
 (first | subst eo42 | (injection eo42 with f1_ f2_ f3_; have f4_ := f1_.symm; have f5_ := f3_.symm; clear f1_ f2_ f3_; subst f4_; subst f5_))
 refine hK.out _ _ ⟨(blk_cell BK321.out 0).trans rfl, (blk_cell BK321.out 1).trans rfl, (blk_cell BK321.out 2).trans rfl, (blk_cell BK306.out 0).trans rfl, (blk_cell BK307.out 0).trans rfl⟩ (fun hHeld => ?_)
 clear hK K
 refine norm_ (a' := ?_) ?_ ?_
 rotate_left
 {
 show Act.put _ (some 13) _ = _
 simp only [Act.put, List.setIfInBounds_toArray, List.set_cons_zero, List.set_cons_succ, i64_w, i32_w]
 rfl}
 refine pure_ (i := 9) (N := some 14) (v := ?_) (a' := ?_) m10_ rfl rfl s2_ (fun _ _ _ h => h) (Or.inl ⟨by rfl, ?_⟩) ?_ ?_
 rotate_left
 {
 intro w'
 go_simp
 with_reducible rfl}
 rotate_left
 · exact p1_
 refine pure_ (i := 10) (N := some 15) (v := ?_) (a' := ?_) m11_ rfl rfl s2_ (fun _ _ _ h => h) (Or.inl ⟨by rfl, ?_⟩) ?_ ?_
 rotate_left
 {
 intro w'
 go_simp
 with_reducible rfl}
 rotate_left
 · exact p1_
 refine last_ (i := 11) (N := none) m12_ rfl rfl s2_ (by decide) (fun K hK => ?_)
 have hs43 : w41.cell? ⟨gb321, 2, none⟩ = some (.slice Ao38 t318.length co38) := (blk_cell BK321.out 2).trans rfl
 have hfs43 := blk_frozen BK321.out 2
 have hns43_0 := NB306_321.out
 have hns43_1 := NB307_321.out
 have hns43_2 := NB308_321.out
 have hns43_3 := NB310_321.out
 have hms43_0 := NB321_306.out
 have hms43_1 := NB321_307.out
 have hms43_2 := NB321_308.out
 have hms43_3 := NB321_310.out
 refine skip_ (w1 := ?_) (by rfl) rfl ?_ ?_
 rotate_left
 {
 go_simp
 rfl}
 refine hK.out _ _ ?_
 clear hK K
 refine done_ s2_ ?_
 have hnb44 := NB307_306.out
 have hnc44 := NB306_307.out
 have hnb45 := NB307_308.out
 have hnc45 := NB308_307.out
 have hnb46 := NB307_310.out
 have hnc46 := NB310_307.out
 have hcz47_0 : w41.cell? ⟨gb307, 0, none⟩ = some (.int .i64 a2) := (blk_cell BK307.out 0).trans rfl
 have hfz47_0 := blk_frozen BK307.out 0
 try go_wp2_with (first | ((with_reducible refine gate_callee (f := 46) rfl ?_); refine goesL_ (some 17) rfl rfl Try.func46 s2_ rfl #[.int .i64 a2, .int .i64 0, .int .i64 1000000000] rfl s3_ ?_; (with_reducible refine (impl_in.calls a2 0 1000000000 true _ A8.out).mono ?_); rintro e w' ⟨rfl, ⟨nd, rfl⟩⟩; refine ⟨_, rfl, ?_⟩; have hcz48_0 : w41.cell? ⟨gb321, 0, none⟩ = some (.slice Ao31 t312.length co31) := (blk_cell BK321.out 0).trans rfl; have hcz48_1 : w41.cell? ⟨gb321, 1, none⟩ = some (.slice Ao37 t315.length co37) := (blk_cell BK321.out 1).trans rfl; have hcz48_2 : w41.cell? ⟨gb321, 2, none⟩ = some (.slice Ao38 t318.length co38) := (blk_cell BK321.out 2).trans rfl; have hfz48_0 := blk_frozen BK321.out 0; have hfz48_1 := blk_frozen BK321.out 1; have hfz48_2 := blk_frozen BK321.out 2) | (go_at_call 19; (with_reducible refine (impl_ValidPresence.calls k _ _ t312 _ _ t315 _ _ t322 true _ ?side1 ?side2 ?side3 ?side4 ?side5 ?side6 A10.out).mono ?_); (case side1 => refine (Kd.R_reads' (e := 63) (base := w.heap.size) (ok := fun k_ => some k_ ≠ (.slice Ao37 t315.length co37 : Value).ownBlock) (n := t312.length) (c := co31) ?_).2.2; exact (by (with_reducible repeat (first | apply Kd.R_alloc | apply Kd.R_drewN | apply Kd.R_drew)); exact (Kd.R_mono (Kd.R_far (p := ⟨gb321, 2, none⟩) (Kd.R_types HO314.out BK321.out (by decide)) (fun _ hk => hk.2) (.slice Ao42 t322.length co42)) (fun _ h_ => h_.1)))); (case side2 => exact (Kd.R_reads' HO314.out).2.1); (case side3 => refine (Kd.R_reads' (e := 63) (base := w.heap.size) (ok := fun k_ => some k_ ≠ (.slice Ao31 t312.length co31 : Value).ownBlock) (n := t315.length) (c := co37) ?_).2.2; exact (by (with_reducible repeat (first | apply Kd.R_alloc | apply Kd.R_drewN | apply Kd.R_drew)); exact (Kd.R_mono (Kd.R_far (p := ⟨gb321, 2, none⟩) (Kd.R_types HO317.out BK321.out (by decide)) (fun _ hk => hk.2) (.slice Ao42 t322.length co42)) (fun _ h_ => h_.1)))); (case side4 => exact (Kd.R_reads' HO317.out).2.1); (case side5 => refine (Kd.R_reads' (e := 73) (base := w.heap.size) (ok := fun k_ => True) (n := t322.length) (c := co42) ?_).2.2; exact (by (with_reducible repeat (first | apply Kd.R_alloc | apply Kd.R_drewN | apply Kd.R_drew)); exact (Kd.R_mono (Kd.R_far (p := ⟨gb321, 2, none⟩) (Kd.R_types HO324.out BK321.out (by decide)) (fun _ hk => hk.2) (.slice Ao42 t322.length co42)) (fun _ h_ => h_.1)))); (case side6 => exact (Kd.R_reads' HO324.out).2.1); rintro e w49 ⟨rfl, hb⟩; have n0_ := Aside0.mk (Kd.R_below (by (with_reducible repeat (first | apply Kd.R_alloc | apply Kd.R_drewN | apply Kd.R_drew)); exact (Kd.R_mono (Kd.R_far (p := ⟨gb321, 2, none⟩) (Kd.R_types HO314.out BK321.out (by decide)) (fun _ hk => hk.2) (.slice Ao42 t322.length co42)) (fun _ h_ => h_.1))) hb); have n1_ := Aside0.mk (Kd.R_below (by (with_reducible repeat (first | apply Kd.R_alloc | apply Kd.R_drewN | apply Kd.R_drew)); exact (Kd.R_mono (Kd.R_far (p := ⟨gb321, 2, none⟩) (Kd.R_types HO317.out BK321.out (by decide)) (fun _ hk => hk.2) (.slice Ao42 t322.length co42)) (fun _ h_ => h_.1))) hb); have n2_ := Aside0.mk (Kd.R_below (by (with_reducible repeat (first | apply Kd.R_alloc | apply Kd.R_drewN | apply Kd.R_drew)); exact (Kd.R_mono (Kd.R_far (p := ⟨gb321, 2, none⟩) (Kd.R_types HO324.out BK321.out (by decide)) (fun _ hk => hk.2) (.slice Ao42 t322.length co42)) (fun _ h_ => h_.1))) hb); have n3_ := Aside0.mk (blk_below (g := gb306) (o := .cells #[.int .i64 a1] 2 (0, 0)) (by (with_reducible repeat (first | refine blk_drewN ?_ _ | refine blk_drew ?_ | refine blk_alloc ?_ _)); refine blk_far ?_ NB306_321.out _; (with_reducible repeat (first | refine blk_drewN ?_ _ | refine blk_drew ?_ | refine blk_alloc ?_ _)); exact BK306.out) hb); have n4_ := Aside0.mk (blk_below (g := gb307) (o := .cells #[.int .i64 a2] 2 (0, 0)) (by (with_reducible repeat (first | refine blk_drewN ?_ _ | refine blk_drew ?_ | refine blk_alloc ?_ _)); refine blk_far ?_ NB307_321.out _; (with_reducible repeat (first | refine blk_drewN ?_ _ | refine blk_drew ?_ | refine blk_alloc ?_ _)); exact BK307.out) hb); have n5_ := Aside0.mk (blk_below (g := gb308) (o := .cells #[.slice none 0 0, .slice none 0 0, .slice none 0 0] 27 (0, 0)) (by (with_reducible repeat (first | refine blk_drewN ?_ _ | refine blk_drew ?_ | refine blk_alloc ?_ _)); refine blk_far ?_ NB308_321.out _; (with_reducible repeat (first | refine blk_drewN ?_ _ | refine blk_drew ?_ | refine blk_alloc ?_ _)); exact BK308.out) hb); have n6_ := Aside0.mk (blk_below (g := gb310) (o := .cells #[.slice none 0 0, .slice none 0 0, .slice none 0 0] 27 (0, 0)) (by (with_reducible repeat (first | refine blk_drewN ?_ _ | refine blk_drew ?_ | refine blk_alloc ?_ _)); refine blk_far ?_ NB310_321.out _; (with_reducible repeat (first | refine blk_drewN ?_ _ | refine blk_drew ?_ | refine blk_alloc ?_ _)); exact BK310.out) hb); have n7_ := Aside0.mk (blk_below (g := gb321) (o := .cells #[.slice Ao31 t312.length co31, .slice Ao37 t315.length co37, .slice Ao42 t322.length co42] 27 (0, 0)) (by (with_reducible repeat (first | refine blk_drewN ?_ _ | refine blk_drew ?_ | refine blk_alloc ?_ _)); refine blk_put (cs := #[.slice Ao31 t312.length co31, .slice Ao37 t315.length co37, .slice Ao38 t318.length co38]) ?_ 2 _ rfl; (with_reducible repeat (first | refine blk_drewN ?_ _ | refine blk_drew ?_ | refine blk_alloc ?_ _)); exact BK321.out) hb); have n8_ := Aside0.mk (below_step (by repeat (first | (with_reducible first | exact HB.out | apply below_alloc | apply pw_below_drewN | apply below_drew1 | refine below_set ?_ GE321.out) | exact HB.out)) hb); clear HO314; clear HO317; clear HO324; clear BK306; clear BK307; clear BK308; clear BK310; clear BK321; clear HB; have HO314 := n0_; have HO317 := n1_; have HO324 := n2_; have BK306 := n3_; have BK307 := n4_; have BK308 := n5_; have BK310 := n6_; have BK321 := n7_; have HB := n8_; clear n0_ n1_ n2_ n3_ n4_ n5_ n6_ n7_ n8_; (try clear hb); (try clear hb2); (try clear hk); (try clear hi); have hcz50_0 : w49.cell? ⟨gb321, 0, none⟩ = some (.slice Ao31 t312.length co31) := (blk_cell BK321.out 0).trans rfl; have hcz50_1 : w49.cell? ⟨gb321, 1, none⟩ = some (.slice Ao37 t315.length co37) := (blk_cell BK321.out 1).trans rfl; have hcz50_2 : w49.cell? ⟨gb321, 2, none⟩ = some (.slice Ao42 t322.length co42) := (blk_cell BK321.out 2).trans rfl; have hfz50_0 := blk_frozen BK321.out 0; have hfz50_1 := blk_frozen BK321.out 1; have hfz50_2 := blk_frozen BK321.out 2; have hnb51 := NB310_308.out; have hnc51 := NB308_310.out; have hcz52_0 : w49.cell? ⟨gb310, 0, none⟩ = some (.slice none 0 0) := (blk_cell BK310.out 0).trans rfl; have hcz52_1 : w49.cell? ⟨gb310, 1, none⟩ = some (.slice none 0 0) := (blk_cell BK310.out 1).trans rfl; have hcz52_2 : w49.cell? ⟨gb310, 2, none⟩ = some (.slice none 0 0) := (blk_cell BK310.out 2).trans rfl; have hfz52_0 := blk_frozen BK310.out 0; have hfz52_1 := blk_frozen BK310.out 1; have hfz52_2 := blk_frozen BK310.out 2))
 (try simp only [Exit.inBlock, Exit.then])
 refine bodyPost_ret (results_ct rfl _ _ gb310 27 #[.slice Ao31 t312.length co31, .slice Ao37 t315.length co37, .slice Ao42 t322.length co42] (0, 0) _ rfl (by (with_reducible repeat (first | refine blk_drewN ?_ _ | refine blk_drew ?_ | refine blk_alloc ?_ _)); refine blk_put3 (cs := #[.slice none 0 0, .slice none 0 0, .slice none 0 0]) ?_ rfl; (with_reducible repeat (first | refine blk_drewN ?_ _ | refine blk_drew ?_ | refine blk_alloc ?_ _)); exact BK310.out) Try.underlying27 rfl s2_) rfl ?_
 (try simp only [])
 have hcz53_0 : w49.cell? ⟨gb308, 0, none⟩ = some (.slice none 0 0) := (blk_cell BK308.out 0).trans rfl
 have hcz53_1 : w49.cell? ⟨gb308, 1, none⟩ = some (.slice none 0 0) := (blk_cell BK308.out 1).trans rfl
 have hcz53_2 : w49.cell? ⟨gb308, 2, none⟩ = some (.slice none 0 0) := (blk_cell BK308.out 2).trans rfl
 have hfz53_0 := blk_frozen BK308.out 0
 have hfz53_1 := blk_frozen BK308.out 1
 have hfz53_2 := blk_frozen BK308.out 2
 try go_wp2_with (fail)
 refine bodyPost_ret (results_ct rfl _ _ gb308 27 #[.slice Ao31 t312.length co31, .slice Ao37 t315.length co37, .slice Ao42 t322.length co42] (0, 0) _ rfl (by (with_reducible repeat (first | refine blk_drewN ?_ _ | refine blk_drew ?_ | refine blk_alloc ?_ _)); refine blk_put3 (cs := #[.slice none 0 0, .slice none 0 0, .slice none 0 0]) ?_ rfl; (with_reducible repeat (first | refine blk_drewN ?_ _ | refine blk_drew ?_ | refine blk_alloc ?_ _)); refine blk_far3 ?_ NB308_310.out; (with_reducible repeat (first | refine blk_drewN ?_ _ | refine blk_drew ?_ | refine blk_alloc ?_ _)); exact BK308.out) Try.underlying27 rfl s2_) rfl ?_
 exact ⟨_, _, _, by first | rfl | (simp [errW_none, errW_some] <;> rfl) | (simp [*, errW_none, errW_some] <;> rfl), by (with_reducible repeat (first | apply Kd.R_alloc | apply Kd.R_drewN | apply Kd.R_drew)); exact Kd.R_mono (Kd.R_far3 (g := gb308) (Kd.R_far3 (g := gb310) (Kd.R_types (Kd.R_types HO314.out BK310.out (by decide)) BK308.out (by decide)) (fun _ hk => hk.1.2)) (fun _ hk => hk.2)) (fun _ hk => hk.1.1), by (with_reducible repeat (first | apply Kd.R_alloc | apply Kd.R_drewN | apply Kd.R_drew)); exact Kd.R_mono (Kd.R_far3 (g := gb308) (Kd.R_far3 (g := gb310) (Kd.R_types (Kd.R_types HO317.out BK310.out (by decide)) BK308.out (by decide)) (fun _ hk => hk.1.2)) (fun _ hk => hk.2)) (fun _ hk => hk.1.1), by (with_reducible repeat (first | apply Kd.R_alloc | apply Kd.R_drewN | apply Kd.R_drew)); exact Kd.R_mono (Kd.R_far3 (g := gb308) (Kd.R_far3 (g := gb310) (Kd.R_types (Kd.R_types HO324.out BK310.out (by decide)) BK308.out (by decide)) (fun _ hk => hk.1.2)) (fun _ hk => hk.2)) (fun _ hk => trivial), by repeat (first | (with_reducible first | exact HB.out | apply below_alloc | apply pw_below_drewN | apply below_drew1 | refine below_set ?_ GE308.out | refine below_set ?_ GE310.out) | exact HB.out)⟩}
 {
 replace c11 := Bool.eq_false_iff.mpr c11
 subst c11
 have H1 : (some (([] : List (S63)), ([] : List (S63)), ([] : List (S73)), false)) = some (r1, r2, r3, r4) := by rw [if_neg (show ¬ (false = true) by decide)] at H; exact H
 clear H
 have H := H1
 clear H1
 simp only [Option.some.injEq, Prod.mk.injEq] at H
 obtain ⟨rfl, rfl, rfl, rfl⟩ := H
 go_enter Try.func34, Try.ntmps34
 try go_wp2_with (first | ((with_reducible refine gate_dst (N := 3) rfl ?_); (try (refine gate_guard (by rfl) ?_; dsimp only)); refine box_event ?hg (N := 3) ?hd (cs := #[.slice A0_0 l0_0.length c0_0, .slice A0_1 l0_1.length c0_1, .slice A0_2 l0_2.length c0_2]) (t := 27) ?hr ?_; (case hd => rfl); (case hg => rfl); (case hr => first | (go_simp; done) | (go_simp; rfl)); intro gb305 hg w54 hbox hb; have GW305 := b6_ hg HB; have GE305 := b6_ hg HB; have n0_ := Aside0.mk (below_step (y1_ HB.out) hb); have n1_ := Aside0.mk (hbox); clear HB; have HB := n0_; have BK305 := n1_; clear n0_ n1_; clear hb hbox hg) | ((with_reducible refine gate_dst (N := 4) rfl ?_); (try (refine gate_guard (by rfl) ?_; dsimp only)); refine box_event ?hg (N := 4) ?hd (cs := #[.int .i64 a1]) (t := 2) ?hr ?_; (case hd => rfl); (case hg => rfl); (case hr => first | (go_simp; done) | (go_simp; rfl)); intro gb306 hg w55 hbox hb; have GW306 := b6_ hg HB; have GE306 := b6_ hg HB; have NB305_306 := b4_ hg BK305; have NB306_305 := b5_ hg BK305; have n0_ := b3_ BK305 hb; have n1_ := Aside0.mk (below_step (y1_ HB.out) hb); have n2_ := Aside0.mk (hbox); clear BK305; clear HB; have BK305 := n0_; have HB := n1_; have BK306 := n2_; clear n0_ n1_ n2_; clear hb hbox hg) | ((with_reducible refine gate_dst (N := 5) rfl ?_); (try (refine gate_guard (by rfl) ?_; dsimp only)); refine box_event ?hg (N := 5) ?hd (cs := #[.int .i64 a2]) (t := 2) ?hr ?_; (case hd => rfl); (case hg => rfl); (case hr => first | (go_simp; done) | (go_simp; rfl)); intro gb307 hg w56 hbox hb; have GW307 := b6_ hg HB; have GE307 := b6_ hg HB; have NB305_307 := b4_ hg BK305; have NB307_305 := b5_ hg BK305; have NB306_307 := b4_ hg BK306; have NB307_306 := b5_ hg BK306; have n0_ := b3_ BK305 hb; have n1_ := b3_ BK306 hb; have n2_ := Aside0.mk (below_step (y1_ HB.out) hb); have n3_ := Aside0.mk (hbox); clear BK305; clear BK306; clear HB; have BK305 := n0_; have BK306 := n1_; have HB := n2_; have BK307 := n3_; clear n0_ n1_ n2_ n3_; clear hb hbox hg) | ((with_reducible refine gate_dst (N := 6) rfl ?_); (try (refine gate_guard (by rfl) ?_; dsimp only)); refine box_event ?hg (N := 6) ?hd (cs := #[.slice none 0 0, .slice none 0 0, .slice none 0 0]) (t := 27) ?hr ?_; (case hd => rfl); (case hg => rfl); (case hr => first | (go_simp; done) | (go_simp; rfl)); intro gb308 hg w57 hbox hb; have GW308 := b6_ hg HB; have GE308 := b6_ hg HB; have NB305_308 := b4_ hg BK305; have NB308_305 := b5_ hg BK305; have NB306_308 := b4_ hg BK306; have NB308_306 := b5_ hg BK306; have NB307_308 := b4_ hg BK307; have NB308_307 := b5_ hg BK307; have n0_ := b3_ BK305 hb; have n1_ := b3_ BK306 hb; have n2_ := b3_ BK307 hb; have n3_ := Aside0.mk (below_step (y1_ HB.out) hb); have n4_ := Aside0.mk (hbox); clear BK305; clear BK306; clear BK307; clear HB; have BK305 := n0_; have BK306 := n1_; have BK307 := n2_; have HB := n3_; have BK308 := n4_; clear n0_ n1_ n2_ n3_ n4_; clear hb hbox hg; have hnb58 := NB305_306.out; have hnc58 := NB306_305.out; have hnb59 := NB305_307.out; have hnc59 := NB307_305.out; have hnb60 := NB305_308.out; have hnc60 := NB308_305.out; have hcz61_0 : w57.cell? ⟨gb305, 0, none⟩ = some (.slice A0_0 l0_0.length c0_0) := (blk_cell BK305.out 0).trans rfl; have hcz61_1 : w57.cell? ⟨gb305, 1, none⟩ = some (.slice A0_1 l0_1.length c0_1) := (blk_cell BK305.out 1).trans rfl; have hcz61_2 : w57.cell? ⟨gb305, 2, none⟩ = some (.slice A0_2 l0_2.length c0_2) := (blk_cell BK305.out 2).trans rfl; have hfz61_0 := blk_frozen BK305.out 0; have hfz61_1 := blk_frozen BK305.out 1; have hfz61_2 := blk_frozen BK305.out 2))
 go_at_call 42
 go_in
 try go_wp2_with (first | ((with_reducible refine gate_dst (N := 2) rfl ?_); (try (refine gate_guard (by rfl) ?_; dsimp only)); refine box_event ?hg (N := 2) ?hd (cs := #[.slice A0_0 l0_0.length c0_0, .slice A0_1 l0_1.length c0_1, .slice A0_2 l0_2.length c0_2]) (t := 27) ?hr ?_; (case hd => rfl); (case hg => rfl); (case hr => first | (go_simp; done) | (go_simp; rfl)); intro gb309 hg w62 hbox hb; have GW309 := b6_ hg HB; have GE309 := b6_ hg HB; have NB306_309 := b4_ hg BK306; have NB309_306 := b5_ hg BK306; have NB307_309 := b4_ hg BK307; have NB309_307 := b5_ hg BK307; have NB308_309 := b4_ hg BK308; have NB309_308 := b5_ hg BK308; have n0_ := b3_ BK306 hb; have n1_ := b3_ BK307 hb; have n2_ := b3_ BK308 hb; have n3_ := Aside0.mk (below_step (y1_ HB.out) hb); have n4_ := Aside0.mk (hbox); clear BK306; clear BK307; clear BK308; clear HB; have BK306 := n0_; have BK307 := n1_; have BK308 := n2_; have HB := n3_; have BK309 := n4_; clear n0_ n1_ n2_ n3_ n4_; clear hb hbox hg) | ((with_reducible refine gate_dst (N := 4) rfl ?_); (try (refine gate_guard (by rfl) ?_; dsimp only)); refine box_event ?hg (N := 4) ?hd (cs := #[.slice none 0 0, .slice none 0 0, .slice none 0 0]) (t := 27) ?hr ?_; (case hd => rfl); (case hg => rfl); (case hr => first | (go_simp; done) | (go_simp; rfl)); intro gb310 hg w63 hbox hb; have GW310 := b6_ hg HB; have GE310 := b6_ hg HB; have NB306_310 := b4_ hg BK306; have NB310_306 := b5_ hg BK306; have NB307_310 := b4_ hg BK307; have NB310_307 := b5_ hg BK307; have NB308_310 := b4_ hg BK308; have NB310_308 := b5_ hg BK308; have NB309_310 := b4_ hg BK309; have NB310_309 := b5_ hg BK309; have n0_ := b3_ BK306 hb; have n1_ := b3_ BK307 hb; have n2_ := b3_ BK308 hb; have n3_ := b3_ BK309 hb; have n4_ := Aside0.mk (below_step (y1_ HB.out) hb); have n5_ := Aside0.mk (hbox); clear BK306; clear BK307; clear BK308; clear BK309; clear HB; have BK306 := n0_; have BK307 := n1_; have BK308 := n2_; have BK309 := n3_; have HB := n4_; have BK310 := n5_; clear n0_ n1_ n2_ n3_ n4_ n5_; clear hb hbox hg; have hnb64 := NB309_306.out; have hnc64 := NB306_309.out; have hnb65 := NB309_307.out; have hnc65 := NB307_309.out; have hnb66 := NB309_308.out; have hnc66 := NB308_309.out; have hnb67 := NB309_310.out; have hnc67 := NB310_309.out; have hcz68_0 : w63.cell? ⟨gb309, 0, none⟩ = some (.slice A0_0 l0_0.length c0_0) := (blk_cell BK309.out 0).trans rfl; have hcz68_1 : w63.cell? ⟨gb309, 1, none⟩ = some (.slice A0_1 l0_1.length c0_1) := (blk_cell BK309.out 1).trans rfl; have hcz68_2 : w63.cell? ⟨gb309, 2, none⟩ = some (.slice A0_2 l0_2.length c0_2) := (blk_cell BK309.out 2).trans rfl; have hfz68_0 := blk_frozen BK309.out 0; have hfz68_1 := blk_frozen BK309.out 1; have hfz68_2 := blk_frozen BK309.out 2) | ((with_reducible refine gate_callee (f := 19) rfl ?_); refine goesL_ (some 8) rfl rfl Try.func19 s2_ rfl #[.agg #[.slice A0_0 l0_0.length c0_0, .slice A0_1 l0_1.length c0_1, .slice A0_2 l0_2.length c0_2]] rfl s3_ ?_; (with_reducible refine (impl_ValidPresence.calls k _ _ l0_0 _ _ l0_1 _ _ l0_2 true _ ?side1 ?side2 ?side3 ?side4 ?side5 ?side6 A4.out).mono ?_); (case side1 => exact y2_ (Kd.C_below HR0_0.out HB.out)); (case side2 => exact HC0_0.out); (case side3 => exact y2_ (Kd.C_below HR0_1.out HB.out)); (case side4 => exact HC0_1.out); (case side5 => exact y2_ (Kd.C_below HR0_2.out HB.out)); (case side6 => exact HC0_2.out); rintro e w69 ⟨rfl, hb⟩; refine ⟨_, rfl, ?_⟩; have n0_ := b3_ BK306 hb; have n1_ := b3_ BK307 hb; have n2_ := b3_ BK308 hb; have n3_ := b3_ BK309 hb; have n4_ := b3_ BK310 hb; have n5_ := Aside0.mk (below_step (y1_ HB.out) hb); clear BK306; clear BK307; clear BK308; clear BK309; clear BK310; clear HB; have BK306 := n0_; have BK307 := n1_; have BK308 := n2_; have BK309 := n3_; have BK310 := n4_; have HB := n5_; clear n0_ n1_ n2_ n3_ n4_ n5_; (try clear hb); (try clear hb2); (try clear hk); (try clear hi); have hcz70_0 : w69.cell? ⟨gb309, 0, none⟩ = some (.slice A0_0 l0_0.length c0_0) := (blk_cell BK309.out 0).trans rfl; have hcz70_1 : w69.cell? ⟨gb309, 1, none⟩ = some (.slice A0_1 l0_1.length c0_1) := (blk_cell BK309.out 1).trans rfl; have hcz70_2 : w69.cell? ⟨gb309, 2, none⟩ = some (.slice A0_2 l0_2.length c0_2) := (blk_cell BK309.out 2).trans rfl; have hfz70_0 := blk_frozen BK309.out 0; have hfz70_1 := blk_frozen BK309.out 1; have hfz70_2 := blk_frozen BK309.out 2) | ((with_reducible refine gate_callee (f := 90) rfl ?_); refine goesL_ (some 12) rfl rfl Try.func90 s2_ rfl #[.agg #[.slice A0_0 l0_0.length c0_0, .slice A0_1 l0_1.length c0_1, .slice A0_2 l0_2.length c0_2]] rfl s3_ ?_; (with_reducible refine (impl_clonePresence.calls _ _ l0_0 _ _ l0_1 _ _ l0_2 t312 t315 t318 _ ?side1 ?side2 ?side3 ?side4 ?side5 ?side6 A6.out).mono ?_); (case side1 => exact y2_ (Kd.C_below HR0_0.out HB.out)); (case side2 => exact HC0_0.out); (case side3 => exact y2_ (Kd.C_below HR0_1.out HB.out)); (case side4 => exact HC0_1.out); (case side5 => exact y2_ (Kd.C_below HR0_2.out HB.out)); (case side6 => exact HC0_2.out); rintro e w71 ⟨v313, v316, v319, rfl, ho0, ho1, ho2, hb⟩; refine ⟨_, rfl, ?_⟩; have n0_ := Aside0.mk (Kd.R_lower ho0 (below_size (y1_ HB.out))); have n1_ := Aside0.mk (Kd.R_lower ho1 (below_size (y1_ HB.out))); have n2_ := Aside0.mk (Kd.R_lower ho2 (below_size (y1_ HB.out))); have n3_ := b3_ BK306 hb; have n4_ := b3_ BK307 hb; have n5_ := b3_ BK308 hb; have n6_ := b3_ BK310 hb; have n7_ := Aside0.mk (below_step (y1_ HB.out) hb); clear BK306; clear BK307; clear BK308; clear BK310; clear HB; have HO314 := n0_; have HO317 := n1_; have HO320 := n2_; have BK306 := n3_; have BK307 := n4_; have BK308 := n5_; have BK310 := n6_; have HB := n7_; clear n0_ n1_ n2_ n3_ n4_ n5_ n6_ n7_; (try clear hb); (try clear hb2); (try clear hk); (try clear hi); (try clear ho0); (try clear ho1); (try clear ho2)) | ((with_reducible refine gate_dst (N := 6) rfl ?_); (try (refine gate_guard (by rfl) ?_; dsimp only)); refine box_event ?hg (N := 6) ?hd (cs := #[.slice none 0 0, .slice none 0 0, .slice none 0 0]) (t := 27) ?hr ?_; (case hd => rfl); (case hg => rfl); (case hr => first | (go_simp; done) | (go_simp; rfl)); intro gb321 hg w72 hbox hb; have GW321 := b6_ hg HB; have GE321 := b6_ hg HB; have NB306_321 := b4_ hg BK306; have NB321_306 := b5_ hg BK306; have NB307_321 := b4_ hg BK307; have NB321_307 := b5_ hg BK307; have NB308_321 := b4_ hg BK308; have NB321_308 := b5_ hg BK308; have NB310_321 := b4_ hg BK310; have NB321_310 := b5_ hg BK310; have n0_ := r1_ HO314 hb; have n1_ := r1_ HO317 hb; have n2_ := r1_ HO320 hb; have n3_ := b3_ BK306 hb; have n4_ := b3_ BK307 hb; have n5_ := b3_ BK308 hb; have n6_ := b3_ BK310 hb; have n7_ := Aside0.mk (below_step (y1_ HB.out) hb); have n8_ := Aside0.mk (hbox); clear HO314; clear HO317; clear HO320; clear BK306; clear BK307; clear BK308; clear BK310; clear HB; have HO314 := n0_; have HO317 := n1_; have HO320 := n2_; have BK306 := n3_; have BK307 := n4_; have BK308 := n5_; have BK310 := n6_; have HB := n7_; have BK321 := n8_; clear n0_ n1_ n2_ n3_ n4_ n5_ n6_ n7_ n8_; clear hb hbox hg; obtain ⟨Ao73, co73, eo73⟩ := Kd.R_slice HO314.out; subst eo73; have hnb74 := NB321_306.out; have hnc74 := NB306_321.out; have hnb75 := NB321_307.out; have hnc75 := NB307_321.out; have hnb76 := NB321_308.out; have hnc76 := NB308_321.out; have hnb77 := NB321_310.out; have hnc77 := NB310_321.out; have hcz78_0 : w72.cell? ⟨gb321, 0, none⟩ = some (.slice none 0 0) := (blk_cell BK321.out 0).trans rfl; have hcz78_1 : w72.cell? ⟨gb321, 1, none⟩ = some (.slice none 0 0) := (blk_cell BK321.out 1).trans rfl; have hcz78_2 : w72.cell? ⟨gb321, 2, none⟩ = some (.slice none 0 0) := (blk_cell BK321.out 2).trans rfl; have hfz78_0 := blk_frozen BK321.out 0; have hfz78_1 := blk_frozen BK321.out 1; have hfz78_2 := blk_frozen BK321.out 2; obtain ⟨Ao79, co79, eo79⟩ := Kd.R_slice HO317.out; subst eo79; obtain ⟨Ao80, co80, eo80⟩ := Kd.R_slice HO320.out; subst eo80))
 go_at_call 77
 go_in
 try go_wp2_with (fail)
 have n0_ : Aside0 (Kd.R k63 63 (((w72.setCell ⟨gb321, 0, none⟩ (.slice Ao73 t312.length co73)).setCell ⟨gb321, 1, none⟩ (.slice Ao79 t315.length co79)).setCell ⟨gb321, 2, none⟩ (.slice Ao80 t318.length co80)) w.heap.size (fun k_ => some k_ ≠ (.slice Ao79 t315.length co79 : Value).ownBlock) (.slice Ao73 t312.length co73) t312) := ⟨by (with_reducible repeat (first | apply Kd.R_alloc | apply Kd.R_drewN | apply Kd.R_drew)); exact Kd.R_mono (Kd.R_far3 (g := gb321) (Kd.R_types HO314.out BK321.out (by decide)) (fun _ hk => hk.2)) (fun _ hk => hk.1)⟩
 have n1_ : Aside0 (Kd.R k63 63 (((w72.setCell ⟨gb321, 0, none⟩ (.slice Ao73 t312.length co73)).setCell ⟨gb321, 1, none⟩ (.slice Ao79 t315.length co79)).setCell ⟨gb321, 2, none⟩ (.slice Ao80 t318.length co80)) w.heap.size (fun k_ => some k_ ≠ (.slice Ao73 t312.length co73 : Value).ownBlock) (.slice Ao79 t315.length co79) t315) := ⟨by (with_reducible repeat (first | apply Kd.R_alloc | apply Kd.R_drewN | apply Kd.R_drew)); exact Kd.R_mono (Kd.R_far3 (g := gb321) (Kd.R_types HO317.out BK321.out (by decide)) (fun _ hk => hk.2)) (fun _ hk => hk.1)⟩
 have n2_ : Aside0 (Kd.R k73 73 (((w72.setCell ⟨gb321, 0, none⟩ (.slice Ao73 t312.length co73)).setCell ⟨gb321, 1, none⟩ (.slice Ao79 t315.length co79)).setCell ⟨gb321, 2, none⟩ (.slice Ao80 t318.length co80)) w.heap.size (fun _ => True) (.slice Ao80 t318.length co80) t318) := ⟨by (with_reducible repeat (first | apply Kd.R_alloc | apply Kd.R_drewN | apply Kd.R_drew)); exact Kd.R_mono (Kd.R_far3 (g := gb321) (Kd.R_types HO320.out BK321.out (by decide)) (fun _ hk => hk.2)) (fun _ hk => trivial)⟩
 have n3_ : Aside0 ((((w72.setCell ⟨gb321, 0, none⟩ (.slice Ao73 t312.length co73)).setCell ⟨gb321, 1, none⟩ (.slice Ao79 t315.length co79)).setCell ⟨gb321, 2, none⟩ (.slice Ao80 t318.length co80)).heap[gb306]? = some (.cells #[.int .i64 a1] 2 (0, 0))) := ⟨by (with_reducible repeat (first | refine blk_drewN ?_ _ | refine blk_drew ?_ | refine blk_alloc ?_ _)); refine blk_far3 ?_ NB306_321.out; (with_reducible repeat (first | refine blk_drewN ?_ _ | refine blk_drew ?_ | refine blk_alloc ?_ _)); exact BK306.out⟩
 have n4_ : Aside0 ((((w72.setCell ⟨gb321, 0, none⟩ (.slice Ao73 t312.length co73)).setCell ⟨gb321, 1, none⟩ (.slice Ao79 t315.length co79)).setCell ⟨gb321, 2, none⟩ (.slice Ao80 t318.length co80)).heap[gb307]? = some (.cells #[.int .i64 a2] 2 (0, 0))) := ⟨by (with_reducible repeat (first | refine blk_drewN ?_ _ | refine blk_drew ?_ | refine blk_alloc ?_ _)); refine blk_far3 ?_ NB307_321.out; (with_reducible repeat (first | refine blk_drewN ?_ _ | refine blk_drew ?_ | refine blk_alloc ?_ _)); exact BK307.out⟩
 have n5_ : Aside0 ((((w72.setCell ⟨gb321, 0, none⟩ (.slice Ao73 t312.length co73)).setCell ⟨gb321, 1, none⟩ (.slice Ao79 t315.length co79)).setCell ⟨gb321, 2, none⟩ (.slice Ao80 t318.length co80)).heap[gb308]? = some (.cells #[.slice none 0 0, .slice none 0 0, .slice none 0 0] 27 (0, 0))) := ⟨by (with_reducible repeat (first | refine blk_drewN ?_ _ | refine blk_drew ?_ | refine blk_alloc ?_ _)); refine blk_far3 ?_ NB308_321.out; (with_reducible repeat (first | refine blk_drewN ?_ _ | refine blk_drew ?_ | refine blk_alloc ?_ _)); exact BK308.out⟩
 have n6_ : Aside0 ((((w72.setCell ⟨gb321, 0, none⟩ (.slice Ao73 t312.length co73)).setCell ⟨gb321, 1, none⟩ (.slice Ao79 t315.length co79)).setCell ⟨gb321, 2, none⟩ (.slice Ao80 t318.length co80)).heap[gb310]? = some (.cells #[.slice none 0 0, .slice none 0 0, .slice none 0 0] 27 (0, 0))) := ⟨by (with_reducible repeat (first | refine blk_drewN ?_ _ | refine blk_drew ?_ | refine blk_alloc ?_ _)); refine blk_far3 ?_ NB310_321.out; (with_reducible repeat (first | refine blk_drewN ?_ _ | refine blk_drew ?_ | refine blk_alloc ?_ _)); exact BK310.out⟩
 have n7_ : Aside0 ((((w72.setCell ⟨gb321, 0, none⟩ (.slice Ao73 t312.length co73)).setCell ⟨gb321, 1, none⟩ (.slice Ao79 t315.length co79)).setCell ⟨gb321, 2, none⟩ (.slice Ao80 t318.length co80)).heap[gb321]? = some (.cells #[.slice Ao73 t312.length co73, .slice Ao79 t315.length co79, .slice Ao80 t318.length co80] 27 (0, 0))) := ⟨by (with_reducible repeat (first | refine blk_drewN ?_ _ | refine blk_drew ?_ | refine blk_alloc ?_ _)); refine blk_put3 (cs := #[.slice none 0 0, .slice none 0 0, .slice none 0 0]) ?_ rfl; (with_reducible repeat (first | refine blk_drewN ?_ _ | refine blk_drew ?_ | refine blk_alloc ?_ _)); exact BK321.out⟩
 have n8_ : Aside0 (Below w.heap.size w (((w72.setCell ⟨gb321, 0, none⟩ (.slice Ao73 t312.length co73)).setCell ⟨gb321, 1, none⟩ (.slice Ao79 t315.length co79)).setCell ⟨gb321, 2, none⟩ (.slice Ao80 t318.length co80))) := ⟨by repeat (first | (with_reducible first | exact HB.out | apply below_alloc | apply pw_below_drewN | apply below_drew1 | refine below_set ?_ GE321.out) | exact HB.out)⟩
 (try clear HO314)
 (try clear HO317)
 (try clear HO320)
 (try clear BK306)
 (try clear BK307)
 (try clear BK308)
 (try clear BK310)
 (try clear BK321)
 (try clear HB)
 generalize (((w72.setCell ⟨gb321, 0, none⟩ (.slice Ao73 t312.length co73)).setCell ⟨gb321, 1, none⟩ (.slice Ao79 t315.length co79)).setCell ⟨gb321, 2, none⟩ (.slice Ao80 t318.length co80)) = w81 at n0_ n1_ n2_ n3_ n4_ n5_ n6_ n7_ n8_ ⊢
 have HO314 := n0_
 have HO317 := n1_
 have HO320 := n2_
 have BK306 := n3_
 have BK307 := n4_
 have BK308 := n5_
 have BK310 := n6_
 have BK321 := n7_
 have HB := n8_
 clear n0_ n1_ n2_ n3_ n4_ n5_ n6_ n7_ n8_
 have n0_ := Aside0.mk (Kd.R_drew HO314.out)
 have n1_ := Aside0.mk (Kd.R_drew HO317.out)
 have n2_ := Aside0.mk (Kd.R_drew HO320.out)
 have n3_ := Aside0.mk (blk_drew BK306.out)
 have n4_ := Aside0.mk (blk_drew BK307.out)
 have n5_ := Aside0.mk (blk_drew BK308.out)
 have n6_ := Aside0.mk (blk_drew BK310.out)
 have n7_ := Aside0.mk (blk_drew BK321.out)
 have n8_ := Aside0.mk (below_drew1 HB.out)
 clear HO314
 clear HO317
 clear HO320
 clear BK306
 clear BK307
 clear BK308
 clear BK310
 clear BK321
 clear HB
 have HO314 := n0_
 have HO317 := n1_
 have HO320 := n2_
 have BK306 := n3_
 have BK307 := n4_
 have BK308 := n5_
 have BK310 := n6_
 have BK321 := n7_
 have HB := n8_
 clear n0_ n1_ n2_ n3_ n4_ n5_ n6_ n7_ n8_
 refine start_ (n := 12) (S := fun w' => w'.cell? ⟨gb321, 0, none⟩ = some (.slice Ao73 t312.length co73) ∧ w'.cell? ⟨gb321, 1, none⟩ = some (.slice Ao79 t315.length co79) ∧ w'.cell? ⟨gb321, 2, none⟩ = some (.slice Ao80 t318.length co80) ∧ w'.cell? ⟨gb306, 0, none⟩ = some (.int .i64 a1) ∧ w'.cell? ⟨gb307, 0, none⟩ = some (.int .i64 a2)) (ds := [11]) m0_ s2_ rfl rfl ⟨(blk_cell BK321.out 0).trans rfl, (blk_cell BK321.out 1).trans rfl, (blk_cell BK321.out 2).trans rfl, (blk_cell BK306.out 0).trans rfl, (blk_cell BK307.out 0).trans rfl⟩ (fun hHeld => ?_)
 generalize w81.drew = w82 at HO314 HO317 HO320 BK306 BK307 BK308 BK310 BK321 HB hHeld ⊢
 refine pure_ (i := 0) (N := some 5) (v := ?_) (a' := ?_) m1_ rfl rfl s2_ (fun _ _ _ h => h) (Or.inl ⟨by rfl, ?_⟩) ?_ ?_
 rotate_left
 {
 intro w'
 go_simp
 with_reducible rfl}
 rotate_left
 · exact p1_
 refine pure_ (i := 1) (N := some 6) (v := ?_) (a' := ?_) m2_ rfl rfl s2_ (fun _ _ _ h => h) (Or.inl ⟨by rfl, ?_⟩) ?_ ?_
 rotate_left
 {
 intro w'
 go_simp
 with_reducible rfl}
 rotate_left
 · exact p1_
 refine pure_ (i := 2) (N := some 7) (v := ?_) (a' := ?_) m3_ rfl rfl s2_ (fun _ _ _ h => h) (Or.inl ⟨by rfl, ?_⟩) ?_ ?_
 rotate_left
 {
 intro w'
 go_simp
 with_reducible rfl}
 rotate_left
 · exact p1_
 refine pure_ (i := 3) (N := some 8) (v := ?_) (a' := ?_) m4_ rfl rfl s2_ (fun _ _ _ h => h) (Or.inl ⟨by rfl, ?_⟩) ?_ ?_
 rotate_left
 {
 intro w'
 go_simp
 with_reducible rfl}
 rotate_left
 · exact p1_
 refine take_ (i := 4) (N := some 9) (v := ?_) (a' := ?_) m5_ rfl rfl s2_ (fun _ _ _ h => h) (Or.inl ⟨by rfl, ?_⟩) hHeld ?_ ?_
 rotate_left
 {
 rintro w' ⟨s0, s1, s2, s3, s4⟩
 go_simp
 with_reducible rfl}
 rotate_left
 · exact p1_
 refine take_ (i := 5) (N := some 10) (v := ?_) (a' := ?_) m6_ rfl rfl s2_ (fun _ _ _ h => h) (Or.inl ⟨by rfl, ?_⟩) hHeld ?_ ?_
 rotate_left
 {
 rintro w' ⟨s0, s1, s2, s3, s4⟩
 go_simp
 with_reducible rfl}
 rotate_left
 · exact p1_
 refine take_ (i := 6) (N := some 11) (v := ?_) (a' := ?_) m7_ rfl rfl s2_ (fun _ _ _ h => h) (Or.inl ⟨by rfl, ?_⟩) hHeld ?_ ?_
 rotate_left
 {
 rintro w' ⟨s0, s1, s2, s3, s4⟩
 go_simp
 with_reducible rfl}
 rotate_left
 · exact p1_
 refine pure_ (i := 7) (N := some 12) (v := ?_) (a' := ?_) m8_ rfl rfl s2_ (fun _ _ _ h => h) (Or.inl ⟨by rfl, ?_⟩) ?_ ?_
 rotate_left
 {
 intro w'
 go_simp
 with_reducible rfl}
 rotate_left
 · exact p1_
 refine one_ (i := 8) (N := some 13) m9_ rfl rfl s2_ (by decide) (fun K hK => ?_)
 refine goes_ Try.func78 s2_ rfl #[.slice Ao80 t318.length co80, .agg #[.int .i64 a1, .int .i64 a2]] (by rfl) rfl rfl s3_ ?_
 with_reducible refine (impl_marked_n78.calls k (fun k_ => some k_ = (.slice Ao80 t318.length co80 : Value).ownBlock) (.slice Ao80 t318.length co80) t318 a1 a2 t322 w _ ?side1 ?side2 A7.out).mono ?_
 (case side1 => repeat (first | (with_reducible first | exact HB.out | apply below_alloc | apply pw_below_drewN | apply below_drew1) | exact HB.out))
 (case side2 => exact Kd.R_tight rfl HO320.out)
 rintro e w83 ⟨v323, rfl, ho0, hb, hkp⟩
 refine ⟨_, rfl, ?_⟩
 have n0_ := Aside0.mk (blk_kept (b1_ BK306.out) hkp (fun hs_ => (fun e_ => (Kd.R_ne HO320.out BK306.out (by decide)) e_) hs_))
 have n1_ := Aside0.mk (blk_kept (b1_ BK307.out) hkp (fun hs_ => (fun e_ => (Kd.R_ne HO320.out BK307.out (by decide)) e_) hs_))
 have n2_ := Aside0.mk (blk_kept (b1_ BK308.out) hkp (fun hs_ => (fun e_ => (Kd.R_ne HO320.out BK308.out (by decide)) e_) hs_))
 have n3_ := Aside0.mk (blk_kept (b1_ BK310.out) hkp (fun hs_ => (fun e_ => (Kd.R_ne HO320.out BK310.out (by decide)) e_) hs_))
 have n4_ := Aside0.mk (Kd.R_mono (ok' := fun k_ => some k_ ≠ (.slice Ao79 t315.length co79 : Value).ownBlock) (Kd.R_keptB ((Kd.R_apart' HO314.out (Kd.R_typed HO320.out) (by decide))) hkp (fun k_ hk_ hs_ => (hk_.2) hs_)) (fun k_ hk_ => hk_.1.1))
 have n5_ := Aside0.mk (Kd.R_mono (ok' := fun k_ => some k_ ≠ (.slice Ao73 t312.length co73 : Value).ownBlock) (Kd.R_keptB ((Kd.R_apart' HO317.out (Kd.R_typed HO320.out) (by decide))) hkp (fun k_ hk_ hs_ => (hk_.2) hs_)) (fun k_ hk_ => hk_.1.1))
 have n6_ := Aside0.mk (blk_kept (b1_ BK321.out) hkp (fun hs_ => (fun e_ => (Kd.R_ne HO320.out BK321.out (by decide)) e_) hs_))
 have n7_ := Aside0.mk (Kd.R_mono (ok' := fun k_ => True) ho0 (fun k_ hk_ => trivial))
 have n8_ := Aside0.mk (hb)
 clear BK306
 clear BK307
 clear BK308
 clear BK310
 clear HO314
 clear HO317
 clear BK321
 clear HB
 clear HO320
 have BK306 := n0_
 have BK307 := n1_
 have BK308 := n2_
 have BK310 := n3_
 have HO314 := n4_
 have HO317 := n5_
 have BK321 := n6_
 have HO324 := n7_
 have HB := n8_
 clear n0_ n1_ n2_ n3_ n4_ n5_ n6_ n7_ n8_
 (try clear hb)
 (try clear hkp)
 (try clear ho0)
 obtain ⟨Ao84, co84, eo84⟩ := Kd.R_slice HO324.out
 (first | subst eo84 | (injection eo84 with f1_ f2_ f3_; have f4_ := f1_.symm; have f5_ := f3_.symm; clear f1_ f2_ f3_; subst f4_; subst f5_))
 refine hK.out _ _ ⟨(blk_cell BK321.out 0).trans rfl, (blk_cell BK321.out 1).trans rfl, (blk_cell BK321.out 2).trans rfl, (blk_cell BK306.out 0).trans rfl, (blk_cell BK307.out 0).trans rfl⟩ (fun hHeld => ?_)
 clear hK K
 refine norm_ (a' := ?_) ?_ ?_
 rotate_left
 {
 show Act.put _ (some 13) _ = _
 simp only [Act.put, List.setIfInBounds_toArray, List.set_cons_zero, List.set_cons_succ, i64_w, i32_w]
 rfl}
 refine pure_ (i := 9) (N := some 14) (v := ?_) (a' := ?_) m10_ rfl rfl s2_ (fun _ _ _ h => h) (Or.inl ⟨by rfl, ?_⟩) ?_ ?_
 rotate_left
 {
 intro w'
 go_simp
 with_reducible rfl}
 rotate_left
 · exact p1_
 refine pure_ (i := 10) (N := some 15) (v := ?_) (a' := ?_) m11_ rfl rfl s2_ (fun _ _ _ h => h) (Or.inl ⟨by rfl, ?_⟩) ?_ ?_
 rotate_left
 {
 intro w'
 go_simp
 with_reducible rfl}
 rotate_left
 · exact p1_
 refine last_ (i := 11) (N := none) m12_ rfl rfl s2_ (by decide) (fun K hK => ?_)
 have hs85 : w83.cell? ⟨gb321, 2, none⟩ = some (.slice Ao80 t318.length co80) := (blk_cell BK321.out 2).trans rfl
 have hfs85 := blk_frozen BK321.out 2
 have hns85_0 := NB306_321.out
 have hns85_1 := NB307_321.out
 have hns85_2 := NB308_321.out
 have hns85_3 := NB310_321.out
 have hms85_0 := NB321_306.out
 have hms85_1 := NB321_307.out
 have hms85_2 := NB321_308.out
 have hms85_3 := NB321_310.out
 refine skip_ (w1 := ?_) (by rfl) rfl ?_ ?_
 rotate_left
 {
 go_simp
 rfl}
 refine hK.out _ _ ?_
 clear hK K
 refine done_ s2_ ?_
 have hnb86 := NB307_306.out
 have hnc86 := NB306_307.out
 have hnb87 := NB307_308.out
 have hnc87 := NB308_307.out
 have hnb88 := NB307_310.out
 have hnc88 := NB310_307.out
 have hcz89_0 : w83.cell? ⟨gb307, 0, none⟩ = some (.int .i64 a2) := (blk_cell BK307.out 0).trans rfl
 have hfz89_0 := blk_frozen BK307.out 0
 try go_wp2_with (first | ((with_reducible refine gate_callee (f := 46) rfl ?_); refine goesL_ (some 17) rfl rfl Try.func46 s2_ rfl #[.int .i64 a2, .int .i64 0, .int .i64 1000000000] rfl s3_ ?_; (with_reducible refine (impl_in.calls a2 0 1000000000 true _ A8.out).mono ?_); rintro e w' ⟨rfl, ⟨nd, rfl⟩⟩; refine ⟨_, rfl, ?_⟩; have hcz90_0 : w83.cell? ⟨gb321, 0, none⟩ = some (.slice Ao73 t312.length co73) := (blk_cell BK321.out 0).trans rfl; have hcz90_1 : w83.cell? ⟨gb321, 1, none⟩ = some (.slice Ao79 t315.length co79) := (blk_cell BK321.out 1).trans rfl; have hcz90_2 : w83.cell? ⟨gb321, 2, none⟩ = some (.slice Ao80 t318.length co80) := (blk_cell BK321.out 2).trans rfl; have hfz90_0 := blk_frozen BK321.out 0; have hfz90_1 := blk_frozen BK321.out 1; have hfz90_2 := blk_frozen BK321.out 2) | (go_at_call 19; (with_reducible refine (impl_ValidPresence.calls k _ _ t312 _ _ t315 _ _ t322 false _ ?side1 ?side2 ?side3 ?side4 ?side5 ?side6 A10.out).mono ?_); (case side1 => refine (Kd.R_reads' (e := 63) (base := w.heap.size) (ok := fun k_ => some k_ ≠ (.slice Ao79 t315.length co79 : Value).ownBlock) (n := t312.length) (c := co73) ?_).2.2; exact (by (with_reducible repeat (first | apply Kd.R_alloc | apply Kd.R_drewN | apply Kd.R_drew)); exact (Kd.R_mono (Kd.R_far (p := ⟨gb321, 2, none⟩) (Kd.R_types HO314.out BK321.out (by decide)) (fun _ hk => hk.2) (.slice Ao84 t322.length co84)) (fun _ h_ => h_.1)))); (case side2 => exact (Kd.R_reads' HO314.out).2.1); (case side3 => refine (Kd.R_reads' (e := 63) (base := w.heap.size) (ok := fun k_ => some k_ ≠ (.slice Ao73 t312.length co73 : Value).ownBlock) (n := t315.length) (c := co79) ?_).2.2; exact (by (with_reducible repeat (first | apply Kd.R_alloc | apply Kd.R_drewN | apply Kd.R_drew)); exact (Kd.R_mono (Kd.R_far (p := ⟨gb321, 2, none⟩) (Kd.R_types HO317.out BK321.out (by decide)) (fun _ hk => hk.2) (.slice Ao84 t322.length co84)) (fun _ h_ => h_.1)))); (case side4 => exact (Kd.R_reads' HO317.out).2.1); (case side5 => refine (Kd.R_reads' (e := 73) (base := w.heap.size) (ok := fun k_ => True) (n := t322.length) (c := co84) ?_).2.2; exact (by (with_reducible repeat (first | apply Kd.R_alloc | apply Kd.R_drewN | apply Kd.R_drew)); exact (Kd.R_mono (Kd.R_far (p := ⟨gb321, 2, none⟩) (Kd.R_types HO324.out BK321.out (by decide)) (fun _ hk => hk.2) (.slice Ao84 t322.length co84)) (fun _ h_ => h_.1)))); (case side6 => exact (Kd.R_reads' HO324.out).2.1); rintro e w91 ⟨rfl, hb⟩; have n0_ := Aside0.mk (Kd.R_below (by (with_reducible repeat (first | apply Kd.R_alloc | apply Kd.R_drewN | apply Kd.R_drew)); exact (Kd.R_mono (Kd.R_far (p := ⟨gb321, 2, none⟩) (Kd.R_types HO314.out BK321.out (by decide)) (fun _ hk => hk.2) (.slice Ao84 t322.length co84)) (fun _ h_ => h_.1))) hb); have n1_ := Aside0.mk (Kd.R_below (by (with_reducible repeat (first | apply Kd.R_alloc | apply Kd.R_drewN | apply Kd.R_drew)); exact (Kd.R_mono (Kd.R_far (p := ⟨gb321, 2, none⟩) (Kd.R_types HO317.out BK321.out (by decide)) (fun _ hk => hk.2) (.slice Ao84 t322.length co84)) (fun _ h_ => h_.1))) hb); have n2_ := Aside0.mk (Kd.R_below (by (with_reducible repeat (first | apply Kd.R_alloc | apply Kd.R_drewN | apply Kd.R_drew)); exact (Kd.R_mono (Kd.R_far (p := ⟨gb321, 2, none⟩) (Kd.R_types HO324.out BK321.out (by decide)) (fun _ hk => hk.2) (.slice Ao84 t322.length co84)) (fun _ h_ => h_.1))) hb); have n3_ := Aside0.mk (blk_below (g := gb306) (o := .cells #[.int .i64 a1] 2 (0, 0)) (by (with_reducible repeat (first | refine blk_drewN ?_ _ | refine blk_drew ?_ | refine blk_alloc ?_ _)); refine blk_far ?_ NB306_321.out _; (with_reducible repeat (first | refine blk_drewN ?_ _ | refine blk_drew ?_ | refine blk_alloc ?_ _)); exact BK306.out) hb); have n4_ := Aside0.mk (blk_below (g := gb307) (o := .cells #[.int .i64 a2] 2 (0, 0)) (by (with_reducible repeat (first | refine blk_drewN ?_ _ | refine blk_drew ?_ | refine blk_alloc ?_ _)); refine blk_far ?_ NB307_321.out _; (with_reducible repeat (first | refine blk_drewN ?_ _ | refine blk_drew ?_ | refine blk_alloc ?_ _)); exact BK307.out) hb); have n5_ := Aside0.mk (blk_below (g := gb308) (o := .cells #[.slice none 0 0, .slice none 0 0, .slice none 0 0] 27 (0, 0)) (by (with_reducible repeat (first | refine blk_drewN ?_ _ | refine blk_drew ?_ | refine blk_alloc ?_ _)); refine blk_far ?_ NB308_321.out _; (with_reducible repeat (first | refine blk_drewN ?_ _ | refine blk_drew ?_ | refine blk_alloc ?_ _)); exact BK308.out) hb); have n6_ := Aside0.mk (blk_below (g := gb310) (o := .cells #[.slice none 0 0, .slice none 0 0, .slice none 0 0] 27 (0, 0)) (by (with_reducible repeat (first | refine blk_drewN ?_ _ | refine blk_drew ?_ | refine blk_alloc ?_ _)); refine blk_far ?_ NB310_321.out _; (with_reducible repeat (first | refine blk_drewN ?_ _ | refine blk_drew ?_ | refine blk_alloc ?_ _)); exact BK310.out) hb); have n7_ := Aside0.mk (blk_below (g := gb321) (o := .cells #[.slice Ao73 t312.length co73, .slice Ao79 t315.length co79, .slice Ao84 t322.length co84] 27 (0, 0)) (by (with_reducible repeat (first | refine blk_drewN ?_ _ | refine blk_drew ?_ | refine blk_alloc ?_ _)); refine blk_put (cs := #[.slice Ao73 t312.length co73, .slice Ao79 t315.length co79, .slice Ao80 t318.length co80]) ?_ 2 _ rfl; (with_reducible repeat (first | refine blk_drewN ?_ _ | refine blk_drew ?_ | refine blk_alloc ?_ _)); exact BK321.out) hb); have n8_ := Aside0.mk (below_step (by repeat (first | (with_reducible first | exact HB.out | apply below_alloc | apply pw_below_drewN | apply below_drew1 | refine below_set ?_ GE321.out) | exact HB.out)) hb); clear HO314; clear HO317; clear HO324; clear BK306; clear BK307; clear BK308; clear BK310; clear BK321; clear HB; have HO314 := n0_; have HO317 := n1_; have HO324 := n2_; have BK306 := n3_; have BK307 := n4_; have BK308 := n5_; have BK310 := n6_; have BK321 := n7_; have HB := n8_; clear n0_ n1_ n2_ n3_ n4_ n5_ n6_ n7_ n8_; (try clear hb); (try clear hb2); (try clear hk); (try clear hi); have hnb92 := NB310_308.out; have hnc92 := NB308_310.out; have hcz93_0 : w91.cell? ⟨gb310, 0, none⟩ = some (.slice none 0 0) := (blk_cell BK310.out 0).trans rfl; have hcz93_1 : w91.cell? ⟨gb310, 1, none⟩ = some (.slice none 0 0) := (blk_cell BK310.out 1).trans rfl; have hcz93_2 : w91.cell? ⟨gb310, 2, none⟩ = some (.slice none 0 0) := (blk_cell BK310.out 2).trans rfl; have hfz93_0 := blk_frozen BK310.out 0; have hfz93_1 := blk_frozen BK310.out 1; have hfz93_2 := blk_frozen BK310.out 2))
 (try simp only [Exit.inBlock, Exit.then])
 refine bodyPost_ret (results_ct rfl _ _ gb310 27 #[.slice none 0 0, .slice none 0 0, .slice none 0 0] (0, 0) _ rfl (by (with_reducible repeat (first | refine blk_drewN ?_ _ | refine blk_drew ?_ | refine blk_alloc ?_ _)); refine blk_put3 (cs := #[.slice none 0 0, .slice none 0 0, .slice none 0 0]) ?_ rfl; (with_reducible repeat (first | refine blk_drewN ?_ _ | refine blk_drew ?_ | refine blk_alloc ?_ _)); exact BK310.out) Try.underlying27 rfl s2_) rfl ?_
 (try simp only [])
 have hcz94_0 : w91.cell? ⟨gb308, 0, none⟩ = some (.slice none 0 0) := (blk_cell BK308.out 0).trans rfl
 have hcz94_1 : w91.cell? ⟨gb308, 1, none⟩ = some (.slice none 0 0) := (blk_cell BK308.out 1).trans rfl
 have hcz94_2 : w91.cell? ⟨gb308, 2, none⟩ = some (.slice none 0 0) := (blk_cell BK308.out 2).trans rfl
 have hfz94_0 := blk_frozen BK308.out 0
 have hfz94_1 := blk_frozen BK308.out 1
 have hfz94_2 := blk_frozen BK308.out 2
 try go_wp2_with (fail)
 refine bodyPost_ret (results_ct rfl _ _ gb308 27 #[.slice none 0 0, .slice none 0 0, .slice none 0 0] (0, 0) _ rfl (by (with_reducible repeat (first | refine blk_drewN ?_ _ | refine blk_drew ?_ | refine blk_alloc ?_ _)); refine blk_put3 (cs := #[.slice none 0 0, .slice none 0 0, .slice none 0 0]) ?_ rfl; (with_reducible repeat (first | refine blk_drewN ?_ _ | refine blk_drew ?_ | refine blk_alloc ?_ _)); refine blk_far3 ?_ NB308_310.out; (with_reducible repeat (first | refine blk_drewN ?_ _ | refine blk_drew ?_ | refine blk_alloc ?_ _)); exact BK308.out) Try.underlying27 rfl s2_) rfl ?_
 exact ⟨_, _, _, by first | rfl | (simp [errW_none, errW_some] <;> rfl) | (simp [*, errW_none, errW_some] <;> rfl), by first | exact Kd.R_nil _ _ _ _ _ | exact Kd.N_nil _ _ _ _ _ | exact Kd.V_nil _ _ _ _ _ | exact Kd.Q_nil _ _ _ _ _ | exact Kd.S_nil _ _ _ _ _, by first | exact Kd.R_nil _ _ _ _ _ | exact Kd.N_nil _ _ _ _ _ | exact Kd.V_nil _ _ _ _ _ | exact Kd.Q_nil _ _ _ _ _ | exact Kd.S_nil _ _ _ _ _, by first | exact Kd.R_nil _ _ _ _ _ | exact Kd.N_nil _ _ _ _ _ | exact Kd.V_nil _ _ _ _ _ | exact Kd.Q_nil _ _ _ _ _ | exact Kd.S_nil _ _ _ _ _, by repeat (first | (with_reducible first | exact HB.out | apply below_alloc | apply pw_below_drewN | apply below_drew1 | refine below_set ?_ GE308.out | refine below_set ?_ GE310.out) | exact HB.out)⟩}}
 {
 replace c9 := Bool.eq_false_iff.mpr c9
 subst c9
 have H1 : (some (([] : List (S63)), ([] : List (S63)), ([] : List (S73)), false)) = some (r1, r2, r3, r4) := by rw [if_neg (show ¬ (false = true) by decide)] at H; exact H
 clear H
 have H := H1
 clear H1
 simp only [Option.some.injEq, Prod.mk.injEq] at H
 obtain ⟨rfl, rfl, rfl, rfl⟩ := H
 go_enter Try.func34, Try.ntmps34
 try go_wp2_with (first | ((with_reducible refine gate_dst (N := 3) rfl ?_); (try (refine gate_guard (by rfl) ?_; dsimp only)); refine box_event ?hg (N := 3) ?hd (cs := #[.slice A0_0 l0_0.length c0_0, .slice A0_1 l0_1.length c0_1, .slice A0_2 l0_2.length c0_2]) (t := 27) ?hr ?_; (case hd => rfl); (case hg => rfl); (case hr => first | (go_simp; done) | (go_simp; rfl)); intro gb305 hg w95 hbox hb; have GW305 := b6_ hg HB; have GE305 := b6_ hg HB; have n0_ := Aside0.mk (below_step (y1_ HB.out) hb); have n1_ := Aside0.mk (hbox); clear HB; have HB := n0_; have BK305 := n1_; clear n0_ n1_; clear hb hbox hg) | ((with_reducible refine gate_dst (N := 4) rfl ?_); (try (refine gate_guard (by rfl) ?_; dsimp only)); refine box_event ?hg (N := 4) ?hd (cs := #[.int .i64 a1]) (t := 2) ?hr ?_; (case hd => rfl); (case hg => rfl); (case hr => first | (go_simp; done) | (go_simp; rfl)); intro gb306 hg w96 hbox hb; have GW306 := b6_ hg HB; have GE306 := b6_ hg HB; have NB305_306 := b4_ hg BK305; have NB306_305 := b5_ hg BK305; have n0_ := b3_ BK305 hb; have n1_ := Aside0.mk (below_step (y1_ HB.out) hb); have n2_ := Aside0.mk (hbox); clear BK305; clear HB; have BK305 := n0_; have HB := n1_; have BK306 := n2_; clear n0_ n1_ n2_; clear hb hbox hg) | ((with_reducible refine gate_dst (N := 5) rfl ?_); (try (refine gate_guard (by rfl) ?_; dsimp only)); refine box_event ?hg (N := 5) ?hd (cs := #[.int .i64 a2]) (t := 2) ?hr ?_; (case hd => rfl); (case hg => rfl); (case hr => first | (go_simp; done) | (go_simp; rfl)); intro gb307 hg w97 hbox hb; have GW307 := b6_ hg HB; have GE307 := b6_ hg HB; have NB305_307 := b4_ hg BK305; have NB307_305 := b5_ hg BK305; have NB306_307 := b4_ hg BK306; have NB307_306 := b5_ hg BK306; have n0_ := b3_ BK305 hb; have n1_ := b3_ BK306 hb; have n2_ := Aside0.mk (below_step (y1_ HB.out) hb); have n3_ := Aside0.mk (hbox); clear BK305; clear BK306; clear HB; have BK305 := n0_; have BK306 := n1_; have HB := n2_; have BK307 := n3_; clear n0_ n1_ n2_ n3_; clear hb hbox hg) | ((with_reducible refine gate_dst (N := 6) rfl ?_); (try (refine gate_guard (by rfl) ?_; dsimp only)); refine box_event ?hg (N := 6) ?hd (cs := #[.slice none 0 0, .slice none 0 0, .slice none 0 0]) (t := 27) ?hr ?_; (case hd => rfl); (case hg => rfl); (case hr => first | (go_simp; done) | (go_simp; rfl)); intro gb308 hg w98 hbox hb; have GW308 := b6_ hg HB; have GE308 := b6_ hg HB; have NB305_308 := b4_ hg BK305; have NB308_305 := b5_ hg BK305; have NB306_308 := b4_ hg BK306; have NB308_306 := b5_ hg BK306; have NB307_308 := b4_ hg BK307; have NB308_307 := b5_ hg BK307; have n0_ := b3_ BK305 hb; have n1_ := b3_ BK306 hb; have n2_ := b3_ BK307 hb; have n3_ := Aside0.mk (below_step (y1_ HB.out) hb); have n4_ := Aside0.mk (hbox); clear BK305; clear BK306; clear BK307; clear HB; have BK305 := n0_; have BK306 := n1_; have BK307 := n2_; have HB := n3_; have BK308 := n4_; clear n0_ n1_ n2_ n3_ n4_; clear hb hbox hg; have hnb99 := NB305_306.out; have hnc99 := NB306_305.out; have hnb100 := NB305_307.out; have hnc100 := NB307_305.out; have hnb101 := NB305_308.out; have hnc101 := NB308_305.out; have hcz102_0 : w98.cell? ⟨gb305, 0, none⟩ = some (.slice A0_0 l0_0.length c0_0) := (blk_cell BK305.out 0).trans rfl; have hcz102_1 : w98.cell? ⟨gb305, 1, none⟩ = some (.slice A0_1 l0_1.length c0_1) := (blk_cell BK305.out 1).trans rfl; have hcz102_2 : w98.cell? ⟨gb305, 2, none⟩ = some (.slice A0_2 l0_2.length c0_2) := (blk_cell BK305.out 2).trans rfl; have hfz102_0 := blk_frozen BK305.out 0; have hfz102_1 := blk_frozen BK305.out 1; have hfz102_2 := blk_frozen BK305.out 2))
 go_at_call 42
 go_in
 try go_wp2_with (first | ((with_reducible refine gate_dst (N := 2) rfl ?_); (try (refine gate_guard (by rfl) ?_; dsimp only)); refine box_event ?hg (N := 2) ?hd (cs := #[.slice A0_0 l0_0.length c0_0, .slice A0_1 l0_1.length c0_1, .slice A0_2 l0_2.length c0_2]) (t := 27) ?hr ?_; (case hd => rfl); (case hg => rfl); (case hr => first | (go_simp; done) | (go_simp; rfl)); intro gb309 hg w103 hbox hb; have GW309 := b6_ hg HB; have GE309 := b6_ hg HB; have NB306_309 := b4_ hg BK306; have NB309_306 := b5_ hg BK306; have NB307_309 := b4_ hg BK307; have NB309_307 := b5_ hg BK307; have NB308_309 := b4_ hg BK308; have NB309_308 := b5_ hg BK308; have n0_ := b3_ BK306 hb; have n1_ := b3_ BK307 hb; have n2_ := b3_ BK308 hb; have n3_ := Aside0.mk (below_step (y1_ HB.out) hb); have n4_ := Aside0.mk (hbox); clear BK306; clear BK307; clear BK308; clear HB; have BK306 := n0_; have BK307 := n1_; have BK308 := n2_; have HB := n3_; have BK309 := n4_; clear n0_ n1_ n2_ n3_ n4_; clear hb hbox hg) | ((with_reducible refine gate_dst (N := 4) rfl ?_); (try (refine gate_guard (by rfl) ?_; dsimp only)); refine box_event ?hg (N := 4) ?hd (cs := #[.slice none 0 0, .slice none 0 0, .slice none 0 0]) (t := 27) ?hr ?_; (case hd => rfl); (case hg => rfl); (case hr => first | (go_simp; done) | (go_simp; rfl)); intro gb310 hg w104 hbox hb; have GW310 := b6_ hg HB; have GE310 := b6_ hg HB; have NB306_310 := b4_ hg BK306; have NB310_306 := b5_ hg BK306; have NB307_310 := b4_ hg BK307; have NB310_307 := b5_ hg BK307; have NB308_310 := b4_ hg BK308; have NB310_308 := b5_ hg BK308; have NB309_310 := b4_ hg BK309; have NB310_309 := b5_ hg BK309; have n0_ := b3_ BK306 hb; have n1_ := b3_ BK307 hb; have n2_ := b3_ BK308 hb; have n3_ := b3_ BK309 hb; have n4_ := Aside0.mk (below_step (y1_ HB.out) hb); have n5_ := Aside0.mk (hbox); clear BK306; clear BK307; clear BK308; clear BK309; clear HB; have BK306 := n0_; have BK307 := n1_; have BK308 := n2_; have BK309 := n3_; have HB := n4_; have BK310 := n5_; clear n0_ n1_ n2_ n3_ n4_ n5_; clear hb hbox hg; have hnb105 := NB309_306.out; have hnc105 := NB306_309.out; have hnb106 := NB309_307.out; have hnc106 := NB307_309.out; have hnb107 := NB309_308.out; have hnc107 := NB308_309.out; have hnb108 := NB309_310.out; have hnc108 := NB310_309.out; have hcz109_0 : w104.cell? ⟨gb309, 0, none⟩ = some (.slice A0_0 l0_0.length c0_0) := (blk_cell BK309.out 0).trans rfl; have hcz109_1 : w104.cell? ⟨gb309, 1, none⟩ = some (.slice A0_1 l0_1.length c0_1) := (blk_cell BK309.out 1).trans rfl; have hcz109_2 : w104.cell? ⟨gb309, 2, none⟩ = some (.slice A0_2 l0_2.length c0_2) := (blk_cell BK309.out 2).trans rfl; have hfz109_0 := blk_frozen BK309.out 0; have hfz109_1 := blk_frozen BK309.out 1; have hfz109_2 := blk_frozen BK309.out 2) | ((with_reducible refine gate_callee (f := 19) rfl ?_); refine goesL_ (some 8) rfl rfl Try.func19 s2_ rfl #[.agg #[.slice A0_0 l0_0.length c0_0, .slice A0_1 l0_1.length c0_1, .slice A0_2 l0_2.length c0_2]] rfl s3_ ?_; (with_reducible refine (impl_ValidPresence.calls k _ _ l0_0 _ _ l0_1 _ _ l0_2 true _ ?side1 ?side2 ?side3 ?side4 ?side5 ?side6 A4.out).mono ?_); (case side1 => exact y2_ (Kd.C_below HR0_0.out HB.out)); (case side2 => exact HC0_0.out); (case side3 => exact y2_ (Kd.C_below HR0_1.out HB.out)); (case side4 => exact HC0_1.out); (case side5 => exact y2_ (Kd.C_below HR0_2.out HB.out)); (case side6 => exact HC0_2.out); rintro e w110 ⟨rfl, hb⟩; refine ⟨_, rfl, ?_⟩; have n0_ := b3_ BK306 hb; have n1_ := b3_ BK307 hb; have n2_ := b3_ BK308 hb; have n3_ := b3_ BK309 hb; have n4_ := b3_ BK310 hb; have n5_ := Aside0.mk (below_step (y1_ HB.out) hb); clear BK306; clear BK307; clear BK308; clear BK309; clear BK310; clear HB; have BK306 := n0_; have BK307 := n1_; have BK308 := n2_; have BK309 := n3_; have BK310 := n4_; have HB := n5_; clear n0_ n1_ n2_ n3_ n4_ n5_; (try clear hb); (try clear hb2); (try clear hk); (try clear hi); have hcz111_0 : w110.cell? ⟨gb309, 0, none⟩ = some (.slice A0_0 l0_0.length c0_0) := (blk_cell BK309.out 0).trans rfl; have hcz111_1 : w110.cell? ⟨gb309, 1, none⟩ = some (.slice A0_1 l0_1.length c0_1) := (blk_cell BK309.out 1).trans rfl; have hcz111_2 : w110.cell? ⟨gb309, 2, none⟩ = some (.slice A0_2 l0_2.length c0_2) := (blk_cell BK309.out 2).trans rfl; have hfz111_0 := blk_frozen BK309.out 0; have hfz111_1 := blk_frozen BK309.out 1; have hfz111_2 := blk_frozen BK309.out 2) | ((with_reducible refine gate_callee (f := 90) rfl ?_); refine goesL_ (some 12) rfl rfl Try.func90 s2_ rfl #[.agg #[.slice A0_0 l0_0.length c0_0, .slice A0_1 l0_1.length c0_1, .slice A0_2 l0_2.length c0_2]] rfl s3_ ?_; (with_reducible refine (impl_clonePresence.calls _ _ l0_0 _ _ l0_1 _ _ l0_2 t312 t315 t318 _ ?side1 ?side2 ?side3 ?side4 ?side5 ?side6 A6.out).mono ?_); (case side1 => exact y2_ (Kd.C_below HR0_0.out HB.out)); (case side2 => exact HC0_0.out); (case side3 => exact y2_ (Kd.C_below HR0_1.out HB.out)); (case side4 => exact HC0_1.out); (case side5 => exact y2_ (Kd.C_below HR0_2.out HB.out)); (case side6 => exact HC0_2.out); rintro e w112 ⟨v313, v316, v319, rfl, ho0, ho1, ho2, hb⟩; refine ⟨_, rfl, ?_⟩; have n0_ := Aside0.mk (Kd.R_lower ho0 (below_size (y1_ HB.out))); have n1_ := Aside0.mk (Kd.R_lower ho1 (below_size (y1_ HB.out))); have n2_ := Aside0.mk (Kd.R_lower ho2 (below_size (y1_ HB.out))); have n3_ := b3_ BK306 hb; have n4_ := b3_ BK307 hb; have n5_ := b3_ BK308 hb; have n6_ := b3_ BK310 hb; have n7_ := Aside0.mk (below_step (y1_ HB.out) hb); clear BK306; clear BK307; clear BK308; clear BK310; clear HB; have HO314 := n0_; have HO317 := n1_; have HO320 := n2_; have BK306 := n3_; have BK307 := n4_; have BK308 := n5_; have BK310 := n6_; have HB := n7_; clear n0_ n1_ n2_ n3_ n4_ n5_ n6_ n7_; (try clear hb); (try clear hb2); (try clear hk); (try clear hi); (try clear ho0); (try clear ho1); (try clear ho2)) | ((with_reducible refine gate_dst (N := 6) rfl ?_); (try (refine gate_guard (by rfl) ?_; dsimp only)); refine box_event ?hg (N := 6) ?hd (cs := #[.slice none 0 0, .slice none 0 0, .slice none 0 0]) (t := 27) ?hr ?_; (case hd => rfl); (case hg => rfl); (case hr => first | (go_simp; done) | (go_simp; rfl)); intro gb321 hg w113 hbox hb; have GW321 := b6_ hg HB; have GE321 := b6_ hg HB; have NB306_321 := b4_ hg BK306; have NB321_306 := b5_ hg BK306; have NB307_321 := b4_ hg BK307; have NB321_307 := b5_ hg BK307; have NB308_321 := b4_ hg BK308; have NB321_308 := b5_ hg BK308; have NB310_321 := b4_ hg BK310; have NB321_310 := b5_ hg BK310; have n0_ := r1_ HO314 hb; have n1_ := r1_ HO317 hb; have n2_ := r1_ HO320 hb; have n3_ := b3_ BK306 hb; have n4_ := b3_ BK307 hb; have n5_ := b3_ BK308 hb; have n6_ := b3_ BK310 hb; have n7_ := Aside0.mk (below_step (y1_ HB.out) hb); have n8_ := Aside0.mk (hbox); clear HO314; clear HO317; clear HO320; clear BK306; clear BK307; clear BK308; clear BK310; clear HB; have HO314 := n0_; have HO317 := n1_; have HO320 := n2_; have BK306 := n3_; have BK307 := n4_; have BK308 := n5_; have BK310 := n6_; have HB := n7_; have BK321 := n8_; clear n0_ n1_ n2_ n3_ n4_ n5_ n6_ n7_ n8_; clear hb hbox hg; obtain ⟨Ao114, co114, eo114⟩ := Kd.R_slice HO314.out; subst eo114; have hnb115 := NB321_306.out; have hnc115 := NB306_321.out; have hnb116 := NB321_307.out; have hnc116 := NB307_321.out; have hnb117 := NB321_308.out; have hnc117 := NB308_321.out; have hnb118 := NB321_310.out; have hnc118 := NB310_321.out; have hcz119_0 : w113.cell? ⟨gb321, 0, none⟩ = some (.slice none 0 0) := (blk_cell BK321.out 0).trans rfl; have hcz119_1 : w113.cell? ⟨gb321, 1, none⟩ = some (.slice none 0 0) := (blk_cell BK321.out 1).trans rfl; have hcz119_2 : w113.cell? ⟨gb321, 2, none⟩ = some (.slice none 0 0) := (blk_cell BK321.out 2).trans rfl; have hfz119_0 := blk_frozen BK321.out 0; have hfz119_1 := blk_frozen BK321.out 1; have hfz119_2 := blk_frozen BK321.out 2; obtain ⟨Ao120, co120, eo120⟩ := Kd.R_slice HO317.out; subst eo120; obtain ⟨Ao121, co121, eo121⟩ := Kd.R_slice HO320.out; subst eo121))
 go_at_call 77
 go_in
 try go_wp2_with (fail)
 have n0_ : Aside0 (Kd.R k63 63 (((w113.setCell ⟨gb321, 0, none⟩ (.slice Ao114 t312.length co114)).setCell ⟨gb321, 1, none⟩ (.slice Ao120 t315.length co120)).setCell ⟨gb321, 2, none⟩ (.slice Ao121 t318.length co121)) w.heap.size (fun k_ => some k_ ≠ (.slice Ao120 t315.length co120 : Value).ownBlock) (.slice Ao114 t312.length co114) t312) := ⟨by (with_reducible repeat (first | apply Kd.R_alloc | apply Kd.R_drewN | apply Kd.R_drew)); exact Kd.R_mono (Kd.R_far3 (g := gb321) (Kd.R_types HO314.out BK321.out (by decide)) (fun _ hk => hk.2)) (fun _ hk => hk.1)⟩
 have n1_ : Aside0 (Kd.R k63 63 (((w113.setCell ⟨gb321, 0, none⟩ (.slice Ao114 t312.length co114)).setCell ⟨gb321, 1, none⟩ (.slice Ao120 t315.length co120)).setCell ⟨gb321, 2, none⟩ (.slice Ao121 t318.length co121)) w.heap.size (fun k_ => some k_ ≠ (.slice Ao114 t312.length co114 : Value).ownBlock) (.slice Ao120 t315.length co120) t315) := ⟨by (with_reducible repeat (first | apply Kd.R_alloc | apply Kd.R_drewN | apply Kd.R_drew)); exact Kd.R_mono (Kd.R_far3 (g := gb321) (Kd.R_types HO317.out BK321.out (by decide)) (fun _ hk => hk.2)) (fun _ hk => hk.1)⟩
 have n2_ : Aside0 (Kd.R k73 73 (((w113.setCell ⟨gb321, 0, none⟩ (.slice Ao114 t312.length co114)).setCell ⟨gb321, 1, none⟩ (.slice Ao120 t315.length co120)).setCell ⟨gb321, 2, none⟩ (.slice Ao121 t318.length co121)) w.heap.size (fun _ => True) (.slice Ao121 t318.length co121) t318) := ⟨by (with_reducible repeat (first | apply Kd.R_alloc | apply Kd.R_drewN | apply Kd.R_drew)); exact Kd.R_mono (Kd.R_far3 (g := gb321) (Kd.R_types HO320.out BK321.out (by decide)) (fun _ hk => hk.2)) (fun _ hk => trivial)⟩
 have n3_ : Aside0 ((((w113.setCell ⟨gb321, 0, none⟩ (.slice Ao114 t312.length co114)).setCell ⟨gb321, 1, none⟩ (.slice Ao120 t315.length co120)).setCell ⟨gb321, 2, none⟩ (.slice Ao121 t318.length co121)).heap[gb306]? = some (.cells #[.int .i64 a1] 2 (0, 0))) := ⟨by (with_reducible repeat (first | refine blk_drewN ?_ _ | refine blk_drew ?_ | refine blk_alloc ?_ _)); refine blk_far3 ?_ NB306_321.out; (with_reducible repeat (first | refine blk_drewN ?_ _ | refine blk_drew ?_ | refine blk_alloc ?_ _)); exact BK306.out⟩
 have n4_ : Aside0 ((((w113.setCell ⟨gb321, 0, none⟩ (.slice Ao114 t312.length co114)).setCell ⟨gb321, 1, none⟩ (.slice Ao120 t315.length co120)).setCell ⟨gb321, 2, none⟩ (.slice Ao121 t318.length co121)).heap[gb307]? = some (.cells #[.int .i64 a2] 2 (0, 0))) := ⟨by (with_reducible repeat (first | refine blk_drewN ?_ _ | refine blk_drew ?_ | refine blk_alloc ?_ _)); refine blk_far3 ?_ NB307_321.out; (with_reducible repeat (first | refine blk_drewN ?_ _ | refine blk_drew ?_ | refine blk_alloc ?_ _)); exact BK307.out⟩
 have n5_ : Aside0 ((((w113.setCell ⟨gb321, 0, none⟩ (.slice Ao114 t312.length co114)).setCell ⟨gb321, 1, none⟩ (.slice Ao120 t315.length co120)).setCell ⟨gb321, 2, none⟩ (.slice Ao121 t318.length co121)).heap[gb308]? = some (.cells #[.slice none 0 0, .slice none 0 0, .slice none 0 0] 27 (0, 0))) := ⟨by (with_reducible repeat (first | refine blk_drewN ?_ _ | refine blk_drew ?_ | refine blk_alloc ?_ _)); refine blk_far3 ?_ NB308_321.out; (with_reducible repeat (first | refine blk_drewN ?_ _ | refine blk_drew ?_ | refine blk_alloc ?_ _)); exact BK308.out⟩
 have n6_ : Aside0 ((((w113.setCell ⟨gb321, 0, none⟩ (.slice Ao114 t312.length co114)).setCell ⟨gb321, 1, none⟩ (.slice Ao120 t315.length co120)).setCell ⟨gb321, 2, none⟩ (.slice Ao121 t318.length co121)).heap[gb310]? = some (.cells #[.slice none 0 0, .slice none 0 0, .slice none 0 0] 27 (0, 0))) := ⟨by (with_reducible repeat (first | refine blk_drewN ?_ _ | refine blk_drew ?_ | refine blk_alloc ?_ _)); refine blk_far3 ?_ NB310_321.out; (with_reducible repeat (first | refine blk_drewN ?_ _ | refine blk_drew ?_ | refine blk_alloc ?_ _)); exact BK310.out⟩
 have n7_ : Aside0 ((((w113.setCell ⟨gb321, 0, none⟩ (.slice Ao114 t312.length co114)).setCell ⟨gb321, 1, none⟩ (.slice Ao120 t315.length co120)).setCell ⟨gb321, 2, none⟩ (.slice Ao121 t318.length co121)).heap[gb321]? = some (.cells #[.slice Ao114 t312.length co114, .slice Ao120 t315.length co120, .slice Ao121 t318.length co121] 27 (0, 0))) := ⟨by (with_reducible repeat (first | refine blk_drewN ?_ _ | refine blk_drew ?_ | refine blk_alloc ?_ _)); refine blk_put3 (cs := #[.slice none 0 0, .slice none 0 0, .slice none 0 0]) ?_ rfl; (with_reducible repeat (first | refine blk_drewN ?_ _ | refine blk_drew ?_ | refine blk_alloc ?_ _)); exact BK321.out⟩
 have n8_ : Aside0 (Below w.heap.size w (((w113.setCell ⟨gb321, 0, none⟩ (.slice Ao114 t312.length co114)).setCell ⟨gb321, 1, none⟩ (.slice Ao120 t315.length co120)).setCell ⟨gb321, 2, none⟩ (.slice Ao121 t318.length co121))) := ⟨by repeat (first | (with_reducible first | exact HB.out | apply below_alloc | apply pw_below_drewN | apply below_drew1 | refine below_set ?_ GE321.out) | exact HB.out)⟩
 (try clear HO314)
 (try clear HO317)
 (try clear HO320)
 (try clear BK306)
 (try clear BK307)
 (try clear BK308)
 (try clear BK310)
 (try clear BK321)
 (try clear HB)
 generalize (((w113.setCell ⟨gb321, 0, none⟩ (.slice Ao114 t312.length co114)).setCell ⟨gb321, 1, none⟩ (.slice Ao120 t315.length co120)).setCell ⟨gb321, 2, none⟩ (.slice Ao121 t318.length co121)) = w122 at n0_ n1_ n2_ n3_ n4_ n5_ n6_ n7_ n8_ ⊢
 have HO314 := n0_
 have HO317 := n1_
 have HO320 := n2_
 have BK306 := n3_
 have BK307 := n4_
 have BK308 := n5_
 have BK310 := n6_
 have BK321 := n7_
 have HB := n8_
 clear n0_ n1_ n2_ n3_ n4_ n5_ n6_ n7_ n8_
 have n0_ := Aside0.mk (Kd.R_drew HO314.out)
 have n1_ := Aside0.mk (Kd.R_drew HO317.out)
 have n2_ := Aside0.mk (Kd.R_drew HO320.out)
 have n3_ := Aside0.mk (blk_drew BK306.out)
 have n4_ := Aside0.mk (blk_drew BK307.out)
 have n5_ := Aside0.mk (blk_drew BK308.out)
 have n6_ := Aside0.mk (blk_drew BK310.out)
 have n7_ := Aside0.mk (blk_drew BK321.out)
 have n8_ := Aside0.mk (below_drew1 HB.out)
 clear HO314
 clear HO317
 clear HO320
 clear BK306
 clear BK307
 clear BK308
 clear BK310
 clear BK321
 clear HB
 have HO314 := n0_
 have HO317 := n1_
 have HO320 := n2_
 have BK306 := n3_
 have BK307 := n4_
 have BK308 := n5_
 have BK310 := n6_
 have BK321 := n7_
 have HB := n8_
 clear n0_ n1_ n2_ n3_ n4_ n5_ n6_ n7_ n8_
 refine start_ (n := 12) (S := fun w' => w'.cell? ⟨gb321, 0, none⟩ = some (.slice Ao114 t312.length co114) ∧ w'.cell? ⟨gb321, 1, none⟩ = some (.slice Ao120 t315.length co120) ∧ w'.cell? ⟨gb321, 2, none⟩ = some (.slice Ao121 t318.length co121) ∧ w'.cell? ⟨gb306, 0, none⟩ = some (.int .i64 a1) ∧ w'.cell? ⟨gb307, 0, none⟩ = some (.int .i64 a2)) (ds := [11]) m0_ s2_ rfl rfl ⟨(blk_cell BK321.out 0).trans rfl, (blk_cell BK321.out 1).trans rfl, (blk_cell BK321.out 2).trans rfl, (blk_cell BK306.out 0).trans rfl, (blk_cell BK307.out 0).trans rfl⟩ (fun hHeld => ?_)
 generalize w122.drew = w123 at HO314 HO317 HO320 BK306 BK307 BK308 BK310 BK321 HB hHeld ⊢
 refine pure_ (i := 0) (N := some 5) (v := ?_) (a' := ?_) m1_ rfl rfl s2_ (fun _ _ _ h => h) (Or.inl ⟨by rfl, ?_⟩) ?_ ?_
 rotate_left
 {
 intro w'
 go_simp
 with_reducible rfl}
 rotate_left
 · exact p1_
 refine pure_ (i := 1) (N := some 6) (v := ?_) (a' := ?_) m2_ rfl rfl s2_ (fun _ _ _ h => h) (Or.inl ⟨by rfl, ?_⟩) ?_ ?_
 rotate_left
 {
 intro w'
 go_simp
 with_reducible rfl}
 rotate_left
 · exact p1_
 refine pure_ (i := 2) (N := some 7) (v := ?_) (a' := ?_) m3_ rfl rfl s2_ (fun _ _ _ h => h) (Or.inl ⟨by rfl, ?_⟩) ?_ ?_
 rotate_left
 {
 intro w'
 go_simp
 with_reducible rfl}
 rotate_left
 · exact p1_
 refine pure_ (i := 3) (N := some 8) (v := ?_) (a' := ?_) m4_ rfl rfl s2_ (fun _ _ _ h => h) (Or.inl ⟨by rfl, ?_⟩) ?_ ?_
 rotate_left
 {
 intro w'
 go_simp
 with_reducible rfl}
 rotate_left
 · exact p1_
 refine take_ (i := 4) (N := some 9) (v := ?_) (a' := ?_) m5_ rfl rfl s2_ (fun _ _ _ h => h) (Or.inl ⟨by rfl, ?_⟩) hHeld ?_ ?_
 rotate_left
 {
 rintro w' ⟨s0, s1, s2, s3, s4⟩
 go_simp
 with_reducible rfl}
 rotate_left
 · exact p1_
 refine take_ (i := 5) (N := some 10) (v := ?_) (a' := ?_) m6_ rfl rfl s2_ (fun _ _ _ h => h) (Or.inl ⟨by rfl, ?_⟩) hHeld ?_ ?_
 rotate_left
 {
 rintro w' ⟨s0, s1, s2, s3, s4⟩
 go_simp
 with_reducible rfl}
 rotate_left
 · exact p1_
 refine take_ (i := 6) (N := some 11) (v := ?_) (a' := ?_) m7_ rfl rfl s2_ (fun _ _ _ h => h) (Or.inl ⟨by rfl, ?_⟩) hHeld ?_ ?_
 rotate_left
 {
 rintro w' ⟨s0, s1, s2, s3, s4⟩
 go_simp
 with_reducible rfl}
 rotate_left
 · exact p1_
 refine pure_ (i := 7) (N := some 12) (v := ?_) (a' := ?_) m8_ rfl rfl s2_ (fun _ _ _ h => h) (Or.inl ⟨by rfl, ?_⟩) ?_ ?_
 rotate_left
 {
 intro w'
 go_simp
 with_reducible rfl}
 rotate_left
 · exact p1_
 refine one_ (i := 8) (N := some 13) m9_ rfl rfl s2_ (by decide) (fun K hK => ?_)
 refine goes_ Try.func78 s2_ rfl #[.slice Ao121 t318.length co121, .agg #[.int .i64 a1, .int .i64 a2]] (by rfl) rfl rfl s3_ ?_
 with_reducible refine (impl_marked_n78.calls k (fun k_ => some k_ = (.slice Ao121 t318.length co121 : Value).ownBlock) (.slice Ao121 t318.length co121) t318 a1 a2 t322 w _ ?side1 ?side2 A7.out).mono ?_
 (case side1 => repeat (first | (with_reducible first | exact HB.out | apply below_alloc | apply pw_below_drewN | apply below_drew1) | exact HB.out))
 (case side2 => exact Kd.R_tight rfl HO320.out)
 rintro e w124 ⟨v323, rfl, ho0, hb, hkp⟩
 refine ⟨_, rfl, ?_⟩
 have n0_ := Aside0.mk (blk_kept (b1_ BK306.out) hkp (fun hs_ => (fun e_ => (Kd.R_ne HO320.out BK306.out (by decide)) e_) hs_))
 have n1_ := Aside0.mk (blk_kept (b1_ BK307.out) hkp (fun hs_ => (fun e_ => (Kd.R_ne HO320.out BK307.out (by decide)) e_) hs_))
 have n2_ := Aside0.mk (blk_kept (b1_ BK308.out) hkp (fun hs_ => (fun e_ => (Kd.R_ne HO320.out BK308.out (by decide)) e_) hs_))
 have n3_ := Aside0.mk (blk_kept (b1_ BK310.out) hkp (fun hs_ => (fun e_ => (Kd.R_ne HO320.out BK310.out (by decide)) e_) hs_))
 have n4_ := Aside0.mk (Kd.R_mono (ok' := fun k_ => some k_ ≠ (.slice Ao120 t315.length co120 : Value).ownBlock) (Kd.R_keptB ((Kd.R_apart' HO314.out (Kd.R_typed HO320.out) (by decide))) hkp (fun k_ hk_ hs_ => (hk_.2) hs_)) (fun k_ hk_ => hk_.1.1))
 have n5_ := Aside0.mk (Kd.R_mono (ok' := fun k_ => some k_ ≠ (.slice Ao114 t312.length co114 : Value).ownBlock) (Kd.R_keptB ((Kd.R_apart' HO317.out (Kd.R_typed HO320.out) (by decide))) hkp (fun k_ hk_ hs_ => (hk_.2) hs_)) (fun k_ hk_ => hk_.1.1))
 have n6_ := Aside0.mk (blk_kept (b1_ BK321.out) hkp (fun hs_ => (fun e_ => (Kd.R_ne HO320.out BK321.out (by decide)) e_) hs_))
 have n7_ := Aside0.mk (Kd.R_mono (ok' := fun k_ => True) ho0 (fun k_ hk_ => trivial))
 have n8_ := Aside0.mk (hb)
 clear BK306
 clear BK307
 clear BK308
 clear BK310
 clear HO314
 clear HO317
 clear BK321
 clear HB
 clear HO320
 have BK306 := n0_
 have BK307 := n1_
 have BK308 := n2_
 have BK310 := n3_
 have HO314 := n4_
 have HO317 := n5_
 have BK321 := n6_
 have HO324 := n7_
 have HB := n8_
 clear n0_ n1_ n2_ n3_ n4_ n5_ n6_ n7_ n8_
 (try clear hb)
 (try clear hkp)
 (try clear ho0)
 obtain ⟨Ao125, co125, eo125⟩ := Kd.R_slice HO324.out
 (first | subst eo125 | (injection eo125 with f1_ f2_ f3_; have f4_ := f1_.symm; have f5_ := f3_.symm; clear f1_ f2_ f3_; subst f4_; subst f5_))
 refine hK.out _ _ ⟨(blk_cell BK321.out 0).trans rfl, (blk_cell BK321.out 1).trans rfl, (blk_cell BK321.out 2).trans rfl, (blk_cell BK306.out 0).trans rfl, (blk_cell BK307.out 0).trans rfl⟩ (fun hHeld => ?_)
 clear hK K
 refine norm_ (a' := ?_) ?_ ?_
 rotate_left
 {
 show Act.put _ (some 13) _ = _
 simp only [Act.put, List.setIfInBounds_toArray, List.set_cons_zero, List.set_cons_succ, i64_w, i32_w]
 rfl}
 refine pure_ (i := 9) (N := some 14) (v := ?_) (a' := ?_) m10_ rfl rfl s2_ (fun _ _ _ h => h) (Or.inl ⟨by rfl, ?_⟩) ?_ ?_
 rotate_left
 {
 intro w'
 go_simp
 with_reducible rfl}
 rotate_left
 · exact p1_
 refine pure_ (i := 10) (N := some 15) (v := ?_) (a' := ?_) m11_ rfl rfl s2_ (fun _ _ _ h => h) (Or.inl ⟨by rfl, ?_⟩) ?_ ?_
 rotate_left
 {
 intro w'
 go_simp
 with_reducible rfl}
 rotate_left
 · exact p1_
 refine last_ (i := 11) (N := none) m12_ rfl rfl s2_ (by decide) (fun K hK => ?_)
 have hs126 : w124.cell? ⟨gb321, 2, none⟩ = some (.slice Ao121 t318.length co121) := (blk_cell BK321.out 2).trans rfl
 have hfs126 := blk_frozen BK321.out 2
 have hns126_0 := NB306_321.out
 have hns126_1 := NB307_321.out
 have hns126_2 := NB308_321.out
 have hns126_3 := NB310_321.out
 have hms126_0 := NB321_306.out
 have hms126_1 := NB321_307.out
 have hms126_2 := NB321_308.out
 have hms126_3 := NB321_310.out
 refine skip_ (w1 := ?_) (by rfl) rfl ?_ ?_
 rotate_left
 {
 go_simp
 rfl}
 refine hK.out _ _ ?_
 clear hK K
 refine done_ s2_ ?_
 have hnb127 := NB307_306.out
 have hnc127 := NB306_307.out
 have hnb128 := NB307_308.out
 have hnc128 := NB308_307.out
 have hnb129 := NB307_310.out
 have hnc129 := NB310_307.out
 have hcz130_0 : w124.cell? ⟨gb307, 0, none⟩ = some (.int .i64 a2) := (blk_cell BK307.out 0).trans rfl
 have hfz130_0 := blk_frozen BK307.out 0
 try go_wp2_with (first | ((with_reducible refine gate_callee (f := 46) rfl ?_); refine goesL_ (some 17) rfl rfl Try.func46 s2_ rfl #[.int .i64 a2, .int .i64 0, .int .i64 1000000000] rfl s3_ ?_; (with_reducible refine (impl_in.calls a2 0 1000000000 false _ A8.out).mono ?_); rintro e w' ⟨rfl, ⟨nd, rfl⟩⟩; refine ⟨_, rfl, ?_⟩; have hnb131 := NB310_306.out; have hnc131 := NB306_310.out; have hnb132 := NB310_308.out; have hnc132 := NB308_310.out; have hcz133_0 : w124.cell? ⟨gb310, 0, none⟩ = some (.slice none 0 0) := (blk_cell BK310.out 0).trans rfl; have hcz133_1 : w124.cell? ⟨gb310, 1, none⟩ = some (.slice none 0 0) := (blk_cell BK310.out 1).trans rfl; have hcz133_2 : w124.cell? ⟨gb310, 2, none⟩ = some (.slice none 0 0) := (blk_cell BK310.out 2).trans rfl; have hfz133_0 := blk_frozen BK310.out 0; have hfz133_1 := blk_frozen BK310.out 1; have hfz133_2 := blk_frozen BK310.out 2))
 (try simp only [Exit.inBlock, Exit.then])
 refine bodyPost_ret (results_ct rfl _ _ gb310 27 #[.slice none 0 0, .slice none 0 0, .slice none 0 0] (0, 0) _ rfl (by (with_reducible repeat (first | refine blk_drewN ?_ _ | refine blk_drew ?_ | refine blk_alloc ?_ _)); refine blk_put3 (cs := #[.slice none 0 0, .slice none 0 0, .slice none 0 0]) ?_ rfl; (with_reducible repeat (first | refine blk_drewN ?_ _ | refine blk_drew ?_ | refine blk_alloc ?_ _)); refine blk_far ?_ NB310_321.out _; (with_reducible repeat (first | refine blk_drewN ?_ _ | refine blk_drew ?_ | refine blk_alloc ?_ _)); exact BK310.out) Try.underlying27 rfl s2_) rfl ?_
 (try simp only [])
 have hnb134 := NB308_306.out
 have hnc134 := NB306_308.out
 have hcz135_0 : w124.cell? ⟨gb308, 0, none⟩ = some (.slice none 0 0) := (blk_cell BK308.out 0).trans rfl
 have hcz135_1 : w124.cell? ⟨gb308, 1, none⟩ = some (.slice none 0 0) := (blk_cell BK308.out 1).trans rfl
 have hcz135_2 : w124.cell? ⟨gb308, 2, none⟩ = some (.slice none 0 0) := (blk_cell BK308.out 2).trans rfl
 have hfz135_0 := blk_frozen BK308.out 0
 have hfz135_1 := blk_frozen BK308.out 1
 have hfz135_2 := blk_frozen BK308.out 2
 try go_wp2_with (fail)
 refine bodyPost_ret (results_ct rfl _ _ gb308 27 #[.slice none 0 0, .slice none 0 0, .slice none 0 0] (0, 0) _ rfl (by (with_reducible repeat (first | refine blk_drewN ?_ _ | refine blk_drew ?_ | refine blk_alloc ?_ _)); refine blk_put3 (cs := #[.slice none 0 0, .slice none 0 0, .slice none 0 0]) ?_ rfl; (with_reducible repeat (first | refine blk_drewN ?_ _ | refine blk_drew ?_ | refine blk_alloc ?_ _)); refine blk_far3 ?_ NB308_310.out; (with_reducible repeat (first | refine blk_drewN ?_ _ | refine blk_drew ?_ | refine blk_alloc ?_ _)); refine blk_far ?_ NB308_321.out _; (with_reducible repeat (first | refine blk_drewN ?_ _ | refine blk_drew ?_ | refine blk_alloc ?_ _)); exact BK308.out) Try.underlying27 rfl s2_) rfl ?_
 exact ⟨_, _, _, by first | rfl | (simp [errW_none, errW_some] <;> rfl) | (simp [*, errW_none, errW_some] <;> rfl), by first | exact Kd.R_nil _ _ _ _ _ | exact Kd.N_nil _ _ _ _ _ | exact Kd.V_nil _ _ _ _ _ | exact Kd.Q_nil _ _ _ _ _ | exact Kd.S_nil _ _ _ _ _, by first | exact Kd.R_nil _ _ _ _ _ | exact Kd.N_nil _ _ _ _ _ | exact Kd.V_nil _ _ _ _ _ | exact Kd.Q_nil _ _ _ _ _ | exact Kd.S_nil _ _ _ _ _, by first | exact Kd.R_nil _ _ _ _ _ | exact Kd.N_nil _ _ _ _ _ | exact Kd.V_nil _ _ _ _ _ | exact Kd.Q_nil _ _ _ _ _ | exact Kd.S_nil _ _ _ _ _, by repeat (first | (with_reducible first | exact HB.out | apply below_alloc | apply pw_below_drewN | apply below_drew1 | refine below_set ?_ GE308.out | refine below_set ?_ GE310.out | refine below_set ?_ GE321.out) | exact HB.out)⟩}}
 {
 replace c5 := Bool.eq_false_iff.mpr c5
 subst c5
 have H1 : (some (([] : List (S63)), ([] : List (S63)), ([] : List (S73)), false)) = some (r1, r2, r3, r4) := by rw [if_neg (show ¬ (false = true) by decide)] at H; exact H
 clear H
 have H := H1
 clear H1
 simp only [Option.some.injEq, Prod.mk.injEq] at H
 obtain ⟨rfl, rfl, rfl, rfl⟩ := H
 go_enter Try.func34, Try.ntmps34
 try go_wp2_with (first | ((with_reducible refine gate_dst (N := 3) rfl ?_); (try (refine gate_guard (by rfl) ?_; dsimp only)); refine box_event ?hg (N := 3) ?hd (cs := #[.slice A0_0 l0_0.length c0_0, .slice A0_1 l0_1.length c0_1, .slice A0_2 l0_2.length c0_2]) (t := 27) ?hr ?_; (case hd => rfl); (case hg => rfl); (case hr => first | (go_simp; done) | (go_simp; rfl)); intro gb305 hg w136 hbox hb; have GW305 := b6_ hg HB; have GE305 := b6_ hg HB; have n0_ := Aside0.mk (below_step (y1_ HB.out) hb); have n1_ := Aside0.mk (hbox); clear HB; have HB := n0_; have BK305 := n1_; clear n0_ n1_; clear hb hbox hg) | ((with_reducible refine gate_dst (N := 4) rfl ?_); (try (refine gate_guard (by rfl) ?_; dsimp only)); refine box_event ?hg (N := 4) ?hd (cs := #[.int .i64 a1]) (t := 2) ?hr ?_; (case hd => rfl); (case hg => rfl); (case hr => first | (go_simp; done) | (go_simp; rfl)); intro gb306 hg w137 hbox hb; have GW306 := b6_ hg HB; have GE306 := b6_ hg HB; have NB305_306 := b4_ hg BK305; have NB306_305 := b5_ hg BK305; have n0_ := b3_ BK305 hb; have n1_ := Aside0.mk (below_step (y1_ HB.out) hb); have n2_ := Aside0.mk (hbox); clear BK305; clear HB; have BK305 := n0_; have HB := n1_; have BK306 := n2_; clear n0_ n1_ n2_; clear hb hbox hg) | ((with_reducible refine gate_dst (N := 5) rfl ?_); (try (refine gate_guard (by rfl) ?_; dsimp only)); refine box_event ?hg (N := 5) ?hd (cs := #[.int .i64 a2]) (t := 2) ?hr ?_; (case hd => rfl); (case hg => rfl); (case hr => first | (go_simp; done) | (go_simp; rfl)); intro gb307 hg w138 hbox hb; have GW307 := b6_ hg HB; have GE307 := b6_ hg HB; have NB305_307 := b4_ hg BK305; have NB307_305 := b5_ hg BK305; have n0_ := b3_ BK305 hb; have n1_ := Aside0.mk (below_step (y1_ HB.out) hb); have n2_ := Aside0.mk (hbox); clear BK305; clear HB; have BK305 := n0_; have HB := n1_; have BK307 := n2_; clear n0_ n1_ n2_; clear hb hbox hg) | ((with_reducible refine gate_dst (N := 6) rfl ?_); (try (refine gate_guard (by rfl) ?_; dsimp only)); refine box_event ?hg (N := 6) ?hd (cs := #[.slice none 0 0, .slice none 0 0, .slice none 0 0]) (t := 27) ?hr ?_; (case hd => rfl); (case hg => rfl); (case hr => first | (go_simp; done) | (go_simp; rfl)); intro gb308 hg w139 hbox hb; have GW308 := b6_ hg HB; have GE308 := b6_ hg HB; have NB305_308 := b4_ hg BK305; have NB308_305 := b5_ hg BK305; have n0_ := b3_ BK305 hb; have n1_ := Aside0.mk (below_step (y1_ HB.out) hb); have n2_ := Aside0.mk (hbox); clear BK305; clear HB; have BK305 := n0_; have HB := n1_; have BK308 := n2_; clear n0_ n1_ n2_; clear hb hbox hg; have hnb140 := NB305_308.out; have hnc140 := NB308_305.out; have hcz141_0 : w139.cell? ⟨gb305, 0, none⟩ = some (.slice A0_0 l0_0.length c0_0) := (blk_cell BK305.out 0).trans rfl; have hcz141_1 : w139.cell? ⟨gb305, 1, none⟩ = some (.slice A0_1 l0_1.length c0_1) := (blk_cell BK305.out 1).trans rfl; have hcz141_2 : w139.cell? ⟨gb305, 2, none⟩ = some (.slice A0_2 l0_2.length c0_2) := (blk_cell BK305.out 2).trans rfl; have hfz141_0 := blk_frozen BK305.out 0; have hfz141_1 := blk_frozen BK305.out 1; have hfz141_2 := blk_frozen BK305.out 2))
 go_at_call 42
 go_in
 try go_wp2_with (first | ((with_reducible refine gate_dst (N := 2) rfl ?_); (try (refine gate_guard (by rfl) ?_; dsimp only)); refine box_event ?hg (N := 2) ?hd (cs := #[.slice A0_0 l0_0.length c0_0, .slice A0_1 l0_1.length c0_1, .slice A0_2 l0_2.length c0_2]) (t := 27) ?hr ?_; (case hd => rfl); (case hg => rfl); (case hr => first | (go_simp; done) | (go_simp; rfl)); intro gb309 hg w142 hbox hb; have GW309 := b6_ hg HB; have GE309 := b6_ hg HB; have NB308_309 := b4_ hg BK308; have NB309_308 := b5_ hg BK308; have n0_ := b3_ BK308 hb; have n1_ := Aside0.mk (below_step (y1_ HB.out) hb); have n2_ := Aside0.mk (hbox); clear BK308; clear HB; have BK308 := n0_; have HB := n1_; have BK309 := n2_; clear n0_ n1_ n2_; clear hb hbox hg) | ((with_reducible refine gate_dst (N := 4) rfl ?_); (try (refine gate_guard (by rfl) ?_; dsimp only)); refine box_event ?hg (N := 4) ?hd (cs := #[.slice none 0 0, .slice none 0 0, .slice none 0 0]) (t := 27) ?hr ?_; (case hd => rfl); (case hg => rfl); (case hr => first | (go_simp; done) | (go_simp; rfl)); intro gb310 hg w143 hbox hb; have GW310 := b6_ hg HB; have GE310 := b6_ hg HB; have NB308_310 := b4_ hg BK308; have NB310_308 := b5_ hg BK308; have NB309_310 := b4_ hg BK309; have NB310_309 := b5_ hg BK309; have n0_ := b3_ BK308 hb; have n1_ := b3_ BK309 hb; have n2_ := Aside0.mk (below_step (y1_ HB.out) hb); have n3_ := Aside0.mk (hbox); clear BK308; clear BK309; clear HB; have BK308 := n0_; have BK309 := n1_; have HB := n2_; have BK310 := n3_; clear n0_ n1_ n2_ n3_; clear hb hbox hg; have hnb144 := NB309_308.out; have hnc144 := NB308_309.out; have hnb145 := NB309_310.out; have hnc145 := NB310_309.out; have hcz146_0 : w143.cell? ⟨gb309, 0, none⟩ = some (.slice A0_0 l0_0.length c0_0) := (blk_cell BK309.out 0).trans rfl; have hcz146_1 : w143.cell? ⟨gb309, 1, none⟩ = some (.slice A0_1 l0_1.length c0_1) := (blk_cell BK309.out 1).trans rfl; have hcz146_2 : w143.cell? ⟨gb309, 2, none⟩ = some (.slice A0_2 l0_2.length c0_2) := (blk_cell BK309.out 2).trans rfl; have hfz146_0 := blk_frozen BK309.out 0; have hfz146_1 := blk_frozen BK309.out 1; have hfz146_2 := blk_frozen BK309.out 2) | ((with_reducible refine gate_callee (f := 19) rfl ?_); refine goesL_ (some 8) rfl rfl Try.func19 s2_ rfl #[.agg #[.slice A0_0 l0_0.length c0_0, .slice A0_1 l0_1.length c0_1, .slice A0_2 l0_2.length c0_2]] rfl s3_ ?_; (with_reducible refine (impl_ValidPresence.calls k _ _ l0_0 _ _ l0_1 _ _ l0_2 false _ ?side1 ?side2 ?side3 ?side4 ?side5 ?side6 A4.out).mono ?_); (case side1 => exact y2_ (Kd.C_below HR0_0.out HB.out)); (case side2 => exact HC0_0.out); (case side3 => exact y2_ (Kd.C_below HR0_1.out HB.out)); (case side4 => exact HC0_1.out); (case side5 => exact y2_ (Kd.C_below HR0_2.out HB.out)); (case side6 => exact HC0_2.out); rintro e w147 ⟨rfl, hb⟩; refine ⟨_, rfl, ?_⟩; have n0_ := b3_ BK308 hb; have n1_ := b3_ BK310 hb; have n2_ := Aside0.mk (below_step (y1_ HB.out) hb); clear BK308; clear BK310; clear HB; have BK308 := n0_; have BK310 := n1_; have HB := n2_; clear n0_ n1_ n2_; (try clear hb); (try clear hb2); (try clear hk); (try clear hi); have hnb148 := NB310_308.out; have hnc148 := NB308_310.out; have hcz149_0 : w147.cell? ⟨gb310, 0, none⟩ = some (.slice none 0 0) := (blk_cell BK310.out 0).trans rfl; have hcz149_1 : w147.cell? ⟨gb310, 1, none⟩ = some (.slice none 0 0) := (blk_cell BK310.out 1).trans rfl; have hcz149_2 : w147.cell? ⟨gb310, 2, none⟩ = some (.slice none 0 0) := (blk_cell BK310.out 2).trans rfl; have hfz149_0 := blk_frozen BK310.out 0; have hfz149_1 := blk_frozen BK310.out 1; have hfz149_2 := blk_frozen BK310.out 2))
 (try simp only [Exit.inBlock, Exit.then])
 refine bodyPost_ret (results_ct rfl _ _ gb310 27 #[.slice none 0 0, .slice none 0 0, .slice none 0 0] (0, 0) _ rfl (by (with_reducible repeat (first | refine blk_drewN ?_ _ | refine blk_drew ?_ | refine blk_alloc ?_ _)); refine blk_put3 (cs := #[.slice none 0 0, .slice none 0 0, .slice none 0 0]) ?_ rfl; (with_reducible repeat (first | refine blk_drewN ?_ _ | refine blk_drew ?_ | refine blk_alloc ?_ _)); exact BK310.out) Try.underlying27 rfl s2_) rfl ?_
 (try simp only [])
 have hcz150_0 : w147.cell? ⟨gb308, 0, none⟩ = some (.slice none 0 0) := (blk_cell BK308.out 0).trans rfl
 have hcz150_1 : w147.cell? ⟨gb308, 1, none⟩ = some (.slice none 0 0) := (blk_cell BK308.out 1).trans rfl
 have hcz150_2 : w147.cell? ⟨gb308, 2, none⟩ = some (.slice none 0 0) := (blk_cell BK308.out 2).trans rfl
 have hfz150_0 := blk_frozen BK308.out 0
 have hfz150_1 := blk_frozen BK308.out 1
 have hfz150_2 := blk_frozen BK308.out 2
 try go_wp2_with (fail)
 refine bodyPost_ret (results_ct rfl _ _ gb308 27 #[.slice none 0 0, .slice none 0 0, .slice none 0 0] (0, 0) _ rfl (by (with_reducible repeat (first | refine blk_drewN ?_ _ | refine blk_drew ?_ | refine blk_alloc ?_ _)); refine blk_put3 (cs := #[.slice none 0 0, .slice none 0 0, .slice none 0 0]) ?_ rfl; (with_reducible repeat (first | refine blk_drewN ?_ _ | refine blk_drew ?_ | refine blk_alloc ?_ _)); refine blk_far3 ?_ NB308_310.out; (with_reducible repeat (first | refine blk_drewN ?_ _ | refine blk_drew ?_ | refine blk_alloc ?_ _)); exact BK308.out) Try.underlying27 rfl s2_) rfl ?_
 exact ⟨_, _, _, by first | rfl | (simp [errW_none, errW_some] <;> rfl) | (simp [*, errW_none, errW_some] <;> rfl), by first | exact Kd.R_nil _ _ _ _ _ | exact Kd.N_nil _ _ _ _ _ | exact Kd.V_nil _ _ _ _ _ | exact Kd.Q_nil _ _ _ _ _ | exact Kd.S_nil _ _ _ _ _, by first | exact Kd.R_nil _ _ _ _ _ | exact Kd.N_nil _ _ _ _ _ | exact Kd.V_nil _ _ _ _ _ | exact Kd.Q_nil _ _ _ _ _ | exact Kd.S_nil _ _ _ _ _, by first | exact Kd.R_nil _ _ _ _ _ | exact Kd.N_nil _ _ _ _ _ | exact Kd.V_nil _ _ _ _ _ | exact Kd.Q_nil _ _ _ _ _ | exact Kd.S_nil _ _ _ _ _, by repeat (first | (with_reducible first | exact HB.out | apply below_alloc | apply pw_below_drewN | apply below_drew1 | refine below_set ?_ GE308.out | refine below_set ?_ GE310.out) | exact HB.out)⟩}

end Go.Proofs.Ytgfilednbllkmaa.QFnExactReadUpTo
