-- written by a program of this session, on the lines of the kit's print
import Derived.Test.YtgfilednbllkmaaQFnExactHeartbeatx0
import Derived.Test.YtgfilednbllkmaaQFnExactHeartbeatx4
import Derived.Test.YtgfilednbllkmaaQFnExactHeartbeatx5
import Derived.Test.YtgfilednbllkmaaQFnExactHeartbeatx6
import Derived.Test.YtgfilednbllkmaaQFnExactHeartbeatx7
import Derived.Test.YtgfilednbllkmaaQFnExactHeartbeatx11
namespace Go.Proofs.Ytgfilednbllkmaa.QFnExactHeartbeat
open Go.RowKit Go.Proofs.YtgfilednbllkmaaW.PrintWords Go.Proofs.YtgfilednbllkmaaW.PrintLast Go.Proofs.YtgfilednbllkmaaW.PrintMore
attribute [local go_sem] max2_int min2_int max_two min_two max_three min_three max_four min_four   -- for this text's walks alone
set_option linter.unusedVariables false
set_option linter.unusedSimpArgs false

/-! ### laws_FnExactHeartbeat: function 6 -/
abbrev laws_FnExactHeartbeat.T : Bool := true
abbrev laws_FnExactHeartbeat.F : Bool := false
theorem laws_FnExactHeartbeat.s1_ {P : Prop} (h : P := by first | rfl | (simp; done) | (simp [*]; done)) : P := h
theorem laws_FnExactHeartbeat.s2_ {P : Prop} (h : P := by kernel_rfl) : P := h
theorem laws_FnExactHeartbeat.s3_ {P : Prop} (h : P := by (try simp only [List.map_toArray, List.map_cons, List.map_nil]); first | done | rfl | (simp only [List.length_drop, List.length_take]; rfl)) : P := h
theorem laws_FnExactHeartbeat.p1_ {P : Prop} (h : P := by simp only [Act.put, List.setIfInBounds_toArray, List.set_cons_zero, List.set_cons_succ, i64_w, i32_w]; rfl) : P := h
theorem laws_FnExactHeartbeat.b1_ {P Q : Prop} (q : Q) (h : Q → P := by intro q_; (with_reducible repeat (first | refine blk_drewN ?_ _ | refine blk_drew ?_ | refine blk_alloc ?_ _)); exact q_) : P := h q
theorem laws_FnExactHeartbeat.b2_ {P Q : Prop} (q : Q) (h : Q → P := by intro q_; (with_reducible repeat (first | apply Kd.R_alloc | apply Kd.R_drewN | apply Kd.R_drew)); exact q_) : P := h q
theorem laws_FnExactHeartbeat.y1_ {P Q : Prop} (q : Q) (h : Q → P := by intro q_; repeat (first | (with_reducible first | exact q_ | apply below_alloc | apply pw_below_drewN | apply below_drew1) | exact q_)) : P := h q
theorem laws_FnExactHeartbeat.y2_ {P Q : Prop} (q : Q) (h : Q → P := by intro q_; repeat (first | exact q_ | (with_reducible refine Kd.C_alloc ?_ _) | (with_reducible refine Kd.C_drewN ?_ _) | (with_reducible refine Kd.C_drew ?_))) : P := h q
theorem laws_FnExactHeartbeat.b3_ {w w1 W : World} {g : Nat} {o : Obj} (q : Aside0 (w.heap[g]? = some o)) (hb : Below W.heap.size W w1) (h : w.heap[g]? = some o → W.heap[g]? = some o := by intro q_; (with_reducible repeat (first | refine blk_drewN ?_ _ | refine blk_drew ?_ | refine blk_alloc ?_ _)); exact q_) : Aside0 (w1.heap[g]? = some o) := ⟨blk_below (h q.out) hb⟩
theorem laws_FnExactHeartbeat.b4_ {w W : World} {g k : Nat} {o : Obj} (hg : k = W.heap.size) (q : Aside0 (w.heap[g]? = some o)) (h : w.heap[g]? = some o → W.heap[g]? = some o := by intro q_; (with_reducible repeat (first | refine blk_drewN ?_ _ | refine blk_drew ?_ | refine blk_alloc ?_ _)); exact q_) : Aside0 (g ≠ k) := ⟨by rw [hg]; exact Nat.ne_of_lt (blk_lt (h q.out))⟩
theorem laws_FnExactHeartbeat.b5_ {w W : World} {g k : Nat} {o : Obj} (hg : k = W.heap.size) (q : Aside0 (w.heap[g]? = some o)) (h : w.heap[g]? = some o → W.heap[g]? = some o := by intro q_; (with_reducible repeat (first | refine blk_drewN ?_ _ | refine blk_drew ?_ | refine blk_alloc ?_ _)); exact q_) : Aside0 (k ≠ g) := ⟨by rw [hg]; exact Nat.ne_of_gt (blk_lt (h q.out))⟩
theorem laws_FnExactHeartbeat.b6_ {w w' W : World} {k : Nat} (hg : k = W.heap.size) (q : Aside0 (Below w.heap.size w w')) (h : Below w.heap.size w w' → Below w.heap.size w W := by intro q_; repeat (first | (with_reducible first | exact q_ | apply below_alloc | apply pw_below_drewN | apply below_drew1) | exact q_)) : Aside0 (w.heap.size ≤ k) := ⟨by rw [hg]; exact below_size (h q.out)⟩
theorem laws_FnExactHeartbeat.bx_ {P : Program} {ops : Array Oper} {rest : List Oper} {o : Oper} {a : Act} {Q : Exit → Act → World → Prop} {W : World} (N : Tmp) (cs : Array Value) (t : TypeId) (h : ∀ g, g = W.heap.size → ∀ w1, w1.heap[g]? = some (.cells cs t (0, 0)) → Below W.heap.size W w1 → wpList P ops Q rest (a.put o.dst (.pointer (some ⟨g, 0, none⟩))) w1) (hgd : o.guard = none := by rfl) (hd : o.dst = some N := by rfl) (hrun : (execOp a.eval o).run P W = .ok (.value (.pointer (some ⟨W.heap.size, 0, none⟩))) (W.alloc (.cells cs t (0, 0))) := by first | (go_simp; done) | (go_simp; rfl)) : wpList P ops Q (o :: rest) a W := box_event hgd hd hrun h
theorem laws_FnExactHeartbeat.c1_ {w : World} {g : Nat} {t : TypeId} {cs : Array Value} (q : Aside0 (w.heap[g]? = some (.cells cs t (0, 0)))) (i : Nat) (v : Value) (h : cs[i]? = some v := by rfl) : w.cell? ⟨g, i, none⟩ = some v := (blk_cell q.out i).trans h
theorem laws_FnExactHeartbeat.f1_ {w : World} {g : Nat} {t : TypeId} {cs : Array Value} (q : Aside0 (w.heap[g]? = some (.cells cs t (0, 0)))) (i : Nat) : w.frozen? ⟨g, i, none⟩ = false := blk_frozen q.out i
theorem laws_FnExactHeartbeat.r1_ {α : Type} {d : Kd α} {e base : Nat} {ok : Nat → Prop} {v : Value} {xs : List α} {w W w1 : World} (q : Aside0 (d.R e w base ok v xs)) (hb : Below W.heap.size W w1) (h : d.R e w base ok v xs → d.R e W base ok v xs := by intro q_; (with_reducible repeat (first | apply Kd.R_alloc | apply Kd.R_drewN | apply Kd.R_drew)); exact q_) : Aside0 (d.R e w1 base ok v xs) := ⟨Kd.R_below (h q.out) hb⟩
mutual
def laws_FnExactHeartbeat.j0 : Nat → Int → Int → Int → Bool → Bool → Bool → List (S108) → List (S108) → List (S110) → List (S63) → List (S63) → List (S73) → List (S63) → List (S63) → List (S73) → List (S63) → List (S63) → List (S73) → Option (Bool)
  | 0, _, _, _, _, _, _, _, _, _, _, _, _, _, _, _, _, _, _ => none
  | k + 1, x1, x2, x3, x11, x14, x52, x332000, x332001, x332002, x353000, x353001, x353002, x363000, x363001, x363002, x374000, x374001, x374002 => if x52 = true then (some false) else ((laws_toPresence.f k x332000 x332001 x332002).bind fun bt375 => ((laws_eqPresence.f k x363000 x363001 x363002 bt375.1 bt375.2.1 bt375.2.2).bind fun t384 => (if t384 = true then ((laws_markPresence.f k x363000 x363001 x363002 1).bind fun bt385 => (if bt385.1 < 0 then (laws_FnExactHeartbeat.j1 k x1 x2 x3 x11 true x332000 x332001 x332002 x353000 x353001 x353002 x374000 x374001 x374002) else ((laws_eqPresence.f k x374000 x374001 x374002 x353000 x353001 x353002).bind fun t389 => (if t389 = true then (laws_FnExactHeartbeat.j1 k x1 x2 x3 x11 (x14 != x11) x332000 x332001 x332002 x353000 x353001 x353002 x374000 x374001 x374002) else (laws_FnExactHeartbeat.j1 k x1 x2 x3 x11 true x332000 x332001 x332002 x353000 x353001 x353002 x374000 x374001 x374002))))) else (some false))))
def laws_FnExactHeartbeat.j1 : Nat → Int → Int → Int → Bool → Bool → List (S108) → List (S108) → List (S110) → List (S63) → List (S63) → List (S73) → List (S63) → List (S63) → List (S73) → Option (Bool)
  | 0, _, _, _, _, _, _, _, _, _, _, _, _, _, _ => none
  | k + 1, x1, x2, x3, x11, x73, x332000, x332001, x332002, x353000, x353001, x353002, x374000, x374001, x374002 => if x73 = true then (some false) else ((laws_markPresence.f k x374000 x374001 x374002 1).bind fun bt390 => ((laws_heldPresence.f k bt390.2.1 bt390.2.2.1 bt390.2.2.2 1).bind fun t394 => (if t394 < 0 then (some false) else (if t394 = bt390.1 then ((laws_toPresence.f k x332000 x332001 x332002).bind fun bt395 => ((impl_Heartbeat.f k bt395.1 bt395.2.1 bt395.2.2 x1 x2 x3).bind fun bt404 => ((laws_eqPresence.f k bt404.1 bt404.2.1 bt404.2.2.1 x353000 x353001 x353002).bind fun t415 => (if t415 = true then (laws_FnExactHeartbeat.j2 k bt390.1 (bt404.2.2.2 != x11) bt390.2.1 bt390.2.2.1 bt390.2.2.2) else (laws_FnExactHeartbeat.j2 k bt390.1 true bt390.2.1 bt390.2.2.1 bt390.2.2.2))))) else (some false)))))
def laws_FnExactHeartbeat.j2 : Nat → Int → Bool → List (S63) → List (S63) → List (S73) → Option (Bool)
  | 0, _, _, _, _, _ => none
  | k + 1, x16, x102, x374000, x374001, x374002 => if x102 = true then (some false) else ((laws_heldPresence.f k x374000 x374001 x374002 1).bind fun t416 => (if t416 < 0 then (some false) else (if t416 = x16 then (some true) else (some false))))
end
def laws_FnExactHeartbeat.f (k : Nat) (l0_0 : List (S108)) (l0_1 : List (S108)) (l0_2 : List (S110)) (a1 : Int) (a2 : Int) (a3 : Int) : Option (Bool) := (laws_szPresence.f l0_0 l0_1 l0_2 1048576).bind fun t332 => (if t332 < 0 then (some true) else ((laws_toPresence.f k l0_0 l0_1 l0_2).bind fun bt333 => ((spec_Heartbeat.f k bt333.1 bt333.2.1 bt333.2.2 a1 a2 a3).bind fun bt342 => ((laws_toPresence.f k l0_0 l0_1 l0_2).bind fun bt353 => ((impl_Heartbeat.f k bt353.1 bt353.2.1 bt353.2.2 a1 a2 a3).bind fun bt363 => ((laws_eqPresence.f k bt363.1 bt363.2.1 bt363.2.2.1 bt342.1 bt342.2.1 bt342.2.2.1).bind fun t374 => (if t374 = true then (laws_FnExactHeartbeat.j0 k a1 a2 a3 bt342.2.2.2 bt363.2.2.2 (bt363.2.2.2 != bt342.2.2.2) l0_0 l0_1 l0_2 bt342.1 bt342.2.1 bt342.2.2.1 bt353.1 bt353.2.1 bt353.2.2 bt363.1 bt363.2.1 bt363.2.2.1) else (laws_FnExactHeartbeat.j0 k a1 a2 a3 bt342.2.2.2 bt363.2.2.2 true l0_0 l0_1 l0_2 bt342.1 bt342.2.1 bt342.2.2.1 bt353.1 bt353.2.1 bt353.2.2 bt363.1 bt363.2.1 bt363.2.2.1))))))))
theorem laws_FnExactHeartbeat.mono_l : ∀ k, (∀ y0 y1 y2 y3 y4 y5 y6 y7 y8 y9 y10 y11 y12 y13 y14 y15 y16 y17, LeO (laws_FnExactHeartbeat.j0 k y0 y1 y2 y3 y4 y5 y6 y7 y8 y9 y10 y11 y12 y13 y14 y15 y16 y17) (laws_FnExactHeartbeat.j0 (k + 1) y0 y1 y2 y3 y4 y5 y6 y7 y8 y9 y10 y11 y12 y13 y14 y15 y16 y17)) ∧ (∀ y0 y1 y2 y3 y4 y5 y6 y7 y8 y9 y10 y11 y12 y13, LeO (laws_FnExactHeartbeat.j1 k y0 y1 y2 y3 y4 y5 y6 y7 y8 y9 y10 y11 y12 y13) (laws_FnExactHeartbeat.j1 (k + 1) y0 y1 y2 y3 y4 y5 y6 y7 y8 y9 y10 y11 y12 y13)) ∧ (∀ y0 y1 y2 y3 y4, LeO (laws_FnExactHeartbeat.j2 k y0 y1 y2 y3 y4) (laws_FnExactHeartbeat.j2 (k + 1) y0 y1 y2 y3 y4))
  | 0 => ⟨fun _ _ _ _ _ _ _ _ _ _ _ _ _ _ _ _ _ _ r h => by simp [laws_FnExactHeartbeat.j0] at h, fun _ _ _ _ _ _ _ _ _ _ _ _ _ _ r h => by simp [laws_FnExactHeartbeat.j1] at h, fun _ _ _ _ _ r h => by simp [laws_FnExactHeartbeat.j2] at h⟩
  | k + 1 => by
    obtain ⟨ih0, ih1, ih2⟩ := laws_FnExactHeartbeat.mono_l k
    refine ⟨?_, ?_, ?_⟩
    · intro y0 y1 y2 y3 y4 y5 y6 y7 y8 y9 y10 y11 y12 y13 y14 y15 y16 y17
      unfold laws_FnExactHeartbeat.j0
      repeat' first
      | (with_reducible exact ih0 _ _ _ _ _ _ _ _ _ _ _ _ _ _ _ _ _ _)
      | (with_reducible exact ih1 _ _ _ _ _ _ _ _ _ _ _ _ _ _)
      | (with_reducible exact ih2 _ _ _ _ _)
      | (with_reducible exact impl_Heartbeat.mono _ _ _ _ _ _ _)
      | (with_reducible exact laws_eqPresence.mono _ _ _ _ _ _ _)
      | (with_reducible exact laws_heldPresence.mono _ _ _ _ _)
      | (with_reducible exact laws_markPresence.mono _ _ _ _ _)
      | (with_reducible exact laws_toPresence.mono _ _ _ _)
      | (with_reducible exact spec_Heartbeat.mono _ _ _ _ _ _ _)
      | (with_reducible exact LeO.refl _)
      | (with_reducible exact LeO.none _)
      | (with_reducible refine LeO.ite ?_ ?_)
      | (with_reducible refine LeO.bind ?_ (fun _ => ?_))
      | exact ih0 _ _ _ _ _ _ _ _ _ _ _ _ _ _ _ _ _ _
      | exact ih1 _ _ _ _ _ _ _ _ _ _ _ _ _ _
      | exact ih2 _ _ _ _ _
      | exact impl_Heartbeat.mono _ _ _ _ _ _ _
      | exact laws_eqPresence.mono _ _ _ _ _ _ _
      | exact laws_heldPresence.mono _ _ _ _ _
      | exact laws_markPresence.mono _ _ _ _ _
      | exact laws_toPresence.mono _ _ _ _
      | exact spec_Heartbeat.mono _ _ _ _ _ _ _
      | exact LeO.none _
      | refine LeO.ite ?_ ?_
      | refine LeO.bind ?_ (fun _ => ?_)
    · intro y0 y1 y2 y3 y4 y5 y6 y7 y8 y9 y10 y11 y12 y13
      unfold laws_FnExactHeartbeat.j1
      repeat' first
      | (with_reducible exact ih0 _ _ _ _ _ _ _ _ _ _ _ _ _ _ _ _ _ _)
      | (with_reducible exact ih1 _ _ _ _ _ _ _ _ _ _ _ _ _ _)
      | (with_reducible exact ih2 _ _ _ _ _)
      | (with_reducible exact impl_Heartbeat.mono _ _ _ _ _ _ _)
      | (with_reducible exact laws_eqPresence.mono _ _ _ _ _ _ _)
      | (with_reducible exact laws_heldPresence.mono _ _ _ _ _)
      | (with_reducible exact laws_markPresence.mono _ _ _ _ _)
      | (with_reducible exact laws_toPresence.mono _ _ _ _)
      | (with_reducible exact spec_Heartbeat.mono _ _ _ _ _ _ _)
      | (with_reducible exact LeO.refl _)
      | (with_reducible exact LeO.none _)
      | (with_reducible refine LeO.ite ?_ ?_)
      | (with_reducible refine LeO.bind ?_ (fun _ => ?_))
      | exact ih0 _ _ _ _ _ _ _ _ _ _ _ _ _ _ _ _ _ _
      | exact ih1 _ _ _ _ _ _ _ _ _ _ _ _ _ _
      | exact ih2 _ _ _ _ _
      | exact impl_Heartbeat.mono _ _ _ _ _ _ _
      | exact laws_eqPresence.mono _ _ _ _ _ _ _
      | exact laws_heldPresence.mono _ _ _ _ _
      | exact laws_markPresence.mono _ _ _ _ _
      | exact laws_toPresence.mono _ _ _ _
      | exact spec_Heartbeat.mono _ _ _ _ _ _ _
      | exact LeO.none _
      | refine LeO.ite ?_ ?_
      | refine LeO.bind ?_ (fun _ => ?_)
    · intro y0 y1 y2 y3 y4
      unfold laws_FnExactHeartbeat.j2
      repeat' first
      | (with_reducible exact ih0 _ _ _ _ _ _ _ _ _ _ _ _ _ _ _ _ _ _)
      | (with_reducible exact ih1 _ _ _ _ _ _ _ _ _ _ _ _ _ _)
      | (with_reducible exact ih2 _ _ _ _ _)
      | (with_reducible exact impl_Heartbeat.mono _ _ _ _ _ _ _)
      | (with_reducible exact laws_eqPresence.mono _ _ _ _ _ _ _)
      | (with_reducible exact laws_heldPresence.mono _ _ _ _ _)
      | (with_reducible exact laws_markPresence.mono _ _ _ _ _)
      | (with_reducible exact laws_toPresence.mono _ _ _ _)
      | (with_reducible exact spec_Heartbeat.mono _ _ _ _ _ _ _)
      | (with_reducible exact LeO.refl _)
      | (with_reducible exact LeO.none _)
      | (with_reducible refine LeO.ite ?_ ?_)
      | (with_reducible refine LeO.bind ?_ (fun _ => ?_))
      | exact ih0 _ _ _ _ _ _ _ _ _ _ _ _ _ _ _ _ _ _
      | exact ih1 _ _ _ _ _ _ _ _ _ _ _ _ _ _
      | exact ih2 _ _ _ _ _
      | exact impl_Heartbeat.mono _ _ _ _ _ _ _
      | exact laws_eqPresence.mono _ _ _ _ _ _ _
      | exact laws_heldPresence.mono _ _ _ _ _
      | exact laws_markPresence.mono _ _ _ _ _
      | exact laws_toPresence.mono _ _ _ _
      | exact spec_Heartbeat.mono _ _ _ _ _ _ _
      | exact LeO.none _
      | refine LeO.ite ?_ ?_
      | refine LeO.bind ?_ (fun _ => ?_)
theorem laws_FnExactHeartbeat.mono : ∀ a0 a1 a2 a3 a4 a5 k, LeO (laws_FnExactHeartbeat.f k a0 a1 a2 a3 a4 a5) (laws_FnExactHeartbeat.f (k + 1) a0 a1 a2 a3 a4 a5) := by
  intro a0 a1 a2 a3 a4 a5 k
  obtain ⟨ih0, ih1, ih2⟩ := laws_FnExactHeartbeat.mono_l k
  unfold laws_FnExactHeartbeat.f
  repeat' first
      | (with_reducible exact ih0 _ _ _ _ _ _ _ _ _ _ _ _ _ _ _ _ _ _)
      | (with_reducible exact ih1 _ _ _ _ _ _ _ _ _ _ _ _ _ _)
      | (with_reducible exact ih2 _ _ _ _ _)
      | (with_reducible exact impl_Heartbeat.mono _ _ _ _ _ _ _)
      | (with_reducible exact laws_eqPresence.mono _ _ _ _ _ _ _)
      | (with_reducible exact laws_heldPresence.mono _ _ _ _ _)
      | (with_reducible exact laws_markPresence.mono _ _ _ _ _)
      | (with_reducible exact laws_toPresence.mono _ _ _ _)
      | (with_reducible exact spec_Heartbeat.mono _ _ _ _ _ _ _)
      | (with_reducible exact LeO.refl _)
      | (with_reducible exact LeO.none _)
      | (with_reducible refine LeO.ite ?_ ?_)
      | (with_reducible refine LeO.bind ?_ (fun _ => ?_))
      | exact ih0 _ _ _ _ _ _ _ _ _ _ _ _ _ _ _ _ _ _
      | exact ih1 _ _ _ _ _ _ _ _ _ _ _ _ _ _
      | exact ih2 _ _ _ _ _
      | exact impl_Heartbeat.mono _ _ _ _ _ _ _
      | exact laws_eqPresence.mono _ _ _ _ _ _ _
      | exact laws_heldPresence.mono _ _ _ _ _
      | exact laws_markPresence.mono _ _ _ _ _
      | exact laws_toPresence.mono _ _ _ _
      | exact spec_Heartbeat.mono _ _ _ _ _ _ _
      | exact LeO.none _
      | refine LeO.ite ?_ ?_
      | refine LeO.bind ?_ (fun _ => ?_)
set_option maxHeartbeats 40000000 in
set_option maxRecDepth 100000 in
theorem laws_FnExactHeartbeat.calls (k : Nat) (A0_0 : Option Addr) (c0_0 : Nat) (l0_0 : List (S108)) (A0_1 : Option Addr) (c0_1 : Nat) (l0_1 : List (S108)) (A0_2 : Option Addr) (c0_2 : Nat) (l0_2 : List (S110)) (a1 : Int) (a2 : Int) (a3 : Int) (r : Bool) (w : World) (hr0_0 : Kd.C k108 w A0_0 l0_0.length l0_0) (hc0_0 : l0_0.length ≤ c0_0) (hr0_1 : Kd.C k108 w A0_1 l0_1.length l0_1) (hc0_1 : l0_1.length ≤ c0_1) (hr0_2 : Kd.C k110 w A0_2 l0_2.length l0_2) (hc0_2 : l0_2.length ≤ c0_2) (h : laws_FnExactHeartbeat.f k l0_0 l0_1 l0_2 a1 a2 a3 = some r) :
    Calls Try.prog 6 #[.agg #[.slice A0_0 l0_0.length c0_0, .slice A0_1 l0_1.length c0_1, .slice A0_2 l0_2.length c0_2], .int .i64 a1, .int .i64 a2, .int .i64 a3] w fun e w' => e = .returned (.bool r) ∧ Below w.heap.size w w' := by
 have hu45 := Try.underlying45
 have hu27 := Try.underlying27
 have HR0_0 := Aside0.mk hr0_0
 have HC0_0 := Aside0.mk hc0_0
 clear hr0_0 hc0_0
 have HR0_1 := Aside0.mk hr0_1
 have HC0_1 := Aside0.mk hc0_1
 clear hr0_1 hc0_1
 have HR0_2 := Aside0.mk hr0_2
 have HC0_2 := Aside0.mk hc0_2
 clear hr0_2 hc0_2
 have HB := Aside0.mk (Below.refl w.heap.size w)
 have H : ((laws_szPresence.f l0_0 l0_1 l0_2 1048576).bind fun t332 => (if t332 < 0 then (some true) else ((laws_toPresence.f k l0_0 l0_1 l0_2).bind fun bt333 => ((spec_Heartbeat.f k bt333.1 bt333.2.1 bt333.2.2 a1 a2 a3).bind fun bt342 => ((laws_toPresence.f k l0_0 l0_1 l0_2).bind fun bt353 => ((impl_Heartbeat.f k bt353.1 bt353.2.1 bt353.2.2 a1 a2 a3).bind fun bt363 => ((laws_eqPresence.f k bt363.1 bt363.2.1 bt363.2.2.1 bt342.1 bt342.2.1 bt342.2.2.1).bind fun t374 => (if t374 = true then (laws_FnExactHeartbeat.j0 k a1 a2 a3 bt342.2.2.2 bt363.2.2.2 (bt363.2.2.2 != bt342.2.2.2) l0_0 l0_1 l0_2 bt342.1 bt342.2.1 bt342.2.2.1 bt353.1 bt353.2.1 bt353.2.2 bt363.1 bt363.2.1 bt363.2.2.1) else (laws_FnExactHeartbeat.j0 k a1 a2 a3 bt342.2.2.2 bt363.2.2.2 true l0_0 l0_1 l0_2 bt342.1 bt342.2.1 bt342.2.2.1 bt353.1 bt353.2.1 bt353.2.2 bt363.1 bt363.2.1 bt363.2.2.1))))))))) = some r := h
 clear h
 replace H := Option.bind_eq_some_iff.mp H
 obtain ⟨t332, A50, H⟩ := H
 replace H : (if t332 < 0 then (some true) else ((laws_toPresence.f k l0_0 l0_1 l0_2).bind fun bt333 => ((spec_Heartbeat.f k bt333.1 bt333.2.1 bt333.2.2 a1 a2 a3).bind fun bt342 => ((laws_toPresence.f k l0_0 l0_1 l0_2).bind fun bt353 => ((impl_Heartbeat.f k bt353.1 bt353.2.1 bt353.2.2 a1 a2 a3).bind fun bt363 => ((laws_eqPresence.f k bt363.1 bt363.2.1 bt363.2.2.1 bt342.1 bt342.2.1 bt342.2.2.1).bind fun t374 => (if t374 = true then (laws_FnExactHeartbeat.j0 k a1 a2 a3 bt342.2.2.2 bt363.2.2.2 (bt363.2.2.2 != bt342.2.2.2) l0_0 l0_1 l0_2 bt342.1 bt342.2.1 bt342.2.2.1 bt353.1 bt353.2.1 bt353.2.2 bt363.1 bt363.2.1 bt363.2.2.1) else (laws_FnExactHeartbeat.j0 k a1 a2 a3 bt342.2.2.2 bt363.2.2.2 true l0_0 l0_1 l0_2 bt342.1 bt342.2.1 bt342.2.2.1 bt353.1 bt353.2.1 bt353.2.2 bt363.1 bt363.2.1 bt363.2.2.1)))))))) = some r := H
 have A5 := Aside0.mk A50
 clear A50
 by_cases c6 : t332 < 0
 {
 rw [if_pos c6] at H
 have c6b0 : decide (t332 < 0) = true := decide_eq_true c6
 clear c6
 obtain rfl := Option.some.inj H
 go_enter Try.func6, Try.ntmps6
 go_wp2_with (first | ((with_reducible refine gate_dst (N := 4) rfl ?_); refine bx_ 4 #[.slice A0_0 l0_0.length c0_0, .slice A0_1 l0_1.length c0_1, .slice A0_2 l0_2.length c0_2] 45 ?_; intro gb331 hg w7 hbox hb; have GW331 := b6_ hg HB; have GE331 := b6_ hg HB; replace HB := Aside0.mk (below_step (y1_ HB.out) hb); have BK331 := Aside0.mk (hbox); clear hb hbox hg; have hcz8_0 := c1_ BK331 0 (.slice A0_0 l0_0.length c0_0); have hcz8_1 := c1_ BK331 1 (.slice A0_1 l0_1.length c0_1); have hcz8_2 := c1_ BK331 2 (.slice A0_2 l0_2.length c0_2); have hfz8_0 := f1_ BK331 0; have hfz8_1 := f1_ BK331 1; have hfz8_2 := f1_ BK331 2) | ((with_reducible refine gate_callee (f := 24) rfl ?_); refine goesL_ (some 22) rfl rfl Try.func24 s2_ rfl #[.agg #[.slice A0_0 l0_0.length c0_0, .slice A0_1 l0_1.length c0_1, .slice A0_2 l0_2.length c0_2], .int .i64 1048576] rfl s3_ ?_; (with_reducible refine (laws_szPresence.calls _ _ l0_0 _ _ l0_1 _ _ l0_2 1048576 t332 _ ?side1 ?side2 ?side3 ?side4 ?side5 ?side6 A5.out).mono ?_); (case side1 => exact y2_ (Kd.C_below HR0_0.out HB.out)); (case side2 => exact HC0_0.out); (case side3 => exact y2_ (Kd.C_below HR0_1.out HB.out)); (case side4 => exact HC0_1.out); (case side5 => exact y2_ (Kd.C_below HR0_2.out HB.out)); (case side6 => exact HC0_2.out); rintro e w9 ⟨rfl, hb⟩; refine ⟨_, rfl, ?_⟩; replace BK331 := b3_ BK331 hb; replace HB := Aside0.mk (below_step (y1_ HB.out) hb); (try clear hb); (try clear hb2); (try clear hk); (try clear hi)))
 go_ret
 exact ⟨by first | rfl | (simp [errW_none, errW_some] <;> rfl) | (simp [*, errW_none, errW_some] <;> rfl), by repeat (first | (with_reducible first | exact HB.out | apply below_alloc | apply pw_below_drewN | apply below_drew1) | exact HB.out)⟩}
 {
 rw [if_neg c6] at H
 have c6b0 : decide (t332 < 0) = false := decide_eq_false c6
 clear c6
 replace H := Option.bind_eq_some_iff.mp H
 obtain ⟨⟨t333, t336, t339⟩, A100, H⟩ := H
 replace H : ((spec_Heartbeat.f k t333 t336 t339 a1 a2 a3).bind fun bt342 => ((laws_toPresence.f k l0_0 l0_1 l0_2).bind fun bt353 => ((impl_Heartbeat.f k bt353.1 bt353.2.1 bt353.2.2 a1 a2 a3).bind fun bt363 => ((laws_eqPresence.f k bt363.1 bt363.2.1 bt363.2.2.1 bt342.1 bt342.2.1 bt342.2.2.1).bind fun t374 => (if t374 = true then (laws_FnExactHeartbeat.j0 k a1 a2 a3 bt342.2.2.2 bt363.2.2.2 (bt363.2.2.2 != bt342.2.2.2) l0_0 l0_1 l0_2 bt342.1 bt342.2.1 bt342.2.2.1 bt353.1 bt353.2.1 bt353.2.2 bt363.1 bt363.2.1 bt363.2.2.1) else (laws_FnExactHeartbeat.j0 k a1 a2 a3 bt342.2.2.2 bt363.2.2.2 true l0_0 l0_1 l0_2 bt342.1 bt342.2.1 bt342.2.2.1 bt353.1 bt353.2.1 bt353.2.2 bt363.1 bt363.2.1 bt363.2.2.1)))))) = some r := H
 have A10 := Aside0.mk A100
 clear A100
 replace H := Option.bind_eq_some_iff.mp H
 obtain ⟨⟨t342, t345, t348, t351⟩, A110, H⟩ := H
 replace H : ((laws_toPresence.f k l0_0 l0_1 l0_2).bind fun bt353 => ((impl_Heartbeat.f k bt353.1 bt353.2.1 bt353.2.2 a1 a2 a3).bind fun bt363 => ((laws_eqPresence.f k bt363.1 bt363.2.1 bt363.2.2.1 t342 t345 t348).bind fun t374 => (if t374 = true then (laws_FnExactHeartbeat.j0 k a1 a2 a3 t351 bt363.2.2.2 (bt363.2.2.2 != t351) l0_0 l0_1 l0_2 t342 t345 t348 bt353.1 bt353.2.1 bt353.2.2 bt363.1 bt363.2.1 bt363.2.2.1) else (laws_FnExactHeartbeat.j0 k a1 a2 a3 t351 bt363.2.2.2 true l0_0 l0_1 l0_2 t342 t345 t348 bt353.1 bt353.2.1 bt353.2.2 bt363.1 bt363.2.1 bt363.2.2.1))))) = some r := H
 have A11 := Aside0.mk A110
 clear A110
 replace H := Option.bind_eq_some_iff.mp H
 obtain ⟨⟨t353, t356, t359⟩, A120, H⟩ := H
 replace H : ((impl_Heartbeat.f k t353 t356 t359 a1 a2 a3).bind fun bt363 => ((laws_eqPresence.f k bt363.1 bt363.2.1 bt363.2.2.1 t342 t345 t348).bind fun t374 => (if t374 = true then (laws_FnExactHeartbeat.j0 k a1 a2 a3 t351 bt363.2.2.2 (bt363.2.2.2 != t351) l0_0 l0_1 l0_2 t342 t345 t348 t353 t356 t359 bt363.1 bt363.2.1 bt363.2.2.1) else (laws_FnExactHeartbeat.j0 k a1 a2 a3 t351 bt363.2.2.2 true l0_0 l0_1 l0_2 t342 t345 t348 t353 t356 t359 bt363.1 bt363.2.1 bt363.2.2.1)))) = some r := H
 have A12 := Aside0.mk A120
 clear A120
 replace H := Option.bind_eq_some_iff.mp H
 obtain ⟨⟨t363, t366, t369, t372⟩, A130, H⟩ := H
 replace H : ((laws_eqPresence.f k t363 t366 t369 t342 t345 t348).bind fun t374 => (if t374 = true then (laws_FnExactHeartbeat.j0 k a1 a2 a3 t351 t372 (t372 != t351) l0_0 l0_1 l0_2 t342 t345 t348 t353 t356 t359 t363 t366 t369) else (laws_FnExactHeartbeat.j0 k a1 a2 a3 t351 t372 true l0_0 l0_1 l0_2 t342 t345 t348 t353 t356 t359 t363 t366 t369))) = some r := H
 have A13 := Aside0.mk A130
 clear A130
 have HC14 := Aside0.mk H
 clear H
 go_enter Try.func6, Try.ntmps6
 go_upto_region 8 with (first | ((with_reducible refine gate_dst (N := 4) rfl ?_); refine bx_ 4 #[.slice A0_0 l0_0.length c0_0, .slice A0_1 l0_1.length c0_1, .slice A0_2 l0_2.length c0_2] 45 ?_; intro gb331 hg w15 hbox hb; have GW331 := b6_ hg HB; have GE331 := b6_ hg HB; replace HB := Aside0.mk (below_step (y1_ HB.out) hb); have BK331 := Aside0.mk (hbox); clear hb hbox hg; have hcz16_0 := c1_ BK331 0 (.slice A0_0 l0_0.length c0_0); have hcz16_1 := c1_ BK331 1 (.slice A0_1 l0_1.length c0_1); have hcz16_2 := c1_ BK331 2 (.slice A0_2 l0_2.length c0_2); have hfz16_0 := f1_ BK331 0; have hfz16_1 := f1_ BK331 1; have hfz16_2 := f1_ BK331 2) | ((with_reducible refine gate_callee (f := 24) rfl ?_); refine goesL_ (some 22) rfl rfl Try.func24 s2_ rfl #[.agg #[.slice A0_0 l0_0.length c0_0, .slice A0_1 l0_1.length c0_1, .slice A0_2 l0_2.length c0_2], .int .i64 1048576] rfl s3_ ?_; (with_reducible refine (laws_szPresence.calls _ _ l0_0 _ _ l0_1 _ _ l0_2 1048576 t332 _ ?side1 ?side2 ?side3 ?side4 ?side5 ?side6 A5.out).mono ?_); (case side1 => exact y2_ (Kd.C_below HR0_0.out HB.out)); (case side2 => exact HC0_0.out); (case side3 => exact y2_ (Kd.C_below HR0_1.out HB.out)); (case side4 => exact HC0_1.out); (case side5 => exact y2_ (Kd.C_below HR0_2.out HB.out)); (case side6 => exact HC0_2.out); rintro e w17 ⟨rfl, hb⟩; refine ⟨_, rfl, ?_⟩; replace BK331 := b3_ BK331 hb; replace HB := Aside0.mk (below_step (y1_ HB.out) hb); (try clear hb); (try clear hb2); (try clear hk); (try clear hi); have hcz18_0 := c1_ BK331 0 (.slice A0_0 l0_0.length c0_0); have hcz18_1 := c1_ BK331 1 (.slice A0_1 l0_1.length c0_1); have hcz18_2 := c1_ BK331 2 (.slice A0_2 l0_2.length c0_2); have hfz18_0 := f1_ BK331 0; have hfz18_1 := f1_ BK331 1; have hfz18_2 := f1_ BK331 2) | ((with_reducible refine gate_callee (f := 26) rfl ?_); refine goesL_ (some 27) rfl rfl Try.func26 s2_ rfl #[.agg #[.slice A0_0 l0_0.length c0_0, .slice A0_1 l0_1.length c0_1, .slice A0_2 l0_2.length c0_2]] rfl s3_ ?_; (with_reducible refine (laws_toPresence.calls k _ _ l0_0 _ _ l0_1 _ _ l0_2 t333 t336 t339 _ ?side1 ?side2 ?side3 ?side4 ?side5 ?side6 A10.out).mono ?_); (case side1 => exact y2_ (Kd.C_below HR0_0.out HB.out)); (case side2 => exact HC0_0.out); (case side3 => exact y2_ (Kd.C_below HR0_1.out HB.out)); (case side4 => exact HC0_1.out); (case side5 => exact y2_ (Kd.C_below HR0_2.out HB.out)); (case side6 => exact HC0_2.out); rintro e w19 ⟨v334, v337, v340, rfl, ho0, ho1, ho2, hb⟩; refine ⟨_, rfl, ?_⟩; have HO335 := Aside0.mk (Kd.R_lower ho0 (below_size (y1_ HB.out))); have HO338 := Aside0.mk (Kd.R_lower ho1 (below_size (y1_ HB.out))); have HO341 := Aside0.mk (Kd.R_lower ho2 (below_size (y1_ HB.out))); replace BK331 := b3_ BK331 hb; replace HB := Aside0.mk (below_step (y1_ HB.out) hb); (try clear hb); (try clear hb2); (try clear hk); (try clear hi); (try clear ho0); (try clear ho1); (try clear ho2); obtain ⟨Ao20, co20, eo20⟩ := Kd.R_slice HO335.out; subst eo20; obtain ⟨Ao21, co21, eo21⟩ := Kd.R_slice HO338.out; subst eo21; obtain ⟨Ao22, co22, eo22⟩ := Kd.R_slice HO341.out; subst eo22) | ((with_reducible refine gate_callee (f := 32) rfl ?_); refine goesL_ (some 31) rfl rfl Try.func32 s2_ rfl #[.agg #[.slice Ao20 t333.length co20, .slice Ao21 t336.length co21, .slice Ao22 t339.length co22], .int .i64 a1, .int .i64 a2, .int .i64 a3] rfl s3_ ?_; (with_reducible refine (spec_Heartbeat.calls k _ _ t333 _ _ t336 _ _ t339 a1 a2 a3 t342 t345 t348 t351 _ ?side1 ?side2 ?side3 ?side4 ?side5 ?side6 A11.out).mono ?_); (case side1 => exact y2_ (Kd.R_reads' HO335.out).2.2); (case side2 => exact (Kd.R_reads' HO335.out).2.1); (case side3 => exact y2_ (Kd.R_reads' HO338.out).2.2); (case side4 => exact (Kd.R_reads' HO338.out).2.1); (case side5 => exact y2_ (Kd.R_reads' HO341.out).2.2); (case side6 => exact (Kd.R_reads' HO341.out).2.1); rintro e w23 ⟨v343, v346, v349, rfl, ho0, ho1, ho2, hb⟩; refine ⟨_, rfl, ?_⟩; have n0_ := Aside0.mk (Kd.R_mono (Kd.R_told (Kd.R_told (Kd.R_old (b2_ HO335.out) hb) (Kd.R_base ho0)) (Kd.R_base ho1)) (fun _ h_ => h_.1)); have n1_ := Aside0.mk (Kd.R_mono (Kd.R_told (Kd.R_told (Kd.R_old (b2_ HO338.out) hb) (Kd.R_base ho0)) (Kd.R_base ho1)) (fun _ h_ => h_.1)); have n2_ := Aside0.mk (Kd.R_elder' (b2_ HO341.out) (Kd.R_base ho2) hb); have n3_ := Aside0.mk (Kd.R_lower (Kd.R_new' (Kd.R_new' ho0 (Kd.R_lt (b2_ HO335.out))) (Kd.R_lt (b2_ HO338.out))) (below_size (y1_ HB.out))); have n4_ := Aside0.mk (Kd.R_lower (Kd.R_new' (Kd.R_new' ho1 (Kd.R_lt (b2_ HO335.out))) (Kd.R_lt (b2_ HO338.out))) (below_size (y1_ HB.out))); have n5_ := Aside0.mk (Kd.R_lower (Kd.R_new' ho2 (Kd.R_lt (b2_ HO341.out))) (below_size (y1_ HB.out))); have n6_ := b3_ BK331 hb; have n7_ := Aside0.mk (below_step (y1_ HB.out) hb); clear HO335; clear HO338; clear HO341; clear BK331; clear HB; have HO335 := n0_; have HO338 := n1_; have HO341 := n2_; have HO344 := n3_; have HO347 := n4_; have HO350 := n5_; have BK331 := n6_; have HB := n7_; clear n0_ n1_ n2_ n3_ n4_ n5_ n6_ n7_; (try clear hb); (try clear hb2); (try clear hk); (try clear hi); (try clear ho0); (try clear ho1); (try clear ho2)) | ((with_reducible refine gate_dst (N := 10) rfl ?_); refine bx_ 10 #[.slice none 0 0, .slice none 0 0, .slice none 0 0] 27 ?_; intro gb352 hg w24 hbox hb; have GW352 := b6_ hg HB; have GE352 := b6_ hg HB; have NB331_352 := b4_ hg BK331; have NB352_331 := b5_ hg BK331; replace HO335 := r1_ HO335 hb; replace HO338 := r1_ HO338 hb; replace HO341 := r1_ HO341 hb; replace HO344 := r1_ HO344 hb; replace HO347 := r1_ HO347 hb; replace HO350 := r1_ HO350 hb; replace BK331 := b3_ BK331 hb; replace HB := Aside0.mk (below_step (y1_ HB.out) hb); have BK352 := Aside0.mk (hbox); clear hb hbox hg; obtain ⟨Ao25, co25, eo25⟩ := Kd.R_slice HO344.out; subst eo25; have hnb26 := NB352_331.out; have hnc26 := NB331_352.out; have hcz27_0 := c1_ BK352 0 (.slice none 0 0); have hcz27_1 := c1_ BK352 1 (.slice none 0 0); have hcz27_2 := c1_ BK352 2 (.slice none 0 0); have hfz27_0 := f1_ BK352 0; have hfz27_1 := f1_ BK352 1; have hfz27_2 := f1_ BK352 2; obtain ⟨Ao28, co28, eo28⟩ := Kd.R_slice HO347.out; subst eo28; obtain ⟨Ao29, co29, eo29⟩ := Kd.R_slice HO350.out; subst eo29; have hcz30_0 := c1_ BK331 0 (.slice A0_0 l0_0.length c0_0); have hcz30_1 := c1_ BK331 1 (.slice A0_1 l0_1.length c0_1); have hcz30_2 := c1_ BK331 2 (.slice A0_2 l0_2.length c0_2); have hfz30_0 := f1_ BK331 0; have hfz30_1 := f1_ BK331 1; have hfz30_2 := f1_ BK331 2) | ((with_reducible refine gate_callee (f := 26) rfl ?_); refine goesL_ (some 35) rfl rfl Try.func26 s2_ rfl #[.agg #[.slice A0_0 l0_0.length c0_0, .slice A0_1 l0_1.length c0_1, .slice A0_2 l0_2.length c0_2]] rfl s3_ ?_; (with_reducible refine (laws_toPresence.calls k _ _ l0_0 _ _ l0_1 _ _ l0_2 t353 t356 t359 _ ?side1 ?side2 ?side3 ?side4 ?side5 ?side6 A12.out).mono ?_); (case side1 => exact Kd.C_below HR0_0.out (by repeat (first | (with_reducible first | exact HB.out | apply below_alloc | apply pw_below_drewN | apply below_drew1 | refine below_set ?_ GE352.out) | exact HB.out))); (case side2 => exact HC0_0.out); (case side3 => exact Kd.C_below HR0_1.out (by repeat (first | (with_reducible first | exact HB.out | apply below_alloc | apply pw_below_drewN | apply below_drew1 | refine below_set ?_ GE352.out) | exact HB.out))); (case side4 => exact HC0_1.out); (case side5 => exact Kd.C_below HR0_2.out (by repeat (first | (with_reducible first | exact HB.out | apply below_alloc | apply pw_below_drewN | apply below_drew1 | refine below_set ?_ GE352.out) | exact HB.out))); (case side6 => exact HC0_2.out); rintro e w31 ⟨v354, v357, v360, rfl, ho0, ho1, ho2, hb⟩; refine ⟨_, rfl, ?_⟩; have n0_ := Aside0.mk (Kd.R_mono (Kd.R_told (Kd.R_told (Kd.R_old (by (with_reducible repeat (first | apply Kd.R_alloc | apply Kd.R_drewN | apply Kd.R_drew)); exact (Kd.R_mono (Kd.R_far3 (g := gb352) (Kd.R_types HO335.out BK352.out (by decide)) (fun _ hk => hk.2)) (fun _ h_ => h_.1))) hb) (Kd.R_base ho0)) (Kd.R_base ho1)) (fun _ h_ => h_.1)); have n1_ := Aside0.mk (Kd.R_mono (Kd.R_told (Kd.R_told (Kd.R_old (by (with_reducible repeat (first | apply Kd.R_alloc | apply Kd.R_drewN | apply Kd.R_drew)); exact (Kd.R_mono (Kd.R_far3 (g := gb352) (Kd.R_types HO338.out BK352.out (by decide)) (fun _ hk => hk.2)) (fun _ h_ => h_.1))) hb) (Kd.R_base ho0)) (Kd.R_base ho1)) (fun _ h_ => h_.1)); have n2_ := Aside0.mk (Kd.R_elder' (by (with_reducible repeat (first | apply Kd.R_alloc | apply Kd.R_drewN | apply Kd.R_drew)); exact (Kd.R_mono (Kd.R_far3 (g := gb352) (Kd.R_types HO341.out BK352.out (by decide)) (fun _ hk => hk.2)) (fun _ h_ => h_.1))) (Kd.R_base ho2) hb); have n3_ := Aside0.mk (Kd.R_mono (Kd.R_told (Kd.R_told (Kd.R_old (by (with_reducible repeat (first | apply Kd.R_alloc | apply Kd.R_drewN | apply Kd.R_drew)); exact (Kd.R_mono (Kd.R_far3 (g := gb352) (Kd.R_types HO344.out BK352.out (by decide)) (fun _ hk => hk.2)) (fun _ h_ => h_.1))) hb) (Kd.R_base ho0)) (Kd.R_base ho1)) (fun _ h_ => h_.1)); have n4_ := Aside0.mk (Kd.R_mono (Kd.R_told (Kd.R_told (Kd.R_old (by (with_reducible repeat (first | apply Kd.R_alloc | apply Kd.R_drewN | apply Kd.R_drew)); exact (Kd.R_mono (Kd.R_far3 (g := gb352) (Kd.R_types HO347.out BK352.out (by decide)) (fun _ hk => hk.2)) (fun _ h_ => h_.1))) hb) (Kd.R_base ho0)) (Kd.R_base ho1)) (fun _ h_ => h_.1)); have n5_ := Aside0.mk (Kd.R_elder' (by (with_reducible repeat (first | apply Kd.R_alloc | apply Kd.R_drewN | apply Kd.R_drew)); exact (Kd.R_mono (Kd.R_far3 (g := gb352) (Kd.R_types HO350.out BK352.out (by decide)) (fun _ hk => hk.2)) (fun _ h_ => h_.1))) (Kd.R_base ho2) hb); have n6_ := Aside0.mk (Kd.R_lower (Kd.R_new' (Kd.R_new' (Kd.R_new' (Kd.R_new' ho0 (Kd.R_lt (by (with_reducible repeat (first | apply Kd.R_alloc | apply Kd.R_drewN | apply Kd.R_drew)); exact (Kd.R_mono (Kd.R_far3 (g := gb352) (Kd.R_types HO335.out BK352.out (by decide)) (fun _ hk => hk.2)) (fun _ h_ => h_.1))))) (Kd.R_lt (by (with_reducible repeat (first | apply Kd.R_alloc | apply Kd.R_drewN | apply Kd.R_drew)); exact (Kd.R_mono (Kd.R_far3 (g := gb352) (Kd.R_types HO338.out BK352.out (by decide)) (fun _ hk => hk.2)) (fun _ h_ => h_.1))))) (Kd.R_lt (by (with_reducible repeat (first | apply Kd.R_alloc | apply Kd.R_drewN | apply Kd.R_drew)); exact (Kd.R_mono (Kd.R_far3 (g := gb352) (Kd.R_types HO344.out BK352.out (by decide)) (fun _ hk => hk.2)) (fun _ h_ => h_.1))))) (Kd.R_lt (by (with_reducible repeat (first | apply Kd.R_alloc | apply Kd.R_drewN | apply Kd.R_drew)); exact (Kd.R_mono (Kd.R_far3 (g := gb352) (Kd.R_types HO347.out BK352.out (by decide)) (fun _ hk => hk.2)) (fun _ h_ => h_.1))))) (below_size (by repeat (first | (with_reducible first | exact HB.out | apply below_alloc | apply pw_below_drewN | apply below_drew1 | refine below_set ?_ GE352.out) | exact HB.out)))); have n7_ := Aside0.mk (Kd.R_lower (Kd.R_new' (Kd.R_new' (Kd.R_new' (Kd.R_new' ho1 (Kd.R_lt (by (with_reducible repeat (first | apply Kd.R_alloc | apply Kd.R_drewN | apply Kd.R_drew)); exact (Kd.R_mono (Kd.R_far3 (g := gb352) (Kd.R_types HO335.out BK352.out (by decide)) (fun _ hk => hk.2)) (fun _ h_ => h_.1))))) (Kd.R_lt (by (with_reducible repeat (first | apply Kd.R_alloc | apply Kd.R_drewN | apply Kd.R_drew)); exact (Kd.R_mono (Kd.R_far3 (g := gb352) (Kd.R_types HO338.out BK352.out (by decide)) (fun _ hk => hk.2)) (fun _ h_ => h_.1))))) (Kd.R_lt (by (with_reducible repeat (first | apply Kd.R_alloc | apply Kd.R_drewN | apply Kd.R_drew)); exact (Kd.R_mono (Kd.R_far3 (g := gb352) (Kd.R_types HO344.out BK352.out (by decide)) (fun _ hk => hk.2)) (fun _ h_ => h_.1))))) (Kd.R_lt (by (with_reducible repeat (first | apply Kd.R_alloc | apply Kd.R_drewN | apply Kd.R_drew)); exact (Kd.R_mono (Kd.R_far3 (g := gb352) (Kd.R_types HO347.out BK352.out (by decide)) (fun _ hk => hk.2)) (fun _ h_ => h_.1))))) (below_size (by repeat (first | (with_reducible first | exact HB.out | apply below_alloc | apply pw_below_drewN | apply below_drew1 | refine below_set ?_ GE352.out) | exact HB.out)))); have n8_ := Aside0.mk (Kd.R_lower (Kd.R_new' (Kd.R_new' ho2 (Kd.R_lt (by (with_reducible repeat (first | apply Kd.R_alloc | apply Kd.R_drewN | apply Kd.R_drew)); exact (Kd.R_mono (Kd.R_far3 (g := gb352) (Kd.R_types HO341.out BK352.out (by decide)) (fun _ hk => hk.2)) (fun _ h_ => h_.1))))) (Kd.R_lt (by (with_reducible repeat (first | apply Kd.R_alloc | apply Kd.R_drewN | apply Kd.R_drew)); exact (Kd.R_mono (Kd.R_far3 (g := gb352) (Kd.R_types HO350.out BK352.out (by decide)) (fun _ hk => hk.2)) (fun _ h_ => h_.1))))) (below_size (by repeat (first | (with_reducible first | exact HB.out | apply below_alloc | apply pw_below_drewN | apply below_drew1 | refine below_set ?_ GE352.out) | exact HB.out)))); have n9_ := Aside0.mk (blk_below (g := gb331) (o := .cells #[.slice A0_0 l0_0.length c0_0, .slice A0_1 l0_1.length c0_1, .slice A0_2 l0_2.length c0_2] 45 (0, 0)) (by (with_reducible repeat (first | refine blk_drewN ?_ _ | refine blk_drew ?_ | refine blk_alloc ?_ _)); refine blk_far3 ?_ NB331_352.out; (with_reducible repeat (first | refine blk_drewN ?_ _ | refine blk_drew ?_ | refine blk_alloc ?_ _)); exact BK331.out) hb); have n10_ := Aside0.mk (blk_below (g := gb352) (o := .cells #[.slice Ao25 t342.length co25, .slice Ao28 t345.length co28, .slice Ao29 t348.length co29] 27 (0, 0)) (by (with_reducible repeat (first | refine blk_drewN ?_ _ | refine blk_drew ?_ | refine blk_alloc ?_ _)); refine blk_put3 (cs := #[.slice none 0 0, .slice none 0 0, .slice none 0 0]) ?_ rfl; (with_reducible repeat (first | refine blk_drewN ?_ _ | refine blk_drew ?_ | refine blk_alloc ?_ _)); exact BK352.out) hb); have n11_ := Aside0.mk (below_step (by repeat (first | (with_reducible first | exact HB.out | apply below_alloc | apply pw_below_drewN | apply below_drew1 | refine below_set ?_ GE352.out) | exact HB.out)) hb); clear HO335; clear HO338; clear HO341; clear HO344; clear HO347; clear HO350; clear BK331; clear BK352; clear HB; have HO335 := n0_; have HO338 := n1_; have HO341 := n2_; have HO344 := n3_; have HO347 := n4_; have HO350 := n5_; have HO355 := n6_; have HO358 := n7_; have HO361 := n8_; have BK331 := n9_; have BK352 := n10_; have HB := n11_; clear n0_ n1_ n2_ n3_ n4_ n5_ n6_ n7_ n8_ n9_ n10_ n11_; (try clear hb); (try clear hb2); (try clear hk); (try clear hi); (try clear ho0); (try clear ho1); (try clear ho2)) | ((with_reducible refine gate_dst (N := 12) rfl ?_); refine bx_ 12 #[.slice none 0 0, .slice none 0 0, .slice none 0 0] 27 ?_; intro gb362 hg w32 hbox hb; have GW362 := b6_ hg HB; have GE362 := b6_ hg HB; have NB331_362 := b4_ hg BK331; have NB362_331 := b5_ hg BK331; have NB352_362 := b4_ hg BK352; have NB362_352 := b5_ hg BK352; replace HO335 := r1_ HO335 hb; replace HO338 := r1_ HO338 hb; replace HO341 := r1_ HO341 hb; replace HO344 := r1_ HO344 hb; replace HO347 := r1_ HO347 hb; replace HO350 := r1_ HO350 hb; replace HO355 := r1_ HO355 hb; replace HO358 := r1_ HO358 hb; replace HO361 := r1_ HO361 hb; replace BK331 := b3_ BK331 hb; replace BK352 := b3_ BK352 hb; replace HB := Aside0.mk (below_step (y1_ HB.out) hb); have BK362 := Aside0.mk (hbox); clear hb hbox hg; obtain ⟨Ao33, co33, eo33⟩ := Kd.R_slice HO355.out; subst eo33; have hnb34 := NB362_331.out; have hnc34 := NB331_362.out; have hnb35 := NB362_352.out; have hnc35 := NB352_362.out; have hcz36_0 := c1_ BK362 0 (.slice none 0 0); have hcz36_1 := c1_ BK362 1 (.slice none 0 0); have hcz36_2 := c1_ BK362 2 (.slice none 0 0); have hfz36_0 := f1_ BK362 0; have hfz36_1 := f1_ BK362 1; have hfz36_2 := f1_ BK362 2; obtain ⟨Ao37, co37, eo37⟩ := Kd.R_slice HO358.out; subst eo37; obtain ⟨Ao38, co38, eo38⟩ := Kd.R_slice HO361.out; subst eo38) | ((with_reducible refine gate_callee (f := 14) rfl ?_); refine goesL_ (some 41) rfl rfl Try.func14 s2_ rfl #[.agg #[.slice Ao33 t353.length co33, .slice Ao37 t356.length co37, .slice Ao38 t359.length co38], .int .i64 a1, .int .i64 a2, .int .i64 a3] rfl s3_ ?_; (with_reducible refine (impl_Heartbeat.calls k _ _ t353 _ _ t356 _ _ t359 a1 a2 a3 t363 t366 t369 t372 _ ?side1 ?side2 ?side3 ?side4 ?side5 ?side6 A13.out).mono ?_); (case side1 => refine (Kd.R_reads' (e := 63) (base := w.heap.size) (ok := fun k_ => ((((some k_ ≠ (.slice Ao37 t356.length co37 : Value).ownBlock ∧ some k_ ≠ (.slice Ao20 t333.length co20 : Value).ownBlock) ∧ some k_ ≠ (.slice Ao21 t336.length co21 : Value).ownBlock) ∧ some k_ ≠ (.slice Ao25 t342.length co25 : Value).ownBlock) ∧ some k_ ≠ (.slice Ao28 t345.length co28 : Value).ownBlock)) (n := t353.length) (c := co33) ?_).2.2; exact (by (with_reducible repeat (first | apply Kd.R_alloc | apply Kd.R_drewN | apply Kd.R_drew)); exact (Kd.R_mono (Kd.R_far3 (g := gb362) (Kd.R_types HO355.out BK362.out (by decide)) (fun _ hk => hk.2)) (fun _ h_ => h_.1)))); (case side2 => exact (Kd.R_reads' HO355.out).2.1); (case side3 => refine (Kd.R_reads' (e := 63) (base := w.heap.size) (ok := fun k_ => ((((some k_ ≠ (.slice Ao33 t353.length co33 : Value).ownBlock ∧ some k_ ≠ (.slice Ao20 t333.length co20 : Value).ownBlock) ∧ some k_ ≠ (.slice Ao21 t336.length co21 : Value).ownBlock) ∧ some k_ ≠ (.slice Ao25 t342.length co25 : Value).ownBlock) ∧ some k_ ≠ (.slice Ao28 t345.length co28 : Value).ownBlock)) (n := t356.length) (c := co37) ?_).2.2; exact (by (with_reducible repeat (first | apply Kd.R_alloc | apply Kd.R_drewN | apply Kd.R_drew)); exact (Kd.R_mono (Kd.R_far3 (g := gb362) (Kd.R_types HO358.out BK362.out (by decide)) (fun _ hk => hk.2)) (fun _ h_ => h_.1)))); (case side4 => exact (Kd.R_reads' HO358.out).2.1); (case side5 => refine (Kd.R_reads' (e := 73) (base := w.heap.size) (ok := fun k_ => ((True ∧ some k_ ≠ (.slice Ao22 t339.length co22 : Value).ownBlock) ∧ some k_ ≠ (.slice Ao29 t348.length co29 : Value).ownBlock)) (n := t359.length) (c := co38) ?_).2.2; exact (by (with_reducible repeat (first | apply Kd.R_alloc | apply Kd.R_drewN | apply Kd.R_drew)); exact (Kd.R_mono (Kd.R_far3 (g := gb362) (Kd.R_types HO361.out BK362.out (by decide)) (fun _ hk => hk.2)) (fun _ h_ => h_.1)))); (case side6 => exact (Kd.R_reads' HO361.out).2.1); rintro e w39 ⟨v364, v367, v370, rfl, ho0, ho1, ho2, hb⟩; refine ⟨_, rfl, ?_⟩; have n0_ := Aside0.mk (Kd.R_mono (Kd.R_told (Kd.R_told (Kd.R_old (by (with_reducible repeat (first | apply Kd.R_alloc | apply Kd.R_drewN | apply Kd.R_drew)); exact (Kd.R_mono (Kd.R_far3 (g := gb362) (Kd.R_types HO335.out BK362.out (by decide)) (fun _ hk => hk.2)) (fun _ h_ => h_.1))) hb) (Kd.R_base ho0)) (Kd.R_base ho1)) (fun _ h_ => h_.1)); have n1_ := Aside0.mk (Kd.R_mono (Kd.R_told (Kd.R_told (Kd.R_old (by (with_reducible repeat (first | apply Kd.R_alloc | apply Kd.R_drewN | apply Kd.R_drew)); exact (Kd.R_mono (Kd.R_far3 (g := gb362) (Kd.R_types HO338.out BK362.out (by decide)) (fun _ hk => hk.2)) (fun _ h_ => h_.1))) hb) (Kd.R_base ho0)) (Kd.R_base ho1)) (fun _ h_ => h_.1)); have n2_ := Aside0.mk (Kd.R_elder' (by (with_reducible repeat (first | apply Kd.R_alloc | apply Kd.R_drewN | apply Kd.R_drew)); exact (Kd.R_mono (Kd.R_far3 (g := gb362) (Kd.R_types HO341.out BK362.out (by decide)) (fun _ hk => hk.2)) (fun _ h_ => h_.1))) (Kd.R_base ho2) hb); have n3_ := Aside0.mk (Kd.R_mono (Kd.R_told (Kd.R_told (Kd.R_old (by (with_reducible repeat (first | apply Kd.R_alloc | apply Kd.R_drewN | apply Kd.R_drew)); exact (Kd.R_mono (Kd.R_far3 (g := gb362) (Kd.R_types HO344.out BK362.out (by decide)) (fun _ hk => hk.2)) (fun _ h_ => h_.1))) hb) (Kd.R_base ho0)) (Kd.R_base ho1)) (fun _ h_ => h_.1)); have n4_ := Aside0.mk (Kd.R_mono (Kd.R_told (Kd.R_told (Kd.R_old (by (with_reducible repeat (first | apply Kd.R_alloc | apply Kd.R_drewN | apply Kd.R_drew)); exact (Kd.R_mono (Kd.R_far3 (g := gb362) (Kd.R_types HO347.out BK362.out (by decide)) (fun _ hk => hk.2)) (fun _ h_ => h_.1))) hb) (Kd.R_base ho0)) (Kd.R_base ho1)) (fun _ h_ => h_.1)); have n5_ := Aside0.mk (Kd.R_elder' (by (with_reducible repeat (first | apply Kd.R_alloc | apply Kd.R_drewN | apply Kd.R_drew)); exact (Kd.R_mono (Kd.R_far3 (g := gb362) (Kd.R_types HO350.out BK362.out (by decide)) (fun _ hk => hk.2)) (fun _ h_ => h_.1))) (Kd.R_base ho2) hb); have n6_ := Aside0.mk (Kd.R_mono (Kd.R_told (Kd.R_told (Kd.R_old (by (with_reducible repeat (first | apply Kd.R_alloc | apply Kd.R_drewN | apply Kd.R_drew)); exact (Kd.R_mono (Kd.R_far3 (g := gb362) (Kd.R_types HO355.out BK362.out (by decide)) (fun _ hk => hk.2)) (fun _ h_ => h_.1))) hb) (Kd.R_base ho0)) (Kd.R_base ho1)) (fun _ h_ => h_.1)); have n7_ := Aside0.mk (Kd.R_mono (Kd.R_told (Kd.R_told (Kd.R_old (by (with_reducible repeat (first | apply Kd.R_alloc | apply Kd.R_drewN | apply Kd.R_drew)); exact (Kd.R_mono (Kd.R_far3 (g := gb362) (Kd.R_types HO358.out BK362.out (by decide)) (fun _ hk => hk.2)) (fun _ h_ => h_.1))) hb) (Kd.R_base ho0)) (Kd.R_base ho1)) (fun _ h_ => h_.1)); have n8_ := Aside0.mk (Kd.R_elder' (by (with_reducible repeat (first | apply Kd.R_alloc | apply Kd.R_drewN | apply Kd.R_drew)); exact (Kd.R_mono (Kd.R_far3 (g := gb362) (Kd.R_types HO361.out BK362.out (by decide)) (fun _ hk => hk.2)) (fun _ h_ => h_.1))) (Kd.R_base ho2) hb); have n9_ := Aside0.mk (Kd.R_lower (Kd.R_new' (Kd.R_new' (Kd.R_new' (Kd.R_new' (Kd.R_new' (Kd.R_new' ho0 (Kd.R_lt (by (with_reducible repeat (first | apply Kd.R_alloc | apply Kd.R_drewN | apply Kd.R_drew)); exact (Kd.R_mono (Kd.R_far3 (g := gb362) (Kd.R_types HO335.out BK362.out (by decide)) (fun _ hk => hk.2)) (fun _ h_ => h_.1))))) (Kd.R_lt (by (with_reducible repeat (first | apply Kd.R_alloc | apply Kd.R_drewN | apply Kd.R_drew)); exact (Kd.R_mono (Kd.R_far3 (g := gb362) (Kd.R_types HO338.out BK362.out (by decide)) (fun _ hk => hk.2)) (fun _ h_ => h_.1))))) (Kd.R_lt (by (with_reducible repeat (first | apply Kd.R_alloc | apply Kd.R_drewN | apply Kd.R_drew)); exact (Kd.R_mono (Kd.R_far3 (g := gb362) (Kd.R_types HO344.out BK362.out (by decide)) (fun _ hk => hk.2)) (fun _ h_ => h_.1))))) (Kd.R_lt (by (with_reducible repeat (first | apply Kd.R_alloc | apply Kd.R_drewN | apply Kd.R_drew)); exact (Kd.R_mono (Kd.R_far3 (g := gb362) (Kd.R_types HO347.out BK362.out (by decide)) (fun _ hk => hk.2)) (fun _ h_ => h_.1))))) (Kd.R_lt (by (with_reducible repeat (first | apply Kd.R_alloc | apply Kd.R_drewN | apply Kd.R_drew)); exact (Kd.R_mono (Kd.R_far3 (g := gb362) (Kd.R_types HO355.out BK362.out (by decide)) (fun _ hk => hk.2)) (fun _ h_ => h_.1))))) (Kd.R_lt (by (with_reducible repeat (first | apply Kd.R_alloc | apply Kd.R_drewN | apply Kd.R_drew)); exact (Kd.R_mono (Kd.R_far3 (g := gb362) (Kd.R_types HO358.out BK362.out (by decide)) (fun _ hk => hk.2)) (fun _ h_ => h_.1))))) (below_size (by repeat (first | (with_reducible first | exact HB.out | apply below_alloc | apply pw_below_drewN | apply below_drew1 | refine below_set ?_ GE362.out) | exact HB.out)))); have n10_ := Aside0.mk (Kd.R_lower (Kd.R_new' (Kd.R_new' (Kd.R_new' (Kd.R_new' (Kd.R_new' (Kd.R_new' ho1 (Kd.R_lt (by (with_reducible repeat (first | apply Kd.R_alloc | apply Kd.R_drewN | apply Kd.R_drew)); exact (Kd.R_mono (Kd.R_far3 (g := gb362) (Kd.R_types HO335.out BK362.out (by decide)) (fun _ hk => hk.2)) (fun _ h_ => h_.1))))) (Kd.R_lt (by (with_reducible repeat (first | apply Kd.R_alloc | apply Kd.R_drewN | apply Kd.R_drew)); exact (Kd.R_mono (Kd.R_far3 (g := gb362) (Kd.R_types HO338.out BK362.out (by decide)) (fun _ hk => hk.2)) (fun _ h_ => h_.1))))) (Kd.R_lt (by (with_reducible repeat (first | apply Kd.R_alloc | apply Kd.R_drewN | apply Kd.R_drew)); exact (Kd.R_mono (Kd.R_far3 (g := gb362) (Kd.R_types HO344.out BK362.out (by decide)) (fun _ hk => hk.2)) (fun _ h_ => h_.1))))) (Kd.R_lt (by (with_reducible repeat (first | apply Kd.R_alloc | apply Kd.R_drewN | apply Kd.R_drew)); exact (Kd.R_mono (Kd.R_far3 (g := gb362) (Kd.R_types HO347.out BK362.out (by decide)) (fun _ hk => hk.2)) (fun _ h_ => h_.1))))) (Kd.R_lt (by (with_reducible repeat (first | apply Kd.R_alloc | apply Kd.R_drewN | apply Kd.R_drew)); exact (Kd.R_mono (Kd.R_far3 (g := gb362) (Kd.R_types HO355.out BK362.out (by decide)) (fun _ hk => hk.2)) (fun _ h_ => h_.1))))) (Kd.R_lt (by (with_reducible repeat (first | apply Kd.R_alloc | apply Kd.R_drewN | apply Kd.R_drew)); exact (Kd.R_mono (Kd.R_far3 (g := gb362) (Kd.R_types HO358.out BK362.out (by decide)) (fun _ hk => hk.2)) (fun _ h_ => h_.1))))) (below_size (by repeat (first | (with_reducible first | exact HB.out | apply below_alloc | apply pw_below_drewN | apply below_drew1 | refine below_set ?_ GE362.out) | exact HB.out)))); have n11_ := Aside0.mk (Kd.R_lower (Kd.R_new' (Kd.R_new' (Kd.R_new' ho2 (Kd.R_lt (by (with_reducible repeat (first | apply Kd.R_alloc | apply Kd.R_drewN | apply Kd.R_drew)); exact (Kd.R_mono (Kd.R_far3 (g := gb362) (Kd.R_types HO341.out BK362.out (by decide)) (fun _ hk => hk.2)) (fun _ h_ => h_.1))))) (Kd.R_lt (by (with_reducible repeat (first | apply Kd.R_alloc | apply Kd.R_drewN | apply Kd.R_drew)); exact (Kd.R_mono (Kd.R_far3 (g := gb362) (Kd.R_types HO350.out BK362.out (by decide)) (fun _ hk => hk.2)) (fun _ h_ => h_.1))))) (Kd.R_lt (by (with_reducible repeat (first | apply Kd.R_alloc | apply Kd.R_drewN | apply Kd.R_drew)); exact (Kd.R_mono (Kd.R_far3 (g := gb362) (Kd.R_types HO361.out BK362.out (by decide)) (fun _ hk => hk.2)) (fun _ h_ => h_.1))))) (below_size (by repeat (first | (with_reducible first | exact HB.out | apply below_alloc | apply pw_below_drewN | apply below_drew1 | refine below_set ?_ GE362.out) | exact HB.out)))); have n12_ := Aside0.mk (blk_below (g := gb331) (o := .cells #[.slice A0_0 l0_0.length c0_0, .slice A0_1 l0_1.length c0_1, .slice A0_2 l0_2.length c0_2] 45 (0, 0)) (by (with_reducible repeat (first | refine blk_drewN ?_ _ | refine blk_drew ?_ | refine blk_alloc ?_ _)); refine blk_far3 ?_ NB331_362.out; (with_reducible repeat (first | refine blk_drewN ?_ _ | refine blk_drew ?_ | refine blk_alloc ?_ _)); exact BK331.out) hb); have n13_ := Aside0.mk (blk_below (g := gb352) (o := .cells #[.slice Ao25 t342.length co25, .slice Ao28 t345.length co28, .slice Ao29 t348.length co29] 27 (0, 0)) (by (with_reducible repeat (first | refine blk_drewN ?_ _ | refine blk_drew ?_ | refine blk_alloc ?_ _)); refine blk_far3 ?_ NB352_362.out; (with_reducible repeat (first | refine blk_drewN ?_ _ | refine blk_drew ?_ | refine blk_alloc ?_ _)); exact BK352.out) hb); have n14_ := Aside0.mk (blk_below (g := gb362) (o := .cells #[.slice Ao33 t353.length co33, .slice Ao37 t356.length co37, .slice Ao38 t359.length co38] 27 (0, 0)) (by (with_reducible repeat (first | refine blk_drewN ?_ _ | refine blk_drew ?_ | refine blk_alloc ?_ _)); refine blk_put3 (cs := #[.slice none 0 0, .slice none 0 0, .slice none 0 0]) ?_ rfl; (with_reducible repeat (first | refine blk_drewN ?_ _ | refine blk_drew ?_ | refine blk_alloc ?_ _)); exact BK362.out) hb); have n15_ := Aside0.mk (below_step (by repeat (first | (with_reducible first | exact HB.out | apply below_alloc | apply pw_below_drewN | apply below_drew1 | refine below_set ?_ GE362.out) | exact HB.out)) hb); clear HO335; clear HO338; clear HO341; clear HO344; clear HO347; clear HO350; clear HO355; clear HO358; clear HO361; clear BK331; clear BK352; clear BK362; clear HB; have HO335 := n0_; have HO338 := n1_; have HO341 := n2_; have HO344 := n3_; have HO347 := n4_; have HO350 := n5_; have HO355 := n6_; have HO358 := n7_; have HO361 := n8_; have HO365 := n9_; have HO368 := n10_; have HO371 := n11_; have BK331 := n12_; have BK352 := n13_; have BK362 := n14_; have HB := n15_; clear n0_ n1_ n2_ n3_ n4_ n5_ n6_ n7_ n8_ n9_ n10_ n11_ n12_ n13_ n14_ n15_; (try clear hb); (try clear hb2); (try clear hk); (try clear hi); (try clear ho0); (try clear ho1); (try clear ho2)) | ((with_reducible refine gate_dst (N := 13) rfl ?_); refine bx_ 13 #[.slice none 0 0, .slice none 0 0, .slice none 0 0] 27 ?_; intro gb373 hg w40 hbox hb; have GW373 := b6_ hg HB; have GE373 := b6_ hg HB; have NB331_373 := b4_ hg BK331; have NB373_331 := b5_ hg BK331; have NB352_373 := b4_ hg BK352; have NB373_352 := b5_ hg BK352; have NB362_373 := b4_ hg BK362; have NB373_362 := b5_ hg BK362; replace HO335 := r1_ HO335 hb; replace HO338 := r1_ HO338 hb; replace HO341 := r1_ HO341 hb; replace HO344 := r1_ HO344 hb; replace HO347 := r1_ HO347 hb; replace HO350 := r1_ HO350 hb; replace HO355 := r1_ HO355 hb; replace HO358 := r1_ HO358 hb; replace HO361 := r1_ HO361 hb; replace HO365 := r1_ HO365 hb; replace HO368 := r1_ HO368 hb; replace HO371 := r1_ HO371 hb; replace BK331 := b3_ BK331 hb; replace BK352 := b3_ BK352 hb; replace BK362 := b3_ BK362 hb; replace HB := Aside0.mk (below_step (y1_ HB.out) hb); have BK373 := Aside0.mk (hbox); clear hb hbox hg; obtain ⟨Ao41, co41, eo41⟩ := Kd.R_slice HO365.out; subst eo41; have hnb42 := NB373_331.out; have hnc42 := NB331_373.out; have hnb43 := NB373_352.out; have hnc43 := NB352_373.out; have hnb44 := NB373_362.out; have hnc44 := NB362_373.out; have hcz45_0 := c1_ BK373 0 (.slice none 0 0); have hcz45_1 := c1_ BK373 1 (.slice none 0 0); have hcz45_2 := c1_ BK373 2 (.slice none 0 0); have hfz45_0 := f1_ BK373 0; have hfz45_1 := f1_ BK373 1; have hfz45_2 := f1_ BK373 2; obtain ⟨Ao46, co46, eo46⟩ := Kd.R_slice HO368.out; subst eo46; obtain ⟨Ao47, co47, eo47⟩ := Kd.R_slice HO371.out; subst eo47))
 (try simp only [Act.put, List.setIfInBounds_toArray, List.set_cons_zero, List.set_cons_succ])
 go_cut [52] (fun v52 wc => ∃ (kq : Nat) (x52_13 : Bool), v52 = .bool x52_13 ∧ Aside0 (laws_FnExactHeartbeat.j0 kq a1 a2 a3 t351 t372 x52_13 l0_0 l0_1 l0_2 t342 t345 t348 t353 t356 t359 t363 t366 t369 = some r) ∧ Aside0 (kq ≤ k) ∧ Aside0 (Kd.R k63 63 wc w.heap.size (fun k_ => some k_ ≠ ((.slice Ao28 t345.length co28) : Value).ownBlock ∧ some k_ ≠ ((.slice Ao33 t353.length co33) : Value).ownBlock ∧ some k_ ≠ ((.slice Ao37 t356.length co37) : Value).ownBlock ∧ some k_ ≠ ((.slice Ao41 t363.length co41) : Value).ownBlock ∧ some k_ ≠ ((.slice Ao46 t366.length co46) : Value).ownBlock) (.slice Ao25 t342.length co25) t342) ∧ Aside0 (Kd.R k63 63 wc w.heap.size (fun k_ => some k_ ≠ ((.slice Ao25 t342.length co25) : Value).ownBlock ∧ some k_ ≠ ((.slice Ao33 t353.length co33) : Value).ownBlock ∧ some k_ ≠ ((.slice Ao37 t356.length co37) : Value).ownBlock ∧ some k_ ≠ ((.slice Ao41 t363.length co41) : Value).ownBlock ∧ some k_ ≠ ((.slice Ao46 t366.length co46) : Value).ownBlock) (.slice Ao28 t345.length co28) t345) ∧ Aside0 (Kd.R k73 73 wc w.heap.size (fun k_ => some k_ ≠ ((.slice Ao38 t359.length co38) : Value).ownBlock ∧ some k_ ≠ ((.slice Ao47 t369.length co47) : Value).ownBlock) (.slice Ao29 t348.length co29) t348) ∧ Aside0 (Kd.R k63 63 wc w.heap.size (fun k_ => some k_ ≠ ((.slice Ao25 t342.length co25) : Value).ownBlock ∧ some k_ ≠ ((.slice Ao28 t345.length co28) : Value).ownBlock ∧ some k_ ≠ ((.slice Ao37 t356.length co37) : Value).ownBlock ∧ some k_ ≠ ((.slice Ao41 t363.length co41) : Value).ownBlock ∧ some k_ ≠ ((.slice Ao46 t366.length co46) : Value).ownBlock) (.slice Ao33 t353.length co33) t353) ∧ Aside0 (Kd.R k63 63 wc w.heap.size (fun k_ => some k_ ≠ ((.slice Ao25 t342.length co25) : Value).ownBlock ∧ some k_ ≠ ((.slice Ao28 t345.length co28) : Value).ownBlock ∧ some k_ ≠ ((.slice Ao33 t353.length co33) : Value).ownBlock ∧ some k_ ≠ ((.slice Ao41 t363.length co41) : Value).ownBlock ∧ some k_ ≠ ((.slice Ao46 t366.length co46) : Value).ownBlock) (.slice Ao37 t356.length co37) t356) ∧ Aside0 (Kd.R k73 73 wc w.heap.size (fun k_ => some k_ ≠ ((.slice Ao29 t348.length co29) : Value).ownBlock ∧ some k_ ≠ ((.slice Ao47 t369.length co47) : Value).ownBlock) (.slice Ao38 t359.length co38) t359) ∧ Aside0 (Kd.R k63 63 wc w.heap.size (fun k_ => some k_ ≠ ((.slice Ao25 t342.length co25) : Value).ownBlock ∧ some k_ ≠ ((.slice Ao28 t345.length co28) : Value).ownBlock ∧ some k_ ≠ ((.slice Ao33 t353.length co33) : Value).ownBlock ∧ some k_ ≠ ((.slice Ao37 t356.length co37) : Value).ownBlock ∧ some k_ ≠ ((.slice Ao46 t366.length co46) : Value).ownBlock) (.slice Ao41 t363.length co41) t363) ∧ Aside0 (Kd.R k63 63 wc w.heap.size (fun k_ => some k_ ≠ ((.slice Ao25 t342.length co25) : Value).ownBlock ∧ some k_ ≠ ((.slice Ao28 t345.length co28) : Value).ownBlock ∧ some k_ ≠ ((.slice Ao33 t353.length co33) : Value).ownBlock ∧ some k_ ≠ ((.slice Ao37 t356.length co37) : Value).ownBlock ∧ some k_ ≠ ((.slice Ao41 t363.length co41) : Value).ownBlock) (.slice Ao46 t366.length co46) t366) ∧ Aside0 (Kd.R k73 73 wc w.heap.size (fun k_ => some k_ ≠ ((.slice Ao29 t348.length co29) : Value).ownBlock ∧ some k_ ≠ ((.slice Ao38 t359.length co38) : Value).ownBlock) (.slice Ao47 t369.length co47) t369) ∧ Aside0 (wc.heap[gb331]? = some (.cells #[(.slice A0_0 l0_0.length c0_0), (.slice A0_1 l0_1.length c0_1), (.slice A0_2 l0_2.length c0_2)] 45 (0, 0))) ∧ Aside0 (wc.heap[gb352]? = some (.cells #[(.slice Ao25 t342.length co25), (.slice Ao28 t345.length co28), (.slice Ao29 t348.length co29)] 27 (0, 0))) ∧ Aside0 (wc.heap[gb362]? = some (.cells #[(.slice Ao33 t353.length co33), (.slice Ao37 t356.length co37), (.slice Ao38 t359.length co38)] 27 (0, 0))) ∧ Aside0 (wc.heap[gb373]? = some (.cells #[(.slice Ao41 t363.length co41), (.slice Ao46 t366.length co46), (.slice Ao47 t369.length co47)] 27 (0, 0))) ∧ Aside0 (Below w.heap.size w wc))
 case first =>
  as_aux_lemma =>
   skip
   {
 have H := HC14.out
 clear HC14
 replace H := Option.bind_eq_some_iff.mp H
 obtain ⟨t374, A480, H⟩ := H
 replace H : (if t374 = true then (laws_FnExactHeartbeat.j0 k a1 a2 a3 t351 t372 (t372 != t351) l0_0 l0_1 l0_2 t342 t345 t348 t353 t356 t359 t363 t366 t369) else (laws_FnExactHeartbeat.j0 k a1 a2 a3 t351 t372 true l0_0 l0_1 l0_2 t342 t345 t348 t353 t356 t359 t363 t366 t369)) = some r := H
 have A48 := Aside0.mk A480
 clear A480
 by_cases c49 : t374 = true
 {
 subst c49
 have H1 : (laws_FnExactHeartbeat.j0 k a1 a2 a3 t351 t372 (t372 != t351) l0_0 l0_1 l0_2 t342 t345 t348 t353 t356 t359 t363 t366 t369) = some r := by rw [if_pos rfl] at H; exact H
 clear H
 have H := H1
 clear H1
 have H' := Aside0.mk H
 clear H
 have hnb50 := NB373_331.out
 have hnc50 := NB331_373.out
 have hnb51 := NB373_352.out
 have hnc51 := NB352_373.out
 have hnb52 := NB373_362.out
 have hnc52 := NB362_373.out
 have hcz53_0 := c1_ BK373 0 (.slice none 0 0)
 have hcz53_1 := c1_ BK373 1 (.slice none 0 0)
 have hcz53_2 := c1_ BK373 2 (.slice none 0 0)
 have hfz53_0 := f1_ BK373 0
 have hfz53_1 := f1_ BK373 1
 have hfz53_2 := f1_ BK373 2
 have hnb54 := NB352_331.out
 have hnc54 := NB331_352.out
 have hnb55 := NB352_362.out
 have hnc55 := NB362_352.out
 have hcz56_0 := c1_ BK352 0 (.slice Ao25 t342.length co25)
 have hcz56_1 := c1_ BK352 1 (.slice Ao28 t345.length co28)
 have hcz56_2 := c1_ BK352 2 (.slice Ao29 t348.length co29)
 have hfz56_0 := f1_ BK352 0
 have hfz56_1 := f1_ BK352 1
 have hfz56_2 := f1_ BK352 2
 go_wp2_with (first | ((with_reducible refine gate_callee (f := 27) rfl ?_); refine goesL_ (some 46) rfl rfl Try.func27 s2_ rfl #[.agg #[.slice Ao41 t363.length co41, .slice Ao46 t366.length co46, .slice Ao47 t369.length co47], .agg #[.slice Ao25 t342.length co25, .slice Ao28 t345.length co28, .slice Ao29 t348.length co29]] rfl s3_ ?_; (with_reducible refine (laws_eqPresence.calls k _ _ t363 _ _ t366 _ _ t369 _ _ t342 _ _ t345 _ _ t348 true _ ?side1 ?side2 ?side3 ?side4 ?side5 ?side6 ?side7 ?side8 ?side9 ?side10 ?side11 ?side12 A48.out).mono ?_); (case side1 => refine (Kd.R_reads' (e := 63) (base := w.heap.size) (ok := fun k_ => ((((((some k_ ≠ (.slice Ao46 t366.length co46 : Value).ownBlock ∧ some k_ ≠ (.slice Ao20 t333.length co20 : Value).ownBlock) ∧ some k_ ≠ (.slice Ao21 t336.length co21 : Value).ownBlock) ∧ some k_ ≠ (.slice Ao25 t342.length co25 : Value).ownBlock) ∧ some k_ ≠ (.slice Ao28 t345.length co28 : Value).ownBlock) ∧ some k_ ≠ (.slice Ao33 t353.length co33 : Value).ownBlock) ∧ some k_ ≠ (.slice Ao37 t356.length co37 : Value).ownBlock)) (n := t363.length) (c := co41) ?_).2.2; exact (by (with_reducible repeat (first | apply Kd.R_alloc | apply Kd.R_drewN | apply Kd.R_drew)); exact (Kd.R_mono (Kd.R_far3 (g := gb373) (Kd.R_types HO365.out BK373.out (by decide)) (fun _ hk => hk.2)) (fun _ h_ => h_.1)))); (case side2 => exact (Kd.R_reads' HO365.out).2.1); (case side3 => refine (Kd.R_reads' (e := 63) (base := w.heap.size) (ok := fun k_ => ((((((some k_ ≠ (.slice Ao41 t363.length co41 : Value).ownBlock ∧ some k_ ≠ (.slice Ao20 t333.length co20 : Value).ownBlock) ∧ some k_ ≠ (.slice Ao21 t336.length co21 : Value).ownBlock) ∧ some k_ ≠ (.slice Ao25 t342.length co25 : Value).ownBlock) ∧ some k_ ≠ (.slice Ao28 t345.length co28 : Value).ownBlock) ∧ some k_ ≠ (.slice Ao33 t353.length co33 : Value).ownBlock) ∧ some k_ ≠ (.slice Ao37 t356.length co37 : Value).ownBlock)) (n := t366.length) (c := co46) ?_).2.2; exact (by (with_reducible repeat (first | apply Kd.R_alloc | apply Kd.R_drewN | apply Kd.R_drew)); exact (Kd.R_mono (Kd.R_far3 (g := gb373) (Kd.R_types HO368.out BK373.out (by decide)) (fun _ hk => hk.2)) (fun _ h_ => h_.1)))); (case side4 => exact (Kd.R_reads' HO368.out).2.1); (case side5 => refine (Kd.R_reads' (e := 73) (base := w.heap.size) (ok := fun k_ => (((True ∧ some k_ ≠ (.slice Ao22 t339.length co22 : Value).ownBlock) ∧ some k_ ≠ (.slice Ao29 t348.length co29 : Value).ownBlock) ∧ some k_ ≠ (.slice Ao38 t359.length co38 : Value).ownBlock)) (n := t369.length) (c := co47) ?_).2.2; exact (by (with_reducible repeat (first | apply Kd.R_alloc | apply Kd.R_drewN | apply Kd.R_drew)); exact (Kd.R_mono (Kd.R_far3 (g := gb373) (Kd.R_types HO371.out BK373.out (by decide)) (fun _ hk => hk.2)) (fun _ h_ => h_.1)))); (case side6 => exact (Kd.R_reads' HO371.out).2.1); (case side7 => refine (Kd.R_reads' (e := 63) (base := w.heap.size) (ok := fun k_ => ((((((some k_ ≠ (.slice Ao28 t345.length co28 : Value).ownBlock ∧ some k_ ≠ (.slice Ao20 t333.length co20 : Value).ownBlock) ∧ some k_ ≠ (.slice Ao21 t336.length co21 : Value).ownBlock) ∧ some k_ ≠ (.slice Ao33 t353.length co33 : Value).ownBlock) ∧ some k_ ≠ (.slice Ao37 t356.length co37 : Value).ownBlock) ∧ some k_ ≠ (.slice Ao41 t363.length co41 : Value).ownBlock) ∧ some k_ ≠ (.slice Ao46 t366.length co46 : Value).ownBlock)) (n := t342.length) (c := co25) ?_).2.2; exact (by (with_reducible repeat (first | apply Kd.R_alloc | apply Kd.R_drewN | apply Kd.R_drew)); exact (Kd.R_mono (Kd.R_far3 (g := gb373) (Kd.R_types HO344.out BK373.out (by decide)) (fun _ hk => hk.2)) (fun _ h_ => h_.1)))); (case side8 => exact (Kd.R_reads' HO344.out).2.1); (case side9 => refine (Kd.R_reads' (e := 63) (base := w.heap.size) (ok := fun k_ => ((((((some k_ ≠ (.slice Ao25 t342.length co25 : Value).ownBlock ∧ some k_ ≠ (.slice Ao20 t333.length co20 : Value).ownBlock) ∧ some k_ ≠ (.slice Ao21 t336.length co21 : Value).ownBlock) ∧ some k_ ≠ (.slice Ao33 t353.length co33 : Value).ownBlock) ∧ some k_ ≠ (.slice Ao37 t356.length co37 : Value).ownBlock) ∧ some k_ ≠ (.slice Ao41 t363.length co41 : Value).ownBlock) ∧ some k_ ≠ (.slice Ao46 t366.length co46 : Value).ownBlock)) (n := t345.length) (c := co28) ?_).2.2; exact (by (with_reducible repeat (first | apply Kd.R_alloc | apply Kd.R_drewN | apply Kd.R_drew)); exact (Kd.R_mono (Kd.R_far3 (g := gb373) (Kd.R_types HO347.out BK373.out (by decide)) (fun _ hk => hk.2)) (fun _ h_ => h_.1)))); (case side10 => exact (Kd.R_reads' HO347.out).2.1); (case side11 => refine (Kd.R_reads' (e := 73) (base := w.heap.size) (ok := fun k_ => (((True ∧ some k_ ≠ (.slice Ao22 t339.length co22 : Value).ownBlock) ∧ some k_ ≠ (.slice Ao38 t359.length co38 : Value).ownBlock) ∧ some k_ ≠ (.slice Ao47 t369.length co47 : Value).ownBlock)) (n := t348.length) (c := co29) ?_).2.2; exact (by (with_reducible repeat (first | apply Kd.R_alloc | apply Kd.R_drewN | apply Kd.R_drew)); exact (Kd.R_mono (Kd.R_far3 (g := gb373) (Kd.R_types HO350.out BK373.out (by decide)) (fun _ hk => hk.2)) (fun _ h_ => h_.1)))); (case side12 => exact (Kd.R_reads' HO350.out).2.1); rintro e w57 ⟨rfl, hb⟩; refine ⟨_, rfl, ?_⟩; replace HO335 := Aside0.mk (Kd.R_below (by (with_reducible repeat (first | apply Kd.R_alloc | apply Kd.R_drewN | apply Kd.R_drew)); exact (Kd.R_mono (Kd.R_far3 (g := gb373) (Kd.R_types HO335.out BK373.out (by decide)) (fun _ hk => hk.2)) (fun _ h_ => h_.1))) hb); replace HO338 := Aside0.mk (Kd.R_below (by (with_reducible repeat (first | apply Kd.R_alloc | apply Kd.R_drewN | apply Kd.R_drew)); exact (Kd.R_mono (Kd.R_far3 (g := gb373) (Kd.R_types HO338.out BK373.out (by decide)) (fun _ hk => hk.2)) (fun _ h_ => h_.1))) hb); replace HO341 := Aside0.mk (Kd.R_below (by (with_reducible repeat (first | apply Kd.R_alloc | apply Kd.R_drewN | apply Kd.R_drew)); exact (Kd.R_mono (Kd.R_far3 (g := gb373) (Kd.R_types HO341.out BK373.out (by decide)) (fun _ hk => hk.2)) (fun _ h_ => h_.1))) hb); replace HO344 := Aside0.mk (Kd.R_below (by (with_reducible repeat (first | apply Kd.R_alloc | apply Kd.R_drewN | apply Kd.R_drew)); exact (Kd.R_mono (Kd.R_far3 (g := gb373) (Kd.R_types HO344.out BK373.out (by decide)) (fun _ hk => hk.2)) (fun _ h_ => h_.1))) hb); replace HO347 := Aside0.mk (Kd.R_below (by (with_reducible repeat (first | apply Kd.R_alloc | apply Kd.R_drewN | apply Kd.R_drew)); exact (Kd.R_mono (Kd.R_far3 (g := gb373) (Kd.R_types HO347.out BK373.out (by decide)) (fun _ hk => hk.2)) (fun _ h_ => h_.1))) hb); replace HO350 := Aside0.mk (Kd.R_below (by (with_reducible repeat (first | apply Kd.R_alloc | apply Kd.R_drewN | apply Kd.R_drew)); exact (Kd.R_mono (Kd.R_far3 (g := gb373) (Kd.R_types HO350.out BK373.out (by decide)) (fun _ hk => hk.2)) (fun _ h_ => h_.1))) hb); replace HO355 := Aside0.mk (Kd.R_below (by (with_reducible repeat (first | apply Kd.R_alloc | apply Kd.R_drewN | apply Kd.R_drew)); exact (Kd.R_mono (Kd.R_far3 (g := gb373) (Kd.R_types HO355.out BK373.out (by decide)) (fun _ hk => hk.2)) (fun _ h_ => h_.1))) hb); replace HO358 := Aside0.mk (Kd.R_below (by (with_reducible repeat (first | apply Kd.R_alloc | apply Kd.R_drewN | apply Kd.R_drew)); exact (Kd.R_mono (Kd.R_far3 (g := gb373) (Kd.R_types HO358.out BK373.out (by decide)) (fun _ hk => hk.2)) (fun _ h_ => h_.1))) hb); replace HO361 := Aside0.mk (Kd.R_below (by (with_reducible repeat (first | apply Kd.R_alloc | apply Kd.R_drewN | apply Kd.R_drew)); exact (Kd.R_mono (Kd.R_far3 (g := gb373) (Kd.R_types HO361.out BK373.out (by decide)) (fun _ hk => hk.2)) (fun _ h_ => h_.1))) hb); replace HO365 := Aside0.mk (Kd.R_below (by (with_reducible repeat (first | apply Kd.R_alloc | apply Kd.R_drewN | apply Kd.R_drew)); exact (Kd.R_mono (Kd.R_far3 (g := gb373) (Kd.R_types HO365.out BK373.out (by decide)) (fun _ hk => hk.2)) (fun _ h_ => h_.1))) hb); replace HO368 := Aside0.mk (Kd.R_below (by (with_reducible repeat (first | apply Kd.R_alloc | apply Kd.R_drewN | apply Kd.R_drew)); exact (Kd.R_mono (Kd.R_far3 (g := gb373) (Kd.R_types HO368.out BK373.out (by decide)) (fun _ hk => hk.2)) (fun _ h_ => h_.1))) hb); replace HO371 := Aside0.mk (Kd.R_below (by (with_reducible repeat (first | apply Kd.R_alloc | apply Kd.R_drewN | apply Kd.R_drew)); exact (Kd.R_mono (Kd.R_far3 (g := gb373) (Kd.R_types HO371.out BK373.out (by decide)) (fun _ hk => hk.2)) (fun _ h_ => h_.1))) hb); replace BK331 := Aside0.mk (blk_below (g := gb331) (o := .cells #[.slice A0_0 l0_0.length c0_0, .slice A0_1 l0_1.length c0_1, .slice A0_2 l0_2.length c0_2] 45 (0, 0)) (by (with_reducible repeat (first | refine blk_drewN ?_ _ | refine blk_drew ?_ | refine blk_alloc ?_ _)); refine blk_far3 ?_ NB331_373.out; (with_reducible repeat (first | refine blk_drewN ?_ _ | refine blk_drew ?_ | refine blk_alloc ?_ _)); exact BK331.out) hb); replace BK352 := Aside0.mk (blk_below (g := gb352) (o := .cells #[.slice Ao25 t342.length co25, .slice Ao28 t345.length co28, .slice Ao29 t348.length co29] 27 (0, 0)) (by (with_reducible repeat (first | refine blk_drewN ?_ _ | refine blk_drew ?_ | refine blk_alloc ?_ _)); refine blk_far3 ?_ NB352_373.out; (with_reducible repeat (first | refine blk_drewN ?_ _ | refine blk_drew ?_ | refine blk_alloc ?_ _)); exact BK352.out) hb); replace BK362 := Aside0.mk (blk_below (g := gb362) (o := .cells #[.slice Ao33 t353.length co33, .slice Ao37 t356.length co37, .slice Ao38 t359.length co38] 27 (0, 0)) (by (with_reducible repeat (first | refine blk_drewN ?_ _ | refine blk_drew ?_ | refine blk_alloc ?_ _)); refine blk_far3 ?_ NB362_373.out; (with_reducible repeat (first | refine blk_drewN ?_ _ | refine blk_drew ?_ | refine blk_alloc ?_ _)); exact BK362.out) hb); replace BK373 := Aside0.mk (blk_below (g := gb373) (o := .cells #[.slice Ao41 t363.length co41, .slice Ao46 t366.length co46, .slice Ao47 t369.length co47] 27 (0, 0)) (by (with_reducible repeat (first | refine blk_drewN ?_ _ | refine blk_drew ?_ | refine blk_alloc ?_ _)); refine blk_put3 (cs := #[.slice none 0 0, .slice none 0 0, .slice none 0 0]) ?_ rfl; (with_reducible repeat (first | refine blk_drewN ?_ _ | refine blk_drew ?_ | refine blk_alloc ?_ _)); exact BK373.out) hb); replace HB := Aside0.mk (below_step (by repeat (first | (with_reducible first | exact HB.out | apply below_alloc | apply pw_below_drewN | apply below_drew1 | refine below_set ?_ GE373.out) | exact HB.out)) hb); (try clear hb); (try clear hb2); (try clear hk); (try clear hi)))
 go_meet
 case rel => exact ⟨_, ((t372 != t351)), s1_, H', ⟨by first | omega | exact Nat.le_refl _⟩, ⟨by (with_reducible repeat (first | apply Kd.R_alloc | apply Kd.R_drewN | apply Kd.R_drew)); exact Kd.R_mono HO344.out (fun _ hk => ⟨hk.1.1.1.1.1.1, ⟨hk.1.1.1.2, ⟨hk.1.1.2, ⟨hk.1.2, hk.2⟩⟩⟩⟩)⟩, ⟨by (with_reducible repeat (first | apply Kd.R_alloc | apply Kd.R_drewN | apply Kd.R_drew)); exact Kd.R_mono HO347.out (fun _ hk => ⟨hk.1.1.1.1.1.1, ⟨hk.1.1.1.2, ⟨hk.1.1.2, ⟨hk.1.2, hk.2⟩⟩⟩⟩)⟩, ⟨by (with_reducible repeat (first | apply Kd.R_alloc | apply Kd.R_drewN | apply Kd.R_drew)); exact Kd.R_mono HO350.out (fun _ hk => ⟨hk.1.2, hk.2⟩)⟩, ⟨by (with_reducible repeat (first | apply Kd.R_alloc | apply Kd.R_drewN | apply Kd.R_drew)); exact Kd.R_mono HO355.out (fun _ hk => ⟨hk.1.1.1.2, ⟨hk.1.1.2, ⟨hk.1.1.1.1.1.1, ⟨hk.1.2, hk.2⟩⟩⟩⟩)⟩, ⟨by (with_reducible repeat (first | apply Kd.R_alloc | apply Kd.R_drewN | apply Kd.R_drew)); exact Kd.R_mono HO358.out (fun _ hk => ⟨hk.1.1.1.2, ⟨hk.1.1.2, ⟨hk.1.1.1.1.1.1, ⟨hk.1.2, hk.2⟩⟩⟩⟩)⟩, ⟨by (with_reducible repeat (first | apply Kd.R_alloc | apply Kd.R_drewN | apply Kd.R_drew)); exact Kd.R_mono HO361.out (fun _ hk => ⟨hk.1.2, hk.2⟩)⟩, ⟨by (with_reducible repeat (first | apply Kd.R_alloc | apply Kd.R_drewN | apply Kd.R_drew)); exact Kd.R_mono HO365.out (fun _ hk => ⟨hk.1.1.1.2, ⟨hk.1.1.2, ⟨hk.1.2, ⟨hk.2, hk.1.1.1.1.1.1⟩⟩⟩⟩)⟩, ⟨by (with_reducible repeat (first | apply Kd.R_alloc | apply Kd.R_drewN | apply Kd.R_drew)); exact Kd.R_mono HO368.out (fun _ hk => ⟨hk.1.1.1.2, ⟨hk.1.1.2, ⟨hk.1.2, ⟨hk.2, hk.1.1.1.1.1.1⟩⟩⟩⟩)⟩, ⟨by (with_reducible repeat (first | apply Kd.R_alloc | apply Kd.R_drewN | apply Kd.R_drew)); exact Kd.R_mono HO371.out (fun _ hk => ⟨hk.1.2, hk.2⟩)⟩, ⟨b1_ BK331.out⟩, ⟨b1_ BK352.out⟩, ⟨b1_ BK362.out⟩, ⟨b1_ BK373.out⟩, ⟨by repeat (first | (with_reducible first | exact HB.out | apply below_alloc | apply pw_below_drewN | apply below_drew1) | exact HB.out)⟩⟩}
 {
 replace c49 := Bool.eq_false_iff.mpr c49
 subst c49
 have H1 : (laws_FnExactHeartbeat.j0 k a1 a2 a3 t351 t372 true l0_0 l0_1 l0_2 t342 t345 t348 t353 t356 t359 t363 t366 t369) = some r := by rw [if_neg (show ¬ (false = true) by decide)] at H; exact H
 clear H
 have H := H1
 clear H1
 have H' := Aside0.mk H
 clear H
 have hnb58 := NB373_331.out
 have hnc58 := NB331_373.out
 have hnb59 := NB373_352.out
 have hnc59 := NB352_373.out
 have hnb60 := NB373_362.out
 have hnc60 := NB362_373.out
 have hcz61_0 := c1_ BK373 0 (.slice none 0 0)
 have hcz61_1 := c1_ BK373 1 (.slice none 0 0)
 have hcz61_2 := c1_ BK373 2 (.slice none 0 0)
 have hfz61_0 := f1_ BK373 0
 have hfz61_1 := f1_ BK373 1
 have hfz61_2 := f1_ BK373 2
 have hnb62 := NB352_331.out
 have hnc62 := NB331_352.out
 have hnb63 := NB352_362.out
 have hnc63 := NB362_352.out
 have hcz64_0 := c1_ BK352 0 (.slice Ao25 t342.length co25)
 have hcz64_1 := c1_ BK352 1 (.slice Ao28 t345.length co28)
 have hcz64_2 := c1_ BK352 2 (.slice Ao29 t348.length co29)
 have hfz64_0 := f1_ BK352 0
 have hfz64_1 := f1_ BK352 1
 have hfz64_2 := f1_ BK352 2
 go_wp2_with (first | ((with_reducible refine gate_callee (f := 27) rfl ?_); refine goesL_ (some 46) rfl rfl Try.func27 s2_ rfl #[.agg #[.slice Ao41 t363.length co41, .slice Ao46 t366.length co46, .slice Ao47 t369.length co47], .agg #[.slice Ao25 t342.length co25, .slice Ao28 t345.length co28, .slice Ao29 t348.length co29]] rfl s3_ ?_; (with_reducible refine (laws_eqPresence.calls k _ _ t363 _ _ t366 _ _ t369 _ _ t342 _ _ t345 _ _ t348 false _ ?side1 ?side2 ?side3 ?side4 ?side5 ?side6 ?side7 ?side8 ?side9 ?side10 ?side11 ?side12 A48.out).mono ?_); (case side1 => refine (Kd.R_reads' (e := 63) (base := w.heap.size) (ok := fun k_ => ((((((some k_ ≠ (.slice Ao46 t366.length co46 : Value).ownBlock ∧ some k_ ≠ (.slice Ao20 t333.length co20 : Value).ownBlock) ∧ some k_ ≠ (.slice Ao21 t336.length co21 : Value).ownBlock) ∧ some k_ ≠ (.slice Ao25 t342.length co25 : Value).ownBlock) ∧ some k_ ≠ (.slice Ao28 t345.length co28 : Value).ownBlock) ∧ some k_ ≠ (.slice Ao33 t353.length co33 : Value).ownBlock) ∧ some k_ ≠ (.slice Ao37 t356.length co37 : Value).ownBlock)) (n := t363.length) (c := co41) ?_).2.2; exact (by (with_reducible repeat (first | apply Kd.R_alloc | apply Kd.R_drewN | apply Kd.R_drew)); exact (Kd.R_mono (Kd.R_far3 (g := gb373) (Kd.R_types HO365.out BK373.out (by decide)) (fun _ hk => hk.2)) (fun _ h_ => h_.1)))); (case side2 => exact (Kd.R_reads' HO365.out).2.1); (case side3 => refine (Kd.R_reads' (e := 63) (base := w.heap.size) (ok := fun k_ => ((((((some k_ ≠ (.slice Ao41 t363.length co41 : Value).ownBlock ∧ some k_ ≠ (.slice Ao20 t333.length co20 : Value).ownBlock) ∧ some k_ ≠ (.slice Ao21 t336.length co21 : Value).ownBlock) ∧ some k_ ≠ (.slice Ao25 t342.length co25 : Value).ownBlock) ∧ some k_ ≠ (.slice Ao28 t345.length co28 : Value).ownBlock) ∧ some k_ ≠ (.slice Ao33 t353.length co33 : Value).ownBlock) ∧ some k_ ≠ (.slice Ao37 t356.length co37 : Value).ownBlock)) (n := t366.length) (c := co46) ?_).2.2; exact (by (with_reducible repeat (first | apply Kd.R_alloc | apply Kd.R_drewN | apply Kd.R_drew)); exact (Kd.R_mono (Kd.R_far3 (g := gb373) (Kd.R_types HO368.out BK373.out (by decide)) (fun _ hk => hk.2)) (fun _ h_ => h_.1)))); (case side4 => exact (Kd.R_reads' HO368.out).2.1); (case side5 => refine (Kd.R_reads' (e := 73) (base := w.heap.size) (ok := fun k_ => (((True ∧ some k_ ≠ (.slice Ao22 t339.length co22 : Value).ownBlock) ∧ some k_ ≠ (.slice Ao29 t348.length co29 : Value).ownBlock) ∧ some k_ ≠ (.slice Ao38 t359.length co38 : Value).ownBlock)) (n := t369.length) (c := co47) ?_).2.2; exact (by (with_reducible repeat (first | apply Kd.R_alloc | apply Kd.R_drewN | apply Kd.R_drew)); exact (Kd.R_mono (Kd.R_far3 (g := gb373) (Kd.R_types HO371.out BK373.out (by decide)) (fun _ hk => hk.2)) (fun _ h_ => h_.1)))); (case side6 => exact (Kd.R_reads' HO371.out).2.1); (case side7 => refine (Kd.R_reads' (e := 63) (base := w.heap.size) (ok := fun k_ => ((((((some k_ ≠ (.slice Ao28 t345.length co28 : Value).ownBlock ∧ some k_ ≠ (.slice Ao20 t333.length co20 : Value).ownBlock) ∧ some k_ ≠ (.slice Ao21 t336.length co21 : Value).ownBlock) ∧ some k_ ≠ (.slice Ao33 t353.length co33 : Value).ownBlock) ∧ some k_ ≠ (.slice Ao37 t356.length co37 : Value).ownBlock) ∧ some k_ ≠ (.slice Ao41 t363.length co41 : Value).ownBlock) ∧ some k_ ≠ (.slice Ao46 t366.length co46 : Value).ownBlock)) (n := t342.length) (c := co25) ?_).2.2; exact (by (with_reducible repeat (first | apply Kd.R_alloc | apply Kd.R_drewN | apply Kd.R_drew)); exact (Kd.R_mono (Kd.R_far3 (g := gb373) (Kd.R_types HO344.out BK373.out (by decide)) (fun _ hk => hk.2)) (fun _ h_ => h_.1)))); (case side8 => exact (Kd.R_reads' HO344.out).2.1); (case side9 => refine (Kd.R_reads' (e := 63) (base := w.heap.size) (ok := fun k_ => ((((((some k_ ≠ (.slice Ao25 t342.length co25 : Value).ownBlock ∧ some k_ ≠ (.slice Ao20 t333.length co20 : Value).ownBlock) ∧ some k_ ≠ (.slice Ao21 t336.length co21 : Value).ownBlock) ∧ some k_ ≠ (.slice Ao33 t353.length co33 : Value).ownBlock) ∧ some k_ ≠ (.slice Ao37 t356.length co37 : Value).ownBlock) ∧ some k_ ≠ (.slice Ao41 t363.length co41 : Value).ownBlock) ∧ some k_ ≠ (.slice Ao46 t366.length co46 : Value).ownBlock)) (n := t345.length) (c := co28) ?_).2.2; exact (by (with_reducible repeat (first | apply Kd.R_alloc | apply Kd.R_drewN | apply Kd.R_drew)); exact (Kd.R_mono (Kd.R_far3 (g := gb373) (Kd.R_types HO347.out BK373.out (by decide)) (fun _ hk => hk.2)) (fun _ h_ => h_.1)))); (case side10 => exact (Kd.R_reads' HO347.out).2.1); (case side11 => refine (Kd.R_reads' (e := 73) (base := w.heap.size) (ok := fun k_ => (((True ∧ some k_ ≠ (.slice Ao22 t339.length co22 : Value).ownBlock) ∧ some k_ ≠ (.slice Ao38 t359.length co38 : Value).ownBlock) ∧ some k_ ≠ (.slice Ao47 t369.length co47 : Value).ownBlock)) (n := t348.length) (c := co29) ?_).2.2; exact (by (with_reducible repeat (first | apply Kd.R_alloc | apply Kd.R_drewN | apply Kd.R_drew)); exact (Kd.R_mono (Kd.R_far3 (g := gb373) (Kd.R_types HO350.out BK373.out (by decide)) (fun _ hk => hk.2)) (fun _ h_ => h_.1)))); (case side12 => exact (Kd.R_reads' HO350.out).2.1); rintro e w65 ⟨rfl, hb⟩; refine ⟨_, rfl, ?_⟩; replace HO335 := Aside0.mk (Kd.R_below (by (with_reducible repeat (first | apply Kd.R_alloc | apply Kd.R_drewN | apply Kd.R_drew)); exact (Kd.R_mono (Kd.R_far3 (g := gb373) (Kd.R_types HO335.out BK373.out (by decide)) (fun _ hk => hk.2)) (fun _ h_ => h_.1))) hb); replace HO338 := Aside0.mk (Kd.R_below (by (with_reducible repeat (first | apply Kd.R_alloc | apply Kd.R_drewN | apply Kd.R_drew)); exact (Kd.R_mono (Kd.R_far3 (g := gb373) (Kd.R_types HO338.out BK373.out (by decide)) (fun _ hk => hk.2)) (fun _ h_ => h_.1))) hb); replace HO341 := Aside0.mk (Kd.R_below (by (with_reducible repeat (first | apply Kd.R_alloc | apply Kd.R_drewN | apply Kd.R_drew)); exact (Kd.R_mono (Kd.R_far3 (g := gb373) (Kd.R_types HO341.out BK373.out (by decide)) (fun _ hk => hk.2)) (fun _ h_ => h_.1))) hb); replace HO344 := Aside0.mk (Kd.R_below (by (with_reducible repeat (first | apply Kd.R_alloc | apply Kd.R_drewN | apply Kd.R_drew)); exact (Kd.R_mono (Kd.R_far3 (g := gb373) (Kd.R_types HO344.out BK373.out (by decide)) (fun _ hk => hk.2)) (fun _ h_ => h_.1))) hb); replace HO347 := Aside0.mk (Kd.R_below (by (with_reducible repeat (first | apply Kd.R_alloc | apply Kd.R_drewN | apply Kd.R_drew)); exact (Kd.R_mono (Kd.R_far3 (g := gb373) (Kd.R_types HO347.out BK373.out (by decide)) (fun _ hk => hk.2)) (fun _ h_ => h_.1))) hb); replace HO350 := Aside0.mk (Kd.R_below (by (with_reducible repeat (first | apply Kd.R_alloc | apply Kd.R_drewN | apply Kd.R_drew)); exact (Kd.R_mono (Kd.R_far3 (g := gb373) (Kd.R_types HO350.out BK373.out (by decide)) (fun _ hk => hk.2)) (fun _ h_ => h_.1))) hb); replace HO355 := Aside0.mk (Kd.R_below (by (with_reducible repeat (first | apply Kd.R_alloc | apply Kd.R_drewN | apply Kd.R_drew)); exact (Kd.R_mono (Kd.R_far3 (g := gb373) (Kd.R_types HO355.out BK373.out (by decide)) (fun _ hk => hk.2)) (fun _ h_ => h_.1))) hb); replace HO358 := Aside0.mk (Kd.R_below (by (with_reducible repeat (first | apply Kd.R_alloc | apply Kd.R_drewN | apply Kd.R_drew)); exact (Kd.R_mono (Kd.R_far3 (g := gb373) (Kd.R_types HO358.out BK373.out (by decide)) (fun _ hk => hk.2)) (fun _ h_ => h_.1))) hb); replace HO361 := Aside0.mk (Kd.R_below (by (with_reducible repeat (first | apply Kd.R_alloc | apply Kd.R_drewN | apply Kd.R_drew)); exact (Kd.R_mono (Kd.R_far3 (g := gb373) (Kd.R_types HO361.out BK373.out (by decide)) (fun _ hk => hk.2)) (fun _ h_ => h_.1))) hb); replace HO365 := Aside0.mk (Kd.R_below (by (with_reducible repeat (first | apply Kd.R_alloc | apply Kd.R_drewN | apply Kd.R_drew)); exact (Kd.R_mono (Kd.R_far3 (g := gb373) (Kd.R_types HO365.out BK373.out (by decide)) (fun _ hk => hk.2)) (fun _ h_ => h_.1))) hb); replace HO368 := Aside0.mk (Kd.R_below (by (with_reducible repeat (first | apply Kd.R_alloc | apply Kd.R_drewN | apply Kd.R_drew)); exact (Kd.R_mono (Kd.R_far3 (g := gb373) (Kd.R_types HO368.out BK373.out (by decide)) (fun _ hk => hk.2)) (fun _ h_ => h_.1))) hb); replace HO371 := Aside0.mk (Kd.R_below (by (with_reducible repeat (first | apply Kd.R_alloc | apply Kd.R_drewN | apply Kd.R_drew)); exact (Kd.R_mono (Kd.R_far3 (g := gb373) (Kd.R_types HO371.out BK373.out (by decide)) (fun _ hk => hk.2)) (fun _ h_ => h_.1))) hb); replace BK331 := Aside0.mk (blk_below (g := gb331) (o := .cells #[.slice A0_0 l0_0.length c0_0, .slice A0_1 l0_1.length c0_1, .slice A0_2 l0_2.length c0_2] 45 (0, 0)) (by (with_reducible repeat (first | refine blk_drewN ?_ _ | refine blk_drew ?_ | refine blk_alloc ?_ _)); refine blk_far3 ?_ NB331_373.out; (with_reducible repeat (first | refine blk_drewN ?_ _ | refine blk_drew ?_ | refine blk_alloc ?_ _)); exact BK331.out) hb); replace BK352 := Aside0.mk (blk_below (g := gb352) (o := .cells #[.slice Ao25 t342.length co25, .slice Ao28 t345.length co28, .slice Ao29 t348.length co29] 27 (0, 0)) (by (with_reducible repeat (first | refine blk_drewN ?_ _ | refine blk_drew ?_ | refine blk_alloc ?_ _)); refine blk_far3 ?_ NB352_373.out; (with_reducible repeat (first | refine blk_drewN ?_ _ | refine blk_drew ?_ | refine blk_alloc ?_ _)); exact BK352.out) hb); replace BK362 := Aside0.mk (blk_below (g := gb362) (o := .cells #[.slice Ao33 t353.length co33, .slice Ao37 t356.length co37, .slice Ao38 t359.length co38] 27 (0, 0)) (by (with_reducible repeat (first | refine blk_drewN ?_ _ | refine blk_drew ?_ | refine blk_alloc ?_ _)); refine blk_far3 ?_ NB362_373.out; (with_reducible repeat (first | refine blk_drewN ?_ _ | refine blk_drew ?_ | refine blk_alloc ?_ _)); exact BK362.out) hb); replace BK373 := Aside0.mk (blk_below (g := gb373) (o := .cells #[.slice Ao41 t363.length co41, .slice Ao46 t366.length co46, .slice Ao47 t369.length co47] 27 (0, 0)) (by (with_reducible repeat (first | refine blk_drewN ?_ _ | refine blk_drew ?_ | refine blk_alloc ?_ _)); refine blk_put3 (cs := #[.slice none 0 0, .slice none 0 0, .slice none 0 0]) ?_ rfl; (with_reducible repeat (first | refine blk_drewN ?_ _ | refine blk_drew ?_ | refine blk_alloc ?_ _)); exact BK373.out) hb); replace HB := Aside0.mk (below_step (by repeat (first | (with_reducible first | exact HB.out | apply below_alloc | apply pw_below_drewN | apply below_drew1 | refine below_set ?_ GE373.out) | exact HB.out)) hb); (try clear hb); (try clear hb2); (try clear hk); (try clear hi)))
 go_meet
 case rel => exact ⟨_, (true), s1_, H', ⟨by first | omega | exact Nat.le_refl _⟩, ⟨by (with_reducible repeat (first | apply Kd.R_alloc | apply Kd.R_drewN | apply Kd.R_drew)); exact Kd.R_mono HO344.out (fun _ hk => ⟨hk.1.1.1.1.1.1, ⟨hk.1.1.1.2, ⟨hk.1.1.2, ⟨hk.1.2, hk.2⟩⟩⟩⟩)⟩, ⟨by (with_reducible repeat (first | apply Kd.R_alloc | apply Kd.R_drewN | apply Kd.R_drew)); exact Kd.R_mono HO347.out (fun _ hk => ⟨hk.1.1.1.1.1.1, ⟨hk.1.1.1.2, ⟨hk.1.1.2, ⟨hk.1.2, hk.2⟩⟩⟩⟩)⟩, ⟨by (with_reducible repeat (first | apply Kd.R_alloc | apply Kd.R_drewN | apply Kd.R_drew)); exact Kd.R_mono HO350.out (fun _ hk => ⟨hk.1.2, hk.2⟩)⟩, ⟨by (with_reducible repeat (first | apply Kd.R_alloc | apply Kd.R_drewN | apply Kd.R_drew)); exact Kd.R_mono HO355.out (fun _ hk => ⟨hk.1.1.1.2, ⟨hk.1.1.2, ⟨hk.1.1.1.1.1.1, ⟨hk.1.2, hk.2⟩⟩⟩⟩)⟩, ⟨by (with_reducible repeat (first | apply Kd.R_alloc | apply Kd.R_drewN | apply Kd.R_drew)); exact Kd.R_mono HO358.out (fun _ hk => ⟨hk.1.1.1.2, ⟨hk.1.1.2, ⟨hk.1.1.1.1.1.1, ⟨hk.1.2, hk.2⟩⟩⟩⟩)⟩, ⟨by (with_reducible repeat (first | apply Kd.R_alloc | apply Kd.R_drewN | apply Kd.R_drew)); exact Kd.R_mono HO361.out (fun _ hk => ⟨hk.1.2, hk.2⟩)⟩, ⟨by (with_reducible repeat (first | apply Kd.R_alloc | apply Kd.R_drewN | apply Kd.R_drew)); exact Kd.R_mono HO365.out (fun _ hk => ⟨hk.1.1.1.2, ⟨hk.1.1.2, ⟨hk.1.2, ⟨hk.2, hk.1.1.1.1.1.1⟩⟩⟩⟩)⟩, ⟨by (with_reducible repeat (first | apply Kd.R_alloc | apply Kd.R_drewN | apply Kd.R_drew)); exact Kd.R_mono HO368.out (fun _ hk => ⟨hk.1.1.1.2, ⟨hk.1.1.2, ⟨hk.1.2, ⟨hk.2, hk.1.1.1.1.1.1⟩⟩⟩⟩)⟩, ⟨by (with_reducible repeat (first | apply Kd.R_alloc | apply Kd.R_drewN | apply Kd.R_drew)); exact Kd.R_mono HO371.out (fun _ hk => ⟨hk.1.2, hk.2⟩)⟩, ⟨b1_ BK331.out⟩, ⟨b1_ BK352.out⟩, ⟨b1_ BK362.out⟩, ⟨b1_ BK373.out⟩, ⟨by repeat (first | (with_reducible first | exact HB.out | apply below_alloc | apply pw_below_drewN | apply below_drew1) | exact HB.out)⟩⟩}}
 case rest =>
  skip
  {
 clear HC14
 try clear c1
 try clear c2
 try clear p2
 try clear c3
 try clear c4
 try clear c5
 try clear c6
 try clear c6b0
 try clear c14
 try clear c24
 try clear c26
 try clear c27
 try clear c32
 try clear c34
 try clear c35
 try clear c42
 try clear c43
 try clear c44
 try clear c49
 try clear c50
 try clear c51
 try clear c52
 try clear c54
 try clear c55
 try clear c58
 try clear c59
 try clear c60
 try clear c62
 try clear c63
 try clear hcz16_0
 try clear hcz16_1
 try clear hcz16_2
 try clear hcz18_0
 try clear hcz18_1
 try clear hcz18_2
 try clear hcz27_0
 try clear hcz27_1
 try clear hcz27_2
 try clear hcz30_0
 try clear hcz30_1
 try clear hcz30_2
 try clear hcz36_0
 try clear hcz36_1
 try clear hcz36_2
 try clear hcz45_0
 try clear hcz45_1
 try clear hcz45_2
 try clear hcz53_0
 try clear hcz53_1
 try clear hcz53_2
 try clear hcz56_0
 try clear hcz56_1
 try clear hcz56_2
 try clear hcz61_0
 try clear hcz61_1
 try clear hcz61_2
 try clear hcz64_0
 try clear hcz64_1
 try clear hcz64_2
 try clear hcz8_0
 try clear hcz8_1
 try clear hcz8_2
 try clear hfz16_0
 try clear hfz16_1
 try clear hfz16_2
 try clear hfz18_0
 try clear hfz18_1
 try clear hfz18_2
 try clear hfz27_0
 try clear hfz27_1
 try clear hfz27_2
 try clear hfz30_0
 try clear hfz30_1
 try clear hfz30_2
 try clear hfz36_0
 try clear hfz36_1
 try clear hfz36_2
 try clear hfz45_0
 try clear hfz45_1
 try clear hfz45_2
 try clear hfz53_0
 try clear hfz53_1
 try clear hfz53_2
 try clear hfz56_0
 try clear hfz56_1
 try clear hfz56_2
 try clear hfz61_0
 try clear hfz61_1
 try clear hfz61_2
 try clear hfz64_0
 try clear hfz64_1
 try clear hfz64_2
 try clear hfz8_0
 try clear hfz8_1
 try clear hfz8_2
 obtain ⟨kq, x52_13, rfl, HA, HJ13, HO_353000, HO_353001, HO_353002, HO_363000, HO_363001, HO_363002, HO_374000, HO_374001, HO_374002, BK331, BK352, BK362, BK373, HB⟩ := hcut
 cases kq with
 | zero => exact absurd HA.out (by simp [laws_FnExactHeartbeat.j0])
 | succ kj13 =>
  skip
  {
 have H := HA.out
 clear HA
 simp only [laws_FnExactHeartbeat.j0] at H
 by_cases c66 : x52_13 = true
 {
 subst c66
 have H1 : (some false) = some r := by rw [if_pos rfl] at H; exact H
 clear H
 have H := H1
 clear H1
 obtain rfl := Option.some.inj H
 go_wp2
 go_ret
 exact ⟨by first | rfl | (simp [errW_none, errW_some] <;> rfl) | (simp [*, errW_none, errW_some] <;> rfl), by repeat (first | (with_reducible first | exact HB.out | apply below_alloc | apply pw_below_drewN | apply below_drew1) | exact HB.out)⟩}
 {
 replace c66 := Bool.eq_false_iff.mpr c66
 subst c66
 have H1 : ((laws_toPresence.f kj13 l0_0 l0_1 l0_2).bind fun bt375 => ((laws_eqPresence.f kj13 t353 t356 t359 bt375.1 bt375.2.1 bt375.2.2).bind fun t384 => (if t384 = true then ((laws_markPresence.f kj13 t353 t356 t359 1).bind fun bt385 => (if bt385.1 < 0 then (laws_FnExactHeartbeat.j1 kj13 a1 a2 a3 t351 true l0_0 l0_1 l0_2 t342 t345 t348 t363 t366 t369) else ((laws_eqPresence.f kj13 t363 t366 t369 t342 t345 t348).bind fun t389 => (if t389 = true then (laws_FnExactHeartbeat.j1 kj13 a1 a2 a3 t351 (t372 != t351) l0_0 l0_1 l0_2 t342 t345 t348 t363 t366 t369) else (laws_FnExactHeartbeat.j1 kj13 a1 a2 a3 t351 true l0_0 l0_1 l0_2 t342 t345 t348 t363 t366 t369))))) else (some false)))) = some r := by rw [if_neg (show ¬ (false = true) by decide)] at H; exact H
 clear H
 have H := H1
 clear H1
 replace H := Option.bind_eq_some_iff.mp H
 obtain ⟨⟨t375, t378, t381⟩, A670, H⟩ := H
 replace H : ((laws_eqPresence.f kj13 t353 t356 t359 t375 t378 t381).bind fun t384 => (if t384 = true then ((laws_markPresence.f kj13 t353 t356 t359 1).bind fun bt385 => (if bt385.1 < 0 then (laws_FnExactHeartbeat.j1 kj13 a1 a2 a3 t351 true l0_0 l0_1 l0_2 t342 t345 t348 t363 t366 t369) else ((laws_eqPresence.f kj13 t363 t366 t369 t342 t345 t348).bind fun t389 => (if t389 = true then (laws_FnExactHeartbeat.j1 kj13 a1 a2 a3 t351 (t372 != t351) l0_0 l0_1 l0_2 t342 t345 t348 t363 t366 t369) else (laws_FnExactHeartbeat.j1 kj13 a1 a2 a3 t351 true l0_0 l0_1 l0_2 t342 t345 t348 t363 t366 t369))))) else (some false))) = some r := H
 have A67 := Aside0.mk A670
 clear A670
 replace H := Option.bind_eq_some_iff.mp H
 obtain ⟨t384, A680, H⟩ := H
 replace H : (if t384 = true then ((laws_markPresence.f kj13 t353 t356 t359 1).bind fun bt385 => (if bt385.1 < 0 then (laws_FnExactHeartbeat.j1 kj13 a1 a2 a3 t351 true l0_0 l0_1 l0_2 t342 t345 t348 t363 t366 t369) else ((laws_eqPresence.f kj13 t363 t366 t369 t342 t345 t348).bind fun t389 => (if t389 = true then (laws_FnExactHeartbeat.j1 kj13 a1 a2 a3 t351 (t372 != t351) l0_0 l0_1 l0_2 t342 t345 t348 t363 t366 t369) else (laws_FnExactHeartbeat.j1 kj13 a1 a2 a3 t351 true l0_0 l0_1 l0_2 t342 t345 t348 t363 t366 t369))))) else (some false)) = some r := H
 have A68 := Aside0.mk A680
 clear A680
 by_cases c69 : t384 = true
 {
 subst c69
 have H1 : ((laws_markPresence.f kj13 t353 t356 t359 1).bind fun bt385 => (if bt385.1 < 0 then (laws_FnExactHeartbeat.j1 kj13 a1 a2 a3 t351 true l0_0 l0_1 l0_2 t342 t345 t348 t363 t366 t369) else ((laws_eqPresence.f kj13 t363 t366 t369 t342 t345 t348).bind fun t389 => (if t389 = true then (laws_FnExactHeartbeat.j1 kj13 a1 a2 a3 t351 (t372 != t351) l0_0 l0_1 l0_2 t342 t345 t348 t363 t366 t369) else (laws_FnExactHeartbeat.j1 kj13 a1 a2 a3 t351 true l0_0 l0_1 l0_2 t342 t345 t348 t363 t366 t369))))) = some r := by rw [if_pos rfl] at H; exact H
 clear H
 have H := H1
 clear H1
 replace H := Option.bind_eq_some_iff.mp H
 obtain ⟨⟨t385, t386, t387, t388⟩, A700, H⟩ := H
 replace H : (if t385 < 0 then (laws_FnExactHeartbeat.j1 kj13 a1 a2 a3 t351 true l0_0 l0_1 l0_2 t342 t345 t348 t363 t366 t369) else ((laws_eqPresence.f kj13 t363 t366 t369 t342 t345 t348).bind fun t389 => (if t389 = true then (laws_FnExactHeartbeat.j1 kj13 a1 a2 a3 t351 (t372 != t351) l0_0 l0_1 l0_2 t342 t345 t348 t363 t366 t369) else (laws_FnExactHeartbeat.j1 kj13 a1 a2 a3 t351 true l0_0 l0_1 l0_2 t342 t345 t348 t363 t366 t369)))) = some r := H
 have A70 := Aside0.mk A700
 clear A700
 have HC71 := Aside0.mk H
 clear H
 try go_wp2
 replace HO_353000 := Aside0.mk (Kd.R_drew HO_353000.out)
 replace HO_353001 := Aside0.mk (Kd.R_drew HO_353001.out)
 replace HO_353002 := Aside0.mk (Kd.R_drew HO_353002.out)
 replace HO_363000 := Aside0.mk (Kd.R_drew HO_363000.out)
 replace HO_363001 := Aside0.mk (Kd.R_drew HO_363001.out)
 replace HO_363002 := Aside0.mk (Kd.R_drew HO_363002.out)
 replace HO_374000 := Aside0.mk (Kd.R_drew HO_374000.out)
 replace HO_374001 := Aside0.mk (Kd.R_drew HO_374001.out)
 replace HO_374002 := Aside0.mk (Kd.R_drew HO_374002.out)
 replace BK331 := Aside0.mk (blk_drew BK331.out)
 replace BK352 := Aside0.mk (blk_drew BK352.out)
 replace BK362 := Aside0.mk (blk_drew BK362.out)
 replace BK373 := Aside0.mk (blk_drew BK373.out)
 replace HB := Aside0.mk (below_drew1 HB.out)
 refine start_ (n := 5) (S := fun w' => w'.cell? ⟨gb362, 0, none⟩ = some (.slice Ao33 t353.length co33) ∧ w'.cell? ⟨gb362, 1, none⟩ = some (.slice Ao37 t356.length co37) ∧ w'.cell? ⟨gb362, 2, none⟩ = some (.slice Ao38 t359.length co38) ∧ w'.cell? ⟨gb331, 0, none⟩ = some (.slice A0_0 l0_0.length c0_0) ∧ w'.cell? ⟨gb331, 1, none⟩ = some (.slice A0_1 l0_1.length c0_1) ∧ w'.cell? ⟨gb331, 2, none⟩ = some (.slice A0_2 l0_2.length c0_2)) (ds := []) #[F,F,F,F,F] s2_ rfl rfl ⟨(blk_cell BK362.out 0).trans rfl, (blk_cell BK362.out 1).trans rfl, (blk_cell BK362.out 2).trans rfl, (blk_cell BK331.out 0).trans rfl, (blk_cell BK331.out 1).trans rfl, (blk_cell BK331.out 2).trans rfl⟩ (fun hHeld => ?_)
 generalize wc.drew = w72 at HO_353000 HO_353001 HO_353002 HO_363000 HO_363001 HO_363002 HO_374000 HO_374001 HO_374002 BK331 BK352 BK362 BK373 HB hHeld ⊢
 refine take_ (i := 0) (N := some 53) (v := ?_) (a' := ?_) #[T,F,F,F,F] rfl rfl s2_ (fun _ _ _ h => h) (Or.inl ⟨by rfl, ?_⟩) hHeld ?_ ?_
 rotate_left
 {
 rintro w' ⟨s0, s1, s2, s3, s4, s5⟩
 go_simp
 with_reducible rfl}
 rotate_left
 · exact p1_
 refine take_ (i := 1) (N := some 54) (v := ?_) (a' := ?_) #[T,T,F,F,F] rfl rfl s2_ (fun _ _ _ h => h) (Or.inl ⟨by rfl, ?_⟩) hHeld ?_ ?_
 rotate_left
 {
 rintro w' ⟨s0, s1, s2, s3, s4, s5⟩
 go_simp
 with_reducible rfl}
 rotate_left
 · exact p1_
 refine one_ (i := 2) (N := some 55) #[T,T,T,F,F] rfl rfl s2_ (by decide) (fun K hK => ?_)
 refine goes_ Try.func26 s2_ rfl #[.agg #[.slice A0_0 l0_0.length c0_0, .slice A0_1 l0_1.length c0_1, .slice A0_2 l0_2.length c0_2]] (by rfl) rfl rfl s3_ ?_
 with_reducible refine (laws_toPresence.calls kj13 _ _ l0_0 _ _ l0_1 _ _ l0_2 t375 t378 t381 _ ?side1 ?side2 ?side3 ?side4 ?side5 ?side6 A67.out).mono ?_
 (case side1 => exact y2_ (Kd.C_below HR0_0.out HB.out))
 (case side2 => exact HC0_0.out)
 (case side3 => exact y2_ (Kd.C_below HR0_1.out HB.out))
 (case side4 => exact HC0_1.out)
 (case side5 => exact y2_ (Kd.C_below HR0_2.out HB.out))
 (case side6 => exact HC0_2.out)
 rintro e w73 ⟨v376, v379, v382, rfl, ho0, ho1, ho2, hb⟩
 refine ⟨_, rfl, ?_⟩
 have n0_ := Aside0.mk (Kd.R_mono (Kd.R_told (Kd.R_told (Kd.R_old (b2_ HO_353000.out) hb) (Kd.R_base ho0)) (Kd.R_base ho1)) (fun _ h_ => h_.1))
 have n1_ := Aside0.mk (Kd.R_mono (Kd.R_told (Kd.R_told (Kd.R_old (b2_ HO_353001.out) hb) (Kd.R_base ho0)) (Kd.R_base ho1)) (fun _ h_ => h_.1))
 have n2_ := Aside0.mk (Kd.R_elder' (b2_ HO_353002.out) (Kd.R_base ho2) hb)
 have n3_ := Aside0.mk (Kd.R_mono (Kd.R_told (Kd.R_told (Kd.R_old (b2_ HO_363000.out) hb) (Kd.R_base ho0)) (Kd.R_base ho1)) (fun _ h_ => h_.1))
 have n4_ := Aside0.mk (Kd.R_mono (Kd.R_told (Kd.R_told (Kd.R_old (b2_ HO_363001.out) hb) (Kd.R_base ho0)) (Kd.R_base ho1)) (fun _ h_ => h_.1))
 have n5_ := Aside0.mk (Kd.R_elder' (b2_ HO_363002.out) (Kd.R_base ho2) hb)
 have n6_ := Aside0.mk (Kd.R_mono (Kd.R_told (Kd.R_told (Kd.R_old (b2_ HO_374000.out) hb) (Kd.R_base ho0)) (Kd.R_base ho1)) (fun _ h_ => h_.1))
 have n7_ := Aside0.mk (Kd.R_mono (Kd.R_told (Kd.R_told (Kd.R_old (b2_ HO_374001.out) hb) (Kd.R_base ho0)) (Kd.R_base ho1)) (fun _ h_ => h_.1))
 have n8_ := Aside0.mk (Kd.R_elder' (b2_ HO_374002.out) (Kd.R_base ho2) hb)
 have n9_ := Aside0.mk (Kd.R_lower (Kd.R_new' (Kd.R_new' (Kd.R_new' (Kd.R_new' (Kd.R_new' (Kd.R_new' ho0 (Kd.R_lt (b2_ HO_353000.out))) (Kd.R_lt (b2_ HO_353001.out))) (Kd.R_lt (b2_ HO_363000.out))) (Kd.R_lt (b2_ HO_363001.out))) (Kd.R_lt (b2_ HO_374000.out))) (Kd.R_lt (b2_ HO_374001.out))) (below_size (y1_ HB.out)))
 have n10_ := Aside0.mk (Kd.R_lower (Kd.R_new' (Kd.R_new' (Kd.R_new' (Kd.R_new' (Kd.R_new' (Kd.R_new' ho1 (Kd.R_lt (b2_ HO_353000.out))) (Kd.R_lt (b2_ HO_353001.out))) (Kd.R_lt (b2_ HO_363000.out))) (Kd.R_lt (b2_ HO_363001.out))) (Kd.R_lt (b2_ HO_374000.out))) (Kd.R_lt (b2_ HO_374001.out))) (below_size (y1_ HB.out)))
 have n11_ := Aside0.mk (Kd.R_lower (Kd.R_new' (Kd.R_new' (Kd.R_new' ho2 (Kd.R_lt (b2_ HO_353002.out))) (Kd.R_lt (b2_ HO_363002.out))) (Kd.R_lt (b2_ HO_374002.out))) (below_size (y1_ HB.out)))
 have n12_ := b3_ BK331 hb
 have n13_ := b3_ BK352 hb
 have n14_ := b3_ BK362 hb
 have n15_ := b3_ BK373 hb
 have n16_ := Aside0.mk (below_step (y1_ HB.out) hb)
 clear HO_353000
 clear HO_353001
 clear HO_353002
 clear HO_363000
 clear HO_363001
 clear HO_363002
 clear HO_374000
 clear HO_374001
 clear HO_374002
 clear BK331
 clear BK352
 clear BK362
 clear BK373
 clear HB
 have HO_353000 := n0_
 have HO_353001 := n1_
 have HO_353002 := n2_
 have HO_363000 := n3_
 have HO_363001 := n4_
 have HO_363002 := n5_
 have HO_374000 := n6_
 have HO_374001 := n7_
 have HO_374002 := n8_
 have HO377 := n9_
 have HO380 := n10_
 have HO383 := n11_
 have BK331 := n12_
 have BK352 := n13_
 have BK362 := n14_
 have BK373 := n15_
 have HB := n16_
 clear n0_ n1_ n2_ n3_ n4_ n5_ n6_ n7_ n8_ n9_ n10_ n11_ n12_ n13_ n14_ n15_ n16_
 (try clear hb)
 (try clear hb2)
 (try clear hk)
 (try clear hi)
 (try clear ho0)
 (try clear ho1)
 (try clear ho2)
 obtain ⟨Ao74, co74, eo74⟩ := Kd.R_slice HO377.out
 (first | subst eo74 | (injection eo74 with f1_ f2_ f3_; have f4_ := f1_.symm; have f5_ := f3_.symm; clear f1_ f2_ f3_; subst f4_; subst f5_))
 obtain ⟨Ao75, co75, eo75⟩ := Kd.R_slice HO380.out
 (first | subst eo75 | (injection eo75 with f1_ f2_ f3_; have f4_ := f1_.symm; have f5_ := f3_.symm; clear f1_ f2_ f3_; subst f4_; subst f5_))
 obtain ⟨Ao76, co76, eo76⟩ := Kd.R_slice HO383.out
 (first | subst eo76 | (injection eo76 with f1_ f2_ f3_; have f4_ := f1_.symm; have f5_ := f3_.symm; clear f1_ f2_ f3_; subst f4_; subst f5_))
 refine hK.out _ _ ⟨(blk_cell BK362.out 0).trans rfl, (blk_cell BK362.out 1).trans rfl, (blk_cell BK362.out 2).trans rfl, (blk_cell BK331.out 0).trans rfl, (blk_cell BK331.out 1).trans rfl, (blk_cell BK331.out 2).trans rfl⟩ (fun hHeld => ?_)
 clear hK K
 refine norm_ (a' := ?_) ?_ ?_
 rotate_left
 {
 show Act.put _ (some 55) _ = _
 simp only [Act.put, List.setIfInBounds_toArray, List.set_cons_zero, List.set_cons_succ, i64_w, i32_w]
 rfl}
 refine one_ (i := 3) (N := some 56) #[T,T,T,T,F] rfl rfl s2_ (by decide) (fun K hK => ?_)
 refine goes_ Try.func27 s2_ rfl #[.agg #[.slice Ao33 t353.length co33, .slice Ao37 t356.length co37, .slice Ao38 t359.length co38], .agg #[.slice Ao74 t375.length co74, .slice Ao75 t378.length co75, .slice Ao76 t381.length co76]] (by rfl) rfl rfl s3_ ?_
 with_reducible refine (laws_eqPresence.calls kj13 _ _ t353 _ _ t356 _ _ t359 _ _ t375 _ _ t378 _ _ t381 true _ ?side1 ?side2 ?side3 ?side4 ?side5 ?side6 ?side7 ?side8 ?side9 ?side10 ?side11 ?side12 A68.out).mono ?_
 (case side1 => exact y2_ (Kd.R_reads' HO_363000.out).2.2)
 (case side2 => exact (Kd.R_reads' HO_363000.out).2.1)
 (case side3 => exact y2_ (Kd.R_reads' HO_363001.out).2.2)
 (case side4 => exact (Kd.R_reads' HO_363001.out).2.1)
 (case side5 => exact y2_ (Kd.R_reads' HO_363002.out).2.2)
 (case side6 => exact (Kd.R_reads' HO_363002.out).2.1)
 (case side7 => exact y2_ (Kd.R_reads' HO377.out).2.2)
 (case side8 => exact (Kd.R_reads' HO377.out).2.1)
 (case side9 => exact y2_ (Kd.R_reads' HO380.out).2.2)
 (case side10 => exact (Kd.R_reads' HO380.out).2.1)
 (case side11 => exact y2_ (Kd.R_reads' HO383.out).2.2)
 (case side12 => exact (Kd.R_reads' HO383.out).2.1)
 rintro e w77 ⟨rfl, hb⟩
 refine ⟨_, rfl, ?_⟩
 replace HO_353000 := r1_ HO_353000 hb
 replace HO_353001 := r1_ HO_353001 hb
 replace HO_353002 := r1_ HO_353002 hb
 replace HO_363000 := r1_ HO_363000 hb
 replace HO_363001 := r1_ HO_363001 hb
 replace HO_363002 := r1_ HO_363002 hb
 replace HO_374000 := r1_ HO_374000 hb
 replace HO_374001 := r1_ HO_374001 hb
 replace HO_374002 := r1_ HO_374002 hb
 replace HO377 := r1_ HO377 hb
 replace HO380 := r1_ HO380 hb
 replace HO383 := r1_ HO383 hb
 replace BK331 := b3_ BK331 hb
 replace BK352 := b3_ BK352 hb
 replace BK362 := b3_ BK362 hb
 replace BK373 := b3_ BK373 hb
 replace HB := Aside0.mk (below_step (y1_ HB.out) hb)
 (try clear hb)
 (try clear hb2)
 (try clear hk)
 (try clear hi)
 refine hK.out _ _ ⟨(blk_cell BK362.out 0).trans rfl, (blk_cell BK362.out 1).trans rfl, (blk_cell BK362.out 2).trans rfl, (blk_cell BK331.out 0).trans rfl, (blk_cell BK331.out 1).trans rfl, (blk_cell BK331.out 2).trans rfl⟩ (fun hHeld => ?_)
 clear hK K
 refine norm_ (a' := ?_) ?_ ?_
 rotate_left
 {
 show Act.put _ (some 56) _ = _
 simp only [Act.put, List.setIfInBounds_toArray, List.set_cons_zero, List.set_cons_succ, i64_w, i32_w]
 rfl}
 refine pure_ (i := 4) (N := some 57) (v := ?_) (a' := ?_) #[T,T,T,T,T] rfl rfl s2_ (fun _ _ _ h => h) (Or.inl ⟨by rfl, ?_⟩) ?_ ?_
 rotate_left
 {
 intro w'
 go_simp
 with_reducible rfl}
 rotate_left
 · exact p1_
 refine done_ s2_ ?_
 have hnb78 := NB362_331.out
 have hnc78 := NB331_362.out
 have hnb79 := NB362_352.out
 have hnc79 := NB352_362.out
 have hnb80 := NB362_373.out
 have hnc80 := NB373_362.out
 have hcz81_0 := c1_ BK362 0 (.slice Ao33 t353.length co33)
 have hcz81_1 := c1_ BK362 1 (.slice Ao37 t356.length co37)
 have hcz81_2 := c1_ BK362 2 (.slice Ao38 t359.length co38)
 have hfz81_0 := f1_ BK362 0
 have hfz81_1 := f1_ BK362 1
 have hfz81_2 := f1_ BK362 2
 go_upto_region 14 with (first | ((with_reducible refine gate_callee (f := 28) rfl ?_); refine goesL_ (some 60) rfl rfl Try.func28 s2_ rfl #[.agg #[.slice Ao33 t353.length co33, .slice Ao37 t356.length co37, .slice Ao38 t359.length co38], .int .i64 1] rfl s3_ ?_; (with_reducible refine (laws_markPresence.calls kj13 (fun k_ => some k_ = (.slice Ao33 t353.length co33 : Value).ownBlock) (.slice Ao33 t353.length co33) t353 (fun k_ => some k_ = (.slice Ao37 t356.length co37 : Value).ownBlock) (.slice Ao37 t356.length co37) t356 (fun k_ => some k_ = (.slice Ao38 t359.length co38 : Value).ownBlock) (.slice Ao38 t359.length co38) t359 1 t385 t386 t387 t388 w _ ?side1 ?side2 ?side3 ?side4 ?side5 ?side6 A70.out).mono ?_); (case side1 => repeat (first | (with_reducible first | exact HB.out | apply below_alloc | apply pw_below_drewN | apply below_drew1) | exact HB.out)); (case side2 => exact Kd.R_tight rfl HO_363000.out); (case side3 => exact fun k_ e_ => (HO_363000.out.1 k_ e_.symm).1.1.2.2.1); (case side4 => exact Kd.R_tight rfl HO_363001.out); (case side5 => exact fun k_ e_ => (HO_363001.out.1 k_ e_.symm).1.1.2.2.1); (case side6 => exact Kd.R_tight rfl HO_363002.out); rintro e w82 ⟨rfl, hy0, hy1, hy2, hb, hkp⟩; refine ⟨_, rfl, ?_⟩; have n0_ := Aside0.mk (Kd.R_mono (ok' := fun k_ => some k_ ≠ (.slice Ao28 t345.length co28 : Value).ownBlock ∧ some k_ ≠ (.slice Ao33 t353.length co33 : Value).ownBlock ∧ some k_ ≠ (.slice Ao37 t356.length co37 : Value).ownBlock ∧ some k_ ≠ (.slice Ao41 t363.length co41 : Value).ownBlock ∧ some k_ ≠ (.slice Ao46 t366.length co46 : Value).ownBlock ∧ some k_ ≠ (.slice Ao74 t375.length co74 : Value).ownBlock ∧ some k_ ≠ (.slice Ao75 t378.length co75 : Value).ownBlock) (Kd.R_keptB ((Kd.R_apart' HO_353000.out (Kd.R_typed HO_363002.out) (by decide))) hkp (fun k_ hk_ hs_ => Or.elim hs_ (fun e_ => (hk_.1.1.1.2.1) e_) (fun e_ => Or.elim e_ (fun e_ => (hk_.1.1.1.2.2.1) e_) (fun e_ => (hk_.2) e_)))) (fun k_ hk_ => ⟨hk_.1.1.1.1.1, hk_.1.1.1.1.2.1, hk_.1.1.1.1.2.2.1, hk_.1.1.1.1.2.2.2.1, hk_.1.1.1.1.2.2.2.2, hk_.1.1.1.2, hk_.1.1.2⟩)); have n1_ := Aside0.mk (Kd.R_mono (ok' := fun k_ => some k_ ≠ (.slice Ao25 t342.length co25 : Value).ownBlock ∧ some k_ ≠ (.slice Ao33 t353.length co33 : Value).ownBlock ∧ some k_ ≠ (.slice Ao37 t356.length co37 : Value).ownBlock ∧ some k_ ≠ (.slice Ao41 t363.length co41 : Value).ownBlock ∧ some k_ ≠ (.slice Ao46 t366.length co46 : Value).ownBlock ∧ some k_ ≠ (.slice Ao74 t375.length co74 : Value).ownBlock ∧ some k_ ≠ (.slice Ao75 t378.length co75 : Value).ownBlock) (Kd.R_keptB ((Kd.R_apart' HO_353001.out (Kd.R_typed HO_363002.out) (by decide))) hkp (fun k_ hk_ hs_ => Or.elim hs_ (fun e_ => (hk_.1.1.1.2.1) e_) (fun e_ => Or.elim e_ (fun e_ => (hk_.1.1.1.2.2.1) e_) (fun e_ => (hk_.2) e_)))) (fun k_ hk_ => ⟨hk_.1.1.1.1.1, hk_.1.1.1.1.2.1, hk_.1.1.1.1.2.2.1, hk_.1.1.1.1.2.2.2.1, hk_.1.1.1.1.2.2.2.2, hk_.1.1.1.2, hk_.1.1.2⟩)); have n2_ := Aside0.mk (Kd.R_mono (ok' := fun k_ => some k_ ≠ (.slice Ao38 t359.length co38 : Value).ownBlock ∧ some k_ ≠ (.slice Ao47 t369.length co47 : Value).ownBlock ∧ some k_ ≠ (.slice Ao76 t381.length co76 : Value).ownBlock) (Kd.R_keptB ((Kd.R_apart' (Kd.R_apart' HO_353002.out (Kd.R_typed HO_363000.out) (by decide)) (Kd.R_typed HO_363001.out) (by decide))) hkp (fun k_ hk_ hs_ => Or.elim hs_ (fun e_ => (hk_.1.2) e_) (fun e_ => Or.elim e_ (fun e_ => (hk_.2) e_) (fun e_ => (hk_.1.1.1.1) e_)))) (fun k_ hk_ => ⟨hk_.1.1.1.1.1, hk_.1.1.1.1.2, hk_.1.1.1.2⟩)); have n3_ := Aside0.mk (Kd.R_reok rfl hy0 (fun k_ e_ => HO_363000.out.1 k_ e_)); have n4_ := Aside0.mk (Kd.R_reok rfl hy1 (fun k_ e_ => HO_363001.out.1 k_ e_)); have n5_ := Aside0.mk (Kd.R_reok rfl hy2 (fun k_ e_ => HO_363002.out.1 k_ e_)); have n6_ := Aside0.mk (Kd.R_mono (ok' := fun k_ => some k_ ≠ (.slice Ao25 t342.length co25 : Value).ownBlock ∧ some k_ ≠ (.slice Ao28 t345.length co28 : Value).ownBlock ∧ some k_ ≠ (.slice Ao33 t353.length co33 : Value).ownBlock ∧ some k_ ≠ (.slice Ao37 t356.length co37 : Value).ownBlock ∧ some k_ ≠ (.slice Ao46 t366.length co46 : Value).ownBlock ∧ some k_ ≠ (.slice Ao74 t375.length co74 : Value).ownBlock ∧ some k_ ≠ (.slice Ao75 t378.length co75 : Value).ownBlock) (Kd.R_keptB ((Kd.R_apart' HO_374000.out (Kd.R_typed HO_363002.out) (by decide))) hkp (fun k_ hk_ hs_ => Or.elim hs_ (fun e_ => (hk_.1.1.1.2.2.1) e_) (fun e_ => Or.elim e_ (fun e_ => (hk_.1.1.1.2.2.2.1) e_) (fun e_ => (hk_.2) e_)))) (fun k_ hk_ => ⟨hk_.1.1.1.1.1, hk_.1.1.1.1.2.1, hk_.1.1.1.1.2.2.1, hk_.1.1.1.1.2.2.2.1, hk_.1.1.1.1.2.2.2.2, hk_.1.1.1.2, hk_.1.1.2⟩)); have n7_ := Aside0.mk (Kd.R_mono (ok' := fun k_ => some k_ ≠ (.slice Ao25 t342.length co25 : Value).ownBlock ∧ some k_ ≠ (.slice Ao28 t345.length co28 : Value).ownBlock ∧ some k_ ≠ (.slice Ao33 t353.length co33 : Value).ownBlock ∧ some k_ ≠ (.slice Ao37 t356.length co37 : Value).ownBlock ∧ some k_ ≠ (.slice Ao41 t363.length co41 : Value).ownBlock ∧ some k_ ≠ (.slice Ao74 t375.length co74 : Value).ownBlock ∧ some k_ ≠ (.slice Ao75 t378.length co75 : Value).ownBlock) (Kd.R_keptB ((Kd.R_apart' HO_374001.out (Kd.R_typed HO_363002.out) (by decide))) hkp (fun k_ hk_ hs_ => Or.elim hs_ (fun e_ => (hk_.1.1.1.2.2.1) e_) (fun e_ => Or.elim e_ (fun e_ => (hk_.1.1.1.2.2.2.1) e_) (fun e_ => (hk_.2) e_)))) (fun k_ hk_ => ⟨hk_.1.1.1.1.1, hk_.1.1.1.1.2.1, hk_.1.1.1.1.2.2.1, hk_.1.1.1.1.2.2.2.1, hk_.1.1.1.1.2.2.2.2, hk_.1.1.1.2, hk_.1.1.2⟩)); have n8_ := Aside0.mk (Kd.R_mono (ok' := fun k_ => some k_ ≠ (.slice Ao29 t348.length co29 : Value).ownBlock ∧ some k_ ≠ (.slice Ao38 t359.length co38 : Value).ownBlock ∧ some k_ ≠ (.slice Ao76 t381.length co76 : Value).ownBlock) (Kd.R_keptB ((Kd.R_apart' (Kd.R_apart' HO_374002.out (Kd.R_typed HO_363000.out) (by decide)) (Kd.R_typed HO_363001.out) (by decide))) hkp (fun k_ hk_ hs_ => Or.elim hs_ (fun e_ => (hk_.1.2) e_) (fun e_ => Or.elim e_ (fun e_ => (hk_.2) e_) (fun e_ => (hk_.1.1.1.2) e_)))) (fun k_ hk_ => ⟨hk_.1.1.1.1.1, hk_.1.1.1.1.2, hk_.1.1.1.2⟩)); have n9_ := Aside0.mk (blk_kept (b1_ BK331.out) hkp (fun hs_ => Or.elim hs_ (fun e_ => (fun e_ => (Kd.R_ne HO_363000.out BK331.out (by decide)) e_) e_) (fun e_ => Or.elim e_ (fun e_ => (fun e_ => (Kd.R_ne HO_363001.out BK331.out (by decide)) e_) e_) (fun e_ => (fun e_ => (Kd.R_ne HO_363002.out BK331.out (by decide)) e_) e_)))); have n10_ := Aside0.mk (blk_kept (b1_ BK352.out) hkp (fun hs_ => Or.elim hs_ (fun e_ => (fun e_ => (Kd.R_ne HO_363000.out BK352.out (by decide)) e_) e_) (fun e_ => Or.elim e_ (fun e_ => (fun e_ => (Kd.R_ne HO_363001.out BK352.out (by decide)) e_) e_) (fun e_ => (fun e_ => (Kd.R_ne HO_363002.out BK352.out (by decide)) e_) e_)))); have n11_ := Aside0.mk (blk_kept (b1_ BK362.out) hkp (fun hs_ => Or.elim hs_ (fun e_ => (fun e_ => (Kd.R_ne HO_363000.out BK362.out (by decide)) e_) e_) (fun e_ => Or.elim e_ (fun e_ => (fun e_ => (Kd.R_ne HO_363001.out BK362.out (by decide)) e_) e_) (fun e_ => (fun e_ => (Kd.R_ne HO_363002.out BK362.out (by decide)) e_) e_)))); have n12_ := Aside0.mk (blk_kept (b1_ BK373.out) hkp (fun hs_ => Or.elim hs_ (fun e_ => (fun e_ => (Kd.R_ne HO_363000.out BK373.out (by decide)) e_) e_) (fun e_ => Or.elim e_ (fun e_ => (fun e_ => (Kd.R_ne HO_363001.out BK373.out (by decide)) e_) e_) (fun e_ => (fun e_ => (Kd.R_ne HO_363002.out BK373.out (by decide)) e_) e_)))); have n13_ := Aside0.mk (Kd.R_mono (ok' := fun k_ => some k_ ≠ (.slice Ao25 t342.length co25 : Value).ownBlock ∧ some k_ ≠ (.slice Ao28 t345.length co28 : Value).ownBlock ∧ some k_ ≠ (.slice Ao33 t353.length co33 : Value).ownBlock ∧ some k_ ≠ (.slice Ao37 t356.length co37 : Value).ownBlock ∧ some k_ ≠ (.slice Ao41 t363.length co41 : Value).ownBlock ∧ some k_ ≠ (.slice Ao46 t366.length co46 : Value).ownBlock ∧ some k_ ≠ (.slice Ao75 t378.length co75 : Value).ownBlock) (Kd.R_keptB ((Kd.R_apart' HO377.out (Kd.R_typed HO_363002.out) (by decide))) hkp (fun k_ hk_ hs_ => Or.elim hs_ (fun e_ => (hk_.1.1.1.1.2) e_) (fun e_ => Or.elim e_ (fun e_ => (hk_.1.1.1.2) e_) (fun e_ => (hk_.2) e_)))) (fun k_ hk_ => ⟨hk_.1.1.1.1.1.1.1.2, hk_.1.1.1.1.1.1.2, hk_.1.1.1.1.1.2, hk_.1.1.1.1.2, hk_.1.1.1.2, hk_.1.1.2, hk_.1.1.1.1.1.1.1.1⟩)); have n14_ := Aside0.mk (Kd.R_mono (ok' := fun k_ => some k_ ≠ (.slice Ao25 t342.length co25 : Value).ownBlock ∧ some k_ ≠ (.slice Ao28 t345.length co28 : Value).ownBlock ∧ some k_ ≠ (.slice Ao33 t353.length co33 : Value).ownBlock ∧ some k_ ≠ (.slice Ao37 t356.length co37 : Value).ownBlock ∧ some k_ ≠ (.slice Ao41 t363.length co41 : Value).ownBlock ∧ some k_ ≠ (.slice Ao46 t366.length co46 : Value).ownBlock ∧ some k_ ≠ (.slice Ao74 t375.length co74 : Value).ownBlock) (Kd.R_keptB ((Kd.R_apart' HO380.out (Kd.R_typed HO_363002.out) (by decide))) hkp (fun k_ hk_ hs_ => Or.elim hs_ (fun e_ => (hk_.1.1.1.1.2) e_) (fun e_ => Or.elim e_ (fun e_ => (hk_.1.1.1.2) e_) (fun e_ => (hk_.2) e_)))) (fun k_ hk_ => ⟨hk_.1.1.1.1.1.1.1.2, hk_.1.1.1.1.1.1.2, hk_.1.1.1.1.1.2, hk_.1.1.1.1.2, hk_.1.1.1.2, hk_.1.1.2, hk_.1.1.1.1.1.1.1.1⟩)); have n15_ := Aside0.mk (Kd.R_mono (ok' := fun k_ => some k_ ≠ (.slice Ao29 t348.length co29 : Value).ownBlock ∧ some k_ ≠ (.slice Ao38 t359.length co38 : Value).ownBlock ∧ some k_ ≠ (.slice Ao47 t369.length co47 : Value).ownBlock) (Kd.R_keptB ((Kd.R_apart' (Kd.R_apart' HO383.out (Kd.R_typed HO_363000.out) (by decide)) (Kd.R_typed HO_363001.out) (by decide))) hkp (fun k_ hk_ hs_ => Or.elim hs_ (fun e_ => (hk_.1.2) e_) (fun e_ => Or.elim e_ (fun e_ => (hk_.2) e_) (fun e_ => (hk_.1.1.1.2) e_)))) (fun k_ hk_ => ⟨hk_.1.1.1.1.1.2, hk_.1.1.1.1.2, hk_.1.1.1.2⟩)); have n16_ := Aside0.mk (hb); clear HO_353000; clear HO_353001; clear HO_353002; clear HO_363000; clear HO_363001; clear HO_363002; clear HO_374000; clear HO_374001; clear HO_374002; clear BK331; clear BK352; clear BK362; clear BK373; clear HO377; clear HO380; clear HO383; clear HB; have HO_353000 := n0_; have HO_353001 := n1_; have HO_353002 := n2_; have HO_363000 := n3_; have HO_363001 := n4_; have HO_363002 := n5_; have HO_374000 := n6_; have HO_374001 := n7_; have HO_374002 := n8_; have BK331 := n9_; have BK352 := n10_; have BK362 := n11_; have BK373 := n12_; have HO377 := n13_; have HO380 := n14_; have HO383 := n15_; have HB := n16_; clear n0_ n1_ n2_ n3_ n4_ n5_ n6_ n7_ n8_ n9_ n10_ n11_ n12_ n13_ n14_ n15_ n16_; (try clear hb); (try clear hkp); (try clear hy0); (try clear hy1); (try clear hy2)))
 (try simp only [Act.put, List.setIfInBounds_toArray, List.set_cons_zero, List.set_cons_succ])
 go_cut [73] (fun v73 wc => ∃ (kq : Nat) (x73_70 : Bool), v73 = .bool x73_70 ∧ Aside0 (laws_FnExactHeartbeat.j1 kq a1 a2 a3 t351 x73_70 l0_0 l0_1 l0_2 t342 t345 t348 t363 t366 t369 = some r) ∧ Aside0 (kq ≤ kj13) ∧ Aside0 (Kd.R k63 63 wc w.heap.size (fun k_ => some k_ ≠ ((.slice Ao28 t345.length co28) : Value).ownBlock ∧ some k_ ≠ ((.slice Ao33 t353.length co33) : Value).ownBlock ∧ some k_ ≠ ((.slice Ao37 t356.length co37) : Value).ownBlock ∧ some k_ ≠ ((.slice Ao41 t363.length co41) : Value).ownBlock ∧ some k_ ≠ ((.slice Ao46 t366.length co46) : Value).ownBlock) (.slice Ao25 t342.length co25) t342) ∧ Aside0 (Kd.R k63 63 wc w.heap.size (fun k_ => some k_ ≠ ((.slice Ao25 t342.length co25) : Value).ownBlock ∧ some k_ ≠ ((.slice Ao33 t353.length co33) : Value).ownBlock ∧ some k_ ≠ ((.slice Ao37 t356.length co37) : Value).ownBlock ∧ some k_ ≠ ((.slice Ao41 t363.length co41) : Value).ownBlock ∧ some k_ ≠ ((.slice Ao46 t366.length co46) : Value).ownBlock) (.slice Ao28 t345.length co28) t345) ∧ Aside0 (Kd.R k73 73 wc w.heap.size (fun k_ => some k_ ≠ ((.slice Ao38 t359.length co38) : Value).ownBlock ∧ some k_ ≠ ((.slice Ao47 t369.length co47) : Value).ownBlock) (.slice Ao29 t348.length co29) t348) ∧ Aside0 (Kd.R k63 63 wc w.heap.size (fun k_ => some k_ ≠ ((.slice Ao25 t342.length co25) : Value).ownBlock ∧ some k_ ≠ ((.slice Ao28 t345.length co28) : Value).ownBlock ∧ some k_ ≠ ((.slice Ao37 t356.length co37) : Value).ownBlock ∧ some k_ ≠ ((.slice Ao41 t363.length co41) : Value).ownBlock ∧ some k_ ≠ ((.slice Ao46 t366.length co46) : Value).ownBlock) (.slice Ao33 t353.length co33) t386) ∧ Aside0 (Kd.R k63 63 wc w.heap.size (fun k_ => some k_ ≠ ((.slice Ao25 t342.length co25) : Value).ownBlock ∧ some k_ ≠ ((.slice Ao28 t345.length co28) : Value).ownBlock ∧ some k_ ≠ ((.slice Ao33 t353.length co33) : Value).ownBlock ∧ some k_ ≠ ((.slice Ao41 t363.length co41) : Value).ownBlock ∧ some k_ ≠ ((.slice Ao46 t366.length co46) : Value).ownBlock) (.slice Ao37 t356.length co37) t387) ∧ Aside0 (Kd.R k73 73 wc w.heap.size (fun k_ => some k_ ≠ ((.slice Ao29 t348.length co29) : Value).ownBlock ∧ some k_ ≠ ((.slice Ao47 t369.length co47) : Value).ownBlock) (.slice Ao38 t359.length co38) t388) ∧ Aside0 (Kd.R k63 63 wc w.heap.size (fun k_ => some k_ ≠ ((.slice Ao25 t342.length co25) : Value).ownBlock ∧ some k_ ≠ ((.slice Ao28 t345.length co28) : Value).ownBlock ∧ some k_ ≠ ((.slice Ao33 t353.length co33) : Value).ownBlock ∧ some k_ ≠ ((.slice Ao37 t356.length co37) : Value).ownBlock ∧ some k_ ≠ ((.slice Ao46 t366.length co46) : Value).ownBlock) (.slice Ao41 t363.length co41) t363) ∧ Aside0 (Kd.R k63 63 wc w.heap.size (fun k_ => some k_ ≠ ((.slice Ao25 t342.length co25) : Value).ownBlock ∧ some k_ ≠ ((.slice Ao28 t345.length co28) : Value).ownBlock ∧ some k_ ≠ ((.slice Ao33 t353.length co33) : Value).ownBlock ∧ some k_ ≠ ((.slice Ao37 t356.length co37) : Value).ownBlock ∧ some k_ ≠ ((.slice Ao41 t363.length co41) : Value).ownBlock) (.slice Ao46 t366.length co46) t366) ∧ Aside0 (Kd.R k73 73 wc w.heap.size (fun k_ => some k_ ≠ ((.slice Ao29 t348.length co29) : Value).ownBlock ∧ some k_ ≠ ((.slice Ao38 t359.length co38) : Value).ownBlock) (.slice Ao47 t369.length co47) t369) ∧ Aside0 (wc.heap[gb331]? = some (.cells #[(.slice A0_0 l0_0.length c0_0), (.slice A0_1 l0_1.length c0_1), (.slice A0_2 l0_2.length c0_2)] 45 (0, 0))) ∧ Aside0 (wc.heap[gb352]? = some (.cells #[(.slice Ao25 t342.length co25), (.slice Ao28 t345.length co28), (.slice Ao29 t348.length co29)] 27 (0, 0))) ∧ Aside0 (wc.heap[gb362]? = some (.cells #[(.slice Ao33 t353.length co33), (.slice Ao37 t356.length co37), (.slice Ao38 t359.length co38)] 27 (0, 0))) ∧ Aside0 (wc.heap[gb373]? = some (.cells #[(.slice Ao41 t363.length co41), (.slice Ao46 t366.length co46), (.slice Ao47 t369.length co47)] 27 (0, 0))) ∧ Aside0 (Below w.heap.size w wc))
 case first =>
  as_aux_lemma =>
   skip
   {
 have H := HC71.out
 clear HC71
 by_cases c83 : t385 < 0
 {
 rw [if_pos c83] at H
 have c83b0 : decide (t385 < 0) = true := decide_eq_true c83
 clear c83
 (first | rw [c83b0] | (simp only [i64_w, i32_w]; rw [c83b0]) | skip)
 have H' := Aside0.mk H
 clear H
 go_wp2
 go_meet
 case rel => exact ⟨_, (true), s1_, H', ⟨by have := HJ13.out; first | omega | exact Nat.le_refl _⟩, ⟨by (with_reducible repeat (first | apply Kd.R_alloc | apply Kd.R_drewN | apply Kd.R_drew)); exact Kd.R_mono HO_353000.out (fun _ hk => ⟨hk.1, ⟨hk.2.1, ⟨hk.2.2.1, ⟨hk.2.2.2.1, hk.2.2.2.2.1⟩⟩⟩⟩)⟩, ⟨by (with_reducible repeat (first | apply Kd.R_alloc | apply Kd.R_drewN | apply Kd.R_drew)); exact Kd.R_mono HO_353001.out (fun _ hk => ⟨hk.1, ⟨hk.2.1, ⟨hk.2.2.1, ⟨hk.2.2.2.1, hk.2.2.2.2.1⟩⟩⟩⟩)⟩, ⟨by (with_reducible repeat (first | apply Kd.R_alloc | apply Kd.R_drewN | apply Kd.R_drew)); exact Kd.R_mono HO_353002.out (fun _ hk => ⟨hk.1, hk.2.1⟩)⟩, ⟨by (with_reducible repeat (first | apply Kd.R_alloc | apply Kd.R_drewN | apply Kd.R_drew)); exact Kd.R_mono HO_363000.out (fun _ hk => ⟨hk.1.1.1, ⟨hk.1.1.2.1, ⟨hk.1.1.2.2.1, ⟨hk.1.1.2.2.2.1, hk.1.1.2.2.2.2⟩⟩⟩⟩)⟩, ⟨by (with_reducible repeat (first | apply Kd.R_alloc | apply Kd.R_drewN | apply Kd.R_drew)); exact Kd.R_mono HO_363001.out (fun _ hk => ⟨hk.1.1.1, ⟨hk.1.1.2.1, ⟨hk.1.1.2.2.1, ⟨hk.1.1.2.2.2.1, hk.1.1.2.2.2.2⟩⟩⟩⟩)⟩, ⟨by (with_reducible repeat (first | apply Kd.R_alloc | apply Kd.R_drewN | apply Kd.R_drew)); exact Kd.R_mono HO_363002.out (fun _ hk => ⟨hk.1.1, hk.1.2⟩)⟩, ⟨by (with_reducible repeat (first | apply Kd.R_alloc | apply Kd.R_drewN | apply Kd.R_drew)); exact Kd.R_mono HO_374000.out (fun _ hk => ⟨hk.1, ⟨hk.2.1, ⟨hk.2.2.1, ⟨hk.2.2.2.1, hk.2.2.2.2.1⟩⟩⟩⟩)⟩, ⟨by (with_reducible repeat (first | apply Kd.R_alloc | apply Kd.R_drewN | apply Kd.R_drew)); exact Kd.R_mono HO_374001.out (fun _ hk => ⟨hk.1, ⟨hk.2.1, ⟨hk.2.2.1, ⟨hk.2.2.2.1, hk.2.2.2.2.1⟩⟩⟩⟩)⟩, ⟨by (with_reducible repeat (first | apply Kd.R_alloc | apply Kd.R_drewN | apply Kd.R_drew)); exact Kd.R_mono HO_374002.out (fun _ hk => ⟨hk.1, hk.2.1⟩)⟩, ⟨b1_ BK331.out⟩, ⟨b1_ BK352.out⟩, ⟨b1_ BK362.out⟩, ⟨b1_ BK373.out⟩, ⟨by repeat (first | (with_reducible first | exact HB.out | apply below_alloc | apply pw_below_drewN | apply below_drew1) | exact HB.out)⟩⟩}
 {
 rw [if_neg c83] at H
 have c83b0 : decide (t385 < 0) = false := decide_eq_false c83
 clear c83
 (first | rw [c83b0] | (simp only [i64_w, i32_w]; rw [c83b0]) | skip)
 replace H := Option.bind_eq_some_iff.mp H
 obtain ⟨t389, A840, H⟩ := H
 replace H : (if t389 = true then (laws_FnExactHeartbeat.j1 kj13 a1 a2 a3 t351 (t372 != t351) l0_0 l0_1 l0_2 t342 t345 t348 t363 t366 t369) else (laws_FnExactHeartbeat.j1 kj13 a1 a2 a3 t351 true l0_0 l0_1 l0_2 t342 t345 t348 t363 t366 t369)) = some r := H
 have A84 := Aside0.mk A840
 clear A840
 by_cases c85 : t389 = true
 {
 subst c85
 have H1 : (laws_FnExactHeartbeat.j1 kj13 a1 a2 a3 t351 (t372 != t351) l0_0 l0_1 l0_2 t342 t345 t348 t363 t366 t369) = some r := by rw [if_pos rfl] at H; exact H
 clear H
 have H := H1
 clear H1
 have H' := Aside0.mk H
 clear H
 have hnb86 := NB373_331.out
 have hnc86 := NB331_373.out
 have hnb87 := NB373_352.out
 have hnc87 := NB352_373.out
 have hnb88 := NB373_362.out
 have hnc88 := NB362_373.out
 have hcz89_0 := c1_ BK373 0 (.slice Ao41 t363.length co41)
 have hcz89_1 := c1_ BK373 1 (.slice Ao46 t366.length co46)
 have hcz89_2 := c1_ BK373 2 (.slice Ao47 t369.length co47)
 have hfz89_0 := f1_ BK373 0
 have hfz89_1 := f1_ BK373 1
 have hfz89_2 := f1_ BK373 2
 have hnb90 := NB352_331.out
 have hnc90 := NB331_352.out
 have hnb91 := NB352_362.out
 have hnc91 := NB362_352.out
 have hcz92_0 := c1_ BK352 0 (.slice Ao25 t342.length co25)
 have hcz92_1 := c1_ BK352 1 (.slice Ao28 t345.length co28)
 have hcz92_2 := c1_ BK352 2 (.slice Ao29 t348.length co29)
 have hfz92_0 := f1_ BK352 0
 have hfz92_1 := f1_ BK352 1
 have hfz92_2 := f1_ BK352 2
 go_wp2_with (first | (go_at_call 27; (with_reducible refine (laws_eqPresence.calls kj13 _ _ t363 _ _ t366 _ _ t369 _ _ t342 _ _ t345 _ _ t348 true _ ?side1 ?side2 ?side3 ?side4 ?side5 ?side6 ?side7 ?side8 ?side9 ?side10 ?side11 ?side12 A84.out).mono ?_); (case side1 => exact y2_ (Kd.R_reads' HO_374000.out).2.2); (case side2 => exact (Kd.R_reads' HO_374000.out).2.1); (case side3 => exact y2_ (Kd.R_reads' HO_374001.out).2.2); (case side4 => exact (Kd.R_reads' HO_374001.out).2.1); (case side5 => exact y2_ (Kd.R_reads' HO_374002.out).2.2); (case side6 => exact (Kd.R_reads' HO_374002.out).2.1); (case side7 => exact y2_ (Kd.R_reads' HO_353000.out).2.2); (case side8 => exact (Kd.R_reads' HO_353000.out).2.1); (case side9 => exact y2_ (Kd.R_reads' HO_353001.out).2.2); (case side10 => exact (Kd.R_reads' HO_353001.out).2.1); (case side11 => exact y2_ (Kd.R_reads' HO_353002.out).2.2); (case side12 => exact (Kd.R_reads' HO_353002.out).2.1); rintro e w93 ⟨rfl, hb⟩; replace HO_353000 := r1_ HO_353000 hb; replace HO_353001 := r1_ HO_353001 hb; replace HO_353002 := r1_ HO_353002 hb; replace HO_363000 := r1_ HO_363000 hb; replace HO_363001 := r1_ HO_363001 hb; replace HO_363002 := r1_ HO_363002 hb; replace HO_374000 := r1_ HO_374000 hb; replace HO_374001 := r1_ HO_374001 hb; replace HO_374002 := r1_ HO_374002 hb; replace HO377 := r1_ HO377 hb; replace HO380 := r1_ HO380 hb; replace HO383 := r1_ HO383 hb; replace BK331 := b3_ BK331 hb; replace BK352 := b3_ BK352 hb; replace BK362 := b3_ BK362 hb; replace BK373 := b3_ BK373 hb; replace HB := Aside0.mk (below_step (y1_ HB.out) hb); (try clear hb); (try clear hb2); (try clear hk); (try clear hi)))
 go_meet
 case rel => exact ⟨_, ((t372 != t351)), s1_, H', ⟨by have := HJ13.out; first | omega | exact Nat.le_refl _⟩, ⟨by (with_reducible repeat (first | apply Kd.R_alloc | apply Kd.R_drewN | apply Kd.R_drew)); exact Kd.R_mono HO_353000.out (fun _ hk => ⟨hk.1, ⟨hk.2.1, ⟨hk.2.2.1, ⟨hk.2.2.2.1, hk.2.2.2.2.1⟩⟩⟩⟩)⟩, ⟨by (with_reducible repeat (first | apply Kd.R_alloc | apply Kd.R_drewN | apply Kd.R_drew)); exact Kd.R_mono HO_353001.out (fun _ hk => ⟨hk.1, ⟨hk.2.1, ⟨hk.2.2.1, ⟨hk.2.2.2.1, hk.2.2.2.2.1⟩⟩⟩⟩)⟩, ⟨by (with_reducible repeat (first | apply Kd.R_alloc | apply Kd.R_drewN | apply Kd.R_drew)); exact Kd.R_mono HO_353002.out (fun _ hk => ⟨hk.1, hk.2.1⟩)⟩, ⟨by (with_reducible repeat (first | apply Kd.R_alloc | apply Kd.R_drewN | apply Kd.R_drew)); exact Kd.R_mono HO_363000.out (fun _ hk => ⟨hk.1.1.1, ⟨hk.1.1.2.1, ⟨hk.1.1.2.2.1, ⟨hk.1.1.2.2.2.1, hk.1.1.2.2.2.2⟩⟩⟩⟩)⟩, ⟨by (with_reducible repeat (first | apply Kd.R_alloc | apply Kd.R_drewN | apply Kd.R_drew)); exact Kd.R_mono HO_363001.out (fun _ hk => ⟨hk.1.1.1, ⟨hk.1.1.2.1, ⟨hk.1.1.2.2.1, ⟨hk.1.1.2.2.2.1, hk.1.1.2.2.2.2⟩⟩⟩⟩)⟩, ⟨by (with_reducible repeat (first | apply Kd.R_alloc | apply Kd.R_drewN | apply Kd.R_drew)); exact Kd.R_mono HO_363002.out (fun _ hk => ⟨hk.1.1, hk.1.2⟩)⟩, ⟨by (with_reducible repeat (first | apply Kd.R_alloc | apply Kd.R_drewN | apply Kd.R_drew)); exact Kd.R_mono HO_374000.out (fun _ hk => ⟨hk.1, ⟨hk.2.1, ⟨hk.2.2.1, ⟨hk.2.2.2.1, hk.2.2.2.2.1⟩⟩⟩⟩)⟩, ⟨by (with_reducible repeat (first | apply Kd.R_alloc | apply Kd.R_drewN | apply Kd.R_drew)); exact Kd.R_mono HO_374001.out (fun _ hk => ⟨hk.1, ⟨hk.2.1, ⟨hk.2.2.1, ⟨hk.2.2.2.1, hk.2.2.2.2.1⟩⟩⟩⟩)⟩, ⟨by (with_reducible repeat (first | apply Kd.R_alloc | apply Kd.R_drewN | apply Kd.R_drew)); exact Kd.R_mono HO_374002.out (fun _ hk => ⟨hk.1, hk.2.1⟩)⟩, ⟨b1_ BK331.out⟩, ⟨b1_ BK352.out⟩, ⟨b1_ BK362.out⟩, ⟨b1_ BK373.out⟩, ⟨by repeat (first | (with_reducible first | exact HB.out | apply below_alloc | apply pw_below_drewN | apply below_drew1) | exact HB.out)⟩⟩}
 {
 replace c85 := Bool.eq_false_iff.mpr c85
 subst c85
 have H1 : (laws_FnExactHeartbeat.j1 kj13 a1 a2 a3 t351 true l0_0 l0_1 l0_2 t342 t345 t348 t363 t366 t369) = some r := by rw [if_neg (show ¬ (false = true) by decide)] at H; exact H
 clear H
 have H := H1
 clear H1
 have H' := Aside0.mk H
 clear H
 have hnb94 := NB373_331.out
 have hnc94 := NB331_373.out
 have hnb95 := NB373_352.out
 have hnc95 := NB352_373.out
 have hnb96 := NB373_362.out
 have hnc96 := NB362_373.out
 have hcz97_0 := c1_ BK373 0 (.slice Ao41 t363.length co41)
 have hcz97_1 := c1_ BK373 1 (.slice Ao46 t366.length co46)
 have hcz97_2 := c1_ BK373 2 (.slice Ao47 t369.length co47)
 have hfz97_0 := f1_ BK373 0
 have hfz97_1 := f1_ BK373 1
 have hfz97_2 := f1_ BK373 2
 have hnb98 := NB352_331.out
 have hnc98 := NB331_352.out
 have hnb99 := NB352_362.out
 have hnc99 := NB362_352.out
 have hcz100_0 := c1_ BK352 0 (.slice Ao25 t342.length co25)
 have hcz100_1 := c1_ BK352 1 (.slice Ao28 t345.length co28)
 have hcz100_2 := c1_ BK352 2 (.slice Ao29 t348.length co29)
 have hfz100_0 := f1_ BK352 0
 have hfz100_1 := f1_ BK352 1
 have hfz100_2 := f1_ BK352 2
 go_wp2_with (first | (go_at_call 27; (with_reducible refine (laws_eqPresence.calls kj13 _ _ t363 _ _ t366 _ _ t369 _ _ t342 _ _ t345 _ _ t348 false _ ?side1 ?side2 ?side3 ?side4 ?side5 ?side6 ?side7 ?side8 ?side9 ?side10 ?side11 ?side12 A84.out).mono ?_); (case side1 => exact y2_ (Kd.R_reads' HO_374000.out).2.2); (case side2 => exact (Kd.R_reads' HO_374000.out).2.1); (case side3 => exact y2_ (Kd.R_reads' HO_374001.out).2.2); (case side4 => exact (Kd.R_reads' HO_374001.out).2.1); (case side5 => exact y2_ (Kd.R_reads' HO_374002.out).2.2); (case side6 => exact (Kd.R_reads' HO_374002.out).2.1); (case side7 => exact y2_ (Kd.R_reads' HO_353000.out).2.2); (case side8 => exact (Kd.R_reads' HO_353000.out).2.1); (case side9 => exact y2_ (Kd.R_reads' HO_353001.out).2.2); (case side10 => exact (Kd.R_reads' HO_353001.out).2.1); (case side11 => exact y2_ (Kd.R_reads' HO_353002.out).2.2); (case side12 => exact (Kd.R_reads' HO_353002.out).2.1); rintro e w101 ⟨rfl, hb⟩; replace HO_353000 := r1_ HO_353000 hb; replace HO_353001 := r1_ HO_353001 hb; replace HO_353002 := r1_ HO_353002 hb; replace HO_363000 := r1_ HO_363000 hb; replace HO_363001 := r1_ HO_363001 hb; replace HO_363002 := r1_ HO_363002 hb; replace HO_374000 := r1_ HO_374000 hb; replace HO_374001 := r1_ HO_374001 hb; replace HO_374002 := r1_ HO_374002 hb; replace HO377 := r1_ HO377 hb; replace HO380 := r1_ HO380 hb; replace HO383 := r1_ HO383 hb; replace BK331 := b3_ BK331 hb; replace BK352 := b3_ BK352 hb; replace BK362 := b3_ BK362 hb; replace BK373 := b3_ BK373 hb; replace HB := Aside0.mk (below_step (y1_ HB.out) hb); (try clear hb); (try clear hb2); (try clear hk); (try clear hi)))
 go_meet
 case rel => exact ⟨_, (true), s1_, H', ⟨by have := HJ13.out; first | omega | exact Nat.le_refl _⟩, ⟨by (with_reducible repeat (first | apply Kd.R_alloc | apply Kd.R_drewN | apply Kd.R_drew)); exact Kd.R_mono HO_353000.out (fun _ hk => ⟨hk.1, ⟨hk.2.1, ⟨hk.2.2.1, ⟨hk.2.2.2.1, hk.2.2.2.2.1⟩⟩⟩⟩)⟩, ⟨by (with_reducible repeat (first | apply Kd.R_alloc | apply Kd.R_drewN | apply Kd.R_drew)); exact Kd.R_mono HO_353001.out (fun _ hk => ⟨hk.1, ⟨hk.2.1, ⟨hk.2.2.1, ⟨hk.2.2.2.1, hk.2.2.2.2.1⟩⟩⟩⟩)⟩, ⟨by (with_reducible repeat (first | apply Kd.R_alloc | apply Kd.R_drewN | apply Kd.R_drew)); exact Kd.R_mono HO_353002.out (fun _ hk => ⟨hk.1, hk.2.1⟩)⟩, ⟨by (with_reducible repeat (first | apply Kd.R_alloc | apply Kd.R_drewN | apply Kd.R_drew)); exact Kd.R_mono HO_363000.out (fun _ hk => ⟨hk.1.1.1, ⟨hk.1.1.2.1, ⟨hk.1.1.2.2.1, ⟨hk.1.1.2.2.2.1, hk.1.1.2.2.2.2⟩⟩⟩⟩)⟩, ⟨by (with_reducible repeat (first | apply Kd.R_alloc | apply Kd.R_drewN | apply Kd.R_drew)); exact Kd.R_mono HO_363001.out (fun _ hk => ⟨hk.1.1.1, ⟨hk.1.1.2.1, ⟨hk.1.1.2.2.1, ⟨hk.1.1.2.2.2.1, hk.1.1.2.2.2.2⟩⟩⟩⟩)⟩, ⟨by (with_reducible repeat (first | apply Kd.R_alloc | apply Kd.R_drewN | apply Kd.R_drew)); exact Kd.R_mono HO_363002.out (fun _ hk => ⟨hk.1.1, hk.1.2⟩)⟩, ⟨by (with_reducible repeat (first | apply Kd.R_alloc | apply Kd.R_drewN | apply Kd.R_drew)); exact Kd.R_mono HO_374000.out (fun _ hk => ⟨hk.1, ⟨hk.2.1, ⟨hk.2.2.1, ⟨hk.2.2.2.1, hk.2.2.2.2.1⟩⟩⟩⟩)⟩, ⟨by (with_reducible repeat (first | apply Kd.R_alloc | apply Kd.R_drewN | apply Kd.R_drew)); exact Kd.R_mono HO_374001.out (fun _ hk => ⟨hk.1, ⟨hk.2.1, ⟨hk.2.2.1, ⟨hk.2.2.2.1, hk.2.2.2.2.1⟩⟩⟩⟩)⟩, ⟨by (with_reducible repeat (first | apply Kd.R_alloc | apply Kd.R_drewN | apply Kd.R_drew)); exact Kd.R_mono HO_374002.out (fun _ hk => ⟨hk.1, hk.2.1⟩)⟩, ⟨b1_ BK331.out⟩, ⟨b1_ BK352.out⟩, ⟨b1_ BK362.out⟩, ⟨b1_ BK373.out⟩, ⟨by repeat (first | (with_reducible first | exact HB.out | apply below_alloc | apply pw_below_drewN | apply below_drew1) | exact HB.out)⟩⟩}}}
 case rest =>
  skip
  {
 clear HC71
 try clear c1
 try clear c2
 try clear p2
 try clear c3
 try clear c4
 try clear c5
 try clear c6
 try clear c6b0
 try clear c7
 try clear c8
 try clear c9
 try clear c14
 try clear c24
 try clear c26
 try clear c27
 try clear c28
 try clear c32
 try clear c34
 try clear c35
 try clear c42
 try clear c43
 try clear c44
 try clear c49
 try clear c50
 try clear c51
 try clear c52
 try clear c54
 try clear c55
 try clear c58
 try clear c59
 try clear c60
 try clear c62
 try clear c63
 try clear c66
 try clear c69
 try clear c78
 try clear c79
 try clear c80
 try clear c83
 try clear c83b0
 try clear c85
 try clear c86
 try clear c87
 try clear c88
 try clear c90
 try clear c91
 try clear c94
 try clear c95
 try clear c96
 try clear c98
 try clear c99
 try clear hcz100_0
 try clear hcz100_1
 try clear hcz100_2
 try clear hcz16_0
 try clear hcz16_1
 try clear hcz16_2
 try clear hcz18_0
 try clear hcz18_1
 try clear hcz18_2
 try clear hcz27_0
 try clear hcz27_1
 try clear hcz27_2
 try clear hcz30_0
 try clear hcz30_1
 try clear hcz30_2
 try clear hcz36_0
 try clear hcz36_1
 try clear hcz36_2
 try clear hcz45_0
 try clear hcz45_1
 try clear hcz45_2
 try clear hcz53_0
 try clear hcz53_1
 try clear hcz53_2
 try clear hcz56_0
 try clear hcz56_1
 try clear hcz56_2
 try clear hcz61_0
 try clear hcz61_1
 try clear hcz61_2
 try clear hcz64_0
 try clear hcz64_1
 try clear hcz64_2
 try clear hcz81_0
 try clear hcz81_1
 try clear hcz81_2
 try clear hcz89_0
 try clear hcz89_1
 try clear hcz89_2
 try clear hcz8_0
 try clear hcz8_1
 try clear hcz8_2
 try clear hcz92_0
 try clear hcz92_1
 try clear hcz92_2
 try clear hcz97_0
 try clear hcz97_1
 try clear hcz97_2
 try clear hfz100_0
 try clear hfz100_1
 try clear hfz100_2
 try clear hfz16_0
 try clear hfz16_1
 try clear hfz16_2
 try clear hfz18_0
 try clear hfz18_1
 try clear hfz18_2
 try clear hfz27_0
 try clear hfz27_1
 try clear hfz27_2
 try clear hfz30_0
 try clear hfz30_1
 try clear hfz30_2
 try clear hfz36_0
 try clear hfz36_1
 try clear hfz36_2
 try clear hfz45_0
 try clear hfz45_1
 try clear hfz45_2
 try clear hfz53_0
 try clear hfz53_1
 try clear hfz53_2
 try clear hfz56_0
 try clear hfz56_1
 try clear hfz56_2
 try clear hfz61_0
 try clear hfz61_1
 try clear hfz61_2
 try clear hfz64_0
 try clear hfz64_1
 try clear hfz64_2
 try clear hfz81_0
 try clear hfz81_1
 try clear hfz81_2
 try clear hfz89_0
 try clear hfz89_1
 try clear hfz89_2
 try clear hfz8_0
 try clear hfz8_1
 try clear hfz8_2
 try clear hfz92_0
 try clear hfz92_1
 try clear hfz92_2
 try clear hfz97_0
 try clear hfz97_1
 try clear hfz97_2
 try clear p2
 obtain ⟨kq, x73_70, rfl, HA, HJ70, HO_353000, HO_353001, HO_353002, HO_363000, HO_363001, HO_363002, HO_374000, HO_374001, HO_374002, BK331, BK352, BK362, BK373, HB⟩ := hcut
 have hl363000_70 := (Kd.R_reads' HO_363000.out).1
 rw [hl363000_70] at HO_363000
 (try simp only [hl363000_70])
 (try simp only [hl363000_70] at BK331)
 (try simp only [hl363000_70] at BK352)
 (try simp only [hl363000_70] at BK362)
 (try simp only [hl363000_70] at BK373)
 (try simp only [hl363000_70] at HO_353000)
 (try simp only [hl363000_70] at HO_353001)
 (try simp only [hl363000_70] at HO_353002)
 (try simp only [hl363000_70] at HO_363001)
 (try simp only [hl363000_70] at HO_363002)
 (try simp only [hl363000_70] at HO_374000)
 (try simp only [hl363000_70] at HO_374001)
 (try simp only [hl363000_70] at HO_374002)
 have hl363001_70 := (Kd.R_reads' HO_363001.out).1
 rw [hl363001_70] at HO_363001
 (try simp only [hl363001_70])
 (try simp only [hl363001_70] at BK331)
 (try simp only [hl363001_70] at BK352)
 (try simp only [hl363001_70] at BK362)
 (try simp only [hl363001_70] at BK373)
 (try simp only [hl363001_70] at HO_353000)
 (try simp only [hl363001_70] at HO_353001)
 (try simp only [hl363001_70] at HO_353002)
 (try simp only [hl363001_70] at HO_363000)
 (try simp only [hl363001_70] at HO_363002)
 (try simp only [hl363001_70] at HO_374000)
 (try simp only [hl363001_70] at HO_374001)
 (try simp only [hl363001_70] at HO_374002)
 have hl363002_70 := (Kd.R_reads' HO_363002.out).1
 rw [hl363002_70] at HO_363002
 (try simp only [hl363002_70])
 (try simp only [hl363002_70] at BK331)
 (try simp only [hl363002_70] at BK352)
 (try simp only [hl363002_70] at BK362)
 (try simp only [hl363002_70] at BK373)
 (try simp only [hl363002_70] at HO_353000)
 (try simp only [hl363002_70] at HO_353001)
 (try simp only [hl363002_70] at HO_353002)
 (try simp only [hl363002_70] at HO_363000)
 (try simp only [hl363002_70] at HO_363001)
 (try simp only [hl363002_70] at HO_374000)
 (try simp only [hl363002_70] at HO_374001)
 (try simp only [hl363002_70] at HO_374002)
 cases kq with
 | zero => exact absurd HA.out (by simp [laws_FnExactHeartbeat.j1])
 | succ kj70 =>
  skip
  {
 have H := HA.out
 clear HA
 simp only [laws_FnExactHeartbeat.j1] at H
 by_cases c102 : x73_70 = true
 {
 subst c102
 have H1 : (some false) = some r := by rw [if_pos rfl] at H; exact H
 clear H
 have H := H1
 clear H1
 obtain rfl := Option.some.inj H
 go_wp2
 go_ret
 exact ⟨by first | rfl | (simp [errW_none, errW_some] <;> rfl) | (simp [*, errW_none, errW_some] <;> rfl), by repeat (first | (with_reducible first | exact HB.out | apply below_alloc | apply pw_below_drewN | apply below_drew1) | exact HB.out)⟩}
 {
 replace c102 := Bool.eq_false_iff.mpr c102
 subst c102
 have H1 : ((laws_markPresence.f kj70 t363 t366 t369 1).bind fun bt390 => ((laws_heldPresence.f kj70 bt390.2.1 bt390.2.2.1 bt390.2.2.2 1).bind fun t394 => (if t394 < 0 then (some false) else (if t394 = bt390.1 then ((laws_toPresence.f kj70 l0_0 l0_1 l0_2).bind fun bt395 => ((impl_Heartbeat.f kj70 bt395.1 bt395.2.1 bt395.2.2 a1 a2 a3).bind fun bt404 => ((laws_eqPresence.f kj70 bt404.1 bt404.2.1 bt404.2.2.1 t342 t345 t348).bind fun t415 => (if t415 = true then (laws_FnExactHeartbeat.j2 kj70 bt390.1 (bt404.2.2.2 != t351) bt390.2.1 bt390.2.2.1 bt390.2.2.2) else (laws_FnExactHeartbeat.j2 kj70 bt390.1 true bt390.2.1 bt390.2.2.1 bt390.2.2.2))))) else (some false))))) = some r := by rw [if_neg (show ¬ (false = true) by decide)] at H; exact H
 clear H
 have H := H1
 clear H1
 replace H := Option.bind_eq_some_iff.mp H
 obtain ⟨⟨t390, t391, t392, t393⟩, A1030, H⟩ := H
 replace H : ((laws_heldPresence.f kj70 t391 t392 t393 1).bind fun t394 => (if t394 < 0 then (some false) else (if t394 = t390 then ((laws_toPresence.f kj70 l0_0 l0_1 l0_2).bind fun bt395 => ((impl_Heartbeat.f kj70 bt395.1 bt395.2.1 bt395.2.2 a1 a2 a3).bind fun bt404 => ((laws_eqPresence.f kj70 bt404.1 bt404.2.1 bt404.2.2.1 t342 t345 t348).bind fun t415 => (if t415 = true then (laws_FnExactHeartbeat.j2 kj70 t390 (bt404.2.2.2 != t351) t391 t392 t393) else (laws_FnExactHeartbeat.j2 kj70 t390 true t391 t392 t393))))) else (some false)))) = some r := H
 have A103 := Aside0.mk A1030
 clear A1030
 replace H := Option.bind_eq_some_iff.mp H
 obtain ⟨t394, A1040, H⟩ := H
 replace H : (if t394 < 0 then (some false) else (if t394 = t390 then ((laws_toPresence.f kj70 l0_0 l0_1 l0_2).bind fun bt395 => ((impl_Heartbeat.f kj70 bt395.1 bt395.2.1 bt395.2.2 a1 a2 a3).bind fun bt404 => ((laws_eqPresence.f kj70 bt404.1 bt404.2.1 bt404.2.2.1 t342 t345 t348).bind fun t415 => (if t415 = true then (laws_FnExactHeartbeat.j2 kj70 t390 (bt404.2.2.2 != t351) t391 t392 t393) else (laws_FnExactHeartbeat.j2 kj70 t390 true t391 t392 t393))))) else (some false))) = some r := H
 have A104 := Aside0.mk A1040
 clear A1040
 by_cases c105 : t394 < 0
 {
 rw [if_pos c105] at H
 have c105b0 : decide (t394 < 0) = true := decide_eq_true c105
 clear c105
 obtain rfl := Option.some.inj H
 have hnb106 := NB373_331.out
 have hnc106 := NB331_373.out
 have hnb107 := NB373_352.out
 have hnc107 := NB352_373.out
 have hnb108 := NB373_362.out
 have hnc108 := NB362_373.out
 have hcz109_0 := c1_ BK373 0 (.slice Ao41 t363.length co41)
 have hcz109_1 := c1_ BK373 1 (.slice Ao46 t366.length co46)
 have hcz109_2 := c1_ BK373 2 (.slice Ao47 t369.length co47)
 have hfz109_0 := f1_ BK373 0
 have hfz109_1 := f1_ BK373 1
 have hfz109_2 := f1_ BK373 2
 go_wp2_with (first | ((with_reducible refine gate_callee (f := 28) rfl ?_); refine goesL_ (some 76) rfl rfl Try.func28 s2_ rfl #[.agg #[.slice Ao41 t363.length co41, .slice Ao46 t366.length co46, .slice Ao47 t369.length co47], .int .i64 1] rfl s3_ ?_; (with_reducible refine (laws_markPresence.calls kj70 (fun k_ => some k_ = (.slice Ao41 t363.length co41 : Value).ownBlock) (.slice Ao41 t363.length co41) t363 (fun k_ => some k_ = (.slice Ao46 t366.length co46 : Value).ownBlock) (.slice Ao46 t366.length co46) t366 (fun k_ => some k_ = (.slice Ao47 t369.length co47 : Value).ownBlock) (.slice Ao47 t369.length co47) t369 1 t390 t391 t392 t393 w _ ?side1 ?side2 ?side3 ?side4 ?side5 ?side6 A103.out).mono ?_); (case side1 => repeat (first | (with_reducible first | exact HB.out | apply below_alloc | apply pw_below_drewN | apply below_drew1) | exact HB.out)); (case side2 => exact Kd.R_tight rfl HO_374000.out); (case side3 => exact fun k_ e_ => (HO_374000.out.1 k_ e_.symm).2.2.2.2); (case side4 => exact Kd.R_tight rfl HO_374001.out); (case side5 => exact fun k_ e_ => (HO_374001.out.1 k_ e_.symm).2.2.2.2); (case side6 => exact Kd.R_tight rfl HO_374002.out); rintro e w110 ⟨rfl, hy0, hy1, hy2, hb, hkp⟩; refine ⟨_, rfl, ?_⟩; have n0_ := Aside0.mk (Kd.R_mono (ok' := fun k_ => some k_ ≠ (.slice Ao28 t345.length co28 : Value).ownBlock ∧ some k_ ≠ (.slice Ao33 t386.length co33 : Value).ownBlock ∧ some k_ ≠ (.slice Ao37 t387.length co37 : Value).ownBlock ∧ some k_ ≠ (.slice Ao41 t363.length co41 : Value).ownBlock ∧ some k_ ≠ (.slice Ao46 t366.length co46 : Value).ownBlock) (Kd.R_keptB ((Kd.R_apart' HO_353000.out (Kd.R_typed HO_374002.out) (by decide))) hkp (fun k_ hk_ hs_ => Or.elim hs_ (fun e_ => (hk_.1.2.2.2.1) e_) (fun e_ => Or.elim e_ (fun e_ => (hk_.1.2.2.2.2) e_) (fun e_ => (hk_.2) e_)))) (fun k_ hk_ => ⟨hk_.1.1.1, hk_.1.1.2.1, hk_.1.1.2.2.1, hk_.1.1.2.2.2.1, hk_.1.1.2.2.2.2⟩)); have n1_ := Aside0.mk (Kd.R_mono (ok' := fun k_ => some k_ ≠ (.slice Ao25 t342.length co25 : Value).ownBlock ∧ some k_ ≠ (.slice Ao33 t386.length co33 : Value).ownBlock ∧ some k_ ≠ (.slice Ao37 t387.length co37 : Value).ownBlock ∧ some k_ ≠ (.slice Ao41 t363.length co41 : Value).ownBlock ∧ some k_ ≠ (.slice Ao46 t366.length co46 : Value).ownBlock) (Kd.R_keptB ((Kd.R_apart' HO_353001.out (Kd.R_typed HO_374002.out) (by decide))) hkp (fun k_ hk_ hs_ => Or.elim hs_ (fun e_ => (hk_.1.2.2.2.1) e_) (fun e_ => Or.elim e_ (fun e_ => (hk_.1.2.2.2.2) e_) (fun e_ => (hk_.2) e_)))) (fun k_ hk_ => ⟨hk_.1.1.1, hk_.1.1.2.1, hk_.1.1.2.2.1, hk_.1.1.2.2.2.1, hk_.1.1.2.2.2.2⟩)); have n2_ := Aside0.mk (Kd.R_mono (ok' := fun k_ => some k_ ≠ (.slice Ao38 t388.length co38 : Value).ownBlock ∧ some k_ ≠ (.slice Ao47 t369.length co47 : Value).ownBlock) (Kd.R_keptB ((Kd.R_apart' (Kd.R_apart' HO_353002.out (Kd.R_typed HO_374000.out) (by decide)) (Kd.R_typed HO_374001.out) (by decide))) hkp (fun k_ hk_ hs_ => Or.elim hs_ (fun e_ => (hk_.1.2) e_) (fun e_ => Or.elim e_ (fun e_ => (hk_.2) e_) (fun e_ => (hk_.1.1.2) e_)))) (fun k_ hk_ => ⟨hk_.1.1.1.1, hk_.1.1.1.2⟩)); have n3_ := Aside0.mk (Kd.R_mono (ok' := fun k_ => some k_ ≠ (.slice Ao25 t342.length co25 : Value).ownBlock ∧ some k_ ≠ (.slice Ao28 t345.length co28 : Value).ownBlock ∧ some k_ ≠ (.slice Ao37 t387.length co37 : Value).ownBlock ∧ some k_ ≠ (.slice Ao41 t363.length co41 : Value).ownBlock ∧ some k_ ≠ (.slice Ao46 t366.length co46 : Value).ownBlock) (Kd.R_keptB ((Kd.R_apart' HO_363000.out (Kd.R_typed HO_374002.out) (by decide))) hkp (fun k_ hk_ hs_ => Or.elim hs_ (fun e_ => (hk_.1.2.2.2.1) e_) (fun e_ => Or.elim e_ (fun e_ => (hk_.1.2.2.2.2) e_) (fun e_ => (hk_.2) e_)))) (fun k_ hk_ => ⟨hk_.1.1.1, hk_.1.1.2.1, hk_.1.1.2.2.1, hk_.1.1.2.2.2.1, hk_.1.1.2.2.2.2⟩)); have n4_ := Aside0.mk (Kd.R_mono (ok' := fun k_ => some k_ ≠ (.slice Ao25 t342.length co25 : Value).ownBlock ∧ some k_ ≠ (.slice Ao28 t345.length co28 : Value).ownBlock ∧ some k_ ≠ (.slice Ao33 t386.length co33 : Value).ownBlock ∧ some k_ ≠ (.slice Ao41 t363.length co41 : Value).ownBlock ∧ some k_ ≠ (.slice Ao46 t366.length co46 : Value).ownBlock) (Kd.R_keptB ((Kd.R_apart' HO_363001.out (Kd.R_typed HO_374002.out) (by decide))) hkp (fun k_ hk_ hs_ => Or.elim hs_ (fun e_ => (hk_.1.2.2.2.1) e_) (fun e_ => Or.elim e_ (fun e_ => (hk_.1.2.2.2.2) e_) (fun e_ => (hk_.2) e_)))) (fun k_ hk_ => ⟨hk_.1.1.1, hk_.1.1.2.1, hk_.1.1.2.2.1, hk_.1.1.2.2.2.1, hk_.1.1.2.2.2.2⟩)); have n5_ := Aside0.mk (Kd.R_mono (ok' := fun k_ => some k_ ≠ (.slice Ao29 t348.length co29 : Value).ownBlock ∧ some k_ ≠ (.slice Ao47 t369.length co47 : Value).ownBlock) (Kd.R_keptB ((Kd.R_apart' (Kd.R_apart' HO_363002.out (Kd.R_typed HO_374000.out) (by decide)) (Kd.R_typed HO_374001.out) (by decide))) hkp (fun k_ hk_ hs_ => Or.elim hs_ (fun e_ => (hk_.1.2) e_) (fun e_ => Or.elim e_ (fun e_ => (hk_.2) e_) (fun e_ => (hk_.1.1.2) e_)))) (fun k_ hk_ => ⟨hk_.1.1.1.1, hk_.1.1.1.2⟩)); have n6_ := Aside0.mk (Kd.R_reok rfl hy0 (fun k_ e_ => HO_374000.out.1 k_ e_)); have n7_ := Aside0.mk (Kd.R_reok rfl hy1 (fun k_ e_ => HO_374001.out.1 k_ e_)); have n8_ := Aside0.mk (Kd.R_reok rfl hy2 (fun k_ e_ => HO_374002.out.1 k_ e_)); have n9_ := Aside0.mk (blk_kept (b1_ BK331.out) hkp (fun hs_ => Or.elim hs_ (fun e_ => (fun e_ => (Kd.R_ne HO_374000.out BK331.out (by decide)) e_) e_) (fun e_ => Or.elim e_ (fun e_ => (fun e_ => (Kd.R_ne HO_374001.out BK331.out (by decide)) e_) e_) (fun e_ => (fun e_ => (Kd.R_ne HO_374002.out BK331.out (by decide)) e_) e_)))); have n10_ := Aside0.mk (blk_kept (b1_ BK352.out) hkp (fun hs_ => Or.elim hs_ (fun e_ => (fun e_ => (Kd.R_ne HO_374000.out BK352.out (by decide)) e_) e_) (fun e_ => Or.elim e_ (fun e_ => (fun e_ => (Kd.R_ne HO_374001.out BK352.out (by decide)) e_) e_) (fun e_ => (fun e_ => (Kd.R_ne HO_374002.out BK352.out (by decide)) e_) e_)))); have n11_ := Aside0.mk (blk_kept (b1_ BK362.out) hkp (fun hs_ => Or.elim hs_ (fun e_ => (fun e_ => (Kd.R_ne HO_374000.out BK362.out (by decide)) e_) e_) (fun e_ => Or.elim e_ (fun e_ => (fun e_ => (Kd.R_ne HO_374001.out BK362.out (by decide)) e_) e_) (fun e_ => (fun e_ => (Kd.R_ne HO_374002.out BK362.out (by decide)) e_) e_)))); have n12_ := Aside0.mk (blk_kept (b1_ BK373.out) hkp (fun hs_ => Or.elim hs_ (fun e_ => (fun e_ => (Kd.R_ne HO_374000.out BK373.out (by decide)) e_) e_) (fun e_ => Or.elim e_ (fun e_ => (fun e_ => (Kd.R_ne HO_374001.out BK373.out (by decide)) e_) e_) (fun e_ => (fun e_ => (Kd.R_ne HO_374002.out BK373.out (by decide)) e_) e_)))); have n13_ := Aside0.mk (hb); clear HO_353000; clear HO_353001; clear HO_353002; clear HO_363000; clear HO_363001; clear HO_363002; clear HO_374000; clear HO_374001; clear HO_374002; clear BK331; clear BK352; clear BK362; clear BK373; clear HB; have HO_353000 := n0_; have HO_353001 := n1_; have HO_353002 := n2_; have HO_363000 := n3_; have HO_363001 := n4_; have HO_363002 := n5_; have HO_374000 := n6_; have HO_374001 := n7_; have HO_374002 := n8_; have BK331 := n9_; have BK352 := n10_; have BK362 := n11_; have BK373 := n12_; have HB := n13_; clear n0_ n1_ n2_ n3_ n4_ n5_ n6_ n7_ n8_ n9_ n10_ n11_ n12_ n13_; (try clear hb); (try clear hkp); (try clear hy0); (try clear hy1); (try clear hy2); have hcz111_0 := c1_ BK373 0 (.slice Ao41 t363.length co41); have hcz111_1 := c1_ BK373 1 (.slice Ao46 t366.length co46); have hcz111_2 := c1_ BK373 2 (.slice Ao47 t369.length co47); have hfz111_0 := f1_ BK373 0; have hfz111_1 := f1_ BK373 1; have hfz111_2 := f1_ BK373 2) | ((with_reducible refine gate_callee (f := 29) rfl ?_); refine goesL_ (some 79) rfl rfl Try.func29 s2_ rfl #[.agg #[.slice Ao41 t391.length co41, .slice Ao46 t392.length co46, .slice Ao47 t393.length co47], .int .i64 1] rfl (by (try simp only [List.map_toArray, List.map_cons, List.map_nil]); first | done | (rw [show t391.length = t363.length from (Kd.R_reads' HO_374000.out).1.symm, show t392.length = t366.length from (Kd.R_reads' HO_374001.out).1.symm, show t393.length = t369.length from (Kd.R_reads' HO_374002.out).1.symm] <;> rfl) | rfl | (simp only [List.length_drop, List.length_take]; rfl)) ?_; (with_reducible refine (laws_heldPresence.calls kj70 _ _ t391 _ _ t392 _ _ t393 1 t394 _ ?side1 ?side2 ?side3 ?side4 ?side5 ?side6 A104.out).mono ?_); (case side1 => exact y2_ (Kd.R_reads' HO_374000.out).2.2); (case side2 => rw [show t391.length = t363.length from (Kd.R_reads' HO_374000.out).1.symm]; exact (Kd.R_reads' HO_374000.out).2.1); (case side3 => exact y2_ (Kd.R_reads' HO_374001.out).2.2); (case side4 => rw [show t392.length = t366.length from (Kd.R_reads' HO_374001.out).1.symm]; exact (Kd.R_reads' HO_374001.out).2.1); (case side5 => exact y2_ (Kd.R_reads' HO_374002.out).2.2); (case side6 => rw [show t393.length = t369.length from (Kd.R_reads' HO_374002.out).1.symm]; exact (Kd.R_reads' HO_374002.out).2.1); rintro e w112 ⟨rfl, hb⟩; refine ⟨_, rfl, ?_⟩; replace HO_353000 := r1_ HO_353000 hb; replace HO_353001 := r1_ HO_353001 hb; replace HO_353002 := r1_ HO_353002 hb; replace HO_363000 := r1_ HO_363000 hb; replace HO_363001 := r1_ HO_363001 hb; replace HO_363002 := r1_ HO_363002 hb; replace HO_374000 := r1_ HO_374000 hb; replace HO_374001 := r1_ HO_374001 hb; replace HO_374002 := r1_ HO_374002 hb; replace BK331 := b3_ BK331 hb; replace BK352 := b3_ BK352 hb; replace BK362 := b3_ BK362 hb; replace BK373 := b3_ BK373 hb; replace HB := Aside0.mk (below_step (y1_ HB.out) hb); (try clear hb); (try clear hb2); (try clear hk); (try clear hi)))
 go_ret
 exact ⟨by first | rfl | (simp [errW_none, errW_some] <;> rfl) | (simp [*, errW_none, errW_some] <;> rfl), by repeat (first | (with_reducible first | exact HB.out | apply below_alloc | apply pw_below_drewN | apply below_drew1) | exact HB.out)⟩}
 {
 rw [if_neg c105] at H
 have c105b0 : decide (t394 < 0) = false := decide_eq_false c105
 clear c105
 by_cases c113 : t394 = t390
 {
 rw [if_pos c113] at H
 have c113b0 : (t394 == t390) = true := beq_iff_eq.mpr c113
 have c113b1 : (t394 != t390) = false := bne_eq_false_iff_eq.mpr c113
 clear c113
 replace H := Option.bind_eq_some_iff.mp H
 obtain ⟨⟨t395, t398, t401⟩, A1140, H⟩ := H
 replace H : ((impl_Heartbeat.f kj70 t395 t398 t401 a1 a2 a3).bind fun bt404 => ((laws_eqPresence.f kj70 bt404.1 bt404.2.1 bt404.2.2.1 t342 t345 t348).bind fun t415 => (if t415 = true then (laws_FnExactHeartbeat.j2 kj70 t390 (bt404.2.2.2 != t351) t391 t392 t393) else (laws_FnExactHeartbeat.j2 kj70 t390 true t391 t392 t393)))) = some r := H
 have A114 := Aside0.mk A1140
 clear A1140
 replace H := Option.bind_eq_some_iff.mp H
 obtain ⟨⟨t404, t407, t410, t413⟩, A1150, H⟩ := H
 replace H : ((laws_eqPresence.f kj70 t404 t407 t410 t342 t345 t348).bind fun t415 => (if t415 = true then (laws_FnExactHeartbeat.j2 kj70 t390 (t413 != t351) t391 t392 t393) else (laws_FnExactHeartbeat.j2 kj70 t390 true t391 t392 t393))) = some r := H
 have A115 := Aside0.mk A1150
 clear A1150
 have HC116 := Aside0.mk H
 clear H
 have hnb117 := NB373_331.out
 have hnc117 := NB331_373.out
 have hnb118 := NB373_352.out
 have hnc118 := NB352_373.out
 have hnb119 := NB373_362.out
 have hnc119 := NB362_373.out
 have hcz120_0 := c1_ BK373 0 (.slice Ao41 t363.length co41)
 have hcz120_1 := c1_ BK373 1 (.slice Ao46 t366.length co46)
 have hcz120_2 := c1_ BK373 2 (.slice Ao47 t369.length co47)
 have hfz120_0 := f1_ BK373 0
 have hfz120_1 := f1_ BK373 1
 have hfz120_2 := f1_ BK373 2
 go_upto_region 25 with (first | ((with_reducible refine gate_callee (f := 28) rfl ?_); refine goesL_ (some 76) rfl rfl Try.func28 s2_ rfl #[.agg #[.slice Ao41 t363.length co41, .slice Ao46 t366.length co46, .slice Ao47 t369.length co47], .int .i64 1] rfl s3_ ?_; (with_reducible refine (laws_markPresence.calls kj70 (fun k_ => some k_ = (.slice Ao41 t363.length co41 : Value).ownBlock) (.slice Ao41 t363.length co41) t363 (fun k_ => some k_ = (.slice Ao46 t366.length co46 : Value).ownBlock) (.slice Ao46 t366.length co46) t366 (fun k_ => some k_ = (.slice Ao47 t369.length co47 : Value).ownBlock) (.slice Ao47 t369.length co47) t369 1 t390 t391 t392 t393 w _ ?side1 ?side2 ?side3 ?side4 ?side5 ?side6 A103.out).mono ?_); (case side1 => repeat (first | (with_reducible first | exact HB.out | apply below_alloc | apply pw_below_drewN | apply below_drew1) | exact HB.out)); (case side2 => exact Kd.R_tight rfl HO_374000.out); (case side3 => exact fun k_ e_ => (HO_374000.out.1 k_ e_.symm).2.2.2.2); (case side4 => exact Kd.R_tight rfl HO_374001.out); (case side5 => exact fun k_ e_ => (HO_374001.out.1 k_ e_.symm).2.2.2.2); (case side6 => exact Kd.R_tight rfl HO_374002.out); rintro e w121 ⟨rfl, hy0, hy1, hy2, hb, hkp⟩; refine ⟨_, rfl, ?_⟩; have n0_ := Aside0.mk (Kd.R_mono (ok' := fun k_ => some k_ ≠ (.slice Ao28 t345.length co28 : Value).ownBlock ∧ some k_ ≠ (.slice Ao33 t386.length co33 : Value).ownBlock ∧ some k_ ≠ (.slice Ao37 t387.length co37 : Value).ownBlock ∧ some k_ ≠ (.slice Ao41 t363.length co41 : Value).ownBlock ∧ some k_ ≠ (.slice Ao46 t366.length co46 : Value).ownBlock) (Kd.R_keptB ((Kd.R_apart' HO_353000.out (Kd.R_typed HO_374002.out) (by decide))) hkp (fun k_ hk_ hs_ => Or.elim hs_ (fun e_ => (hk_.1.2.2.2.1) e_) (fun e_ => Or.elim e_ (fun e_ => (hk_.1.2.2.2.2) e_) (fun e_ => (hk_.2) e_)))) (fun k_ hk_ => ⟨hk_.1.1.1, hk_.1.1.2.1, hk_.1.1.2.2.1, hk_.1.1.2.2.2.1, hk_.1.1.2.2.2.2⟩)); have n1_ := Aside0.mk (Kd.R_mono (ok' := fun k_ => some k_ ≠ (.slice Ao25 t342.length co25 : Value).ownBlock ∧ some k_ ≠ (.slice Ao33 t386.length co33 : Value).ownBlock ∧ some k_ ≠ (.slice Ao37 t387.length co37 : Value).ownBlock ∧ some k_ ≠ (.slice Ao41 t363.length co41 : Value).ownBlock ∧ some k_ ≠ (.slice Ao46 t366.length co46 : Value).ownBlock) (Kd.R_keptB ((Kd.R_apart' HO_353001.out (Kd.R_typed HO_374002.out) (by decide))) hkp (fun k_ hk_ hs_ => Or.elim hs_ (fun e_ => (hk_.1.2.2.2.1) e_) (fun e_ => Or.elim e_ (fun e_ => (hk_.1.2.2.2.2) e_) (fun e_ => (hk_.2) e_)))) (fun k_ hk_ => ⟨hk_.1.1.1, hk_.1.1.2.1, hk_.1.1.2.2.1, hk_.1.1.2.2.2.1, hk_.1.1.2.2.2.2⟩)); have n2_ := Aside0.mk (Kd.R_mono (ok' := fun k_ => some k_ ≠ (.slice Ao38 t388.length co38 : Value).ownBlock ∧ some k_ ≠ (.slice Ao47 t369.length co47 : Value).ownBlock) (Kd.R_keptB ((Kd.R_apart' (Kd.R_apart' HO_353002.out (Kd.R_typed HO_374000.out) (by decide)) (Kd.R_typed HO_374001.out) (by decide))) hkp (fun k_ hk_ hs_ => Or.elim hs_ (fun e_ => (hk_.1.2) e_) (fun e_ => Or.elim e_ (fun e_ => (hk_.2) e_) (fun e_ => (hk_.1.1.2) e_)))) (fun k_ hk_ => ⟨hk_.1.1.1.1, hk_.1.1.1.2⟩)); have n3_ := Aside0.mk (Kd.R_mono (ok' := fun k_ => some k_ ≠ (.slice Ao25 t342.length co25 : Value).ownBlock ∧ some k_ ≠ (.slice Ao28 t345.length co28 : Value).ownBlock ∧ some k_ ≠ (.slice Ao37 t387.length co37 : Value).ownBlock ∧ some k_ ≠ (.slice Ao41 t363.length co41 : Value).ownBlock ∧ some k_ ≠ (.slice Ao46 t366.length co46 : Value).ownBlock) (Kd.R_keptB ((Kd.R_apart' HO_363000.out (Kd.R_typed HO_374002.out) (by decide))) hkp (fun k_ hk_ hs_ => Or.elim hs_ (fun e_ => (hk_.1.2.2.2.1) e_) (fun e_ => Or.elim e_ (fun e_ => (hk_.1.2.2.2.2) e_) (fun e_ => (hk_.2) e_)))) (fun k_ hk_ => ⟨hk_.1.1.1, hk_.1.1.2.1, hk_.1.1.2.2.1, hk_.1.1.2.2.2.1, hk_.1.1.2.2.2.2⟩)); have n4_ := Aside0.mk (Kd.R_mono (ok' := fun k_ => some k_ ≠ (.slice Ao25 t342.length co25 : Value).ownBlock ∧ some k_ ≠ (.slice Ao28 t345.length co28 : Value).ownBlock ∧ some k_ ≠ (.slice Ao33 t386.length co33 : Value).ownBlock ∧ some k_ ≠ (.slice Ao41 t363.length co41 : Value).ownBlock ∧ some k_ ≠ (.slice Ao46 t366.length co46 : Value).ownBlock) (Kd.R_keptB ((Kd.R_apart' HO_363001.out (Kd.R_typed HO_374002.out) (by decide))) hkp (fun k_ hk_ hs_ => Or.elim hs_ (fun e_ => (hk_.1.2.2.2.1) e_) (fun e_ => Or.elim e_ (fun e_ => (hk_.1.2.2.2.2) e_) (fun e_ => (hk_.2) e_)))) (fun k_ hk_ => ⟨hk_.1.1.1, hk_.1.1.2.1, hk_.1.1.2.2.1, hk_.1.1.2.2.2.1, hk_.1.1.2.2.2.2⟩)); have n5_ := Aside0.mk (Kd.R_mono (ok' := fun k_ => some k_ ≠ (.slice Ao29 t348.length co29 : Value).ownBlock ∧ some k_ ≠ (.slice Ao47 t369.length co47 : Value).ownBlock) (Kd.R_keptB ((Kd.R_apart' (Kd.R_apart' HO_363002.out (Kd.R_typed HO_374000.out) (by decide)) (Kd.R_typed HO_374001.out) (by decide))) hkp (fun k_ hk_ hs_ => Or.elim hs_ (fun e_ => (hk_.1.2) e_) (fun e_ => Or.elim e_ (fun e_ => (hk_.2) e_) (fun e_ => (hk_.1.1.2) e_)))) (fun k_ hk_ => ⟨hk_.1.1.1.1, hk_.1.1.1.2⟩)); have n6_ := Aside0.mk (Kd.R_reok rfl hy0 (fun k_ e_ => HO_374000.out.1 k_ e_)); have n7_ := Aside0.mk (Kd.R_reok rfl hy1 (fun k_ e_ => HO_374001.out.1 k_ e_)); have n8_ := Aside0.mk (Kd.R_reok rfl hy2 (fun k_ e_ => HO_374002.out.1 k_ e_)); have n9_ := Aside0.mk (blk_kept (b1_ BK331.out) hkp (fun hs_ => Or.elim hs_ (fun e_ => (fun e_ => (Kd.R_ne HO_374000.out BK331.out (by decide)) e_) e_) (fun e_ => Or.elim e_ (fun e_ => (fun e_ => (Kd.R_ne HO_374001.out BK331.out (by decide)) e_) e_) (fun e_ => (fun e_ => (Kd.R_ne HO_374002.out BK331.out (by decide)) e_) e_)))); have n10_ := Aside0.mk (blk_kept (b1_ BK352.out) hkp (fun hs_ => Or.elim hs_ (fun e_ => (fun e_ => (Kd.R_ne HO_374000.out BK352.out (by decide)) e_) e_) (fun e_ => Or.elim e_ (fun e_ => (fun e_ => (Kd.R_ne HO_374001.out BK352.out (by decide)) e_) e_) (fun e_ => (fun e_ => (Kd.R_ne HO_374002.out BK352.out (by decide)) e_) e_)))); have n11_ := Aside0.mk (blk_kept (b1_ BK362.out) hkp (fun hs_ => Or.elim hs_ (fun e_ => (fun e_ => (Kd.R_ne HO_374000.out BK362.out (by decide)) e_) e_) (fun e_ => Or.elim e_ (fun e_ => (fun e_ => (Kd.R_ne HO_374001.out BK362.out (by decide)) e_) e_) (fun e_ => (fun e_ => (Kd.R_ne HO_374002.out BK362.out (by decide)) e_) e_)))); have n12_ := Aside0.mk (blk_kept (b1_ BK373.out) hkp (fun hs_ => Or.elim hs_ (fun e_ => (fun e_ => (Kd.R_ne HO_374000.out BK373.out (by decide)) e_) e_) (fun e_ => Or.elim e_ (fun e_ => (fun e_ => (Kd.R_ne HO_374001.out BK373.out (by decide)) e_) e_) (fun e_ => (fun e_ => (Kd.R_ne HO_374002.out BK373.out (by decide)) e_) e_)))); have n13_ := Aside0.mk (hb); clear HO_353000; clear HO_353001; clear HO_353002; clear HO_363000; clear HO_363001; clear HO_363002; clear HO_374000; clear HO_374001; clear HO_374002; clear BK331; clear BK352; clear BK362; clear BK373; clear HB; have HO_353000 := n0_; have HO_353001 := n1_; have HO_353002 := n2_; have HO_363000 := n3_; have HO_363001 := n4_; have HO_363002 := n5_; have HO_374000 := n6_; have HO_374001 := n7_; have HO_374002 := n8_; have BK331 := n9_; have BK352 := n10_; have BK362 := n11_; have BK373 := n12_; have HB := n13_; clear n0_ n1_ n2_ n3_ n4_ n5_ n6_ n7_ n8_ n9_ n10_ n11_ n12_ n13_; (try clear hb); (try clear hkp); (try clear hy0); (try clear hy1); (try clear hy2); have hcz122_0 := c1_ BK373 0 (.slice Ao41 t363.length co41); have hcz122_1 := c1_ BK373 1 (.slice Ao46 t366.length co46); have hcz122_2 := c1_ BK373 2 (.slice Ao47 t369.length co47); have hfz122_0 := f1_ BK373 0; have hfz122_1 := f1_ BK373 1; have hfz122_2 := f1_ BK373 2) | ((with_reducible refine gate_callee (f := 29) rfl ?_); refine goesL_ (some 79) rfl rfl Try.func29 s2_ rfl #[.agg #[.slice Ao41 t391.length co41, .slice Ao46 t392.length co46, .slice Ao47 t393.length co47], .int .i64 1] rfl (by (try simp only [List.map_toArray, List.map_cons, List.map_nil]); first | done | (rw [show t391.length = t363.length from (Kd.R_reads' HO_374000.out).1.symm, show t392.length = t366.length from (Kd.R_reads' HO_374001.out).1.symm, show t393.length = t369.length from (Kd.R_reads' HO_374002.out).1.symm] <;> rfl) | rfl | (simp only [List.length_drop, List.length_take]; rfl)) ?_; (with_reducible refine (laws_heldPresence.calls kj70 _ _ t391 _ _ t392 _ _ t393 1 t394 _ ?side1 ?side2 ?side3 ?side4 ?side5 ?side6 A104.out).mono ?_); (case side1 => exact y2_ (Kd.R_reads' HO_374000.out).2.2); (case side2 => rw [show t391.length = t363.length from (Kd.R_reads' HO_374000.out).1.symm]; exact (Kd.R_reads' HO_374000.out).2.1); (case side3 => exact y2_ (Kd.R_reads' HO_374001.out).2.2); (case side4 => rw [show t392.length = t366.length from (Kd.R_reads' HO_374001.out).1.symm]; exact (Kd.R_reads' HO_374001.out).2.1); (case side5 => exact y2_ (Kd.R_reads' HO_374002.out).2.2); (case side6 => rw [show t393.length = t369.length from (Kd.R_reads' HO_374002.out).1.symm]; exact (Kd.R_reads' HO_374002.out).2.1); rintro e w123 ⟨rfl, hb⟩; refine ⟨_, rfl, ?_⟩; replace HO_353000 := r1_ HO_353000 hb; replace HO_353001 := r1_ HO_353001 hb; replace HO_353002 := r1_ HO_353002 hb; replace HO_363000 := r1_ HO_363000 hb; replace HO_363001 := r1_ HO_363001 hb; replace HO_363002 := r1_ HO_363002 hb; replace HO_374000 := r1_ HO_374000 hb; replace HO_374001 := r1_ HO_374001 hb; replace HO_374002 := r1_ HO_374002 hb; replace BK331 := b3_ BK331 hb; replace BK352 := b3_ BK352 hb; replace BK362 := b3_ BK362 hb; replace BK373 := b3_ BK373 hb; replace HB := Aside0.mk (below_step (y1_ HB.out) hb); (try clear hb); (try clear hb2); (try clear hk); (try clear hi); have hnb124 := NB331_352.out; have hnc124 := NB352_331.out; have hnb125 := NB331_362.out; have hnc125 := NB362_331.out; have hcz126_0 := c1_ BK331 0 (.slice A0_0 l0_0.length c0_0); have hcz126_1 := c1_ BK331 1 (.slice A0_1 l0_1.length c0_1); have hcz126_2 := c1_ BK331 2 (.slice A0_2 l0_2.length c0_2); have hfz126_0 := f1_ BK331 0; have hfz126_1 := f1_ BK331 1; have hfz126_2 := f1_ BK331 2) | ((with_reducible refine gate_callee (f := 26) rfl ?_); refine goesL_ (some 87) rfl rfl Try.func26 s2_ rfl #[.agg #[.slice A0_0 l0_0.length c0_0, .slice A0_1 l0_1.length c0_1, .slice A0_2 l0_2.length c0_2]] rfl s3_ ?_; (with_reducible refine (laws_toPresence.calls kj70 _ _ l0_0 _ _ l0_1 _ _ l0_2 t395 t398 t401 _ ?side1 ?side2 ?side3 ?side4 ?side5 ?side6 A114.out).mono ?_); (case side1 => exact y2_ (Kd.C_below HR0_0.out HB.out)); (case side2 => exact HC0_0.out); (case side3 => exact y2_ (Kd.C_below HR0_1.out HB.out)); (case side4 => exact HC0_1.out); (case side5 => exact y2_ (Kd.C_below HR0_2.out HB.out)); (case side6 => exact HC0_2.out); rintro e w127 ⟨v396, v399, v402, rfl, ho0, ho1, ho2, hb⟩; refine ⟨_, rfl, ?_⟩; have n0_ := Aside0.mk (Kd.R_mono (Kd.R_told (Kd.R_told (Kd.R_old (b2_ HO_353000.out) hb) (Kd.R_base ho0)) (Kd.R_base ho1)) (fun _ h_ => h_.1)); have n1_ := Aside0.mk (Kd.R_mono (Kd.R_told (Kd.R_told (Kd.R_old (b2_ HO_353001.out) hb) (Kd.R_base ho0)) (Kd.R_base ho1)) (fun _ h_ => h_.1)); have n2_ := Aside0.mk (Kd.R_elder' (b2_ HO_353002.out) (Kd.R_base ho2) hb); have n3_ := Aside0.mk (Kd.R_mono (Kd.R_told (Kd.R_told (Kd.R_old (b2_ HO_363000.out) hb) (Kd.R_base ho0)) (Kd.R_base ho1)) (fun _ h_ => h_.1)); have n4_ := Aside0.mk (Kd.R_mono (Kd.R_told (Kd.R_told (Kd.R_old (b2_ HO_363001.out) hb) (Kd.R_base ho0)) (Kd.R_base ho1)) (fun _ h_ => h_.1)); have n5_ := Aside0.mk (Kd.R_elder' (b2_ HO_363002.out) (Kd.R_base ho2) hb); have n6_ := Aside0.mk (Kd.R_mono (Kd.R_told (Kd.R_told (Kd.R_old (b2_ HO_374000.out) hb) (Kd.R_base ho0)) (Kd.R_base ho1)) (fun _ h_ => h_.1)); have n7_ := Aside0.mk (Kd.R_mono (Kd.R_told (Kd.R_told (Kd.R_old (b2_ HO_374001.out) hb) (Kd.R_base ho0)) (Kd.R_base ho1)) (fun _ h_ => h_.1)); have n8_ := Aside0.mk (Kd.R_elder' (b2_ HO_374002.out) (Kd.R_base ho2) hb); have n9_ := Aside0.mk (Kd.R_lower (Kd.R_new' (Kd.R_new' (Kd.R_new' (Kd.R_new' (Kd.R_new' (Kd.R_new' ho0 (Kd.R_lt (b2_ HO_353000.out))) (Kd.R_lt (b2_ HO_353001.out))) (Kd.R_lt (b2_ HO_363000.out))) (Kd.R_lt (b2_ HO_363001.out))) (Kd.R_lt (b2_ HO_374000.out))) (Kd.R_lt (b2_ HO_374001.out))) (below_size (y1_ HB.out))); have n10_ := Aside0.mk (Kd.R_lower (Kd.R_new' (Kd.R_new' (Kd.R_new' (Kd.R_new' (Kd.R_new' (Kd.R_new' ho1 (Kd.R_lt (b2_ HO_353000.out))) (Kd.R_lt (b2_ HO_353001.out))) (Kd.R_lt (b2_ HO_363000.out))) (Kd.R_lt (b2_ HO_363001.out))) (Kd.R_lt (b2_ HO_374000.out))) (Kd.R_lt (b2_ HO_374001.out))) (below_size (y1_ HB.out))); have n11_ := Aside0.mk (Kd.R_lower (Kd.R_new' (Kd.R_new' (Kd.R_new' ho2 (Kd.R_lt (b2_ HO_353002.out))) (Kd.R_lt (b2_ HO_363002.out))) (Kd.R_lt (b2_ HO_374002.out))) (below_size (y1_ HB.out))); have n12_ := b3_ BK331 hb; have n13_ := b3_ BK352 hb; have n14_ := b3_ BK362 hb; have n15_ := b3_ BK373 hb; have n16_ := Aside0.mk (below_step (y1_ HB.out) hb); clear HO_353000; clear HO_353001; clear HO_353002; clear HO_363000; clear HO_363001; clear HO_363002; clear HO_374000; clear HO_374001; clear HO_374002; clear BK331; clear BK352; clear BK362; clear BK373; clear HB; have HO_353000 := n0_; have HO_353001 := n1_; have HO_353002 := n2_; have HO_363000 := n3_; have HO_363001 := n4_; have HO_363002 := n5_; have HO_374000 := n6_; have HO_374001 := n7_; have HO_374002 := n8_; have HO397 := n9_; have HO400 := n10_; have HO403 := n11_; have BK331 := n12_; have BK352 := n13_; have BK362 := n14_; have BK373 := n15_; have HB := n16_; clear n0_ n1_ n2_ n3_ n4_ n5_ n6_ n7_ n8_ n9_ n10_ n11_ n12_ n13_ n14_ n15_ n16_; (try clear hb); (try clear hb2); (try clear hk); (try clear hi); (try clear ho0); (try clear ho1); (try clear ho2); obtain ⟨Ao128, co128, eo128⟩ := Kd.R_slice HO397.out; subst eo128; obtain ⟨Ao129, co129, eo129⟩ := Kd.R_slice HO400.out; subst eo129; obtain ⟨Ao130, co130, eo130⟩ := Kd.R_slice HO403.out; subst eo130) | ((with_reducible refine gate_callee (f := 14) rfl ?_); refine goesL_ (some 91) rfl rfl Try.func14 s2_ rfl #[.agg #[.slice Ao128 t395.length co128, .slice Ao129 t398.length co129, .slice Ao130 t401.length co130], .int .i64 a1, .int .i64 a2, .int .i64 a3] rfl s3_ ?_; (with_reducible refine (impl_Heartbeat.calls kj70 _ _ t395 _ _ t398 _ _ t401 a1 a2 a3 t404 t407 t410 t413 _ ?side1 ?side2 ?side3 ?side4 ?side5 ?side6 A115.out).mono ?_); (case side1 => exact y2_ (Kd.R_reads' HO397.out).2.2); (case side2 => exact (Kd.R_reads' HO397.out).2.1); (case side3 => exact y2_ (Kd.R_reads' HO400.out).2.2); (case side4 => exact (Kd.R_reads' HO400.out).2.1); (case side5 => exact y2_ (Kd.R_reads' HO403.out).2.2); (case side6 => exact (Kd.R_reads' HO403.out).2.1); rintro e w131 ⟨v405, v408, v411, rfl, ho0, ho1, ho2, hb⟩; refine ⟨_, rfl, ?_⟩; have n0_ := Aside0.mk (Kd.R_mono (Kd.R_told (Kd.R_told (Kd.R_old (b2_ HO_353000.out) hb) (Kd.R_base ho0)) (Kd.R_base ho1)) (fun _ h_ => h_.1)); have n1_ := Aside0.mk (Kd.R_mono (Kd.R_told (Kd.R_told (Kd.R_old (b2_ HO_353001.out) hb) (Kd.R_base ho0)) (Kd.R_base ho1)) (fun _ h_ => h_.1)); have n2_ := Aside0.mk (Kd.R_elder' (b2_ HO_353002.out) (Kd.R_base ho2) hb); have n3_ := Aside0.mk (Kd.R_mono (Kd.R_told (Kd.R_told (Kd.R_old (b2_ HO_363000.out) hb) (Kd.R_base ho0)) (Kd.R_base ho1)) (fun _ h_ => h_.1)); have n4_ := Aside0.mk (Kd.R_mono (Kd.R_told (Kd.R_told (Kd.R_old (b2_ HO_363001.out) hb) (Kd.R_base ho0)) (Kd.R_base ho1)) (fun _ h_ => h_.1)); have n5_ := Aside0.mk (Kd.R_elder' (b2_ HO_363002.out) (Kd.R_base ho2) hb); have n6_ := Aside0.mk (Kd.R_mono (Kd.R_told (Kd.R_told (Kd.R_old (b2_ HO_374000.out) hb) (Kd.R_base ho0)) (Kd.R_base ho1)) (fun _ h_ => h_.1)); have n7_ := Aside0.mk (Kd.R_mono (Kd.R_told (Kd.R_told (Kd.R_old (b2_ HO_374001.out) hb) (Kd.R_base ho0)) (Kd.R_base ho1)) (fun _ h_ => h_.1)); have n8_ := Aside0.mk (Kd.R_elder' (b2_ HO_374002.out) (Kd.R_base ho2) hb); have n9_ := Aside0.mk (Kd.R_mono (Kd.R_told (Kd.R_told (Kd.R_old (b2_ HO397.out) hb) (Kd.R_base ho0)) (Kd.R_base ho1)) (fun _ h_ => h_.1)); have n10_ := Aside0.mk (Kd.R_mono (Kd.R_told (Kd.R_told (Kd.R_old (b2_ HO400.out) hb) (Kd.R_base ho0)) (Kd.R_base ho1)) (fun _ h_ => h_.1)); have n11_ := Aside0.mk (Kd.R_elder' (b2_ HO403.out) (Kd.R_base ho2) hb); have n12_ := Aside0.mk (Kd.R_lower (Kd.R_new' (Kd.R_new' (Kd.R_new' (Kd.R_new' (Kd.R_new' (Kd.R_new' (Kd.R_new' (Kd.R_new' ho0 (Kd.R_lt (b2_ HO_353000.out))) (Kd.R_lt (b2_ HO_353001.out))) (Kd.R_lt (b2_ HO_363000.out))) (Kd.R_lt (b2_ HO_363001.out))) (Kd.R_lt (b2_ HO_374000.out))) (Kd.R_lt (b2_ HO_374001.out))) (Kd.R_lt (b2_ HO397.out))) (Kd.R_lt (b2_ HO400.out))) (below_size (y1_ HB.out))); have n13_ := Aside0.mk (Kd.R_lower (Kd.R_new' (Kd.R_new' (Kd.R_new' (Kd.R_new' (Kd.R_new' (Kd.R_new' (Kd.R_new' (Kd.R_new' ho1 (Kd.R_lt (b2_ HO_353000.out))) (Kd.R_lt (b2_ HO_353001.out))) (Kd.R_lt (b2_ HO_363000.out))) (Kd.R_lt (b2_ HO_363001.out))) (Kd.R_lt (b2_ HO_374000.out))) (Kd.R_lt (b2_ HO_374001.out))) (Kd.R_lt (b2_ HO397.out))) (Kd.R_lt (b2_ HO400.out))) (below_size (y1_ HB.out))); have n14_ := Aside0.mk (Kd.R_lower (Kd.R_new' (Kd.R_new' (Kd.R_new' (Kd.R_new' ho2 (Kd.R_lt (b2_ HO_353002.out))) (Kd.R_lt (b2_ HO_363002.out))) (Kd.R_lt (b2_ HO_374002.out))) (Kd.R_lt (b2_ HO403.out))) (below_size (y1_ HB.out))); have n15_ := b3_ BK331 hb; have n16_ := b3_ BK352 hb; have n17_ := b3_ BK362 hb; have n18_ := b3_ BK373 hb; have n19_ := Aside0.mk (below_step (y1_ HB.out) hb); clear HO_353000; clear HO_353001; clear HO_353002; clear HO_363000; clear HO_363001; clear HO_363002; clear HO_374000; clear HO_374001; clear HO_374002; clear HO397; clear HO400; clear HO403; clear BK331; clear BK352; clear BK362; clear BK373; clear HB; have HO_353000 := n0_; have HO_353001 := n1_; have HO_353002 := n2_; have HO_363000 := n3_; have HO_363001 := n4_; have HO_363002 := n5_; have HO_374000 := n6_; have HO_374001 := n7_; have HO_374002 := n8_; have HO397 := n9_; have HO400 := n10_; have HO403 := n11_; have HO406 := n12_; have HO409 := n13_; have HO412 := n14_; have BK331 := n15_; have BK352 := n16_; have BK362 := n17_; have BK373 := n18_; have HB := n19_; clear n0_ n1_ n2_ n3_ n4_ n5_ n6_ n7_ n8_ n9_ n10_ n11_ n12_ n13_ n14_ n15_ n16_ n17_ n18_ n19_; (try clear hb); (try clear hb2); (try clear hk); (try clear hi); (try clear ho0); (try clear ho1); (try clear ho2)) | ((with_reducible refine gate_dst (N := 18) rfl ?_); refine bx_ 18 #[.slice none 0 0, .slice none 0 0, .slice none 0 0] 27 ?_; intro gb414 hg w132 hbox hb; have GW414 := b6_ hg HB; have GE414 := b6_ hg HB; have NB331_414 := b4_ hg BK331; have NB414_331 := b5_ hg BK331; have NB352_414 := b4_ hg BK352; have NB414_352 := b5_ hg BK352; have NB362_414 := b4_ hg BK362; have NB414_362 := b5_ hg BK362; have NB373_414 := b4_ hg BK373; have NB414_373 := b5_ hg BK373; replace HO_353000 := r1_ HO_353000 hb; replace HO_353001 := r1_ HO_353001 hb; replace HO_353002 := r1_ HO_353002 hb; replace HO_363000 := r1_ HO_363000 hb; replace HO_363001 := r1_ HO_363001 hb; replace HO_363002 := r1_ HO_363002 hb; replace HO_374000 := r1_ HO_374000 hb; replace HO_374001 := r1_ HO_374001 hb; replace HO_374002 := r1_ HO_374002 hb; replace HO397 := r1_ HO397 hb; replace HO400 := r1_ HO400 hb; replace HO403 := r1_ HO403 hb; replace HO406 := r1_ HO406 hb; replace HO409 := r1_ HO409 hb; replace HO412 := r1_ HO412 hb; replace BK331 := b3_ BK331 hb; replace BK352 := b3_ BK352 hb; replace BK362 := b3_ BK362 hb; replace BK373 := b3_ BK373 hb; replace HB := Aside0.mk (below_step (y1_ HB.out) hb); have BK414 := Aside0.mk (hbox); clear hb hbox hg; obtain ⟨Ao133, co133, eo133⟩ := Kd.R_slice HO406.out; subst eo133; have hnb134 := NB414_331.out; have hnc134 := NB331_414.out; have hnb135 := NB414_352.out; have hnc135 := NB352_414.out; have hnb136 := NB414_362.out; have hnc136 := NB362_414.out; have hnb137 := NB414_373.out; have hnc137 := NB373_414.out; have hcz138_0 := c1_ BK414 0 (.slice none 0 0); have hcz138_1 := c1_ BK414 1 (.slice none 0 0); have hcz138_2 := c1_ BK414 2 (.slice none 0 0); have hfz138_0 := f1_ BK414 0; have hfz138_1 := f1_ BK414 1; have hfz138_2 := f1_ BK414 2; obtain ⟨Ao139, co139, eo139⟩ := Kd.R_slice HO409.out; subst eo139; obtain ⟨Ao140, co140, eo140⟩ := Kd.R_slice HO412.out; subst eo140))
 (try simp only [Act.put, List.setIfInBounds_toArray, List.set_cons_zero, List.set_cons_succ])
 go_cut [102] (fun v102 wc => ∃ (kq : Nat) (x102_115 : Bool), v102 = .bool x102_115 ∧ Aside0 (laws_FnExactHeartbeat.j2 kq t390 x102_115 t391 t392 t393 = some r) ∧ Aside0 (kq ≤ kj70) ∧ Aside0 (Kd.R k63 63 wc w.heap.size (fun k_ => some k_ ≠ ((.slice Ao28 t345.length co28) : Value).ownBlock ∧ some k_ ≠ ((.slice Ao33 t386.length co33) : Value).ownBlock ∧ some k_ ≠ ((.slice Ao37 t387.length co37) : Value).ownBlock ∧ some k_ ≠ ((.slice Ao41 t363.length co41) : Value).ownBlock ∧ some k_ ≠ ((.slice Ao46 t366.length co46) : Value).ownBlock ∧ some k_ ≠ ((.slice Ao133 t404.length co133) : Value).ownBlock ∧ some k_ ≠ ((.slice Ao139 t407.length co139) : Value).ownBlock) (.slice Ao25 t342.length co25) t342) ∧ Aside0 (Kd.R k63 63 wc w.heap.size (fun k_ => some k_ ≠ ((.slice Ao25 t342.length co25) : Value).ownBlock ∧ some k_ ≠ ((.slice Ao33 t386.length co33) : Value).ownBlock ∧ some k_ ≠ ((.slice Ao37 t387.length co37) : Value).ownBlock ∧ some k_ ≠ ((.slice Ao41 t363.length co41) : Value).ownBlock ∧ some k_ ≠ ((.slice Ao46 t366.length co46) : Value).ownBlock ∧ some k_ ≠ ((.slice Ao133 t404.length co133) : Value).ownBlock ∧ some k_ ≠ ((.slice Ao139 t407.length co139) : Value).ownBlock) (.slice Ao28 t345.length co28) t345) ∧ Aside0 (Kd.R k73 73 wc w.heap.size (fun k_ => some k_ ≠ ((.slice Ao38 t388.length co38) : Value).ownBlock ∧ some k_ ≠ ((.slice Ao47 t369.length co47) : Value).ownBlock ∧ some k_ ≠ ((.slice Ao140 t410.length co140) : Value).ownBlock) (.slice Ao29 t348.length co29) t348) ∧ Aside0 (Kd.R k63 63 wc w.heap.size (fun k_ => some k_ ≠ ((.slice Ao25 t342.length co25) : Value).ownBlock ∧ some k_ ≠ ((.slice Ao28 t345.length co28) : Value).ownBlock ∧ some k_ ≠ ((.slice Ao37 t387.length co37) : Value).ownBlock ∧ some k_ ≠ ((.slice Ao41 t363.length co41) : Value).ownBlock ∧ some k_ ≠ ((.slice Ao46 t366.length co46) : Value).ownBlock ∧ some k_ ≠ ((.slice Ao133 t404.length co133) : Value).ownBlock ∧ some k_ ≠ ((.slice Ao139 t407.length co139) : Value).ownBlock) (.slice Ao33 t386.length co33) t386) ∧ Aside0 (Kd.R k63 63 wc w.heap.size (fun k_ => some k_ ≠ ((.slice Ao25 t342.length co25) : Value).ownBlock ∧ some k_ ≠ ((.slice Ao28 t345.length co28) : Value).ownBlock ∧ some k_ ≠ ((.slice Ao33 t386.length co33) : Value).ownBlock ∧ some k_ ≠ ((.slice Ao41 t363.length co41) : Value).ownBlock ∧ some k_ ≠ ((.slice Ao46 t366.length co46) : Value).ownBlock ∧ some k_ ≠ ((.slice Ao133 t404.length co133) : Value).ownBlock ∧ some k_ ≠ ((.slice Ao139 t407.length co139) : Value).ownBlock) (.slice Ao37 t387.length co37) t387) ∧ Aside0 (Kd.R k73 73 wc w.heap.size (fun k_ => some k_ ≠ ((.slice Ao29 t348.length co29) : Value).ownBlock ∧ some k_ ≠ ((.slice Ao47 t369.length co47) : Value).ownBlock ∧ some k_ ≠ ((.slice Ao140 t410.length co140) : Value).ownBlock) (.slice Ao38 t388.length co38) t388) ∧ Aside0 (Kd.R k63 63 wc w.heap.size (fun k_ => some k_ ≠ ((.slice Ao25 t342.length co25) : Value).ownBlock ∧ some k_ ≠ ((.slice Ao28 t345.length co28) : Value).ownBlock ∧ some k_ ≠ ((.slice Ao33 t386.length co33) : Value).ownBlock ∧ some k_ ≠ ((.slice Ao37 t387.length co37) : Value).ownBlock ∧ some k_ ≠ ((.slice Ao46 t366.length co46) : Value).ownBlock ∧ some k_ ≠ ((.slice Ao133 t404.length co133) : Value).ownBlock ∧ some k_ ≠ ((.slice Ao139 t407.length co139) : Value).ownBlock) (.slice Ao41 t363.length co41) t391) ∧ Aside0 (Kd.R k63 63 wc w.heap.size (fun k_ => some k_ ≠ ((.slice Ao25 t342.length co25) : Value).ownBlock ∧ some k_ ≠ ((.slice Ao28 t345.length co28) : Value).ownBlock ∧ some k_ ≠ ((.slice Ao33 t386.length co33) : Value).ownBlock ∧ some k_ ≠ ((.slice Ao37 t387.length co37) : Value).ownBlock ∧ some k_ ≠ ((.slice Ao41 t363.length co41) : Value).ownBlock ∧ some k_ ≠ ((.slice Ao133 t404.length co133) : Value).ownBlock ∧ some k_ ≠ ((.slice Ao139 t407.length co139) : Value).ownBlock) (.slice Ao46 t366.length co46) t392) ∧ Aside0 (Kd.R k73 73 wc w.heap.size (fun k_ => some k_ ≠ ((.slice Ao29 t348.length co29) : Value).ownBlock ∧ some k_ ≠ ((.slice Ao38 t388.length co38) : Value).ownBlock ∧ some k_ ≠ ((.slice Ao140 t410.length co140) : Value).ownBlock) (.slice Ao47 t369.length co47) t393) ∧ Aside0 (Kd.R k63 63 wc w.heap.size (fun k_ => some k_ ≠ ((.slice Ao25 t342.length co25) : Value).ownBlock ∧ some k_ ≠ ((.slice Ao28 t345.length co28) : Value).ownBlock ∧ some k_ ≠ ((.slice Ao33 t386.length co33) : Value).ownBlock ∧ some k_ ≠ ((.slice Ao37 t387.length co37) : Value).ownBlock ∧ some k_ ≠ ((.slice Ao41 t363.length co41) : Value).ownBlock ∧ some k_ ≠ ((.slice Ao46 t366.length co46) : Value).ownBlock ∧ some k_ ≠ ((.slice Ao139 t407.length co139) : Value).ownBlock) (.slice Ao133 t404.length co133) t404) ∧ Aside0 (Kd.R k63 63 wc w.heap.size (fun k_ => some k_ ≠ ((.slice Ao25 t342.length co25) : Value).ownBlock ∧ some k_ ≠ ((.slice Ao28 t345.length co28) : Value).ownBlock ∧ some k_ ≠ ((.slice Ao33 t386.length co33) : Value).ownBlock ∧ some k_ ≠ ((.slice Ao37 t387.length co37) : Value).ownBlock ∧ some k_ ≠ ((.slice Ao41 t363.length co41) : Value).ownBlock ∧ some k_ ≠ ((.slice Ao46 t366.length co46) : Value).ownBlock ∧ some k_ ≠ ((.slice Ao133 t404.length co133) : Value).ownBlock) (.slice Ao139 t407.length co139) t407) ∧ Aside0 (Kd.R k73 73 wc w.heap.size (fun k_ => some k_ ≠ ((.slice Ao29 t348.length co29) : Value).ownBlock ∧ some k_ ≠ ((.slice Ao38 t388.length co38) : Value).ownBlock ∧ some k_ ≠ ((.slice Ao47 t369.length co47) : Value).ownBlock) (.slice Ao140 t410.length co140) t410) ∧ Aside0 (wc.heap[gb331]? = some (.cells #[(.slice A0_0 l0_0.length c0_0), (.slice A0_1 l0_1.length c0_1), (.slice A0_2 l0_2.length c0_2)] 45 (0, 0))) ∧ Aside0 (wc.heap[gb352]? = some (.cells #[(.slice Ao25 t342.length co25), (.slice Ao28 t345.length co28), (.slice Ao29 t348.length co29)] 27 (0, 0))) ∧ Aside0 (wc.heap[gb362]? = some (.cells #[(.slice Ao33 t386.length co33), (.slice Ao37 t387.length co37), (.slice Ao38 t388.length co38)] 27 (0, 0))) ∧ Aside0 (wc.heap[gb373]? = some (.cells #[(.slice Ao41 t363.length co41), (.slice Ao46 t366.length co46), (.slice Ao47 t369.length co47)] 27 (0, 0))) ∧ Aside0 (wc.heap[gb414]? = some (.cells #[(.slice Ao133 t404.length co133), (.slice Ao139 t407.length co139), (.slice Ao140 t410.length co140)] 27 (0, 0))) ∧ Aside0 (Below w.heap.size w wc))
 case first =>
  as_aux_lemma =>
   skip
   {
 have H := HC116.out
 clear HC116
 replace H := Option.bind_eq_some_iff.mp H
 obtain ⟨t415, A1410, H⟩ := H
 replace H : (if t415 = true then (laws_FnExactHeartbeat.j2 kj70 t390 (t413 != t351) t391 t392 t393) else (laws_FnExactHeartbeat.j2 kj70 t390 true t391 t392 t393)) = some r := H
 have A141 := Aside0.mk A1410
 clear A1410
 by_cases c142 : t415 = true
 {
 subst c142
 have H1 : (laws_FnExactHeartbeat.j2 kj70 t390 (t413 != t351) t391 t392 t393) = some r := by rw [if_pos rfl] at H; exact H
 clear H
 have H := H1
 clear H1
 have H' := Aside0.mk H
 clear H
 have hnb143 := NB414_331.out
 have hnc143 := NB331_414.out
 have hnb144 := NB414_352.out
 have hnc144 := NB352_414.out
 have hnb145 := NB414_362.out
 have hnc145 := NB362_414.out
 have hnb146 := NB414_373.out
 have hnc146 := NB373_414.out
 have hcz147_0 := c1_ BK414 0 (.slice none 0 0)
 have hcz147_1 := c1_ BK414 1 (.slice none 0 0)
 have hcz147_2 := c1_ BK414 2 (.slice none 0 0)
 have hfz147_0 := f1_ BK414 0
 have hfz147_1 := f1_ BK414 1
 have hfz147_2 := f1_ BK414 2
 have hnb148 := NB352_331.out
 have hnc148 := NB331_352.out
 have hnb149 := NB352_362.out
 have hnc149 := NB362_352.out
 have hnb150 := NB352_373.out
 have hnc150 := NB373_352.out
 have hcz151_0 := c1_ BK352 0 (.slice Ao25 t342.length co25)
 have hcz151_1 := c1_ BK352 1 (.slice Ao28 t345.length co28)
 have hcz151_2 := c1_ BK352 2 (.slice Ao29 t348.length co29)
 have hfz151_0 := f1_ BK352 0
 have hfz151_1 := f1_ BK352 1
 have hfz151_2 := f1_ BK352 2
 go_wp2_with (first | ((with_reducible refine gate_callee (f := 27) rfl ?_); refine goesL_ (some 96) rfl rfl Try.func27 s2_ rfl #[.agg #[.slice Ao133 t404.length co133, .slice Ao139 t407.length co139, .slice Ao140 t410.length co140], .agg #[.slice Ao25 t342.length co25, .slice Ao28 t345.length co28, .slice Ao29 t348.length co29]] rfl s3_ ?_; (with_reducible refine (laws_eqPresence.calls kj70 _ _ t404 _ _ t407 _ _ t410 _ _ t342 _ _ t345 _ _ t348 true _ ?side1 ?side2 ?side3 ?side4 ?side5 ?side6 ?side7 ?side8 ?side9 ?side10 ?side11 ?side12 A141.out).mono ?_); (case side1 => refine (Kd.R_reads' (e := 63) (base := w.heap.size) (ok := fun k_ => ((((((((some k_ ≠ (.slice Ao139 t407.length co139 : Value).ownBlock ∧ some k_ ≠ (.slice Ao25 t342.length co25 : Value).ownBlock) ∧ some k_ ≠ (.slice Ao28 t345.length co28 : Value).ownBlock) ∧ some k_ ≠ (.slice Ao33 t386.length co33 : Value).ownBlock) ∧ some k_ ≠ (.slice Ao37 t387.length co37 : Value).ownBlock) ∧ some k_ ≠ (.slice Ao41 t363.length co41 : Value).ownBlock) ∧ some k_ ≠ (.slice Ao46 t366.length co46 : Value).ownBlock) ∧ some k_ ≠ (.slice Ao128 t395.length co128 : Value).ownBlock) ∧ some k_ ≠ (.slice Ao129 t398.length co129 : Value).ownBlock)) (n := t404.length) (c := co133) ?_).2.2; exact (by (with_reducible repeat (first | apply Kd.R_alloc | apply Kd.R_drewN | apply Kd.R_drew)); exact (Kd.R_mono (Kd.R_far3 (g := gb414) (Kd.R_types HO406.out BK414.out (by decide)) (fun _ hk => hk.2)) (fun _ h_ => h_.1)))); (case side2 => exact (Kd.R_reads' HO406.out).2.1); (case side3 => refine (Kd.R_reads' (e := 63) (base := w.heap.size) (ok := fun k_ => ((((((((some k_ ≠ (.slice Ao133 t404.length co133 : Value).ownBlock ∧ some k_ ≠ (.slice Ao25 t342.length co25 : Value).ownBlock) ∧ some k_ ≠ (.slice Ao28 t345.length co28 : Value).ownBlock) ∧ some k_ ≠ (.slice Ao33 t386.length co33 : Value).ownBlock) ∧ some k_ ≠ (.slice Ao37 t387.length co37 : Value).ownBlock) ∧ some k_ ≠ (.slice Ao41 t363.length co41 : Value).ownBlock) ∧ some k_ ≠ (.slice Ao46 t366.length co46 : Value).ownBlock) ∧ some k_ ≠ (.slice Ao128 t395.length co128 : Value).ownBlock) ∧ some k_ ≠ (.slice Ao129 t398.length co129 : Value).ownBlock)) (n := t407.length) (c := co139) ?_).2.2; exact (by (with_reducible repeat (first | apply Kd.R_alloc | apply Kd.R_drewN | apply Kd.R_drew)); exact (Kd.R_mono (Kd.R_far3 (g := gb414) (Kd.R_types HO409.out BK414.out (by decide)) (fun _ hk => hk.2)) (fun _ h_ => h_.1)))); (case side4 => exact (Kd.R_reads' HO409.out).2.1); (case side5 => refine (Kd.R_reads' (e := 73) (base := w.heap.size) (ok := fun k_ => ((((True ∧ some k_ ≠ (.slice Ao29 t348.length co29 : Value).ownBlock) ∧ some k_ ≠ (.slice Ao38 t388.length co38 : Value).ownBlock) ∧ some k_ ≠ (.slice Ao47 t369.length co47 : Value).ownBlock) ∧ some k_ ≠ (.slice Ao130 t401.length co130 : Value).ownBlock)) (n := t410.length) (c := co140) ?_).2.2; exact (by (with_reducible repeat (first | apply Kd.R_alloc | apply Kd.R_drewN | apply Kd.R_drew)); exact (Kd.R_mono (Kd.R_far3 (g := gb414) (Kd.R_types HO412.out BK414.out (by decide)) (fun _ hk => hk.2)) (fun _ h_ => h_.1)))); (case side6 => exact (Kd.R_reads' HO412.out).2.1); (case side7 => refine (Kd.R_reads' (e := 63) (base := w.heap.size) (ok := fun k_ => (((((some k_ ≠ (.slice Ao28 t345.length co28 : Value).ownBlock ∧ (some k_ ≠ (.slice Ao33 t386.length co33 : Value).ownBlock ∧ (some k_ ≠ (.slice Ao37 t387.length co37 : Value).ownBlock ∧ (some k_ ≠ (.slice Ao41 t363.length co41 : Value).ownBlock ∧ some k_ ≠ (.slice Ao46 t366.length co46 : Value).ownBlock)))) ∧ some k_ ≠ (.slice Ao128 t395.length co128 : Value).ownBlock) ∧ some k_ ≠ (.slice Ao129 t398.length co129 : Value).ownBlock) ∧ some k_ ≠ (.slice Ao133 t404.length co133 : Value).ownBlock) ∧ some k_ ≠ (.slice Ao139 t407.length co139 : Value).ownBlock)) (n := t342.length) (c := co25) ?_).2.2; exact (by (with_reducible repeat (first | apply Kd.R_alloc | apply Kd.R_drewN | apply Kd.R_drew)); exact (Kd.R_mono (Kd.R_far3 (g := gb414) (Kd.R_types HO_353000.out BK414.out (by decide)) (fun _ hk => hk.2)) (fun _ h_ => h_.1)))); (case side8 => exact (Kd.R_reads' HO_353000.out).2.1); (case side9 => refine (Kd.R_reads' (e := 63) (base := w.heap.size) (ok := fun k_ => (((((some k_ ≠ (.slice Ao25 t342.length co25 : Value).ownBlock ∧ (some k_ ≠ (.slice Ao33 t386.length co33 : Value).ownBlock ∧ (some k_ ≠ (.slice Ao37 t387.length co37 : Value).ownBlock ∧ (some k_ ≠ (.slice Ao41 t363.length co41 : Value).ownBlock ∧ some k_ ≠ (.slice Ao46 t366.length co46 : Value).ownBlock)))) ∧ some k_ ≠ (.slice Ao128 t395.length co128 : Value).ownBlock) ∧ some k_ ≠ (.slice Ao129 t398.length co129 : Value).ownBlock) ∧ some k_ ≠ (.slice Ao133 t404.length co133 : Value).ownBlock) ∧ some k_ ≠ (.slice Ao139 t407.length co139 : Value).ownBlock)) (n := t345.length) (c := co28) ?_).2.2; exact (by (with_reducible repeat (first | apply Kd.R_alloc | apply Kd.R_drewN | apply Kd.R_drew)); exact (Kd.R_mono (Kd.R_far3 (g := gb414) (Kd.R_types HO_353001.out BK414.out (by decide)) (fun _ hk => hk.2)) (fun _ h_ => h_.1)))); (case side10 => exact (Kd.R_reads' HO_353001.out).2.1); (case side11 => refine (Kd.R_reads' (e := 73) (base := w.heap.size) (ok := fun k_ => (((some k_ ≠ (.slice Ao38 t388.length co38 : Value).ownBlock ∧ some k_ ≠ (.slice Ao47 t369.length co47 : Value).ownBlock) ∧ some k_ ≠ (.slice Ao130 t401.length co130 : Value).ownBlock) ∧ some k_ ≠ (.slice Ao140 t410.length co140 : Value).ownBlock)) (n := t348.length) (c := co29) ?_).2.2; exact (by (with_reducible repeat (first | apply Kd.R_alloc | apply Kd.R_drewN | apply Kd.R_drew)); exact (Kd.R_mono (Kd.R_far3 (g := gb414) (Kd.R_types HO_353002.out BK414.out (by decide)) (fun _ hk => hk.2)) (fun _ h_ => h_.1)))); (case side12 => exact (Kd.R_reads' HO_353002.out).2.1); rintro e w152 ⟨rfl, hb⟩; refine ⟨_, rfl, ?_⟩; replace HO_353000 := Aside0.mk (Kd.R_below (by (with_reducible repeat (first | apply Kd.R_alloc | apply Kd.R_drewN | apply Kd.R_drew)); exact (Kd.R_mono (Kd.R_far3 (g := gb414) (Kd.R_types HO_353000.out BK414.out (by decide)) (fun _ hk => hk.2)) (fun _ h_ => h_.1))) hb); replace HO_353001 := Aside0.mk (Kd.R_below (by (with_reducible repeat (first | apply Kd.R_alloc | apply Kd.R_drewN | apply Kd.R_drew)); exact (Kd.R_mono (Kd.R_far3 (g := gb414) (Kd.R_types HO_353001.out BK414.out (by decide)) (fun _ hk => hk.2)) (fun _ h_ => h_.1))) hb); replace HO_353002 := Aside0.mk (Kd.R_below (by (with_reducible repeat (first | apply Kd.R_alloc | apply Kd.R_drewN | apply Kd.R_drew)); exact (Kd.R_mono (Kd.R_far3 (g := gb414) (Kd.R_types HO_353002.out BK414.out (by decide)) (fun _ hk => hk.2)) (fun _ h_ => h_.1))) hb); replace HO_363000 := Aside0.mk (Kd.R_below (by (with_reducible repeat (first | apply Kd.R_alloc | apply Kd.R_drewN | apply Kd.R_drew)); exact (Kd.R_mono (Kd.R_far3 (g := gb414) (Kd.R_types HO_363000.out BK414.out (by decide)) (fun _ hk => hk.2)) (fun _ h_ => h_.1))) hb); replace HO_363001 := Aside0.mk (Kd.R_below (by (with_reducible repeat (first | apply Kd.R_alloc | apply Kd.R_drewN | apply Kd.R_drew)); exact (Kd.R_mono (Kd.R_far3 (g := gb414) (Kd.R_types HO_363001.out BK414.out (by decide)) (fun _ hk => hk.2)) (fun _ h_ => h_.1))) hb); replace HO_363002 := Aside0.mk (Kd.R_below (by (with_reducible repeat (first | apply Kd.R_alloc | apply Kd.R_drewN | apply Kd.R_drew)); exact (Kd.R_mono (Kd.R_far3 (g := gb414) (Kd.R_types HO_363002.out BK414.out (by decide)) (fun _ hk => hk.2)) (fun _ h_ => h_.1))) hb); replace HO_374000 := Aside0.mk (Kd.R_below (by (with_reducible repeat (first | apply Kd.R_alloc | apply Kd.R_drewN | apply Kd.R_drew)); exact (Kd.R_mono (Kd.R_far3 (g := gb414) (Kd.R_types HO_374000.out BK414.out (by decide)) (fun _ hk => hk.2)) (fun _ h_ => h_.1))) hb); replace HO_374001 := Aside0.mk (Kd.R_below (by (with_reducible repeat (first | apply Kd.R_alloc | apply Kd.R_drewN | apply Kd.R_drew)); exact (Kd.R_mono (Kd.R_far3 (g := gb414) (Kd.R_types HO_374001.out BK414.out (by decide)) (fun _ hk => hk.2)) (fun _ h_ => h_.1))) hb); replace HO_374002 := Aside0.mk (Kd.R_below (by (with_reducible repeat (first | apply Kd.R_alloc | apply Kd.R_drewN | apply Kd.R_drew)); exact (Kd.R_mono (Kd.R_far3 (g := gb414) (Kd.R_types HO_374002.out BK414.out (by decide)) (fun _ hk => hk.2)) (fun _ h_ => h_.1))) hb); replace HO397 := Aside0.mk (Kd.R_below (by (with_reducible repeat (first | apply Kd.R_alloc | apply Kd.R_drewN | apply Kd.R_drew)); exact (Kd.R_mono (Kd.R_far3 (g := gb414) (Kd.R_types HO397.out BK414.out (by decide)) (fun _ hk => hk.2)) (fun _ h_ => h_.1))) hb); replace HO400 := Aside0.mk (Kd.R_below (by (with_reducible repeat (first | apply Kd.R_alloc | apply Kd.R_drewN | apply Kd.R_drew)); exact (Kd.R_mono (Kd.R_far3 (g := gb414) (Kd.R_types HO400.out BK414.out (by decide)) (fun _ hk => hk.2)) (fun _ h_ => h_.1))) hb); replace HO403 := Aside0.mk (Kd.R_below (by (with_reducible repeat (first | apply Kd.R_alloc | apply Kd.R_drewN | apply Kd.R_drew)); exact (Kd.R_mono (Kd.R_far3 (g := gb414) (Kd.R_types HO403.out BK414.out (by decide)) (fun _ hk => hk.2)) (fun _ h_ => h_.1))) hb); replace HO406 := Aside0.mk (Kd.R_below (by (with_reducible repeat (first | apply Kd.R_alloc | apply Kd.R_drewN | apply Kd.R_drew)); exact (Kd.R_mono (Kd.R_far3 (g := gb414) (Kd.R_types HO406.out BK414.out (by decide)) (fun _ hk => hk.2)) (fun _ h_ => h_.1))) hb); replace HO409 := Aside0.mk (Kd.R_below (by (with_reducible repeat (first | apply Kd.R_alloc | apply Kd.R_drewN | apply Kd.R_drew)); exact (Kd.R_mono (Kd.R_far3 (g := gb414) (Kd.R_types HO409.out BK414.out (by decide)) (fun _ hk => hk.2)) (fun _ h_ => h_.1))) hb); replace HO412 := Aside0.mk (Kd.R_below (by (with_reducible repeat (first | apply Kd.R_alloc | apply Kd.R_drewN | apply Kd.R_drew)); exact (Kd.R_mono (Kd.R_far3 (g := gb414) (Kd.R_types HO412.out BK414.out (by decide)) (fun _ hk => hk.2)) (fun _ h_ => h_.1))) hb); replace BK331 := Aside0.mk (blk_below (g := gb331) (o := .cells #[.slice A0_0 l0_0.length c0_0, .slice A0_1 l0_1.length c0_1, .slice A0_2 l0_2.length c0_2] 45 (0, 0)) (by (with_reducible repeat (first | refine blk_drewN ?_ _ | refine blk_drew ?_ | refine blk_alloc ?_ _)); refine blk_far3 ?_ NB331_414.out; (with_reducible repeat (first | refine blk_drewN ?_ _ | refine blk_drew ?_ | refine blk_alloc ?_ _)); exact BK331.out) hb); replace BK352 := Aside0.mk (blk_below (g := gb352) (o := .cells #[.slice Ao25 t342.length co25, .slice Ao28 t345.length co28, .slice Ao29 t348.length co29] 27 (0, 0)) (by (with_reducible repeat (first | refine blk_drewN ?_ _ | refine blk_drew ?_ | refine blk_alloc ?_ _)); refine blk_far3 ?_ NB352_414.out; (with_reducible repeat (first | refine blk_drewN ?_ _ | refine blk_drew ?_ | refine blk_alloc ?_ _)); exact BK352.out) hb); replace BK362 := Aside0.mk (blk_below (g := gb362) (o := .cells #[.slice Ao33 t386.length co33, .slice Ao37 t387.length co37, .slice Ao38 t388.length co38] 27 (0, 0)) (by (with_reducible repeat (first | refine blk_drewN ?_ _ | refine blk_drew ?_ | refine blk_alloc ?_ _)); refine blk_far3 ?_ NB362_414.out; (with_reducible repeat (first | refine blk_drewN ?_ _ | refine blk_drew ?_ | refine blk_alloc ?_ _)); exact BK362.out) hb); replace BK373 := Aside0.mk (blk_below (g := gb373) (o := .cells #[.slice Ao41 t363.length co41, .slice Ao46 t366.length co46, .slice Ao47 t369.length co47] 27 (0, 0)) (by (with_reducible repeat (first | refine blk_drewN ?_ _ | refine blk_drew ?_ | refine blk_alloc ?_ _)); refine blk_far3 ?_ NB373_414.out; (with_reducible repeat (first | refine blk_drewN ?_ _ | refine blk_drew ?_ | refine blk_alloc ?_ _)); exact BK373.out) hb); replace BK414 := Aside0.mk (blk_below (g := gb414) (o := .cells #[.slice Ao133 t404.length co133, .slice Ao139 t407.length co139, .slice Ao140 t410.length co140] 27 (0, 0)) (by (with_reducible repeat (first | refine blk_drewN ?_ _ | refine blk_drew ?_ | refine blk_alloc ?_ _)); refine blk_put3 (cs := #[.slice none 0 0, .slice none 0 0, .slice none 0 0]) ?_ rfl; (with_reducible repeat (first | refine blk_drewN ?_ _ | refine blk_drew ?_ | refine blk_alloc ?_ _)); exact BK414.out) hb); replace HB := Aside0.mk (below_step (by repeat (first | (with_reducible first | exact HB.out | apply below_alloc | apply pw_below_drewN | apply below_drew1 | refine below_set ?_ GE414.out) | exact HB.out)) hb); (try clear hb); (try clear hb2); (try clear hk); (try clear hi)))
 go_meet
 case rel => exact ⟨_, ((t413 != t351)), s1_, H', ⟨by have := HJ13.out; have := HJ70.out; first | omega | exact Nat.le_refl _⟩, ⟨by (try simp only [hl363000_70]); (try simp only [hl363001_70]); (try simp only [hl363002_70]); (with_reducible repeat (first | apply Kd.R_alloc | apply Kd.R_drewN | apply Kd.R_drew)); exact Kd.R_mono HO_353000.out (fun _ hk => ⟨hk.1.1.1.1.1, ⟨hk.1.1.1.1.2.1, ⟨hk.1.1.1.1.2.2.1, ⟨hk.1.1.1.1.2.2.2.1, ⟨hk.1.1.1.1.2.2.2.2, ⟨hk.1.2, hk.2⟩⟩⟩⟩⟩⟩)⟩, ⟨by (try simp only [hl363000_70]); (try simp only [hl363001_70]); (try simp only [hl363002_70]); (with_reducible repeat (first | apply Kd.R_alloc | apply Kd.R_drewN | apply Kd.R_drew)); exact Kd.R_mono HO_353001.out (fun _ hk => ⟨hk.1.1.1.1.1, ⟨hk.1.1.1.1.2.1, ⟨hk.1.1.1.1.2.2.1, ⟨hk.1.1.1.1.2.2.2.1, ⟨hk.1.1.1.1.2.2.2.2, ⟨hk.1.2, hk.2⟩⟩⟩⟩⟩⟩)⟩, ⟨by (try simp only [hl363000_70]); (try simp only [hl363001_70]); (try simp only [hl363002_70]); (with_reducible repeat (first | apply Kd.R_alloc | apply Kd.R_drewN | apply Kd.R_drew)); exact Kd.R_mono HO_353002.out (fun _ hk => ⟨hk.1.1.1, ⟨hk.1.1.2, hk.2⟩⟩)⟩, ⟨by (try simp only [hl363000_70]); (try simp only [hl363001_70]); (try simp only [hl363002_70]); (with_reducible repeat (first | apply Kd.R_alloc | apply Kd.R_drewN | apply Kd.R_drew)); exact Kd.R_mono HO_363000.out (fun _ hk => ⟨hk.1.1.1.1.1, ⟨hk.1.1.1.1.2.1, ⟨hk.1.1.1.1.2.2.1, ⟨hk.1.1.1.1.2.2.2.1, ⟨hk.1.1.1.1.2.2.2.2, ⟨hk.1.2, hk.2⟩⟩⟩⟩⟩⟩)⟩, ⟨by (try simp only [hl363000_70]); (try simp only [hl363001_70]); (try simp only [hl363002_70]); (with_reducible repeat (first | apply Kd.R_alloc | apply Kd.R_drewN | apply Kd.R_drew)); exact Kd.R_mono HO_363001.out (fun _ hk => ⟨hk.1.1.1.1.1, ⟨hk.1.1.1.1.2.1, ⟨hk.1.1.1.1.2.2.1, ⟨hk.1.1.1.1.2.2.2.1, ⟨hk.1.1.1.1.2.2.2.2, ⟨hk.1.2, hk.2⟩⟩⟩⟩⟩⟩)⟩, ⟨by (try simp only [hl363000_70]); (try simp only [hl363001_70]); (try simp only [hl363002_70]); (with_reducible repeat (first | apply Kd.R_alloc | apply Kd.R_drewN | apply Kd.R_drew)); exact Kd.R_mono HO_363002.out (fun _ hk => ⟨hk.1.1.1, ⟨hk.1.1.2, hk.2⟩⟩)⟩, ⟨by (try simp only [hl363000_70]); (try simp only [hl363001_70]); (try simp only [hl363002_70]); (with_reducible repeat (first | apply Kd.R_alloc | apply Kd.R_drewN | apply Kd.R_drew)); exact Kd.R_mono HO_374000.out (fun _ hk => ⟨hk.1.1.1.1.1, ⟨hk.1.1.1.1.2.1, ⟨hk.1.1.1.1.2.2.1, ⟨hk.1.1.1.1.2.2.2.1, ⟨hk.1.1.1.1.2.2.2.2, ⟨hk.1.2, hk.2⟩⟩⟩⟩⟩⟩)⟩, ⟨by (try simp only [hl363000_70]); (try simp only [hl363001_70]); (try simp only [hl363002_70]); (with_reducible repeat (first | apply Kd.R_alloc | apply Kd.R_drewN | apply Kd.R_drew)); exact Kd.R_mono HO_374001.out (fun _ hk => ⟨hk.1.1.1.1.1, ⟨hk.1.1.1.1.2.1, ⟨hk.1.1.1.1.2.2.1, ⟨hk.1.1.1.1.2.2.2.1, ⟨hk.1.1.1.1.2.2.2.2, ⟨hk.1.2, hk.2⟩⟩⟩⟩⟩⟩)⟩, ⟨by (try simp only [hl363000_70]); (try simp only [hl363001_70]); (try simp only [hl363002_70]); (with_reducible repeat (first | apply Kd.R_alloc | apply Kd.R_drewN | apply Kd.R_drew)); exact Kd.R_mono HO_374002.out (fun _ hk => ⟨hk.1.1.1, ⟨hk.1.1.2, hk.2⟩⟩)⟩, ⟨by (try simp only [hl363000_70]); (try simp only [hl363001_70]); (try simp only [hl363002_70]); (with_reducible repeat (first | apply Kd.R_alloc | apply Kd.R_drewN | apply Kd.R_drew)); exact Kd.R_mono HO406.out (fun _ hk => ⟨hk.1.1.1.1.1.1.1.2, ⟨hk.1.1.1.1.1.1.2, ⟨hk.1.1.1.1.1.2, ⟨hk.1.1.1.1.2, ⟨hk.1.1.1.2, ⟨hk.1.1.2, hk.1.1.1.1.1.1.1.1⟩⟩⟩⟩⟩⟩)⟩, ⟨by (try simp only [hl363000_70]); (try simp only [hl363001_70]); (try simp only [hl363002_70]); (with_reducible repeat (first | apply Kd.R_alloc | apply Kd.R_drewN | apply Kd.R_drew)); exact Kd.R_mono HO409.out (fun _ hk => ⟨hk.1.1.1.1.1.1.1.2, ⟨hk.1.1.1.1.1.1.2, ⟨hk.1.1.1.1.1.2, ⟨hk.1.1.1.1.2, ⟨hk.1.1.1.2, ⟨hk.1.1.2, hk.1.1.1.1.1.1.1.1⟩⟩⟩⟩⟩⟩)⟩, ⟨by (try simp only [hl363000_70]); (try simp only [hl363001_70]); (try simp only [hl363002_70]); (with_reducible repeat (first | apply Kd.R_alloc | apply Kd.R_drewN | apply Kd.R_drew)); exact Kd.R_mono HO412.out (fun _ hk => ⟨hk.1.1.1.2, ⟨hk.1.1.2, hk.1.2⟩⟩)⟩, ⟨by (try simp only [hl363000_70]); (try simp only [hl363001_70]); (try simp only [hl363002_70]); (with_reducible repeat (first | refine blk_drewN ?_ _ | refine blk_drew ?_ | refine blk_alloc ?_ _)); exact BK331.out⟩, ⟨by (try simp only [hl363000_70]); (try simp only [hl363001_70]); (try simp only [hl363002_70]); (with_reducible repeat (first | refine blk_drewN ?_ _ | refine blk_drew ?_ | refine blk_alloc ?_ _)); exact BK352.out⟩, ⟨by (try simp only [hl363000_70]); (try simp only [hl363001_70]); (try simp only [hl363002_70]); (with_reducible repeat (first | refine blk_drewN ?_ _ | refine blk_drew ?_ | refine blk_alloc ?_ _)); exact BK362.out⟩, ⟨by (try simp only [hl363000_70]); (try simp only [hl363001_70]); (try simp only [hl363002_70]); (with_reducible repeat (first | refine blk_drewN ?_ _ | refine blk_drew ?_ | refine blk_alloc ?_ _)); exact BK373.out⟩, ⟨by (try simp only [hl363000_70]); (try simp only [hl363001_70]); (try simp only [hl363002_70]); (with_reducible repeat (first | refine blk_drewN ?_ _ | refine blk_drew ?_ | refine blk_alloc ?_ _)); exact BK414.out⟩, ⟨by repeat (first | (with_reducible first | exact HB.out | apply below_alloc | apply pw_below_drewN | apply below_drew1) | exact HB.out)⟩⟩}
 {
 replace c142 := Bool.eq_false_iff.mpr c142
 subst c142
 have H1 : (laws_FnExactHeartbeat.j2 kj70 t390 true t391 t392 t393) = some r := by rw [if_neg (show ¬ (false = true) by decide)] at H; exact H
 clear H
 have H := H1
 clear H1
 have H' := Aside0.mk H
 clear H
 have hnb153 := NB414_331.out
 have hnc153 := NB331_414.out
 have hnb154 := NB414_352.out
 have hnc154 := NB352_414.out
 have hnb155 := NB414_362.out
 have hnc155 := NB362_414.out
 have hnb156 := NB414_373.out
 have hnc156 := NB373_414.out
 have hcz157_0 := c1_ BK414 0 (.slice none 0 0)
 have hcz157_1 := c1_ BK414 1 (.slice none 0 0)
 have hcz157_2 := c1_ BK414 2 (.slice none 0 0)
 have hfz157_0 := f1_ BK414 0
 have hfz157_1 := f1_ BK414 1
 have hfz157_2 := f1_ BK414 2
 have hnb158 := NB352_331.out
 have hnc158 := NB331_352.out
 have hnb159 := NB352_362.out
 have hnc159 := NB362_352.out
 have hnb160 := NB352_373.out
 have hnc160 := NB373_352.out
 have hcz161_0 := c1_ BK352 0 (.slice Ao25 t342.length co25)
 have hcz161_1 := c1_ BK352 1 (.slice Ao28 t345.length co28)
 have hcz161_2 := c1_ BK352 2 (.slice Ao29 t348.length co29)
 have hfz161_0 := f1_ BK352 0
 have hfz161_1 := f1_ BK352 1
 have hfz161_2 := f1_ BK352 2
 go_wp2_with (first | ((with_reducible refine gate_callee (f := 27) rfl ?_); refine goesL_ (some 96) rfl rfl Try.func27 s2_ rfl #[.agg #[.slice Ao133 t404.length co133, .slice Ao139 t407.length co139, .slice Ao140 t410.length co140], .agg #[.slice Ao25 t342.length co25, .slice Ao28 t345.length co28, .slice Ao29 t348.length co29]] rfl s3_ ?_; (with_reducible refine (laws_eqPresence.calls kj70 _ _ t404 _ _ t407 _ _ t410 _ _ t342 _ _ t345 _ _ t348 false _ ?side1 ?side2 ?side3 ?side4 ?side5 ?side6 ?side7 ?side8 ?side9 ?side10 ?side11 ?side12 A141.out).mono ?_); (case side1 => refine (Kd.R_reads' (e := 63) (base := w.heap.size) (ok := fun k_ => ((((((((some k_ ≠ (.slice Ao139 t407.length co139 : Value).ownBlock ∧ some k_ ≠ (.slice Ao25 t342.length co25 : Value).ownBlock) ∧ some k_ ≠ (.slice Ao28 t345.length co28 : Value).ownBlock) ∧ some k_ ≠ (.slice Ao33 t386.length co33 : Value).ownBlock) ∧ some k_ ≠ (.slice Ao37 t387.length co37 : Value).ownBlock) ∧ some k_ ≠ (.slice Ao41 t363.length co41 : Value).ownBlock) ∧ some k_ ≠ (.slice Ao46 t366.length co46 : Value).ownBlock) ∧ some k_ ≠ (.slice Ao128 t395.length co128 : Value).ownBlock) ∧ some k_ ≠ (.slice Ao129 t398.length co129 : Value).ownBlock)) (n := t404.length) (c := co133) ?_).2.2; exact (by (with_reducible repeat (first | apply Kd.R_alloc | apply Kd.R_drewN | apply Kd.R_drew)); exact (Kd.R_mono (Kd.R_far3 (g := gb414) (Kd.R_types HO406.out BK414.out (by decide)) (fun _ hk => hk.2)) (fun _ h_ => h_.1)))); (case side2 => exact (Kd.R_reads' HO406.out).2.1); (case side3 => refine (Kd.R_reads' (e := 63) (base := w.heap.size) (ok := fun k_ => ((((((((some k_ ≠ (.slice Ao133 t404.length co133 : Value).ownBlock ∧ some k_ ≠ (.slice Ao25 t342.length co25 : Value).ownBlock) ∧ some k_ ≠ (.slice Ao28 t345.length co28 : Value).ownBlock) ∧ some k_ ≠ (.slice Ao33 t386.length co33 : Value).ownBlock) ∧ some k_ ≠ (.slice Ao37 t387.length co37 : Value).ownBlock) ∧ some k_ ≠ (.slice Ao41 t363.length co41 : Value).ownBlock) ∧ some k_ ≠ (.slice Ao46 t366.length co46 : Value).ownBlock) ∧ some k_ ≠ (.slice Ao128 t395.length co128 : Value).ownBlock) ∧ some k_ ≠ (.slice Ao129 t398.length co129 : Value).ownBlock)) (n := t407.length) (c := co139) ?_).2.2; exact (by (with_reducible repeat (first | apply Kd.R_alloc | apply Kd.R_drewN | apply Kd.R_drew)); exact (Kd.R_mono (Kd.R_far3 (g := gb414) (Kd.R_types HO409.out BK414.out (by decide)) (fun _ hk => hk.2)) (fun _ h_ => h_.1)))); (case side4 => exact (Kd.R_reads' HO409.out).2.1); (case side5 => refine (Kd.R_reads' (e := 73) (base := w.heap.size) (ok := fun k_ => ((((True ∧ some k_ ≠ (.slice Ao29 t348.length co29 : Value).ownBlock) ∧ some k_ ≠ (.slice Ao38 t388.length co38 : Value).ownBlock) ∧ some k_ ≠ (.slice Ao47 t369.length co47 : Value).ownBlock) ∧ some k_ ≠ (.slice Ao130 t401.length co130 : Value).ownBlock)) (n := t410.length) (c := co140) ?_).2.2; exact (by (with_reducible repeat (first | apply Kd.R_alloc | apply Kd.R_drewN | apply Kd.R_drew)); exact (Kd.R_mono (Kd.R_far3 (g := gb414) (Kd.R_types HO412.out BK414.out (by decide)) (fun _ hk => hk.2)) (fun _ h_ => h_.1)))); (case side6 => exact (Kd.R_reads' HO412.out).2.1); (case side7 => refine (Kd.R_reads' (e := 63) (base := w.heap.size) (ok := fun k_ => (((((some k_ ≠ (.slice Ao28 t345.length co28 : Value).ownBlock ∧ (some k_ ≠ (.slice Ao33 t386.length co33 : Value).ownBlock ∧ (some k_ ≠ (.slice Ao37 t387.length co37 : Value).ownBlock ∧ (some k_ ≠ (.slice Ao41 t363.length co41 : Value).ownBlock ∧ some k_ ≠ (.slice Ao46 t366.length co46 : Value).ownBlock)))) ∧ some k_ ≠ (.slice Ao128 t395.length co128 : Value).ownBlock) ∧ some k_ ≠ (.slice Ao129 t398.length co129 : Value).ownBlock) ∧ some k_ ≠ (.slice Ao133 t404.length co133 : Value).ownBlock) ∧ some k_ ≠ (.slice Ao139 t407.length co139 : Value).ownBlock)) (n := t342.length) (c := co25) ?_).2.2; exact (by (with_reducible repeat (first | apply Kd.R_alloc | apply Kd.R_drewN | apply Kd.R_drew)); exact (Kd.R_mono (Kd.R_far3 (g := gb414) (Kd.R_types HO_353000.out BK414.out (by decide)) (fun _ hk => hk.2)) (fun _ h_ => h_.1)))); (case side8 => exact (Kd.R_reads' HO_353000.out).2.1); (case side9 => refine (Kd.R_reads' (e := 63) (base := w.heap.size) (ok := fun k_ => (((((some k_ ≠ (.slice Ao25 t342.length co25 : Value).ownBlock ∧ (some k_ ≠ (.slice Ao33 t386.length co33 : Value).ownBlock ∧ (some k_ ≠ (.slice Ao37 t387.length co37 : Value).ownBlock ∧ (some k_ ≠ (.slice Ao41 t363.length co41 : Value).ownBlock ∧ some k_ ≠ (.slice Ao46 t366.length co46 : Value).ownBlock)))) ∧ some k_ ≠ (.slice Ao128 t395.length co128 : Value).ownBlock) ∧ some k_ ≠ (.slice Ao129 t398.length co129 : Value).ownBlock) ∧ some k_ ≠ (.slice Ao133 t404.length co133 : Value).ownBlock) ∧ some k_ ≠ (.slice Ao139 t407.length co139 : Value).ownBlock)) (n := t345.length) (c := co28) ?_).2.2; exact (by (with_reducible repeat (first | apply Kd.R_alloc | apply Kd.R_drewN | apply Kd.R_drew)); exact (Kd.R_mono (Kd.R_far3 (g := gb414) (Kd.R_types HO_353001.out BK414.out (by decide)) (fun _ hk => hk.2)) (fun _ h_ => h_.1)))); (case side10 => exact (Kd.R_reads' HO_353001.out).2.1); (case side11 => refine (Kd.R_reads' (e := 73) (base := w.heap.size) (ok := fun k_ => (((some k_ ≠ (.slice Ao38 t388.length co38 : Value).ownBlock ∧ some k_ ≠ (.slice Ao47 t369.length co47 : Value).ownBlock) ∧ some k_ ≠ (.slice Ao130 t401.length co130 : Value).ownBlock) ∧ some k_ ≠ (.slice Ao140 t410.length co140 : Value).ownBlock)) (n := t348.length) (c := co29) ?_).2.2; exact (by (with_reducible repeat (first | apply Kd.R_alloc | apply Kd.R_drewN | apply Kd.R_drew)); exact (Kd.R_mono (Kd.R_far3 (g := gb414) (Kd.R_types HO_353002.out BK414.out (by decide)) (fun _ hk => hk.2)) (fun _ h_ => h_.1)))); (case side12 => exact (Kd.R_reads' HO_353002.out).2.1); rintro e w162 ⟨rfl, hb⟩; refine ⟨_, rfl, ?_⟩; replace HO_353000 := Aside0.mk (Kd.R_below (by (with_reducible repeat (first | apply Kd.R_alloc | apply Kd.R_drewN | apply Kd.R_drew)); exact (Kd.R_mono (Kd.R_far3 (g := gb414) (Kd.R_types HO_353000.out BK414.out (by decide)) (fun _ hk => hk.2)) (fun _ h_ => h_.1))) hb); replace HO_353001 := Aside0.mk (Kd.R_below (by (with_reducible repeat (first | apply Kd.R_alloc | apply Kd.R_drewN | apply Kd.R_drew)); exact (Kd.R_mono (Kd.R_far3 (g := gb414) (Kd.R_types HO_353001.out BK414.out (by decide)) (fun _ hk => hk.2)) (fun _ h_ => h_.1))) hb); replace HO_353002 := Aside0.mk (Kd.R_below (by (with_reducible repeat (first | apply Kd.R_alloc | apply Kd.R_drewN | apply Kd.R_drew)); exact (Kd.R_mono (Kd.R_far3 (g := gb414) (Kd.R_types HO_353002.out BK414.out (by decide)) (fun _ hk => hk.2)) (fun _ h_ => h_.1))) hb); replace HO_363000 := Aside0.mk (Kd.R_below (by (with_reducible repeat (first | apply Kd.R_alloc | apply Kd.R_drewN | apply Kd.R_drew)); exact (Kd.R_mono (Kd.R_far3 (g := gb414) (Kd.R_types HO_363000.out BK414.out (by decide)) (fun _ hk => hk.2)) (fun _ h_ => h_.1))) hb); replace HO_363001 := Aside0.mk (Kd.R_below (by (with_reducible repeat (first | apply Kd.R_alloc | apply Kd.R_drewN | apply Kd.R_drew)); exact (Kd.R_mono (Kd.R_far3 (g := gb414) (Kd.R_types HO_363001.out BK414.out (by decide)) (fun _ hk => hk.2)) (fun _ h_ => h_.1))) hb); replace HO_363002 := Aside0.mk (Kd.R_below (by (with_reducible repeat (first | apply Kd.R_alloc | apply Kd.R_drewN | apply Kd.R_drew)); exact (Kd.R_mono (Kd.R_far3 (g := gb414) (Kd.R_types HO_363002.out BK414.out (by decide)) (fun _ hk => hk.2)) (fun _ h_ => h_.1))) hb); replace HO_374000 := Aside0.mk (Kd.R_below (by (with_reducible repeat (first | apply Kd.R_alloc | apply Kd.R_drewN | apply Kd.R_drew)); exact (Kd.R_mono (Kd.R_far3 (g := gb414) (Kd.R_types HO_374000.out BK414.out (by decide)) (fun _ hk => hk.2)) (fun _ h_ => h_.1))) hb); replace HO_374001 := Aside0.mk (Kd.R_below (by (with_reducible repeat (first | apply Kd.R_alloc | apply Kd.R_drewN | apply Kd.R_drew)); exact (Kd.R_mono (Kd.R_far3 (g := gb414) (Kd.R_types HO_374001.out BK414.out (by decide)) (fun _ hk => hk.2)) (fun _ h_ => h_.1))) hb); replace HO_374002 := Aside0.mk (Kd.R_below (by (with_reducible repeat (first | apply Kd.R_alloc | apply Kd.R_drewN | apply Kd.R_drew)); exact (Kd.R_mono (Kd.R_far3 (g := gb414) (Kd.R_types HO_374002.out BK414.out (by decide)) (fun _ hk => hk.2)) (fun _ h_ => h_.1))) hb); replace HO397 := Aside0.mk (Kd.R_below (by (with_reducible repeat (first | apply Kd.R_alloc | apply Kd.R_drewN | apply Kd.R_drew)); exact (Kd.R_mono (Kd.R_far3 (g := gb414) (Kd.R_types HO397.out BK414.out (by decide)) (fun _ hk => hk.2)) (fun _ h_ => h_.1))) hb); replace HO400 := Aside0.mk (Kd.R_below (by (with_reducible repeat (first | apply Kd.R_alloc | apply Kd.R_drewN | apply Kd.R_drew)); exact (Kd.R_mono (Kd.R_far3 (g := gb414) (Kd.R_types HO400.out BK414.out (by decide)) (fun _ hk => hk.2)) (fun _ h_ => h_.1))) hb); replace HO403 := Aside0.mk (Kd.R_below (by (with_reducible repeat (first | apply Kd.R_alloc | apply Kd.R_drewN | apply Kd.R_drew)); exact (Kd.R_mono (Kd.R_far3 (g := gb414) (Kd.R_types HO403.out BK414.out (by decide)) (fun _ hk => hk.2)) (fun _ h_ => h_.1))) hb); replace HO406 := Aside0.mk (Kd.R_below (by (with_reducible repeat (first | apply Kd.R_alloc | apply Kd.R_drewN | apply Kd.R_drew)); exact (Kd.R_mono (Kd.R_far3 (g := gb414) (Kd.R_types HO406.out BK414.out (by decide)) (fun _ hk => hk.2)) (fun _ h_ => h_.1))) hb); replace HO409 := Aside0.mk (Kd.R_below (by (with_reducible repeat (first | apply Kd.R_alloc | apply Kd.R_drewN | apply Kd.R_drew)); exact (Kd.R_mono (Kd.R_far3 (g := gb414) (Kd.R_types HO409.out BK414.out (by decide)) (fun _ hk => hk.2)) (fun _ h_ => h_.1))) hb); replace HO412 := Aside0.mk (Kd.R_below (by (with_reducible repeat (first | apply Kd.R_alloc | apply Kd.R_drewN | apply Kd.R_drew)); exact (Kd.R_mono (Kd.R_far3 (g := gb414) (Kd.R_types HO412.out BK414.out (by decide)) (fun _ hk => hk.2)) (fun _ h_ => h_.1))) hb); replace BK331 := Aside0.mk (blk_below (g := gb331) (o := .cells #[.slice A0_0 l0_0.length c0_0, .slice A0_1 l0_1.length c0_1, .slice A0_2 l0_2.length c0_2] 45 (0, 0)) (by (with_reducible repeat (first | refine blk_drewN ?_ _ | refine blk_drew ?_ | refine blk_alloc ?_ _)); refine blk_far3 ?_ NB331_414.out; (with_reducible repeat (first | refine blk_drewN ?_ _ | refine blk_drew ?_ | refine blk_alloc ?_ _)); exact BK331.out) hb); replace BK352 := Aside0.mk (blk_below (g := gb352) (o := .cells #[.slice Ao25 t342.length co25, .slice Ao28 t345.length co28, .slice Ao29 t348.length co29] 27 (0, 0)) (by (with_reducible repeat (first | refine blk_drewN ?_ _ | refine blk_drew ?_ | refine blk_alloc ?_ _)); refine blk_far3 ?_ NB352_414.out; (with_reducible repeat (first | refine blk_drewN ?_ _ | refine blk_drew ?_ | refine blk_alloc ?_ _)); exact BK352.out) hb); replace BK362 := Aside0.mk (blk_below (g := gb362) (o := .cells #[.slice Ao33 t386.length co33, .slice Ao37 t387.length co37, .slice Ao38 t388.length co38] 27 (0, 0)) (by (with_reducible repeat (first | refine blk_drewN ?_ _ | refine blk_drew ?_ | refine blk_alloc ?_ _)); refine blk_far3 ?_ NB362_414.out; (with_reducible repeat (first | refine blk_drewN ?_ _ | refine blk_drew ?_ | refine blk_alloc ?_ _)); exact BK362.out) hb); replace BK373 := Aside0.mk (blk_below (g := gb373) (o := .cells #[.slice Ao41 t363.length co41, .slice Ao46 t366.length co46, .slice Ao47 t369.length co47] 27 (0, 0)) (by (with_reducible repeat (first | refine blk_drewN ?_ _ | refine blk_drew ?_ | refine blk_alloc ?_ _)); refine blk_far3 ?_ NB373_414.out; (with_reducible repeat (first | refine blk_drewN ?_ _ | refine blk_drew ?_ | refine blk_alloc ?_ _)); exact BK373.out) hb); replace BK414 := Aside0.mk (blk_below (g := gb414) (o := .cells #[.slice Ao133 t404.length co133, .slice Ao139 t407.length co139, .slice Ao140 t410.length co140] 27 (0, 0)) (by (with_reducible repeat (first | refine blk_drewN ?_ _ | refine blk_drew ?_ | refine blk_alloc ?_ _)); refine blk_put3 (cs := #[.slice none 0 0, .slice none 0 0, .slice none 0 0]) ?_ rfl; (with_reducible repeat (first | refine blk_drewN ?_ _ | refine blk_drew ?_ | refine blk_alloc ?_ _)); exact BK414.out) hb); replace HB := Aside0.mk (below_step (by repeat (first | (with_reducible first | exact HB.out | apply below_alloc | apply pw_below_drewN | apply below_drew1 | refine below_set ?_ GE414.out) | exact HB.out)) hb); (try clear hb); (try clear hb2); (try clear hk); (try clear hi)))
 go_meet
 case rel => exact ⟨_, (true), s1_, H', ⟨by have := HJ13.out; have := HJ70.out; first | omega | exact Nat.le_refl _⟩, ⟨by (try simp only [hl363000_70]); (try simp only [hl363001_70]); (try simp only [hl363002_70]); (with_reducible repeat (first | apply Kd.R_alloc | apply Kd.R_drewN | apply Kd.R_drew)); exact Kd.R_mono HO_353000.out (fun _ hk => ⟨hk.1.1.1.1.1, ⟨hk.1.1.1.1.2.1, ⟨hk.1.1.1.1.2.2.1, ⟨hk.1.1.1.1.2.2.2.1, ⟨hk.1.1.1.1.2.2.2.2, ⟨hk.1.2, hk.2⟩⟩⟩⟩⟩⟩)⟩, ⟨by (try simp only [hl363000_70]); (try simp only [hl363001_70]); (try simp only [hl363002_70]); (with_reducible repeat (first | apply Kd.R_alloc | apply Kd.R_drewN | apply Kd.R_drew)); exact Kd.R_mono HO_353001.out (fun _ hk => ⟨hk.1.1.1.1.1, ⟨hk.1.1.1.1.2.1, ⟨hk.1.1.1.1.2.2.1, ⟨hk.1.1.1.1.2.2.2.1, ⟨hk.1.1.1.1.2.2.2.2, ⟨hk.1.2, hk.2⟩⟩⟩⟩⟩⟩)⟩, ⟨by (try simp only [hl363000_70]); (try simp only [hl363001_70]); (try simp only [hl363002_70]); (with_reducible repeat (first | apply Kd.R_alloc | apply Kd.R_drewN | apply Kd.R_drew)); exact Kd.R_mono HO_353002.out (fun _ hk => ⟨hk.1.1.1, ⟨hk.1.1.2, hk.2⟩⟩)⟩, ⟨by (try simp only [hl363000_70]); (try simp only [hl363001_70]); (try simp only [hl363002_70]); (with_reducible repeat (first | apply Kd.R_alloc | apply Kd.R_drewN | apply Kd.R_drew)); exact Kd.R_mono HO_363000.out (fun _ hk => ⟨hk.1.1.1.1.1, ⟨hk.1.1.1.1.2.1, ⟨hk.1.1.1.1.2.2.1, ⟨hk.1.1.1.1.2.2.2.1, ⟨hk.1.1.1.1.2.2.2.2, ⟨hk.1.2, hk.2⟩⟩⟩⟩⟩⟩)⟩, ⟨by (try simp only [hl363000_70]); (try simp only [hl363001_70]); (try simp only [hl363002_70]); (with_reducible repeat (first | apply Kd.R_alloc | apply Kd.R_drewN | apply Kd.R_drew)); exact Kd.R_mono HO_363001.out (fun _ hk => ⟨hk.1.1.1.1.1, ⟨hk.1.1.1.1.2.1, ⟨hk.1.1.1.1.2.2.1, ⟨hk.1.1.1.1.2.2.2.1, ⟨hk.1.1.1.1.2.2.2.2, ⟨hk.1.2, hk.2⟩⟩⟩⟩⟩⟩)⟩, ⟨by (try simp only [hl363000_70]); (try simp only [hl363001_70]); (try simp only [hl363002_70]); (with_reducible repeat (first | apply Kd.R_alloc | apply Kd.R_drewN | apply Kd.R_drew)); exact Kd.R_mono HO_363002.out (fun _ hk => ⟨hk.1.1.1, ⟨hk.1.1.2, hk.2⟩⟩)⟩, ⟨by (try simp only [hl363000_70]); (try simp only [hl363001_70]); (try simp only [hl363002_70]); (with_reducible repeat (first | apply Kd.R_alloc | apply Kd.R_drewN | apply Kd.R_drew)); exact Kd.R_mono HO_374000.out (fun _ hk => ⟨hk.1.1.1.1.1, ⟨hk.1.1.1.1.2.1, ⟨hk.1.1.1.1.2.2.1, ⟨hk.1.1.1.1.2.2.2.1, ⟨hk.1.1.1.1.2.2.2.2, ⟨hk.1.2, hk.2⟩⟩⟩⟩⟩⟩)⟩, ⟨by (try simp only [hl363000_70]); (try simp only [hl363001_70]); (try simp only [hl363002_70]); (with_reducible repeat (first | apply Kd.R_alloc | apply Kd.R_drewN | apply Kd.R_drew)); exact Kd.R_mono HO_374001.out (fun _ hk => ⟨hk.1.1.1.1.1, ⟨hk.1.1.1.1.2.1, ⟨hk.1.1.1.1.2.2.1, ⟨hk.1.1.1.1.2.2.2.1, ⟨hk.1.1.1.1.2.2.2.2, ⟨hk.1.2, hk.2⟩⟩⟩⟩⟩⟩)⟩, ⟨by (try simp only [hl363000_70]); (try simp only [hl363001_70]); (try simp only [hl363002_70]); (with_reducible repeat (first | apply Kd.R_alloc | apply Kd.R_drewN | apply Kd.R_drew)); exact Kd.R_mono HO_374002.out (fun _ hk => ⟨hk.1.1.1, ⟨hk.1.1.2, hk.2⟩⟩)⟩, ⟨by (try simp only [hl363000_70]); (try simp only [hl363001_70]); (try simp only [hl363002_70]); (with_reducible repeat (first | apply Kd.R_alloc | apply Kd.R_drewN | apply Kd.R_drew)); exact Kd.R_mono HO406.out (fun _ hk => ⟨hk.1.1.1.1.1.1.1.2, ⟨hk.1.1.1.1.1.1.2, ⟨hk.1.1.1.1.1.2, ⟨hk.1.1.1.1.2, ⟨hk.1.1.1.2, ⟨hk.1.1.2, hk.1.1.1.1.1.1.1.1⟩⟩⟩⟩⟩⟩)⟩, ⟨by (try simp only [hl363000_70]); (try simp only [hl363001_70]); (try simp only [hl363002_70]); (with_reducible repeat (first | apply Kd.R_alloc | apply Kd.R_drewN | apply Kd.R_drew)); exact Kd.R_mono HO409.out (fun _ hk => ⟨hk.1.1.1.1.1.1.1.2, ⟨hk.1.1.1.1.1.1.2, ⟨hk.1.1.1.1.1.2, ⟨hk.1.1.1.1.2, ⟨hk.1.1.1.2, ⟨hk.1.1.2, hk.1.1.1.1.1.1.1.1⟩⟩⟩⟩⟩⟩)⟩, ⟨by (try simp only [hl363000_70]); (try simp only [hl363001_70]); (try simp only [hl363002_70]); (with_reducible repeat (first | apply Kd.R_alloc | apply Kd.R_drewN | apply Kd.R_drew)); exact Kd.R_mono HO412.out (fun _ hk => ⟨hk.1.1.1.2, ⟨hk.1.1.2, hk.1.2⟩⟩)⟩, ⟨by (try simp only [hl363000_70]); (try simp only [hl363001_70]); (try simp only [hl363002_70]); (with_reducible repeat (first | refine blk_drewN ?_ _ | refine blk_drew ?_ | refine blk_alloc ?_ _)); exact BK331.out⟩, ⟨by (try simp only [hl363000_70]); (try simp only [hl363001_70]); (try simp only [hl363002_70]); (with_reducible repeat (first | refine blk_drewN ?_ _ | refine blk_drew ?_ | refine blk_alloc ?_ _)); exact BK352.out⟩, ⟨by (try simp only [hl363000_70]); (try simp only [hl363001_70]); (try simp only [hl363002_70]); (with_reducible repeat (first | refine blk_drewN ?_ _ | refine blk_drew ?_ | refine blk_alloc ?_ _)); exact BK362.out⟩, ⟨by (try simp only [hl363000_70]); (try simp only [hl363001_70]); (try simp only [hl363002_70]); (with_reducible repeat (first | refine blk_drewN ?_ _ | refine blk_drew ?_ | refine blk_alloc ?_ _)); exact BK373.out⟩, ⟨by (try simp only [hl363000_70]); (try simp only [hl363001_70]); (try simp only [hl363002_70]); (with_reducible repeat (first | refine blk_drewN ?_ _ | refine blk_drew ?_ | refine blk_alloc ?_ _)); exact BK414.out⟩, ⟨by repeat (first | (with_reducible first | exact HB.out | apply below_alloc | apply pw_below_drewN | apply below_drew1) | exact HB.out)⟩⟩}}
 case rest =>
  skip
  {
 clear HC116
 try clear c1
 try clear c2
 try clear p2
 try clear c3
 try clear c4
 try clear c5
 try clear c6
 try clear c6b0
 try clear c7
 try clear c8
 try clear c9
 try clear c10
 try clear c11
 try clear c12
 try clear c13
 try clear c14
 try clear c15
 try clear c16
 try clear c24
 try clear c26
 try clear c27
 try clear c28
 try clear c29
 try clear c32
 try clear c34
 try clear c35
 try clear c42
 try clear c43
 try clear c44
 try clear c49
 try clear c50
 try clear c51
 try clear c52
 try clear c54
 try clear c55
 try clear c58
 try clear c59
 try clear c60
 try clear c62
 try clear c63
 try clear c66
 try clear c69
 try clear c78
 try clear c79
 try clear c80
 try clear c83
 try clear c83b0
 try clear c85
 try clear c86
 try clear c87
 try clear c88
 try clear c90
 try clear c91
 try clear c94
 try clear c95
 try clear c96
 try clear c98
 try clear c99
 try clear c102
 try clear c105
 try clear c105b0
 try clear c106
 try clear c107
 try clear c108
 try clear c113
 try clear c113b0
 try clear c113b1
 try clear c117
 try clear c118
 try clear c119
 try clear c124
 try clear c125
 try clear c134
 try clear c135
 try clear c136
 try clear c137
 try clear c142
 try clear c143
 try clear c144
 try clear c145
 try clear c146
 try clear c148
 try clear c149
 try clear c150
 try clear c153
 try clear c154
 try clear c155
 try clear c156
 try clear c158
 try clear c159
 try clear c160
 try clear hcz100_0
 try clear hcz100_1
 try clear hcz100_2
 try clear hcz109_0
 try clear hcz109_1
 try clear hcz109_2
 try clear hcz111_0
 try clear hcz111_1
 try clear hcz111_2
 try clear hcz120_0
 try clear hcz120_1
 try clear hcz120_2
 try clear hcz122_0
 try clear hcz122_1
 try clear hcz122_2
 try clear hcz126_0
 try clear hcz126_1
 try clear hcz126_2
 try clear hcz138_0
 try clear hcz138_1
 try clear hcz138_2
 try clear hcz147_0
 try clear hcz147_1
 try clear hcz147_2
 try clear hcz151_0
 try clear hcz151_1
 try clear hcz151_2
 try clear hcz157_0
 try clear hcz157_1
 try clear hcz157_2
 try clear hcz161_0
 try clear hcz161_1
 try clear hcz161_2
 try clear hcz16_0
 try clear hcz16_1
 try clear hcz16_2
 try clear hcz18_0
 try clear hcz18_1
 try clear hcz18_2
 try clear hcz27_0
 try clear hcz27_1
 try clear hcz27_2
 try clear hcz30_0
 try clear hcz30_1
 try clear hcz30_2
 try clear hcz36_0
 try clear hcz36_1
 try clear hcz36_2
 try clear hcz45_0
 try clear hcz45_1
 try clear hcz45_2
 try clear hcz53_0
 try clear hcz53_1
 try clear hcz53_2
 try clear hcz56_0
 try clear hcz56_1
 try clear hcz56_2
 try clear hcz61_0
 try clear hcz61_1
 try clear hcz61_2
 try clear hcz64_0
 try clear hcz64_1
 try clear hcz64_2
 try clear hcz81_0
 try clear hcz81_1
 try clear hcz81_2
 try clear hcz89_0
 try clear hcz89_1
 try clear hcz89_2
 try clear hcz8_0
 try clear hcz8_1
 try clear hcz8_2
 try clear hcz92_0
 try clear hcz92_1
 try clear hcz92_2
 try clear hcz97_0
 try clear hcz97_1
 try clear hcz97_2
 try clear hfz100_0
 try clear hfz100_1
 try clear hfz100_2
 try clear hfz109_0
 try clear hfz109_1
 try clear hfz109_2
 try clear hfz111_0
 try clear hfz111_1
 try clear hfz111_2
 try clear hfz120_0
 try clear hfz120_1
 try clear hfz120_2
 try clear hfz122_0
 try clear hfz122_1
 try clear hfz122_2
 try clear hfz126_0
 try clear hfz126_1
 try clear hfz126_2
 try clear hfz138_0
 try clear hfz138_1
 try clear hfz138_2
 try clear hfz147_0
 try clear hfz147_1
 try clear hfz147_2
 try clear hfz151_0
 try clear hfz151_1
 try clear hfz151_2
 try clear hfz157_0
 try clear hfz157_1
 try clear hfz157_2
 try clear hfz161_0
 try clear hfz161_1
 try clear hfz161_2
 try clear hfz16_0
 try clear hfz16_1
 try clear hfz16_2
 try clear hfz18_0
 try clear hfz18_1
 try clear hfz18_2
 try clear hfz27_0
 try clear hfz27_1
 try clear hfz27_2
 try clear hfz30_0
 try clear hfz30_1
 try clear hfz30_2
 try clear hfz36_0
 try clear hfz36_1
 try clear hfz36_2
 try clear hfz45_0
 try clear hfz45_1
 try clear hfz45_2
 try clear hfz53_0
 try clear hfz53_1
 try clear hfz53_2
 try clear hfz56_0
 try clear hfz56_1
 try clear hfz56_2
 try clear hfz61_0
 try clear hfz61_1
 try clear hfz61_2
 try clear hfz64_0
 try clear hfz64_1
 try clear hfz64_2
 try clear hfz81_0
 try clear hfz81_1
 try clear hfz81_2
 try clear hfz89_0
 try clear hfz89_1
 try clear hfz89_2
 try clear hfz8_0
 try clear hfz8_1
 try clear hfz8_2
 try clear hfz92_0
 try clear hfz92_1
 try clear hfz92_2
 try clear hfz97_0
 try clear hfz97_1
 try clear hfz97_2
 try clear p2
 obtain ⟨kq, x102_115, rfl, HA, HJ115, HO_353000, HO_353001, HO_353002, HO_363000, HO_363001, HO_363002, HO_374000, HO_374001, HO_374002, HO_415000, HO_415001, HO_415002, BK331, BK352, BK362, BK373, BK414, HB⟩ := hcut
 have hl374000_115 := (Kd.R_reads' HO_374000.out).1
 rw [hl374000_115] at HO_374000
 (try simp only [hl374000_115])
 (try simp only [hl374000_115] at BK331)
 (try simp only [hl374000_115] at BK352)
 (try simp only [hl374000_115] at BK362)
 (try simp only [hl374000_115] at BK373)
 (try simp only [hl374000_115] at BK414)
 (try simp only [hl374000_115] at HO_353000)
 (try simp only [hl374000_115] at HO_353001)
 (try simp only [hl374000_115] at HO_353002)
 (try simp only [hl374000_115] at HO_363000)
 (try simp only [hl374000_115] at HO_363001)
 (try simp only [hl374000_115] at HO_363002)
 (try simp only [hl374000_115] at HO_374001)
 (try simp only [hl374000_115] at HO_374002)
 (try simp only [hl374000_115] at HO_415000)
 (try simp only [hl374000_115] at HO_415001)
 (try simp only [hl374000_115] at HO_415002)
 have hl374001_115 := (Kd.R_reads' HO_374001.out).1
 rw [hl374001_115] at HO_374001
 (try simp only [hl374001_115])
 (try simp only [hl374001_115] at BK331)
 (try simp only [hl374001_115] at BK352)
 (try simp only [hl374001_115] at BK362)
 (try simp only [hl374001_115] at BK373)
 (try simp only [hl374001_115] at BK414)
 (try simp only [hl374001_115] at HO_353000)
 (try simp only [hl374001_115] at HO_353001)
 (try simp only [hl374001_115] at HO_353002)
 (try simp only [hl374001_115] at HO_363000)
 (try simp only [hl374001_115] at HO_363001)
 (try simp only [hl374001_115] at HO_363002)
 (try simp only [hl374001_115] at HO_374000)
 (try simp only [hl374001_115] at HO_374002)
 (try simp only [hl374001_115] at HO_415000)
 (try simp only [hl374001_115] at HO_415001)
 (try simp only [hl374001_115] at HO_415002)
 have hl374002_115 := (Kd.R_reads' HO_374002.out).1
 rw [hl374002_115] at HO_374002
 (try simp only [hl374002_115])
 (try simp only [hl374002_115] at BK331)
 (try simp only [hl374002_115] at BK352)
 (try simp only [hl374002_115] at BK362)
 (try simp only [hl374002_115] at BK373)
 (try simp only [hl374002_115] at BK414)
 (try simp only [hl374002_115] at HO_353000)
 (try simp only [hl374002_115] at HO_353001)
 (try simp only [hl374002_115] at HO_353002)
 (try simp only [hl374002_115] at HO_363000)
 (try simp only [hl374002_115] at HO_363001)
 (try simp only [hl374002_115] at HO_363002)
 (try simp only [hl374002_115] at HO_374000)
 (try simp only [hl374002_115] at HO_374001)
 (try simp only [hl374002_115] at HO_415000)
 (try simp only [hl374002_115] at HO_415001)
 (try simp only [hl374002_115] at HO_415002)
 cases kq with
 | zero => exact absurd HA.out (by simp [laws_FnExactHeartbeat.j2])
 | succ kj115 =>
  skip
  {
 have H := HA.out
 clear HA
 simp only [laws_FnExactHeartbeat.j2] at H
 by_cases c163 : x102_115 = true
 {
 subst c163
 have H1 : (some false) = some r := by rw [if_pos rfl] at H; exact H
 clear H
 have H := H1
 clear H1
 obtain rfl := Option.some.inj H
 go_wp2
 go_ret
 exact ⟨by first | rfl | (simp [errW_none, errW_some] <;> rfl) | (simp [*, errW_none, errW_some] <;> rfl), by repeat (first | (with_reducible first | exact HB.out | apply below_alloc | apply pw_below_drewN | apply below_drew1) | exact HB.out)⟩}
 {
 replace c163 := Bool.eq_false_iff.mpr c163
 subst c163
 have H1 : ((laws_heldPresence.f kj115 t391 t392 t393 1).bind fun t416 => (if t416 < 0 then (some false) else (if t416 = t390 then (some true) else (some false)))) = some r := by rw [if_neg (show ¬ (false = true) by decide)] at H; exact H
 clear H
 have H := H1
 clear H1
 replace H := Option.bind_eq_some_iff.mp H
 obtain ⟨t416, A1640, H⟩ := H
 replace H : (if t416 < 0 then (some false) else (if t416 = t390 then (some true) else (some false))) = some r := H
 have A164 := Aside0.mk A1640
 clear A1640
 by_cases c165 : t416 < 0
 {
 rw [if_pos c165] at H
 have c165b0 : decide (t416 < 0) = true := decide_eq_true c165
 clear c165
 obtain rfl := Option.some.inj H
 have hnb166 := NB373_331.out
 have hnc166 := NB331_373.out
 have hnb167 := NB373_352.out
 have hnc167 := NB352_373.out
 have hnb168 := NB373_362.out
 have hnc168 := NB362_373.out
 have hnb169 := NB373_414.out
 have hnc169 := NB414_373.out
 have hcz170_0 := c1_ BK373 0 (.slice Ao41 t391.length co41)
 have hcz170_1 := c1_ BK373 1 (.slice Ao46 t392.length co46)
 have hcz170_2 := c1_ BK373 2 (.slice Ao47 t393.length co47)
 have hfz170_0 := f1_ BK373 0
 have hfz170_1 := f1_ BK373 1
 have hfz170_2 := f1_ BK373 2
 go_wp2_with (first | ((with_reducible refine gate_callee (f := 29) rfl ?_); refine goesL_ (some 105) rfl rfl Try.func29 s2_ rfl #[.agg #[.slice Ao41 t391.length co41, .slice Ao46 t392.length co46, .slice Ao47 t393.length co47], .int .i64 1] rfl s3_ ?_; (with_reducible refine (laws_heldPresence.calls kj115 _ _ t391 _ _ t392 _ _ t393 1 t416 _ ?side1 ?side2 ?side3 ?side4 ?side5 ?side6 A164.out).mono ?_); (case side1 => exact y2_ (Kd.R_reads' HO_374000.out).2.2); (case side2 => exact (Kd.R_reads' HO_374000.out).2.1); (case side3 => exact y2_ (Kd.R_reads' HO_374001.out).2.2); (case side4 => exact (Kd.R_reads' HO_374001.out).2.1); (case side5 => exact y2_ (Kd.R_reads' HO_374002.out).2.2); (case side6 => exact (Kd.R_reads' HO_374002.out).2.1); rintro e w171 ⟨rfl, hb⟩; refine ⟨_, rfl, ?_⟩; replace HO_353000 := r1_ HO_353000 hb; replace HO_353001 := r1_ HO_353001 hb; replace HO_353002 := r1_ HO_353002 hb; replace HO_363000 := r1_ HO_363000 hb; replace HO_363001 := r1_ HO_363001 hb; replace HO_363002 := r1_ HO_363002 hb; replace HO_374000 := r1_ HO_374000 hb; replace HO_374001 := r1_ HO_374001 hb; replace HO_374002 := r1_ HO_374002 hb; replace HO_415000 := r1_ HO_415000 hb; replace HO_415001 := r1_ HO_415001 hb; replace HO_415002 := r1_ HO_415002 hb; replace BK331 := b3_ BK331 hb; replace BK352 := b3_ BK352 hb; replace BK362 := b3_ BK362 hb; replace BK373 := b3_ BK373 hb; replace BK414 := b3_ BK414 hb; replace HB := Aside0.mk (below_step (y1_ HB.out) hb); (try clear hb); (try clear hb2); (try clear hk); (try clear hi)))
 go_ret
 exact ⟨by first | rfl | (simp [errW_none, errW_some] <;> rfl) | (simp [*, errW_none, errW_some] <;> rfl), by repeat (first | (with_reducible first | exact HB.out | apply below_alloc | apply pw_below_drewN | apply below_drew1) | exact HB.out)⟩}
 {
 rw [if_neg c165] at H
 have c165b0 : decide (t416 < 0) = false := decide_eq_false c165
 clear c165
 by_cases c172 : t416 = t390
 {
 rw [if_pos c172] at H
 have c172b0 : (t416 == t390) = true := beq_iff_eq.mpr c172
 have c172b1 : (t416 != t390) = false := bne_eq_false_iff_eq.mpr c172
 clear c172
 obtain rfl := Option.some.inj H
 have hnb173 := NB373_331.out
 have hnc173 := NB331_373.out
 have hnb174 := NB373_352.out
 have hnc174 := NB352_373.out
 have hnb175 := NB373_362.out
 have hnc175 := NB362_373.out
 have hnb176 := NB373_414.out
 have hnc176 := NB414_373.out
 have hcz177_0 := c1_ BK373 0 (.slice Ao41 t391.length co41)
 have hcz177_1 := c1_ BK373 1 (.slice Ao46 t392.length co46)
 have hcz177_2 := c1_ BK373 2 (.slice Ao47 t393.length co47)
 have hfz177_0 := f1_ BK373 0
 have hfz177_1 := f1_ BK373 1
 have hfz177_2 := f1_ BK373 2
 go_wp2_with (first | ((with_reducible refine gate_callee (f := 29) rfl ?_); refine goesL_ (some 105) rfl rfl Try.func29 s2_ rfl #[.agg #[.slice Ao41 t391.length co41, .slice Ao46 t392.length co46, .slice Ao47 t393.length co47], .int .i64 1] rfl s3_ ?_; (with_reducible refine (laws_heldPresence.calls kj115 _ _ t391 _ _ t392 _ _ t393 1 t416 _ ?side1 ?side2 ?side3 ?side4 ?side5 ?side6 A164.out).mono ?_); (case side1 => exact y2_ (Kd.R_reads' HO_374000.out).2.2); (case side2 => exact (Kd.R_reads' HO_374000.out).2.1); (case side3 => exact y2_ (Kd.R_reads' HO_374001.out).2.2); (case side4 => exact (Kd.R_reads' HO_374001.out).2.1); (case side5 => exact y2_ (Kd.R_reads' HO_374002.out).2.2); (case side6 => exact (Kd.R_reads' HO_374002.out).2.1); rintro e w178 ⟨rfl, hb⟩; refine ⟨_, rfl, ?_⟩; replace HO_353000 := r1_ HO_353000 hb; replace HO_353001 := r1_ HO_353001 hb; replace HO_353002 := r1_ HO_353002 hb; replace HO_363000 := r1_ HO_363000 hb; replace HO_363001 := r1_ HO_363001 hb; replace HO_363002 := r1_ HO_363002 hb; replace HO_374000 := r1_ HO_374000 hb; replace HO_374001 := r1_ HO_374001 hb; replace HO_374002 := r1_ HO_374002 hb; replace HO_415000 := r1_ HO_415000 hb; replace HO_415001 := r1_ HO_415001 hb; replace HO_415002 := r1_ HO_415002 hb; replace BK331 := b3_ BK331 hb; replace BK352 := b3_ BK352 hb; replace BK362 := b3_ BK362 hb; replace BK373 := b3_ BK373 hb; replace BK414 := b3_ BK414 hb; replace HB := Aside0.mk (below_step (y1_ HB.out) hb); (try clear hb); (try clear hb2); (try clear hk); (try clear hi)))
 go_ret
 exact ⟨by first | rfl | (simp [errW_none, errW_some] <;> rfl) | (simp [*, errW_none, errW_some] <;> rfl), by repeat (first | (with_reducible first | exact HB.out | apply below_alloc | apply pw_below_drewN | apply below_drew1) | exact HB.out)⟩}
 {
 rw [if_neg c172] at H
 have c172b0 : (t416 == t390) = false := beq_eq_false_iff_ne.mpr c172
 have c172b1 : (t416 != t390) = true := bne_iff_ne.mpr c172
 obtain rfl := Option.some.inj H
 have hnb179 := NB373_331.out
 have hnc179 := NB331_373.out
 have hnb180 := NB373_352.out
 have hnc180 := NB352_373.out
 have hnb181 := NB373_362.out
 have hnc181 := NB362_373.out
 have hnb182 := NB373_414.out
 have hnc182 := NB414_373.out
 have hcz183_0 := c1_ BK373 0 (.slice Ao41 t391.length co41)
 have hcz183_1 := c1_ BK373 1 (.slice Ao46 t392.length co46)
 have hcz183_2 := c1_ BK373 2 (.slice Ao47 t393.length co47)
 have hfz183_0 := f1_ BK373 0
 have hfz183_1 := f1_ BK373 1
 have hfz183_2 := f1_ BK373 2
 go_wp2_with (first | ((with_reducible refine gate_callee (f := 29) rfl ?_); refine goesL_ (some 105) rfl rfl Try.func29 s2_ rfl #[.agg #[.slice Ao41 t391.length co41, .slice Ao46 t392.length co46, .slice Ao47 t393.length co47], .int .i64 1] rfl s3_ ?_; (with_reducible refine (laws_heldPresence.calls kj115 _ _ t391 _ _ t392 _ _ t393 1 t416 _ ?side1 ?side2 ?side3 ?side4 ?side5 ?side6 A164.out).mono ?_); (case side1 => exact y2_ (Kd.R_reads' HO_374000.out).2.2); (case side2 => exact (Kd.R_reads' HO_374000.out).2.1); (case side3 => exact y2_ (Kd.R_reads' HO_374001.out).2.2); (case side4 => exact (Kd.R_reads' HO_374001.out).2.1); (case side5 => exact y2_ (Kd.R_reads' HO_374002.out).2.2); (case side6 => exact (Kd.R_reads' HO_374002.out).2.1); rintro e w184 ⟨rfl, hb⟩; refine ⟨_, rfl, ?_⟩; replace HO_353000 := r1_ HO_353000 hb; replace HO_353001 := r1_ HO_353001 hb; replace HO_353002 := r1_ HO_353002 hb; replace HO_363000 := r1_ HO_363000 hb; replace HO_363001 := r1_ HO_363001 hb; replace HO_363002 := r1_ HO_363002 hb; replace HO_374000 := r1_ HO_374000 hb; replace HO_374001 := r1_ HO_374001 hb; replace HO_374002 := r1_ HO_374002 hb; replace HO_415000 := r1_ HO_415000 hb; replace HO_415001 := r1_ HO_415001 hb; replace HO_415002 := r1_ HO_415002 hb; replace BK331 := b3_ BK331 hb; replace BK352 := b3_ BK352 hb; replace BK362 := b3_ BK362 hb; replace BK373 := b3_ BK373 hb; replace BK414 := b3_ BK414 hb; replace HB := Aside0.mk (below_step (y1_ HB.out) hb); (try clear hb); (try clear hb2); (try clear hk); (try clear hi)))
 go_ret
 exact ⟨by first | rfl | (simp [errW_none, errW_some] <;> rfl) | (simp [*, errW_none, errW_some] <;> rfl), by repeat (first | (with_reducible first | exact HB.out | apply below_alloc | apply pw_below_drewN | apply below_drew1) | exact HB.out)⟩}}}}}}
 {
 rw [if_neg c113] at H
 have c113b0 : (t394 == t390) = false := beq_eq_false_iff_ne.mpr c113
 have c113b1 : (t394 != t390) = true := bne_iff_ne.mpr c113
 obtain rfl := Option.some.inj H
 have hnb185 := NB373_331.out
 have hnc185 := NB331_373.out
 have hnb186 := NB373_352.out
 have hnc186 := NB352_373.out
 have hnb187 := NB373_362.out
 have hnc187 := NB362_373.out
 have hcz188_0 := c1_ BK373 0 (.slice Ao41 t363.length co41)
 have hcz188_1 := c1_ BK373 1 (.slice Ao46 t366.length co46)
 have hcz188_2 := c1_ BK373 2 (.slice Ao47 t369.length co47)
 have hfz188_0 := f1_ BK373 0
 have hfz188_1 := f1_ BK373 1
 have hfz188_2 := f1_ BK373 2
 go_wp2_with (first | ((with_reducible refine gate_callee (f := 28) rfl ?_); refine goesL_ (some 76) rfl rfl Try.func28 s2_ rfl #[.agg #[.slice Ao41 t363.length co41, .slice Ao46 t366.length co46, .slice Ao47 t369.length co47], .int .i64 1] rfl s3_ ?_; (with_reducible refine (laws_markPresence.calls kj70 (fun k_ => some k_ = (.slice Ao41 t363.length co41 : Value).ownBlock) (.slice Ao41 t363.length co41) t363 (fun k_ => some k_ = (.slice Ao46 t366.length co46 : Value).ownBlock) (.slice Ao46 t366.length co46) t366 (fun k_ => some k_ = (.slice Ao47 t369.length co47 : Value).ownBlock) (.slice Ao47 t369.length co47) t369 1 t390 t391 t392 t393 w _ ?side1 ?side2 ?side3 ?side4 ?side5 ?side6 A103.out).mono ?_); (case side1 => repeat (first | (with_reducible first | exact HB.out | apply below_alloc | apply pw_below_drewN | apply below_drew1) | exact HB.out)); (case side2 => exact Kd.R_tight rfl HO_374000.out); (case side3 => exact fun k_ e_ => (HO_374000.out.1 k_ e_.symm).2.2.2.2); (case side4 => exact Kd.R_tight rfl HO_374001.out); (case side5 => exact fun k_ e_ => (HO_374001.out.1 k_ e_.symm).2.2.2.2); (case side6 => exact Kd.R_tight rfl HO_374002.out); rintro e w189 ⟨rfl, hy0, hy1, hy2, hb, hkp⟩; refine ⟨_, rfl, ?_⟩; have n0_ := Aside0.mk (Kd.R_mono (ok' := fun k_ => some k_ ≠ (.slice Ao28 t345.length co28 : Value).ownBlock ∧ some k_ ≠ (.slice Ao33 t386.length co33 : Value).ownBlock ∧ some k_ ≠ (.slice Ao37 t387.length co37 : Value).ownBlock ∧ some k_ ≠ (.slice Ao41 t363.length co41 : Value).ownBlock ∧ some k_ ≠ (.slice Ao46 t366.length co46 : Value).ownBlock) (Kd.R_keptB ((Kd.R_apart' HO_353000.out (Kd.R_typed HO_374002.out) (by decide))) hkp (fun k_ hk_ hs_ => Or.elim hs_ (fun e_ => (hk_.1.2.2.2.1) e_) (fun e_ => Or.elim e_ (fun e_ => (hk_.1.2.2.2.2) e_) (fun e_ => (hk_.2) e_)))) (fun k_ hk_ => ⟨hk_.1.1.1, hk_.1.1.2.1, hk_.1.1.2.2.1, hk_.1.1.2.2.2.1, hk_.1.1.2.2.2.2⟩)); have n1_ := Aside0.mk (Kd.R_mono (ok' := fun k_ => some k_ ≠ (.slice Ao25 t342.length co25 : Value).ownBlock ∧ some k_ ≠ (.slice Ao33 t386.length co33 : Value).ownBlock ∧ some k_ ≠ (.slice Ao37 t387.length co37 : Value).ownBlock ∧ some k_ ≠ (.slice Ao41 t363.length co41 : Value).ownBlock ∧ some k_ ≠ (.slice Ao46 t366.length co46 : Value).ownBlock) (Kd.R_keptB ((Kd.R_apart' HO_353001.out (Kd.R_typed HO_374002.out) (by decide))) hkp (fun k_ hk_ hs_ => Or.elim hs_ (fun e_ => (hk_.1.2.2.2.1) e_) (fun e_ => Or.elim e_ (fun e_ => (hk_.1.2.2.2.2) e_) (fun e_ => (hk_.2) e_)))) (fun k_ hk_ => ⟨hk_.1.1.1, hk_.1.1.2.1, hk_.1.1.2.2.1, hk_.1.1.2.2.2.1, hk_.1.1.2.2.2.2⟩)); have n2_ := Aside0.mk (Kd.R_mono (ok' := fun k_ => some k_ ≠ (.slice Ao38 t388.length co38 : Value).ownBlock ∧ some k_ ≠ (.slice Ao47 t369.length co47 : Value).ownBlock) (Kd.R_keptB ((Kd.R_apart' (Kd.R_apart' HO_353002.out (Kd.R_typed HO_374000.out) (by decide)) (Kd.R_typed HO_374001.out) (by decide))) hkp (fun k_ hk_ hs_ => Or.elim hs_ (fun e_ => (hk_.1.2) e_) (fun e_ => Or.elim e_ (fun e_ => (hk_.2) e_) (fun e_ => (hk_.1.1.2) e_)))) (fun k_ hk_ => ⟨hk_.1.1.1.1, hk_.1.1.1.2⟩)); have n3_ := Aside0.mk (Kd.R_mono (ok' := fun k_ => some k_ ≠ (.slice Ao25 t342.length co25 : Value).ownBlock ∧ some k_ ≠ (.slice Ao28 t345.length co28 : Value).ownBlock ∧ some k_ ≠ (.slice Ao37 t387.length co37 : Value).ownBlock ∧ some k_ ≠ (.slice Ao41 t363.length co41 : Value).ownBlock ∧ some k_ ≠ (.slice Ao46 t366.length co46 : Value).ownBlock) (Kd.R_keptB ((Kd.R_apart' HO_363000.out (Kd.R_typed HO_374002.out) (by decide))) hkp (fun k_ hk_ hs_ => Or.elim hs_ (fun e_ => (hk_.1.2.2.2.1) e_) (fun e_ => Or.elim e_ (fun e_ => (hk_.1.2.2.2.2) e_) (fun e_ => (hk_.2) e_)))) (fun k_ hk_ => ⟨hk_.1.1.1, hk_.1.1.2.1, hk_.1.1.2.2.1, hk_.1.1.2.2.2.1, hk_.1.1.2.2.2.2⟩)); have n4_ := Aside0.mk (Kd.R_mono (ok' := fun k_ => some k_ ≠ (.slice Ao25 t342.length co25 : Value).ownBlock ∧ some k_ ≠ (.slice Ao28 t345.length co28 : Value).ownBlock ∧ some k_ ≠ (.slice Ao33 t386.length co33 : Value).ownBlock ∧ some k_ ≠ (.slice Ao41 t363.length co41 : Value).ownBlock ∧ some k_ ≠ (.slice Ao46 t366.length co46 : Value).ownBlock) (Kd.R_keptB ((Kd.R_apart' HO_363001.out (Kd.R_typed HO_374002.out) (by decide))) hkp (fun k_ hk_ hs_ => Or.elim hs_ (fun e_ => (hk_.1.2.2.2.1) e_) (fun e_ => Or.elim e_ (fun e_ => (hk_.1.2.2.2.2) e_) (fun e_ => (hk_.2) e_)))) (fun k_ hk_ => ⟨hk_.1.1.1, hk_.1.1.2.1, hk_.1.1.2.2.1, hk_.1.1.2.2.2.1, hk_.1.1.2.2.2.2⟩)); have n5_ := Aside0.mk (Kd.R_mono (ok' := fun k_ => some k_ ≠ (.slice Ao29 t348.length co29 : Value).ownBlock ∧ some k_ ≠ (.slice Ao47 t369.length co47 : Value).ownBlock) (Kd.R_keptB ((Kd.R_apart' (Kd.R_apart' HO_363002.out (Kd.R_typed HO_374000.out) (by decide)) (Kd.R_typed HO_374001.out) (by decide))) hkp (fun k_ hk_ hs_ => Or.elim hs_ (fun e_ => (hk_.1.2) e_) (fun e_ => Or.elim e_ (fun e_ => (hk_.2) e_) (fun e_ => (hk_.1.1.2) e_)))) (fun k_ hk_ => ⟨hk_.1.1.1.1, hk_.1.1.1.2⟩)); have n6_ := Aside0.mk (Kd.R_reok rfl hy0 (fun k_ e_ => HO_374000.out.1 k_ e_)); have n7_ := Aside0.mk (Kd.R_reok rfl hy1 (fun k_ e_ => HO_374001.out.1 k_ e_)); have n8_ := Aside0.mk (Kd.R_reok rfl hy2 (fun k_ e_ => HO_374002.out.1 k_ e_)); have n9_ := Aside0.mk (blk_kept (b1_ BK331.out) hkp (fun hs_ => Or.elim hs_ (fun e_ => (fun e_ => (Kd.R_ne HO_374000.out BK331.out (by decide)) e_) e_) (fun e_ => Or.elim e_ (fun e_ => (fun e_ => (Kd.R_ne HO_374001.out BK331.out (by decide)) e_) e_) (fun e_ => (fun e_ => (Kd.R_ne HO_374002.out BK331.out (by decide)) e_) e_)))); have n10_ := Aside0.mk (blk_kept (b1_ BK352.out) hkp (fun hs_ => Or.elim hs_ (fun e_ => (fun e_ => (Kd.R_ne HO_374000.out BK352.out (by decide)) e_) e_) (fun e_ => Or.elim e_ (fun e_ => (fun e_ => (Kd.R_ne HO_374001.out BK352.out (by decide)) e_) e_) (fun e_ => (fun e_ => (Kd.R_ne HO_374002.out BK352.out (by decide)) e_) e_)))); have n11_ := Aside0.mk (blk_kept (b1_ BK362.out) hkp (fun hs_ => Or.elim hs_ (fun e_ => (fun e_ => (Kd.R_ne HO_374000.out BK362.out (by decide)) e_) e_) (fun e_ => Or.elim e_ (fun e_ => (fun e_ => (Kd.R_ne HO_374001.out BK362.out (by decide)) e_) e_) (fun e_ => (fun e_ => (Kd.R_ne HO_374002.out BK362.out (by decide)) e_) e_)))); have n12_ := Aside0.mk (blk_kept (b1_ BK373.out) hkp (fun hs_ => Or.elim hs_ (fun e_ => (fun e_ => (Kd.R_ne HO_374000.out BK373.out (by decide)) e_) e_) (fun e_ => Or.elim e_ (fun e_ => (fun e_ => (Kd.R_ne HO_374001.out BK373.out (by decide)) e_) e_) (fun e_ => (fun e_ => (Kd.R_ne HO_374002.out BK373.out (by decide)) e_) e_)))); have n13_ := Aside0.mk (hb); clear HO_353000; clear HO_353001; clear HO_353002; clear HO_363000; clear HO_363001; clear HO_363002; clear HO_374000; clear HO_374001; clear HO_374002; clear BK331; clear BK352; clear BK362; clear BK373; clear HB; have HO_353000 := n0_; have HO_353001 := n1_; have HO_353002 := n2_; have HO_363000 := n3_; have HO_363001 := n4_; have HO_363002 := n5_; have HO_374000 := n6_; have HO_374001 := n7_; have HO_374002 := n8_; have BK331 := n9_; have BK352 := n10_; have BK362 := n11_; have BK373 := n12_; have HB := n13_; clear n0_ n1_ n2_ n3_ n4_ n5_ n6_ n7_ n8_ n9_ n10_ n11_ n12_ n13_; (try clear hb); (try clear hkp); (try clear hy0); (try clear hy1); (try clear hy2); have hcz190_0 := c1_ BK373 0 (.slice Ao41 t363.length co41); have hcz190_1 := c1_ BK373 1 (.slice Ao46 t366.length co46); have hcz190_2 := c1_ BK373 2 (.slice Ao47 t369.length co47); have hfz190_0 := f1_ BK373 0; have hfz190_1 := f1_ BK373 1; have hfz190_2 := f1_ BK373 2) | ((with_reducible refine gate_callee (f := 29) rfl ?_); refine goesL_ (some 79) rfl rfl Try.func29 s2_ rfl #[.agg #[.slice Ao41 t391.length co41, .slice Ao46 t392.length co46, .slice Ao47 t393.length co47], .int .i64 1] rfl (by (try simp only [List.map_toArray, List.map_cons, List.map_nil]); first | done | (rw [show t391.length = t363.length from (Kd.R_reads' HO_374000.out).1.symm, show t392.length = t366.length from (Kd.R_reads' HO_374001.out).1.symm, show t393.length = t369.length from (Kd.R_reads' HO_374002.out).1.symm] <;> rfl) | rfl | (simp only [List.length_drop, List.length_take]; rfl)) ?_; (with_reducible refine (laws_heldPresence.calls kj70 _ _ t391 _ _ t392 _ _ t393 1 t394 _ ?side1 ?side2 ?side3 ?side4 ?side5 ?side6 A104.out).mono ?_); (case side1 => exact y2_ (Kd.R_reads' HO_374000.out).2.2); (case side2 => rw [show t391.length = t363.length from (Kd.R_reads' HO_374000.out).1.symm]; exact (Kd.R_reads' HO_374000.out).2.1); (case side3 => exact y2_ (Kd.R_reads' HO_374001.out).2.2); (case side4 => rw [show t392.length = t366.length from (Kd.R_reads' HO_374001.out).1.symm]; exact (Kd.R_reads' HO_374001.out).2.1); (case side5 => exact y2_ (Kd.R_reads' HO_374002.out).2.2); (case side6 => rw [show t393.length = t369.length from (Kd.R_reads' HO_374002.out).1.symm]; exact (Kd.R_reads' HO_374002.out).2.1); rintro e w191 ⟨rfl, hb⟩; refine ⟨_, rfl, ?_⟩; replace HO_353000 := r1_ HO_353000 hb; replace HO_353001 := r1_ HO_353001 hb; replace HO_353002 := r1_ HO_353002 hb; replace HO_363000 := r1_ HO_363000 hb; replace HO_363001 := r1_ HO_363001 hb; replace HO_363002 := r1_ HO_363002 hb; replace HO_374000 := r1_ HO_374000 hb; replace HO_374001 := r1_ HO_374001 hb; replace HO_374002 := r1_ HO_374002 hb; replace BK331 := b3_ BK331 hb; replace BK352 := b3_ BK352 hb; replace BK362 := b3_ BK362 hb; replace BK373 := b3_ BK373 hb; replace HB := Aside0.mk (below_step (y1_ HB.out) hb); (try clear hb); (try clear hb2); (try clear hk); (try clear hi)))
 go_ret
 exact ⟨by first | rfl | (simp [errW_none, errW_some] <;> rfl) | (simp [*, errW_none, errW_some] <;> rfl), by repeat (first | (with_reducible first | exact HB.out | apply below_alloc | apply pw_below_drewN | apply below_drew1) | exact HB.out)⟩}}}}}}
 {
 replace c69 := Bool.eq_false_iff.mpr c69
 subst c69
 have H1 : (some false) = some r := by rw [if_neg (show ¬ (false = true) by decide)] at H; exact H
 clear H
 have H := H1
 clear H1
 obtain rfl := Option.some.inj H
 try go_wp2
 replace HO_353000 := Aside0.mk (Kd.R_drew HO_353000.out)
 replace HO_353001 := Aside0.mk (Kd.R_drew HO_353001.out)
 replace HO_353002 := Aside0.mk (Kd.R_drew HO_353002.out)
 replace HO_363000 := Aside0.mk (Kd.R_drew HO_363000.out)
 replace HO_363001 := Aside0.mk (Kd.R_drew HO_363001.out)
 replace HO_363002 := Aside0.mk (Kd.R_drew HO_363002.out)
 replace HO_374000 := Aside0.mk (Kd.R_drew HO_374000.out)
 replace HO_374001 := Aside0.mk (Kd.R_drew HO_374001.out)
 replace HO_374002 := Aside0.mk (Kd.R_drew HO_374002.out)
 replace BK331 := Aside0.mk (blk_drew BK331.out)
 replace BK352 := Aside0.mk (blk_drew BK352.out)
 replace BK362 := Aside0.mk (blk_drew BK362.out)
 replace BK373 := Aside0.mk (blk_drew BK373.out)
 replace HB := Aside0.mk (below_drew1 HB.out)
 refine start_ (n := 5) (S := fun w' => w'.cell? ⟨gb362, 0, none⟩ = some (.slice Ao33 t353.length co33) ∧ w'.cell? ⟨gb362, 1, none⟩ = some (.slice Ao37 t356.length co37) ∧ w'.cell? ⟨gb362, 2, none⟩ = some (.slice Ao38 t359.length co38) ∧ w'.cell? ⟨gb331, 0, none⟩ = some (.slice A0_0 l0_0.length c0_0) ∧ w'.cell? ⟨gb331, 1, none⟩ = some (.slice A0_1 l0_1.length c0_1) ∧ w'.cell? ⟨gb331, 2, none⟩ = some (.slice A0_2 l0_2.length c0_2)) (ds := []) #[F,F,F,F,F] s2_ rfl rfl ⟨(blk_cell BK362.out 0).trans rfl, (blk_cell BK362.out 1).trans rfl, (blk_cell BK362.out 2).trans rfl, (blk_cell BK331.out 0).trans rfl, (blk_cell BK331.out 1).trans rfl, (blk_cell BK331.out 2).trans rfl⟩ (fun hHeld => ?_)
 generalize wc.drew = w192 at HO_353000 HO_353001 HO_353002 HO_363000 HO_363001 HO_363002 HO_374000 HO_374001 HO_374002 BK331 BK352 BK362 BK373 HB hHeld ⊢
 refine take_ (i := 0) (N := some 53) (v := ?_) (a' := ?_) #[T,F,F,F,F] rfl rfl s2_ (fun _ _ _ h => h) (Or.inl ⟨by rfl, ?_⟩) hHeld ?_ ?_
 rotate_left
 {
 rintro w' ⟨s0, s1, s2, s3, s4, s5⟩
 go_simp
 with_reducible rfl}
 rotate_left
 · exact p1_
 refine take_ (i := 1) (N := some 54) (v := ?_) (a' := ?_) #[T,T,F,F,F] rfl rfl s2_ (fun _ _ _ h => h) (Or.inl ⟨by rfl, ?_⟩) hHeld ?_ ?_
 rotate_left
 {
 rintro w' ⟨s0, s1, s2, s3, s4, s5⟩
 go_simp
 with_reducible rfl}
 rotate_left
 · exact p1_
 refine one_ (i := 2) (N := some 55) #[T,T,T,F,F] rfl rfl s2_ (by decide) (fun K hK => ?_)
 refine goes_ Try.func26 s2_ rfl #[.agg #[.slice A0_0 l0_0.length c0_0, .slice A0_1 l0_1.length c0_1, .slice A0_2 l0_2.length c0_2]] (by rfl) rfl rfl s3_ ?_
 with_reducible refine (laws_toPresence.calls kj13 _ _ l0_0 _ _ l0_1 _ _ l0_2 t375 t378 t381 _ ?side1 ?side2 ?side3 ?side4 ?side5 ?side6 A67.out).mono ?_
 (case side1 => exact y2_ (Kd.C_below HR0_0.out HB.out))
 (case side2 => exact HC0_0.out)
 (case side3 => exact y2_ (Kd.C_below HR0_1.out HB.out))
 (case side4 => exact HC0_1.out)
 (case side5 => exact y2_ (Kd.C_below HR0_2.out HB.out))
 (case side6 => exact HC0_2.out)
 rintro e w193 ⟨v376, v379, v382, rfl, ho0, ho1, ho2, hb⟩
 refine ⟨_, rfl, ?_⟩
 have n0_ := Aside0.mk (Kd.R_mono (Kd.R_told (Kd.R_told (Kd.R_old (b2_ HO_353000.out) hb) (Kd.R_base ho0)) (Kd.R_base ho1)) (fun _ h_ => h_.1))
 have n1_ := Aside0.mk (Kd.R_mono (Kd.R_told (Kd.R_told (Kd.R_old (b2_ HO_353001.out) hb) (Kd.R_base ho0)) (Kd.R_base ho1)) (fun _ h_ => h_.1))
 have n2_ := Aside0.mk (Kd.R_elder' (b2_ HO_353002.out) (Kd.R_base ho2) hb)
 have n3_ := Aside0.mk (Kd.R_mono (Kd.R_told (Kd.R_told (Kd.R_old (b2_ HO_363000.out) hb) (Kd.R_base ho0)) (Kd.R_base ho1)) (fun _ h_ => h_.1))
 have n4_ := Aside0.mk (Kd.R_mono (Kd.R_told (Kd.R_told (Kd.R_old (b2_ HO_363001.out) hb) (Kd.R_base ho0)) (Kd.R_base ho1)) (fun _ h_ => h_.1))
 have n5_ := Aside0.mk (Kd.R_elder' (b2_ HO_363002.out) (Kd.R_base ho2) hb)
 have n6_ := Aside0.mk (Kd.R_mono (Kd.R_told (Kd.R_told (Kd.R_old (b2_ HO_374000.out) hb) (Kd.R_base ho0)) (Kd.R_base ho1)) (fun _ h_ => h_.1))
 have n7_ := Aside0.mk (Kd.R_mono (Kd.R_told (Kd.R_told (Kd.R_old (b2_ HO_374001.out) hb) (Kd.R_base ho0)) (Kd.R_base ho1)) (fun _ h_ => h_.1))
 have n8_ := Aside0.mk (Kd.R_elder' (b2_ HO_374002.out) (Kd.R_base ho2) hb)
 have n9_ := Aside0.mk (Kd.R_lower (Kd.R_new' (Kd.R_new' (Kd.R_new' (Kd.R_new' (Kd.R_new' (Kd.R_new' ho0 (Kd.R_lt (b2_ HO_353000.out))) (Kd.R_lt (b2_ HO_353001.out))) (Kd.R_lt (b2_ HO_363000.out))) (Kd.R_lt (b2_ HO_363001.out))) (Kd.R_lt (b2_ HO_374000.out))) (Kd.R_lt (b2_ HO_374001.out))) (below_size (y1_ HB.out)))
 have n10_ := Aside0.mk (Kd.R_lower (Kd.R_new' (Kd.R_new' (Kd.R_new' (Kd.R_new' (Kd.R_new' (Kd.R_new' ho1 (Kd.R_lt (b2_ HO_353000.out))) (Kd.R_lt (b2_ HO_353001.out))) (Kd.R_lt (b2_ HO_363000.out))) (Kd.R_lt (b2_ HO_363001.out))) (Kd.R_lt (b2_ HO_374000.out))) (Kd.R_lt (b2_ HO_374001.out))) (below_size (y1_ HB.out)))
 have n11_ := Aside0.mk (Kd.R_lower (Kd.R_new' (Kd.R_new' (Kd.R_new' ho2 (Kd.R_lt (b2_ HO_353002.out))) (Kd.R_lt (b2_ HO_363002.out))) (Kd.R_lt (b2_ HO_374002.out))) (below_size (y1_ HB.out)))
 have n12_ := b3_ BK331 hb
 have n13_ := b3_ BK352 hb
 have n14_ := b3_ BK362 hb
 have n15_ := b3_ BK373 hb
 have n16_ := Aside0.mk (below_step (y1_ HB.out) hb)
 clear HO_353000
 clear HO_353001
 clear HO_353002
 clear HO_363000
 clear HO_363001
 clear HO_363002
 clear HO_374000
 clear HO_374001
 clear HO_374002
 clear BK331
 clear BK352
 clear BK362
 clear BK373
 clear HB
 have HO_353000 := n0_
 have HO_353001 := n1_
 have HO_353002 := n2_
 have HO_363000 := n3_
 have HO_363001 := n4_
 have HO_363002 := n5_
 have HO_374000 := n6_
 have HO_374001 := n7_
 have HO_374002 := n8_
 have HO377 := n9_
 have HO380 := n10_
 have HO383 := n11_
 have BK331 := n12_
 have BK352 := n13_
 have BK362 := n14_
 have BK373 := n15_
 have HB := n16_
 clear n0_ n1_ n2_ n3_ n4_ n5_ n6_ n7_ n8_ n9_ n10_ n11_ n12_ n13_ n14_ n15_ n16_
 (try clear hb)
 (try clear hb2)
 (try clear hk)
 (try clear hi)
 (try clear ho0)
 (try clear ho1)
 (try clear ho2)
 obtain ⟨Ao194, co194, eo194⟩ := Kd.R_slice HO377.out
 (first | subst eo194 | (injection eo194 with f1_ f2_ f3_; have f4_ := f1_.symm; have f5_ := f3_.symm; clear f1_ f2_ f3_; subst f4_; subst f5_))
 obtain ⟨Ao195, co195, eo195⟩ := Kd.R_slice HO380.out
 (first | subst eo195 | (injection eo195 with f1_ f2_ f3_; have f4_ := f1_.symm; have f5_ := f3_.symm; clear f1_ f2_ f3_; subst f4_; subst f5_))
 obtain ⟨Ao196, co196, eo196⟩ := Kd.R_slice HO383.out
 (first | subst eo196 | (injection eo196 with f1_ f2_ f3_; have f4_ := f1_.symm; have f5_ := f3_.symm; clear f1_ f2_ f3_; subst f4_; subst f5_))
 refine hK.out _ _ ⟨(blk_cell BK362.out 0).trans rfl, (blk_cell BK362.out 1).trans rfl, (blk_cell BK362.out 2).trans rfl, (blk_cell BK331.out 0).trans rfl, (blk_cell BK331.out 1).trans rfl, (blk_cell BK331.out 2).trans rfl⟩ (fun hHeld => ?_)
 clear hK K
 refine norm_ (a' := ?_) ?_ ?_
 rotate_left
 {
 show Act.put _ (some 55) _ = _
 simp only [Act.put, List.setIfInBounds_toArray, List.set_cons_zero, List.set_cons_succ, i64_w, i32_w]
 rfl}
 refine one_ (i := 3) (N := some 56) #[T,T,T,T,F] rfl rfl s2_ (by decide) (fun K hK => ?_)
 refine goes_ Try.func27 s2_ rfl #[.agg #[.slice Ao33 t353.length co33, .slice Ao37 t356.length co37, .slice Ao38 t359.length co38], .agg #[.slice Ao194 t375.length co194, .slice Ao195 t378.length co195, .slice Ao196 t381.length co196]] (by rfl) rfl rfl s3_ ?_
 with_reducible refine (laws_eqPresence.calls kj13 _ _ t353 _ _ t356 _ _ t359 _ _ t375 _ _ t378 _ _ t381 false _ ?side1 ?side2 ?side3 ?side4 ?side5 ?side6 ?side7 ?side8 ?side9 ?side10 ?side11 ?side12 A68.out).mono ?_
 (case side1 => exact y2_ (Kd.R_reads' HO_363000.out).2.2)
 (case side2 => exact (Kd.R_reads' HO_363000.out).2.1)
 (case side3 => exact y2_ (Kd.R_reads' HO_363001.out).2.2)
 (case side4 => exact (Kd.R_reads' HO_363001.out).2.1)
 (case side5 => exact y2_ (Kd.R_reads' HO_363002.out).2.2)
 (case side6 => exact (Kd.R_reads' HO_363002.out).2.1)
 (case side7 => exact y2_ (Kd.R_reads' HO377.out).2.2)
 (case side8 => exact (Kd.R_reads' HO377.out).2.1)
 (case side9 => exact y2_ (Kd.R_reads' HO380.out).2.2)
 (case side10 => exact (Kd.R_reads' HO380.out).2.1)
 (case side11 => exact y2_ (Kd.R_reads' HO383.out).2.2)
 (case side12 => exact (Kd.R_reads' HO383.out).2.1)
 rintro e w197 ⟨rfl, hb⟩
 refine ⟨_, rfl, ?_⟩
 replace HO_353000 := r1_ HO_353000 hb
 replace HO_353001 := r1_ HO_353001 hb
 replace HO_353002 := r1_ HO_353002 hb
 replace HO_363000 := r1_ HO_363000 hb
 replace HO_363001 := r1_ HO_363001 hb
 replace HO_363002 := r1_ HO_363002 hb
 replace HO_374000 := r1_ HO_374000 hb
 replace HO_374001 := r1_ HO_374001 hb
 replace HO_374002 := r1_ HO_374002 hb
 replace HO377 := r1_ HO377 hb
 replace HO380 := r1_ HO380 hb
 replace HO383 := r1_ HO383 hb
 replace BK331 := b3_ BK331 hb
 replace BK352 := b3_ BK352 hb
 replace BK362 := b3_ BK362 hb
 replace BK373 := b3_ BK373 hb
 replace HB := Aside0.mk (below_step (y1_ HB.out) hb)
 (try clear hb)
 (try clear hb2)
 (try clear hk)
 (try clear hi)
 refine hK.out _ _ ⟨(blk_cell BK362.out 0).trans rfl, (blk_cell BK362.out 1).trans rfl, (blk_cell BK362.out 2).trans rfl, (blk_cell BK331.out 0).trans rfl, (blk_cell BK331.out 1).trans rfl, (blk_cell BK331.out 2).trans rfl⟩ (fun hHeld => ?_)
 clear hK K
 refine norm_ (a' := ?_) ?_ ?_
 rotate_left
 {
 show Act.put _ (some 56) _ = _
 simp only [Act.put, List.setIfInBounds_toArray, List.set_cons_zero, List.set_cons_succ, i64_w, i32_w]
 rfl}
 refine pure_ (i := 4) (N := some 57) (v := ?_) (a' := ?_) #[T,T,T,T,T] rfl rfl s2_ (fun _ _ _ h => h) (Or.inl ⟨by rfl, ?_⟩) ?_ ?_
 rotate_left
 {
 intro w'
 go_simp
 with_reducible rfl}
 rotate_left
 · exact p1_
 refine done_ s2_ ?_
 try go_wp2
 go_ret
 exact ⟨by first | rfl | (simp [errW_none, errW_some] <;> rfl) | (simp [*, errW_none, errW_some] <;> rfl), by repeat (first | (with_reducible first | exact HB.out | apply below_alloc | apply pw_below_drewN | apply below_drew1) | exact HB.out)⟩}}}}}

/-- THE ONE PURE STATEMENT of laws_FnExactHeartbeat: yours. -/
def laws_FnExactHeartbeat.Pure : Prop := ∀ (l0_0 : List (S108)) (l0_1 : List (S108)) (l0_2 : List (S110)) (a1 : Int) (a2 : Int) (a3 : Int), (l0_0.length ≤ maxLen ∧ l0_0.length * 16 ≤ 140737488351232 ∧ ∀ y0_ ∈ l0_0, fit108 y0_) → (l0_1.length ≤ maxLen ∧ l0_1.length * 16 ≤ 140737488351232 ∧ ∀ y0_ ∈ l0_1, fit108 y0_) → (l0_2.length ≤ maxLen ∧ l0_2.length * 16 ≤ 140737488351232 ∧ ∀ y0_ ∈ l0_2, fit110 y0_) → ((Lit.int .i64 a1).wf = true) → ((Lit.int .i64 a2).wf = true) → ((Lit.int .i64 a3).wf = true) → ∃ k, laws_FnExactHeartbeat.f k l0_0 l0_1 l0_2 a1 a2 a3 = some true
theorem laws_FnExactHeartbeat.walk (P : laws_FnExactHeartbeat.Pure) (A0_0 : Option Addr) (c0_0 : Nat) (l0_0 : List (S108)) (A0_1 : Option Addr) (c0_1 : Nat) (l0_1 : List (S108)) (A0_2 : Option Addr) (c0_2 : Nat) (l0_2 : List (S110)) (a1 : Int) (a2 : Int) (a3 : Int) (w : World) (hr0_0 : Kd.C k108 w A0_0 l0_0.length l0_0) (hc0_0 : l0_0.length ≤ c0_0) (hr0_1 : Kd.C k108 w A0_1 l0_1.length l0_1) (hc0_1 : l0_1.length ≤ c0_1) (hr0_2 : Kd.C k110 w A0_2 l0_2.length l0_2) (hc0_2 : l0_2.length ≤ c0_2) (F0_0 : l0_0.length ≤ maxLen ∧ l0_0.length * 16 ≤ 140737488351232 ∧ ∀ y0_ ∈ l0_0, fit108 y0_) (F0_1 : l0_1.length ≤ maxLen ∧ l0_1.length * 16 ≤ 140737488351232 ∧ ∀ y0_ ∈ l0_1, fit108 y0_) (F0_2 : l0_2.length ≤ maxLen ∧ l0_2.length * 16 ≤ 140737488351232 ∧ ∀ y0_ ∈ l0_2, fit110 y0_) (F1 : (Lit.int .i64 a1).wf = true) (F2 : (Lit.int .i64 a2).wf = true) (F3 : (Lit.int .i64 a3).wf = true) :
    Calls Try.prog 6 #[.agg #[.slice A0_0 l0_0.length c0_0, .slice A0_1 l0_1.length c0_1, .slice A0_2 l0_2.length c0_2], .int .i64 a1, .int .i64 a2, .int .i64 a3] w fun e w' => e = .returned (.bool true) ∧ Below w.heap.size w w' := by
  obtain ⟨k, h⟩ := P l0_0 l0_1 l0_2 a1 a2 a3 F0_0 F0_1 F0_2 F1 F2 F3
  refine (laws_FnExactHeartbeat.calls k A0_0 c0_0 l0_0 A0_1 c0_1 l0_1 A0_2 c0_2 l0_2 a1 a2 a3 true w hr0_0 hc0_0 hr0_1 hc0_1 hr0_2 hc0_2 h).mono ?_
  rintro e w' ⟨rfl, hd⟩
  exact ⟨rfl, hd⟩

end Go.Proofs.Ytgfilednbllkmaa.QFnExactHeartbeat
