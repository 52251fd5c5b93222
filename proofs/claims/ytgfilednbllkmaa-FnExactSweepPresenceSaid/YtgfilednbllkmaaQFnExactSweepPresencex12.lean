-- written by a program of this session, on the lines of the kit's print
import Derived.Test.YtgfilednbllkmaaQFnExactSweepPresencex0
import Derived.Test.YtgfilednbllkmaaQFnExactSweepPresencex1
import Derived.Test.YtgfilednbllkmaaQFnExactSweepPresencex2
import Derived.Test.YtgfilednbllkmaaQFnExactSweepPresencex3
import Derived.Test.YtgfilednbllkmaaQFnExactSweepPresencex6
import Derived.Test.YtgfilednbllkmaaQFnExactSweepPresencex11
namespace Go.Proofs.Ytgfilednbllkmaa.QFnExactSweepPresence
open Go.RowKit Go.Proofs.YtgfilednbllkmaaW.PrintWords Go.Proofs.YtgfilednbllkmaaW.PrintLast Go.Proofs.YtgfilednbllkmaaW.PrintMore
attribute [local go_sem] max2_int min2_int max_two min_two max_three min_three max_four min_four   -- for this text's walks alone
set_option linter.unusedVariables false
set_option linter.unusedSimpArgs false

/-! ### laws_FnExactSweepPresence: function 5 -/
abbrev laws_FnExactSweepPresence.T : Bool := true
abbrev laws_FnExactSweepPresence.F : Bool := false
theorem laws_FnExactSweepPresence.s1_ {P : Prop} (h : P := by first | rfl | (simp; done) | (simp [*]; done)) : P := h
theorem laws_FnExactSweepPresence.s2_ {P : Prop} (h : P := by kernel_rfl) : P := h
theorem laws_FnExactSweepPresence.s3_ {P : Prop} (h : P := by (try simp only [List.map_toArray, List.map_cons, List.map_nil]); first | done | rfl | (simp only [List.length_drop, List.length_take]; rfl)) : P := h
theorem laws_FnExactSweepPresence.p1_ {P : Prop} (h : P := by simp only [Act.put, List.setIfInBounds_toArray, List.set_cons_zero, List.set_cons_succ, i64_w, i32_w]; rfl) : P := h
theorem laws_FnExactSweepPresence.b1_ {P Q : Prop} (q : Q) (h : Q → P := by intro q_; (with_reducible repeat (first | refine blk_drewN ?_ _ | refine blk_drew ?_ | refine blk_alloc ?_ _)); exact q_) : P := h q
theorem laws_FnExactSweepPresence.b2_ {P Q : Prop} (q : Q) (h : Q → P := by intro q_; (with_reducible repeat (first | apply Kd.R_alloc | apply Kd.R_drewN | apply Kd.R_drew)); exact q_) : P := h q
theorem laws_FnExactSweepPresence.y1_ {P Q : Prop} (q : Q) (h : Q → P := by intro q_; repeat (first | (with_reducible first | exact q_ | apply below_alloc | apply pw_below_drewN | apply below_drew1) | exact q_)) : P := h q
theorem laws_FnExactSweepPresence.y2_ {P Q : Prop} (q : Q) (h : Q → P := by intro q_; repeat (first | exact q_ | (with_reducible refine Kd.C_alloc ?_ _) | (with_reducible refine Kd.C_drewN ?_ _) | (with_reducible refine Kd.C_drew ?_))) : P := h q
theorem laws_FnExactSweepPresence.b3_ {w w1 W : World} {g : Nat} {o : Obj} (q : Aside0 (w.heap[g]? = some o)) (hb : Below W.heap.size W w1) (h : w.heap[g]? = some o → W.heap[g]? = some o := by intro q_; (with_reducible repeat (first | refine blk_drewN ?_ _ | refine blk_drew ?_ | refine blk_alloc ?_ _)); exact q_) : Aside0 (w1.heap[g]? = some o) := ⟨blk_below (h q.out) hb⟩
theorem laws_FnExactSweepPresence.b4_ {w W : World} {g k : Nat} {o : Obj} (hg : k = W.heap.size) (q : Aside0 (w.heap[g]? = some o)) (h : w.heap[g]? = some o → W.heap[g]? = some o := by intro q_; (with_reducible repeat (first | refine blk_drewN ?_ _ | refine blk_drew ?_ | refine blk_alloc ?_ _)); exact q_) : Aside0 (g ≠ k) := ⟨by rw [hg]; exact Nat.ne_of_lt (blk_lt (h q.out))⟩
theorem laws_FnExactSweepPresence.b5_ {w W : World} {g k : Nat} {o : Obj} (hg : k = W.heap.size) (q : Aside0 (w.heap[g]? = some o)) (h : w.heap[g]? = some o → W.heap[g]? = some o := by intro q_; (with_reducible repeat (first | refine blk_drewN ?_ _ | refine blk_drew ?_ | refine blk_alloc ?_ _)); exact q_) : Aside0 (k ≠ g) := ⟨by rw [hg]; exact Nat.ne_of_gt (blk_lt (h q.out))⟩
theorem laws_FnExactSweepPresence.b6_ {w w' W : World} {k : Nat} (hg : k = W.heap.size) (q : Aside0 (Below w.heap.size w w')) (h : Below w.heap.size w w' → Below w.heap.size w W := by intro q_; repeat (first | (with_reducible first | exact q_ | apply below_alloc | apply pw_below_drewN | apply below_drew1) | exact q_)) : Aside0 (w.heap.size ≤ k) := ⟨by rw [hg]; exact below_size (h q.out)⟩
theorem laws_FnExactSweepPresence.bx_ {P : Program} {ops : Array Oper} {rest : List Oper} {o : Oper} {a : Act} {Q : Exit → Act → World → Prop} {W : World} (N : Tmp) (cs : Array Value) (t : TypeId) (h : ∀ g, g = W.heap.size → ∀ w1, w1.heap[g]? = some (.cells cs t (0, 0)) → Below W.heap.size W w1 → wpList P ops Q rest (a.put o.dst (.pointer (some ⟨g, 0, none⟩))) w1) (hgd : o.guard = none := by rfl) (hd : o.dst = some N := by rfl) (hrun : (execOp a.eval o).run P W = .ok (.value (.pointer (some ⟨W.heap.size, 0, none⟩))) (W.alloc (.cells cs t (0, 0))) := by first | (go_simp; done) | (go_simp; rfl)) : wpList P ops Q (o :: rest) a W := box_event hgd hd hrun h
theorem laws_FnExactSweepPresence.c1_ {w : World} {g : Nat} {t : TypeId} {cs : Array Value} (q : Aside0 (w.heap[g]? = some (.cells cs t (0, 0)))) (i : Nat) (v : Value) (h : cs[i]? = some v := by rfl) : w.cell? ⟨g, i, none⟩ = some v := (blk_cell q.out i).trans h
theorem laws_FnExactSweepPresence.f1_ {w : World} {g : Nat} {t : TypeId} {cs : Array Value} (q : Aside0 (w.heap[g]? = some (.cells cs t (0, 0)))) (i : Nat) : w.frozen? ⟨g, i, none⟩ = false := blk_frozen q.out i
theorem laws_FnExactSweepPresence.r1_ {α : Type} {d : Kd α} {e base : Nat} {ok : Nat → Prop} {v : Value} {xs : List α} {w W w1 : World} (q : Aside0 (d.R e w base ok v xs)) (hb : Below W.heap.size W w1) (h : d.R e w base ok v xs → d.R e W base ok v xs := by intro q_; (with_reducible repeat (first | apply Kd.R_alloc | apply Kd.R_drewN | apply Kd.R_drew)); exact q_) : Aside0 (d.R e w1 base ok v xs) := ⟨Kd.R_below (h q.out) hb⟩
mutual
def laws_FnExactSweepPresence.j0 : Nat → Int → Bool → Bool → Bool → List (S108) → List (S108) → List (S110) → List (S63) → List (S63) → List (S73) → List (S63) → List (S63) → List (S73) → List (S63) → List (S63) → List (S73) → Option (Bool)
  | 0, _, _, _, _, _, _, _, _, _, _, _, _, _, _, _, _ => none
  | k + 1, x1, x7, x10, x44, x265000, x265001, x265002, x286000, x286001, x286002, x296000, x296001, x296002, x307000, x307001, x307002 => if x44 = true then (some false) else ((laws_toPresence.f k x265000 x265001 x265002).bind fun bt308 => ((laws_eqPresence.f k x296000 x296001 x296002 bt308.1 bt308.2.1 bt308.2.2).bind fun t317 => (if t317 = true then ((laws_markPresence.f k x296000 x296001 x296002 1).bind fun bt318 => (if bt318.1 < 0 then (laws_FnExactSweepPresence.j1 k x1 x7 true x265000 x265001 x265002 x286000 x286001 x286002 x307000 x307001 x307002) else ((laws_eqPresence.f k x307000 x307001 x307002 x286000 x286001 x286002).bind fun t322 => (if t322 = true then (laws_FnExactSweepPresence.j1 k x1 x7 (x10 != x7) x265000 x265001 x265002 x286000 x286001 x286002 x307000 x307001 x307002) else (laws_FnExactSweepPresence.j1 k x1 x7 true x265000 x265001 x265002 x286000 x286001 x286002 x307000 x307001 x307002))))) else (some false))))
def laws_FnExactSweepPresence.j1 : Nat → Int → Bool → Bool → List (S108) → List (S108) → List (S110) → List (S63) → List (S63) → List (S73) → List (S63) → List (S63) → List (S73) → Option (Bool)
  | 0, _, _, _, _, _, _, _, _, _, _, _, _ => none
  | k + 1, x1, x7, x65, x265000, x265001, x265002, x286000, x286001, x286002, x307000, x307001, x307002 => if x65 = true then (some false) else ((laws_markPresence.f k x307000 x307001 x307002 1).bind fun bt323 => ((laws_heldPresence.f k bt323.2.1 bt323.2.2.1 bt323.2.2.2 1).bind fun t327 => (if t327 < 0 then (some false) else (if t327 = bt323.1 then ((laws_toPresence.f k x265000 x265001 x265002).bind fun bt328 => ((impl_SweepPresence.f k bt328.1 bt328.2.1 bt328.2.2 x1).bind fun bt337 => ((laws_eqPresence.f k bt337.1 bt337.2.1 bt337.2.2.1 x286000 x286001 x286002).bind fun t348 => (if t348 = true then (laws_FnExactSweepPresence.j2 k bt323.1 (bt337.2.2.2 != x7) bt323.2.1 bt323.2.2.1 bt323.2.2.2) else (laws_FnExactSweepPresence.j2 k bt323.1 true bt323.2.1 bt323.2.2.1 bt323.2.2.2))))) else (some false)))))
def laws_FnExactSweepPresence.j2 : Nat → Int → Bool → List (S63) → List (S63) → List (S73) → Option (Bool)
  | 0, _, _, _, _, _ => none
  | k + 1, x12, x92, x307000, x307001, x307002 => if x92 = true then (some false) else ((laws_heldPresence.f k x307000 x307001 x307002 1).bind fun t349 => (if t349 < 0 then (some false) else (if t349 = x12 then (some true) else (some false))))
end
def laws_FnExactSweepPresence.f (k : Nat) (l0_0 : List (S108)) (l0_1 : List (S108)) (l0_2 : List (S110)) (a1 : Int) : Option (Bool) := (laws_szPresence.f l0_0 l0_1 l0_2 1048576).bind fun t265 => (if t265 < 0 then (some true) else ((laws_toPresence.f k l0_0 l0_1 l0_2).bind fun bt266 => ((spec_SweepPresence.f k bt266.1 bt266.2.1 bt266.2.2 a1).bind fun bt275 => ((laws_toPresence.f k l0_0 l0_1 l0_2).bind fun bt286 => ((impl_SweepPresence.f k bt286.1 bt286.2.1 bt286.2.2 a1).bind fun bt296 => ((laws_eqPresence.f k bt296.1 bt296.2.1 bt296.2.2.1 bt275.1 bt275.2.1 bt275.2.2.1).bind fun t307 => (if t307 = true then (laws_FnExactSweepPresence.j0 k a1 bt275.2.2.2 bt296.2.2.2 (bt296.2.2.2 != bt275.2.2.2) l0_0 l0_1 l0_2 bt275.1 bt275.2.1 bt275.2.2.1 bt286.1 bt286.2.1 bt286.2.2 bt296.1 bt296.2.1 bt296.2.2.1) else (laws_FnExactSweepPresence.j0 k a1 bt275.2.2.2 bt296.2.2.2 true l0_0 l0_1 l0_2 bt275.1 bt275.2.1 bt275.2.2.1 bt286.1 bt286.2.1 bt286.2.2 bt296.1 bt296.2.1 bt296.2.2.1))))))))
theorem laws_FnExactSweepPresence.mono_l : ∀ k, (∀ y0 y1 y2 y3 y4 y5 y6 y7 y8 y9 y10 y11 y12 y13 y14 y15, LeO (laws_FnExactSweepPresence.j0 k y0 y1 y2 y3 y4 y5 y6 y7 y8 y9 y10 y11 y12 y13 y14 y15) (laws_FnExactSweepPresence.j0 (k + 1) y0 y1 y2 y3 y4 y5 y6 y7 y8 y9 y10 y11 y12 y13 y14 y15)) ∧ (∀ y0 y1 y2 y3 y4 y5 y6 y7 y8 y9 y10 y11, LeO (laws_FnExactSweepPresence.j1 k y0 y1 y2 y3 y4 y5 y6 y7 y8 y9 y10 y11) (laws_FnExactSweepPresence.j1 (k + 1) y0 y1 y2 y3 y4 y5 y6 y7 y8 y9 y10 y11)) ∧ (∀ y0 y1 y2 y3 y4, LeO (laws_FnExactSweepPresence.j2 k y0 y1 y2 y3 y4) (laws_FnExactSweepPresence.j2 (k + 1) y0 y1 y2 y3 y4))
  | 0 => ⟨fun _ _ _ _ _ _ _ _ _ _ _ _ _ _ _ _ r h => by simp [laws_FnExactSweepPresence.j0] at h, fun _ _ _ _ _ _ _ _ _ _ _ _ r h => by simp [laws_FnExactSweepPresence.j1] at h, fun _ _ _ _ _ r h => by simp [laws_FnExactSweepPresence.j2] at h⟩
  | k + 1 => by
    obtain ⟨ih0, ih1, ih2⟩ := laws_FnExactSweepPresence.mono_l k
    refine ⟨?_, ?_, ?_⟩
    · intro y0 y1 y2 y3 y4 y5 y6 y7 y8 y9 y10 y11 y12 y13 y14 y15
      unfold laws_FnExactSweepPresence.j0
      repeat' first
      | (with_reducible exact ih0 _ _ _ _ _ _ _ _ _ _ _ _ _ _ _ _)
      | (with_reducible exact ih1 _ _ _ _ _ _ _ _ _ _ _ _)
      | (with_reducible exact ih2 _ _ _ _ _)
      | (with_reducible exact impl_SweepPresence.mono _ _ _ _ _)
      | (with_reducible exact laws_eqPresence.mono _ _ _ _ _ _ _)
      | (with_reducible exact laws_heldPresence.mono _ _ _ _ _)
      | (with_reducible exact laws_markPresence.mono _ _ _ _ _)
      | (with_reducible exact laws_toPresence.mono _ _ _ _)
      | (with_reducible exact spec_SweepPresence.mono _ _ _ _ _)
      | (with_reducible exact LeO.refl _)
      | (with_reducible exact LeO.none _)
      | (with_reducible refine LeO.ite ?_ ?_)
      | (with_reducible refine LeO.bind ?_ (fun _ => ?_))
      | exact ih0 _ _ _ _ _ _ _ _ _ _ _ _ _ _ _ _
      | exact ih1 _ _ _ _ _ _ _ _ _ _ _ _
      | exact ih2 _ _ _ _ _
      | exact impl_SweepPresence.mono _ _ _ _ _
      | exact laws_eqPresence.mono _ _ _ _ _ _ _
      | exact laws_heldPresence.mono _ _ _ _ _
      | exact laws_markPresence.mono _ _ _ _ _
      | exact laws_toPresence.mono _ _ _ _
      | exact spec_SweepPresence.mono _ _ _ _ _
      | exact LeO.none _
      | refine LeO.ite ?_ ?_
      | refine LeO.bind ?_ (fun _ => ?_)
    · intro y0 y1 y2 y3 y4 y5 y6 y7 y8 y9 y10 y11
      unfold laws_FnExactSweepPresence.j1
      repeat' first
      | (with_reducible exact ih0 _ _ _ _ _ _ _ _ _ _ _ _ _ _ _ _)
      | (with_reducible exact ih1 _ _ _ _ _ _ _ _ _ _ _ _)
      | (with_reducible exact ih2 _ _ _ _ _)
      | (with_reducible exact impl_SweepPresence.mono _ _ _ _ _)
      | (with_reducible exact laws_eqPresence.mono _ _ _ _ _ _ _)
      | (with_reducible exact laws_heldPresence.mono _ _ _ _ _)
      | (with_reducible exact laws_markPresence.mono _ _ _ _ _)
      | (with_reducible exact laws_toPresence.mono _ _ _ _)
      | (with_reducible exact spec_SweepPresence.mono _ _ _ _ _)
      | (with_reducible exact LeO.refl _)
      | (with_reducible exact LeO.none _)
      | (with_reducible refine LeO.ite ?_ ?_)
      | (with_reducible refine LeO.bind ?_ (fun _ => ?_))
      | exact ih0 _ _ _ _ _ _ _ _ _ _ _ _ _ _ _ _
      | exact ih1 _ _ _ _ _ _ _ _ _ _ _ _
      | exact ih2 _ _ _ _ _
      | exact impl_SweepPresence.mono _ _ _ _ _
      | exact laws_eqPresence.mono _ _ _ _ _ _ _
      | exact laws_heldPresence.mono _ _ _ _ _
      | exact laws_markPresence.mono _ _ _ _ _
      | exact laws_toPresence.mono _ _ _ _
      | exact spec_SweepPresence.mono _ _ _ _ _
      | exact LeO.none _
      | refine LeO.ite ?_ ?_
      | refine LeO.bind ?_ (fun _ => ?_)
    · intro y0 y1 y2 y3 y4
      unfold laws_FnExactSweepPresence.j2
      repeat' first
      | (with_reducible exact ih0 _ _ _ _ _ _ _ _ _ _ _ _ _ _ _ _)
      | (with_reducible exact ih1 _ _ _ _ _ _ _ _ _ _ _ _)
      | (with_reducible exact ih2 _ _ _ _ _)
      | (with_reducible exact impl_SweepPresence.mono _ _ _ _ _)
      | (with_reducible exact laws_eqPresence.mono _ _ _ _ _ _ _)
      | (with_reducible exact laws_heldPresence.mono _ _ _ _ _)
      | (with_reducible exact laws_markPresence.mono _ _ _ _ _)
      | (with_reducible exact laws_toPresence.mono _ _ _ _)
      | (with_reducible exact spec_SweepPresence.mono _ _ _ _ _)
      | (with_reducible exact LeO.refl _)
      | (with_reducible exact LeO.none _)
      | (with_reducible refine LeO.ite ?_ ?_)
      | (with_reducible refine LeO.bind ?_ (fun _ => ?_))
      | exact ih0 _ _ _ _ _ _ _ _ _ _ _ _ _ _ _ _
      | exact ih1 _ _ _ _ _ _ _ _ _ _ _ _
      | exact ih2 _ _ _ _ _
      | exact impl_SweepPresence.mono _ _ _ _ _
      | exact laws_eqPresence.mono _ _ _ _ _ _ _
      | exact laws_heldPresence.mono _ _ _ _ _
      | exact laws_markPresence.mono _ _ _ _ _
      | exact laws_toPresence.mono _ _ _ _
      | exact spec_SweepPresence.mono _ _ _ _ _
      | exact LeO.none _
      | refine LeO.ite ?_ ?_
      | refine LeO.bind ?_ (fun _ => ?_)
theorem laws_FnExactSweepPresence.mono : ∀ a0 a1 a2 a3 k, LeO (laws_FnExactSweepPresence.f k a0 a1 a2 a3) (laws_FnExactSweepPresence.f (k + 1) a0 a1 a2 a3) := by
  intro a0 a1 a2 a3 k
  obtain ⟨ih0, ih1, ih2⟩ := laws_FnExactSweepPresence.mono_l k
  unfold laws_FnExactSweepPresence.f
  repeat' first
      | (with_reducible exact ih0 _ _ _ _ _ _ _ _ _ _ _ _ _ _ _ _)
      | (with_reducible exact ih1 _ _ _ _ _ _ _ _ _ _ _ _)
      | (with_reducible exact ih2 _ _ _ _ _)
      | (with_reducible exact impl_SweepPresence.mono _ _ _ _ _)
      | (with_reducible exact laws_eqPresence.mono _ _ _ _ _ _ _)
      | (with_reducible exact laws_heldPresence.mono _ _ _ _ _)
      | (with_reducible exact laws_markPresence.mono _ _ _ _ _)
      | (with_reducible exact laws_toPresence.mono _ _ _ _)
      | (with_reducible exact spec_SweepPresence.mono _ _ _ _ _)
      | (with_reducible exact LeO.refl _)
      | (with_reducible exact LeO.none _)
      | (with_reducible refine LeO.ite ?_ ?_)
      | (with_reducible refine LeO.bind ?_ (fun _ => ?_))
      | exact ih0 _ _ _ _ _ _ _ _ _ _ _ _ _ _ _ _
      | exact ih1 _ _ _ _ _ _ _ _ _ _ _ _
      | exact ih2 _ _ _ _ _
      | exact impl_SweepPresence.mono _ _ _ _ _
      | exact laws_eqPresence.mono _ _ _ _ _ _ _
      | exact laws_heldPresence.mono _ _ _ _ _
      | exact laws_markPresence.mono _ _ _ _ _
      | exact laws_toPresence.mono _ _ _ _
      | exact spec_SweepPresence.mono _ _ _ _ _
      | exact LeO.none _
      | refine LeO.ite ?_ ?_
      | refine LeO.bind ?_ (fun _ => ?_)
set_option maxHeartbeats 40000000 in
set_option maxRecDepth 100000 in
theorem laws_FnExactSweepPresence.calls (k : Nat) (A0_0 : Option Addr) (c0_0 : Nat) (l0_0 : List (S108)) (A0_1 : Option Addr) (c0_1 : Nat) (l0_1 : List (S108)) (A0_2 : Option Addr) (c0_2 : Nat) (l0_2 : List (S110)) (a1 : Int) (r : Bool) (w : World) (hr0_0 : Kd.C k108 w A0_0 l0_0.length l0_0) (hc0_0 : l0_0.length ≤ c0_0) (hr0_1 : Kd.C k108 w A0_1 l0_1.length l0_1) (hc0_1 : l0_1.length ≤ c0_1) (hr0_2 : Kd.C k110 w A0_2 l0_2.length l0_2) (hc0_2 : l0_2.length ≤ c0_2) (h : laws_FnExactSweepPresence.f k l0_0 l0_1 l0_2 a1 = some r) :
    Calls Try.prog 5 #[.agg #[.slice A0_0 l0_0.length c0_0, .slice A0_1 l0_1.length c0_1, .slice A0_2 l0_2.length c0_2], .int .i64 a1] w fun e w' => e = .returned (.bool r) ∧ Below w.heap.size w w' := by
 have hu45 := Try.underlying45
 have hu27 := Try.underlying27
 have HR0_0 := Aside0.mk hr0_0
 have HC0_0 := Aside0.mk hc0_0
 clear hr0_0 hc0_0
 have HR0_1 := Aside0.mk hr0_1
 have HC0_1 := Aside0.mk hc0_1
 clear hr0_1 hc0_1
 have HR0_2 := Aside0.mk hr0_2
 have HC0_2 := Aside0.mk hc0_2
 clear hr0_2 hc0_2
 have HB := Aside0.mk (Below.refl w.heap.size w)
 have H : ((laws_szPresence.f l0_0 l0_1 l0_2 1048576).bind fun t265 => (if t265 < 0 then (some true) else ((laws_toPresence.f k l0_0 l0_1 l0_2).bind fun bt266 => ((spec_SweepPresence.f k bt266.1 bt266.2.1 bt266.2.2 a1).bind fun bt275 => ((laws_toPresence.f k l0_0 l0_1 l0_2).bind fun bt286 => ((impl_SweepPresence.f k bt286.1 bt286.2.1 bt286.2.2 a1).bind fun bt296 => ((laws_eqPresence.f k bt296.1 bt296.2.1 bt296.2.2.1 bt275.1 bt275.2.1 bt275.2.2.1).bind fun t307 => (if t307 = true then (laws_FnExactSweepPresence.j0 k a1 bt275.2.2.2 bt296.2.2.2 (bt296.2.2.2 != bt275.2.2.2) l0_0 l0_1 l0_2 bt275.1 bt275.2.1 bt275.2.2.1 bt286.1 bt286.2.1 bt286.2.2 bt296.1 bt296.2.1 bt296.2.2.1) else (laws_FnExactSweepPresence.j0 k a1 bt275.2.2.2 bt296.2.2.2 true l0_0 l0_1 l0_2 bt275.1 bt275.2.1 bt275.2.2.1 bt286.1 bt286.2.1 bt286.2.2 bt296.1 bt296.2.1 bt296.2.2.1))))))))) = some r := h
 clear h
 replace H := Option.bind_eq_some_iff.mp H
 obtain ⟨t265, A30, H⟩ := H
 replace H : (if t265 < 0 then (some true) else ((laws_toPresence.f k l0_0 l0_1 l0_2).bind fun bt266 => ((spec_SweepPresence.f k bt266.1 bt266.2.1 bt266.2.2 a1).bind fun bt275 => ((laws_toPresence.f k l0_0 l0_1 l0_2).bind fun bt286 => ((impl_SweepPresence.f k bt286.1 bt286.2.1 bt286.2.2 a1).bind fun bt296 => ((laws_eqPresence.f k bt296.1 bt296.2.1 bt296.2.2.1 bt275.1 bt275.2.1 bt275.2.2.1).bind fun t307 => (if t307 = true then (laws_FnExactSweepPresence.j0 k a1 bt275.2.2.2 bt296.2.2.2 (bt296.2.2.2 != bt275.2.2.2) l0_0 l0_1 l0_2 bt275.1 bt275.2.1 bt275.2.2.1 bt286.1 bt286.2.1 bt286.2.2 bt296.1 bt296.2.1 bt296.2.2.1) else (laws_FnExactSweepPresence.j0 k a1 bt275.2.2.2 bt296.2.2.2 true l0_0 l0_1 l0_2 bt275.1 bt275.2.1 bt275.2.2.1 bt286.1 bt286.2.1 bt286.2.2 bt296.1 bt296.2.1 bt296.2.2.1)))))))) = some r := H
 have A3 := Aside0.mk A30
 clear A30
 by_cases c4 : t265 < 0
 {
 rw [if_pos c4] at H
 have c4b0 : decide (t265 < 0) = true := decide_eq_true c4
 clear c4
 obtain rfl := Option.some.inj H
 go_enter Try.func5, Try.ntmps5
 go_wp2_with (first | ((with_reducible refine gate_dst (N := 2) rfl ?_); refine bx_ 2 #[.slice A0_0 l0_0.length c0_0, .slice A0_1 l0_1.length c0_1, .slice A0_2 l0_2.length c0_2] 45 ?_; intro gb264 hg w5 hbox hb; have GW264 := b6_ hg HB; have GE264 := b6_ hg HB; replace HB := Aside0.mk (below_step (y1_ HB.out) hb); have BK264 := Aside0.mk (hbox); clear hb hbox hg; have hcz6_0 := c1_ BK264 0 (.slice A0_0 l0_0.length c0_0); have hcz6_1 := c1_ BK264 1 (.slice A0_1 l0_1.length c0_1); have hcz6_2 := c1_ BK264 2 (.slice A0_2 l0_2.length c0_2); have hfz6_0 := f1_ BK264 0; have hfz6_1 := f1_ BK264 1; have hfz6_2 := f1_ BK264 2) | ((with_reducible refine gate_callee (f := 24) rfl ?_); refine goesL_ (some 18) rfl rfl Try.func24 s2_ rfl #[.agg #[.slice A0_0 l0_0.length c0_0, .slice A0_1 l0_1.length c0_1, .slice A0_2 l0_2.length c0_2], .int .i64 1048576] rfl s3_ ?_; (with_reducible refine (laws_szPresence.calls _ _ l0_0 _ _ l0_1 _ _ l0_2 1048576 t265 _ ?side1 ?side2 ?side3 ?side4 ?side5 ?side6 A3.out).mono ?_); (case side1 => exact y2_ (Kd.C_below HR0_0.out HB.out)); (case side2 => exact HC0_0.out); (case side3 => exact y2_ (Kd.C_below HR0_1.out HB.out)); (case side4 => exact HC0_1.out); (case side5 => exact y2_ (Kd.C_below HR0_2.out HB.out)); (case side6 => exact HC0_2.out); rintro e w7 ⟨rfl, hb⟩; refine ⟨_, rfl, ?_⟩; replace BK264 := b3_ BK264 hb; replace HB := Aside0.mk (below_step (y1_ HB.out) hb); (try clear hb); (try clear hb2); (try clear hk); (try clear hi)))
 go_ret
 exact ⟨by first | rfl | (simp [errW_none, errW_some] <;> rfl) | (simp [*, errW_none, errW_some] <;> rfl), by repeat (first | (with_reducible first | exact HB.out | apply below_alloc | apply pw_below_drewN | apply below_drew1) | exact HB.out)⟩}
 {
 rw [if_neg c4] at H
 have c4b0 : decide (t265 < 0) = false := decide_eq_false c4
 clear c4
 replace H := Option.bind_eq_some_iff.mp H
 obtain ⟨⟨t266, t269, t272⟩, A80, H⟩ := H
 replace H : ((spec_SweepPresence.f k t266 t269 t272 a1).bind fun bt275 => ((laws_toPresence.f k l0_0 l0_1 l0_2).bind fun bt286 => ((impl_SweepPresence.f k bt286.1 bt286.2.1 bt286.2.2 a1).bind fun bt296 => ((laws_eqPresence.f k bt296.1 bt296.2.1 bt296.2.2.1 bt275.1 bt275.2.1 bt275.2.2.1).bind fun t307 => (if t307 = true then (laws_FnExactSweepPresence.j0 k a1 bt275.2.2.2 bt296.2.2.2 (bt296.2.2.2 != bt275.2.2.2) l0_0 l0_1 l0_2 bt275.1 bt275.2.1 bt275.2.2.1 bt286.1 bt286.2.1 bt286.2.2 bt296.1 bt296.2.1 bt296.2.2.1) else (laws_FnExactSweepPresence.j0 k a1 bt275.2.2.2 bt296.2.2.2 true l0_0 l0_1 l0_2 bt275.1 bt275.2.1 bt275.2.2.1 bt286.1 bt286.2.1 bt286.2.2 bt296.1 bt296.2.1 bt296.2.2.1)))))) = some r := H
 have A8 := Aside0.mk A80
 clear A80
 replace H := Option.bind_eq_some_iff.mp H
 obtain ⟨⟨t275, t278, t281, t284⟩, A90, H⟩ := H
 replace H : ((laws_toPresence.f k l0_0 l0_1 l0_2).bind fun bt286 => ((impl_SweepPresence.f k bt286.1 bt286.2.1 bt286.2.2 a1).bind fun bt296 => ((laws_eqPresence.f k bt296.1 bt296.2.1 bt296.2.2.1 t275 t278 t281).bind fun t307 => (if t307 = true then (laws_FnExactSweepPresence.j0 k a1 t284 bt296.2.2.2 (bt296.2.2.2 != t284) l0_0 l0_1 l0_2 t275 t278 t281 bt286.1 bt286.2.1 bt286.2.2 bt296.1 bt296.2.1 bt296.2.2.1) else (laws_FnExactSweepPresence.j0 k a1 t284 bt296.2.2.2 true l0_0 l0_1 l0_2 t275 t278 t281 bt286.1 bt286.2.1 bt286.2.2 bt296.1 bt296.2.1 bt296.2.2.1))))) = some r := H
 have A9 := Aside0.mk A90
 clear A90
 replace H := Option.bind_eq_some_iff.mp H
 obtain ⟨⟨t286, t289, t292⟩, A100, H⟩ := H
 replace H : ((impl_SweepPresence.f k t286 t289 t292 a1).bind fun bt296 => ((laws_eqPresence.f k bt296.1 bt296.2.1 bt296.2.2.1 t275 t278 t281).bind fun t307 => (if t307 = true then (laws_FnExactSweepPresence.j0 k a1 t284 bt296.2.2.2 (bt296.2.2.2 != t284) l0_0 l0_1 l0_2 t275 t278 t281 t286 t289 t292 bt296.1 bt296.2.1 bt296.2.2.1) else (laws_FnExactSweepPresence.j0 k a1 t284 bt296.2.2.2 true l0_0 l0_1 l0_2 t275 t278 t281 t286 t289 t292 bt296.1 bt296.2.1 bt296.2.2.1)))) = some r := H
 have A10 := Aside0.mk A100
 clear A100
 replace H := Option.bind_eq_some_iff.mp H
 obtain ⟨⟨t296, t299, t302, t305⟩, A110, H⟩ := H
 replace H : ((laws_eqPresence.f k t296 t299 t302 t275 t278 t281).bind fun t307 => (if t307 = true then (laws_FnExactSweepPresence.j0 k a1 t284 t305 (t305 != t284) l0_0 l0_1 l0_2 t275 t278 t281 t286 t289 t292 t296 t299 t302) else (laws_FnExactSweepPresence.j0 k a1 t284 t305 true l0_0 l0_1 l0_2 t275 t278 t281 t286 t289 t292 t296 t299 t302))) = some r := H
 have A11 := Aside0.mk A110
 clear A110
 have HC12 := Aside0.mk H
 clear H
 go_enter Try.func5, Try.ntmps5
 go_upto_region 8 with (first | ((with_reducible refine gate_dst (N := 2) rfl ?_); refine bx_ 2 #[.slice A0_0 l0_0.length c0_0, .slice A0_1 l0_1.length c0_1, .slice A0_2 l0_2.length c0_2] 45 ?_; intro gb264 hg w13 hbox hb; have GW264 := b6_ hg HB; have GE264 := b6_ hg HB; replace HB := Aside0.mk (below_step (y1_ HB.out) hb); have BK264 := Aside0.mk (hbox); clear hb hbox hg; have hcz14_0 := c1_ BK264 0 (.slice A0_0 l0_0.length c0_0); have hcz14_1 := c1_ BK264 1 (.slice A0_1 l0_1.length c0_1); have hcz14_2 := c1_ BK264 2 (.slice A0_2 l0_2.length c0_2); have hfz14_0 := f1_ BK264 0; have hfz14_1 := f1_ BK264 1; have hfz14_2 := f1_ BK264 2) | ((with_reducible refine gate_callee (f := 24) rfl ?_); refine goesL_ (some 18) rfl rfl Try.func24 s2_ rfl #[.agg #[.slice A0_0 l0_0.length c0_0, .slice A0_1 l0_1.length c0_1, .slice A0_2 l0_2.length c0_2], .int .i64 1048576] rfl s3_ ?_; (with_reducible refine (laws_szPresence.calls _ _ l0_0 _ _ l0_1 _ _ l0_2 1048576 t265 _ ?side1 ?side2 ?side3 ?side4 ?side5 ?side6 A3.out).mono ?_); (case side1 => exact y2_ (Kd.C_below HR0_0.out HB.out)); (case side2 => exact HC0_0.out); (case side3 => exact y2_ (Kd.C_below HR0_1.out HB.out)); (case side4 => exact HC0_1.out); (case side5 => exact y2_ (Kd.C_below HR0_2.out HB.out)); (case side6 => exact HC0_2.out); rintro e w15 ⟨rfl, hb⟩; refine ⟨_, rfl, ?_⟩; replace BK264 := b3_ BK264 hb; replace HB := Aside0.mk (below_step (y1_ HB.out) hb); (try clear hb); (try clear hb2); (try clear hk); (try clear hi); have hcz16_0 := c1_ BK264 0 (.slice A0_0 l0_0.length c0_0); have hcz16_1 := c1_ BK264 1 (.slice A0_1 l0_1.length c0_1); have hcz16_2 := c1_ BK264 2 (.slice A0_2 l0_2.length c0_2); have hfz16_0 := f1_ BK264 0; have hfz16_1 := f1_ BK264 1; have hfz16_2 := f1_ BK264 2) | ((with_reducible refine gate_callee (f := 26) rfl ?_); refine goesL_ (some 23) rfl rfl Try.func26 s2_ rfl #[.agg #[.slice A0_0 l0_0.length c0_0, .slice A0_1 l0_1.length c0_1, .slice A0_2 l0_2.length c0_2]] rfl s3_ ?_; (with_reducible refine (laws_toPresence.calls k _ _ l0_0 _ _ l0_1 _ _ l0_2 t266 t269 t272 _ ?side1 ?side2 ?side3 ?side4 ?side5 ?side6 A8.out).mono ?_); (case side1 => exact y2_ (Kd.C_below HR0_0.out HB.out)); (case side2 => exact HC0_0.out); (case side3 => exact y2_ (Kd.C_below HR0_1.out HB.out)); (case side4 => exact HC0_1.out); (case side5 => exact y2_ (Kd.C_below HR0_2.out HB.out)); (case side6 => exact HC0_2.out); rintro e w17 ⟨v267, v270, v273, rfl, ho0, ho1, ho2, hb⟩; refine ⟨_, rfl, ?_⟩; have HO268 := Aside0.mk (Kd.R_lower ho0 (below_size (y1_ HB.out))); have HO271 := Aside0.mk (Kd.R_lower ho1 (below_size (y1_ HB.out))); have HO274 := Aside0.mk (Kd.R_lower ho2 (below_size (y1_ HB.out))); replace BK264 := b3_ BK264 hb; replace HB := Aside0.mk (below_step (y1_ HB.out) hb); (try clear hb); (try clear hb2); (try clear hk); (try clear hi); (try clear ho0); (try clear ho1); (try clear ho2); obtain ⟨Ao18, co18, eo18⟩ := Kd.R_slice HO268.out; subst eo18; obtain ⟨Ao19, co19, eo19⟩ := Kd.R_slice HO271.out; subst eo19; obtain ⟨Ao20, co20, eo20⟩ := Kd.R_slice HO274.out; subst eo20) | ((with_reducible refine gate_callee (f := 30) rfl ?_); refine goesL_ (some 25) rfl rfl Try.func30 s2_ rfl #[.agg #[.slice Ao18 t266.length co18, .slice Ao19 t269.length co19, .slice Ao20 t272.length co20], .int .i64 a1] rfl s3_ ?_; (with_reducible refine (spec_SweepPresence.calls k _ _ t266 _ _ t269 _ _ t272 a1 t275 t278 t281 t284 _ ?side1 ?side2 ?side3 ?side4 ?side5 ?side6 A9.out).mono ?_); (case side1 => exact y2_ (Kd.R_reads' HO268.out).2.2); (case side2 => exact (Kd.R_reads' HO268.out).2.1); (case side3 => exact y2_ (Kd.R_reads' HO271.out).2.2); (case side4 => exact (Kd.R_reads' HO271.out).2.1); (case side5 => exact y2_ (Kd.R_reads' HO274.out).2.2); (case side6 => exact (Kd.R_reads' HO274.out).2.1); rintro e w21 ⟨v276, v279, v282, rfl, ho0, ho1, ho2, hb⟩; refine ⟨_, rfl, ?_⟩; have n0_ := Aside0.mk (Kd.R_mono (Kd.R_told (Kd.R_told (Kd.R_old (b2_ HO268.out) hb) (Kd.R_base ho0)) (Kd.R_base ho1)) (fun _ h_ => h_.1)); have n1_ := Aside0.mk (Kd.R_mono (Kd.R_told (Kd.R_told (Kd.R_old (b2_ HO271.out) hb) (Kd.R_base ho0)) (Kd.R_base ho1)) (fun _ h_ => h_.1)); have n2_ := Aside0.mk (Kd.R_elder' (b2_ HO274.out) (Kd.R_base ho2) hb); have n3_ := Aside0.mk (Kd.R_lower (Kd.R_new' (Kd.R_new' ho0 (Kd.R_lt (b2_ HO268.out))) (Kd.R_lt (b2_ HO271.out))) (below_size (y1_ HB.out))); have n4_ := Aside0.mk (Kd.R_lower (Kd.R_new' (Kd.R_new' ho1 (Kd.R_lt (b2_ HO268.out))) (Kd.R_lt (b2_ HO271.out))) (below_size (y1_ HB.out))); have n5_ := Aside0.mk (Kd.R_lower (Kd.R_new' ho2 (Kd.R_lt (b2_ HO274.out))) (below_size (y1_ HB.out))); have n6_ := b3_ BK264 hb; have n7_ := Aside0.mk (below_step (y1_ HB.out) hb); clear HO268; clear HO271; clear HO274; clear BK264; clear HB; have HO268 := n0_; have HO271 := n1_; have HO274 := n2_; have HO277 := n3_; have HO280 := n4_; have HO283 := n5_; have BK264 := n6_; have HB := n7_; clear n0_ n1_ n2_ n3_ n4_ n5_ n6_ n7_; (try clear hb); (try clear hb2); (try clear hk); (try clear hi); (try clear ho0); (try clear ho1); (try clear ho2)) | ((with_reducible refine gate_dst (N := 6) rfl ?_); refine bx_ 6 #[.slice none 0 0, .slice none 0 0, .slice none 0 0] 27 ?_; intro gb285 hg w22 hbox hb; have GW285 := b6_ hg HB; have GE285 := b6_ hg HB; have NB264_285 := b4_ hg BK264; have NB285_264 := b5_ hg BK264; replace HO268 := r1_ HO268 hb; replace HO271 := r1_ HO271 hb; replace HO274 := r1_ HO274 hb; replace HO277 := r1_ HO277 hb; replace HO280 := r1_ HO280 hb; replace HO283 := r1_ HO283 hb; replace BK264 := b3_ BK264 hb; replace HB := Aside0.mk (below_step (y1_ HB.out) hb); have BK285 := Aside0.mk (hbox); clear hb hbox hg; obtain ⟨Ao23, co23, eo23⟩ := Kd.R_slice HO277.out; subst eo23; have hnb24 := NB285_264.out; have hnc24 := NB264_285.out; have hcz25_0 := c1_ BK285 0 (.slice none 0 0); have hcz25_1 := c1_ BK285 1 (.slice none 0 0); have hcz25_2 := c1_ BK285 2 (.slice none 0 0); have hfz25_0 := f1_ BK285 0; have hfz25_1 := f1_ BK285 1; have hfz25_2 := f1_ BK285 2; obtain ⟨Ao26, co26, eo26⟩ := Kd.R_slice HO280.out; subst eo26; obtain ⟨Ao27, co27, eo27⟩ := Kd.R_slice HO283.out; subst eo27; have hcz28_0 := c1_ BK264 0 (.slice A0_0 l0_0.length c0_0); have hcz28_1 := c1_ BK264 1 (.slice A0_1 l0_1.length c0_1); have hcz28_2 := c1_ BK264 2 (.slice A0_2 l0_2.length c0_2); have hfz28_0 := f1_ BK264 0; have hfz28_1 := f1_ BK264 1; have hfz28_2 := f1_ BK264 2) | ((with_reducible refine gate_callee (f := 26) rfl ?_); refine goesL_ (some 29) rfl rfl Try.func26 s2_ rfl #[.agg #[.slice A0_0 l0_0.length c0_0, .slice A0_1 l0_1.length c0_1, .slice A0_2 l0_2.length c0_2]] rfl s3_ ?_; (with_reducible refine (laws_toPresence.calls k _ _ l0_0 _ _ l0_1 _ _ l0_2 t286 t289 t292 _ ?side1 ?side2 ?side3 ?side4 ?side5 ?side6 A10.out).mono ?_); (case side1 => exact Kd.C_below HR0_0.out (by repeat (first | (with_reducible first | exact HB.out | apply below_alloc | apply pw_below_drewN | apply below_drew1 | refine below_set ?_ GE285.out) | exact HB.out))); (case side2 => exact HC0_0.out); (case side3 => exact Kd.C_below HR0_1.out (by repeat (first | (with_reducible first | exact HB.out | apply below_alloc | apply pw_below_drewN | apply below_drew1 | refine below_set ?_ GE285.out) | exact HB.out))); (case side4 => exact HC0_1.out); (case side5 => exact Kd.C_below HR0_2.out (by repeat (first | (with_reducible first | exact HB.out | apply below_alloc | apply pw_below_drewN | apply below_drew1 | refine below_set ?_ GE285.out) | exact HB.out))); (case side6 => exact HC0_2.out); rintro e w29 ⟨v287, v290, v293, rfl, ho0, ho1, ho2, hb⟩; refine ⟨_, rfl, ?_⟩; have n0_ := Aside0.mk (Kd.R_mono (Kd.R_told (Kd.R_told (Kd.R_old (by (with_reducible repeat (first | apply Kd.R_alloc | apply Kd.R_drewN | apply Kd.R_drew)); exact (Kd.R_mono (Kd.R_far3 (g := gb285) (Kd.R_types HO268.out BK285.out (by decide)) (fun _ hk => hk.2)) (fun _ h_ => h_.1))) hb) (Kd.R_base ho0)) (Kd.R_base ho1)) (fun _ h_ => h_.1)); have n1_ := Aside0.mk (Kd.R_mono (Kd.R_told (Kd.R_told (Kd.R_old (by (with_reducible repeat (first | apply Kd.R_alloc | apply Kd.R_drewN | apply Kd.R_drew)); exact (Kd.R_mono (Kd.R_far3 (g := gb285) (Kd.R_types HO271.out BK285.out (by decide)) (fun _ hk => hk.2)) (fun _ h_ => h_.1))) hb) (Kd.R_base ho0)) (Kd.R_base ho1)) (fun _ h_ => h_.1)); have n2_ := Aside0.mk (Kd.R_elder' (by (with_reducible repeat (first | apply Kd.R_alloc | apply Kd.R_drewN | apply Kd.R_drew)); exact (Kd.R_mono (Kd.R_far3 (g := gb285) (Kd.R_types HO274.out BK285.out (by decide)) (fun _ hk => hk.2)) (fun _ h_ => h_.1))) (Kd.R_base ho2) hb); have n3_ := Aside0.mk (Kd.R_mono (Kd.R_told (Kd.R_told (Kd.R_old (by (with_reducible repeat (first | apply Kd.R_alloc | apply Kd.R_drewN | apply Kd.R_drew)); exact (Kd.R_mono (Kd.R_far3 (g := gb285) (Kd.R_types HO277.out BK285.out (by decide)) (fun _ hk => hk.2)) (fun _ h_ => h_.1))) hb) (Kd.R_base ho0)) (Kd.R_base ho1)) (fun _ h_ => h_.1)); have n4_ := Aside0.mk (Kd.R_mono (Kd.R_told (Kd.R_told (Kd.R_old (by (with_reducible repeat (first | apply Kd.R_alloc | apply Kd.R_drewN | apply Kd.R_drew)); exact (Kd.R_mono (Kd.R_far3 (g := gb285) (Kd.R_types HO280.out BK285.out (by decide)) (fun _ hk => hk.2)) (fun _ h_ => h_.1))) hb) (Kd.R_base ho0)) (Kd.R_base ho1)) (fun _ h_ => h_.1)); have n5_ := Aside0.mk (Kd.R_elder' (by (with_reducible repeat (first | apply Kd.R_alloc | apply Kd.R_drewN | apply Kd.R_drew)); exact (Kd.R_mono (Kd.R_far3 (g := gb285) (Kd.R_types HO283.out BK285.out (by decide)) (fun _ hk => hk.2)) (fun _ h_ => h_.1))) (Kd.R_base ho2) hb); have n6_ := Aside0.mk (Kd.R_lower (Kd.R_new' (Kd.R_new' (Kd.R_new' (Kd.R_new' ho0 (Kd.R_lt (by (with_reducible repeat (first | apply Kd.R_alloc | apply Kd.R_drewN | apply Kd.R_drew)); exact (Kd.R_mono (Kd.R_far3 (g := gb285) (Kd.R_types HO268.out BK285.out (by decide)) (fun _ hk => hk.2)) (fun _ h_ => h_.1))))) (Kd.R_lt (by (with_reducible repeat (first | apply Kd.R_alloc | apply Kd.R_drewN | apply Kd.R_drew)); exact (Kd.R_mono (Kd.R_far3 (g := gb285) (Kd.R_types HO271.out BK285.out (by decide)) (fun _ hk => hk.2)) (fun _ h_ => h_.1))))) (Kd.R_lt (by (with_reducible repeat (first | apply Kd.R_alloc | apply Kd.R_drewN | apply Kd.R_drew)); exact (Kd.R_mono (Kd.R_far3 (g := gb285) (Kd.R_types HO277.out BK285.out (by decide)) (fun _ hk => hk.2)) (fun _ h_ => h_.1))))) (Kd.R_lt (by (with_reducible repeat (first | apply Kd.R_alloc | apply Kd.R_drewN | apply Kd.R_drew)); exact (Kd.R_mono (Kd.R_far3 (g := gb285) (Kd.R_types HO280.out BK285.out (by decide)) (fun _ hk => hk.2)) (fun _ h_ => h_.1))))) (below_size (by repeat (first | (with_reducible first | exact HB.out | apply below_alloc | apply pw_below_drewN | apply below_drew1 | refine below_set ?_ GE285.out) | exact HB.out)))); have n7_ := Aside0.mk (Kd.R_lower (Kd.R_new' (Kd.R_new' (Kd.R_new' (Kd.R_new' ho1 (Kd.R_lt (by (with_reducible repeat (first | apply Kd.R_alloc | apply Kd.R_drewN | apply Kd.R_drew)); exact (Kd.R_mono (Kd.R_far3 (g := gb285) (Kd.R_types HO268.out BK285.out (by decide)) (fun _ hk => hk.2)) (fun _ h_ => h_.1))))) (Kd.R_lt (by (with_reducible repeat (first | apply Kd.R_alloc | apply Kd.R_drewN | apply Kd.R_drew)); exact (Kd.R_mono (Kd.R_far3 (g := gb285) (Kd.R_types HO271.out BK285.out (by decide)) (fun _ hk => hk.2)) (fun _ h_ => h_.1))))) (Kd.R_lt (by (with_reducible repeat (first | apply Kd.R_alloc | apply Kd.R_drewN | apply Kd.R_drew)); exact (Kd.R_mono (Kd.R_far3 (g := gb285) (Kd.R_types HO277.out BK285.out (by decide)) (fun _ hk => hk.2)) (fun _ h_ => h_.1))))) (Kd.R_lt (by (with_reducible repeat (first | apply Kd.R_alloc | apply Kd.R_drewN | apply Kd.R_drew)); exact (Kd.R_mono (Kd.R_far3 (g := gb285) (Kd.R_types HO280.out BK285.out (by decide)) (fun _ hk => hk.2)) (fun _ h_ => h_.1))))) (below_size (by repeat (first | (with_reducible first | exact HB.out | apply below_alloc | apply pw_below_drewN | apply below_drew1 | refine below_set ?_ GE285.out) | exact HB.out)))); have n8_ := Aside0.mk (Kd.R_lower (Kd.R_new' (Kd.R_new' ho2 (Kd.R_lt (by (with_reducible repeat (first | apply Kd.R_alloc | apply Kd.R_drewN | apply Kd.R_drew)); exact (Kd.R_mono (Kd.R_far3 (g := gb285) (Kd.R_types HO274.out BK285.out (by decide)) (fun _ hk => hk.2)) (fun _ h_ => h_.1))))) (Kd.R_lt (by (with_reducible repeat (first | apply Kd.R_alloc | apply Kd.R_drewN | apply Kd.R_drew)); exact (Kd.R_mono (Kd.R_far3 (g := gb285) (Kd.R_types HO283.out BK285.out (by decide)) (fun _ hk => hk.2)) (fun _ h_ => h_.1))))) (below_size (by repeat (first | (with_reducible first | exact HB.out | apply below_alloc | apply pw_below_drewN | apply below_drew1 | refine below_set ?_ GE285.out) | exact HB.out)))); have n9_ := Aside0.mk (blk_below (g := gb264) (o := .cells #[.slice A0_0 l0_0.length c0_0, .slice A0_1 l0_1.length c0_1, .slice A0_2 l0_2.length c0_2] 45 (0, 0)) (by (with_reducible repeat (first | refine blk_drewN ?_ _ | refine blk_drew ?_ | refine blk_alloc ?_ _)); refine blk_far3 ?_ NB264_285.out; (with_reducible repeat (first | refine blk_drewN ?_ _ | refine blk_drew ?_ | refine blk_alloc ?_ _)); exact BK264.out) hb); have n10_ := Aside0.mk (blk_below (g := gb285) (o := .cells #[.slice Ao23 t275.length co23, .slice Ao26 t278.length co26, .slice Ao27 t281.length co27] 27 (0, 0)) (by (with_reducible repeat (first | refine blk_drewN ?_ _ | refine blk_drew ?_ | refine blk_alloc ?_ _)); refine blk_put3 (cs := #[.slice none 0 0, .slice none 0 0, .slice none 0 0]) ?_ rfl; (with_reducible repeat (first | refine blk_drewN ?_ _ | refine blk_drew ?_ | refine blk_alloc ?_ _)); exact BK285.out) hb); have n11_ := Aside0.mk (below_step (by repeat (first | (with_reducible first | exact HB.out | apply below_alloc | apply pw_below_drewN | apply below_drew1 | refine below_set ?_ GE285.out) | exact HB.out)) hb); clear HO268; clear HO271; clear HO274; clear HO277; clear HO280; clear HO283; clear BK264; clear BK285; clear HB; have HO268 := n0_; have HO271 := n1_; have HO274 := n2_; have HO277 := n3_; have HO280 := n4_; have HO283 := n5_; have HO288 := n6_; have HO291 := n7_; have HO294 := n8_; have BK264 := n9_; have BK285 := n10_; have HB := n11_; clear n0_ n1_ n2_ n3_ n4_ n5_ n6_ n7_ n8_ n9_ n10_ n11_; (try clear hb); (try clear hb2); (try clear hk); (try clear hi); (try clear ho0); (try clear ho1); (try clear ho2)) | ((with_reducible refine gate_dst (N := 8) rfl ?_); refine bx_ 8 #[.slice none 0 0, .slice none 0 0, .slice none 0 0] 27 ?_; intro gb295 hg w30 hbox hb; have GW295 := b6_ hg HB; have GE295 := b6_ hg HB; have NB264_295 := b4_ hg BK264; have NB295_264 := b5_ hg BK264; have NB285_295 := b4_ hg BK285; have NB295_285 := b5_ hg BK285; replace HO268 := r1_ HO268 hb; replace HO271 := r1_ HO271 hb; replace HO274 := r1_ HO274 hb; replace HO277 := r1_ HO277 hb; replace HO280 := r1_ HO280 hb; replace HO283 := r1_ HO283 hb; replace HO288 := r1_ HO288 hb; replace HO291 := r1_ HO291 hb; replace HO294 := r1_ HO294 hb; replace BK264 := b3_ BK264 hb; replace BK285 := b3_ BK285 hb; replace HB := Aside0.mk (below_step (y1_ HB.out) hb); have BK295 := Aside0.mk (hbox); clear hb hbox hg; obtain ⟨Ao31, co31, eo31⟩ := Kd.R_slice HO288.out; subst eo31; have hnb32 := NB295_264.out; have hnc32 := NB264_295.out; have hnb33 := NB295_285.out; have hnc33 := NB285_295.out; have hcz34_0 := c1_ BK295 0 (.slice none 0 0); have hcz34_1 := c1_ BK295 1 (.slice none 0 0); have hcz34_2 := c1_ BK295 2 (.slice none 0 0); have hfz34_0 := f1_ BK295 0; have hfz34_1 := f1_ BK295 1; have hfz34_2 := f1_ BK295 2; obtain ⟨Ao35, co35, eo35⟩ := Kd.R_slice HO291.out; subst eo35; obtain ⟨Ao36, co36, eo36⟩ := Kd.R_slice HO294.out; subst eo36) | ((with_reducible refine gate_callee (f := 31) rfl ?_); refine goesL_ (some 33) rfl rfl Try.func31 s2_ rfl #[.agg #[.slice Ao31 t286.length co31, .slice Ao35 t289.length co35, .slice Ao36 t292.length co36], .int .i64 a1] rfl s3_ ?_; (with_reducible refine (impl_SweepPresence.calls k _ _ t286 _ _ t289 _ _ t292 a1 t296 t299 t302 t305 _ ?side1 ?side2 ?side3 ?side4 ?side5 ?side6 A11.out).mono ?_); (case side1 => refine (Kd.R_reads' (e := 63) (base := w.heap.size) (ok := fun k_ => ((((some k_ ≠ (.slice Ao35 t289.length co35 : Value).ownBlock ∧ some k_ ≠ (.slice Ao18 t266.length co18 : Value).ownBlock) ∧ some k_ ≠ (.slice Ao19 t269.length co19 : Value).ownBlock) ∧ some k_ ≠ (.slice Ao23 t275.length co23 : Value).ownBlock) ∧ some k_ ≠ (.slice Ao26 t278.length co26 : Value).ownBlock)) (n := t286.length) (c := co31) ?_).2.2; exact (by (with_reducible repeat (first | apply Kd.R_alloc | apply Kd.R_drewN | apply Kd.R_drew)); exact (Kd.R_mono (Kd.R_far3 (g := gb295) (Kd.R_types HO288.out BK295.out (by decide)) (fun _ hk => hk.2)) (fun _ h_ => h_.1)))); (case side2 => exact (Kd.R_reads' HO288.out).2.1); (case side3 => refine (Kd.R_reads' (e := 63) (base := w.heap.size) (ok := fun k_ => ((((some k_ ≠ (.slice Ao31 t286.length co31 : Value).ownBlock ∧ some k_ ≠ (.slice Ao18 t266.length co18 : Value).ownBlock) ∧ some k_ ≠ (.slice Ao19 t269.length co19 : Value).ownBlock) ∧ some k_ ≠ (.slice Ao23 t275.length co23 : Value).ownBlock) ∧ some k_ ≠ (.slice Ao26 t278.length co26 : Value).ownBlock)) (n := t289.length) (c := co35) ?_).2.2; exact (by (with_reducible repeat (first | apply Kd.R_alloc | apply Kd.R_drewN | apply Kd.R_drew)); exact (Kd.R_mono (Kd.R_far3 (g := gb295) (Kd.R_types HO291.out BK295.out (by decide)) (fun _ hk => hk.2)) (fun _ h_ => h_.1)))); (case side4 => exact (Kd.R_reads' HO291.out).2.1); (case side5 => refine (Kd.R_reads' (e := 73) (base := w.heap.size) (ok := fun k_ => ((True ∧ some k_ ≠ (.slice Ao20 t272.length co20 : Value).ownBlock) ∧ some k_ ≠ (.slice Ao27 t281.length co27 : Value).ownBlock)) (n := t292.length) (c := co36) ?_).2.2; exact (by (with_reducible repeat (first | apply Kd.R_alloc | apply Kd.R_drewN | apply Kd.R_drew)); exact (Kd.R_mono (Kd.R_far3 (g := gb295) (Kd.R_types HO294.out BK295.out (by decide)) (fun _ hk => hk.2)) (fun _ h_ => h_.1)))); (case side6 => exact (Kd.R_reads' HO294.out).2.1); rintro e w37 ⟨v297, v300, v303, rfl, ho0, ho1, ho2, hb⟩; refine ⟨_, rfl, ?_⟩; have n0_ := Aside0.mk (Kd.R_mono (Kd.R_told (Kd.R_told (Kd.R_old (by (with_reducible repeat (first | apply Kd.R_alloc | apply Kd.R_drewN | apply Kd.R_drew)); exact (Kd.R_mono (Kd.R_far3 (g := gb295) (Kd.R_types HO268.out BK295.out (by decide)) (fun _ hk => hk.2)) (fun _ h_ => h_.1))) hb) (Kd.R_base ho0)) (Kd.R_base ho1)) (fun _ h_ => h_.1)); have n1_ := Aside0.mk (Kd.R_mono (Kd.R_told (Kd.R_told (Kd.R_old (by (with_reducible repeat (first | apply Kd.R_alloc | apply Kd.R_drewN | apply Kd.R_drew)); exact (Kd.R_mono (Kd.R_far3 (g := gb295) (Kd.R_types HO271.out BK295.out (by decide)) (fun _ hk => hk.2)) (fun _ h_ => h_.1))) hb) (Kd.R_base ho0)) (Kd.R_base ho1)) (fun _ h_ => h_.1)); have n2_ := Aside0.mk (Kd.R_elder' (by (with_reducible repeat (first | apply Kd.R_alloc | apply Kd.R_drewN | apply Kd.R_drew)); exact (Kd.R_mono (Kd.R_far3 (g := gb295) (Kd.R_types HO274.out BK295.out (by decide)) (fun _ hk => hk.2)) (fun _ h_ => h_.1))) (Kd.R_base ho2) hb); have n3_ := Aside0.mk (Kd.R_mono (Kd.R_told (Kd.R_told (Kd.R_old (by (with_reducible repeat (first | apply Kd.R_alloc | apply Kd.R_drewN | apply Kd.R_drew)); exact (Kd.R_mono (Kd.R_far3 (g := gb295) (Kd.R_types HO277.out BK295.out (by decide)) (fun _ hk => hk.2)) (fun _ h_ => h_.1))) hb) (Kd.R_base ho0)) (Kd.R_base ho1)) (fun _ h_ => h_.1)); have n4_ := Aside0.mk (Kd.R_mono (Kd.R_told (Kd.R_told (Kd.R_old (by (with_reducible repeat (first | apply Kd.R_alloc | apply Kd.R_drewN | apply Kd.R_drew)); exact (Kd.R_mono (Kd.R_far3 (g := gb295) (Kd.R_types HO280.out BK295.out (by decide)) (fun _ hk => hk.2)) (fun _ h_ => h_.1))) hb) (Kd.R_base ho0)) (Kd.R_base ho1)) (fun _ h_ => h_.1)); have n5_ := Aside0.mk (Kd.R_elder' (by (with_reducible repeat (first | apply Kd.R_alloc | apply Kd.R_drewN | apply Kd.R_drew)); exact (Kd.R_mono (Kd.R_far3 (g := gb295) (Kd.R_types HO283.out BK295.out (by decide)) (fun _ hk => hk.2)) (fun _ h_ => h_.1))) (Kd.R_base ho2) hb); have n6_ := Aside0.mk (Kd.R_mono (Kd.R_told (Kd.R_told (Kd.R_old (by (with_reducible repeat (first | apply Kd.R_alloc | apply Kd.R_drewN | apply Kd.R_drew)); exact (Kd.R_mono (Kd.R_far3 (g := gb295) (Kd.R_types HO288.out BK295.out (by decide)) (fun _ hk => hk.2)) (fun _ h_ => h_.1))) hb) (Kd.R_base ho0)) (Kd.R_base ho1)) (fun _ h_ => h_.1)); have n7_ := Aside0.mk (Kd.R_mono (Kd.R_told (Kd.R_told (Kd.R_old (by (with_reducible repeat (first | apply Kd.R_alloc | apply Kd.R_drewN | apply Kd.R_drew)); exact (Kd.R_mono (Kd.R_far3 (g := gb295) (Kd.R_types HO291.out BK295.out (by decide)) (fun _ hk => hk.2)) (fun _ h_ => h_.1))) hb) (Kd.R_base ho0)) (Kd.R_base ho1)) (fun _ h_ => h_.1)); have n8_ := Aside0.mk (Kd.R_elder' (by (with_reducible repeat (first | apply Kd.R_alloc | apply Kd.R_drewN | apply Kd.R_drew)); exact (Kd.R_mono (Kd.R_far3 (g := gb295) (Kd.R_types HO294.out BK295.out (by decide)) (fun _ hk => hk.2)) (fun _ h_ => h_.1))) (Kd.R_base ho2) hb); have n9_ := Aside0.mk (Kd.R_lower (Kd.R_new' (Kd.R_new' (Kd.R_new' (Kd.R_new' (Kd.R_new' (Kd.R_new' ho0 (Kd.R_lt (by (with_reducible repeat (first | apply Kd.R_alloc | apply Kd.R_drewN | apply Kd.R_drew)); exact (Kd.R_mono (Kd.R_far3 (g := gb295) (Kd.R_types HO268.out BK295.out (by decide)) (fun _ hk => hk.2)) (fun _ h_ => h_.1))))) (Kd.R_lt (by (with_reducible repeat (first | apply Kd.R_alloc | apply Kd.R_drewN | apply Kd.R_drew)); exact (Kd.R_mono (Kd.R_far3 (g := gb295) (Kd.R_types HO271.out BK295.out (by decide)) (fun _ hk => hk.2)) (fun _ h_ => h_.1))))) (Kd.R_lt (by (with_reducible repeat (first | apply Kd.R_alloc | apply Kd.R_drewN | apply Kd.R_drew)); exact (Kd.R_mono (Kd.R_far3 (g := gb295) (Kd.R_types HO277.out BK295.out (by decide)) (fun _ hk => hk.2)) (fun _ h_ => h_.1))))) (Kd.R_lt (by (with_reducible repeat (first | apply Kd.R_alloc | apply Kd.R_drewN | apply Kd.R_drew)); exact (Kd.R_mono (Kd.R_far3 (g := gb295) (Kd.R_types HO280.out BK295.out (by decide)) (fun _ hk => hk.2)) (fun _ h_ => h_.1))))) (Kd.R_lt (by (with_reducible repeat (first | apply Kd.R_alloc | apply Kd.R_drewN | apply Kd.R_drew)); exact (Kd.R_mono (Kd.R_far3 (g := gb295) (Kd.R_types HO288.out BK295.out (by decide)) (fun _ hk => hk.2)) (fun _ h_ => h_.1))))) (Kd.R_lt (by (with_reducible repeat (first | apply Kd.R_alloc | apply Kd.R_drewN | apply Kd.R_drew)); exact (Kd.R_mono (Kd.R_far3 (g := gb295) (Kd.R_types HO291.out BK295.out (by decide)) (fun _ hk => hk.2)) (fun _ h_ => h_.1))))) (below_size (by repeat (first | (with_reducible first | exact HB.out | apply below_alloc | apply pw_below_drewN | apply below_drew1 | refine below_set ?_ GE295.out) | exact HB.out)))); have n10_ := Aside0.mk (Kd.R_lower (Kd.R_new' (Kd.R_new' (Kd.R_new' (Kd.R_new' (Kd.R_new' (Kd.R_new' ho1 (Kd.R_lt (by (with_reducible repeat (first | apply Kd.R_alloc | apply Kd.R_drewN | apply Kd.R_drew)); exact (Kd.R_mono (Kd.R_far3 (g := gb295) (Kd.R_types HO268.out BK295.out (by decide)) (fun _ hk => hk.2)) (fun _ h_ => h_.1))))) (Kd.R_lt (by (with_reducible repeat (first | apply Kd.R_alloc | apply Kd.R_drewN | apply Kd.R_drew)); exact (Kd.R_mono (Kd.R_far3 (g := gb295) (Kd.R_types HO271.out BK295.out (by decide)) (fun _ hk => hk.2)) (fun _ h_ => h_.1))))) (Kd.R_lt (by (with_reducible repeat (first | apply Kd.R_alloc | apply Kd.R_drewN | apply Kd.R_drew)); exact (Kd.R_mono (Kd.R_far3 (g := gb295) (Kd.R_types HO277.out BK295.out (by decide)) (fun _ hk => hk.2)) (fun _ h_ => h_.1))))) (Kd.R_lt (by (with_reducible repeat (first | apply Kd.R_alloc | apply Kd.R_drewN | apply Kd.R_drew)); exact (Kd.R_mono (Kd.R_far3 (g := gb295) (Kd.R_types HO280.out BK295.out (by decide)) (fun _ hk => hk.2)) (fun _ h_ => h_.1))))) (Kd.R_lt (by (with_reducible repeat (first | apply Kd.R_alloc | apply Kd.R_drewN | apply Kd.R_drew)); exact (Kd.R_mono (Kd.R_far3 (g := gb295) (Kd.R_types HO288.out BK295.out (by decide)) (fun _ hk => hk.2)) (fun _ h_ => h_.1))))) (Kd.R_lt (by (with_reducible repeat (first | apply Kd.R_alloc | apply Kd.R_drewN | apply Kd.R_drew)); exact (Kd.R_mono (Kd.R_far3 (g := gb295) (Kd.R_types HO291.out BK295.out (by decide)) (fun _ hk => hk.2)) (fun _ h_ => h_.1))))) (below_size (by repeat (first | (with_reducible first | exact HB.out | apply below_alloc | apply pw_below_drewN | apply below_drew1 | refine below_set ?_ GE295.out) | exact HB.out)))); have n11_ := Aside0.mk (Kd.R_lower (Kd.R_new' (Kd.R_new' (Kd.R_new' ho2 (Kd.R_lt (by (with_reducible repeat (first | apply Kd.R_alloc | apply Kd.R_drewN | apply Kd.R_drew)); exact (Kd.R_mono (Kd.R_far3 (g := gb295) (Kd.R_types HO274.out BK295.out (by decide)) (fun _ hk => hk.2)) (fun _ h_ => h_.1))))) (Kd.R_lt (by (with_reducible repeat (first | apply Kd.R_alloc | apply Kd.R_drewN | apply Kd.R_drew)); exact (Kd.R_mono (Kd.R_far3 (g := gb295) (Kd.R_types HO283.out BK295.out (by decide)) (fun _ hk => hk.2)) (fun _ h_ => h_.1))))) (Kd.R_lt (by (with_reducible repeat (first | apply Kd.R_alloc | apply Kd.R_drewN | apply Kd.R_drew)); exact (Kd.R_mono (Kd.R_far3 (g := gb295) (Kd.R_types HO294.out BK295.out (by decide)) (fun _ hk => hk.2)) (fun _ h_ => h_.1))))) (below_size (by repeat (first | (with_reducible first | exact HB.out | apply below_alloc | apply pw_below_drewN | apply below_drew1 | refine below_set ?_ GE295.out) | exact HB.out)))); have n12_ := Aside0.mk (blk_below (g := gb264) (o := .cells #[.slice A0_0 l0_0.length c0_0, .slice A0_1 l0_1.length c0_1, .slice A0_2 l0_2.length c0_2] 45 (0, 0)) (by (with_reducible repeat (first | refine blk_drewN ?_ _ | refine blk_drew ?_ | refine blk_alloc ?_ _)); refine blk_far3 ?_ NB264_295.out; (with_reducible repeat (first | refine blk_drewN ?_ _ | refine blk_drew ?_ | refine blk_alloc ?_ _)); exact BK264.out) hb); have n13_ := Aside0.mk (blk_below (g := gb285) (o := .cells #[.slice Ao23 t275.length co23, .slice Ao26 t278.length co26, .slice Ao27 t281.length co27] 27 (0, 0)) (by (with_reducible repeat (first | refine blk_drewN ?_ _ | refine blk_drew ?_ | refine blk_alloc ?_ _)); refine blk_far3 ?_ NB285_295.out; (with_reducible repeat (first | refine blk_drewN ?_ _ | refine blk_drew ?_ | refine blk_alloc ?_ _)); exact BK285.out) hb); have n14_ := Aside0.mk (blk_below (g := gb295) (o := .cells #[.slice Ao31 t286.length co31, .slice Ao35 t289.length co35, .slice Ao36 t292.length co36] 27 (0, 0)) (by (with_reducible repeat (first | refine blk_drewN ?_ _ | refine blk_drew ?_ | refine blk_alloc ?_ _)); refine blk_put3 (cs := #[.slice none 0 0, .slice none 0 0, .slice none 0 0]) ?_ rfl; (with_reducible repeat (first | refine blk_drewN ?_ _ | refine blk_drew ?_ | refine blk_alloc ?_ _)); exact BK295.out) hb); have n15_ := Aside0.mk (below_step (by repeat (first | (with_reducible first | exact HB.out | apply below_alloc | apply pw_below_drewN | apply below_drew1 | refine below_set ?_ GE295.out) | exact HB.out)) hb); clear HO268; clear HO271; clear HO274; clear HO277; clear HO280; clear HO283; clear HO288; clear HO291; clear HO294; clear BK264; clear BK285; clear BK295; clear HB; have HO268 := n0_; have HO271 := n1_; have HO274 := n2_; have HO277 := n3_; have HO280 := n4_; have HO283 := n5_; have HO288 := n6_; have HO291 := n7_; have HO294 := n8_; have HO298 := n9_; have HO301 := n10_; have HO304 := n11_; have BK264 := n12_; have BK285 := n13_; have BK295 := n14_; have HB := n15_; clear n0_ n1_ n2_ n3_ n4_ n5_ n6_ n7_ n8_ n9_ n10_ n11_ n12_ n13_ n14_ n15_; (try clear hb); (try clear hb2); (try clear hk); (try clear hi); (try clear ho0); (try clear ho1); (try clear ho2)) | ((with_reducible refine gate_dst (N := 9) rfl ?_); refine bx_ 9 #[.slice none 0 0, .slice none 0 0, .slice none 0 0] 27 ?_; intro gb306 hg w38 hbox hb; have GW306 := b6_ hg HB; have GE306 := b6_ hg HB; have NB264_306 := b4_ hg BK264; have NB306_264 := b5_ hg BK264; have NB285_306 := b4_ hg BK285; have NB306_285 := b5_ hg BK285; have NB295_306 := b4_ hg BK295; have NB306_295 := b5_ hg BK295; replace HO268 := r1_ HO268 hb; replace HO271 := r1_ HO271 hb; replace HO274 := r1_ HO274 hb; replace HO277 := r1_ HO277 hb; replace HO280 := r1_ HO280 hb; replace HO283 := r1_ HO283 hb; replace HO288 := r1_ HO288 hb; replace HO291 := r1_ HO291 hb; replace HO294 := r1_ HO294 hb; replace HO298 := r1_ HO298 hb; replace HO301 := r1_ HO301 hb; replace HO304 := r1_ HO304 hb; replace BK264 := b3_ BK264 hb; replace BK285 := b3_ BK285 hb; replace BK295 := b3_ BK295 hb; replace HB := Aside0.mk (below_step (y1_ HB.out) hb); have BK306 := Aside0.mk (hbox); clear hb hbox hg; obtain ⟨Ao39, co39, eo39⟩ := Kd.R_slice HO298.out; subst eo39; have hnb40 := NB306_264.out; have hnc40 := NB264_306.out; have hnb41 := NB306_285.out; have hnc41 := NB285_306.out; have hnb42 := NB306_295.out; have hnc42 := NB295_306.out; have hcz43_0 := c1_ BK306 0 (.slice none 0 0); have hcz43_1 := c1_ BK306 1 (.slice none 0 0); have hcz43_2 := c1_ BK306 2 (.slice none 0 0); have hfz43_0 := f1_ BK306 0; have hfz43_1 := f1_ BK306 1; have hfz43_2 := f1_ BK306 2; obtain ⟨Ao44, co44, eo44⟩ := Kd.R_slice HO301.out; subst eo44; obtain ⟨Ao45, co45, eo45⟩ := Kd.R_slice HO304.out; subst eo45))
 (try simp only [Act.put, List.setIfInBounds_toArray, List.set_cons_zero, List.set_cons_succ])
 go_cut [44] (fun v44 wc => ∃ (kq : Nat) (x44_11 : Bool), v44 = .bool x44_11 ∧ Aside0 (laws_FnExactSweepPresence.j0 kq a1 t284 t305 x44_11 l0_0 l0_1 l0_2 t275 t278 t281 t286 t289 t292 t296 t299 t302 = some r) ∧ Aside0 (kq ≤ k) ∧ Aside0 (Kd.R k63 63 wc w.heap.size (fun k_ => some k_ ≠ ((.slice Ao26 t278.length co26) : Value).ownBlock ∧ some k_ ≠ ((.slice Ao31 t286.length co31) : Value).ownBlock ∧ some k_ ≠ ((.slice Ao35 t289.length co35) : Value).ownBlock ∧ some k_ ≠ ((.slice Ao39 t296.length co39) : Value).ownBlock ∧ some k_ ≠ ((.slice Ao44 t299.length co44) : Value).ownBlock) (.slice Ao23 t275.length co23) t275) ∧ Aside0 (Kd.R k63 63 wc w.heap.size (fun k_ => some k_ ≠ ((.slice Ao23 t275.length co23) : Value).ownBlock ∧ some k_ ≠ ((.slice Ao31 t286.length co31) : Value).ownBlock ∧ some k_ ≠ ((.slice Ao35 t289.length co35) : Value).ownBlock ∧ some k_ ≠ ((.slice Ao39 t296.length co39) : Value).ownBlock ∧ some k_ ≠ ((.slice Ao44 t299.length co44) : Value).ownBlock) (.slice Ao26 t278.length co26) t278) ∧ Aside0 (Kd.R k73 73 wc w.heap.size (fun k_ => some k_ ≠ ((.slice Ao36 t292.length co36) : Value).ownBlock ∧ some k_ ≠ ((.slice Ao45 t302.length co45) : Value).ownBlock) (.slice Ao27 t281.length co27) t281) ∧ Aside0 (Kd.R k63 63 wc w.heap.size (fun k_ => some k_ ≠ ((.slice Ao23 t275.length co23) : Value).ownBlock ∧ some k_ ≠ ((.slice Ao26 t278.length co26) : Value).ownBlock ∧ some k_ ≠ ((.slice Ao35 t289.length co35) : Value).ownBlock ∧ some k_ ≠ ((.slice Ao39 t296.length co39) : Value).ownBlock ∧ some k_ ≠ ((.slice Ao44 t299.length co44) : Value).ownBlock) (.slice Ao31 t286.length co31) t286) ∧ Aside0 (Kd.R k63 63 wc w.heap.size (fun k_ => some k_ ≠ ((.slice Ao23 t275.length co23) : Value).ownBlock ∧ some k_ ≠ ((.slice Ao26 t278.length co26) : Value).ownBlock ∧ some k_ ≠ ((.slice Ao31 t286.length co31) : Value).ownBlock ∧ some k_ ≠ ((.slice Ao39 t296.length co39) : Value).ownBlock ∧ some k_ ≠ ((.slice Ao44 t299.length co44) : Value).ownBlock) (.slice Ao35 t289.length co35) t289) ∧ Aside0 (Kd.R k73 73 wc w.heap.size (fun k_ => some k_ ≠ ((.slice Ao27 t281.length co27) : Value).ownBlock ∧ some k_ ≠ ((.slice Ao45 t302.length co45) : Value).ownBlock) (.slice Ao36 t292.length co36) t292) ∧ Aside0 (Kd.R k63 63 wc w.heap.size (fun k_ => some k_ ≠ ((.slice Ao23 t275.length co23) : Value).ownBlock ∧ some k_ ≠ ((.slice Ao26 t278.length co26) : Value).ownBlock ∧ some k_ ≠ ((.slice Ao31 t286.length co31) : Value).ownBlock ∧ some k_ ≠ ((.slice Ao35 t289.length co35) : Value).ownBlock ∧ some k_ ≠ ((.slice Ao44 t299.length co44) : Value).ownBlock) (.slice Ao39 t296.length co39) t296) ∧ Aside0 (Kd.R k63 63 wc w.heap.size (fun k_ => some k_ ≠ ((.slice Ao23 t275.length co23) : Value).ownBlock ∧ some k_ ≠ ((.slice Ao26 t278.length co26) : Value).ownBlock ∧ some k_ ≠ ((.slice Ao31 t286.length co31) : Value).ownBlock ∧ some k_ ≠ ((.slice Ao35 t289.length co35) : Value).ownBlock ∧ some k_ ≠ ((.slice Ao39 t296.length co39) : Value).ownBlock) (.slice Ao44 t299.length co44) t299) ∧ Aside0 (Kd.R k73 73 wc w.heap.size (fun k_ => some k_ ≠ ((.slice Ao27 t281.length co27) : Value).ownBlock ∧ some k_ ≠ ((.slice Ao36 t292.length co36) : Value).ownBlock) (.slice Ao45 t302.length co45) t302) ∧ Aside0 (wc.heap[gb264]? = some (.cells #[(.slice A0_0 l0_0.length c0_0), (.slice A0_1 l0_1.length c0_1), (.slice A0_2 l0_2.length c0_2)] 45 (0, 0))) ∧ Aside0 (wc.heap[gb285]? = some (.cells #[(.slice Ao23 t275.length co23), (.slice Ao26 t278.length co26), (.slice Ao27 t281.length co27)] 27 (0, 0))) ∧ Aside0 (wc.heap[gb295]? = some (.cells #[(.slice Ao31 t286.length co31), (.slice Ao35 t289.length co35), (.slice Ao36 t292.length co36)] 27 (0, 0))) ∧ Aside0 (wc.heap[gb306]? = some (.cells #[(.slice Ao39 t296.length co39), (.slice Ao44 t299.length co44), (.slice Ao45 t302.length co45)] 27 (0, 0))) ∧ Aside0 (Below w.heap.size w wc))
 case first =>
  as_aux_lemma =>
   skip
   {
 have H := HC12.out
 clear HC12
 replace H := Option.bind_eq_some_iff.mp H
 obtain ⟨t307, A460, H⟩ := H
 replace H : (if t307 = true then (laws_FnExactSweepPresence.j0 k a1 t284 t305 (t305 != t284) l0_0 l0_1 l0_2 t275 t278 t281 t286 t289 t292 t296 t299 t302) else (laws_FnExactSweepPresence.j0 k a1 t284 t305 true l0_0 l0_1 l0_2 t275 t278 t281 t286 t289 t292 t296 t299 t302)) = some r := H
 have A46 := Aside0.mk A460
 clear A460
 by_cases c47 : t307 = true
 {
 subst c47
 have H1 : (laws_FnExactSweepPresence.j0 k a1 t284 t305 (t305 != t284) l0_0 l0_1 l0_2 t275 t278 t281 t286 t289 t292 t296 t299 t302) = some r := by rw [if_pos rfl] at H; exact H
 clear H
 have H := H1
 clear H1
 have H' := Aside0.mk H
 clear H
 have hnb48 := NB306_264.out
 have hnc48 := NB264_306.out
 have hnb49 := NB306_285.out
 have hnc49 := NB285_306.out
 have hnb50 := NB306_295.out
 have hnc50 := NB295_306.out
 have hcz51_0 := c1_ BK306 0 (.slice none 0 0)
 have hcz51_1 := c1_ BK306 1 (.slice none 0 0)
 have hcz51_2 := c1_ BK306 2 (.slice none 0 0)
 have hfz51_0 := f1_ BK306 0
 have hfz51_1 := f1_ BK306 1
 have hfz51_2 := f1_ BK306 2
 have hnb52 := NB285_264.out
 have hnc52 := NB264_285.out
 have hnb53 := NB285_295.out
 have hnc53 := NB295_285.out
 have hcz54_0 := c1_ BK285 0 (.slice Ao23 t275.length co23)
 have hcz54_1 := c1_ BK285 1 (.slice Ao26 t278.length co26)
 have hcz54_2 := c1_ BK285 2 (.slice Ao27 t281.length co27)
 have hfz54_0 := f1_ BK285 0
 have hfz54_1 := f1_ BK285 1
 have hfz54_2 := f1_ BK285 2
 go_wp2_with (first | ((with_reducible refine gate_callee (f := 27) rfl ?_); refine goesL_ (some 38) rfl rfl Try.func27 s2_ rfl #[.agg #[.slice Ao39 t296.length co39, .slice Ao44 t299.length co44, .slice Ao45 t302.length co45], .agg #[.slice Ao23 t275.length co23, .slice Ao26 t278.length co26, .slice Ao27 t281.length co27]] rfl s3_ ?_; (with_reducible refine (laws_eqPresence.calls k _ _ t296 _ _ t299 _ _ t302 _ _ t275 _ _ t278 _ _ t281 true _ ?side1 ?side2 ?side3 ?side4 ?side5 ?side6 ?side7 ?side8 ?side9 ?side10 ?side11 ?side12 A46.out).mono ?_); (case side1 => refine (Kd.R_reads' (e := 63) (base := w.heap.size) (ok := fun k_ => ((((((some k_ ≠ (.slice Ao44 t299.length co44 : Value).ownBlock ∧ some k_ ≠ (.slice Ao18 t266.length co18 : Value).ownBlock) ∧ some k_ ≠ (.slice Ao19 t269.length co19 : Value).ownBlock) ∧ some k_ ≠ (.slice Ao23 t275.length co23 : Value).ownBlock) ∧ some k_ ≠ (.slice Ao26 t278.length co26 : Value).ownBlock) ∧ some k_ ≠ (.slice Ao31 t286.length co31 : Value).ownBlock) ∧ some k_ ≠ (.slice Ao35 t289.length co35 : Value).ownBlock)) (n := t296.length) (c := co39) ?_).2.2; exact (by (with_reducible repeat (first | apply Kd.R_alloc | apply Kd.R_drewN | apply Kd.R_drew)); exact (Kd.R_mono (Kd.R_far3 (g := gb306) (Kd.R_types HO298.out BK306.out (by decide)) (fun _ hk => hk.2)) (fun _ h_ => h_.1)))); (case side2 => exact (Kd.R_reads' HO298.out).2.1); (case side3 => refine (Kd.R_reads' (e := 63) (base := w.heap.size) (ok := fun k_ => ((((((some k_ ≠ (.slice Ao39 t296.length co39 : Value).ownBlock ∧ some k_ ≠ (.slice Ao18 t266.length co18 : Value).ownBlock) ∧ some k_ ≠ (.slice Ao19 t269.length co19 : Value).ownBlock) ∧ some k_ ≠ (.slice Ao23 t275.length co23 : Value).ownBlock) ∧ some k_ ≠ (.slice Ao26 t278.length co26 : Value).ownBlock) ∧ some k_ ≠ (.slice Ao31 t286.length co31 : Value).ownBlock) ∧ some k_ ≠ (.slice Ao35 t289.length co35 : Value).ownBlock)) (n := t299.length) (c := co44) ?_).2.2; exact (by (with_reducible repeat (first | apply Kd.R_alloc | apply Kd.R_drewN | apply Kd.R_drew)); exact (Kd.R_mono (Kd.R_far3 (g := gb306) (Kd.R_types HO301.out BK306.out (by decide)) (fun _ hk => hk.2)) (fun _ h_ => h_.1)))); (case side4 => exact (Kd.R_reads' HO301.out).2.1); (case side5 => refine (Kd.R_reads' (e := 73) (base := w.heap.size) (ok := fun k_ => (((True ∧ some k_ ≠ (.slice Ao20 t272.length co20 : Value).ownBlock) ∧ some k_ ≠ (.slice Ao27 t281.length co27 : Value).ownBlock) ∧ some k_ ≠ (.slice Ao36 t292.length co36 : Value).ownBlock)) (n := t302.length) (c := co45) ?_).2.2; exact (by (with_reducible repeat (first | apply Kd.R_alloc | apply Kd.R_drewN | apply Kd.R_drew)); exact (Kd.R_mono (Kd.R_far3 (g := gb306) (Kd.R_types HO304.out BK306.out (by decide)) (fun _ hk => hk.2)) (fun _ h_ => h_.1)))); (case side6 => exact (Kd.R_reads' HO304.out).2.1); (case side7 => refine (Kd.R_reads' (e := 63) (base := w.heap.size) (ok := fun k_ => ((((((some k_ ≠ (.slice Ao26 t278.length co26 : Value).ownBlock ∧ some k_ ≠ (.slice Ao18 t266.length co18 : Value).ownBlock) ∧ some k_ ≠ (.slice Ao19 t269.length co19 : Value).ownBlock) ∧ some k_ ≠ (.slice Ao31 t286.length co31 : Value).ownBlock) ∧ some k_ ≠ (.slice Ao35 t289.length co35 : Value).ownBlock) ∧ some k_ ≠ (.slice Ao39 t296.length co39 : Value).ownBlock) ∧ some k_ ≠ (.slice Ao44 t299.length co44 : Value).ownBlock)) (n := t275.length) (c := co23) ?_).2.2; exact (by (with_reducible repeat (first | apply Kd.R_alloc | apply Kd.R_drewN | apply Kd.R_drew)); exact (Kd.R_mono (Kd.R_far3 (g := gb306) (Kd.R_types HO277.out BK306.out (by decide)) (fun _ hk => hk.2)) (fun _ h_ => h_.1)))); (case side8 => exact (Kd.R_reads' HO277.out).2.1); (case side9 => refine (Kd.R_reads' (e := 63) (base := w.heap.size) (ok := fun k_ => ((((((some k_ ≠ (.slice Ao23 t275.length co23 : Value).ownBlock ∧ some k_ ≠ (.slice Ao18 t266.length co18 : Value).ownBlock) ∧ some k_ ≠ (.slice Ao19 t269.length co19 : Value).ownBlock) ∧ some k_ ≠ (.slice Ao31 t286.length co31 : Value).ownBlock) ∧ some k_ ≠ (.slice Ao35 t289.length co35 : Value).ownBlock) ∧ some k_ ≠ (.slice Ao39 t296.length co39 : Value).ownBlock) ∧ some k_ ≠ (.slice Ao44 t299.length co44 : Value).ownBlock)) (n := t278.length) (c := co26) ?_).2.2; exact (by (with_reducible repeat (first | apply Kd.R_alloc | apply Kd.R_drewN | apply Kd.R_drew)); exact (Kd.R_mono (Kd.R_far3 (g := gb306) (Kd.R_types HO280.out BK306.out (by decide)) (fun _ hk => hk.2)) (fun _ h_ => h_.1)))); (case side10 => exact (Kd.R_reads' HO280.out).2.1); (case side11 => refine (Kd.R_reads' (e := 73) (base := w.heap.size) (ok := fun k_ => (((True ∧ some k_ ≠ (.slice Ao20 t272.length co20 : Value).ownBlock) ∧ some k_ ≠ (.slice Ao36 t292.length co36 : Value).ownBlock) ∧ some k_ ≠ (.slice Ao45 t302.length co45 : Value).ownBlock)) (n := t281.length) (c := co27) ?_).2.2; exact (by (with_reducible repeat (first | apply Kd.R_alloc | apply Kd.R_drewN | apply Kd.R_drew)); exact (Kd.R_mono (Kd.R_far3 (g := gb306) (Kd.R_types HO283.out BK306.out (by decide)) (fun _ hk => hk.2)) (fun _ h_ => h_.1)))); (case side12 => exact (Kd.R_reads' HO283.out).2.1); rintro e w55 ⟨rfl, hb⟩; refine ⟨_, rfl, ?_⟩; replace HO268 := Aside0.mk (Kd.R_below (by (with_reducible repeat (first | apply Kd.R_alloc | apply Kd.R_drewN | apply Kd.R_drew)); exact (Kd.R_mono (Kd.R_far3 (g := gb306) (Kd.R_types HO268.out BK306.out (by decide)) (fun _ hk => hk.2)) (fun _ h_ => h_.1))) hb); replace HO271 := Aside0.mk (Kd.R_below (by (with_reducible repeat (first | apply Kd.R_alloc | apply Kd.R_drewN | apply Kd.R_drew)); exact (Kd.R_mono (Kd.R_far3 (g := gb306) (Kd.R_types HO271.out BK306.out (by decide)) (fun _ hk => hk.2)) (fun _ h_ => h_.1))) hb); replace HO274 := Aside0.mk (Kd.R_below (by (with_reducible repeat (first | apply Kd.R_alloc | apply Kd.R_drewN | apply Kd.R_drew)); exact (Kd.R_mono (Kd.R_far3 (g := gb306) (Kd.R_types HO274.out BK306.out (by decide)) (fun _ hk => hk.2)) (fun _ h_ => h_.1))) hb); replace HO277 := Aside0.mk (Kd.R_below (by (with_reducible repeat (first | apply Kd.R_alloc | apply Kd.R_drewN | apply Kd.R_drew)); exact (Kd.R_mono (Kd.R_far3 (g := gb306) (Kd.R_types HO277.out BK306.out (by decide)) (fun _ hk => hk.2)) (fun _ h_ => h_.1))) hb); replace HO280 := Aside0.mk (Kd.R_below (by (with_reducible repeat (first | apply Kd.R_alloc | apply Kd.R_drewN | apply Kd.R_drew)); exact (Kd.R_mono (Kd.R_far3 (g := gb306) (Kd.R_types HO280.out BK306.out (by decide)) (fun _ hk => hk.2)) (fun _ h_ => h_.1))) hb); replace HO283 := Aside0.mk (Kd.R_below (by (with_reducible repeat (first | apply Kd.R_alloc | apply Kd.R_drewN | apply Kd.R_drew)); exact (Kd.R_mono (Kd.R_far3 (g := gb306) (Kd.R_types HO283.out BK306.out (by decide)) (fun _ hk => hk.2)) (fun _ h_ => h_.1))) hb); replace HO288 := Aside0.mk (Kd.R_below (by (with_reducible repeat (first | apply Kd.R_alloc | apply Kd.R_drewN | apply Kd.R_drew)); exact (Kd.R_mono (Kd.R_far3 (g := gb306) (Kd.R_types HO288.out BK306.out (by decide)) (fun _ hk => hk.2)) (fun _ h_ => h_.1))) hb); replace HO291 := Aside0.mk (Kd.R_below (by (with_reducible repeat (first | apply Kd.R_alloc | apply Kd.R_drewN | apply Kd.R_drew)); exact (Kd.R_mono (Kd.R_far3 (g := gb306) (Kd.R_types HO291.out BK306.out (by decide)) (fun _ hk => hk.2)) (fun _ h_ => h_.1))) hb); replace HO294 := Aside0.mk (Kd.R_below (by (with_reducible repeat (first | apply Kd.R_alloc | apply Kd.R_drewN | apply Kd.R_drew)); exact (Kd.R_mono (Kd.R_far3 (g := gb306) (Kd.R_types HO294.out BK306.out (by decide)) (fun _ hk => hk.2)) (fun _ h_ => h_.1))) hb); replace HO298 := Aside0.mk (Kd.R_below (by (with_reducible repeat (first | apply Kd.R_alloc | apply Kd.R_drewN | apply Kd.R_drew)); exact (Kd.R_mono (Kd.R_far3 (g := gb306) (Kd.R_types HO298.out BK306.out (by decide)) (fun _ hk => hk.2)) (fun _ h_ => h_.1))) hb); replace HO301 := Aside0.mk (Kd.R_below (by (with_reducible repeat (first | apply Kd.R_alloc | apply Kd.R_drewN | apply Kd.R_drew)); exact (Kd.R_mono (Kd.R_far3 (g := gb306) (Kd.R_types HO301.out BK306.out (by decide)) (fun _ hk => hk.2)) (fun _ h_ => h_.1))) hb); replace HO304 := Aside0.mk (Kd.R_below (by (with_reducible repeat (first | apply Kd.R_alloc | apply Kd.R_drewN | apply Kd.R_drew)); exact (Kd.R_mono (Kd.R_far3 (g := gb306) (Kd.R_types HO304.out BK306.out (by decide)) (fun _ hk => hk.2)) (fun _ h_ => h_.1))) hb); replace BK264 := Aside0.mk (blk_below (g := gb264) (o := .cells #[.slice A0_0 l0_0.length c0_0, .slice A0_1 l0_1.length c0_1, .slice A0_2 l0_2.length c0_2] 45 (0, 0)) (by (with_reducible repeat (first | refine blk_drewN ?_ _ | refine blk_drew ?_ | refine blk_alloc ?_ _)); refine blk_far3 ?_ NB264_306.out; (with_reducible repeat (first | refine blk_drewN ?_ _ | refine blk_drew ?_ | refine blk_alloc ?_ _)); exact BK264.out) hb); replace BK285 := Aside0.mk (blk_below (g := gb285) (o := .cells #[.slice Ao23 t275.length co23, .slice Ao26 t278.length co26, .slice Ao27 t281.length co27] 27 (0, 0)) (by (with_reducible repeat (first | refine blk_drewN ?_ _ | refine blk_drew ?_ | refine blk_alloc ?_ _)); refine blk_far3 ?_ NB285_306.out; (with_reducible repeat (first | refine blk_drewN ?_ _ | refine blk_drew ?_ | refine blk_alloc ?_ _)); exact BK285.out) hb); replace BK295 := Aside0.mk (blk_below (g := gb295) (o := .cells #[.slice Ao31 t286.length co31, .slice Ao35 t289.length co35, .slice Ao36 t292.length co36] 27 (0, 0)) (by (with_reducible repeat (first | refine blk_drewN ?_ _ | refine blk_drew ?_ | refine blk_alloc ?_ _)); refine blk_far3 ?_ NB295_306.out; (with_reducible repeat (first | refine blk_drewN ?_ _ | refine blk_drew ?_ | refine blk_alloc ?_ _)); exact BK295.out) hb); replace BK306 := Aside0.mk (blk_below (g := gb306) (o := .cells #[.slice Ao39 t296.length co39, .slice Ao44 t299.length co44, .slice Ao45 t302.length co45] 27 (0, 0)) (by (with_reducible repeat (first | refine blk_drewN ?_ _ | refine blk_drew ?_ | refine blk_alloc ?_ _)); refine blk_put3 (cs := #[.slice none 0 0, .slice none 0 0, .slice none 0 0]) ?_ rfl; (with_reducible repeat (first | refine blk_drewN ?_ _ | refine blk_drew ?_ | refine blk_alloc ?_ _)); exact BK306.out) hb); replace HB := Aside0.mk (below_step (by repeat (first | (with_reducible first | exact HB.out | apply below_alloc | apply pw_below_drewN | apply below_drew1 | refine below_set ?_ GE306.out) | exact HB.out)) hb); (try clear hb); (try clear hb2); (try clear hk); (try clear hi)))
 go_meet
 case rel => exact ⟨_, ((t305 != t284)), s1_, H', ⟨by first | omega | exact Nat.le_refl _⟩, ⟨by (with_reducible repeat (first | apply Kd.R_alloc | apply Kd.R_drewN | apply Kd.R_drew)); exact Kd.R_mono HO277.out (fun _ hk => ⟨hk.1.1.1.1.1.1, ⟨hk.1.1.1.2, ⟨hk.1.1.2, ⟨hk.1.2, hk.2⟩⟩⟩⟩)⟩, ⟨by (with_reducible repeat (first | apply Kd.R_alloc | apply Kd.R_drewN | apply Kd.R_drew)); exact Kd.R_mono HO280.out (fun _ hk => ⟨hk.1.1.1.1.1.1, ⟨hk.1.1.1.2, ⟨hk.1.1.2, ⟨hk.1.2, hk.2⟩⟩⟩⟩)⟩, ⟨by (with_reducible repeat (first | apply Kd.R_alloc | apply Kd.R_drewN | apply Kd.R_drew)); exact Kd.R_mono HO283.out (fun _ hk => ⟨hk.1.2, hk.2⟩)⟩, ⟨by (with_reducible repeat (first | apply Kd.R_alloc | apply Kd.R_drewN | apply Kd.R_drew)); exact Kd.R_mono HO288.out (fun _ hk => ⟨hk.1.1.1.2, ⟨hk.1.1.2, ⟨hk.1.1.1.1.1.1, ⟨hk.1.2, hk.2⟩⟩⟩⟩)⟩, ⟨by (with_reducible repeat (first | apply Kd.R_alloc | apply Kd.R_drewN | apply Kd.R_drew)); exact Kd.R_mono HO291.out (fun _ hk => ⟨hk.1.1.1.2, ⟨hk.1.1.2, ⟨hk.1.1.1.1.1.1, ⟨hk.1.2, hk.2⟩⟩⟩⟩)⟩, ⟨by (with_reducible repeat (first | apply Kd.R_alloc | apply Kd.R_drewN | apply Kd.R_drew)); exact Kd.R_mono HO294.out (fun _ hk => ⟨hk.1.2, hk.2⟩)⟩, ⟨by (with_reducible repeat (first | apply Kd.R_alloc | apply Kd.R_drewN | apply Kd.R_drew)); exact Kd.R_mono HO298.out (fun _ hk => ⟨hk.1.1.1.2, ⟨hk.1.1.2, ⟨hk.1.2, ⟨hk.2, hk.1.1.1.1.1.1⟩⟩⟩⟩)⟩, ⟨by (with_reducible repeat (first | apply Kd.R_alloc | apply Kd.R_drewN | apply Kd.R_drew)); exact Kd.R_mono HO301.out (fun _ hk => ⟨hk.1.1.1.2, ⟨hk.1.1.2, ⟨hk.1.2, ⟨hk.2, hk.1.1.1.1.1.1⟩⟩⟩⟩)⟩, ⟨by (with_reducible repeat (first | apply Kd.R_alloc | apply Kd.R_drewN | apply Kd.R_drew)); exact Kd.R_mono HO304.out (fun _ hk => ⟨hk.1.2, hk.2⟩)⟩, ⟨b1_ BK264.out⟩, ⟨b1_ BK285.out⟩, ⟨b1_ BK295.out⟩, ⟨b1_ BK306.out⟩, ⟨by repeat (first | (with_reducible first | exact HB.out | apply below_alloc | apply pw_below_drewN | apply below_drew1) | exact HB.out)⟩⟩}
 {
 replace c47 := Bool.eq_false_iff.mpr c47
 subst c47
 have H1 : (laws_FnExactSweepPresence.j0 k a1 t284 t305 true l0_0 l0_1 l0_2 t275 t278 t281 t286 t289 t292 t296 t299 t302) = some r := by rw [if_neg (show ¬ (false = true) by decide)] at H; exact H
 clear H
 have H := H1
 clear H1
 have H' := Aside0.mk H
 clear H
 have hnb56 := NB306_264.out
 have hnc56 := NB264_306.out
 have hnb57 := NB306_285.out
 have hnc57 := NB285_306.out
 have hnb58 := NB306_295.out
 have hnc58 := NB295_306.out
 have hcz59_0 := c1_ BK306 0 (.slice none 0 0)
 have hcz59_1 := c1_ BK306 1 (.slice none 0 0)
 have hcz59_2 := c1_ BK306 2 (.slice none 0 0)
 have hfz59_0 := f1_ BK306 0
 have hfz59_1 := f1_ BK306 1
 have hfz59_2 := f1_ BK306 2
 have hnb60 := NB285_264.out
 have hnc60 := NB264_285.out
 have hnb61 := NB285_295.out
 have hnc61 := NB295_285.out
 have hcz62_0 := c1_ BK285 0 (.slice Ao23 t275.length co23)
 have hcz62_1 := c1_ BK285 1 (.slice Ao26 t278.length co26)
 have hcz62_2 := c1_ BK285 2 (.slice Ao27 t281.length co27)
 have hfz62_0 := f1_ BK285 0
 have hfz62_1 := f1_ BK285 1
 have hfz62_2 := f1_ BK285 2
 go_wp2_with (first | ((with_reducible refine gate_callee (f := 27) rfl ?_); refine goesL_ (some 38) rfl rfl Try.func27 s2_ rfl #[.agg #[.slice Ao39 t296.length co39, .slice Ao44 t299.length co44, .slice Ao45 t302.length co45], .agg #[.slice Ao23 t275.length co23, .slice Ao26 t278.length co26, .slice Ao27 t281.length co27]] rfl s3_ ?_; (with_reducible refine (laws_eqPresence.calls k _ _ t296 _ _ t299 _ _ t302 _ _ t275 _ _ t278 _ _ t281 false _ ?side1 ?side2 ?side3 ?side4 ?side5 ?side6 ?side7 ?side8 ?side9 ?side10 ?side11 ?side12 A46.out).mono ?_); (case side1 => refine (Kd.R_reads' (e := 63) (base := w.heap.size) (ok := fun k_ => ((((((some k_ ≠ (.slice Ao44 t299.length co44 : Value).ownBlock ∧ some k_ ≠ (.slice Ao18 t266.length co18 : Value).ownBlock) ∧ some k_ ≠ (.slice Ao19 t269.length co19 : Value).ownBlock) ∧ some k_ ≠ (.slice Ao23 t275.length co23 : Value).ownBlock) ∧ some k_ ≠ (.slice Ao26 t278.length co26 : Value).ownBlock) ∧ some k_ ≠ (.slice Ao31 t286.length co31 : Value).ownBlock) ∧ some k_ ≠ (.slice Ao35 t289.length co35 : Value).ownBlock)) (n := t296.length) (c := co39) ?_).2.2; exact (by (with_reducible repeat (first | apply Kd.R_alloc | apply Kd.R_drewN | apply Kd.R_drew)); exact (Kd.R_mono (Kd.R_far3 (g := gb306) (Kd.R_types HO298.out BK306.out (by decide)) (fun _ hk => hk.2)) (fun _ h_ => h_.1)))); (case side2 => exact (Kd.R_reads' HO298.out).2.1); (case side3 => refine (Kd.R_reads' (e := 63) (base := w.heap.size) (ok := fun k_ => ((((((some k_ ≠ (.slice Ao39 t296.length co39 : Value).ownBlock ∧ some k_ ≠ (.slice Ao18 t266.length co18 : Value).ownBlock) ∧ some k_ ≠ (.slice Ao19 t269.length co19 : Value).ownBlock) ∧ some k_ ≠ (.slice Ao23 t275.length co23 : Value).ownBlock) ∧ some k_ ≠ (.slice Ao26 t278.length co26 : Value).ownBlock) ∧ some k_ ≠ (.slice Ao31 t286.length co31 : Value).ownBlock) ∧ some k_ ≠ (.slice Ao35 t289.length co35 : Value).ownBlock)) (n := t299.length) (c := co44) ?_).2.2; exact (by (with_reducible repeat (first | apply Kd.R_alloc | apply Kd.R_drewN | apply Kd.R_drew)); exact (Kd.R_mono (Kd.R_far3 (g := gb306) (Kd.R_types HO301.out BK306.out (by decide)) (fun _ hk => hk.2)) (fun _ h_ => h_.1)))); (case side4 => exact (Kd.R_reads' HO301.out).2.1); (case side5 => refine (Kd.R_reads' (e := 73) (base := w.heap.size) (ok := fun k_ => (((True ∧ some k_ ≠ (.slice Ao20 t272.length co20 : Value).ownBlock) ∧ some k_ ≠ (.slice Ao27 t281.length co27 : Value).ownBlock) ∧ some k_ ≠ (.slice Ao36 t292.length co36 : Value).ownBlock)) (n := t302.length) (c := co45) ?_).2.2; exact (by (with_reducible repeat (first | apply Kd.R_alloc | apply Kd.R_drewN | apply Kd.R_drew)); exact (Kd.R_mono (Kd.R_far3 (g := gb306) (Kd.R_types HO304.out BK306.out (by decide)) (fun _ hk => hk.2)) (fun _ h_ => h_.1)))); (case side6 => exact (Kd.R_reads' HO304.out).2.1); (case side7 => refine (Kd.R_reads' (e := 63) (base := w.heap.size) (ok := fun k_ => ((((((some k_ ≠ (.slice Ao26 t278.length co26 : Value).ownBlock ∧ some k_ ≠ (.slice Ao18 t266.length co18 : Value).ownBlock) ∧ some k_ ≠ (.slice Ao19 t269.length co19 : Value).ownBlock) ∧ some k_ ≠ (.slice Ao31 t286.length co31 : Value).ownBlock) ∧ some k_ ≠ (.slice Ao35 t289.length co35 : Value).ownBlock) ∧ some k_ ≠ (.slice Ao39 t296.length co39 : Value).ownBlock) ∧ some k_ ≠ (.slice Ao44 t299.length co44 : Value).ownBlock)) (n := t275.length) (c := co23) ?_).2.2; exact (by (with_reducible repeat (first | apply Kd.R_alloc | apply Kd.R_drewN | apply Kd.R_drew)); exact (Kd.R_mono (Kd.R_far3 (g := gb306) (Kd.R_types HO277.out BK306.out (by decide)) (fun _ hk => hk.2)) (fun _ h_ => h_.1)))); (case side8 => exact (Kd.R_reads' HO277.out).2.1); (case side9 => refine (Kd.R_reads' (e := 63) (base := w.heap.size) (ok := fun k_ => ((((((some k_ ≠ (.slice Ao23 t275.length co23 : Value).ownBlock ∧ some k_ ≠ (.slice Ao18 t266.length co18 : Value).ownBlock) ∧ some k_ ≠ (.slice Ao19 t269.length co19 : Value).ownBlock) ∧ some k_ ≠ (.slice Ao31 t286.length co31 : Value).ownBlock) ∧ some k_ ≠ (.slice Ao35 t289.length co35 : Value).ownBlock) ∧ some k_ ≠ (.slice Ao39 t296.length co39 : Value).ownBlock) ∧ some k_ ≠ (.slice Ao44 t299.length co44 : Value).ownBlock)) (n := t278.length) (c := co26) ?_).2.2; exact (by (with_reducible repeat (first | apply Kd.R_alloc | apply Kd.R_drewN | apply Kd.R_drew)); exact (Kd.R_mono (Kd.R_far3 (g := gb306) (Kd.R_types HO280.out BK306.out (by decide)) (fun _ hk => hk.2)) (fun _ h_ => h_.1)))); (case side10 => exact (Kd.R_reads' HO280.out).2.1); (case side11 => refine (Kd.R_reads' (e := 73) (base := w.heap.size) (ok := fun k_ => (((True ∧ some k_ ≠ (.slice Ao20 t272.length co20 : Value).ownBlock) ∧ some k_ ≠ (.slice Ao36 t292.length co36 : Value).ownBlock) ∧ some k_ ≠ (.slice Ao45 t302.length co45 : Value).ownBlock)) (n := t281.length) (c := co27) ?_).2.2; exact (by (with_reducible repeat (first | apply Kd.R_alloc | apply Kd.R_drewN | apply Kd.R_drew)); exact (Kd.R_mono (Kd.R_far3 (g := gb306) (Kd.R_types HO283.out BK306.out (by decide)) (fun _ hk => hk.2)) (fun _ h_ => h_.1)))); (case side12 => exact (Kd.R_reads' HO283.out).2.1); rintro e w63 ⟨rfl, hb⟩; refine ⟨_, rfl, ?_⟩; replace HO268 := Aside0.mk (Kd.R_below (by (with_reducible repeat (first | apply Kd.R_alloc | apply Kd.R_drewN | apply Kd.R_drew)); exact (Kd.R_mono (Kd.R_far3 (g := gb306) (Kd.R_types HO268.out BK306.out (by decide)) (fun _ hk => hk.2)) (fun _ h_ => h_.1))) hb); replace HO271 := Aside0.mk (Kd.R_below (by (with_reducible repeat (first | apply Kd.R_alloc | apply Kd.R_drewN | apply Kd.R_drew)); exact (Kd.R_mono (Kd.R_far3 (g := gb306) (Kd.R_types HO271.out BK306.out (by decide)) (fun _ hk => hk.2)) (fun _ h_ => h_.1))) hb); replace HO274 := Aside0.mk (Kd.R_below (by (with_reducible repeat (first | apply Kd.R_alloc | apply Kd.R_drewN | apply Kd.R_drew)); exact (Kd.R_mono (Kd.R_far3 (g := gb306) (Kd.R_types HO274.out BK306.out (by decide)) (fun _ hk => hk.2)) (fun _ h_ => h_.1))) hb); replace HO277 := Aside0.mk (Kd.R_below (by (with_reducible repeat (first | apply Kd.R_alloc | apply Kd.R_drewN | apply Kd.R_drew)); exact (Kd.R_mono (Kd.R_far3 (g := gb306) (Kd.R_types HO277.out BK306.out (by decide)) (fun _ hk => hk.2)) (fun _ h_ => h_.1))) hb); replace HO280 := Aside0.mk (Kd.R_below (by (with_reducible repeat (first | apply Kd.R_alloc | apply Kd.R_drewN | apply Kd.R_drew)); exact (Kd.R_mono (Kd.R_far3 (g := gb306) (Kd.R_types HO280.out BK306.out (by decide)) (fun _ hk => hk.2)) (fun _ h_ => h_.1))) hb); replace HO283 := Aside0.mk (Kd.R_below (by (with_reducible repeat (first | apply Kd.R_alloc | apply Kd.R_drewN | apply Kd.R_drew)); exact (Kd.R_mono (Kd.R_far3 (g := gb306) (Kd.R_types HO283.out BK306.out (by decide)) (fun _ hk => hk.2)) (fun _ h_ => h_.1))) hb); replace HO288 := Aside0.mk (Kd.R_below (by (with_reducible repeat (first | apply Kd.R_alloc | apply Kd.R_drewN | apply Kd.R_drew)); exact (Kd.R_mono (Kd.R_far3 (g := gb306) (Kd.R_types HO288.out BK306.out (by decide)) (fun _ hk => hk.2)) (fun _ h_ => h_.1))) hb); replace HO291 := Aside0.mk (Kd.R_below (by (with_reducible repeat (first | apply Kd.R_alloc | apply Kd.R_drewN | apply Kd.R_drew)); exact (Kd.R_mono (Kd.R_far3 (g := gb306) (Kd.R_types HO291.out BK306.out (by decide)) (fun _ hk => hk.2)) (fun _ h_ => h_.1))) hb); replace HO294 := Aside0.mk (Kd.R_below (by (with_reducible repeat (first | apply Kd.R_alloc | apply Kd.R_drewN | apply Kd.R_drew)); exact (Kd.R_mono (Kd.R_far3 (g := gb306) (Kd.R_types HO294.out BK306.out (by decide)) (fun _ hk => hk.2)) (fun _ h_ => h_.1))) hb); replace HO298 := Aside0.mk (Kd.R_below (by (with_reducible repeat (first | apply Kd.R_alloc | apply Kd.R_drewN | apply Kd.R_drew)); exact (Kd.R_mono (Kd.R_far3 (g := gb306) (Kd.R_types HO298.out BK306.out (by decide)) (fun _ hk => hk.2)) (fun _ h_ => h_.1))) hb); replace HO301 := Aside0.mk (Kd.R_below (by (with_reducible repeat (first | apply Kd.R_alloc | apply Kd.R_drewN | apply Kd.R_drew)); exact (Kd.R_mono (Kd.R_far3 (g := gb306) (Kd.R_types HO301.out BK306.out (by decide)) (fun _ hk => hk.2)) (fun _ h_ => h_.1))) hb); replace HO304 := Aside0.mk (Kd.R_below (by (with_reducible repeat (first | apply Kd.R_alloc | apply Kd.R_drewN | apply Kd.R_drew)); exact (Kd.R_mono (Kd.R_far3 (g := gb306) (Kd.R_types HO304.out BK306.out (by decide)) (fun _ hk => hk.2)) (fun _ h_ => h_.1))) hb); replace BK264 := Aside0.mk (blk_below (g := gb264) (o := .cells #[.slice A0_0 l0_0.length c0_0, .slice A0_1 l0_1.length c0_1, .slice A0_2 l0_2.length c0_2] 45 (0, 0)) (by (with_reducible repeat (first | refine blk_drewN ?_ _ | refine blk_drew ?_ | refine blk_alloc ?_ _)); refine blk_far3 ?_ NB264_306.out; (with_reducible repeat (first | refine blk_drewN ?_ _ | refine blk_drew ?_ | refine blk_alloc ?_ _)); exact BK264.out) hb); replace BK285 := Aside0.mk (blk_below (g := gb285) (o := .cells #[.slice Ao23 t275.length co23, .slice Ao26 t278.length co26, .slice Ao27 t281.length co27] 27 (0, 0)) (by (with_reducible repeat (first | refine blk_drewN ?_ _ | refine blk_drew ?_ | refine blk_alloc ?_ _)); refine blk_far3 ?_ NB285_306.out; (with_reducible repeat (first | refine blk_drewN ?_ _ | refine blk_drew ?_ | refine blk_alloc ?_ _)); exact BK285.out) hb); replace BK295 := Aside0.mk (blk_below (g := gb295) (o := .cells #[.slice Ao31 t286.length co31, .slice Ao35 t289.length co35, .slice Ao36 t292.length co36] 27 (0, 0)) (by (with_reducible repeat (first | refine blk_drewN ?_ _ | refine blk_drew ?_ | refine blk_alloc ?_ _)); refine blk_far3 ?_ NB295_306.out; (with_reducible repeat (first | refine blk_drewN ?_ _ | refine blk_drew ?_ | refine blk_alloc ?_ _)); exact BK295.out) hb); replace BK306 := Aside0.mk (blk_below (g := gb306) (o := .cells #[.slice Ao39 t296.length co39, .slice Ao44 t299.length co44, .slice Ao45 t302.length co45] 27 (0, 0)) (by (with_reducible repeat (first | refine blk_drewN ?_ _ | refine blk_drew ?_ | refine blk_alloc ?_ _)); refine blk_put3 (cs := #[.slice none 0 0, .slice none 0 0, .slice none 0 0]) ?_ rfl; (with_reducible repeat (first | refine blk_drewN ?_ _ | refine blk_drew ?_ | refine blk_alloc ?_ _)); exact BK306.out) hb); replace HB := Aside0.mk (below_step (by repeat (first | (with_reducible first | exact HB.out | apply below_alloc | apply pw_below_drewN | apply below_drew1 | refine below_set ?_ GE306.out) | exact HB.out)) hb); (try clear hb); (try clear hb2); (try clear hk); (try clear hi)))
 go_meet
 case rel => exact ⟨_, (true), s1_, H', ⟨by first | omega | exact Nat.le_refl _⟩, ⟨by (with_reducible repeat (first | apply Kd.R_alloc | apply Kd.R_drewN | apply Kd.R_drew)); exact Kd.R_mono HO277.out (fun _ hk => ⟨hk.1.1.1.1.1.1, ⟨hk.1.1.1.2, ⟨hk.1.1.2, ⟨hk.1.2, hk.2⟩⟩⟩⟩)⟩, ⟨by (with_reducible repeat (first | apply Kd.R_alloc | apply Kd.R_drewN | apply Kd.R_drew)); exact Kd.R_mono HO280.out (fun _ hk => ⟨hk.1.1.1.1.1.1, ⟨hk.1.1.1.2, ⟨hk.1.1.2, ⟨hk.1.2, hk.2⟩⟩⟩⟩)⟩, ⟨by (with_reducible repeat (first | apply Kd.R_alloc | apply Kd.R_drewN | apply Kd.R_drew)); exact Kd.R_mono HO283.out (fun _ hk => ⟨hk.1.2, hk.2⟩)⟩, ⟨by (with_reducible repeat (first | apply Kd.R_alloc | apply Kd.R_drewN | apply Kd.R_drew)); exact Kd.R_mono HO288.out (fun _ hk => ⟨hk.1.1.1.2, ⟨hk.1.1.2, ⟨hk.1.1.1.1.1.1, ⟨hk.1.2, hk.2⟩⟩⟩⟩)⟩, ⟨by (with_reducible repeat (first | apply Kd.R_alloc | apply Kd.R_drewN | apply Kd.R_drew)); exact Kd.R_mono HO291.out (fun _ hk => ⟨hk.1.1.1.2, ⟨hk.1.1.2, ⟨hk.1.1.1.1.1.1, ⟨hk.1.2, hk.2⟩⟩⟩⟩)⟩, ⟨by (with_reducible repeat (first | apply Kd.R_alloc | apply Kd.R_drewN | apply Kd.R_drew)); exact Kd.R_mono HO294.out (fun _ hk => ⟨hk.1.2, hk.2⟩)⟩, ⟨by (with_reducible repeat (first | apply Kd.R_alloc | apply Kd.R_drewN | apply Kd.R_drew)); exact Kd.R_mono HO298.out (fun _ hk => ⟨hk.1.1.1.2, ⟨hk.1.1.2, ⟨hk.1.2, ⟨hk.2, hk.1.1.1.1.1.1⟩⟩⟩⟩)⟩, ⟨by (with_reducible repeat (first | apply Kd.R_alloc | apply Kd.R_drewN | apply Kd.R_drew)); exact Kd.R_mono HO301.out (fun _ hk => ⟨hk.1.1.1.2, ⟨hk.1.1.2, ⟨hk.1.2, ⟨hk.2, hk.1.1.1.1.1.1⟩⟩⟩⟩)⟩, ⟨by (with_reducible repeat (first | apply Kd.R_alloc | apply Kd.R_drewN | apply Kd.R_drew)); exact Kd.R_mono HO304.out (fun _ hk => ⟨hk.1.2, hk.2⟩)⟩, ⟨b1_ BK264.out⟩, ⟨b1_ BK285.out⟩, ⟨b1_ BK295.out⟩, ⟨b1_ BK306.out⟩, ⟨by repeat (first | (with_reducible first | exact HB.out | apply below_alloc | apply pw_below_drewN | apply below_drew1) | exact HB.out)⟩⟩}}
 case rest =>
  skip
  {
 clear HC12
 try clear c2
 try clear p2
 try clear c3
 try clear c4
 try clear c4b0
 try clear c5
 try clear c6
 try clear c24
 try clear c26
 try clear c27
 try clear c30
 try clear c31
 try clear c32
 try clear c33
 try clear c40
 try clear c41
 try clear c42
 try clear c47
 try clear c48
 try clear c49
 try clear c50
 try clear c52
 try clear c53
 try clear c56
 try clear c57
 try clear c58
 try clear c60
 try clear c61
 try clear hcz14_0
 try clear hcz14_1
 try clear hcz14_2
 try clear hcz16_0
 try clear hcz16_1
 try clear hcz16_2
 try clear hcz25_0
 try clear hcz25_1
 try clear hcz25_2
 try clear hcz28_0
 try clear hcz28_1
 try clear hcz28_2
 try clear hcz34_0
 try clear hcz34_1
 try clear hcz34_2
 try clear hcz43_0
 try clear hcz43_1
 try clear hcz43_2
 try clear hcz51_0
 try clear hcz51_1
 try clear hcz51_2
 try clear hcz54_0
 try clear hcz54_1
 try clear hcz54_2
 try clear hcz59_0
 try clear hcz59_1
 try clear hcz59_2
 try clear hcz62_0
 try clear hcz62_1
 try clear hcz62_2
 try clear hcz6_0
 try clear hcz6_1
 try clear hcz6_2
 try clear hfz14_0
 try clear hfz14_1
 try clear hfz14_2
 try clear hfz16_0
 try clear hfz16_1
 try clear hfz16_2
 try clear hfz25_0
 try clear hfz25_1
 try clear hfz25_2
 try clear hfz28_0
 try clear hfz28_1
 try clear hfz28_2
 try clear hfz34_0
 try clear hfz34_1
 try clear hfz34_2
 try clear hfz43_0
 try clear hfz43_1
 try clear hfz43_2
 try clear hfz51_0
 try clear hfz51_1
 try clear hfz51_2
 try clear hfz54_0
 try clear hfz54_1
 try clear hfz54_2
 try clear hfz59_0
 try clear hfz59_1
 try clear hfz59_2
 try clear hfz62_0
 try clear hfz62_1
 try clear hfz62_2
 try clear hfz6_0
 try clear hfz6_1
 try clear hfz6_2
 obtain ⟨kq, x44_11, rfl, HA, HJ11, HO_286000, HO_286001, HO_286002, HO_296000, HO_296001, HO_296002, HO_307000, HO_307001, HO_307002, BK264, BK285, BK295, BK306, HB⟩ := hcut
 cases kq with
 | zero => exact absurd HA.out (by simp [laws_FnExactSweepPresence.j0])
 | succ kj11 =>
  skip
  {
 have H := HA.out
 clear HA
 simp only [laws_FnExactSweepPresence.j0] at H
 by_cases c64 : x44_11 = true
 {
 subst c64
 have H1 : (some false) = some r := by rw [if_pos rfl] at H; exact H
 clear H
 have H := H1
 clear H1
 obtain rfl := Option.some.inj H
 go_wp2
 go_ret
 exact ⟨by first | rfl | (simp [errW_none, errW_some] <;> rfl) | (simp [*, errW_none, errW_some] <;> rfl), by repeat (first | (with_reducible first | exact HB.out | apply below_alloc | apply pw_below_drewN | apply below_drew1) | exact HB.out)⟩}
 {
 replace c64 := Bool.eq_false_iff.mpr c64
 subst c64
 have H1 : ((laws_toPresence.f kj11 l0_0 l0_1 l0_2).bind fun bt308 => ((laws_eqPresence.f kj11 t286 t289 t292 bt308.1 bt308.2.1 bt308.2.2).bind fun t317 => (if t317 = true then ((laws_markPresence.f kj11 t286 t289 t292 1).bind fun bt318 => (if bt318.1 < 0 then (laws_FnExactSweepPresence.j1 kj11 a1 t284 true l0_0 l0_1 l0_2 t275 t278 t281 t296 t299 t302) else ((laws_eqPresence.f kj11 t296 t299 t302 t275 t278 t281).bind fun t322 => (if t322 = true then (laws_FnExactSweepPresence.j1 kj11 a1 t284 (t305 != t284) l0_0 l0_1 l0_2 t275 t278 t281 t296 t299 t302) else (laws_FnExactSweepPresence.j1 kj11 a1 t284 true l0_0 l0_1 l0_2 t275 t278 t281 t296 t299 t302))))) else (some false)))) = some r := by rw [if_neg (show ¬ (false = true) by decide)] at H; exact H
 clear H
 have H := H1
 clear H1
 replace H := Option.bind_eq_some_iff.mp H
 obtain ⟨⟨t308, t311, t314⟩, A650, H⟩ := H
 replace H : ((laws_eqPresence.f kj11 t286 t289 t292 t308 t311 t314).bind fun t317 => (if t317 = true then ((laws_markPresence.f kj11 t286 t289 t292 1).bind fun bt318 => (if bt318.1 < 0 then (laws_FnExactSweepPresence.j1 kj11 a1 t284 true l0_0 l0_1 l0_2 t275 t278 t281 t296 t299 t302) else ((laws_eqPresence.f kj11 t296 t299 t302 t275 t278 t281).bind fun t322 => (if t322 = true then (laws_FnExactSweepPresence.j1 kj11 a1 t284 (t305 != t284) l0_0 l0_1 l0_2 t275 t278 t281 t296 t299 t302) else (laws_FnExactSweepPresence.j1 kj11 a1 t284 true l0_0 l0_1 l0_2 t275 t278 t281 t296 t299 t302))))) else (some false))) = some r := H
 have A65 := Aside0.mk A650
 clear A650
 replace H := Option.bind_eq_some_iff.mp H
 obtain ⟨t317, A660, H⟩ := H
 replace H : (if t317 = true then ((laws_markPresence.f kj11 t286 t289 t292 1).bind fun bt318 => (if bt318.1 < 0 then (laws_FnExactSweepPresence.j1 kj11 a1 t284 true l0_0 l0_1 l0_2 t275 t278 t281 t296 t299 t302) else ((laws_eqPresence.f kj11 t296 t299 t302 t275 t278 t281).bind fun t322 => (if t322 = true then (laws_FnExactSweepPresence.j1 kj11 a1 t284 (t305 != t284) l0_0 l0_1 l0_2 t275 t278 t281 t296 t299 t302) else (laws_FnExactSweepPresence.j1 kj11 a1 t284 true l0_0 l0_1 l0_2 t275 t278 t281 t296 t299 t302))))) else (some false)) = some r := H
 have A66 := Aside0.mk A660
 clear A660
 by_cases c67 : t317 = true
 {
 subst c67
 have H1 : ((laws_markPresence.f kj11 t286 t289 t292 1).bind fun bt318 => (if bt318.1 < 0 then (laws_FnExactSweepPresence.j1 kj11 a1 t284 true l0_0 l0_1 l0_2 t275 t278 t281 t296 t299 t302) else ((laws_eqPresence.f kj11 t296 t299 t302 t275 t278 t281).bind fun t322 => (if t322 = true then (laws_FnExactSweepPresence.j1 kj11 a1 t284 (t305 != t284) l0_0 l0_1 l0_2 t275 t278 t281 t296 t299 t302) else (laws_FnExactSweepPresence.j1 kj11 a1 t284 true l0_0 l0_1 l0_2 t275 t278 t281 t296 t299 t302))))) = some r := by rw [if_pos rfl] at H; exact H
 clear H
 have H := H1
 clear H1
 replace H := Option.bind_eq_some_iff.mp H
 obtain ⟨⟨t318, t319, t320, t321⟩, A680, H⟩ := H
 replace H : (if t318 < 0 then (laws_FnExactSweepPresence.j1 kj11 a1 t284 true l0_0 l0_1 l0_2 t275 t278 t281 t296 t299 t302) else ((laws_eqPresence.f kj11 t296 t299 t302 t275 t278 t281).bind fun t322 => (if t322 = true then (laws_FnExactSweepPresence.j1 kj11 a1 t284 (t305 != t284) l0_0 l0_1 l0_2 t275 t278 t281 t296 t299 t302) else (laws_FnExactSweepPresence.j1 kj11 a1 t284 true l0_0 l0_1 l0_2 t275 t278 t281 t296 t299 t302)))) = some r := H
 have A68 := Aside0.mk A680
 clear A680
 have HC69 := Aside0.mk H
 clear H
 try go_wp2
 replace HO_286000 := Aside0.mk (Kd.R_drew HO_286000.out)
 replace HO_286001 := Aside0.mk (Kd.R_drew HO_286001.out)
 replace HO_286002 := Aside0.mk (Kd.R_drew HO_286002.out)
 replace HO_296000 := Aside0.mk (Kd.R_drew HO_296000.out)
 replace HO_296001 := Aside0.mk (Kd.R_drew HO_296001.out)
 replace HO_296002 := Aside0.mk (Kd.R_drew HO_296002.out)
 replace HO_307000 := Aside0.mk (Kd.R_drew HO_307000.out)
 replace HO_307001 := Aside0.mk (Kd.R_drew HO_307001.out)
 replace HO_307002 := Aside0.mk (Kd.R_drew HO_307002.out)
 replace BK264 := Aside0.mk (blk_drew BK264.out)
 replace BK285 := Aside0.mk (blk_drew BK285.out)
 replace BK295 := Aside0.mk (blk_drew BK295.out)
 replace BK306 := Aside0.mk (blk_drew BK306.out)
 replace HB := Aside0.mk (below_drew1 HB.out)
 refine start_ (n := 5) (S := fun w' => w'.cell? ⟨gb295, 0, none⟩ = some (.slice Ao31 t286.length co31) ∧ w'.cell? ⟨gb295, 1, none⟩ = some (.slice Ao35 t289.length co35) ∧ w'.cell? ⟨gb295, 2, none⟩ = some (.slice Ao36 t292.length co36) ∧ w'.cell? ⟨gb264, 0, none⟩ = some (.slice A0_0 l0_0.length c0_0) ∧ w'.cell? ⟨gb264, 1, none⟩ = some (.slice A0_1 l0_1.length c0_1) ∧ w'.cell? ⟨gb264, 2, none⟩ = some (.slice A0_2 l0_2.length c0_2)) (ds := []) #[F,F,F,F,F] s2_ rfl rfl ⟨(blk_cell BK295.out 0).trans rfl, (blk_cell BK295.out 1).trans rfl, (blk_cell BK295.out 2).trans rfl, (blk_cell BK264.out 0).trans rfl, (blk_cell BK264.out 1).trans rfl, (blk_cell BK264.out 2).trans rfl⟩ (fun hHeld => ?_)
 generalize wc.drew = w70 at HO_286000 HO_286001 HO_286002 HO_296000 HO_296001 HO_296002 HO_307000 HO_307001 HO_307002 BK264 BK285 BK295 BK306 HB hHeld ⊢
 refine take_ (i := 0) (N := some 45) (v := ?_) (a' := ?_) #[T,F,F,F,F] rfl rfl s2_ (fun _ _ _ h => h) (Or.inl ⟨by rfl, ?_⟩) hHeld ?_ ?_
 rotate_left
 {
 rintro w' ⟨s0, s1, s2, s3, s4, s5⟩
 go_simp
 with_reducible rfl}
 rotate_left
 · exact p1_
 refine take_ (i := 1) (N := some 46) (v := ?_) (a' := ?_) #[T,T,F,F,F] rfl rfl s2_ (fun _ _ _ h => h) (Or.inl ⟨by rfl, ?_⟩) hHeld ?_ ?_
 rotate_left
 {
 rintro w' ⟨s0, s1, s2, s3, s4, s5⟩
 go_simp
 with_reducible rfl}
 rotate_left
 · exact p1_
 refine one_ (i := 2) (N := some 47) #[T,T,T,F,F] rfl rfl s2_ (by decide) (fun K hK => ?_)
 refine goes_ Try.func26 s2_ rfl #[.agg #[.slice A0_0 l0_0.length c0_0, .slice A0_1 l0_1.length c0_1, .slice A0_2 l0_2.length c0_2]] (by rfl) rfl rfl s3_ ?_
 with_reducible refine (laws_toPresence.calls kj11 _ _ l0_0 _ _ l0_1 _ _ l0_2 t308 t311 t314 _ ?side1 ?side2 ?side3 ?side4 ?side5 ?side6 A65.out).mono ?_
 (case side1 => exact y2_ (Kd.C_below HR0_0.out HB.out))
 (case side2 => exact HC0_0.out)
 (case side3 => exact y2_ (Kd.C_below HR0_1.out HB.out))
 (case side4 => exact HC0_1.out)
 (case side5 => exact y2_ (Kd.C_below HR0_2.out HB.out))
 (case side6 => exact HC0_2.out)
 rintro e w71 ⟨v309, v312, v315, rfl, ho0, ho1, ho2, hb⟩
 refine ⟨_, rfl, ?_⟩
 have n0_ := Aside0.mk (Kd.R_mono (Kd.R_told (Kd.R_told (Kd.R_old (b2_ HO_286000.out) hb) (Kd.R_base ho0)) (Kd.R_base ho1)) (fun _ h_ => h_.1))
 have n1_ := Aside0.mk (Kd.R_mono (Kd.R_told (Kd.R_told (Kd.R_old (b2_ HO_286001.out) hb) (Kd.R_base ho0)) (Kd.R_base ho1)) (fun _ h_ => h_.1))
 have n2_ := Aside0.mk (Kd.R_elder' (b2_ HO_286002.out) (Kd.R_base ho2) hb)
 have n3_ := Aside0.mk (Kd.R_mono (Kd.R_told (Kd.R_told (Kd.R_old (b2_ HO_296000.out) hb) (Kd.R_base ho0)) (Kd.R_base ho1)) (fun _ h_ => h_.1))
 have n4_ := Aside0.mk (Kd.R_mono (Kd.R_told (Kd.R_told (Kd.R_old (b2_ HO_296001.out) hb) (Kd.R_base ho0)) (Kd.R_base ho1)) (fun _ h_ => h_.1))
 have n5_ := Aside0.mk (Kd.R_elder' (b2_ HO_296002.out) (Kd.R_base ho2) hb)
 have n6_ := Aside0.mk (Kd.R_mono (Kd.R_told (Kd.R_told (Kd.R_old (b2_ HO_307000.out) hb) (Kd.R_base ho0)) (Kd.R_base ho1)) (fun _ h_ => h_.1))
 have n7_ := Aside0.mk (Kd.R_mono (Kd.R_told (Kd.R_told (Kd.R_old (b2_ HO_307001.out) hb) (Kd.R_base ho0)) (Kd.R_base ho1)) (fun _ h_ => h_.1))
 have n8_ := Aside0.mk (Kd.R_elder' (b2_ HO_307002.out) (Kd.R_base ho2) hb)
 have n9_ := Aside0.mk (Kd.R_lower (Kd.R_new' (Kd.R_new' (Kd.R_new' (Kd.R_new' (Kd.R_new' (Kd.R_new' ho0 (Kd.R_lt (b2_ HO_286000.out))) (Kd.R_lt (b2_ HO_286001.out))) (Kd.R_lt (b2_ HO_296000.out))) (Kd.R_lt (b2_ HO_296001.out))) (Kd.R_lt (b2_ HO_307000.out))) (Kd.R_lt (b2_ HO_307001.out))) (below_size (y1_ HB.out)))
 have n10_ := Aside0.mk (Kd.R_lower (Kd.R_new' (Kd.R_new' (Kd.R_new' (Kd.R_new' (Kd.R_new' (Kd.R_new' ho1 (Kd.R_lt (b2_ HO_286000.out))) (Kd.R_lt (b2_ HO_286001.out))) (Kd.R_lt (b2_ HO_296000.out))) (Kd.R_lt (b2_ HO_296001.out))) (Kd.R_lt (b2_ HO_307000.out))) (Kd.R_lt (b2_ HO_307001.out))) (below_size (y1_ HB.out)))
 have n11_ := Aside0.mk (Kd.R_lower (Kd.R_new' (Kd.R_new' (Kd.R_new' ho2 (Kd.R_lt (b2_ HO_286002.out))) (Kd.R_lt (b2_ HO_296002.out))) (Kd.R_lt (b2_ HO_307002.out))) (below_size (y1_ HB.out)))
 have n12_ := b3_ BK264 hb
 have n13_ := b3_ BK285 hb
 have n14_ := b3_ BK295 hb
 have n15_ := b3_ BK306 hb
 have n16_ := Aside0.mk (below_step (y1_ HB.out) hb)
 clear HO_286000
 clear HO_286001
 clear HO_286002
 clear HO_296000
 clear HO_296001
 clear HO_296002
 clear HO_307000
 clear HO_307001
 clear HO_307002
 clear BK264
 clear BK285
 clear BK295
 clear BK306
 clear HB
 have HO_286000 := n0_
 have HO_286001 := n1_
 have HO_286002 := n2_
 have HO_296000 := n3_
 have HO_296001 := n4_
 have HO_296002 := n5_
 have HO_307000 := n6_
 have HO_307001 := n7_
 have HO_307002 := n8_
 have HO310 := n9_
 have HO313 := n10_
 have HO316 := n11_
 have BK264 := n12_
 have BK285 := n13_
 have BK295 := n14_
 have BK306 := n15_
 have HB := n16_
 clear n0_ n1_ n2_ n3_ n4_ n5_ n6_ n7_ n8_ n9_ n10_ n11_ n12_ n13_ n14_ n15_ n16_
 (try clear hb)
 (try clear hb2)
 (try clear hk)
 (try clear hi)
 (try clear ho0)
 (try clear ho1)
 (try clear ho2)
 obtain ⟨Ao72, co72, eo72⟩ := Kd.R_slice HO310.out
 (first | subst eo72 | (injection eo72 with f1_ f2_ f3_; have f4_ := f1_.symm; have f5_ := f3_.symm; clear f1_ f2_ f3_; subst f4_; subst f5_))
 obtain ⟨Ao73, co73, eo73⟩ := Kd.R_slice HO313.out
 (first | subst eo73 | (injection eo73 with f1_ f2_ f3_; have f4_ := f1_.symm; have f5_ := f3_.symm; clear f1_ f2_ f3_; subst f4_; subst f5_))
 obtain ⟨Ao74, co74, eo74⟩ := Kd.R_slice HO316.out
 (first | subst eo74 | (injection eo74 with f1_ f2_ f3_; have f4_ := f1_.symm; have f5_ := f3_.symm; clear f1_ f2_ f3_; subst f4_; subst f5_))
 refine hK.out _ _ ⟨(blk_cell BK295.out 0).trans rfl, (blk_cell BK295.out 1).trans rfl, (blk_cell BK295.out 2).trans rfl, (blk_cell BK264.out 0).trans rfl, (blk_cell BK264.out 1).trans rfl, (blk_cell BK264.out 2).trans rfl⟩ (fun hHeld => ?_)
 clear hK K
 refine norm_ (a' := ?_) ?_ ?_
 rotate_left
 {
 show Act.put _ (some 47) _ = _
 simp only [Act.put, List.setIfInBounds_toArray, List.set_cons_zero, List.set_cons_succ, i64_w, i32_w]
 rfl}
 refine one_ (i := 3) (N := some 48) #[T,T,T,T,F] rfl rfl s2_ (by decide) (fun K hK => ?_)
 refine goes_ Try.func27 s2_ rfl #[.agg #[.slice Ao31 t286.length co31, .slice Ao35 t289.length co35, .slice Ao36 t292.length co36], .agg #[.slice Ao72 t308.length co72, .slice Ao73 t311.length co73, .slice Ao74 t314.length co74]] (by rfl) rfl rfl s3_ ?_
 with_reducible refine (laws_eqPresence.calls kj11 _ _ t286 _ _ t289 _ _ t292 _ _ t308 _ _ t311 _ _ t314 true _ ?side1 ?side2 ?side3 ?side4 ?side5 ?side6 ?side7 ?side8 ?side9 ?side10 ?side11 ?side12 A66.out).mono ?_
 (case side1 => exact y2_ (Kd.R_reads' HO_296000.out).2.2)
 (case side2 => exact (Kd.R_reads' HO_296000.out).2.1)
 (case side3 => exact y2_ (Kd.R_reads' HO_296001.out).2.2)
 (case side4 => exact (Kd.R_reads' HO_296001.out).2.1)
 (case side5 => exact y2_ (Kd.R_reads' HO_296002.out).2.2)
 (case side6 => exact (Kd.R_reads' HO_296002.out).2.1)
 (case side7 => exact y2_ (Kd.R_reads' HO310.out).2.2)
 (case side8 => exact (Kd.R_reads' HO310.out).2.1)
 (case side9 => exact y2_ (Kd.R_reads' HO313.out).2.2)
 (case side10 => exact (Kd.R_reads' HO313.out).2.1)
 (case side11 => exact y2_ (Kd.R_reads' HO316.out).2.2)
 (case side12 => exact (Kd.R_reads' HO316.out).2.1)
 rintro e w75 ⟨rfl, hb⟩
 refine ⟨_, rfl, ?_⟩
 replace HO_286000 := r1_ HO_286000 hb
 replace HO_286001 := r1_ HO_286001 hb
 replace HO_286002 := r1_ HO_286002 hb
 replace HO_296000 := r1_ HO_296000 hb
 replace HO_296001 := r1_ HO_296001 hb
 replace HO_296002 := r1_ HO_296002 hb
 replace HO_307000 := r1_ HO_307000 hb
 replace HO_307001 := r1_ HO_307001 hb
 replace HO_307002 := r1_ HO_307002 hb
 replace HO310 := r1_ HO310 hb
 replace HO313 := r1_ HO313 hb
 replace HO316 := r1_ HO316 hb
 replace BK264 := b3_ BK264 hb
 replace BK285 := b3_ BK285 hb
 replace BK295 := b3_ BK295 hb
 replace BK306 := b3_ BK306 hb
 replace HB := Aside0.mk (below_step (y1_ HB.out) hb)
 (try clear hb)
 (try clear hb2)
 (try clear hk)
 (try clear hi)
 refine hK.out _ _ ⟨(blk_cell BK295.out 0).trans rfl, (blk_cell BK295.out 1).trans rfl, (blk_cell BK295.out 2).trans rfl, (blk_cell BK264.out 0).trans rfl, (blk_cell BK264.out 1).trans rfl, (blk_cell BK264.out 2).trans rfl⟩ (fun hHeld => ?_)
 clear hK K
 refine norm_ (a' := ?_) ?_ ?_
 rotate_left
 {
 show Act.put _ (some 48) _ = _
 simp only [Act.put, List.setIfInBounds_toArray, List.set_cons_zero, List.set_cons_succ, i64_w, i32_w]
 rfl}
 refine pure_ (i := 4) (N := some 49) (v := ?_) (a' := ?_) #[T,T,T,T,T] rfl rfl s2_ (fun _ _ _ h => h) (Or.inl ⟨by rfl, ?_⟩) ?_ ?_
 rotate_left
 {
 intro w'
 go_simp
 with_reducible rfl}
 rotate_left
 · exact p1_
 refine done_ s2_ ?_
 have hnb76 := NB295_264.out
 have hnc76 := NB264_295.out
 have hnb77 := NB295_285.out
 have hnc77 := NB285_295.out
 have hnb78 := NB295_306.out
 have hnc78 := NB306_295.out
 have hcz79_0 := c1_ BK295 0 (.slice Ao31 t286.length co31)
 have hcz79_1 := c1_ BK295 1 (.slice Ao35 t289.length co35)
 have hcz79_2 := c1_ BK295 2 (.slice Ao36 t292.length co36)
 have hfz79_0 := f1_ BK295 0
 have hfz79_1 := f1_ BK295 1
 have hfz79_2 := f1_ BK295 2
 go_upto_region 14 with (first | ((with_reducible refine gate_callee (f := 28) rfl ?_); refine goesL_ (some 52) rfl rfl Try.func28 s2_ rfl #[.agg #[.slice Ao31 t286.length co31, .slice Ao35 t289.length co35, .slice Ao36 t292.length co36], .int .i64 1] rfl s3_ ?_; (with_reducible refine (laws_markPresence.calls kj11 (fun k_ => some k_ = (.slice Ao31 t286.length co31 : Value).ownBlock) (.slice Ao31 t286.length co31) t286 (fun k_ => some k_ = (.slice Ao35 t289.length co35 : Value).ownBlock) (.slice Ao35 t289.length co35) t289 (fun k_ => some k_ = (.slice Ao36 t292.length co36 : Value).ownBlock) (.slice Ao36 t292.length co36) t292 1 t318 t319 t320 t321 w _ ?side1 ?side2 ?side3 ?side4 ?side5 ?side6 A68.out).mono ?_); (case side1 => repeat (first | (with_reducible first | exact HB.out | apply below_alloc | apply pw_below_drewN | apply below_drew1) | exact HB.out)); (case side2 => exact Kd.R_tight rfl HO_296000.out); (case side3 => exact fun k_ e_ => (HO_296000.out.1 k_ e_.symm).1.1.2.2.1); (case side4 => exact Kd.R_tight rfl HO_296001.out); (case side5 => exact fun k_ e_ => (HO_296001.out.1 k_ e_.symm).1.1.2.2.1); (case side6 => exact Kd.R_tight rfl HO_296002.out); rintro e w80 ⟨rfl, hy0, hy1, hy2, hb, hkp⟩; refine ⟨_, rfl, ?_⟩; have n0_ := Aside0.mk (Kd.R_mono (ok' := fun k_ => some k_ ≠ (.slice Ao26 t278.length co26 : Value).ownBlock ∧ some k_ ≠ (.slice Ao31 t286.length co31 : Value).ownBlock ∧ some k_ ≠ (.slice Ao35 t289.length co35 : Value).ownBlock ∧ some k_ ≠ (.slice Ao39 t296.length co39 : Value).ownBlock ∧ some k_ ≠ (.slice Ao44 t299.length co44 : Value).ownBlock ∧ some k_ ≠ (.slice Ao72 t308.length co72 : Value).ownBlock ∧ some k_ ≠ (.slice Ao73 t311.length co73 : Value).ownBlock) (Kd.R_keptB ((Kd.R_apart' HO_286000.out (Kd.R_typed HO_296002.out) (by decide))) hkp (fun k_ hk_ hs_ => Or.elim hs_ (fun e_ => (hk_.1.1.1.2.1) e_) (fun e_ => Or.elim e_ (fun e_ => (hk_.1.1.1.2.2.1) e_) (fun e_ => (hk_.2) e_)))) (fun k_ hk_ => ⟨hk_.1.1.1.1.1, hk_.1.1.1.1.2.1, hk_.1.1.1.1.2.2.1, hk_.1.1.1.1.2.2.2.1, hk_.1.1.1.1.2.2.2.2, hk_.1.1.1.2, hk_.1.1.2⟩)); have n1_ := Aside0.mk (Kd.R_mono (ok' := fun k_ => some k_ ≠ (.slice Ao23 t275.length co23 : Value).ownBlock ∧ some k_ ≠ (.slice Ao31 t286.length co31 : Value).ownBlock ∧ some k_ ≠ (.slice Ao35 t289.length co35 : Value).ownBlock ∧ some k_ ≠ (.slice Ao39 t296.length co39 : Value).ownBlock ∧ some k_ ≠ (.slice Ao44 t299.length co44 : Value).ownBlock ∧ some k_ ≠ (.slice Ao72 t308.length co72 : Value).ownBlock ∧ some k_ ≠ (.slice Ao73 t311.length co73 : Value).ownBlock) (Kd.R_keptB ((Kd.R_apart' HO_286001.out (Kd.R_typed HO_296002.out) (by decide))) hkp (fun k_ hk_ hs_ => Or.elim hs_ (fun e_ => (hk_.1.1.1.2.1) e_) (fun e_ => Or.elim e_ (fun e_ => (hk_.1.1.1.2.2.1) e_) (fun e_ => (hk_.2) e_)))) (fun k_ hk_ => ⟨hk_.1.1.1.1.1, hk_.1.1.1.1.2.1, hk_.1.1.1.1.2.2.1, hk_.1.1.1.1.2.2.2.1, hk_.1.1.1.1.2.2.2.2, hk_.1.1.1.2, hk_.1.1.2⟩)); have n2_ := Aside0.mk (Kd.R_mono (ok' := fun k_ => some k_ ≠ (.slice Ao36 t292.length co36 : Value).ownBlock ∧ some k_ ≠ (.slice Ao45 t302.length co45 : Value).ownBlock ∧ some k_ ≠ (.slice Ao74 t314.length co74 : Value).ownBlock) (Kd.R_keptB ((Kd.R_apart' (Kd.R_apart' HO_286002.out (Kd.R_typed HO_296000.out) (by decide)) (Kd.R_typed HO_296001.out) (by decide))) hkp (fun k_ hk_ hs_ => Or.elim hs_ (fun e_ => (hk_.1.2) e_) (fun e_ => Or.elim e_ (fun e_ => (hk_.2) e_) (fun e_ => (hk_.1.1.1.1) e_)))) (fun k_ hk_ => ⟨hk_.1.1.1.1.1, hk_.1.1.1.1.2, hk_.1.1.1.2⟩)); have n3_ := Aside0.mk (Kd.R_reok rfl hy0 (fun k_ e_ => HO_296000.out.1 k_ e_)); have n4_ := Aside0.mk (Kd.R_reok rfl hy1 (fun k_ e_ => HO_296001.out.1 k_ e_)); have n5_ := Aside0.mk (Kd.R_reok rfl hy2 (fun k_ e_ => HO_296002.out.1 k_ e_)); have n6_ := Aside0.mk (Kd.R_mono (ok' := fun k_ => some k_ ≠ (.slice Ao23 t275.length co23 : Value).ownBlock ∧ some k_ ≠ (.slice Ao26 t278.length co26 : Value).ownBlock ∧ some k_ ≠ (.slice Ao31 t286.length co31 : Value).ownBlock ∧ some k_ ≠ (.slice Ao35 t289.length co35 : Value).ownBlock ∧ some k_ ≠ (.slice Ao44 t299.length co44 : Value).ownBlock ∧ some k_ ≠ (.slice Ao72 t308.length co72 : Value).ownBlock ∧ some k_ ≠ (.slice Ao73 t311.length co73 : Value).ownBlock) (Kd.R_keptB ((Kd.R_apart' HO_307000.out (Kd.R_typed HO_296002.out) (by decide))) hkp (fun k_ hk_ hs_ => Or.elim hs_ (fun e_ => (hk_.1.1.1.2.2.1) e_) (fun e_ => Or.elim e_ (fun e_ => (hk_.1.1.1.2.2.2.1) e_) (fun e_ => (hk_.2) e_)))) (fun k_ hk_ => ⟨hk_.1.1.1.1.1, hk_.1.1.1.1.2.1, hk_.1.1.1.1.2.2.1, hk_.1.1.1.1.2.2.2.1, hk_.1.1.1.1.2.2.2.2, hk_.1.1.1.2, hk_.1.1.2⟩)); have n7_ := Aside0.mk (Kd.R_mono (ok' := fun k_ => some k_ ≠ (.slice Ao23 t275.length co23 : Value).ownBlock ∧ some k_ ≠ (.slice Ao26 t278.length co26 : Value).ownBlock ∧ some k_ ≠ (.slice Ao31 t286.length co31 : Value).ownBlock ∧ some k_ ≠ (.slice Ao35 t289.length co35 : Value).ownBlock ∧ some k_ ≠ (.slice Ao39 t296.length co39 : Value).ownBlock ∧ some k_ ≠ (.slice Ao72 t308.length co72 : Value).ownBlock ∧ some k_ ≠ (.slice Ao73 t311.length co73 : Value).ownBlock) (Kd.R_keptB ((Kd.R_apart' HO_307001.out (Kd.R_typed HO_296002.out) (by decide))) hkp (fun k_ hk_ hs_ => Or.elim hs_ (fun e_ => (hk_.1.1.1.2.2.1) e_) (fun e_ => Or.elim e_ (fun e_ => (hk_.1.1.1.2.2.2.1) e_) (fun e_ => (hk_.2) e_)))) (fun k_ hk_ => ⟨hk_.1.1.1.1.1, hk_.1.1.1.1.2.1, hk_.1.1.1.1.2.2.1, hk_.1.1.1.1.2.2.2.1, hk_.1.1.1.1.2.2.2.2, hk_.1.1.1.2, hk_.1.1.2⟩)); have n8_ := Aside0.mk (Kd.R_mono (ok' := fun k_ => some k_ ≠ (.slice Ao27 t281.length co27 : Value).ownBlock ∧ some k_ ≠ (.slice Ao36 t292.length co36 : Value).ownBlock ∧ some k_ ≠ (.slice Ao74 t314.length co74 : Value).ownBlock) (Kd.R_keptB ((Kd.R_apart' (Kd.R_apart' HO_307002.out (Kd.R_typed HO_296000.out) (by decide)) (Kd.R_typed HO_296001.out) (by decide))) hkp (fun k_ hk_ hs_ => Or.elim hs_ (fun e_ => (hk_.1.2) e_) (fun e_ => Or.elim e_ (fun e_ => (hk_.2) e_) (fun e_ => (hk_.1.1.1.2) e_)))) (fun k_ hk_ => ⟨hk_.1.1.1.1.1, hk_.1.1.1.1.2, hk_.1.1.1.2⟩)); have n9_ := Aside0.mk (blk_kept (b1_ BK264.out) hkp (fun hs_ => Or.elim hs_ (fun e_ => (fun e_ => (Kd.R_ne HO_296000.out BK264.out (by decide)) e_) e_) (fun e_ => Or.elim e_ (fun e_ => (fun e_ => (Kd.R_ne HO_296001.out BK264.out (by decide)) e_) e_) (fun e_ => (fun e_ => (Kd.R_ne HO_296002.out BK264.out (by decide)) e_) e_)))); have n10_ := Aside0.mk (blk_kept (b1_ BK285.out) hkp (fun hs_ => Or.elim hs_ (fun e_ => (fun e_ => (Kd.R_ne HO_296000.out BK285.out (by decide)) e_) e_) (fun e_ => Or.elim e_ (fun e_ => (fun e_ => (Kd.R_ne HO_296001.out BK285.out (by decide)) e_) e_) (fun e_ => (fun e_ => (Kd.R_ne HO_296002.out BK285.out (by decide)) e_) e_)))); have n11_ := Aside0.mk (blk_kept (b1_ BK295.out) hkp (fun hs_ => Or.elim hs_ (fun e_ => (fun e_ => (Kd.R_ne HO_296000.out BK295.out (by decide)) e_) e_) (fun e_ => Or.elim e_ (fun e_ => (fun e_ => (Kd.R_ne HO_296001.out BK295.out (by decide)) e_) e_) (fun e_ => (fun e_ => (Kd.R_ne HO_296002.out BK295.out (by decide)) e_) e_)))); have n12_ := Aside0.mk (blk_kept (b1_ BK306.out) hkp (fun hs_ => Or.elim hs_ (fun e_ => (fun e_ => (Kd.R_ne HO_296000.out BK306.out (by decide)) e_) e_) (fun e_ => Or.elim e_ (fun e_ => (fun e_ => (Kd.R_ne HO_296001.out BK306.out (by decide)) e_) e_) (fun e_ => (fun e_ => (Kd.R_ne HO_296002.out BK306.out (by decide)) e_) e_)))); have n13_ := Aside0.mk (Kd.R_mono (ok' := fun k_ => some k_ ≠ (.slice Ao23 t275.length co23 : Value).ownBlock ∧ some k_ ≠ (.slice Ao26 t278.length co26 : Value).ownBlock ∧ some k_ ≠ (.slice Ao31 t286.length co31 : Value).ownBlock ∧ some k_ ≠ (.slice Ao35 t289.length co35 : Value).ownBlock ∧ some k_ ≠ (.slice Ao39 t296.length co39 : Value).ownBlock ∧ some k_ ≠ (.slice Ao44 t299.length co44 : Value).ownBlock ∧ some k_ ≠ (.slice Ao73 t311.length co73 : Value).ownBlock) (Kd.R_keptB ((Kd.R_apart' HO310.out (Kd.R_typed HO_296002.out) (by decide))) hkp (fun k_ hk_ hs_ => Or.elim hs_ (fun e_ => (hk_.1.1.1.1.2) e_) (fun e_ => Or.elim e_ (fun e_ => (hk_.1.1.1.2) e_) (fun e_ => (hk_.2) e_)))) (fun k_ hk_ => ⟨hk_.1.1.1.1.1.1.1.2, hk_.1.1.1.1.1.1.2, hk_.1.1.1.1.1.2, hk_.1.1.1.1.2, hk_.1.1.1.2, hk_.1.1.2, hk_.1.1.1.1.1.1.1.1⟩)); have n14_ := Aside0.mk (Kd.R_mono (ok' := fun k_ => some k_ ≠ (.slice Ao23 t275.length co23 : Value).ownBlock ∧ some k_ ≠ (.slice Ao26 t278.length co26 : Value).ownBlock ∧ some k_ ≠ (.slice Ao31 t286.length co31 : Value).ownBlock ∧ some k_ ≠ (.slice Ao35 t289.length co35 : Value).ownBlock ∧ some k_ ≠ (.slice Ao39 t296.length co39 : Value).ownBlock ∧ some k_ ≠ (.slice Ao44 t299.length co44 : Value).ownBlock ∧ some k_ ≠ (.slice Ao72 t308.length co72 : Value).ownBlock) (Kd.R_keptB ((Kd.R_apart' HO313.out (Kd.R_typed HO_296002.out) (by decide))) hkp (fun k_ hk_ hs_ => Or.elim hs_ (fun e_ => (hk_.1.1.1.1.2) e_) (fun e_ => Or.elim e_ (fun e_ => (hk_.1.1.1.2) e_) (fun e_ => (hk_.2) e_)))) (fun k_ hk_ => ⟨hk_.1.1.1.1.1.1.1.2, hk_.1.1.1.1.1.1.2, hk_.1.1.1.1.1.2, hk_.1.1.1.1.2, hk_.1.1.1.2, hk_.1.1.2, hk_.1.1.1.1.1.1.1.1⟩)); have n15_ := Aside0.mk (Kd.R_mono (ok' := fun k_ => some k_ ≠ (.slice Ao27 t281.length co27 : Value).ownBlock ∧ some k_ ≠ (.slice Ao36 t292.length co36 : Value).ownBlock ∧ some k_ ≠ (.slice Ao45 t302.length co45 : Value).ownBlock) (Kd.R_keptB ((Kd.R_apart' (Kd.R_apart' HO316.out (Kd.R_typed HO_296000.out) (by decide)) (Kd.R_typed HO_296001.out) (by decide))) hkp (fun k_ hk_ hs_ => Or.elim hs_ (fun e_ => (hk_.1.2) e_) (fun e_ => Or.elim e_ (fun e_ => (hk_.2) e_) (fun e_ => (hk_.1.1.1.2) e_)))) (fun k_ hk_ => ⟨hk_.1.1.1.1.1.2, hk_.1.1.1.1.2, hk_.1.1.1.2⟩)); have n16_ := Aside0.mk (hb); clear HO_286000; clear HO_286001; clear HO_286002; clear HO_296000; clear HO_296001; clear HO_296002; clear HO_307000; clear HO_307001; clear HO_307002; clear BK264; clear BK285; clear BK295; clear BK306; clear HO310; clear HO313; clear HO316; clear HB; have HO_286000 := n0_; have HO_286001 := n1_; have HO_286002 := n2_; have HO_296000 := n3_; have HO_296001 := n4_; have HO_296002 := n5_; have HO_307000 := n6_; have HO_307001 := n7_; have HO_307002 := n8_; have BK264 := n9_; have BK285 := n10_; have BK295 := n11_; have BK306 := n12_; have HO310 := n13_; have HO313 := n14_; have HO316 := n15_; have HB := n16_; clear n0_ n1_ n2_ n3_ n4_ n5_ n6_ n7_ n8_ n9_ n10_ n11_ n12_ n13_ n14_ n15_ n16_; (try clear hb); (try clear hkp); (try clear hy0); (try clear hy1); (try clear hy2)))
 (try simp only [Act.put, List.setIfInBounds_toArray, List.set_cons_zero, List.set_cons_succ])
 go_cut [65] (fun v65 wc => ∃ (kq : Nat) (x65_68 : Bool), v65 = .bool x65_68 ∧ Aside0 (laws_FnExactSweepPresence.j1 kq a1 t284 x65_68 l0_0 l0_1 l0_2 t275 t278 t281 t296 t299 t302 = some r) ∧ Aside0 (kq ≤ kj11) ∧ Aside0 (Kd.R k63 63 wc w.heap.size (fun k_ => some k_ ≠ ((.slice Ao26 t278.length co26) : Value).ownBlock ∧ some k_ ≠ ((.slice Ao31 t286.length co31) : Value).ownBlock ∧ some k_ ≠ ((.slice Ao35 t289.length co35) : Value).ownBlock ∧ some k_ ≠ ((.slice Ao39 t296.length co39) : Value).ownBlock ∧ some k_ ≠ ((.slice Ao44 t299.length co44) : Value).ownBlock) (.slice Ao23 t275.length co23) t275) ∧ Aside0 (Kd.R k63 63 wc w.heap.size (fun k_ => some k_ ≠ ((.slice Ao23 t275.length co23) : Value).ownBlock ∧ some k_ ≠ ((.slice Ao31 t286.length co31) : Value).ownBlock ∧ some k_ ≠ ((.slice Ao35 t289.length co35) : Value).ownBlock ∧ some k_ ≠ ((.slice Ao39 t296.length co39) : Value).ownBlock ∧ some k_ ≠ ((.slice Ao44 t299.length co44) : Value).ownBlock) (.slice Ao26 t278.length co26) t278) ∧ Aside0 (Kd.R k73 73 wc w.heap.size (fun k_ => some k_ ≠ ((.slice Ao36 t292.length co36) : Value).ownBlock ∧ some k_ ≠ ((.slice Ao45 t302.length co45) : Value).ownBlock) (.slice Ao27 t281.length co27) t281) ∧ Aside0 (Kd.R k63 63 wc w.heap.size (fun k_ => some k_ ≠ ((.slice Ao23 t275.length co23) : Value).ownBlock ∧ some k_ ≠ ((.slice Ao26 t278.length co26) : Value).ownBlock ∧ some k_ ≠ ((.slice Ao35 t289.length co35) : Value).ownBlock ∧ some k_ ≠ ((.slice Ao39 t296.length co39) : Value).ownBlock ∧ some k_ ≠ ((.slice Ao44 t299.length co44) : Value).ownBlock) (.slice Ao31 t286.length co31) t319) ∧ Aside0 (Kd.R k63 63 wc w.heap.size (fun k_ => some k_ ≠ ((.slice Ao23 t275.length co23) : Value).ownBlock ∧ some k_ ≠ ((.slice Ao26 t278.length co26) : Value).ownBlock ∧ some k_ ≠ ((.slice Ao31 t286.length co31) : Value).ownBlock ∧ some k_ ≠ ((.slice Ao39 t296.length co39) : Value).ownBlock ∧ some k_ ≠ ((.slice Ao44 t299.length co44) : Value).ownBlock) (.slice Ao35 t289.length co35) t320) ∧ Aside0 (Kd.R k73 73 wc w.heap.size (fun k_ => some k_ ≠ ((.slice Ao27 t281.length co27) : Value).ownBlock ∧ some k_ ≠ ((.slice Ao45 t302.length co45) : Value).ownBlock) (.slice Ao36 t292.length co36) t321) ∧ Aside0 (Kd.R k63 63 wc w.heap.size (fun k_ => some k_ ≠ ((.slice Ao23 t275.length co23) : Value).ownBlock ∧ some k_ ≠ ((.slice Ao26 t278.length co26) : Value).ownBlock ∧ some k_ ≠ ((.slice Ao31 t286.length co31) : Value).ownBlock ∧ some k_ ≠ ((.slice Ao35 t289.length co35) : Value).ownBlock ∧ some k_ ≠ ((.slice Ao44 t299.length co44) : Value).ownBlock) (.slice Ao39 t296.length co39) t296) ∧ Aside0 (Kd.R k63 63 wc w.heap.size (fun k_ => some k_ ≠ ((.slice Ao23 t275.length co23) : Value).ownBlock ∧ some k_ ≠ ((.slice Ao26 t278.length co26) : Value).ownBlock ∧ some k_ ≠ ((.slice Ao31 t286.length co31) : Value).ownBlock ∧ some k_ ≠ ((.slice Ao35 t289.length co35) : Value).ownBlock ∧ some k_ ≠ ((.slice Ao39 t296.length co39) : Value).ownBlock) (.slice Ao44 t299.length co44) t299) ∧ Aside0 (Kd.R k73 73 wc w.heap.size (fun k_ => some k_ ≠ ((.slice Ao27 t281.length co27) : Value).ownBlock ∧ some k_ ≠ ((.slice Ao36 t292.length co36) : Value).ownBlock) (.slice Ao45 t302.length co45) t302) ∧ Aside0 (wc.heap[gb264]? = some (.cells #[(.slice A0_0 l0_0.length c0_0), (.slice A0_1 l0_1.length c0_1), (.slice A0_2 l0_2.length c0_2)] 45 (0, 0))) ∧ Aside0 (wc.heap[gb285]? = some (.cells #[(.slice Ao23 t275.length co23), (.slice Ao26 t278.length co26), (.slice Ao27 t281.length co27)] 27 (0, 0))) ∧ Aside0 (wc.heap[gb295]? = some (.cells #[(.slice Ao31 t286.length co31), (.slice Ao35 t289.length co35), (.slice Ao36 t292.length co36)] 27 (0, 0))) ∧ Aside0 (wc.heap[gb306]? = some (.cells #[(.slice Ao39 t296.length co39), (.slice Ao44 t299.length co44), (.slice Ao45 t302.length co45)] 27 (0, 0))) ∧ Aside0 (Below w.heap.size w wc))
 case first =>
  as_aux_lemma =>
   skip
   {
 have H := HC69.out
 clear HC69
 by_cases c81 : t318 < 0
 {
 rw [if_pos c81] at H
 have c81b0 : decide (t318 < 0) = true := decide_eq_true c81
 clear c81
 (first | rw [c81b0] | (simp only [i64_w, i32_w]; rw [c81b0]) | skip)
 have H' := Aside0.mk H
 clear H
 go_wp2
 go_meet
 case rel => exact ⟨_, (true), s1_, H', ⟨by have := HJ11.out; first | omega | exact Nat.le_refl _⟩, ⟨by (with_reducible repeat (first | apply Kd.R_alloc | apply Kd.R_drewN | apply Kd.R_drew)); exact Kd.R_mono HO_286000.out (fun _ hk => ⟨hk.1, ⟨hk.2.1, ⟨hk.2.2.1, ⟨hk.2.2.2.1, hk.2.2.2.2.1⟩⟩⟩⟩)⟩, ⟨by (with_reducible repeat (first | apply Kd.R_alloc | apply Kd.R_drewN | apply Kd.R_drew)); exact Kd.R_mono HO_286001.out (fun _ hk => ⟨hk.1, ⟨hk.2.1, ⟨hk.2.2.1, ⟨hk.2.2.2.1, hk.2.2.2.2.1⟩⟩⟩⟩)⟩, ⟨by (with_reducible repeat (first | apply Kd.R_alloc | apply Kd.R_drewN | apply Kd.R_drew)); exact Kd.R_mono HO_286002.out (fun _ hk => ⟨hk.1, hk.2.1⟩)⟩, ⟨by (with_reducible repeat (first | apply Kd.R_alloc | apply Kd.R_drewN | apply Kd.R_drew)); exact Kd.R_mono HO_296000.out (fun _ hk => ⟨hk.1.1.1, ⟨hk.1.1.2.1, ⟨hk.1.1.2.2.1, ⟨hk.1.1.2.2.2.1, hk.1.1.2.2.2.2⟩⟩⟩⟩)⟩, ⟨by (with_reducible repeat (first | apply Kd.R_alloc | apply Kd.R_drewN | apply Kd.R_drew)); exact Kd.R_mono HO_296001.out (fun _ hk => ⟨hk.1.1.1, ⟨hk.1.1.2.1, ⟨hk.1.1.2.2.1, ⟨hk.1.1.2.2.2.1, hk.1.1.2.2.2.2⟩⟩⟩⟩)⟩, ⟨by (with_reducible repeat (first | apply Kd.R_alloc | apply Kd.R_drewN | apply Kd.R_drew)); exact Kd.R_mono HO_296002.out (fun _ hk => ⟨hk.1.1, hk.1.2⟩)⟩, ⟨by (with_reducible repeat (first | apply Kd.R_alloc | apply Kd.R_drewN | apply Kd.R_drew)); exact Kd.R_mono HO_307000.out (fun _ hk => ⟨hk.1, ⟨hk.2.1, ⟨hk.2.2.1, ⟨hk.2.2.2.1, hk.2.2.2.2.1⟩⟩⟩⟩)⟩, ⟨by (with_reducible repeat (first | apply Kd.R_alloc | apply Kd.R_drewN | apply Kd.R_drew)); exact Kd.R_mono HO_307001.out (fun _ hk => ⟨hk.1, ⟨hk.2.1, ⟨hk.2.2.1, ⟨hk.2.2.2.1, hk.2.2.2.2.1⟩⟩⟩⟩)⟩, ⟨by (with_reducible repeat (first | apply Kd.R_alloc | apply Kd.R_drewN | apply Kd.R_drew)); exact Kd.R_mono HO_307002.out (fun _ hk => ⟨hk.1, hk.2.1⟩)⟩, ⟨b1_ BK264.out⟩, ⟨b1_ BK285.out⟩, ⟨b1_ BK295.out⟩, ⟨b1_ BK306.out⟩, ⟨by repeat (first | (with_reducible first | exact HB.out | apply below_alloc | apply pw_below_drewN | apply below_drew1) | exact HB.out)⟩⟩}
 {
 rw [if_neg c81] at H
 have c81b0 : decide (t318 < 0) = false := decide_eq_false c81
 clear c81
 (first | rw [c81b0] | (simp only [i64_w, i32_w]; rw [c81b0]) | skip)
 replace H := Option.bind_eq_some_iff.mp H
 obtain ⟨t322, A820, H⟩ := H
 replace H : (if t322 = true then (laws_FnExactSweepPresence.j1 kj11 a1 t284 (t305 != t284) l0_0 l0_1 l0_2 t275 t278 t281 t296 t299 t302) else (laws_FnExactSweepPresence.j1 kj11 a1 t284 true l0_0 l0_1 l0_2 t275 t278 t281 t296 t299 t302)) = some r := H
 have A82 := Aside0.mk A820
 clear A820
 by_cases c83 : t322 = true
 {
 subst c83
 have H1 : (laws_FnExactSweepPresence.j1 kj11 a1 t284 (t305 != t284) l0_0 l0_1 l0_2 t275 t278 t281 t296 t299 t302) = some r := by rw [if_pos rfl] at H; exact H
 clear H
 have H := H1
 clear H1
 have H' := Aside0.mk H
 clear H
 have hnb84 := NB306_264.out
 have hnc84 := NB264_306.out
 have hnb85 := NB306_285.out
 have hnc85 := NB285_306.out
 have hnb86 := NB306_295.out
 have hnc86 := NB295_306.out
 have hcz87_0 := c1_ BK306 0 (.slice Ao39 t296.length co39)
 have hcz87_1 := c1_ BK306 1 (.slice Ao44 t299.length co44)
 have hcz87_2 := c1_ BK306 2 (.slice Ao45 t302.length co45)
 have hfz87_0 := f1_ BK306 0
 have hfz87_1 := f1_ BK306 1
 have hfz87_2 := f1_ BK306 2
 have hnb88 := NB285_264.out
 have hnc88 := NB264_285.out
 have hnb89 := NB285_295.out
 have hnc89 := NB295_285.out
 have hcz90_0 := c1_ BK285 0 (.slice Ao23 t275.length co23)
 have hcz90_1 := c1_ BK285 1 (.slice Ao26 t278.length co26)
 have hcz90_2 := c1_ BK285 2 (.slice Ao27 t281.length co27)
 have hfz90_0 := f1_ BK285 0
 have hfz90_1 := f1_ BK285 1
 have hfz90_2 := f1_ BK285 2
 go_wp2_with (first | (go_at_call 27; (with_reducible refine (laws_eqPresence.calls kj11 _ _ t296 _ _ t299 _ _ t302 _ _ t275 _ _ t278 _ _ t281 true _ ?side1 ?side2 ?side3 ?side4 ?side5 ?side6 ?side7 ?side8 ?side9 ?side10 ?side11 ?side12 A82.out).mono ?_); (case side1 => exact y2_ (Kd.R_reads' HO_307000.out).2.2); (case side2 => exact (Kd.R_reads' HO_307000.out).2.1); (case side3 => exact y2_ (Kd.R_reads' HO_307001.out).2.2); (case side4 => exact (Kd.R_reads' HO_307001.out).2.1); (case side5 => exact y2_ (Kd.R_reads' HO_307002.out).2.2); (case side6 => exact (Kd.R_reads' HO_307002.out).2.1); (case side7 => exact y2_ (Kd.R_reads' HO_286000.out).2.2); (case side8 => exact (Kd.R_reads' HO_286000.out).2.1); (case side9 => exact y2_ (Kd.R_reads' HO_286001.out).2.2); (case side10 => exact (Kd.R_reads' HO_286001.out).2.1); (case side11 => exact y2_ (Kd.R_reads' HO_286002.out).2.2); (case side12 => exact (Kd.R_reads' HO_286002.out).2.1); rintro e w91 ⟨rfl, hb⟩; replace HO_286000 := r1_ HO_286000 hb; replace HO_286001 := r1_ HO_286001 hb; replace HO_286002 := r1_ HO_286002 hb; replace HO_296000 := r1_ HO_296000 hb; replace HO_296001 := r1_ HO_296001 hb; replace HO_296002 := r1_ HO_296002 hb; replace HO_307000 := r1_ HO_307000 hb; replace HO_307001 := r1_ HO_307001 hb; replace HO_307002 := r1_ HO_307002 hb; replace HO310 := r1_ HO310 hb; replace HO313 := r1_ HO313 hb; replace HO316 := r1_ HO316 hb; replace BK264 := b3_ BK264 hb; replace BK285 := b3_ BK285 hb; replace BK295 := b3_ BK295 hb; replace BK306 := b3_ BK306 hb; replace HB := Aside0.mk (below_step (y1_ HB.out) hb); (try clear hb); (try clear hb2); (try clear hk); (try clear hi)))
 go_meet
 case rel => exact ⟨_, ((t305 != t284)), s1_, H', ⟨by have := HJ11.out; first | omega | exact Nat.le_refl _⟩, ⟨by (with_reducible repeat (first | apply Kd.R_alloc | apply Kd.R_drewN | apply Kd.R_drew)); exact Kd.R_mono HO_286000.out (fun _ hk => ⟨hk.1, ⟨hk.2.1, ⟨hk.2.2.1, ⟨hk.2.2.2.1, hk.2.2.2.2.1⟩⟩⟩⟩)⟩, ⟨by (with_reducible repeat (first | apply Kd.R_alloc | apply Kd.R_drewN | apply Kd.R_drew)); exact Kd.R_mono HO_286001.out (fun _ hk => ⟨hk.1, ⟨hk.2.1, ⟨hk.2.2.1, ⟨hk.2.2.2.1, hk.2.2.2.2.1⟩⟩⟩⟩)⟩, ⟨by (with_reducible repeat (first | apply Kd.R_alloc | apply Kd.R_drewN | apply Kd.R_drew)); exact Kd.R_mono HO_286002.out (fun _ hk => ⟨hk.1, hk.2.1⟩)⟩, ⟨by (with_reducible repeat (first | apply Kd.R_alloc | apply Kd.R_drewN | apply Kd.R_drew)); exact Kd.R_mono HO_296000.out (fun _ hk => ⟨hk.1.1.1, ⟨hk.1.1.2.1, ⟨hk.1.1.2.2.1, ⟨hk.1.1.2.2.2.1, hk.1.1.2.2.2.2⟩⟩⟩⟩)⟩, ⟨by (with_reducible repeat (first | apply Kd.R_alloc | apply Kd.R_drewN | apply Kd.R_drew)); exact Kd.R_mono HO_296001.out (fun _ hk => ⟨hk.1.1.1, ⟨hk.1.1.2.1, ⟨hk.1.1.2.2.1, ⟨hk.1.1.2.2.2.1, hk.1.1.2.2.2.2⟩⟩⟩⟩)⟩, ⟨by (with_reducible repeat (first | apply Kd.R_alloc | apply Kd.R_drewN | apply Kd.R_drew)); exact Kd.R_mono HO_296002.out (fun _ hk => ⟨hk.1.1, hk.1.2⟩)⟩, ⟨by (with_reducible repeat (first | apply Kd.R_alloc | apply Kd.R_drewN | apply Kd.R_drew)); exact Kd.R_mono HO_307000.out (fun _ hk => ⟨hk.1, ⟨hk.2.1, ⟨hk.2.2.1, ⟨hk.2.2.2.1, hk.2.2.2.2.1⟩⟩⟩⟩)⟩, ⟨by (with_reducible repeat (first | apply Kd.R_alloc | apply Kd.R_drewN | apply Kd.R_drew)); exact Kd.R_mono HO_307001.out (fun _ hk => ⟨hk.1, ⟨hk.2.1, ⟨hk.2.2.1, ⟨hk.2.2.2.1, hk.2.2.2.2.1⟩⟩⟩⟩)⟩, ⟨by (with_reducible repeat (first | apply Kd.R_alloc | apply Kd.R_drewN | apply Kd.R_drew)); exact Kd.R_mono HO_307002.out (fun _ hk => ⟨hk.1, hk.2.1⟩)⟩, ⟨b1_ BK264.out⟩, ⟨b1_ BK285.out⟩, ⟨b1_ BK295.out⟩, ⟨b1_ BK306.out⟩, ⟨by repeat (first | (with_reducible first | exact HB.out | apply below_alloc | apply pw_below_drewN | apply below_drew1) | exact HB.out)⟩⟩}
 {
 replace c83 := Bool.eq_false_iff.mpr c83
 subst c83
 have H1 : (laws_FnExactSweepPresence.j1 kj11 a1 t284 true l0_0 l0_1 l0_2 t275 t278 t281 t296 t299 t302) = some r := by rw [if_neg (show ¬ (false = true) by decide)] at H; exact H
 clear H
 have H := H1
 clear H1
 have H' := Aside0.mk H
 clear H
 have hnb92 := NB306_264.out
 have hnc92 := NB264_306.out
 have hnb93 := NB306_285.out
 have hnc93 := NB285_306.out
 have hnb94 := NB306_295.out
 have hnc94 := NB295_306.out
 have hcz95_0 := c1_ BK306 0 (.slice Ao39 t296.length co39)
 have hcz95_1 := c1_ BK306 1 (.slice Ao44 t299.length co44)
 have hcz95_2 := c1_ BK306 2 (.slice Ao45 t302.length co45)
 have hfz95_0 := f1_ BK306 0
 have hfz95_1 := f1_ BK306 1
 have hfz95_2 := f1_ BK306 2
 have hnb96 := NB285_264.out
 have hnc96 := NB264_285.out
 have hnb97 := NB285_295.out
 have hnc97 := NB295_285.out
 have hcz98_0 := c1_ BK285 0 (.slice Ao23 t275.length co23)
 have hcz98_1 := c1_ BK285 1 (.slice Ao26 t278.length co26)
 have hcz98_2 := c1_ BK285 2 (.slice Ao27 t281.length co27)
 have hfz98_0 := f1_ BK285 0
 have hfz98_1 := f1_ BK285 1
 have hfz98_2 := f1_ BK285 2
 go_wp2_with (first | (go_at_call 27; (with_reducible refine (laws_eqPresence.calls kj11 _ _ t296 _ _ t299 _ _ t302 _ _ t275 _ _ t278 _ _ t281 false _ ?side1 ?side2 ?side3 ?side4 ?side5 ?side6 ?side7 ?side8 ?side9 ?side10 ?side11 ?side12 A82.out).mono ?_); (case side1 => exact y2_ (Kd.R_reads' HO_307000.out).2.2); (case side2 => exact (Kd.R_reads' HO_307000.out).2.1); (case side3 => exact y2_ (Kd.R_reads' HO_307001.out).2.2); (case side4 => exact (Kd.R_reads' HO_307001.out).2.1); (case side5 => exact y2_ (Kd.R_reads' HO_307002.out).2.2); (case side6 => exact (Kd.R_reads' HO_307002.out).2.1); (case side7 => exact y2_ (Kd.R_reads' HO_286000.out).2.2); (case side8 => exact (Kd.R_reads' HO_286000.out).2.1); (case side9 => exact y2_ (Kd.R_reads' HO_286001.out).2.2); (case side10 => exact (Kd.R_reads' HO_286001.out).2.1); (case side11 => exact y2_ (Kd.R_reads' HO_286002.out).2.2); (case side12 => exact (Kd.R_reads' HO_286002.out).2.1); rintro e w99 ⟨rfl, hb⟩; replace HO_286000 := r1_ HO_286000 hb; replace HO_286001 := r1_ HO_286001 hb; replace HO_286002 := r1_ HO_286002 hb; replace HO_296000 := r1_ HO_296000 hb; replace HO_296001 := r1_ HO_296001 hb; replace HO_296002 := r1_ HO_296002 hb; replace HO_307000 := r1_ HO_307000 hb; replace HO_307001 := r1_ HO_307001 hb; replace HO_307002 := r1_ HO_307002 hb; replace HO310 := r1_ HO310 hb; replace HO313 := r1_ HO313 hb; replace HO316 := r1_ HO316 hb; replace BK264 := b3_ BK264 hb; replace BK285 := b3_ BK285 hb; replace BK295 := b3_ BK295 hb; replace BK306 := b3_ BK306 hb; replace HB := Aside0.mk (below_step (y1_ HB.out) hb); (try clear hb); (try clear hb2); (try clear hk); (try clear hi)))
 go_meet
 case rel => exact ⟨_, (true), s1_, H', ⟨by have := HJ11.out; first | omega | exact Nat.le_refl _⟩, ⟨by (with_reducible repeat (first | apply Kd.R_alloc | apply Kd.R_drewN | apply Kd.R_drew)); exact Kd.R_mono HO_286000.out (fun _ hk => ⟨hk.1, ⟨hk.2.1, ⟨hk.2.2.1, ⟨hk.2.2.2.1, hk.2.2.2.2.1⟩⟩⟩⟩)⟩, ⟨by (with_reducible repeat (first | apply Kd.R_alloc | apply Kd.R_drewN | apply Kd.R_drew)); exact Kd.R_mono HO_286001.out (fun _ hk => ⟨hk.1, ⟨hk.2.1, ⟨hk.2.2.1, ⟨hk.2.2.2.1, hk.2.2.2.2.1⟩⟩⟩⟩)⟩, ⟨by (with_reducible repeat (first | apply Kd.R_alloc | apply Kd.R_drewN | apply Kd.R_drew)); exact Kd.R_mono HO_286002.out (fun _ hk => ⟨hk.1, hk.2.1⟩)⟩, ⟨by (with_reducible repeat (first | apply Kd.R_alloc | apply Kd.R_drewN | apply Kd.R_drew)); exact Kd.R_mono HO_296000.out (fun _ hk => ⟨hk.1.1.1, ⟨hk.1.1.2.1, ⟨hk.1.1.2.2.1, ⟨hk.1.1.2.2.2.1, hk.1.1.2.2.2.2⟩⟩⟩⟩)⟩, ⟨by (with_reducible repeat (first | apply Kd.R_alloc | apply Kd.R_drewN | apply Kd.R_drew)); exact Kd.R_mono HO_296001.out (fun _ hk => ⟨hk.1.1.1, ⟨hk.1.1.2.1, ⟨hk.1.1.2.2.1, ⟨hk.1.1.2.2.2.1, hk.1.1.2.2.2.2⟩⟩⟩⟩)⟩, ⟨by (with_reducible repeat (first | apply Kd.R_alloc | apply Kd.R_drewN | apply Kd.R_drew)); exact Kd.R_mono HO_296002.out (fun _ hk => ⟨hk.1.1, hk.1.2⟩)⟩, ⟨by (with_reducible repeat (first | apply Kd.R_alloc | apply Kd.R_drewN | apply Kd.R_drew)); exact Kd.R_mono HO_307000.out (fun _ hk => ⟨hk.1, ⟨hk.2.1, ⟨hk.2.2.1, ⟨hk.2.2.2.1, hk.2.2.2.2.1⟩⟩⟩⟩)⟩, ⟨by (with_reducible repeat (first | apply Kd.R_alloc | apply Kd.R_drewN | apply Kd.R_drew)); exact Kd.R_mono HO_307001.out (fun _ hk => ⟨hk.1, ⟨hk.2.1, ⟨hk.2.2.1, ⟨hk.2.2.2.1, hk.2.2.2.2.1⟩⟩⟩⟩)⟩, ⟨by (with_reducible repeat (first | apply Kd.R_alloc | apply Kd.R_drewN | apply Kd.R_drew)); exact Kd.R_mono HO_307002.out (fun _ hk => ⟨hk.1, hk.2.1⟩)⟩, ⟨b1_ BK264.out⟩, ⟨b1_ BK285.out⟩, ⟨b1_ BK295.out⟩, ⟨b1_ BK306.out⟩, ⟨by repeat (first | (with_reducible first | exact HB.out | apply below_alloc | apply pw_below_drewN | apply below_drew1) | exact HB.out)⟩⟩}}}
 case rest =>
  skip
  {
 clear HC69
 try clear c2
 try clear p2
 try clear c3
 try clear c4
 try clear c4b0
 try clear c5
 try clear c6
 try clear c7
 try clear c8
 try clear c9
 try clear c24
 try clear c26
 try clear c27
 try clear c28
 try clear c30
 try clear c31
 try clear c32
 try clear c33
 try clear c40
 try clear c41
 try clear c42
 try clear c47
 try clear c48
 try clear c49
 try clear c50
 try clear c52
 try clear c53
 try clear c56
 try clear c57
 try clear c58
 try clear c60
 try clear c61
 try clear c64
 try clear c67
 try clear c76
 try clear c77
 try clear c78
 try clear c81
 try clear c81b0
 try clear c83
 try clear c84
 try clear c85
 try clear c86
 try clear c88
 try clear c89
 try clear c92
 try clear c93
 try clear c94
 try clear c96
 try clear c97
 try clear hcz14_0
 try clear hcz14_1
 try clear hcz14_2
 try clear hcz16_0
 try clear hcz16_1
 try clear hcz16_2
 try clear hcz25_0
 try clear hcz25_1
 try clear hcz25_2
 try clear hcz28_0
 try clear hcz28_1
 try clear hcz28_2
 try clear hcz34_0
 try clear hcz34_1
 try clear hcz34_2
 try clear hcz43_0
 try clear hcz43_1
 try clear hcz43_2
 try clear hcz51_0
 try clear hcz51_1
 try clear hcz51_2
 try clear hcz54_0
 try clear hcz54_1
 try clear hcz54_2
 try clear hcz59_0
 try clear hcz59_1
 try clear hcz59_2
 try clear hcz62_0
 try clear hcz62_1
 try clear hcz62_2
 try clear hcz6_0
 try clear hcz6_1
 try clear hcz6_2
 try clear hcz79_0
 try clear hcz79_1
 try clear hcz79_2
 try clear hcz87_0
 try clear hcz87_1
 try clear hcz87_2
 try clear hcz90_0
 try clear hcz90_1
 try clear hcz90_2
 try clear hcz95_0
 try clear hcz95_1
 try clear hcz95_2
 try clear hcz98_0
 try clear hcz98_1
 try clear hcz98_2
 try clear hfz14_0
 try clear hfz14_1
 try clear hfz14_2
 try clear hfz16_0
 try clear hfz16_1
 try clear hfz16_2
 try clear hfz25_0
 try clear hfz25_1
 try clear hfz25_2
 try clear hfz28_0
 try clear hfz28_1
 try clear hfz28_2
 try clear hfz34_0
 try clear hfz34_1
 try clear hfz34_2
 try clear hfz43_0
 try clear hfz43_1
 try clear hfz43_2
 try clear hfz51_0
 try clear hfz51_1
 try clear hfz51_2
 try clear hfz54_0
 try clear hfz54_1
 try clear hfz54_2
 try clear hfz59_0
 try clear hfz59_1
 try clear hfz59_2
 try clear hfz62_0
 try clear hfz62_1
 try clear hfz62_2
 try clear hfz6_0
 try clear hfz6_1
 try clear hfz6_2
 try clear hfz79_0
 try clear hfz79_1
 try clear hfz79_2
 try clear hfz87_0
 try clear hfz87_1
 try clear hfz87_2
 try clear hfz90_0
 try clear hfz90_1
 try clear hfz90_2
 try clear hfz95_0
 try clear hfz95_1
 try clear hfz95_2
 try clear hfz98_0
 try clear hfz98_1
 try clear hfz98_2
 try clear p2
 obtain ⟨kq, x65_68, rfl, HA, HJ68, HO_286000, HO_286001, HO_286002, HO_296000, HO_296001, HO_296002, HO_307000, HO_307001, HO_307002, BK264, BK285, BK295, BK306, HB⟩ := hcut
 have hl296000_68 := (Kd.R_reads' HO_296000.out).1
 rw [hl296000_68] at HO_296000
 (try simp only [hl296000_68])
 (try simp only [hl296000_68] at BK264)
 (try simp only [hl296000_68] at BK285)
 (try simp only [hl296000_68] at BK295)
 (try simp only [hl296000_68] at BK306)
 (try simp only [hl296000_68] at HO_286000)
 (try simp only [hl296000_68] at HO_286001)
 (try simp only [hl296000_68] at HO_286002)
 (try simp only [hl296000_68] at HO_296001)
 (try simp only [hl296000_68] at HO_296002)
 (try simp only [hl296000_68] at HO_307000)
 (try simp only [hl296000_68] at HO_307001)
 (try simp only [hl296000_68] at HO_307002)
 have hl296001_68 := (Kd.R_reads' HO_296001.out).1
 rw [hl296001_68] at HO_296001
 (try simp only [hl296001_68])
 (try simp only [hl296001_68] at BK264)
 (try simp only [hl296001_68] at BK285)
 (try simp only [hl296001_68] at BK295)
 (try simp only [hl296001_68] at BK306)
 (try simp only [hl296001_68] at HO_286000)
 (try simp only [hl296001_68] at HO_286001)
 (try simp only [hl296001_68] at HO_286002)
 (try simp only [hl296001_68] at HO_296000)
 (try simp only [hl296001_68] at HO_296002)
 (try simp only [hl296001_68] at HO_307000)
 (try simp only [hl296001_68] at HO_307001)
 (try simp only [hl296001_68] at HO_307002)
 have hl296002_68 := (Kd.R_reads' HO_296002.out).1
 rw [hl296002_68] at HO_296002
 (try simp only [hl296002_68])
 (try simp only [hl296002_68] at BK264)
 (try simp only [hl296002_68] at BK285)
 (try simp only [hl296002_68] at BK295)
 (try simp only [hl296002_68] at BK306)
 (try simp only [hl296002_68] at HO_286000)
 (try simp only [hl296002_68] at HO_286001)
 (try simp only [hl296002_68] at HO_286002)
 (try simp only [hl296002_68] at HO_296000)
 (try simp only [hl296002_68] at HO_296001)
 (try simp only [hl296002_68] at HO_307000)
 (try simp only [hl296002_68] at HO_307001)
 (try simp only [hl296002_68] at HO_307002)
 cases kq with
 | zero => exact absurd HA.out (by simp [laws_FnExactSweepPresence.j1])
 | succ kj68 =>
  skip
  {
 have H := HA.out
 clear HA
 simp only [laws_FnExactSweepPresence.j1] at H
 by_cases c100 : x65_68 = true
 {
 subst c100
 have H1 : (some false) = some r := by rw [if_pos rfl] at H; exact H
 clear H
 have H := H1
 clear H1
 obtain rfl := Option.some.inj H
 go_wp2
 go_ret
 exact ⟨by first | rfl | (simp [errW_none, errW_some] <;> rfl) | (simp [*, errW_none, errW_some] <;> rfl), by repeat (first | (with_reducible first | exact HB.out | apply below_alloc | apply pw_below_drewN | apply below_drew1) | exact HB.out)⟩}
 {
 replace c100 := Bool.eq_false_iff.mpr c100
 subst c100
 have H1 : ((laws_markPresence.f kj68 t296 t299 t302 1).bind fun bt323 => ((laws_heldPresence.f kj68 bt323.2.1 bt323.2.2.1 bt323.2.2.2 1).bind fun t327 => (if t327 < 0 then (some false) else (if t327 = bt323.1 then ((laws_toPresence.f kj68 l0_0 l0_1 l0_2).bind fun bt328 => ((impl_SweepPresence.f kj68 bt328.1 bt328.2.1 bt328.2.2 a1).bind fun bt337 => ((laws_eqPresence.f kj68 bt337.1 bt337.2.1 bt337.2.2.1 t275 t278 t281).bind fun t348 => (if t348 = true then (laws_FnExactSweepPresence.j2 kj68 bt323.1 (bt337.2.2.2 != t284) bt323.2.1 bt323.2.2.1 bt323.2.2.2) else (laws_FnExactSweepPresence.j2 kj68 bt323.1 true bt323.2.1 bt323.2.2.1 bt323.2.2.2))))) else (some false))))) = some r := by rw [if_neg (show ¬ (false = true) by decide)] at H; exact H
 clear H
 have H := H1
 clear H1
 replace H := Option.bind_eq_some_iff.mp H
 obtain ⟨⟨t323, t324, t325, t326⟩, A1010, H⟩ := H
 replace H : ((laws_heldPresence.f kj68 t324 t325 t326 1).bind fun t327 => (if t327 < 0 then (some false) else (if t327 = t323 then ((laws_toPresence.f kj68 l0_0 l0_1 l0_2).bind fun bt328 => ((impl_SweepPresence.f kj68 bt328.1 bt328.2.1 bt328.2.2 a1).bind fun bt337 => ((laws_eqPresence.f kj68 bt337.1 bt337.2.1 bt337.2.2.1 t275 t278 t281).bind fun t348 => (if t348 = true then (laws_FnExactSweepPresence.j2 kj68 t323 (bt337.2.2.2 != t284) t324 t325 t326) else (laws_FnExactSweepPresence.j2 kj68 t323 true t324 t325 t326))))) else (some false)))) = some r := H
 have A101 := Aside0.mk A1010
 clear A1010
 replace H := Option.bind_eq_some_iff.mp H
 obtain ⟨t327, A1020, H⟩ := H
 replace H : (if t327 < 0 then (some false) else (if t327 = t323 then ((laws_toPresence.f kj68 l0_0 l0_1 l0_2).bind fun bt328 => ((impl_SweepPresence.f kj68 bt328.1 bt328.2.1 bt328.2.2 a1).bind fun bt337 => ((laws_eqPresence.f kj68 bt337.1 bt337.2.1 bt337.2.2.1 t275 t278 t281).bind fun t348 => (if t348 = true then (laws_FnExactSweepPresence.j2 kj68 t323 (bt337.2.2.2 != t284) t324 t325 t326) else (laws_FnExactSweepPresence.j2 kj68 t323 true t324 t325 t326))))) else (some false))) = some r := H
 have A102 := Aside0.mk A1020
 clear A1020
 by_cases c103 : t327 < 0
 {
 rw [if_pos c103] at H
 have c103b0 : decide (t327 < 0) = true := decide_eq_true c103
 clear c103
 obtain rfl := Option.some.inj H
 have hnb104 := NB306_264.out
 have hnc104 := NB264_306.out
 have hnb105 := NB306_285.out
 have hnc105 := NB285_306.out
 have hnb106 := NB306_295.out
 have hnc106 := NB295_306.out
 have hcz107_0 := c1_ BK306 0 (.slice Ao39 t296.length co39)
 have hcz107_1 := c1_ BK306 1 (.slice Ao44 t299.length co44)
 have hcz107_2 := c1_ BK306 2 (.slice Ao45 t302.length co45)
 have hfz107_0 := f1_ BK306 0
 have hfz107_1 := f1_ BK306 1
 have hfz107_2 := f1_ BK306 2
 go_wp2_with (first | ((with_reducible refine gate_callee (f := 28) rfl ?_); refine goesL_ (some 68) rfl rfl Try.func28 s2_ rfl #[.agg #[.slice Ao39 t296.length co39, .slice Ao44 t299.length co44, .slice Ao45 t302.length co45], .int .i64 1] rfl s3_ ?_; (with_reducible refine (laws_markPresence.calls kj68 (fun k_ => some k_ = (.slice Ao39 t296.length co39 : Value).ownBlock) (.slice Ao39 t296.length co39) t296 (fun k_ => some k_ = (.slice Ao44 t299.length co44 : Value).ownBlock) (.slice Ao44 t299.length co44) t299 (fun k_ => some k_ = (.slice Ao45 t302.length co45 : Value).ownBlock) (.slice Ao45 t302.length co45) t302 1 t323 t324 t325 t326 w _ ?side1 ?side2 ?side3 ?side4 ?side5 ?side6 A101.out).mono ?_); (case side1 => repeat (first | (with_reducible first | exact HB.out | apply below_alloc | apply pw_below_drewN | apply below_drew1) | exact HB.out)); (case side2 => exact Kd.R_tight rfl HO_307000.out); (case side3 => exact fun k_ e_ => (HO_307000.out.1 k_ e_.symm).2.2.2.2); (case side4 => exact Kd.R_tight rfl HO_307001.out); (case side5 => exact fun k_ e_ => (HO_307001.out.1 k_ e_.symm).2.2.2.2); (case side6 => exact Kd.R_tight rfl HO_307002.out); rintro e w108 ⟨rfl, hy0, hy1, hy2, hb, hkp⟩; refine ⟨_, rfl, ?_⟩; have n0_ := Aside0.mk (Kd.R_mono (ok' := fun k_ => some k_ ≠ (.slice Ao26 t278.length co26 : Value).ownBlock ∧ some k_ ≠ (.slice Ao31 t319.length co31 : Value).ownBlock ∧ some k_ ≠ (.slice Ao35 t320.length co35 : Value).ownBlock ∧ some k_ ≠ (.slice Ao39 t296.length co39 : Value).ownBlock ∧ some k_ ≠ (.slice Ao44 t299.length co44 : Value).ownBlock) (Kd.R_keptB ((Kd.R_apart' HO_286000.out (Kd.R_typed HO_307002.out) (by decide))) hkp (fun k_ hk_ hs_ => Or.elim hs_ (fun e_ => (hk_.1.2.2.2.1) e_) (fun e_ => Or.elim e_ (fun e_ => (hk_.1.2.2.2.2) e_) (fun e_ => (hk_.2) e_)))) (fun k_ hk_ => ⟨hk_.1.1.1, hk_.1.1.2.1, hk_.1.1.2.2.1, hk_.1.1.2.2.2.1, hk_.1.1.2.2.2.2⟩)); have n1_ := Aside0.mk (Kd.R_mono (ok' := fun k_ => some k_ ≠ (.slice Ao23 t275.length co23 : Value).ownBlock ∧ some k_ ≠ (.slice Ao31 t319.length co31 : Value).ownBlock ∧ some k_ ≠ (.slice Ao35 t320.length co35 : Value).ownBlock ∧ some k_ ≠ (.slice Ao39 t296.length co39 : Value).ownBlock ∧ some k_ ≠ (.slice Ao44 t299.length co44 : Value).ownBlock) (Kd.R_keptB ((Kd.R_apart' HO_286001.out (Kd.R_typed HO_307002.out) (by decide))) hkp (fun k_ hk_ hs_ => Or.elim hs_ (fun e_ => (hk_.1.2.2.2.1) e_) (fun e_ => Or.elim e_ (fun e_ => (hk_.1.2.2.2.2) e_) (fun e_ => (hk_.2) e_)))) (fun k_ hk_ => ⟨hk_.1.1.1, hk_.1.1.2.1, hk_.1.1.2.2.1, hk_.1.1.2.2.2.1, hk_.1.1.2.2.2.2⟩)); have n2_ := Aside0.mk (Kd.R_mono (ok' := fun k_ => some k_ ≠ (.slice Ao36 t321.length co36 : Value).ownBlock ∧ some k_ ≠ (.slice Ao45 t302.length co45 : Value).ownBlock) (Kd.R_keptB ((Kd.R_apart' (Kd.R_apart' HO_286002.out (Kd.R_typed HO_307000.out) (by decide)) (Kd.R_typed HO_307001.out) (by decide))) hkp (fun k_ hk_ hs_ => Or.elim hs_ (fun e_ => (hk_.1.2) e_) (fun e_ => Or.elim e_ (fun e_ => (hk_.2) e_) (fun e_ => (hk_.1.1.2) e_)))) (fun k_ hk_ => ⟨hk_.1.1.1.1, hk_.1.1.1.2⟩)); have n3_ := Aside0.mk (Kd.R_mono (ok' := fun k_ => some k_ ≠ (.slice Ao23 t275.length co23 : Value).ownBlock ∧ some k_ ≠ (.slice Ao26 t278.length co26 : Value).ownBlock ∧ some k_ ≠ (.slice Ao35 t320.length co35 : Value).ownBlock ∧ some k_ ≠ (.slice Ao39 t296.length co39 : Value).ownBlock ∧ some k_ ≠ (.slice Ao44 t299.length co44 : Value).ownBlock) (Kd.R_keptB ((Kd.R_apart' HO_296000.out (Kd.R_typed HO_307002.out) (by decide))) hkp (fun k_ hk_ hs_ => Or.elim hs_ (fun e_ => (hk_.1.2.2.2.1) e_) (fun e_ => Or.elim e_ (fun e_ => (hk_.1.2.2.2.2) e_) (fun e_ => (hk_.2) e_)))) (fun k_ hk_ => ⟨hk_.1.1.1, hk_.1.1.2.1, hk_.1.1.2.2.1, hk_.1.1.2.2.2.1, hk_.1.1.2.2.2.2⟩)); have n4_ := Aside0.mk (Kd.R_mono (ok' := fun k_ => some k_ ≠ (.slice Ao23 t275.length co23 : Value).ownBlock ∧ some k_ ≠ (.slice Ao26 t278.length co26 : Value).ownBlock ∧ some k_ ≠ (.slice Ao31 t319.length co31 : Value).ownBlock ∧ some k_ ≠ (.slice Ao39 t296.length co39 : Value).ownBlock ∧ some k_ ≠ (.slice Ao44 t299.length co44 : Value).ownBlock) (Kd.R_keptB ((Kd.R_apart' HO_296001.out (Kd.R_typed HO_307002.out) (by decide))) hkp (fun k_ hk_ hs_ => Or.elim hs_ (fun e_ => (hk_.1.2.2.2.1) e_) (fun e_ => Or.elim e_ (fun e_ => (hk_.1.2.2.2.2) e_) (fun e_ => (hk_.2) e_)))) (fun k_ hk_ => ⟨hk_.1.1.1, hk_.1.1.2.1, hk_.1.1.2.2.1, hk_.1.1.2.2.2.1, hk_.1.1.2.2.2.2⟩)); have n5_ := Aside0.mk (Kd.R_mono (ok' := fun k_ => some k_ ≠ (.slice Ao27 t281.length co27 : Value).ownBlock ∧ some k_ ≠ (.slice Ao45 t302.length co45 : Value).ownBlock) (Kd.R_keptB ((Kd.R_apart' (Kd.R_apart' HO_296002.out (Kd.R_typed HO_307000.out) (by decide)) (Kd.R_typed HO_307001.out) (by decide))) hkp (fun k_ hk_ hs_ => Or.elim hs_ (fun e_ => (hk_.1.2) e_) (fun e_ => Or.elim e_ (fun e_ => (hk_.2) e_) (fun e_ => (hk_.1.1.2) e_)))) (fun k_ hk_ => ⟨hk_.1.1.1.1, hk_.1.1.1.2⟩)); have n6_ := Aside0.mk (Kd.R_reok rfl hy0 (fun k_ e_ => HO_307000.out.1 k_ e_)); have n7_ := Aside0.mk (Kd.R_reok rfl hy1 (fun k_ e_ => HO_307001.out.1 k_ e_)); have n8_ := Aside0.mk (Kd.R_reok rfl hy2 (fun k_ e_ => HO_307002.out.1 k_ e_)); have n9_ := Aside0.mk (blk_kept (b1_ BK264.out) hkp (fun hs_ => Or.elim hs_ (fun e_ => (fun e_ => (Kd.R_ne HO_307000.out BK264.out (by decide)) e_) e_) (fun e_ => Or.elim e_ (fun e_ => (fun e_ => (Kd.R_ne HO_307001.out BK264.out (by decide)) e_) e_) (fun e_ => (fun e_ => (Kd.R_ne HO_307002.out BK264.out (by decide)) e_) e_)))); have n10_ := Aside0.mk (blk_kept (b1_ BK285.out) hkp (fun hs_ => Or.elim hs_ (fun e_ => (fun e_ => (Kd.R_ne HO_307000.out BK285.out (by decide)) e_) e_) (fun e_ => Or.elim e_ (fun e_ => (fun e_ => (Kd.R_ne HO_307001.out BK285.out (by decide)) e_) e_) (fun e_ => (fun e_ => (Kd.R_ne HO_307002.out BK285.out (by decide)) e_) e_)))); have n11_ := Aside0.mk (blk_kept (b1_ BK295.out) hkp (fun hs_ => Or.elim hs_ (fun e_ => (fun e_ => (Kd.R_ne HO_307000.out BK295.out (by decide)) e_) e_) (fun e_ => Or.elim e_ (fun e_ => (fun e_ => (Kd.R_ne HO_307001.out BK295.out (by decide)) e_) e_) (fun e_ => (fun e_ => (Kd.R_ne HO_307002.out BK295.out (by decide)) e_) e_)))); have n12_ := Aside0.mk (blk_kept (b1_ BK306.out) hkp (fun hs_ => Or.elim hs_ (fun e_ => (fun e_ => (Kd.R_ne HO_307000.out BK306.out (by decide)) e_) e_) (fun e_ => Or.elim e_ (fun e_ => (fun e_ => (Kd.R_ne HO_307001.out BK306.out (by decide)) e_) e_) (fun e_ => (fun e_ => (Kd.R_ne HO_307002.out BK306.out (by decide)) e_) e_)))); have n13_ := Aside0.mk (hb); clear HO_286000; clear HO_286001; clear HO_286002; clear HO_296000; clear HO_296001; clear HO_296002; clear HO_307000; clear HO_307001; clear HO_307002; clear BK264; clear BK285; clear BK295; clear BK306; clear HB; have HO_286000 := n0_; have HO_286001 := n1_; have HO_286002 := n2_; have HO_296000 := n3_; have HO_296001 := n4_; have HO_296002 := n5_; have HO_307000 := n6_; have HO_307001 := n7_; have HO_307002 := n8_; have BK264 := n9_; have BK285 := n10_; have BK295 := n11_; have BK306 := n12_; have HB := n13_; clear n0_ n1_ n2_ n3_ n4_ n5_ n6_ n7_ n8_ n9_ n10_ n11_ n12_ n13_; (try clear hb); (try clear hkp); (try clear hy0); (try clear hy1); (try clear hy2); have hcz109_0 := c1_ BK306 0 (.slice Ao39 t296.length co39); have hcz109_1 := c1_ BK306 1 (.slice Ao44 t299.length co44); have hcz109_2 := c1_ BK306 2 (.slice Ao45 t302.length co45); have hfz109_0 := f1_ BK306 0; have hfz109_1 := f1_ BK306 1; have hfz109_2 := f1_ BK306 2) | ((with_reducible refine gate_callee (f := 29) rfl ?_); refine goesL_ (some 71) rfl rfl Try.func29 s2_ rfl #[.agg #[.slice Ao39 t324.length co39, .slice Ao44 t325.length co44, .slice Ao45 t326.length co45], .int .i64 1] rfl (by (try simp only [List.map_toArray, List.map_cons, List.map_nil]); first | done | (rw [show t324.length = t296.length from (Kd.R_reads' HO_307000.out).1.symm, show t325.length = t299.length from (Kd.R_reads' HO_307001.out).1.symm, show t326.length = t302.length from (Kd.R_reads' HO_307002.out).1.symm] <;> rfl) | rfl | (simp only [List.length_drop, List.length_take]; rfl)) ?_; (with_reducible refine (laws_heldPresence.calls kj68 _ _ t324 _ _ t325 _ _ t326 1 t327 _ ?side1 ?side2 ?side3 ?side4 ?side5 ?side6 A102.out).mono ?_); (case side1 => exact y2_ (Kd.R_reads' HO_307000.out).2.2); (case side2 => rw [show t324.length = t296.length from (Kd.R_reads' HO_307000.out).1.symm]; exact (Kd.R_reads' HO_307000.out).2.1); (case side3 => exact y2_ (Kd.R_reads' HO_307001.out).2.2); (case side4 => rw [show t325.length = t299.length from (Kd.R_reads' HO_307001.out).1.symm]; exact (Kd.R_reads' HO_307001.out).2.1); (case side5 => exact y2_ (Kd.R_reads' HO_307002.out).2.2); (case side6 => rw [show t326.length = t302.length from (Kd.R_reads' HO_307002.out).1.symm]; exact (Kd.R_reads' HO_307002.out).2.1); rintro e w110 ⟨rfl, hb⟩; refine ⟨_, rfl, ?_⟩; replace HO_286000 := r1_ HO_286000 hb; replace HO_286001 := r1_ HO_286001 hb; replace HO_286002 := r1_ HO_286002 hb; replace HO_296000 := r1_ HO_296000 hb; replace HO_296001 := r1_ HO_296001 hb; replace HO_296002 := r1_ HO_296002 hb; replace HO_307000 := r1_ HO_307000 hb; replace HO_307001 := r1_ HO_307001 hb; replace HO_307002 := r1_ HO_307002 hb; replace BK264 := b3_ BK264 hb; replace BK285 := b3_ BK285 hb; replace BK295 := b3_ BK295 hb; replace BK306 := b3_ BK306 hb; replace HB := Aside0.mk (below_step (y1_ HB.out) hb); (try clear hb); (try clear hb2); (try clear hk); (try clear hi)))
 go_ret
 exact ⟨by first | rfl | (simp [errW_none, errW_some] <;> rfl) | (simp [*, errW_none, errW_some] <;> rfl), by repeat (first | (with_reducible first | exact HB.out | apply below_alloc | apply pw_below_drewN | apply below_drew1) | exact HB.out)⟩}
 {
 rw [if_neg c103] at H
 have c103b0 : decide (t327 < 0) = false := decide_eq_false c103
 clear c103
 by_cases c111 : t327 = t323
 {
 rw [if_pos c111] at H
 have c111b0 : (t327 == t323) = true := beq_iff_eq.mpr c111
 have c111b1 : (t327 != t323) = false := bne_eq_false_iff_eq.mpr c111
 clear c111
 replace H := Option.bind_eq_some_iff.mp H
 obtain ⟨⟨t328, t331, t334⟩, A1120, H⟩ := H
 replace H : ((impl_SweepPresence.f kj68 t328 t331 t334 a1).bind fun bt337 => ((laws_eqPresence.f kj68 bt337.1 bt337.2.1 bt337.2.2.1 t275 t278 t281).bind fun t348 => (if t348 = true then (laws_FnExactSweepPresence.j2 kj68 t323 (bt337.2.2.2 != t284) t324 t325 t326) else (laws_FnExactSweepPresence.j2 kj68 t323 true t324 t325 t326)))) = some r := H
 have A112 := Aside0.mk A1120
 clear A1120
 replace H := Option.bind_eq_some_iff.mp H
 obtain ⟨⟨t337, t340, t343, t346⟩, A1130, H⟩ := H
 replace H : ((laws_eqPresence.f kj68 t337 t340 t343 t275 t278 t281).bind fun t348 => (if t348 = true then (laws_FnExactSweepPresence.j2 kj68 t323 (t346 != t284) t324 t325 t326) else (laws_FnExactSweepPresence.j2 kj68 t323 true t324 t325 t326))) = some r := H
 have A113 := Aside0.mk A1130
 clear A1130
 have HC114 := Aside0.mk H
 clear H
 have hnb115 := NB306_264.out
 have hnc115 := NB264_306.out
 have hnb116 := NB306_285.out
 have hnc116 := NB285_306.out
 have hnb117 := NB306_295.out
 have hnc117 := NB295_306.out
 have hcz118_0 := c1_ BK306 0 (.slice Ao39 t296.length co39)
 have hcz118_1 := c1_ BK306 1 (.slice Ao44 t299.length co44)
 have hcz118_2 := c1_ BK306 2 (.slice Ao45 t302.length co45)
 have hfz118_0 := f1_ BK306 0
 have hfz118_1 := f1_ BK306 1
 have hfz118_2 := f1_ BK306 2
 go_upto_region 25 with (first | ((with_reducible refine gate_callee (f := 28) rfl ?_); refine goesL_ (some 68) rfl rfl Try.func28 s2_ rfl #[.agg #[.slice Ao39 t296.length co39, .slice Ao44 t299.length co44, .slice Ao45 t302.length co45], .int .i64 1] rfl s3_ ?_; (with_reducible refine (laws_markPresence.calls kj68 (fun k_ => some k_ = (.slice Ao39 t296.length co39 : Value).ownBlock) (.slice Ao39 t296.length co39) t296 (fun k_ => some k_ = (.slice Ao44 t299.length co44 : Value).ownBlock) (.slice Ao44 t299.length co44) t299 (fun k_ => some k_ = (.slice Ao45 t302.length co45 : Value).ownBlock) (.slice Ao45 t302.length co45) t302 1 t323 t324 t325 t326 w _ ?side1 ?side2 ?side3 ?side4 ?side5 ?side6 A101.out).mono ?_); (case side1 => repeat (first | (with_reducible first | exact HB.out | apply below_alloc | apply pw_below_drewN | apply below_drew1) | exact HB.out)); (case side2 => exact Kd.R_tight rfl HO_307000.out); (case side3 => exact fun k_ e_ => (HO_307000.out.1 k_ e_.symm).2.2.2.2); (case side4 => exact Kd.R_tight rfl HO_307001.out); (case side5 => exact fun k_ e_ => (HO_307001.out.1 k_ e_.symm).2.2.2.2); (case side6 => exact Kd.R_tight rfl HO_307002.out); rintro e w119 ⟨rfl, hy0, hy1, hy2, hb, hkp⟩; refine ⟨_, rfl, ?_⟩; have n0_ := Aside0.mk (Kd.R_mono (ok' := fun k_ => some k_ ≠ (.slice Ao26 t278.length co26 : Value).ownBlock ∧ some k_ ≠ (.slice Ao31 t319.length co31 : Value).ownBlock ∧ some k_ ≠ (.slice Ao35 t320.length co35 : Value).ownBlock ∧ some k_ ≠ (.slice Ao39 t296.length co39 : Value).ownBlock ∧ some k_ ≠ (.slice Ao44 t299.length co44 : Value).ownBlock) (Kd.R_keptB ((Kd.R_apart' HO_286000.out (Kd.R_typed HO_307002.out) (by decide))) hkp (fun k_ hk_ hs_ => Or.elim hs_ (fun e_ => (hk_.1.2.2.2.1) e_) (fun e_ => Or.elim e_ (fun e_ => (hk_.1.2.2.2.2) e_) (fun e_ => (hk_.2) e_)))) (fun k_ hk_ => ⟨hk_.1.1.1, hk_.1.1.2.1, hk_.1.1.2.2.1, hk_.1.1.2.2.2.1, hk_.1.1.2.2.2.2⟩)); have n1_ := Aside0.mk (Kd.R_mono (ok' := fun k_ => some k_ ≠ (.slice Ao23 t275.length co23 : Value).ownBlock ∧ some k_ ≠ (.slice Ao31 t319.length co31 : Value).ownBlock ∧ some k_ ≠ (.slice Ao35 t320.length co35 : Value).ownBlock ∧ some k_ ≠ (.slice Ao39 t296.length co39 : Value).ownBlock ∧ some k_ ≠ (.slice Ao44 t299.length co44 : Value).ownBlock) (Kd.R_keptB ((Kd.R_apart' HO_286001.out (Kd.R_typed HO_307002.out) (by decide))) hkp (fun k_ hk_ hs_ => Or.elim hs_ (fun e_ => (hk_.1.2.2.2.1) e_) (fun e_ => Or.elim e_ (fun e_ => (hk_.1.2.2.2.2) e_) (fun e_ => (hk_.2) e_)))) (fun k_ hk_ => ⟨hk_.1.1.1, hk_.1.1.2.1, hk_.1.1.2.2.1, hk_.1.1.2.2.2.1, hk_.1.1.2.2.2.2⟩)); have n2_ := Aside0.mk (Kd.R_mono (ok' := fun k_ => some k_ ≠ (.slice Ao36 t321.length co36 : Value).ownBlock ∧ some k_ ≠ (.slice Ao45 t302.length co45 : Value).ownBlock) (Kd.R_keptB ((Kd.R_apart' (Kd.R_apart' HO_286002.out (Kd.R_typed HO_307000.out) (by decide)) (Kd.R_typed HO_307001.out) (by decide))) hkp (fun k_ hk_ hs_ => Or.elim hs_ (fun e_ => (hk_.1.2) e_) (fun e_ => Or.elim e_ (fun e_ => (hk_.2) e_) (fun e_ => (hk_.1.1.2) e_)))) (fun k_ hk_ => ⟨hk_.1.1.1.1, hk_.1.1.1.2⟩)); have n3_ := Aside0.mk (Kd.R_mono (ok' := fun k_ => some k_ ≠ (.slice Ao23 t275.length co23 : Value).ownBlock ∧ some k_ ≠ (.slice Ao26 t278.length co26 : Value).ownBlock ∧ some k_ ≠ (.slice Ao35 t320.length co35 : Value).ownBlock ∧ some k_ ≠ (.slice Ao39 t296.length co39 : Value).ownBlock ∧ some k_ ≠ (.slice Ao44 t299.length co44 : Value).ownBlock) (Kd.R_keptB ((Kd.R_apart' HO_296000.out (Kd.R_typed HO_307002.out) (by decide))) hkp (fun k_ hk_ hs_ => Or.elim hs_ (fun e_ => (hk_.1.2.2.2.1) e_) (fun e_ => Or.elim e_ (fun e_ => (hk_.1.2.2.2.2) e_) (fun e_ => (hk_.2) e_)))) (fun k_ hk_ => ⟨hk_.1.1.1, hk_.1.1.2.1, hk_.1.1.2.2.1, hk_.1.1.2.2.2.1, hk_.1.1.2.2.2.2⟩)); have n4_ := Aside0.mk (Kd.R_mono (ok' := fun k_ => some k_ ≠ (.slice Ao23 t275.length co23 : Value).ownBlock ∧ some k_ ≠ (.slice Ao26 t278.length co26 : Value).ownBlock ∧ some k_ ≠ (.slice Ao31 t319.length co31 : Value).ownBlock ∧ some k_ ≠ (.slice Ao39 t296.length co39 : Value).ownBlock ∧ some k_ ≠ (.slice Ao44 t299.length co44 : Value).ownBlock) (Kd.R_keptB ((Kd.R_apart' HO_296001.out (Kd.R_typed HO_307002.out) (by decide))) hkp (fun k_ hk_ hs_ => Or.elim hs_ (fun e_ => (hk_.1.2.2.2.1) e_) (fun e_ => Or.elim e_ (fun e_ => (hk_.1.2.2.2.2) e_) (fun e_ => (hk_.2) e_)))) (fun k_ hk_ => ⟨hk_.1.1.1, hk_.1.1.2.1, hk_.1.1.2.2.1, hk_.1.1.2.2.2.1, hk_.1.1.2.2.2.2⟩)); have n5_ := Aside0.mk (Kd.R_mono (ok' := fun k_ => some k_ ≠ (.slice Ao27 t281.length co27 : Value).ownBlock ∧ some k_ ≠ (.slice Ao45 t302.length co45 : Value).ownBlock) (Kd.R_keptB ((Kd.R_apart' (Kd.R_apart' HO_296002.out (Kd.R_typed HO_307000.out) (by decide)) (Kd.R_typed HO_307001.out) (by decide))) hkp (fun k_ hk_ hs_ => Or.elim hs_ (fun e_ => (hk_.1.2) e_) (fun e_ => Or.elim e_ (fun e_ => (hk_.2) e_) (fun e_ => (hk_.1.1.2) e_)))) (fun k_ hk_ => ⟨hk_.1.1.1.1, hk_.1.1.1.2⟩)); have n6_ := Aside0.mk (Kd.R_reok rfl hy0 (fun k_ e_ => HO_307000.out.1 k_ e_)); have n7_ := Aside0.mk (Kd.R_reok rfl hy1 (fun k_ e_ => HO_307001.out.1 k_ e_)); have n8_ := Aside0.mk (Kd.R_reok rfl hy2 (fun k_ e_ => HO_307002.out.1 k_ e_)); have n9_ := Aside0.mk (blk_kept (b1_ BK264.out) hkp (fun hs_ => Or.elim hs_ (fun e_ => (fun e_ => (Kd.R_ne HO_307000.out BK264.out (by decide)) e_) e_) (fun e_ => Or.elim e_ (fun e_ => (fun e_ => (Kd.R_ne HO_307001.out BK264.out (by decide)) e_) e_) (fun e_ => (fun e_ => (Kd.R_ne HO_307002.out BK264.out (by decide)) e_) e_)))); have n10_ := Aside0.mk (blk_kept (b1_ BK285.out) hkp (fun hs_ => Or.elim hs_ (fun e_ => (fun e_ => (Kd.R_ne HO_307000.out BK285.out (by decide)) e_) e_) (fun e_ => Or.elim e_ (fun e_ => (fun e_ => (Kd.R_ne HO_307001.out BK285.out (by decide)) e_) e_) (fun e_ => (fun e_ => (Kd.R_ne HO_307002.out BK285.out (by decide)) e_) e_)))); have n11_ := Aside0.mk (blk_kept (b1_ BK295.out) hkp (fun hs_ => Or.elim hs_ (fun e_ => (fun e_ => (Kd.R_ne HO_307000.out BK295.out (by decide)) e_) e_) (fun e_ => Or.elim e_ (fun e_ => (fun e_ => (Kd.R_ne HO_307001.out BK295.out (by decide)) e_) e_) (fun e_ => (fun e_ => (Kd.R_ne HO_307002.out BK295.out (by decide)) e_) e_)))); have n12_ := Aside0.mk (blk_kept (b1_ BK306.out) hkp (fun hs_ => Or.elim hs_ (fun e_ => (fun e_ => (Kd.R_ne HO_307000.out BK306.out (by decide)) e_) e_) (fun e_ => Or.elim e_ (fun e_ => (fun e_ => (Kd.R_ne HO_307001.out BK306.out (by decide)) e_) e_) (fun e_ => (fun e_ => (Kd.R_ne HO_307002.out BK306.out (by decide)) e_) e_)))); have n13_ := Aside0.mk (hb); clear HO_286000; clear HO_286001; clear HO_286002; clear HO_296000; clear HO_296001; clear HO_296002; clear HO_307000; clear HO_307001; clear HO_307002; clear BK264; clear BK285; clear BK295; clear BK306; clear HB; have HO_286000 := n0_; have HO_286001 := n1_; have HO_286002 := n2_; have HO_296000 := n3_; have HO_296001 := n4_; have HO_296002 := n5_; have HO_307000 := n6_; have HO_307001 := n7_; have HO_307002 := n8_; have BK264 := n9_; have BK285 := n10_; have BK295 := n11_; have BK306 := n12_; have HB := n13_; clear n0_ n1_ n2_ n3_ n4_ n5_ n6_ n7_ n8_ n9_ n10_ n11_ n12_ n13_; (try clear hb); (try clear hkp); (try clear hy0); (try clear hy1); (try clear hy2); have hcz120_0 := c1_ BK306 0 (.slice Ao39 t296.length co39); have hcz120_1 := c1_ BK306 1 (.slice Ao44 t299.length co44); have hcz120_2 := c1_ BK306 2 (.slice Ao45 t302.length co45); have hfz120_0 := f1_ BK306 0; have hfz120_1 := f1_ BK306 1; have hfz120_2 := f1_ BK306 2) | ((with_reducible refine gate_callee (f := 29) rfl ?_); refine goesL_ (some 71) rfl rfl Try.func29 s2_ rfl #[.agg #[.slice Ao39 t324.length co39, .slice Ao44 t325.length co44, .slice Ao45 t326.length co45], .int .i64 1] rfl (by (try simp only [List.map_toArray, List.map_cons, List.map_nil]); first | done | (rw [show t324.length = t296.length from (Kd.R_reads' HO_307000.out).1.symm, show t325.length = t299.length from (Kd.R_reads' HO_307001.out).1.symm, show t326.length = t302.length from (Kd.R_reads' HO_307002.out).1.symm] <;> rfl) | rfl | (simp only [List.length_drop, List.length_take]; rfl)) ?_; (with_reducible refine (laws_heldPresence.calls kj68 _ _ t324 _ _ t325 _ _ t326 1 t327 _ ?side1 ?side2 ?side3 ?side4 ?side5 ?side6 A102.out).mono ?_); (case side1 => exact y2_ (Kd.R_reads' HO_307000.out).2.2); (case side2 => rw [show t324.length = t296.length from (Kd.R_reads' HO_307000.out).1.symm]; exact (Kd.R_reads' HO_307000.out).2.1); (case side3 => exact y2_ (Kd.R_reads' HO_307001.out).2.2); (case side4 => rw [show t325.length = t299.length from (Kd.R_reads' HO_307001.out).1.symm]; exact (Kd.R_reads' HO_307001.out).2.1); (case side5 => exact y2_ (Kd.R_reads' HO_307002.out).2.2); (case side6 => rw [show t326.length = t302.length from (Kd.R_reads' HO_307002.out).1.symm]; exact (Kd.R_reads' HO_307002.out).2.1); rintro e w121 ⟨rfl, hb⟩; refine ⟨_, rfl, ?_⟩; replace HO_286000 := r1_ HO_286000 hb; replace HO_286001 := r1_ HO_286001 hb; replace HO_286002 := r1_ HO_286002 hb; replace HO_296000 := r1_ HO_296000 hb; replace HO_296001 := r1_ HO_296001 hb; replace HO_296002 := r1_ HO_296002 hb; replace HO_307000 := r1_ HO_307000 hb; replace HO_307001 := r1_ HO_307001 hb; replace HO_307002 := r1_ HO_307002 hb; replace BK264 := b3_ BK264 hb; replace BK285 := b3_ BK285 hb; replace BK295 := b3_ BK295 hb; replace BK306 := b3_ BK306 hb; replace HB := Aside0.mk (below_step (y1_ HB.out) hb); (try clear hb); (try clear hb2); (try clear hk); (try clear hi); have hnb122 := NB264_285.out; have hnc122 := NB285_264.out; have hnb123 := NB264_295.out; have hnc123 := NB295_264.out; have hcz124_0 := c1_ BK264 0 (.slice A0_0 l0_0.length c0_0); have hcz124_1 := c1_ BK264 1 (.slice A0_1 l0_1.length c0_1); have hcz124_2 := c1_ BK264 2 (.slice A0_2 l0_2.length c0_2); have hfz124_0 := f1_ BK264 0; have hfz124_1 := f1_ BK264 1; have hfz124_2 := f1_ BK264 2) | ((with_reducible refine gate_callee (f := 26) rfl ?_); refine goesL_ (some 79) rfl rfl Try.func26 s2_ rfl #[.agg #[.slice A0_0 l0_0.length c0_0, .slice A0_1 l0_1.length c0_1, .slice A0_2 l0_2.length c0_2]] rfl s3_ ?_; (with_reducible refine (laws_toPresence.calls kj68 _ _ l0_0 _ _ l0_1 _ _ l0_2 t328 t331 t334 _ ?side1 ?side2 ?side3 ?side4 ?side5 ?side6 A112.out).mono ?_); (case side1 => exact y2_ (Kd.C_below HR0_0.out HB.out)); (case side2 => exact HC0_0.out); (case side3 => exact y2_ (Kd.C_below HR0_1.out HB.out)); (case side4 => exact HC0_1.out); (case side5 => exact y2_ (Kd.C_below HR0_2.out HB.out)); (case side6 => exact HC0_2.out); rintro e w125 ⟨v329, v332, v335, rfl, ho0, ho1, ho2, hb⟩; refine ⟨_, rfl, ?_⟩; have n0_ := Aside0.mk (Kd.R_mono (Kd.R_told (Kd.R_told (Kd.R_old (b2_ HO_286000.out) hb) (Kd.R_base ho0)) (Kd.R_base ho1)) (fun _ h_ => h_.1)); have n1_ := Aside0.mk (Kd.R_mono (Kd.R_told (Kd.R_told (Kd.R_old (b2_ HO_286001.out) hb) (Kd.R_base ho0)) (Kd.R_base ho1)) (fun _ h_ => h_.1)); have n2_ := Aside0.mk (Kd.R_elder' (b2_ HO_286002.out) (Kd.R_base ho2) hb); have n3_ := Aside0.mk (Kd.R_mono (Kd.R_told (Kd.R_told (Kd.R_old (b2_ HO_296000.out) hb) (Kd.R_base ho0)) (Kd.R_base ho1)) (fun _ h_ => h_.1)); have n4_ := Aside0.mk (Kd.R_mono (Kd.R_told (Kd.R_told (Kd.R_old (b2_ HO_296001.out) hb) (Kd.R_base ho0)) (Kd.R_base ho1)) (fun _ h_ => h_.1)); have n5_ := Aside0.mk (Kd.R_elder' (b2_ HO_296002.out) (Kd.R_base ho2) hb); have n6_ := Aside0.mk (Kd.R_mono (Kd.R_told (Kd.R_told (Kd.R_old (b2_ HO_307000.out) hb) (Kd.R_base ho0)) (Kd.R_base ho1)) (fun _ h_ => h_.1)); have n7_ := Aside0.mk (Kd.R_mono (Kd.R_told (Kd.R_told (Kd.R_old (b2_ HO_307001.out) hb) (Kd.R_base ho0)) (Kd.R_base ho1)) (fun _ h_ => h_.1)); have n8_ := Aside0.mk (Kd.R_elder' (b2_ HO_307002.out) (Kd.R_base ho2) hb); have n9_ := Aside0.mk (Kd.R_lower (Kd.R_new' (Kd.R_new' (Kd.R_new' (Kd.R_new' (Kd.R_new' (Kd.R_new' ho0 (Kd.R_lt (b2_ HO_286000.out))) (Kd.R_lt (b2_ HO_286001.out))) (Kd.R_lt (b2_ HO_296000.out))) (Kd.R_lt (b2_ HO_296001.out))) (Kd.R_lt (b2_ HO_307000.out))) (Kd.R_lt (b2_ HO_307001.out))) (below_size (y1_ HB.out))); have n10_ := Aside0.mk (Kd.R_lower (Kd.R_new' (Kd.R_new' (Kd.R_new' (Kd.R_new' (Kd.R_new' (Kd.R_new' ho1 (Kd.R_lt (b2_ HO_286000.out))) (Kd.R_lt (b2_ HO_286001.out))) (Kd.R_lt (b2_ HO_296000.out))) (Kd.R_lt (b2_ HO_296001.out))) (Kd.R_lt (b2_ HO_307000.out))) (Kd.R_lt (b2_ HO_307001.out))) (below_size (y1_ HB.out))); have n11_ := Aside0.mk (Kd.R_lower (Kd.R_new' (Kd.R_new' (Kd.R_new' ho2 (Kd.R_lt (b2_ HO_286002.out))) (Kd.R_lt (b2_ HO_296002.out))) (Kd.R_lt (b2_ HO_307002.out))) (below_size (y1_ HB.out))); have n12_ := b3_ BK264 hb; have n13_ := b3_ BK285 hb; have n14_ := b3_ BK295 hb; have n15_ := b3_ BK306 hb; have n16_ := Aside0.mk (below_step (y1_ HB.out) hb); clear HO_286000; clear HO_286001; clear HO_286002; clear HO_296000; clear HO_296001; clear HO_296002; clear HO_307000; clear HO_307001; clear HO_307002; clear BK264; clear BK285; clear BK295; clear BK306; clear HB; have HO_286000 := n0_; have HO_286001 := n1_; have HO_286002 := n2_; have HO_296000 := n3_; have HO_296001 := n4_; have HO_296002 := n5_; have HO_307000 := n6_; have HO_307001 := n7_; have HO_307002 := n8_; have HO330 := n9_; have HO333 := n10_; have HO336 := n11_; have BK264 := n12_; have BK285 := n13_; have BK295 := n14_; have BK306 := n15_; have HB := n16_; clear n0_ n1_ n2_ n3_ n4_ n5_ n6_ n7_ n8_ n9_ n10_ n11_ n12_ n13_ n14_ n15_ n16_; (try clear hb); (try clear hb2); (try clear hk); (try clear hi); (try clear ho0); (try clear ho1); (try clear ho2); obtain ⟨Ao126, co126, eo126⟩ := Kd.R_slice HO330.out; subst eo126; obtain ⟨Ao127, co127, eo127⟩ := Kd.R_slice HO333.out; subst eo127; obtain ⟨Ao128, co128, eo128⟩ := Kd.R_slice HO336.out; subst eo128) | ((with_reducible refine gate_callee (f := 31) rfl ?_); refine goesL_ (some 81) rfl rfl Try.func31 s2_ rfl #[.agg #[.slice Ao126 t328.length co126, .slice Ao127 t331.length co127, .slice Ao128 t334.length co128], .int .i64 a1] rfl s3_ ?_; (with_reducible refine (impl_SweepPresence.calls kj68 _ _ t328 _ _ t331 _ _ t334 a1 t337 t340 t343 t346 _ ?side1 ?side2 ?side3 ?side4 ?side5 ?side6 A113.out).mono ?_); (case side1 => exact y2_ (Kd.R_reads' HO330.out).2.2); (case side2 => exact (Kd.R_reads' HO330.out).2.1); (case side3 => exact y2_ (Kd.R_reads' HO333.out).2.2); (case side4 => exact (Kd.R_reads' HO333.out).2.1); (case side5 => exact y2_ (Kd.R_reads' HO336.out).2.2); (case side6 => exact (Kd.R_reads' HO336.out).2.1); rintro e w129 ⟨v338, v341, v344, rfl, ho0, ho1, ho2, hb⟩; refine ⟨_, rfl, ?_⟩; have n0_ := Aside0.mk (Kd.R_mono (Kd.R_told (Kd.R_told (Kd.R_old (b2_ HO_286000.out) hb) (Kd.R_base ho0)) (Kd.R_base ho1)) (fun _ h_ => h_.1)); have n1_ := Aside0.mk (Kd.R_mono (Kd.R_told (Kd.R_told (Kd.R_old (b2_ HO_286001.out) hb) (Kd.R_base ho0)) (Kd.R_base ho1)) (fun _ h_ => h_.1)); have n2_ := Aside0.mk (Kd.R_elder' (b2_ HO_286002.out) (Kd.R_base ho2) hb); have n3_ := Aside0.mk (Kd.R_mono (Kd.R_told (Kd.R_told (Kd.R_old (b2_ HO_296000.out) hb) (Kd.R_base ho0)) (Kd.R_base ho1)) (fun _ h_ => h_.1)); have n4_ := Aside0.mk (Kd.R_mono (Kd.R_told (Kd.R_told (Kd.R_old (b2_ HO_296001.out) hb) (Kd.R_base ho0)) (Kd.R_base ho1)) (fun _ h_ => h_.1)); have n5_ := Aside0.mk (Kd.R_elder' (b2_ HO_296002.out) (Kd.R_base ho2) hb); have n6_ := Aside0.mk (Kd.R_mono (Kd.R_told (Kd.R_told (Kd.R_old (b2_ HO_307000.out) hb) (Kd.R_base ho0)) (Kd.R_base ho1)) (fun _ h_ => h_.1)); have n7_ := Aside0.mk (Kd.R_mono (Kd.R_told (Kd.R_told (Kd.R_old (b2_ HO_307001.out) hb) (Kd.R_base ho0)) (Kd.R_base ho1)) (fun _ h_ => h_.1)); have n8_ := Aside0.mk (Kd.R_elder' (b2_ HO_307002.out) (Kd.R_base ho2) hb); have n9_ := Aside0.mk (Kd.R_mono (Kd.R_told (Kd.R_told (Kd.R_old (b2_ HO330.out) hb) (Kd.R_base ho0)) (Kd.R_base ho1)) (fun _ h_ => h_.1)); have n10_ := Aside0.mk (Kd.R_mono (Kd.R_told (Kd.R_told (Kd.R_old (b2_ HO333.out) hb) (Kd.R_base ho0)) (Kd.R_base ho1)) (fun _ h_ => h_.1)); have n11_ := Aside0.mk (Kd.R_elder' (b2_ HO336.out) (Kd.R_base ho2) hb); have n12_ := Aside0.mk (Kd.R_lower (Kd.R_new' (Kd.R_new' (Kd.R_new' (Kd.R_new' (Kd.R_new' (Kd.R_new' (Kd.R_new' (Kd.R_new' ho0 (Kd.R_lt (b2_ HO_286000.out))) (Kd.R_lt (b2_ HO_286001.out))) (Kd.R_lt (b2_ HO_296000.out))) (Kd.R_lt (b2_ HO_296001.out))) (Kd.R_lt (b2_ HO_307000.out))) (Kd.R_lt (b2_ HO_307001.out))) (Kd.R_lt (b2_ HO330.out))) (Kd.R_lt (b2_ HO333.out))) (below_size (y1_ HB.out))); have n13_ := Aside0.mk (Kd.R_lower (Kd.R_new' (Kd.R_new' (Kd.R_new' (Kd.R_new' (Kd.R_new' (Kd.R_new' (Kd.R_new' (Kd.R_new' ho1 (Kd.R_lt (b2_ HO_286000.out))) (Kd.R_lt (b2_ HO_286001.out))) (Kd.R_lt (b2_ HO_296000.out))) (Kd.R_lt (b2_ HO_296001.out))) (Kd.R_lt (b2_ HO_307000.out))) (Kd.R_lt (b2_ HO_307001.out))) (Kd.R_lt (b2_ HO330.out))) (Kd.R_lt (b2_ HO333.out))) (below_size (y1_ HB.out))); have n14_ := Aside0.mk (Kd.R_lower (Kd.R_new' (Kd.R_new' (Kd.R_new' (Kd.R_new' ho2 (Kd.R_lt (b2_ HO_286002.out))) (Kd.R_lt (b2_ HO_296002.out))) (Kd.R_lt (b2_ HO_307002.out))) (Kd.R_lt (b2_ HO336.out))) (below_size (y1_ HB.out))); have n15_ := b3_ BK264 hb; have n16_ := b3_ BK285 hb; have n17_ := b3_ BK295 hb; have n18_ := b3_ BK306 hb; have n19_ := Aside0.mk (below_step (y1_ HB.out) hb); clear HO_286000; clear HO_286001; clear HO_286002; clear HO_296000; clear HO_296001; clear HO_296002; clear HO_307000; clear HO_307001; clear HO_307002; clear HO330; clear HO333; clear HO336; clear BK264; clear BK285; clear BK295; clear BK306; clear HB; have HO_286000 := n0_; have HO_286001 := n1_; have HO_286002 := n2_; have HO_296000 := n3_; have HO_296001 := n4_; have HO_296002 := n5_; have HO_307000 := n6_; have HO_307001 := n7_; have HO_307002 := n8_; have HO330 := n9_; have HO333 := n10_; have HO336 := n11_; have HO339 := n12_; have HO342 := n13_; have HO345 := n14_; have BK264 := n15_; have BK285 := n16_; have BK295 := n17_; have BK306 := n18_; have HB := n19_; clear n0_ n1_ n2_ n3_ n4_ n5_ n6_ n7_ n8_ n9_ n10_ n11_ n12_ n13_ n14_ n15_ n16_ n17_ n18_ n19_; (try clear hb); (try clear hb2); (try clear hk); (try clear hi); (try clear ho0); (try clear ho1); (try clear ho2)) | ((with_reducible refine gate_dst (N := 14) rfl ?_); refine bx_ 14 #[.slice none 0 0, .slice none 0 0, .slice none 0 0] 27 ?_; intro gb347 hg w130 hbox hb; have GW347 := b6_ hg HB; have GE347 := b6_ hg HB; have NB264_347 := b4_ hg BK264; have NB347_264 := b5_ hg BK264; have NB285_347 := b4_ hg BK285; have NB347_285 := b5_ hg BK285; have NB295_347 := b4_ hg BK295; have NB347_295 := b5_ hg BK295; have NB306_347 := b4_ hg BK306; have NB347_306 := b5_ hg BK306; replace HO_286000 := r1_ HO_286000 hb; replace HO_286001 := r1_ HO_286001 hb; replace HO_286002 := r1_ HO_286002 hb; replace HO_296000 := r1_ HO_296000 hb; replace HO_296001 := r1_ HO_296001 hb; replace HO_296002 := r1_ HO_296002 hb; replace HO_307000 := r1_ HO_307000 hb; replace HO_307001 := r1_ HO_307001 hb; replace HO_307002 := r1_ HO_307002 hb; replace HO330 := r1_ HO330 hb; replace HO333 := r1_ HO333 hb; replace HO336 := r1_ HO336 hb; replace HO339 := r1_ HO339 hb; replace HO342 := r1_ HO342 hb; replace HO345 := r1_ HO345 hb; replace BK264 := b3_ BK264 hb; replace BK285 := b3_ BK285 hb; replace BK295 := b3_ BK295 hb; replace BK306 := b3_ BK306 hb; replace HB := Aside0.mk (below_step (y1_ HB.out) hb); have BK347 := Aside0.mk (hbox); clear hb hbox hg; obtain ⟨Ao131, co131, eo131⟩ := Kd.R_slice HO339.out; subst eo131; have hnb132 := NB347_264.out; have hnc132 := NB264_347.out; have hnb133 := NB347_285.out; have hnc133 := NB285_347.out; have hnb134 := NB347_295.out; have hnc134 := NB295_347.out; have hnb135 := NB347_306.out; have hnc135 := NB306_347.out; have hcz136_0 := c1_ BK347 0 (.slice none 0 0); have hcz136_1 := c1_ BK347 1 (.slice none 0 0); have hcz136_2 := c1_ BK347 2 (.slice none 0 0); have hfz136_0 := f1_ BK347 0; have hfz136_1 := f1_ BK347 1; have hfz136_2 := f1_ BK347 2; obtain ⟨Ao137, co137, eo137⟩ := Kd.R_slice HO342.out; subst eo137; obtain ⟨Ao138, co138, eo138⟩ := Kd.R_slice HO345.out; subst eo138))
 (try simp only [Act.put, List.setIfInBounds_toArray, List.set_cons_zero, List.set_cons_succ])
 go_cut [92] (fun v92 wc => ∃ (kq : Nat) (x92_113 : Bool), v92 = .bool x92_113 ∧ Aside0 (laws_FnExactSweepPresence.j2 kq t323 x92_113 t324 t325 t326 = some r) ∧ Aside0 (kq ≤ kj68) ∧ Aside0 (Kd.R k63 63 wc w.heap.size (fun k_ => some k_ ≠ ((.slice Ao26 t278.length co26) : Value).ownBlock ∧ some k_ ≠ ((.slice Ao31 t319.length co31) : Value).ownBlock ∧ some k_ ≠ ((.slice Ao35 t320.length co35) : Value).ownBlock ∧ some k_ ≠ ((.slice Ao39 t296.length co39) : Value).ownBlock ∧ some k_ ≠ ((.slice Ao44 t299.length co44) : Value).ownBlock ∧ some k_ ≠ ((.slice Ao131 t337.length co131) : Value).ownBlock ∧ some k_ ≠ ((.slice Ao137 t340.length co137) : Value).ownBlock) (.slice Ao23 t275.length co23) t275) ∧ Aside0 (Kd.R k63 63 wc w.heap.size (fun k_ => some k_ ≠ ((.slice Ao23 t275.length co23) : Value).ownBlock ∧ some k_ ≠ ((.slice Ao31 t319.length co31) : Value).ownBlock ∧ some k_ ≠ ((.slice Ao35 t320.length co35) : Value).ownBlock ∧ some k_ ≠ ((.slice Ao39 t296.length co39) : Value).ownBlock ∧ some k_ ≠ ((.slice Ao44 t299.length co44) : Value).ownBlock ∧ some k_ ≠ ((.slice Ao131 t337.length co131) : Value).ownBlock ∧ some k_ ≠ ((.slice Ao137 t340.length co137) : Value).ownBlock) (.slice Ao26 t278.length co26) t278) ∧ Aside0 (Kd.R k73 73 wc w.heap.size (fun k_ => some k_ ≠ ((.slice Ao36 t321.length co36) : Value).ownBlock ∧ some k_ ≠ ((.slice Ao45 t302.length co45) : Value).ownBlock ∧ some k_ ≠ ((.slice Ao138 t343.length co138) : Value).ownBlock) (.slice Ao27 t281.length co27) t281) ∧ Aside0 (Kd.R k63 63 wc w.heap.size (fun k_ => some k_ ≠ ((.slice Ao23 t275.length co23) : Value).ownBlock ∧ some k_ ≠ ((.slice Ao26 t278.length co26) : Value).ownBlock ∧ some k_ ≠ ((.slice Ao35 t320.length co35) : Value).ownBlock ∧ some k_ ≠ ((.slice Ao39 t296.length co39) : Value).ownBlock ∧ some k_ ≠ ((.slice Ao44 t299.length co44) : Value).ownBlock ∧ some k_ ≠ ((.slice Ao131 t337.length co131) : Value).ownBlock ∧ some k_ ≠ ((.slice Ao137 t340.length co137) : Value).ownBlock) (.slice Ao31 t319.length co31) t319) ∧ Aside0 (Kd.R k63 63 wc w.heap.size (fun k_ => some k_ ≠ ((.slice Ao23 t275.length co23) : Value).ownBlock ∧ some k_ ≠ ((.slice Ao26 t278.length co26) : Value).ownBlock ∧ some k_ ≠ ((.slice Ao31 t319.length co31) : Value).ownBlock ∧ some k_ ≠ ((.slice Ao39 t296.length co39) : Value).ownBlock ∧ some k_ ≠ ((.slice Ao44 t299.length co44) : Value).ownBlock ∧ some k_ ≠ ((.slice Ao131 t337.length co131) : Value).ownBlock ∧ some k_ ≠ ((.slice Ao137 t340.length co137) : Value).ownBlock) (.slice Ao35 t320.length co35) t320) ∧ Aside0 (Kd.R k73 73 wc w.heap.size (fun k_ => some k_ ≠ ((.slice Ao27 t281.length co27) : Value).ownBlock ∧ some k_ ≠ ((.slice Ao45 t302.length co45) : Value).ownBlock ∧ some k_ ≠ ((.slice Ao138 t343.length co138) : Value).ownBlock) (.slice Ao36 t321.length co36) t321) ∧ Aside0 (Kd.R k63 63 wc w.heap.size (fun k_ => some k_ ≠ ((.slice Ao23 t275.length co23) : Value).ownBlock ∧ some k_ ≠ ((.slice Ao26 t278.length co26) : Value).ownBlock ∧ some k_ ≠ ((.slice Ao31 t319.length co31) : Value).ownBlock ∧ some k_ ≠ ((.slice Ao35 t320.length co35) : Value).ownBlock ∧ some k_ ≠ ((.slice Ao44 t299.length co44) : Value).ownBlock ∧ some k_ ≠ ((.slice Ao131 t337.length co131) : Value).ownBlock ∧ some k_ ≠ ((.slice Ao137 t340.length co137) : Value).ownBlock) (.slice Ao39 t296.length co39) t324) ∧ Aside0 (Kd.R k63 63 wc w.heap.size (fun k_ => some k_ ≠ ((.slice Ao23 t275.length co23) : Value).ownBlock ∧ some k_ ≠ ((.slice Ao26 t278.length co26) : Value).ownBlock ∧ some k_ ≠ ((.slice Ao31 t319.length co31) : Value).ownBlock ∧ some k_ ≠ ((.slice Ao35 t320.length co35) : Value).ownBlock ∧ some k_ ≠ ((.slice Ao39 t296.length co39) : Value).ownBlock ∧ some k_ ≠ ((.slice Ao131 t337.length co131) : Value).ownBlock ∧ some k_ ≠ ((.slice Ao137 t340.length co137) : Value).ownBlock) (.slice Ao44 t299.length co44) t325) ∧ Aside0 (Kd.R k73 73 wc w.heap.size (fun k_ => some k_ ≠ ((.slice Ao27 t281.length co27) : Value).ownBlock ∧ some k_ ≠ ((.slice Ao36 t321.length co36) : Value).ownBlock ∧ some k_ ≠ ((.slice Ao138 t343.length co138) : Value).ownBlock) (.slice Ao45 t302.length co45) t326) ∧ Aside0 (Kd.R k63 63 wc w.heap.size (fun k_ => some k_ ≠ ((.slice Ao23 t275.length co23) : Value).ownBlock ∧ some k_ ≠ ((.slice Ao26 t278.length co26) : Value).ownBlock ∧ some k_ ≠ ((.slice Ao31 t319.length co31) : Value).ownBlock ∧ some k_ ≠ ((.slice Ao35 t320.length co35) : Value).ownBlock ∧ some k_ ≠ ((.slice Ao39 t296.length co39) : Value).ownBlock ∧ some k_ ≠ ((.slice Ao44 t299.length co44) : Value).ownBlock ∧ some k_ ≠ ((.slice Ao137 t340.length co137) : Value).ownBlock) (.slice Ao131 t337.length co131) t337) ∧ Aside0 (Kd.R k63 63 wc w.heap.size (fun k_ => some k_ ≠ ((.slice Ao23 t275.length co23) : Value).ownBlock ∧ some k_ ≠ ((.slice Ao26 t278.length co26) : Value).ownBlock ∧ some k_ ≠ ((.slice Ao31 t319.length co31) : Value).ownBlock ∧ some k_ ≠ ((.slice Ao35 t320.length co35) : Value).ownBlock ∧ some k_ ≠ ((.slice Ao39 t296.length co39) : Value).ownBlock ∧ some k_ ≠ ((.slice Ao44 t299.length co44) : Value).ownBlock ∧ some k_ ≠ ((.slice Ao131 t337.length co131) : Value).ownBlock) (.slice Ao137 t340.length co137) t340) ∧ Aside0 (Kd.R k73 73 wc w.heap.size (fun k_ => some k_ ≠ ((.slice Ao27 t281.length co27) : Value).ownBlock ∧ some k_ ≠ ((.slice Ao36 t321.length co36) : Value).ownBlock ∧ some k_ ≠ ((.slice Ao45 t302.length co45) : Value).ownBlock) (.slice Ao138 t343.length co138) t343) ∧ Aside0 (wc.heap[gb264]? = some (.cells #[(.slice A0_0 l0_0.length c0_0), (.slice A0_1 l0_1.length c0_1), (.slice A0_2 l0_2.length c0_2)] 45 (0, 0))) ∧ Aside0 (wc.heap[gb285]? = some (.cells #[(.slice Ao23 t275.length co23), (.slice Ao26 t278.length co26), (.slice Ao27 t281.length co27)] 27 (0, 0))) ∧ Aside0 (wc.heap[gb295]? = some (.cells #[(.slice Ao31 t319.length co31), (.slice Ao35 t320.length co35), (.slice Ao36 t321.length co36)] 27 (0, 0))) ∧ Aside0 (wc.heap[gb306]? = some (.cells #[(.slice Ao39 t296.length co39), (.slice Ao44 t299.length co44), (.slice Ao45 t302.length co45)] 27 (0, 0))) ∧ Aside0 (wc.heap[gb347]? = some (.cells #[(.slice Ao131 t337.length co131), (.slice Ao137 t340.length co137), (.slice Ao138 t343.length co138)] 27 (0, 0))) ∧ Aside0 (Below w.heap.size w wc))
 case first =>
  as_aux_lemma =>
   skip
   {
 have H := HC114.out
 clear HC114
 replace H := Option.bind_eq_some_iff.mp H
 obtain ⟨t348, A1390, H⟩ := H
 replace H : (if t348 = true then (laws_FnExactSweepPresence.j2 kj68 t323 (t346 != t284) t324 t325 t326) else (laws_FnExactSweepPresence.j2 kj68 t323 true t324 t325 t326)) = some r := H
 have A139 := Aside0.mk A1390
 clear A1390
 by_cases c140 : t348 = true
 {
 subst c140
 have H1 : (laws_FnExactSweepPresence.j2 kj68 t323 (t346 != t284) t324 t325 t326) = some r := by rw [if_pos rfl] at H; exact H
 clear H
 have H := H1
 clear H1
 have H' := Aside0.mk H
 clear H
 have hnb141 := NB347_264.out
 have hnc141 := NB264_347.out
 have hnb142 := NB347_285.out
 have hnc142 := NB285_347.out
 have hnb143 := NB347_295.out
 have hnc143 := NB295_347.out
 have hnb144 := NB347_306.out
 have hnc144 := NB306_347.out
 have hcz145_0 := c1_ BK347 0 (.slice none 0 0)
 have hcz145_1 := c1_ BK347 1 (.slice none 0 0)
 have hcz145_2 := c1_ BK347 2 (.slice none 0 0)
 have hfz145_0 := f1_ BK347 0
 have hfz145_1 := f1_ BK347 1
 have hfz145_2 := f1_ BK347 2
 have hnb146 := NB285_264.out
 have hnc146 := NB264_285.out
 have hnb147 := NB285_295.out
 have hnc147 := NB295_285.out
 have hnb148 := NB285_306.out
 have hnc148 := NB306_285.out
 have hcz149_0 := c1_ BK285 0 (.slice Ao23 t275.length co23)
 have hcz149_1 := c1_ BK285 1 (.slice Ao26 t278.length co26)
 have hcz149_2 := c1_ BK285 2 (.slice Ao27 t281.length co27)
 have hfz149_0 := f1_ BK285 0
 have hfz149_1 := f1_ BK285 1
 have hfz149_2 := f1_ BK285 2
 go_wp2_with (first | ((with_reducible refine gate_callee (f := 27) rfl ?_); refine goesL_ (some 86) rfl rfl Try.func27 s2_ rfl #[.agg #[.slice Ao131 t337.length co131, .slice Ao137 t340.length co137, .slice Ao138 t343.length co138], .agg #[.slice Ao23 t275.length co23, .slice Ao26 t278.length co26, .slice Ao27 t281.length co27]] rfl s3_ ?_; (with_reducible refine (laws_eqPresence.calls kj68 _ _ t337 _ _ t340 _ _ t343 _ _ t275 _ _ t278 _ _ t281 true _ ?side1 ?side2 ?side3 ?side4 ?side5 ?side6 ?side7 ?side8 ?side9 ?side10 ?side11 ?side12 A139.out).mono ?_); (case side1 => refine (Kd.R_reads' (e := 63) (base := w.heap.size) (ok := fun k_ => ((((((((some k_ ≠ (.slice Ao137 t340.length co137 : Value).ownBlock ∧ some k_ ≠ (.slice Ao23 t275.length co23 : Value).ownBlock) ∧ some k_ ≠ (.slice Ao26 t278.length co26 : Value).ownBlock) ∧ some k_ ≠ (.slice Ao31 t319.length co31 : Value).ownBlock) ∧ some k_ ≠ (.slice Ao35 t320.length co35 : Value).ownBlock) ∧ some k_ ≠ (.slice Ao39 t296.length co39 : Value).ownBlock) ∧ some k_ ≠ (.slice Ao44 t299.length co44 : Value).ownBlock) ∧ some k_ ≠ (.slice Ao126 t328.length co126 : Value).ownBlock) ∧ some k_ ≠ (.slice Ao127 t331.length co127 : Value).ownBlock)) (n := t337.length) (c := co131) ?_).2.2; exact (by (with_reducible repeat (first | apply Kd.R_alloc | apply Kd.R_drewN | apply Kd.R_drew)); exact (Kd.R_mono (Kd.R_far3 (g := gb347) (Kd.R_types HO339.out BK347.out (by decide)) (fun _ hk => hk.2)) (fun _ h_ => h_.1)))); (case side2 => exact (Kd.R_reads' HO339.out).2.1); (case side3 => refine (Kd.R_reads' (e := 63) (base := w.heap.size) (ok := fun k_ => ((((((((some k_ ≠ (.slice Ao131 t337.length co131 : Value).ownBlock ∧ some k_ ≠ (.slice Ao23 t275.length co23 : Value).ownBlock) ∧ some k_ ≠ (.slice Ao26 t278.length co26 : Value).ownBlock) ∧ some k_ ≠ (.slice Ao31 t319.length co31 : Value).ownBlock) ∧ some k_ ≠ (.slice Ao35 t320.length co35 : Value).ownBlock) ∧ some k_ ≠ (.slice Ao39 t296.length co39 : Value).ownBlock) ∧ some k_ ≠ (.slice Ao44 t299.length co44 : Value).ownBlock) ∧ some k_ ≠ (.slice Ao126 t328.length co126 : Value).ownBlock) ∧ some k_ ≠ (.slice Ao127 t331.length co127 : Value).ownBlock)) (n := t340.length) (c := co137) ?_).2.2; exact (by (with_reducible repeat (first | apply Kd.R_alloc | apply Kd.R_drewN | apply Kd.R_drew)); exact (Kd.R_mono (Kd.R_far3 (g := gb347) (Kd.R_types HO342.out BK347.out (by decide)) (fun _ hk => hk.2)) (fun _ h_ => h_.1)))); (case side4 => exact (Kd.R_reads' HO342.out).2.1); (case side5 => refine (Kd.R_reads' (e := 73) (base := w.heap.size) (ok := fun k_ => ((((True ∧ some k_ ≠ (.slice Ao27 t281.length co27 : Value).ownBlock) ∧ some k_ ≠ (.slice Ao36 t321.length co36 : Value).ownBlock) ∧ some k_ ≠ (.slice Ao45 t302.length co45 : Value).ownBlock) ∧ some k_ ≠ (.slice Ao128 t334.length co128 : Value).ownBlock)) (n := t343.length) (c := co138) ?_).2.2; exact (by (with_reducible repeat (first | apply Kd.R_alloc | apply Kd.R_drewN | apply Kd.R_drew)); exact (Kd.R_mono (Kd.R_far3 (g := gb347) (Kd.R_types HO345.out BK347.out (by decide)) (fun _ hk => hk.2)) (fun _ h_ => h_.1)))); (case side6 => exact (Kd.R_reads' HO345.out).2.1); (case side7 => refine (Kd.R_reads' (e := 63) (base := w.heap.size) (ok := fun k_ => (((((some k_ ≠ (.slice Ao26 t278.length co26 : Value).ownBlock ∧ (some k_ ≠ (.slice Ao31 t319.length co31 : Value).ownBlock ∧ (some k_ ≠ (.slice Ao35 t320.length co35 : Value).ownBlock ∧ (some k_ ≠ (.slice Ao39 t296.length co39 : Value).ownBlock ∧ some k_ ≠ (.slice Ao44 t299.length co44 : Value).ownBlock)))) ∧ some k_ ≠ (.slice Ao126 t328.length co126 : Value).ownBlock) ∧ some k_ ≠ (.slice Ao127 t331.length co127 : Value).ownBlock) ∧ some k_ ≠ (.slice Ao131 t337.length co131 : Value).ownBlock) ∧ some k_ ≠ (.slice Ao137 t340.length co137 : Value).ownBlock)) (n := t275.length) (c := co23) ?_).2.2; exact (by (with_reducible repeat (first | apply Kd.R_alloc | apply Kd.R_drewN | apply Kd.R_drew)); exact (Kd.R_mono (Kd.R_far3 (g := gb347) (Kd.R_types HO_286000.out BK347.out (by decide)) (fun _ hk => hk.2)) (fun _ h_ => h_.1)))); (case side8 => exact (Kd.R_reads' HO_286000.out).2.1); (case side9 => refine (Kd.R_reads' (e := 63) (base := w.heap.size) (ok := fun k_ => (((((some k_ ≠ (.slice Ao23 t275.length co23 : Value).ownBlock ∧ (some k_ ≠ (.slice Ao31 t319.length co31 : Value).ownBlock ∧ (some k_ ≠ (.slice Ao35 t320.length co35 : Value).ownBlock ∧ (some k_ ≠ (.slice Ao39 t296.length co39 : Value).ownBlock ∧ some k_ ≠ (.slice Ao44 t299.length co44 : Value).ownBlock)))) ∧ some k_ ≠ (.slice Ao126 t328.length co126 : Value).ownBlock) ∧ some k_ ≠ (.slice Ao127 t331.length co127 : Value).ownBlock) ∧ some k_ ≠ (.slice Ao131 t337.length co131 : Value).ownBlock) ∧ some k_ ≠ (.slice Ao137 t340.length co137 : Value).ownBlock)) (n := t278.length) (c := co26) ?_).2.2; exact (by (with_reducible repeat (first | apply Kd.R_alloc | apply Kd.R_drewN | apply Kd.R_drew)); exact (Kd.R_mono (Kd.R_far3 (g := gb347) (Kd.R_types HO_286001.out BK347.out (by decide)) (fun _ hk => hk.2)) (fun _ h_ => h_.1)))); (case side10 => exact (Kd.R_reads' HO_286001.out).2.1); (case side11 => refine (Kd.R_reads' (e := 73) (base := w.heap.size) (ok := fun k_ => (((some k_ ≠ (.slice Ao36 t321.length co36 : Value).ownBlock ∧ some k_ ≠ (.slice Ao45 t302.length co45 : Value).ownBlock) ∧ some k_ ≠ (.slice Ao128 t334.length co128 : Value).ownBlock) ∧ some k_ ≠ (.slice Ao138 t343.length co138 : Value).ownBlock)) (n := t281.length) (c := co27) ?_).2.2; exact (by (with_reducible repeat (first | apply Kd.R_alloc | apply Kd.R_drewN | apply Kd.R_drew)); exact (Kd.R_mono (Kd.R_far3 (g := gb347) (Kd.R_types HO_286002.out BK347.out (by decide)) (fun _ hk => hk.2)) (fun _ h_ => h_.1)))); (case side12 => exact (Kd.R_reads' HO_286002.out).2.1); rintro e w150 ⟨rfl, hb⟩; refine ⟨_, rfl, ?_⟩; replace HO_286000 := Aside0.mk (Kd.R_below (by (with_reducible repeat (first | apply Kd.R_alloc | apply Kd.R_drewN | apply Kd.R_drew)); exact (Kd.R_mono (Kd.R_far3 (g := gb347) (Kd.R_types HO_286000.out BK347.out (by decide)) (fun _ hk => hk.2)) (fun _ h_ => h_.1))) hb); replace HO_286001 := Aside0.mk (Kd.R_below (by (with_reducible repeat (first | apply Kd.R_alloc | apply Kd.R_drewN | apply Kd.R_drew)); exact (Kd.R_mono (Kd.R_far3 (g := gb347) (Kd.R_types HO_286001.out BK347.out (by decide)) (fun _ hk => hk.2)) (fun _ h_ => h_.1))) hb); replace HO_286002 := Aside0.mk (Kd.R_below (by (with_reducible repeat (first | apply Kd.R_alloc | apply Kd.R_drewN | apply Kd.R_drew)); exact (Kd.R_mono (Kd.R_far3 (g := gb347) (Kd.R_types HO_286002.out BK347.out (by decide)) (fun _ hk => hk.2)) (fun _ h_ => h_.1))) hb); replace HO_296000 := Aside0.mk (Kd.R_below (by (with_reducible repeat (first | apply Kd.R_alloc | apply Kd.R_drewN | apply Kd.R_drew)); exact (Kd.R_mono (Kd.R_far3 (g := gb347) (Kd.R_types HO_296000.out BK347.out (by decide)) (fun _ hk => hk.2)) (fun _ h_ => h_.1))) hb); replace HO_296001 := Aside0.mk (Kd.R_below (by (with_reducible repeat (first | apply Kd.R_alloc | apply Kd.R_drewN | apply Kd.R_drew)); exact (Kd.R_mono (Kd.R_far3 (g := gb347) (Kd.R_types HO_296001.out BK347.out (by decide)) (fun _ hk => hk.2)) (fun _ h_ => h_.1))) hb); replace HO_296002 := Aside0.mk (Kd.R_below (by (with_reducible repeat (first | apply Kd.R_alloc | apply Kd.R_drewN | apply Kd.R_drew)); exact (Kd.R_mono (Kd.R_far3 (g := gb347) (Kd.R_types HO_296002.out BK347.out (by decide)) (fun _ hk => hk.2)) (fun _ h_ => h_.1))) hb); replace HO_307000 := Aside0.mk (Kd.R_below (by (with_reducible repeat (first | apply Kd.R_alloc | apply Kd.R_drewN | apply Kd.R_drew)); exact (Kd.R_mono (Kd.R_far3 (g := gb347) (Kd.R_types HO_307000.out BK347.out (by decide)) (fun _ hk => hk.2)) (fun _ h_ => h_.1))) hb); replace HO_307001 := Aside0.mk (Kd.R_below (by (with_reducible repeat (first | apply Kd.R_alloc | apply Kd.R_drewN | apply Kd.R_drew)); exact (Kd.R_mono (Kd.R_far3 (g := gb347) (Kd.R_types HO_307001.out BK347.out (by decide)) (fun _ hk => hk.2)) (fun _ h_ => h_.1))) hb); replace HO_307002 := Aside0.mk (Kd.R_below (by (with_reducible repeat (first | apply Kd.R_alloc | apply Kd.R_drewN | apply Kd.R_drew)); exact (Kd.R_mono (Kd.R_far3 (g := gb347) (Kd.R_types HO_307002.out BK347.out (by decide)) (fun _ hk => hk.2)) (fun _ h_ => h_.1))) hb); replace HO330 := Aside0.mk (Kd.R_below (by (with_reducible repeat (first | apply Kd.R_alloc | apply Kd.R_drewN | apply Kd.R_drew)); exact (Kd.R_mono (Kd.R_far3 (g := gb347) (Kd.R_types HO330.out BK347.out (by decide)) (fun _ hk => hk.2)) (fun _ h_ => h_.1))) hb); replace HO333 := Aside0.mk (Kd.R_below (by (with_reducible repeat (first | apply Kd.R_alloc | apply Kd.R_drewN | apply Kd.R_drew)); exact (Kd.R_mono (Kd.R_far3 (g := gb347) (Kd.R_types HO333.out BK347.out (by decide)) (fun _ hk => hk.2)) (fun _ h_ => h_.1))) hb); replace HO336 := Aside0.mk (Kd.R_below (by (with_reducible repeat (first | apply Kd.R_alloc | apply Kd.R_drewN | apply Kd.R_drew)); exact (Kd.R_mono (Kd.R_far3 (g := gb347) (Kd.R_types HO336.out BK347.out (by decide)) (fun _ hk => hk.2)) (fun _ h_ => h_.1))) hb); replace HO339 := Aside0.mk (Kd.R_below (by (with_reducible repeat (first | apply Kd.R_alloc | apply Kd.R_drewN | apply Kd.R_drew)); exact (Kd.R_mono (Kd.R_far3 (g := gb347) (Kd.R_types HO339.out BK347.out (by decide)) (fun _ hk => hk.2)) (fun _ h_ => h_.1))) hb); replace HO342 := Aside0.mk (Kd.R_below (by (with_reducible repeat (first | apply Kd.R_alloc | apply Kd.R_drewN | apply Kd.R_drew)); exact (Kd.R_mono (Kd.R_far3 (g := gb347) (Kd.R_types HO342.out BK347.out (by decide)) (fun _ hk => hk.2)) (fun _ h_ => h_.1))) hb); replace HO345 := Aside0.mk (Kd.R_below (by (with_reducible repeat (first | apply Kd.R_alloc | apply Kd.R_drewN | apply Kd.R_drew)); exact (Kd.R_mono (Kd.R_far3 (g := gb347) (Kd.R_types HO345.out BK347.out (by decide)) (fun _ hk => hk.2)) (fun _ h_ => h_.1))) hb); replace BK264 := Aside0.mk (blk_below (g := gb264) (o := .cells #[.slice A0_0 l0_0.length c0_0, .slice A0_1 l0_1.length c0_1, .slice A0_2 l0_2.length c0_2] 45 (0, 0)) (by (with_reducible repeat (first | refine blk_drewN ?_ _ | refine blk_drew ?_ | refine blk_alloc ?_ _)); refine blk_far3 ?_ NB264_347.out; (with_reducible repeat (first | refine blk_drewN ?_ _ | refine blk_drew ?_ | refine blk_alloc ?_ _)); exact BK264.out) hb); replace BK285 := Aside0.mk (blk_below (g := gb285) (o := .cells #[.slice Ao23 t275.length co23, .slice Ao26 t278.length co26, .slice Ao27 t281.length co27] 27 (0, 0)) (by (with_reducible repeat (first | refine blk_drewN ?_ _ | refine blk_drew ?_ | refine blk_alloc ?_ _)); refine blk_far3 ?_ NB285_347.out; (with_reducible repeat (first | refine blk_drewN ?_ _ | refine blk_drew ?_ | refine blk_alloc ?_ _)); exact BK285.out) hb); replace BK295 := Aside0.mk (blk_below (g := gb295) (o := .cells #[.slice Ao31 t319.length co31, .slice Ao35 t320.length co35, .slice Ao36 t321.length co36] 27 (0, 0)) (by (with_reducible repeat (first | refine blk_drewN ?_ _ | refine blk_drew ?_ | refine blk_alloc ?_ _)); refine blk_far3 ?_ NB295_347.out; (with_reducible repeat (first | refine blk_drewN ?_ _ | refine blk_drew ?_ | refine blk_alloc ?_ _)); exact BK295.out) hb); replace BK306 := Aside0.mk (blk_below (g := gb306) (o := .cells #[.slice Ao39 t296.length co39, .slice Ao44 t299.length co44, .slice Ao45 t302.length co45] 27 (0, 0)) (by (with_reducible repeat (first | refine blk_drewN ?_ _ | refine blk_drew ?_ | refine blk_alloc ?_ _)); refine blk_far3 ?_ NB306_347.out; (with_reducible repeat (first | refine blk_drewN ?_ _ | refine blk_drew ?_ | refine blk_alloc ?_ _)); exact BK306.out) hb); replace BK347 := Aside0.mk (blk_below (g := gb347) (o := .cells #[.slice Ao131 t337.length co131, .slice Ao137 t340.length co137, .slice Ao138 t343.length co138] 27 (0, 0)) (by (with_reducible repeat (first | refine blk_drewN ?_ _ | refine blk_drew ?_ | refine blk_alloc ?_ _)); refine blk_put3 (cs := #[.slice none 0 0, .slice none 0 0, .slice none 0 0]) ?_ rfl; (with_reducible repeat (first | refine blk_drewN ?_ _ | refine blk_drew ?_ | refine blk_alloc ?_ _)); exact BK347.out) hb); replace HB := Aside0.mk (below_step (by repeat (first | (with_reducible first | exact HB.out | apply below_alloc | apply pw_below_drewN | apply below_drew1 | refine below_set ?_ GE347.out) | exact HB.out)) hb); (try clear hb); (try clear hb2); (try clear hk); (try clear hi)))
 go_meet
 case rel => exact ⟨_, ((t346 != t284)), s1_, H', ⟨by have := HJ11.out; have := HJ68.out; first | omega | exact Nat.le_refl _⟩, ⟨by (try simp only [hl296000_68]); (try simp only [hl296001_68]); (try simp only [hl296002_68]); (with_reducible repeat (first | apply Kd.R_alloc | apply Kd.R_drewN | apply Kd.R_drew)); exact Kd.R_mono HO_286000.out (fun _ hk => ⟨hk.1.1.1.1.1, ⟨hk.1.1.1.1.2.1, ⟨hk.1.1.1.1.2.2.1, ⟨hk.1.1.1.1.2.2.2.1, ⟨hk.1.1.1.1.2.2.2.2, ⟨hk.1.2, hk.2⟩⟩⟩⟩⟩⟩)⟩, ⟨by (try simp only [hl296000_68]); (try simp only [hl296001_68]); (try simp only [hl296002_68]); (with_reducible repeat (first | apply Kd.R_alloc | apply Kd.R_drewN | apply Kd.R_drew)); exact Kd.R_mono HO_286001.out (fun _ hk => ⟨hk.1.1.1.1.1, ⟨hk.1.1.1.1.2.1, ⟨hk.1.1.1.1.2.2.1, ⟨hk.1.1.1.1.2.2.2.1, ⟨hk.1.1.1.1.2.2.2.2, ⟨hk.1.2, hk.2⟩⟩⟩⟩⟩⟩)⟩, ⟨by (try simp only [hl296000_68]); (try simp only [hl296001_68]); (try simp only [hl296002_68]); (with_reducible repeat (first | apply Kd.R_alloc | apply Kd.R_drewN | apply Kd.R_drew)); exact Kd.R_mono HO_286002.out (fun _ hk => ⟨hk.1.1.1, ⟨hk.1.1.2, hk.2⟩⟩)⟩, ⟨by (try simp only [hl296000_68]); (try simp only [hl296001_68]); (try simp only [hl296002_68]); (with_reducible repeat (first | apply Kd.R_alloc | apply Kd.R_drewN | apply Kd.R_drew)); exact Kd.R_mono HO_296000.out (fun _ hk => ⟨hk.1.1.1.1.1, ⟨hk.1.1.1.1.2.1, ⟨hk.1.1.1.1.2.2.1, ⟨hk.1.1.1.1.2.2.2.1, ⟨hk.1.1.1.1.2.2.2.2, ⟨hk.1.2, hk.2⟩⟩⟩⟩⟩⟩)⟩, ⟨by (try simp only [hl296000_68]); (try simp only [hl296001_68]); (try simp only [hl296002_68]); (with_reducible repeat (first | apply Kd.R_alloc | apply Kd.R_drewN | apply Kd.R_drew)); exact Kd.R_mono HO_296001.out (fun _ hk => ⟨hk.1.1.1.1.1, ⟨hk.1.1.1.1.2.1, ⟨hk.1.1.1.1.2.2.1, ⟨hk.1.1.1.1.2.2.2.1, ⟨hk.1.1.1.1.2.2.2.2, ⟨hk.1.2, hk.2⟩⟩⟩⟩⟩⟩)⟩, ⟨by (try simp only [hl296000_68]); (try simp only [hl296001_68]); (try simp only [hl296002_68]); (with_reducible repeat (first | apply Kd.R_alloc | apply Kd.R_drewN | apply Kd.R_drew)); exact Kd.R_mono HO_296002.out (fun _ hk => ⟨hk.1.1.1, ⟨hk.1.1.2, hk.2⟩⟩)⟩, ⟨by (try simp only [hl296000_68]); (try simp only [hl296001_68]); (try simp only [hl296002_68]); (with_reducible repeat (first | apply Kd.R_alloc | apply Kd.R_drewN | apply Kd.R_drew)); exact Kd.R_mono HO_307000.out (fun _ hk => ⟨hk.1.1.1.1.1, ⟨hk.1.1.1.1.2.1, ⟨hk.1.1.1.1.2.2.1, ⟨hk.1.1.1.1.2.2.2.1, ⟨hk.1.1.1.1.2.2.2.2, ⟨hk.1.2, hk.2⟩⟩⟩⟩⟩⟩)⟩, ⟨by (try simp only [hl296000_68]); (try simp only [hl296001_68]); (try simp only [hl296002_68]); (with_reducible repeat (first | apply Kd.R_alloc | apply Kd.R_drewN | apply Kd.R_drew)); exact Kd.R_mono HO_307001.out (fun _ hk => ⟨hk.1.1.1.1.1, ⟨hk.1.1.1.1.2.1, ⟨hk.1.1.1.1.2.2.1, ⟨hk.1.1.1.1.2.2.2.1, ⟨hk.1.1.1.1.2.2.2.2, ⟨hk.1.2, hk.2⟩⟩⟩⟩⟩⟩)⟩, ⟨by (try simp only [hl296000_68]); (try simp only [hl296001_68]); (try simp only [hl296002_68]); (with_reducible repeat (first | apply Kd.R_alloc | apply Kd.R_drewN | apply Kd.R_drew)); exact Kd.R_mono HO_307002.out (fun _ hk => ⟨hk.1.1.1, ⟨hk.1.1.2, hk.2⟩⟩)⟩, ⟨by (try simp only [hl296000_68]); (try simp only [hl296001_68]); (try simp only [hl296002_68]); (with_reducible repeat (first | apply Kd.R_alloc | apply Kd.R_drewN | apply Kd.R_drew)); exact Kd.R_mono HO339.out (fun _ hk => ⟨hk.1.1.1.1.1.1.1.2, ⟨hk.1.1.1.1.1.1.2, ⟨hk.1.1.1.1.1.2, ⟨hk.1.1.1.1.2, ⟨hk.1.1.1.2, ⟨hk.1.1.2, hk.1.1.1.1.1.1.1.1⟩⟩⟩⟩⟩⟩)⟩, ⟨by (try simp only [hl296000_68]); (try simp only [hl296001_68]); (try simp only [hl296002_68]); (with_reducible repeat (first | apply Kd.R_alloc | apply Kd.R_drewN | apply Kd.R_drew)); exact Kd.R_mono HO342.out (fun _ hk => ⟨hk.1.1.1.1.1.1.1.2, ⟨hk.1.1.1.1.1.1.2, ⟨hk.1.1.1.1.1.2, ⟨hk.1.1.1.1.2, ⟨hk.1.1.1.2, ⟨hk.1.1.2, hk.1.1.1.1.1.1.1.1⟩⟩⟩⟩⟩⟩)⟩, ⟨by (try simp only [hl296000_68]); (try simp only [hl296001_68]); (try simp only [hl296002_68]); (with_reducible repeat (first | apply Kd.R_alloc | apply Kd.R_drewN | apply Kd.R_drew)); exact Kd.R_mono HO345.out (fun _ hk => ⟨hk.1.1.1.2, ⟨hk.1.1.2, hk.1.2⟩⟩)⟩, ⟨by (try simp only [hl296000_68]); (try simp only [hl296001_68]); (try simp only [hl296002_68]); (with_reducible repeat (first | refine blk_drewN ?_ _ | refine blk_drew ?_ | refine blk_alloc ?_ _)); exact BK264.out⟩, ⟨by (try simp only [hl296000_68]); (try simp only [hl296001_68]); (try simp only [hl296002_68]); (with_reducible repeat (first | refine blk_drewN ?_ _ | refine blk_drew ?_ | refine blk_alloc ?_ _)); exact BK285.out⟩, ⟨by (try simp only [hl296000_68]); (try simp only [hl296001_68]); (try simp only [hl296002_68]); (with_reducible repeat (first | refine blk_drewN ?_ _ | refine blk_drew ?_ | refine blk_alloc ?_ _)); exact BK295.out⟩, ⟨by (try simp only [hl296000_68]); (try simp only [hl296001_68]); (try simp only [hl296002_68]); (with_reducible repeat (first | refine blk_drewN ?_ _ | refine blk_drew ?_ | refine blk_alloc ?_ _)); exact BK306.out⟩, ⟨by (try simp only [hl296000_68]); (try simp only [hl296001_68]); (try simp only [hl296002_68]); (with_reducible repeat (first | refine blk_drewN ?_ _ | refine blk_drew ?_ | refine blk_alloc ?_ _)); exact BK347.out⟩, ⟨by repeat (first | (with_reducible first | exact HB.out | apply below_alloc | apply pw_below_drewN | apply below_drew1) | exact HB.out)⟩⟩}
 {
 replace c140 := Bool.eq_false_iff.mpr c140
 subst c140
 have H1 : (laws_FnExactSweepPresence.j2 kj68 t323 true t324 t325 t326) = some r := by rw [if_neg (show ¬ (false = true) by decide)] at H; exact H
 clear H
 have H := H1
 clear H1
 have H' := Aside0.mk H
 clear H
 have hnb151 := NB347_264.out
 have hnc151 := NB264_347.out
 have hnb152 := NB347_285.out
 have hnc152 := NB285_347.out
 have hnb153 := NB347_295.out
 have hnc153 := NB295_347.out
 have hnb154 := NB347_306.out
 have hnc154 := NB306_347.out
 have hcz155_0 := c1_ BK347 0 (.slice none 0 0)
 have hcz155_1 := c1_ BK347 1 (.slice none 0 0)
 have hcz155_2 := c1_ BK347 2 (.slice none 0 0)
 have hfz155_0 := f1_ BK347 0
 have hfz155_1 := f1_ BK347 1
 have hfz155_2 := f1_ BK347 2
 have hnb156 := NB285_264.out
 have hnc156 := NB264_285.out
 have hnb157 := NB285_295.out
 have hnc157 := NB295_285.out
 have hnb158 := NB285_306.out
 have hnc158 := NB306_285.out
 have hcz159_0 := c1_ BK285 0 (.slice Ao23 t275.length co23)
 have hcz159_1 := c1_ BK285 1 (.slice Ao26 t278.length co26)
 have hcz159_2 := c1_ BK285 2 (.slice Ao27 t281.length co27)
 have hfz159_0 := f1_ BK285 0
 have hfz159_1 := f1_ BK285 1
 have hfz159_2 := f1_ BK285 2
 go_wp2_with (first | ((with_reducible refine gate_callee (f := 27) rfl ?_); refine goesL_ (some 86) rfl rfl Try.func27 s2_ rfl #[.agg #[.slice Ao131 t337.length co131, .slice Ao137 t340.length co137, .slice Ao138 t343.length co138], .agg #[.slice Ao23 t275.length co23, .slice Ao26 t278.length co26, .slice Ao27 t281.length co27]] rfl s3_ ?_; (with_reducible refine (laws_eqPresence.calls kj68 _ _ t337 _ _ t340 _ _ t343 _ _ t275 _ _ t278 _ _ t281 false _ ?side1 ?side2 ?side3 ?side4 ?side5 ?side6 ?side7 ?side8 ?side9 ?side10 ?side11 ?side12 A139.out).mono ?_); (case side1 => refine (Kd.R_reads' (e := 63) (base := w.heap.size) (ok := fun k_ => ((((((((some k_ ≠ (.slice Ao137 t340.length co137 : Value).ownBlock ∧ some k_ ≠ (.slice Ao23 t275.length co23 : Value).ownBlock) ∧ some k_ ≠ (.slice Ao26 t278.length co26 : Value).ownBlock) ∧ some k_ ≠ (.slice Ao31 t319.length co31 : Value).ownBlock) ∧ some k_ ≠ (.slice Ao35 t320.length co35 : Value).ownBlock) ∧ some k_ ≠ (.slice Ao39 t296.length co39 : Value).ownBlock) ∧ some k_ ≠ (.slice Ao44 t299.length co44 : Value).ownBlock) ∧ some k_ ≠ (.slice Ao126 t328.length co126 : Value).ownBlock) ∧ some k_ ≠ (.slice Ao127 t331.length co127 : Value).ownBlock)) (n := t337.length) (c := co131) ?_).2.2; exact (by (with_reducible repeat (first | apply Kd.R_alloc | apply Kd.R_drewN | apply Kd.R_drew)); exact (Kd.R_mono (Kd.R_far3 (g := gb347) (Kd.R_types HO339.out BK347.out (by decide)) (fun _ hk => hk.2)) (fun _ h_ => h_.1)))); (case side2 => exact (Kd.R_reads' HO339.out).2.1); (case side3 => refine (Kd.R_reads' (e := 63) (base := w.heap.size) (ok := fun k_ => ((((((((some k_ ≠ (.slice Ao131 t337.length co131 : Value).ownBlock ∧ some k_ ≠ (.slice Ao23 t275.length co23 : Value).ownBlock) ∧ some k_ ≠ (.slice Ao26 t278.length co26 : Value).ownBlock) ∧ some k_ ≠ (.slice Ao31 t319.length co31 : Value).ownBlock) ∧ some k_ ≠ (.slice Ao35 t320.length co35 : Value).ownBlock) ∧ some k_ ≠ (.slice Ao39 t296.length co39 : Value).ownBlock) ∧ some k_ ≠ (.slice Ao44 t299.length co44 : Value).ownBlock) ∧ some k_ ≠ (.slice Ao126 t328.length co126 : Value).ownBlock) ∧ some k_ ≠ (.slice Ao127 t331.length co127 : Value).ownBlock)) (n := t340.length) (c := co137) ?_).2.2; exact (by (with_reducible repeat (first | apply Kd.R_alloc | apply Kd.R_drewN | apply Kd.R_drew)); exact (Kd.R_mono (Kd.R_far3 (g := gb347) (Kd.R_types HO342.out BK347.out (by decide)) (fun _ hk => hk.2)) (fun _ h_ => h_.1)))); (case side4 => exact (Kd.R_reads' HO342.out).2.1); (case side5 => refine (Kd.R_reads' (e := 73) (base := w.heap.size) (ok := fun k_ => ((((True ∧ some k_ ≠ (.slice Ao27 t281.length co27 : Value).ownBlock) ∧ some k_ ≠ (.slice Ao36 t321.length co36 : Value).ownBlock) ∧ some k_ ≠ (.slice Ao45 t302.length co45 : Value).ownBlock) ∧ some k_ ≠ (.slice Ao128 t334.length co128 : Value).ownBlock)) (n := t343.length) (c := co138) ?_).2.2; exact (by (with_reducible repeat (first | apply Kd.R_alloc | apply Kd.R_drewN | apply Kd.R_drew)); exact (Kd.R_mono (Kd.R_far3 (g := gb347) (Kd.R_types HO345.out BK347.out (by decide)) (fun _ hk => hk.2)) (fun _ h_ => h_.1)))); (case side6 => exact (Kd.R_reads' HO345.out).2.1); (case side7 => refine (Kd.R_reads' (e := 63) (base := w.heap.size) (ok := fun k_ => (((((some k_ ≠ (.slice Ao26 t278.length co26 : Value).ownBlock ∧ (some k_ ≠ (.slice Ao31 t319.length co31 : Value).ownBlock ∧ (some k_ ≠ (.slice Ao35 t320.length co35 : Value).ownBlock ∧ (some k_ ≠ (.slice Ao39 t296.length co39 : Value).ownBlock ∧ some k_ ≠ (.slice Ao44 t299.length co44 : Value).ownBlock)))) ∧ some k_ ≠ (.slice Ao126 t328.length co126 : Value).ownBlock) ∧ some k_ ≠ (.slice Ao127 t331.length co127 : Value).ownBlock) ∧ some k_ ≠ (.slice Ao131 t337.length co131 : Value).ownBlock) ∧ some k_ ≠ (.slice Ao137 t340.length co137 : Value).ownBlock)) (n := t275.length) (c := co23) ?_).2.2; exact (by (with_reducible repeat (first | apply Kd.R_alloc | apply Kd.R_drewN | apply Kd.R_drew)); exact (Kd.R_mono (Kd.R_far3 (g := gb347) (Kd.R_types HO_286000.out BK347.out (by decide)) (fun _ hk => hk.2)) (fun _ h_ => h_.1)))); (case side8 => exact (Kd.R_reads' HO_286000.out).2.1); (case side9 => refine (Kd.R_reads' (e := 63) (base := w.heap.size) (ok := fun k_ => (((((some k_ ≠ (.slice Ao23 t275.length co23 : Value).ownBlock ∧ (some k_ ≠ (.slice Ao31 t319.length co31 : Value).ownBlock ∧ (some k_ ≠ (.slice Ao35 t320.length co35 : Value).ownBlock ∧ (some k_ ≠ (.slice Ao39 t296.length co39 : Value).ownBlock ∧ some k_ ≠ (.slice Ao44 t299.length co44 : Value).ownBlock)))) ∧ some k_ ≠ (.slice Ao126 t328.length co126 : Value).ownBlock) ∧ some k_ ≠ (.slice Ao127 t331.length co127 : Value).ownBlock) ∧ some k_ ≠ (.slice Ao131 t337.length co131 : Value).ownBlock) ∧ some k_ ≠ (.slice Ao137 t340.length co137 : Value).ownBlock)) (n := t278.length) (c := co26) ?_).2.2; exact (by (with_reducible repeat (first | apply Kd.R_alloc | apply Kd.R_drewN | apply Kd.R_drew)); exact (Kd.R_mono (Kd.R_far3 (g := gb347) (Kd.R_types HO_286001.out BK347.out (by decide)) (fun _ hk => hk.2)) (fun _ h_ => h_.1)))); (case side10 => exact (Kd.R_reads' HO_286001.out).2.1); (case side11 => refine (Kd.R_reads' (e := 73) (base := w.heap.size) (ok := fun k_ => (((some k_ ≠ (.slice Ao36 t321.length co36 : Value).ownBlock ∧ some k_ ≠ (.slice Ao45 t302.length co45 : Value).ownBlock) ∧ some k_ ≠ (.slice Ao128 t334.length co128 : Value).ownBlock) ∧ some k_ ≠ (.slice Ao138 t343.length co138 : Value).ownBlock)) (n := t281.length) (c := co27) ?_).2.2; exact (by (with_reducible repeat (first | apply Kd.R_alloc | apply Kd.R_drewN | apply Kd.R_drew)); exact (Kd.R_mono (Kd.R_far3 (g := gb347) (Kd.R_types HO_286002.out BK347.out (by decide)) (fun _ hk => hk.2)) (fun _ h_ => h_.1)))); (case side12 => exact (Kd.R_reads' HO_286002.out).2.1); rintro e w160 ⟨rfl, hb⟩; refine ⟨_, rfl, ?_⟩; replace HO_286000 := Aside0.mk (Kd.R_below (by (with_reducible repeat (first | apply Kd.R_alloc | apply Kd.R_drewN | apply Kd.R_drew)); exact (Kd.R_mono (Kd.R_far3 (g := gb347) (Kd.R_types HO_286000.out BK347.out (by decide)) (fun _ hk => hk.2)) (fun _ h_ => h_.1))) hb); replace HO_286001 := Aside0.mk (Kd.R_below (by (with_reducible repeat (first | apply Kd.R_alloc | apply Kd.R_drewN | apply Kd.R_drew)); exact (Kd.R_mono (Kd.R_far3 (g := gb347) (Kd.R_types HO_286001.out BK347.out (by decide)) (fun _ hk => hk.2)) (fun _ h_ => h_.1))) hb); replace HO_286002 := Aside0.mk (Kd.R_below (by (with_reducible repeat (first | apply Kd.R_alloc | apply Kd.R_drewN | apply Kd.R_drew)); exact (Kd.R_mono (Kd.R_far3 (g := gb347) (Kd.R_types HO_286002.out BK347.out (by decide)) (fun _ hk => hk.2)) (fun _ h_ => h_.1))) hb); replace HO_296000 := Aside0.mk (Kd.R_below (by (with_reducible repeat (first | apply Kd.R_alloc | apply Kd.R_drewN | apply Kd.R_drew)); exact (Kd.R_mono (Kd.R_far3 (g := gb347) (Kd.R_types HO_296000.out BK347.out (by decide)) (fun _ hk => hk.2)) (fun _ h_ => h_.1))) hb); replace HO_296001 := Aside0.mk (Kd.R_below (by (with_reducible repeat (first | apply Kd.R_alloc | apply Kd.R_drewN | apply Kd.R_drew)); exact (Kd.R_mono (Kd.R_far3 (g := gb347) (Kd.R_types HO_296001.out BK347.out (by decide)) (fun _ hk => hk.2)) (fun _ h_ => h_.1))) hb); replace HO_296002 := Aside0.mk (Kd.R_below (by (with_reducible repeat (first | apply Kd.R_alloc | apply Kd.R_drewN | apply Kd.R_drew)); exact (Kd.R_mono (Kd.R_far3 (g := gb347) (Kd.R_types HO_296002.out BK347.out (by decide)) (fun _ hk => hk.2)) (fun _ h_ => h_.1))) hb); replace HO_307000 := Aside0.mk (Kd.R_below (by (with_reducible repeat (first | apply Kd.R_alloc | apply Kd.R_drewN | apply Kd.R_drew)); exact (Kd.R_mono (Kd.R_far3 (g := gb347) (Kd.R_types HO_307000.out BK347.out (by decide)) (fun _ hk => hk.2)) (fun _ h_ => h_.1))) hb); replace HO_307001 := Aside0.mk (Kd.R_below (by (with_reducible repeat (first | apply Kd.R_alloc | apply Kd.R_drewN | apply Kd.R_drew)); exact (Kd.R_mono (Kd.R_far3 (g := gb347) (Kd.R_types HO_307001.out BK347.out (by decide)) (fun _ hk => hk.2)) (fun _ h_ => h_.1))) hb); replace HO_307002 := Aside0.mk (Kd.R_below (by (with_reducible repeat (first | apply Kd.R_alloc | apply Kd.R_drewN | apply Kd.R_drew)); exact (Kd.R_mono (Kd.R_far3 (g := gb347) (Kd.R_types HO_307002.out BK347.out (by decide)) (fun _ hk => hk.2)) (fun _ h_ => h_.1))) hb); replace HO330 := Aside0.mk (Kd.R_below (by (with_reducible repeat (first | apply Kd.R_alloc | apply Kd.R_drewN | apply Kd.R_drew)); exact (Kd.R_mono (Kd.R_far3 (g := gb347) (Kd.R_types HO330.out BK347.out (by decide)) (fun _ hk => hk.2)) (fun _ h_ => h_.1))) hb); replace HO333 := Aside0.mk (Kd.R_below (by (with_reducible repeat (first | apply Kd.R_alloc | apply Kd.R_drewN | apply Kd.R_drew)); exact (Kd.R_mono (Kd.R_far3 (g := gb347) (Kd.R_types HO333.out BK347.out (by decide)) (fun _ hk => hk.2)) (fun _ h_ => h_.1))) hb); replace HO336 := Aside0.mk (Kd.R_below (by (with_reducible repeat (first | apply Kd.R_alloc | apply Kd.R_drewN | apply Kd.R_drew)); exact (Kd.R_mono (Kd.R_far3 (g := gb347) (Kd.R_types HO336.out BK347.out (by decide)) (fun _ hk => hk.2)) (fun _ h_ => h_.1))) hb); replace HO339 := Aside0.mk (Kd.R_below (by (with_reducible repeat (first | apply Kd.R_alloc | apply Kd.R_drewN | apply Kd.R_drew)); exact (Kd.R_mono (Kd.R_far3 (g := gb347) (Kd.R_types HO339.out BK347.out (by decide)) (fun _ hk => hk.2)) (fun _ h_ => h_.1))) hb); replace HO342 := Aside0.mk (Kd.R_below (by (with_reducible repeat (first | apply Kd.R_alloc | apply Kd.R_drewN | apply Kd.R_drew)); exact (Kd.R_mono (Kd.R_far3 (g := gb347) (Kd.R_types HO342.out BK347.out (by decide)) (fun _ hk => hk.2)) (fun _ h_ => h_.1))) hb); replace HO345 := Aside0.mk (Kd.R_below (by (with_reducible repeat (first | apply Kd.R_alloc | apply Kd.R_drewN | apply Kd.R_drew)); exact (Kd.R_mono (Kd.R_far3 (g := gb347) (Kd.R_types HO345.out BK347.out (by decide)) (fun _ hk => hk.2)) (fun _ h_ => h_.1))) hb); replace BK264 := Aside0.mk (blk_below (g := gb264) (o := .cells #[.slice A0_0 l0_0.length c0_0, .slice A0_1 l0_1.length c0_1, .slice A0_2 l0_2.length c0_2] 45 (0, 0)) (by (with_reducible repeat (first | refine blk_drewN ?_ _ | refine blk_drew ?_ | refine blk_alloc ?_ _)); refine blk_far3 ?_ NB264_347.out; (with_reducible repeat (first | refine blk_drewN ?_ _ | refine blk_drew ?_ | refine blk_alloc ?_ _)); exact BK264.out) hb); replace BK285 := Aside0.mk (blk_below (g := gb285) (o := .cells #[.slice Ao23 t275.length co23, .slice Ao26 t278.length co26, .slice Ao27 t281.length co27] 27 (0, 0)) (by (with_reducible repeat (first | refine blk_drewN ?_ _ | refine blk_drew ?_ | refine blk_alloc ?_ _)); refine blk_far3 ?_ NB285_347.out; (with_reducible repeat (first | refine blk_drewN ?_ _ | refine blk_drew ?_ | refine blk_alloc ?_ _)); exact BK285.out) hb); replace BK295 := Aside0.mk (blk_below (g := gb295) (o := .cells #[.slice Ao31 t319.length co31, .slice Ao35 t320.length co35, .slice Ao36 t321.length co36] 27 (0, 0)) (by (with_reducible repeat (first | refine blk_drewN ?_ _ | refine blk_drew ?_ | refine blk_alloc ?_ _)); refine blk_far3 ?_ NB295_347.out; (with_reducible repeat (first | refine blk_drewN ?_ _ | refine blk_drew ?_ | refine blk_alloc ?_ _)); exact BK295.out) hb); replace BK306 := Aside0.mk (blk_below (g := gb306) (o := .cells #[.slice Ao39 t296.length co39, .slice Ao44 t299.length co44, .slice Ao45 t302.length co45] 27 (0, 0)) (by (with_reducible repeat (first | refine blk_drewN ?_ _ | refine blk_drew ?_ | refine blk_alloc ?_ _)); refine blk_far3 ?_ NB306_347.out; (with_reducible repeat (first | refine blk_drewN ?_ _ | refine blk_drew ?_ | refine blk_alloc ?_ _)); exact BK306.out) hb); replace BK347 := Aside0.mk (blk_below (g := gb347) (o := .cells #[.slice Ao131 t337.length co131, .slice Ao137 t340.length co137, .slice Ao138 t343.length co138] 27 (0, 0)) (by (with_reducible repeat (first | refine blk_drewN ?_ _ | refine blk_drew ?_ | refine blk_alloc ?_ _)); refine blk_put3 (cs := #[.slice none 0 0, .slice none 0 0, .slice none 0 0]) ?_ rfl; (with_reducible repeat (first | refine blk_drewN ?_ _ | refine blk_drew ?_ | refine blk_alloc ?_ _)); exact BK347.out) hb); replace HB := Aside0.mk (below_step (by repeat (first | (with_reducible first | exact HB.out | apply below_alloc | apply pw_below_drewN | apply below_drew1 | refine below_set ?_ GE347.out) | exact HB.out)) hb); (try clear hb); (try clear hb2); (try clear hk); (try clear hi)))
 go_meet
 case rel => exact ⟨_, (true), s1_, H', ⟨by have := HJ11.out; have := HJ68.out; first | omega | exact Nat.le_refl _⟩, ⟨by (try simp only [hl296000_68]); (try simp only [hl296001_68]); (try simp only [hl296002_68]); (with_reducible repeat (first | apply Kd.R_alloc | apply Kd.R_drewN | apply Kd.R_drew)); exact Kd.R_mono HO_286000.out (fun _ hk => ⟨hk.1.1.1.1.1, ⟨hk.1.1.1.1.2.1, ⟨hk.1.1.1.1.2.2.1, ⟨hk.1.1.1.1.2.2.2.1, ⟨hk.1.1.1.1.2.2.2.2, ⟨hk.1.2, hk.2⟩⟩⟩⟩⟩⟩)⟩, ⟨by (try simp only [hl296000_68]); (try simp only [hl296001_68]); (try simp only [hl296002_68]); (with_reducible repeat (first | apply Kd.R_alloc | apply Kd.R_drewN | apply Kd.R_drew)); exact Kd.R_mono HO_286001.out (fun _ hk => ⟨hk.1.1.1.1.1, ⟨hk.1.1.1.1.2.1, ⟨hk.1.1.1.1.2.2.1, ⟨hk.1.1.1.1.2.2.2.1, ⟨hk.1.1.1.1.2.2.2.2, ⟨hk.1.2, hk.2⟩⟩⟩⟩⟩⟩)⟩, ⟨by (try simp only [hl296000_68]); (try simp only [hl296001_68]); (try simp only [hl296002_68]); (with_reducible repeat (first | apply Kd.R_alloc | apply Kd.R_drewN | apply Kd.R_drew)); exact Kd.R_mono HO_286002.out (fun _ hk => ⟨hk.1.1.1, ⟨hk.1.1.2, hk.2⟩⟩)⟩, ⟨by (try simp only [hl296000_68]); (try simp only [hl296001_68]); (try simp only [hl296002_68]); (with_reducible repeat (first | apply Kd.R_alloc | apply Kd.R_drewN | apply Kd.R_drew)); exact Kd.R_mono HO_296000.out (fun _ hk => ⟨hk.1.1.1.1.1, ⟨hk.1.1.1.1.2.1, ⟨hk.1.1.1.1.2.2.1, ⟨hk.1.1.1.1.2.2.2.1, ⟨hk.1.1.1.1.2.2.2.2, ⟨hk.1.2, hk.2⟩⟩⟩⟩⟩⟩)⟩, ⟨by (try simp only [hl296000_68]); (try simp only [hl296001_68]); (try simp only [hl296002_68]); (with_reducible repeat (first | apply Kd.R_alloc | apply Kd.R_drewN | apply Kd.R_drew)); exact Kd.R_mono HO_296001.out (fun _ hk => ⟨hk.1.1.1.1.1, ⟨hk.1.1.1.1.2.1, ⟨hk.1.1.1.1.2.2.1, ⟨hk.1.1.1.1.2.2.2.1, ⟨hk.1.1.1.1.2.2.2.2, ⟨hk.1.2, hk.2⟩⟩⟩⟩⟩⟩)⟩, ⟨by (try simp only [hl296000_68]); (try simp only [hl296001_68]); (try simp only [hl296002_68]); (with_reducible repeat (first | apply Kd.R_alloc | apply Kd.R_drewN | apply Kd.R_drew)); exact Kd.R_mono HO_296002.out (fun _ hk => ⟨hk.1.1.1, ⟨hk.1.1.2, hk.2⟩⟩)⟩, ⟨by (try simp only [hl296000_68]); (try simp only [hl296001_68]); (try simp only [hl296002_68]); (with_reducible repeat (first | apply Kd.R_alloc | apply Kd.R_drewN | apply Kd.R_drew)); exact Kd.R_mono HO_307000.out (fun _ hk => ⟨hk.1.1.1.1.1, ⟨hk.1.1.1.1.2.1, ⟨hk.1.1.1.1.2.2.1, ⟨hk.1.1.1.1.2.2.2.1, ⟨hk.1.1.1.1.2.2.2.2, ⟨hk.1.2, hk.2⟩⟩⟩⟩⟩⟩)⟩, ⟨by (try simp only [hl296000_68]); (try simp only [hl296001_68]); (try simp only [hl296002_68]); (with_reducible repeat (first | apply Kd.R_alloc | apply Kd.R_drewN | apply Kd.R_drew)); exact Kd.R_mono HO_307001.out (fun _ hk => ⟨hk.1.1.1.1.1, ⟨hk.1.1.1.1.2.1, ⟨hk.1.1.1.1.2.2.1, ⟨hk.1.1.1.1.2.2.2.1, ⟨hk.1.1.1.1.2.2.2.2, ⟨hk.1.2, hk.2⟩⟩⟩⟩⟩⟩)⟩, ⟨by (try simp only [hl296000_68]); (try simp only [hl296001_68]); (try simp only [hl296002_68]); (with_reducible repeat (first | apply Kd.R_alloc | apply Kd.R_drewN | apply Kd.R_drew)); exact Kd.R_mono HO_307002.out (fun _ hk => ⟨hk.1.1.1, ⟨hk.1.1.2, hk.2⟩⟩)⟩, ⟨by (try simp only [hl296000_68]); (try simp only [hl296001_68]); (try simp only [hl296002_68]); (with_reducible repeat (first | apply Kd.R_alloc | apply Kd.R_drewN | apply Kd.R_drew)); exact Kd.R_mono HO339.out (fun _ hk => ⟨hk.1.1.1.1.1.1.1.2, ⟨hk.1.1.1.1.1.1.2, ⟨hk.1.1.1.1.1.2, ⟨hk.1.1.1.1.2, ⟨hk.1.1.1.2, ⟨hk.1.1.2, hk.1.1.1.1.1.1.1.1⟩⟩⟩⟩⟩⟩)⟩, ⟨by (try simp only [hl296000_68]); (try simp only [hl296001_68]); (try simp only [hl296002_68]); (with_reducible repeat (first | apply Kd.R_alloc | apply Kd.R_drewN | apply Kd.R_drew)); exact Kd.R_mono HO342.out (fun _ hk => ⟨hk.1.1.1.1.1.1.1.2, ⟨hk.1.1.1.1.1.1.2, ⟨hk.1.1.1.1.1.2, ⟨hk.1.1.1.1.2, ⟨hk.1.1.1.2, ⟨hk.1.1.2, hk.1.1.1.1.1.1.1.1⟩⟩⟩⟩⟩⟩)⟩, ⟨by (try simp only [hl296000_68]); (try simp only [hl296001_68]); (try simp only [hl296002_68]); (with_reducible repeat (first | apply Kd.R_alloc | apply Kd.R_drewN | apply Kd.R_drew)); exact Kd.R_mono HO345.out (fun _ hk => ⟨hk.1.1.1.2, ⟨hk.1.1.2, hk.1.2⟩⟩)⟩, ⟨by (try simp only [hl296000_68]); (try simp only [hl296001_68]); (try simp only [hl296002_68]); (with_reducible repeat (first | refine blk_drewN ?_ _ | refine blk_drew ?_ | refine blk_alloc ?_ _)); exact BK264.out⟩, ⟨by (try simp only [hl296000_68]); (try simp only [hl296001_68]); (try simp only [hl296002_68]); (with_reducible repeat (first | refine blk_drewN ?_ _ | refine blk_drew ?_ | refine blk_alloc ?_ _)); exact BK285.out⟩, ⟨by (try simp only [hl296000_68]); (try simp only [hl296001_68]); (try simp only [hl296002_68]); (with_reducible repeat (first | refine blk_drewN ?_ _ | refine blk_drew ?_ | refine blk_alloc ?_ _)); exact BK295.out⟩, ⟨by (try simp only [hl296000_68]); (try simp only [hl296001_68]); (try simp only [hl296002_68]); (with_reducible repeat (first | refine blk_drewN ?_ _ | refine blk_drew ?_ | refine blk_alloc ?_ _)); exact BK306.out⟩, ⟨by (try simp only [hl296000_68]); (try simp only [hl296001_68]); (try simp only [hl296002_68]); (with_reducible repeat (first | refine blk_drewN ?_ _ | refine blk_drew ?_ | refine blk_alloc ?_ _)); exact BK347.out⟩, ⟨by repeat (first | (with_reducible first | exact HB.out | apply below_alloc | apply pw_below_drewN | apply below_drew1) | exact HB.out)⟩⟩}}
 case rest =>
  skip
  {
 clear HC114
 try clear c1
 try clear c2
 try clear p2
 try clear c3
 try clear c4
 try clear c4b0
 try clear c5
 try clear c6
 try clear c7
 try clear c8
 try clear c9
 try clear c10
 try clear c11
 try clear c12
 try clear c13
 try clear c14
 try clear c15
 try clear c24
 try clear c26
 try clear c27
 try clear c28
 try clear c29
 try clear c30
 try clear c31
 try clear c32
 try clear c33
 try clear c40
 try clear c41
 try clear c42
 try clear c47
 try clear c48
 try clear c49
 try clear c50
 try clear c52
 try clear c53
 try clear c56
 try clear c57
 try clear c58
 try clear c60
 try clear c61
 try clear c64
 try clear c67
 try clear c76
 try clear c77
 try clear c78
 try clear c81
 try clear c81b0
 try clear c83
 try clear c84
 try clear c85
 try clear c86
 try clear c88
 try clear c89
 try clear c92
 try clear c93
 try clear c94
 try clear c96
 try clear c97
 try clear c100
 try clear c103
 try clear c103b0
 try clear c104
 try clear c105
 try clear c106
 try clear c111
 try clear c111b0
 try clear c111b1
 try clear c115
 try clear c116
 try clear c117
 try clear c122
 try clear c123
 try clear c132
 try clear c133
 try clear c134
 try clear c135
 try clear c140
 try clear c141
 try clear c142
 try clear c143
 try clear c144
 try clear c146
 try clear c147
 try clear c148
 try clear c151
 try clear c152
 try clear c153
 try clear c154
 try clear c156
 try clear c157
 try clear c158
 try clear hcz107_0
 try clear hcz107_1
 try clear hcz107_2
 try clear hcz109_0
 try clear hcz109_1
 try clear hcz109_2
 try clear hcz118_0
 try clear hcz118_1
 try clear hcz118_2
 try clear hcz120_0
 try clear hcz120_1
 try clear hcz120_2
 try clear hcz124_0
 try clear hcz124_1
 try clear hcz124_2
 try clear hcz136_0
 try clear hcz136_1
 try clear hcz136_2
 try clear hcz145_0
 try clear hcz145_1
 try clear hcz145_2
 try clear hcz149_0
 try clear hcz149_1
 try clear hcz149_2
 try clear hcz14_0
 try clear hcz14_1
 try clear hcz14_2
 try clear hcz155_0
 try clear hcz155_1
 try clear hcz155_2
 try clear hcz159_0
 try clear hcz159_1
 try clear hcz159_2
 try clear hcz16_0
 try clear hcz16_1
 try clear hcz16_2
 try clear hcz25_0
 try clear hcz25_1
 try clear hcz25_2
 try clear hcz28_0
 try clear hcz28_1
 try clear hcz28_2
 try clear hcz34_0
 try clear hcz34_1
 try clear hcz34_2
 try clear hcz43_0
 try clear hcz43_1
 try clear hcz43_2
 try clear hcz51_0
 try clear hcz51_1
 try clear hcz51_2
 try clear hcz54_0
 try clear hcz54_1
 try clear hcz54_2
 try clear hcz59_0
 try clear hcz59_1
 try clear hcz59_2
 try clear hcz62_0
 try clear hcz62_1
 try clear hcz62_2
 try clear hcz6_0
 try clear hcz6_1
 try clear hcz6_2
 try clear hcz79_0
 try clear hcz79_1
 try clear hcz79_2
 try clear hcz87_0
 try clear hcz87_1
 try clear hcz87_2
 try clear hcz90_0
 try clear hcz90_1
 try clear hcz90_2
 try clear hcz95_0
 try clear hcz95_1
 try clear hcz95_2
 try clear hcz98_0
 try clear hcz98_1
 try clear hcz98_2
 try clear hfz107_0
 try clear hfz107_1
 try clear hfz107_2
 try clear hfz109_0
 try clear hfz109_1
 try clear hfz109_2
 try clear hfz118_0
 try clear hfz118_1
 try clear hfz118_2
 try clear hfz120_0
 try clear hfz120_1
 try clear hfz120_2
 try clear hfz124_0
 try clear hfz124_1
 try clear hfz124_2
 try clear hfz136_0
 try clear hfz136_1
 try clear hfz136_2
 try clear hfz145_0
 try clear hfz145_1
 try clear hfz145_2
 try clear hfz149_0
 try clear hfz149_1
 try clear hfz149_2
 try clear hfz14_0
 try clear hfz14_1
 try clear hfz14_2
 try clear hfz155_0
 try clear hfz155_1
 try clear hfz155_2
 try clear hfz159_0
 try clear hfz159_1
 try clear hfz159_2
 try clear hfz16_0
 try clear hfz16_1
 try clear hfz16_2
 try clear hfz25_0
 try clear hfz25_1
 try clear hfz25_2
 try clear hfz28_0
 try clear hfz28_1
 try clear hfz28_2
 try clear hfz34_0
 try clear hfz34_1
 try clear hfz34_2
 try clear hfz43_0
 try clear hfz43_1
 try clear hfz43_2
 try clear hfz51_0
 try clear hfz51_1
 try clear hfz51_2
 try clear hfz54_0
 try clear hfz54_1
 try clear hfz54_2
 try clear hfz59_0
 try clear hfz59_1
 try clear hfz59_2
 try clear hfz62_0
 try clear hfz62_1
 try clear hfz62_2
 try clear hfz6_0
 try clear hfz6_1
 try clear hfz6_2
 try clear hfz79_0
 try clear hfz79_1
 try clear hfz79_2
 try clear hfz87_0
 try clear hfz87_1
 try clear hfz87_2
 try clear hfz90_0
 try clear hfz90_1
 try clear hfz90_2
 try clear hfz95_0
 try clear hfz95_1
 try clear hfz95_2
 try clear hfz98_0
 try clear hfz98_1
 try clear hfz98_2
 try clear p2
 obtain ⟨kq, x92_113, rfl, HA, HJ113, HO_286000, HO_286001, HO_286002, HO_296000, HO_296001, HO_296002, HO_307000, HO_307001, HO_307002, HO_348000, HO_348001, HO_348002, BK264, BK285, BK295, BK306, BK347, HB⟩ := hcut
 have hl307000_113 := (Kd.R_reads' HO_307000.out).1
 rw [hl307000_113] at HO_307000
 (try simp only [hl307000_113])
 (try simp only [hl307000_113] at BK264)
 (try simp only [hl307000_113] at BK285)
 (try simp only [hl307000_113] at BK295)
 (try simp only [hl307000_113] at BK306)
 (try simp only [hl307000_113] at BK347)
 (try simp only [hl307000_113] at HO_286000)
 (try simp only [hl307000_113] at HO_286001)
 (try simp only [hl307000_113] at HO_286002)
 (try simp only [hl307000_113] at HO_296000)
 (try simp only [hl307000_113] at HO_296001)
 (try simp only [hl307000_113] at HO_296002)
 (try simp only [hl307000_113] at HO_307001)
 (try simp only [hl307000_113] at HO_307002)
 (try simp only [hl307000_113] at HO_348000)
 (try simp only [hl307000_113] at HO_348001)
 (try simp only [hl307000_113] at HO_348002)
 have hl307001_113 := (Kd.R_reads' HO_307001.out).1
 rw [hl307001_113] at HO_307001
 (try simp only [hl307001_113])
 (try simp only [hl307001_113] at BK264)
 (try simp only [hl307001_113] at BK285)
 (try simp only [hl307001_113] at BK295)
 (try simp only [hl307001_113] at BK306)
 (try simp only [hl307001_113] at BK347)
 (try simp only [hl307001_113] at HO_286000)
 (try simp only [hl307001_113] at HO_286001)
 (try simp only [hl307001_113] at HO_286002)
 (try simp only [hl307001_113] at HO_296000)
 (try simp only [hl307001_113] at HO_296001)
 (try simp only [hl307001_113] at HO_296002)
 (try simp only [hl307001_113] at HO_307000)
 (try simp only [hl307001_113] at HO_307002)
 (try simp only [hl307001_113] at HO_348000)
 (try simp only [hl307001_113] at HO_348001)
 (try simp only [hl307001_113] at HO_348002)
 have hl307002_113 := (Kd.R_reads' HO_307002.out).1
 rw [hl307002_113] at HO_307002
 (try simp only [hl307002_113])
 (try simp only [hl307002_113] at BK264)
 (try simp only [hl307002_113] at BK285)
 (try simp only [hl307002_113] at BK295)
 (try simp only [hl307002_113] at BK306)
 (try simp only [hl307002_113] at BK347)
 (try simp only [hl307002_113] at HO_286000)
 (try simp only [hl307002_113] at HO_286001)
 (try simp only [hl307002_113] at HO_286002)
 (try simp only [hl307002_113] at HO_296000)
 (try simp only [hl307002_113] at HO_296001)
 (try simp only [hl307002_113] at HO_296002)
 (try simp only [hl307002_113] at HO_307000)
 (try simp only [hl307002_113] at HO_307001)
 (try simp only [hl307002_113] at HO_348000)
 (try simp only [hl307002_113] at HO_348001)
 (try simp only [hl307002_113] at HO_348002)
 cases kq with
 | zero => exact absurd HA.out (by simp [laws_FnExactSweepPresence.j2])
 | succ kj113 =>
  skip
  {
 have H := HA.out
 clear HA
 simp only [laws_FnExactSweepPresence.j2] at H
 by_cases c161 : x92_113 = true
 {
 subst c161
 have H1 : (some false) = some r := by rw [if_pos rfl] at H; exact H
 clear H
 have H := H1
 clear H1
 obtain rfl := Option.some.inj H
 go_wp2
 go_ret
 exact ⟨by first | rfl | (simp [errW_none, errW_some] <;> rfl) | (simp [*, errW_none, errW_some] <;> rfl), by repeat (first | (with_reducible first | exact HB.out | apply below_alloc | apply pw_below_drewN | apply below_drew1) | exact HB.out)⟩}
 {
 replace c161 := Bool.eq_false_iff.mpr c161
 subst c161
 have H1 : ((laws_heldPresence.f kj113 t324 t325 t326 1).bind fun t349 => (if t349 < 0 then (some false) else (if t349 = t323 then (some true) else (some false)))) = some r := by rw [if_neg (show ¬ (false = true) by decide)] at H; exact H
 clear H
 have H := H1
 clear H1
 replace H := Option.bind_eq_some_iff.mp H
 obtain ⟨t349, A1620, H⟩ := H
 replace H : (if t349 < 0 then (some false) else (if t349 = t323 then (some true) else (some false))) = some r := H
 have A162 := Aside0.mk A1620
 clear A1620
 by_cases c163 : t349 < 0
 {
 rw [if_pos c163] at H
 have c163b0 : decide (t349 < 0) = true := decide_eq_true c163
 clear c163
 obtain rfl := Option.some.inj H
 have hnb164 := NB306_264.out
 have hnc164 := NB264_306.out
 have hnb165 := NB306_285.out
 have hnc165 := NB285_306.out
 have hnb166 := NB306_295.out
 have hnc166 := NB295_306.out
 have hnb167 := NB306_347.out
 have hnc167 := NB347_306.out
 have hcz168_0 := c1_ BK306 0 (.slice Ao39 t324.length co39)
 have hcz168_1 := c1_ BK306 1 (.slice Ao44 t325.length co44)
 have hcz168_2 := c1_ BK306 2 (.slice Ao45 t326.length co45)
 have hfz168_0 := f1_ BK306 0
 have hfz168_1 := f1_ BK306 1
 have hfz168_2 := f1_ BK306 2
 go_wp2_with (first | ((with_reducible refine gate_callee (f := 29) rfl ?_); refine goesL_ (some 95) rfl rfl Try.func29 s2_ rfl #[.agg #[.slice Ao39 t324.length co39, .slice Ao44 t325.length co44, .slice Ao45 t326.length co45], .int .i64 1] rfl s3_ ?_; (with_reducible refine (laws_heldPresence.calls kj113 _ _ t324 _ _ t325 _ _ t326 1 t349 _ ?side1 ?side2 ?side3 ?side4 ?side5 ?side6 A162.out).mono ?_); (case side1 => exact y2_ (Kd.R_reads' HO_307000.out).2.2); (case side2 => exact (Kd.R_reads' HO_307000.out).2.1); (case side3 => exact y2_ (Kd.R_reads' HO_307001.out).2.2); (case side4 => exact (Kd.R_reads' HO_307001.out).2.1); (case side5 => exact y2_ (Kd.R_reads' HO_307002.out).2.2); (case side6 => exact (Kd.R_reads' HO_307002.out).2.1); rintro e w169 ⟨rfl, hb⟩; refine ⟨_, rfl, ?_⟩; replace HO_286000 := r1_ HO_286000 hb; replace HO_286001 := r1_ HO_286001 hb; replace HO_286002 := r1_ HO_286002 hb; replace HO_296000 := r1_ HO_296000 hb; replace HO_296001 := r1_ HO_296001 hb; replace HO_296002 := r1_ HO_296002 hb; replace HO_307000 := r1_ HO_307000 hb; replace HO_307001 := r1_ HO_307001 hb; replace HO_307002 := r1_ HO_307002 hb; replace HO_348000 := r1_ HO_348000 hb; replace HO_348001 := r1_ HO_348001 hb; replace HO_348002 := r1_ HO_348002 hb; replace BK264 := b3_ BK264 hb; replace BK285 := b3_ BK285 hb; replace BK295 := b3_ BK295 hb; replace BK306 := b3_ BK306 hb; replace BK347 := b3_ BK347 hb; replace HB := Aside0.mk (below_step (y1_ HB.out) hb); (try clear hb); (try clear hb2); (try clear hk); (try clear hi)))
 go_ret
 exact ⟨by first | rfl | (simp [errW_none, errW_some] <;> rfl) | (simp [*, errW_none, errW_some] <;> rfl), by repeat (first | (with_reducible first | exact HB.out | apply below_alloc | apply pw_below_drewN | apply below_drew1) | exact HB.out)⟩}
 {
 rw [if_neg c163] at H
 have c163b0 : decide (t349 < 0) = false := decide_eq_false c163
 clear c163
 by_cases c170 : t349 = t323
 {
 rw [if_pos c170] at H
 have c170b0 : (t349 == t323) = true := beq_iff_eq.mpr c170
 have c170b1 : (t349 != t323) = false := bne_eq_false_iff_eq.mpr c170
 clear c170
 obtain rfl := Option.some.inj H
 have hnb171 := NB306_264.out
 have hnc171 := NB264_306.out
 have hnb172 := NB306_285.out
 have hnc172 := NB285_306.out
 have hnb173 := NB306_295.out
 have hnc173 := NB295_306.out
 have hnb174 := NB306_347.out
 have hnc174 := NB347_306.out
 have hcz175_0 := c1_ BK306 0 (.slice Ao39 t324.length co39)
 have hcz175_1 := c1_ BK306 1 (.slice Ao44 t325.length co44)
 have hcz175_2 := c1_ BK306 2 (.slice Ao45 t326.length co45)
 have hfz175_0 := f1_ BK306 0
 have hfz175_1 := f1_ BK306 1
 have hfz175_2 := f1_ BK306 2
 go_wp2_with (first | ((with_reducible refine gate_callee (f := 29) rfl ?_); refine goesL_ (some 95) rfl rfl Try.func29 s2_ rfl #[.agg #[.slice Ao39 t324.length co39, .slice Ao44 t325.length co44, .slice Ao45 t326.length co45], .int .i64 1] rfl s3_ ?_; (with_reducible refine (laws_heldPresence.calls kj113 _ _ t324 _ _ t325 _ _ t326 1 t349 _ ?side1 ?side2 ?side3 ?side4 ?side5 ?side6 A162.out).mono ?_); (case side1 => exact y2_ (Kd.R_reads' HO_307000.out).2.2); (case side2 => exact (Kd.R_reads' HO_307000.out).2.1); (case side3 => exact y2_ (Kd.R_reads' HO_307001.out).2.2); (case side4 => exact (Kd.R_reads' HO_307001.out).2.1); (case side5 => exact y2_ (Kd.R_reads' HO_307002.out).2.2); (case side6 => exact (Kd.R_reads' HO_307002.out).2.1); rintro e w176 ⟨rfl, hb⟩; refine ⟨_, rfl, ?_⟩; replace HO_286000 := r1_ HO_286000 hb; replace HO_286001 := r1_ HO_286001 hb; replace HO_286002 := r1_ HO_286002 hb; replace HO_296000 := r1_ HO_296000 hb; replace HO_296001 := r1_ HO_296001 hb; replace HO_296002 := r1_ HO_296002 hb; replace HO_307000 := r1_ HO_307000 hb; replace HO_307001 := r1_ HO_307001 hb; replace HO_307002 := r1_ HO_307002 hb; replace HO_348000 := r1_ HO_348000 hb; replace HO_348001 := r1_ HO_348001 hb; replace HO_348002 := r1_ HO_348002 hb; replace BK264 := b3_ BK264 hb; replace BK285 := b3_ BK285 hb; replace BK295 := b3_ BK295 hb; replace BK306 := b3_ BK306 hb; replace BK347 := b3_ BK347 hb; replace HB := Aside0.mk (below_step (y1_ HB.out) hb); (try clear hb); (try clear hb2); (try clear hk); (try clear hi)))
 go_ret
 exact ⟨by first | rfl | (simp [errW_none, errW_some] <;> rfl) | (simp [*, errW_none, errW_some] <;> rfl), by repeat (first | (with_reducible first | exact HB.out | apply below_alloc | apply pw_below_drewN | apply below_drew1) | exact HB.out)⟩}
 {
 rw [if_neg c170] at H
 have c170b0 : (t349 == t323) = false := beq_eq_false_iff_ne.mpr c170
 have c170b1 : (t349 != t323) = true := bne_iff_ne.mpr c170
 obtain rfl := Option.some.inj H
 have hnb177 := NB306_264.out
 have hnc177 := NB264_306.out
 have hnb178 := NB306_285.out
 have hnc178 := NB285_306.out
 have hnb179 := NB306_295.out
 have hnc179 := NB295_306.out
 have hnb180 := NB306_347.out
 have hnc180 := NB347_306.out
 have hcz181_0 := c1_ BK306 0 (.slice Ao39 t324.length co39)
 have hcz181_1 := c1_ BK306 1 (.slice Ao44 t325.length co44)
 have hcz181_2 := c1_ BK306 2 (.slice Ao45 t326.length co45)
 have hfz181_0 := f1_ BK306 0
 have hfz181_1 := f1_ BK306 1
 have hfz181_2 := f1_ BK306 2
 go_wp2_with (first | ((with_reducible refine gate_callee (f := 29) rfl ?_); refine goesL_ (some 95) rfl rfl Try.func29 s2_ rfl #[.agg #[.slice Ao39 t324.length co39, .slice Ao44 t325.length co44, .slice Ao45 t326.length co45], .int .i64 1] rfl s3_ ?_; (with_reducible refine (laws_heldPresence.calls kj113 _ _ t324 _ _ t325 _ _ t326 1 t349 _ ?side1 ?side2 ?side3 ?side4 ?side5 ?side6 A162.out).mono ?_); (case side1 => exact y2_ (Kd.R_reads' HO_307000.out).2.2); (case side2 => exact (Kd.R_reads' HO_307000.out).2.1); (case side3 => exact y2_ (Kd.R_reads' HO_307001.out).2.2); (case side4 => exact (Kd.R_reads' HO_307001.out).2.1); (case side5 => exact y2_ (Kd.R_reads' HO_307002.out).2.2); (case side6 => exact (Kd.R_reads' HO_307002.out).2.1); rintro e w182 ⟨rfl, hb⟩; refine ⟨_, rfl, ?_⟩; replace HO_286000 := r1_ HO_286000 hb; replace HO_286001 := r1_ HO_286001 hb; replace HO_286002 := r1_ HO_286002 hb; replace HO_296000 := r1_ HO_296000 hb; replace HO_296001 := r1_ HO_296001 hb; replace HO_296002 := r1_ HO_296002 hb; replace HO_307000 := r1_ HO_307000 hb; replace HO_307001 := r1_ HO_307001 hb; replace HO_307002 := r1_ HO_307002 hb; replace HO_348000 := r1_ HO_348000 hb; replace HO_348001 := r1_ HO_348001 hb; replace HO_348002 := r1_ HO_348002 hb; replace BK264 := b3_ BK264 hb; replace BK285 := b3_ BK285 hb; replace BK295 := b3_ BK295 hb; replace BK306 := b3_ BK306 hb; replace BK347 := b3_ BK347 hb; replace HB := Aside0.mk (below_step (y1_ HB.out) hb); (try clear hb); (try clear hb2); (try clear hk); (try clear hi)))
 go_ret
 exact ⟨by first | rfl | (simp [errW_none, errW_some] <;> rfl) | (simp [*, errW_none, errW_some] <;> rfl), by repeat (first | (with_reducible first | exact HB.out | apply below_alloc | apply pw_below_drewN | apply below_drew1) | exact HB.out)⟩}}}}}}
 {
 rw [if_neg c111] at H
 have c111b0 : (t327 == t323) = false := beq_eq_false_iff_ne.mpr c111
 have c111b1 : (t327 != t323) = true := bne_iff_ne.mpr c111
 obtain rfl := Option.some.inj H
 have hnb183 := NB306_264.out
 have hnc183 := NB264_306.out
 have hnb184 := NB306_285.out
 have hnc184 := NB285_306.out
 have hnb185 := NB306_295.out
 have hnc185 := NB295_306.out
 have hcz186_0 := c1_ BK306 0 (.slice Ao39 t296.length co39)
 have hcz186_1 := c1_ BK306 1 (.slice Ao44 t299.length co44)
 have hcz186_2 := c1_ BK306 2 (.slice Ao45 t302.length co45)
 have hfz186_0 := f1_ BK306 0
 have hfz186_1 := f1_ BK306 1
 have hfz186_2 := f1_ BK306 2
 go_wp2_with (first | ((with_reducible refine gate_callee (f := 28) rfl ?_); refine goesL_ (some 68) rfl rfl Try.func28 s2_ rfl #[.agg #[.slice Ao39 t296.length co39, .slice Ao44 t299.length co44, .slice Ao45 t302.length co45], .int .i64 1] rfl s3_ ?_; (with_reducible refine (laws_markPresence.calls kj68 (fun k_ => some k_ = (.slice Ao39 t296.length co39 : Value).ownBlock) (.slice Ao39 t296.length co39) t296 (fun k_ => some k_ = (.slice Ao44 t299.length co44 : Value).ownBlock) (.slice Ao44 t299.length co44) t299 (fun k_ => some k_ = (.slice Ao45 t302.length co45 : Value).ownBlock) (.slice Ao45 t302.length co45) t302 1 t323 t324 t325 t326 w _ ?side1 ?side2 ?side3 ?side4 ?side5 ?side6 A101.out).mono ?_); (case side1 => repeat (first | (with_reducible first | exact HB.out | apply below_alloc | apply pw_below_drewN | apply below_drew1) | exact HB.out)); (case side2 => exact Kd.R_tight rfl HO_307000.out); (case side3 => exact fun k_ e_ => (HO_307000.out.1 k_ e_.symm).2.2.2.2); (case side4 => exact Kd.R_tight rfl HO_307001.out); (case side5 => exact fun k_ e_ => (HO_307001.out.1 k_ e_.symm).2.2.2.2); (case side6 => exact Kd.R_tight rfl HO_307002.out); rintro e w187 ⟨rfl, hy0, hy1, hy2, hb, hkp⟩; refine ⟨_, rfl, ?_⟩; have n0_ := Aside0.mk (Kd.R_mono (ok' := fun k_ => some k_ ≠ (.slice Ao26 t278.length co26 : Value).ownBlock ∧ some k_ ≠ (.slice Ao31 t319.length co31 : Value).ownBlock ∧ some k_ ≠ (.slice Ao35 t320.length co35 : Value).ownBlock ∧ some k_ ≠ (.slice Ao39 t296.length co39 : Value).ownBlock ∧ some k_ ≠ (.slice Ao44 t299.length co44 : Value).ownBlock) (Kd.R_keptB ((Kd.R_apart' HO_286000.out (Kd.R_typed HO_307002.out) (by decide))) hkp (fun k_ hk_ hs_ => Or.elim hs_ (fun e_ => (hk_.1.2.2.2.1) e_) (fun e_ => Or.elim e_ (fun e_ => (hk_.1.2.2.2.2) e_) (fun e_ => (hk_.2) e_)))) (fun k_ hk_ => ⟨hk_.1.1.1, hk_.1.1.2.1, hk_.1.1.2.2.1, hk_.1.1.2.2.2.1, hk_.1.1.2.2.2.2⟩)); have n1_ := Aside0.mk (Kd.R_mono (ok' := fun k_ => some k_ ≠ (.slice Ao23 t275.length co23 : Value).ownBlock ∧ some k_ ≠ (.slice Ao31 t319.length co31 : Value).ownBlock ∧ some k_ ≠ (.slice Ao35 t320.length co35 : Value).ownBlock ∧ some k_ ≠ (.slice Ao39 t296.length co39 : Value).ownBlock ∧ some k_ ≠ (.slice Ao44 t299.length co44 : Value).ownBlock) (Kd.R_keptB ((Kd.R_apart' HO_286001.out (Kd.R_typed HO_307002.out) (by decide))) hkp (fun k_ hk_ hs_ => Or.elim hs_ (fun e_ => (hk_.1.2.2.2.1) e_) (fun e_ => Or.elim e_ (fun e_ => (hk_.1.2.2.2.2) e_) (fun e_ => (hk_.2) e_)))) (fun k_ hk_ => ⟨hk_.1.1.1, hk_.1.1.2.1, hk_.1.1.2.2.1, hk_.1.1.2.2.2.1, hk_.1.1.2.2.2.2⟩)); have n2_ := Aside0.mk (Kd.R_mono (ok' := fun k_ => some k_ ≠ (.slice Ao36 t321.length co36 : Value).ownBlock ∧ some k_ ≠ (.slice Ao45 t302.length co45 : Value).ownBlock) (Kd.R_keptB ((Kd.R_apart' (Kd.R_apart' HO_286002.out (Kd.R_typed HO_307000.out) (by decide)) (Kd.R_typed HO_307001.out) (by decide))) hkp (fun k_ hk_ hs_ => Or.elim hs_ (fun e_ => (hk_.1.2) e_) (fun e_ => Or.elim e_ (fun e_ => (hk_.2) e_) (fun e_ => (hk_.1.1.2) e_)))) (fun k_ hk_ => ⟨hk_.1.1.1.1, hk_.1.1.1.2⟩)); have n3_ := Aside0.mk (Kd.R_mono (ok' := fun k_ => some k_ ≠ (.slice Ao23 t275.length co23 : Value).ownBlock ∧ some k_ ≠ (.slice Ao26 t278.length co26 : Value).ownBlock ∧ some k_ ≠ (.slice Ao35 t320.length co35 : Value).ownBlock ∧ some k_ ≠ (.slice Ao39 t296.length co39 : Value).ownBlock ∧ some k_ ≠ (.slice Ao44 t299.length co44 : Value).ownBlock) (Kd.R_keptB ((Kd.R_apart' HO_296000.out (Kd.R_typed HO_307002.out) (by decide))) hkp (fun k_ hk_ hs_ => Or.elim hs_ (fun e_ => (hk_.1.2.2.2.1) e_) (fun e_ => Or.elim e_ (fun e_ => (hk_.1.2.2.2.2) e_) (fun e_ => (hk_.2) e_)))) (fun k_ hk_ => ⟨hk_.1.1.1, hk_.1.1.2.1, hk_.1.1.2.2.1, hk_.1.1.2.2.2.1, hk_.1.1.2.2.2.2⟩)); have n4_ := Aside0.mk (Kd.R_mono (ok' := fun k_ => some k_ ≠ (.slice Ao23 t275.length co23 : Value).ownBlock ∧ some k_ ≠ (.slice Ao26 t278.length co26 : Value).ownBlock ∧ some k_ ≠ (.slice Ao31 t319.length co31 : Value).ownBlock ∧ some k_ ≠ (.slice Ao39 t296.length co39 : Value).ownBlock ∧ some k_ ≠ (.slice Ao44 t299.length co44 : Value).ownBlock) (Kd.R_keptB ((Kd.R_apart' HO_296001.out (Kd.R_typed HO_307002.out) (by decide))) hkp (fun k_ hk_ hs_ => Or.elim hs_ (fun e_ => (hk_.1.2.2.2.1) e_) (fun e_ => Or.elim e_ (fun e_ => (hk_.1.2.2.2.2) e_) (fun e_ => (hk_.2) e_)))) (fun k_ hk_ => ⟨hk_.1.1.1, hk_.1.1.2.1, hk_.1.1.2.2.1, hk_.1.1.2.2.2.1, hk_.1.1.2.2.2.2⟩)); have n5_ := Aside0.mk (Kd.R_mono (ok' := fun k_ => some k_ ≠ (.slice Ao27 t281.length co27 : Value).ownBlock ∧ some k_ ≠ (.slice Ao45 t302.length co45 : Value).ownBlock) (Kd.R_keptB ((Kd.R_apart' (Kd.R_apart' HO_296002.out (Kd.R_typed HO_307000.out) (by decide)) (Kd.R_typed HO_307001.out) (by decide))) hkp (fun k_ hk_ hs_ => Or.elim hs_ (fun e_ => (hk_.1.2) e_) (fun e_ => Or.elim e_ (fun e_ => (hk_.2) e_) (fun e_ => (hk_.1.1.2) e_)))) (fun k_ hk_ => ⟨hk_.1.1.1.1, hk_.1.1.1.2⟩)); have n6_ := Aside0.mk (Kd.R_reok rfl hy0 (fun k_ e_ => HO_307000.out.1 k_ e_)); have n7_ := Aside0.mk (Kd.R_reok rfl hy1 (fun k_ e_ => HO_307001.out.1 k_ e_)); have n8_ := Aside0.mk (Kd.R_reok rfl hy2 (fun k_ e_ => HO_307002.out.1 k_ e_)); have n9_ := Aside0.mk (blk_kept (b1_ BK264.out) hkp (fun hs_ => Or.elim hs_ (fun e_ => (fun e_ => (Kd.R_ne HO_307000.out BK264.out (by decide)) e_) e_) (fun e_ => Or.elim e_ (fun e_ => (fun e_ => (Kd.R_ne HO_307001.out BK264.out (by decide)) e_) e_) (fun e_ => (fun e_ => (Kd.R_ne HO_307002.out BK264.out (by decide)) e_) e_)))); have n10_ := Aside0.mk (blk_kept (b1_ BK285.out) hkp (fun hs_ => Or.elim hs_ (fun e_ => (fun e_ => (Kd.R_ne HO_307000.out BK285.out (by decide)) e_) e_) (fun e_ => Or.elim e_ (fun e_ => (fun e_ => (Kd.R_ne HO_307001.out BK285.out (by decide)) e_) e_) (fun e_ => (fun e_ => (Kd.R_ne HO_307002.out BK285.out (by decide)) e_) e_)))); have n11_ := Aside0.mk (blk_kept (b1_ BK295.out) hkp (fun hs_ => Or.elim hs_ (fun e_ => (fun e_ => (Kd.R_ne HO_307000.out BK295.out (by decide)) e_) e_) (fun e_ => Or.elim e_ (fun e_ => (fun e_ => (Kd.R_ne HO_307001.out BK295.out (by decide)) e_) e_) (fun e_ => (fun e_ => (Kd.R_ne HO_307002.out BK295.out (by decide)) e_) e_)))); have n12_ := Aside0.mk (blk_kept (b1_ BK306.out) hkp (fun hs_ => Or.elim hs_ (fun e_ => (fun e_ => (Kd.R_ne HO_307000.out BK306.out (by decide)) e_) e_) (fun e_ => Or.elim e_ (fun e_ => (fun e_ => (Kd.R_ne HO_307001.out BK306.out (by decide)) e_) e_) (fun e_ => (fun e_ => (Kd.R_ne HO_307002.out BK306.out (by decide)) e_) e_)))); have n13_ := Aside0.mk (hb); clear HO_286000; clear HO_286001; clear HO_286002; clear HO_296000; clear HO_296001; clear HO_296002; clear HO_307000; clear HO_307001; clear HO_307002; clear BK264; clear BK285; clear BK295; clear BK306; clear HB; have HO_286000 := n0_; have HO_286001 := n1_; have HO_286002 := n2_; have HO_296000 := n3_; have HO_296001 := n4_; have HO_296002 := n5_; have HO_307000 := n6_; have HO_307001 := n7_; have HO_307002 := n8_; have BK264 := n9_; have BK285 := n10_; have BK295 := n11_; have BK306 := n12_; have HB := n13_; clear n0_ n1_ n2_ n3_ n4_ n5_ n6_ n7_ n8_ n9_ n10_ n11_ n12_ n13_; (try clear hb); (try clear hkp); (try clear hy0); (try clear hy1); (try clear hy2); have hcz188_0 := c1_ BK306 0 (.slice Ao39 t296.length co39); have hcz188_1 := c1_ BK306 1 (.slice Ao44 t299.length co44); have hcz188_2 := c1_ BK306 2 (.slice Ao45 t302.length co45); have hfz188_0 := f1_ BK306 0; have hfz188_1 := f1_ BK306 1; have hfz188_2 := f1_ BK306 2) | ((with_reducible refine gate_callee (f := 29) rfl ?_); refine goesL_ (some 71) rfl rfl Try.func29 s2_ rfl #[.agg #[.slice Ao39 t324.length co39, .slice Ao44 t325.length co44, .slice Ao45 t326.length co45], .int .i64 1] rfl (by (try simp only [List.map_toArray, List.map_cons, List.map_nil]); first | done | (rw [show t324.length = t296.length from (Kd.R_reads' HO_307000.out).1.symm, show t325.length = t299.length from (Kd.R_reads' HO_307001.out).1.symm, show t326.length = t302.length from (Kd.R_reads' HO_307002.out).1.symm] <;> rfl) | rfl | (simp only [List.length_drop, List.length_take]; rfl)) ?_; (with_reducible refine (laws_heldPresence.calls kj68 _ _ t324 _ _ t325 _ _ t326 1 t327 _ ?side1 ?side2 ?side3 ?side4 ?side5 ?side6 A102.out).mono ?_); (case side1 => exact y2_ (Kd.R_reads' HO_307000.out).2.2); (case side2 => rw [show t324.length = t296.length from (Kd.R_reads' HO_307000.out).1.symm]; exact (Kd.R_reads' HO_307000.out).2.1); (case side3 => exact y2_ (Kd.R_reads' HO_307001.out).2.2); (case side4 => rw [show t325.length = t299.length from (Kd.R_reads' HO_307001.out).1.symm]; exact (Kd.R_reads' HO_307001.out).2.1); (case side5 => exact y2_ (Kd.R_reads' HO_307002.out).2.2); (case side6 => rw [show t326.length = t302.length from (Kd.R_reads' HO_307002.out).1.symm]; exact (Kd.R_reads' HO_307002.out).2.1); rintro e w189 ⟨rfl, hb⟩; refine ⟨_, rfl, ?_⟩; replace HO_286000 := r1_ HO_286000 hb; replace HO_286001 := r1_ HO_286001 hb; replace HO_286002 := r1_ HO_286002 hb; replace HO_296000 := r1_ HO_296000 hb; replace HO_296001 := r1_ HO_296001 hb; replace HO_296002 := r1_ HO_296002 hb; replace HO_307000 := r1_ HO_307000 hb; replace HO_307001 := r1_ HO_307001 hb; replace HO_307002 := r1_ HO_307002 hb; replace BK264 := b3_ BK264 hb; replace BK285 := b3_ BK285 hb; replace BK295 := b3_ BK295 hb; replace BK306 := b3_ BK306 hb; replace HB := Aside0.mk (below_step (y1_ HB.out) hb); (try clear hb); (try clear hb2); (try clear hk); (try clear hi)))
 go_ret
 exact ⟨by first | rfl | (simp [errW_none, errW_some] <;> rfl) | (simp [*, errW_none, errW_some] <;> rfl), by repeat (first | (with_reducible first | exact HB.out | apply below_alloc | apply pw_below_drewN | apply below_drew1) | exact HB.out)⟩}}}}}}
 {
 replace c67 := Bool.eq_false_iff.mpr c67
 subst c67
 have H1 : (some false) = some r := by rw [if_neg (show ¬ (false = true) by decide)] at H; exact H
 clear H
 have H := H1
 clear H1
 obtain rfl := Option.some.inj H
 try go_wp2
 replace HO_286000 := Aside0.mk (Kd.R_drew HO_286000.out)
 replace HO_286001 := Aside0.mk (Kd.R_drew HO_286001.out)
 replace HO_286002 := Aside0.mk (Kd.R_drew HO_286002.out)
 replace HO_296000 := Aside0.mk (Kd.R_drew HO_296000.out)
 replace HO_296001 := Aside0.mk (Kd.R_drew HO_296001.out)
 replace HO_296002 := Aside0.mk (Kd.R_drew HO_296002.out)
 replace HO_307000 := Aside0.mk (Kd.R_drew HO_307000.out)
 replace HO_307001 := Aside0.mk (Kd.R_drew HO_307001.out)
 replace HO_307002 := Aside0.mk (Kd.R_drew HO_307002.out)
 replace BK264 := Aside0.mk (blk_drew BK264.out)
 replace BK285 := Aside0.mk (blk_drew BK285.out)
 replace BK295 := Aside0.mk (blk_drew BK295.out)
 replace BK306 := Aside0.mk (blk_drew BK306.out)
 replace HB := Aside0.mk (below_drew1 HB.out)
 refine start_ (n := 5) (S := fun w' => w'.cell? ⟨gb295, 0, none⟩ = some (.slice Ao31 t286.length co31) ∧ w'.cell? ⟨gb295, 1, none⟩ = some (.slice Ao35 t289.length co35) ∧ w'.cell? ⟨gb295, 2, none⟩ = some (.slice Ao36 t292.length co36) ∧ w'.cell? ⟨gb264, 0, none⟩ = some (.slice A0_0 l0_0.length c0_0) ∧ w'.cell? ⟨gb264, 1, none⟩ = some (.slice A0_1 l0_1.length c0_1) ∧ w'.cell? ⟨gb264, 2, none⟩ = some (.slice A0_2 l0_2.length c0_2)) (ds := []) #[F,F,F,F,F] s2_ rfl rfl ⟨(blk_cell BK295.out 0).trans rfl, (blk_cell BK295.out 1).trans rfl, (blk_cell BK295.out 2).trans rfl, (blk_cell BK264.out 0).trans rfl, (blk_cell BK264.out 1).trans rfl, (blk_cell BK264.out 2).trans rfl⟩ (fun hHeld => ?_)
 generalize wc.drew = w190 at HO_286000 HO_286001 HO_286002 HO_296000 HO_296001 HO_296002 HO_307000 HO_307001 HO_307002 BK264 BK285 BK295 BK306 HB hHeld ⊢
 refine take_ (i := 0) (N := some 45) (v := ?_) (a' := ?_) #[T,F,F,F,F] rfl rfl s2_ (fun _ _ _ h => h) (Or.inl ⟨by rfl, ?_⟩) hHeld ?_ ?_
 rotate_left
 {
 rintro w' ⟨s0, s1, s2, s3, s4, s5⟩
 go_simp
 with_reducible rfl}
 rotate_left
 · exact p1_
 refine take_ (i := 1) (N := some 46) (v := ?_) (a' := ?_) #[T,T,F,F,F] rfl rfl s2_ (fun _ _ _ h => h) (Or.inl ⟨by rfl, ?_⟩) hHeld ?_ ?_
 rotate_left
 {
 rintro w' ⟨s0, s1, s2, s3, s4, s5⟩
 go_simp
 with_reducible rfl}
 rotate_left
 · exact p1_
 refine one_ (i := 2) (N := some 47) #[T,T,T,F,F] rfl rfl s2_ (by decide) (fun K hK => ?_)
 refine goes_ Try.func26 s2_ rfl #[.agg #[.slice A0_0 l0_0.length c0_0, .slice A0_1 l0_1.length c0_1, .slice A0_2 l0_2.length c0_2]] (by rfl) rfl rfl s3_ ?_
 with_reducible refine (laws_toPresence.calls kj11 _ _ l0_0 _ _ l0_1 _ _ l0_2 t308 t311 t314 _ ?side1 ?side2 ?side3 ?side4 ?side5 ?side6 A65.out).mono ?_
 (case side1 => exact y2_ (Kd.C_below HR0_0.out HB.out))
 (case side2 => exact HC0_0.out)
 (case side3 => exact y2_ (Kd.C_below HR0_1.out HB.out))
 (case side4 => exact HC0_1.out)
 (case side5 => exact y2_ (Kd.C_below HR0_2.out HB.out))
 (case side6 => exact HC0_2.out)
 rintro e w191 ⟨v309, v312, v315, rfl, ho0, ho1, ho2, hb⟩
 refine ⟨_, rfl, ?_⟩
 have n0_ := Aside0.mk (Kd.R_mono (Kd.R_told (Kd.R_told (Kd.R_old (b2_ HO_286000.out) hb) (Kd.R_base ho0)) (Kd.R_base ho1)) (fun _ h_ => h_.1))
 have n1_ := Aside0.mk (Kd.R_mono (Kd.R_told (Kd.R_told (Kd.R_old (b2_ HO_286001.out) hb) (Kd.R_base ho0)) (Kd.R_base ho1)) (fun _ h_ => h_.1))
 have n2_ := Aside0.mk (Kd.R_elder' (b2_ HO_286002.out) (Kd.R_base ho2) hb)
 have n3_ := Aside0.mk (Kd.R_mono (Kd.R_told (Kd.R_told (Kd.R_old (b2_ HO_296000.out) hb) (Kd.R_base ho0)) (Kd.R_base ho1)) (fun _ h_ => h_.1))
 have n4_ := Aside0.mk (Kd.R_mono (Kd.R_told (Kd.R_told (Kd.R_old (b2_ HO_296001.out) hb) (Kd.R_base ho0)) (Kd.R_base ho1)) (fun _ h_ => h_.1))
 have n5_ := Aside0.mk (Kd.R_elder' (b2_ HO_296002.out) (Kd.R_base ho2) hb)
 have n6_ := Aside0.mk (Kd.R_mono (Kd.R_told (Kd.R_told (Kd.R_old (b2_ HO_307000.out) hb) (Kd.R_base ho0)) (Kd.R_base ho1)) (fun _ h_ => h_.1))
 have n7_ := Aside0.mk (Kd.R_mono (Kd.R_told (Kd.R_told (Kd.R_old (b2_ HO_307001.out) hb) (Kd.R_base ho0)) (Kd.R_base ho1)) (fun _ h_ => h_.1))
 have n8_ := Aside0.mk (Kd.R_elder' (b2_ HO_307002.out) (Kd.R_base ho2) hb)
 have n9_ := Aside0.mk (Kd.R_lower (Kd.R_new' (Kd.R_new' (Kd.R_new' (Kd.R_new' (Kd.R_new' (Kd.R_new' ho0 (Kd.R_lt (b2_ HO_286000.out))) (Kd.R_lt (b2_ HO_286001.out))) (Kd.R_lt (b2_ HO_296000.out))) (Kd.R_lt (b2_ HO_296001.out))) (Kd.R_lt (b2_ HO_307000.out))) (Kd.R_lt (b2_ HO_307001.out))) (below_size (y1_ HB.out)))
 have n10_ := Aside0.mk (Kd.R_lower (Kd.R_new' (Kd.R_new' (Kd.R_new' (Kd.R_new' (Kd.R_new' (Kd.R_new' ho1 (Kd.R_lt (b2_ HO_286000.out))) (Kd.R_lt (b2_ HO_286001.out))) (Kd.R_lt (b2_ HO_296000.out))) (Kd.R_lt (b2_ HO_296001.out))) (Kd.R_lt (b2_ HO_307000.out))) (Kd.R_lt (b2_ HO_307001.out))) (below_size (y1_ HB.out)))
 have n11_ := Aside0.mk (Kd.R_lower (Kd.R_new' (Kd.R_new' (Kd.R_new' ho2 (Kd.R_lt (b2_ HO_286002.out))) (Kd.R_lt (b2_ HO_296002.out))) (Kd.R_lt (b2_ HO_307002.out))) (below_size (y1_ HB.out)))
 have n12_ := b3_ BK264 hb
 have n13_ := b3_ BK285 hb
 have n14_ := b3_ BK295 hb
 have n15_ := b3_ BK306 hb
 have n16_ := Aside0.mk (below_step (y1_ HB.out) hb)
 clear HO_286000
 clear HO_286001
 clear HO_286002
 clear HO_296000
 clear HO_296001
 clear HO_296002
 clear HO_307000
 clear HO_307001
 clear HO_307002
 clear BK264
 clear BK285
 clear BK295
 clear BK306
 clear HB
 have HO_286000 := n0_
 have HO_286001 := n1_
 have HO_286002 := n2_
 have HO_296000 := n3_
 have HO_296001 := n4_
 have HO_296002 := n5_
 have HO_307000 := n6_
 have HO_307001 := n7_
 have HO_307002 := n8_
 have HO310 := n9_
 have HO313 := n10_
 have HO316 := n11_
 have BK264 := n12_
 have BK285 := n13_
 have BK295 := n14_
 have BK306 := n15_
 have HB := n16_
 clear n0_ n1_ n2_ n3_ n4_ n5_ n6_ n7_ n8_ n9_ n10_ n11_ n12_ n13_ n14_ n15_ n16_
 (try clear hb)
 (try clear hb2)
 (try clear hk)
 (try clear hi)
 (try clear ho0)
 (try clear ho1)
 (try clear ho2)
 obtain ⟨Ao192, co192, eo192⟩ := Kd.R_slice HO310.out
 (first | subst eo192 | (injection eo192 with f1_ f2_ f3_; have f4_ := f1_.symm; have f5_ := f3_.symm; clear f1_ f2_ f3_; subst f4_; subst f5_))
 obtain ⟨Ao193, co193, eo193⟩ := Kd.R_slice HO313.out
 (first | subst eo193 | (injection eo193 with f1_ f2_ f3_; have f4_ := f1_.symm; have f5_ := f3_.symm; clear f1_ f2_ f3_; subst f4_; subst f5_))
 obtain ⟨Ao194, co194, eo194⟩ := Kd.R_slice HO316.out
 (first | subst eo194 | (injection eo194 with f1_ f2_ f3_; have f4_ := f1_.symm; have f5_ := f3_.symm; clear f1_ f2_ f3_; subst f4_; subst f5_))
 refine hK.out _ _ ⟨(blk_cell BK295.out 0).trans rfl, (blk_cell BK295.out 1).trans rfl, (blk_cell BK295.out 2).trans rfl, (blk_cell BK264.out 0).trans rfl, (blk_cell BK264.out 1).trans rfl, (blk_cell BK264.out 2).trans rfl⟩ (fun hHeld => ?_)
 clear hK K
 refine norm_ (a' := ?_) ?_ ?_
 rotate_left
 {
 show Act.put _ (some 47) _ = _
 simp only [Act.put, List.setIfInBounds_toArray, List.set_cons_zero, List.set_cons_succ, i64_w, i32_w]
 rfl}
 refine one_ (i := 3) (N := some 48) #[T,T,T,T,F] rfl rfl s2_ (by decide) (fun K hK => ?_)
 refine goes_ Try.func27 s2_ rfl #[.agg #[.slice Ao31 t286.length co31, .slice Ao35 t289.length co35, .slice Ao36 t292.length co36], .agg #[.slice Ao192 t308.length co192, .slice Ao193 t311.length co193, .slice Ao194 t314.length co194]] (by rfl) rfl rfl s3_ ?_
 with_reducible refine (laws_eqPresence.calls kj11 _ _ t286 _ _ t289 _ _ t292 _ _ t308 _ _ t311 _ _ t314 false _ ?side1 ?side2 ?side3 ?side4 ?side5 ?side6 ?side7 ?side8 ?side9 ?side10 ?side11 ?side12 A66.out).mono ?_
 (case side1 => exact y2_ (Kd.R_reads' HO_296000.out).2.2)
 (case side2 => exact (Kd.R_reads' HO_296000.out).2.1)
 (case side3 => exact y2_ (Kd.R_reads' HO_296001.out).2.2)
 (case side4 => exact (Kd.R_reads' HO_296001.out).2.1)
 (case side5 => exact y2_ (Kd.R_reads' HO_296002.out).2.2)
 (case side6 => exact (Kd.R_reads' HO_296002.out).2.1)
 (case side7 => exact y2_ (Kd.R_reads' HO310.out).2.2)
 (case side8 => exact (Kd.R_reads' HO310.out).2.1)
 (case side9 => exact y2_ (Kd.R_reads' HO313.out).2.2)
 (case side10 => exact (Kd.R_reads' HO313.out).2.1)
 (case side11 => exact y2_ (Kd.R_reads' HO316.out).2.2)
 (case side12 => exact (Kd.R_reads' HO316.out).2.1)
 rintro e w195 ⟨rfl, hb⟩
 refine ⟨_, rfl, ?_⟩
 replace HO_286000 := r1_ HO_286000 hb
 replace HO_286001 := r1_ HO_286001 hb
 replace HO_286002 := r1_ HO_286002 hb
 replace HO_296000 := r1_ HO_296000 hb
 replace HO_296001 := r1_ HO_296001 hb
 replace HO_296002 := r1_ HO_296002 hb
 replace HO_307000 := r1_ HO_307000 hb
 replace HO_307001 := r1_ HO_307001 hb
 replace HO_307002 := r1_ HO_307002 hb
 replace HO310 := r1_ HO310 hb
 replace HO313 := r1_ HO313 hb
 replace HO316 := r1_ HO316 hb
 replace BK264 := b3_ BK264 hb
 replace BK285 := b3_ BK285 hb
 replace BK295 := b3_ BK295 hb
 replace BK306 := b3_ BK306 hb
 replace HB := Aside0.mk (below_step (y1_ HB.out) hb)
 (try clear hb)
 (try clear hb2)
 (try clear hk)
 (try clear hi)
 refine hK.out _ _ ⟨(blk_cell BK295.out 0).trans rfl, (blk_cell BK295.out 1).trans rfl, (blk_cell BK295.out 2).trans rfl, (blk_cell BK264.out 0).trans rfl, (blk_cell BK264.out 1).trans rfl, (blk_cell BK264.out 2).trans rfl⟩ (fun hHeld => ?_)
 clear hK K
 refine norm_ (a' := ?_) ?_ ?_
 rotate_left
 {
 show Act.put _ (some 48) _ = _
 simp only [Act.put, List.setIfInBounds_toArray, List.set_cons_zero, List.set_cons_succ, i64_w, i32_w]
 rfl}
 refine pure_ (i := 4) (N := some 49) (v := ?_) (a' := ?_) #[T,T,T,T,T] rfl rfl s2_ (fun _ _ _ h => h) (Or.inl ⟨by rfl, ?_⟩) ?_ ?_
 rotate_left
 {
 intro w'
 go_simp
 with_reducible rfl}
 rotate_left
 · exact p1_
 refine done_ s2_ ?_
 try go_wp2
 go_ret
 exact ⟨by first | rfl | (simp [errW_none, errW_some] <;> rfl) | (simp [*, errW_none, errW_some] <;> rfl), by repeat (first | (with_reducible first | exact HB.out | apply below_alloc | apply pw_below_drewN | apply below_drew1) | exact HB.out)⟩}}}}}

/-- THE ONE PURE STATEMENT of laws_FnExactSweepPresence: yours. -/
def laws_FnExactSweepPresence.Pure : Prop := ∀ (l0_0 : List (S108)) (l0_1 : List (S108)) (l0_2 : List (S110)) (a1 : Int), (l0_0.length ≤ maxLen ∧ l0_0.length * 16 ≤ 140737488351232 ∧ ∀ y0_ ∈ l0_0, fit108 y0_) → (l0_1.length ≤ maxLen ∧ l0_1.length * 16 ≤ 140737488351232 ∧ ∀ y0_ ∈ l0_1, fit108 y0_) → (l0_2.length ≤ maxLen ∧ l0_2.length * 16 ≤ 140737488351232 ∧ ∀ y0_ ∈ l0_2, fit110 y0_) → ((Lit.int .i64 a1).wf = true) → ∃ k, laws_FnExactSweepPresence.f k l0_0 l0_1 l0_2 a1 = some true
theorem laws_FnExactSweepPresence.walk (P : laws_FnExactSweepPresence.Pure) (A0_0 : Option Addr) (c0_0 : Nat) (l0_0 : List (S108)) (A0_1 : Option Addr) (c0_1 : Nat) (l0_1 : List (S108)) (A0_2 : Option Addr) (c0_2 : Nat) (l0_2 : List (S110)) (a1 : Int) (w : World) (hr0_0 : Kd.C k108 w A0_0 l0_0.length l0_0) (hc0_0 : l0_0.length ≤ c0_0) (hr0_1 : Kd.C k108 w A0_1 l0_1.length l0_1) (hc0_1 : l0_1.length ≤ c0_1) (hr0_2 : Kd.C k110 w A0_2 l0_2.length l0_2) (hc0_2 : l0_2.length ≤ c0_2) (F0_0 : l0_0.length ≤ maxLen ∧ l0_0.length * 16 ≤ 140737488351232 ∧ ∀ y0_ ∈ l0_0, fit108 y0_) (F0_1 : l0_1.length ≤ maxLen ∧ l0_1.length * 16 ≤ 140737488351232 ∧ ∀ y0_ ∈ l0_1, fit108 y0_) (F0_2 : l0_2.length ≤ maxLen ∧ l0_2.length * 16 ≤ 140737488351232 ∧ ∀ y0_ ∈ l0_2, fit110 y0_) (F1 : (Lit.int .i64 a1).wf = true) :
    Calls Try.prog 5 #[.agg #[.slice A0_0 l0_0.length c0_0, .slice A0_1 l0_1.length c0_1, .slice A0_2 l0_2.length c0_2], .int .i64 a1] w fun e w' => e = .returned (.bool true) ∧ Below w.heap.size w w' := by
  obtain ⟨k, h⟩ := P l0_0 l0_1 l0_2 a1 F0_0 F0_1 F0_2 F1
  refine (laws_FnExactSweepPresence.calls k A0_0 c0_0 l0_0 A0_1 c0_1 l0_1 A0_2 c0_2 l0_2 a1 true w hr0_0 hc0_0 hr0_1 hc0_1 hr0_2 hc0_2 h).mono ?_
  rintro e w' ⟨rfl, hd⟩
  exact ⟨rfl, hd⟩

end Go.Proofs.Ytgfilednbllkmaa.QFnExactSweepPresence
