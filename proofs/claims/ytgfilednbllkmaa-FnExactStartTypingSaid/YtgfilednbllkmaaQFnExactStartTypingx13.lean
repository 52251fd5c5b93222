-- written by a program of this session, on the lines of the kit's print
import Derived.Test.YtgfilednbllkmaaQFnExactStartTypingx0
import Derived.Test.YtgfilednbllkmaaQFnExactStartTypingx5
import Derived.Test.YtgfilednbllkmaaQFnExactStartTypingx6
import Derived.Test.YtgfilednbllkmaaQFnExactStartTypingx7
import Derived.Test.YtgfilednbllkmaaQFnExactStartTypingx8
import Derived.Test.YtgfilednbllkmaaQFnExactStartTypingx12
namespace Go.Proofs.Ytgfilednbllkmaa.QFnExactStartTyping
open Go.RowKit Go.Proofs.YtgfilednbllkmaaW.PrintWords Go.Proofs.YtgfilednbllkmaaW.PrintLast Go.Proofs.YtgfilednbllkmaaW.PrintMore
attribute [local go_sem] max2_int min2_int max_two min_two max_three min_three max_four min_four   -- for this text's walks alone
set_option linter.unusedVariables false
set_option linter.unusedSimpArgs false

/-! ### laws_FnExactStartTyping: function 8 -/
abbrev laws_FnExactStartTyping.T : Bool := true
abbrev laws_FnExactStartTyping.F : Bool := false
theorem laws_FnExactStartTyping.s1_ {P : Prop} (h : P := by first | rfl | (simp; done) | (simp [*]; done)) : P := h
theorem laws_FnExactStartTyping.s2_ {P : Prop} (h : P := by kernel_rfl) : P := h
theorem laws_FnExactStartTyping.s3_ {P : Prop} (h : P := by (try simp only [List.map_toArray, List.map_cons, List.map_nil]); first | done | rfl | (simp only [List.length_drop, List.length_take]; rfl)) : P := h
theorem laws_FnExactStartTyping.p1_ {P : Prop} (h : P := by simp only [Act.put, List.setIfInBounds_toArray, List.set_cons_zero, List.set_cons_succ, i64_w, i32_w]; rfl) : P := h
theorem laws_FnExactStartTyping.b1_ {P Q : Prop} (q : Q) (h : Q → P := by intro q_; (with_reducible repeat (first | refine blk_drewN ?_ _ | refine blk_drew ?_ | refine blk_alloc ?_ _)); exact q_) : P := h q
theorem laws_FnExactStartTyping.b2_ {P Q : Prop} (q : Q) (h : Q → P := by intro q_; (with_reducible repeat (first | apply Kd.R_alloc | apply Kd.R_drewN | apply Kd.R_drew)); exact q_) : P := h q
theorem laws_FnExactStartTyping.y1_ {P Q : Prop} (q : Q) (h : Q → P := by intro q_; repeat (first | (with_reducible first | exact q_ | apply below_alloc | apply pw_below_drewN | apply below_drew1) | exact q_)) : P := h q
theorem laws_FnExactStartTyping.y2_ {P Q : Prop} (q : Q) (h : Q → P := by intro q_; repeat (first | exact q_ | (with_reducible refine Kd.C_alloc ?_ _) | (with_reducible refine Kd.C_drewN ?_ _) | (with_reducible refine Kd.C_drew ?_))) : P := h q
theorem laws_FnExactStartTyping.b3_ {w w1 W : World} {g : Nat} {o : Obj} (q : Aside0 (w.heap[g]? = some o)) (hb : Below W.heap.size W w1) (h : w.heap[g]? = some o → W.heap[g]? = some o := by intro q_; (with_reducible repeat (first | refine blk_drewN ?_ _ | refine blk_drew ?_ | refine blk_alloc ?_ _)); exact q_) : Aside0 (w1.heap[g]? = some o) := ⟨blk_below (h q.out) hb⟩
theorem laws_FnExactStartTyping.b4_ {w W : World} {g k : Nat} {o : Obj} (hg : k = W.heap.size) (q : Aside0 (w.heap[g]? = some o)) (h : w.heap[g]? = some o → W.heap[g]? = some o := by intro q_; (with_reducible repeat (first | refine blk_drewN ?_ _ | refine blk_drew ?_ | refine blk_alloc ?_ _)); exact q_) : Aside0 (g ≠ k) := ⟨by rw [hg]; exact Nat.ne_of_lt (blk_lt (h q.out))⟩
theorem laws_FnExactStartTyping.b5_ {w W : World} {g k : Nat} {o : Obj} (hg : k = W.heap.size) (q : Aside0 (w.heap[g]? = some o)) (h : w.heap[g]? = some o → W.heap[g]? = some o := by intro q_; (with_reducible repeat (first | refine blk_drewN ?_ _ | refine blk_drew ?_ | refine blk_alloc ?_ _)); exact q_) : Aside0 (k ≠ g) := ⟨by rw [hg]; exact Nat.ne_of_gt (blk_lt (h q.out))⟩
theorem laws_FnExactStartTyping.b6_ {w w' W : World} {k : Nat} (hg : k = W.heap.size) (q : Aside0 (Below w.heap.size w w')) (h : Below w.heap.size w w' → Below w.heap.size w W := by intro q_; repeat (first | (with_reducible first | exact q_ | apply below_alloc | apply pw_below_drewN | apply below_drew1) | exact q_)) : Aside0 (w.heap.size ≤ k) := ⟨by rw [hg]; exact below_size (h q.out)⟩
theorem laws_FnExactStartTyping.bx_ {P : Program} {ops : Array Oper} {rest : List Oper} {o : Oper} {a : Act} {Q : Exit → Act → World → Prop} {W : World} (N : Tmp) (cs : Array Value) (t : TypeId) (h : ∀ g, g = W.heap.size → ∀ w1, w1.heap[g]? = some (.cells cs t (0, 0)) → Below W.heap.size W w1 → wpList P ops Q rest (a.put o.dst (.pointer (some ⟨g, 0, none⟩))) w1) (hgd : o.guard = none := by rfl) (hd : o.dst = some N := by rfl) (hrun : (execOp a.eval o).run P W = .ok (.value (.pointer (some ⟨W.heap.size, 0, none⟩))) (W.alloc (.cells cs t (0, 0))) := by first | (go_simp; done) | (go_simp; rfl)) : wpList P ops Q (o :: rest) a W := box_event hgd hd hrun h
theorem laws_FnExactStartTyping.c1_ {w : World} {g : Nat} {t : TypeId} {cs : Array Value} (q : Aside0 (w.heap[g]? = some (.cells cs t (0, 0)))) (i : Nat) (v : Value) (h : cs[i]? = some v := by rfl) : w.cell? ⟨g, i, none⟩ = some v := (blk_cell q.out i).trans h
theorem laws_FnExactStartTyping.f1_ {w : World} {g : Nat} {t : TypeId} {cs : Array Value} (q : Aside0 (w.heap[g]? = some (.cells cs t (0, 0)))) (i : Nat) : w.frozen? ⟨g, i, none⟩ = false := blk_frozen q.out i
theorem laws_FnExactStartTyping.r1_ {α : Type} {d : Kd α} {e base : Nat} {ok : Nat → Prop} {v : Value} {xs : List α} {w W w1 : World} (q : Aside0 (d.R e w base ok v xs)) (hb : Below W.heap.size W w1) (h : d.R e w base ok v xs → d.R e W base ok v xs := by intro q_; (with_reducible repeat (first | apply Kd.R_alloc | apply Kd.R_drewN | apply Kd.R_drew)); exact q_) : Aside0 (d.R e w1 base ok v xs) := ⟨Kd.R_below (h q.out) hb⟩
mutual
def laws_FnExactStartTyping.j0 : Nat → Int → Int → Bool → Bool → Bool → List (S108) → List (S108) → List (S110) → List (S63) → List (S63) → List (S73) → List (S63) → List (S63) → List (S73) → List (S63) → List (S63) → List (S73) → Option (Bool)
  | 0, _, _, _, _, _, _, _, _, _, _, _, _, _, _, _, _, _ => none
  | k + 1, x1, x2, x9, x12, x48, x333000, x333001, x333002, x354000, x354001, x354002, x364000, x364001, x364002, x375000, x375001, x375002 => if x48 = true then (some false) else ((laws_toPresence.f k x333000 x333001 x333002).bind fun bt376 => ((laws_eqPresence.f k x364000 x364001 x364002 bt376.1 bt376.2.1 bt376.2.2).bind fun t385 => (if t385 = true then ((laws_markPresence.f k x364000 x364001 x364002 1).bind fun bt386 => (if bt386.1 < 0 then (laws_FnExactStartTyping.j1 k x1 x2 x9 true x333000 x333001 x333002 x354000 x354001 x354002 x375000 x375001 x375002) else ((laws_eqPresence.f k x375000 x375001 x375002 x354000 x354001 x354002).bind fun t390 => (if t390 = true then (laws_FnExactStartTyping.j1 k x1 x2 x9 (x12 != x9) x333000 x333001 x333002 x354000 x354001 x354002 x375000 x375001 x375002) else (laws_FnExactStartTyping.j1 k x1 x2 x9 true x333000 x333001 x333002 x354000 x354001 x354002 x375000 x375001 x375002))))) else (some false))))
def laws_FnExactStartTyping.j1 : Nat → Int → Int → Bool → Bool → List (S108) → List (S108) → List (S110) → List (S63) → List (S63) → List (S73) → List (S63) → List (S63) → List (S73) → Option (Bool)
  | 0, _, _, _, _, _, _, _, _, _, _, _, _, _ => none
  | k + 1, x1, x2, x9, x69, x333000, x333001, x333002, x354000, x354001, x354002, x375000, x375001, x375002 => if x69 = true then (some false) else ((laws_markPresence.f k x375000 x375001 x375002 1).bind fun bt391 => ((laws_heldPresence.f k bt391.2.1 bt391.2.2.1 bt391.2.2.2 1).bind fun t395 => (if t395 < 0 then (some false) else (if t395 = bt391.1 then ((laws_toPresence.f k x333000 x333001 x333002).bind fun bt396 => ((impl_StartTyping.f k bt396.1 bt396.2.1 bt396.2.2 x1 x2).bind fun bt405 => ((laws_eqPresence.f k bt405.1 bt405.2.1 bt405.2.2.1 x354000 x354001 x354002).bind fun t416 => (if t416 = true then (laws_FnExactStartTyping.j2 k bt391.1 (bt405.2.2.2 != x9) bt391.2.1 bt391.2.2.1 bt391.2.2.2) else (laws_FnExactStartTyping.j2 k bt391.1 true bt391.2.1 bt391.2.2.1 bt391.2.2.2))))) else (some false)))))
def laws_FnExactStartTyping.j2 : Nat → Int → Bool → List (S63) → List (S63) → List (S73) → Option (Bool)
  | 0, _, _, _, _, _ => none
  | k + 1, x14, x97, x375000, x375001, x375002 => if x97 = true then (some false) else ((laws_heldPresence.f k x375000 x375001 x375002 1).bind fun t417 => (if t417 < 0 then (some false) else (if t417 = x14 then (some true) else (some false))))
end
def laws_FnExactStartTyping.f (k : Nat) (l0_0 : List (S108)) (l0_1 : List (S108)) (l0_2 : List (S110)) (a1 : Int) (a2 : Int) : Option (Bool) := (laws_szPresence.f l0_0 l0_1 l0_2 1048576).bind fun t333 => (if t333 < 0 then (some true) else ((laws_toPresence.f k l0_0 l0_1 l0_2).bind fun bt334 => ((spec_StartTyping.f k bt334.1 bt334.2.1 bt334.2.2 a1 a2).bind fun bt343 => ((laws_toPresence.f k l0_0 l0_1 l0_2).bind fun bt354 => ((impl_StartTyping.f k bt354.1 bt354.2.1 bt354.2.2 a1 a2).bind fun bt364 => ((laws_eqPresence.f k bt364.1 bt364.2.1 bt364.2.2.1 bt343.1 bt343.2.1 bt343.2.2.1).bind fun t375 => (if t375 = true then (laws_FnExactStartTyping.j0 k a1 a2 bt343.2.2.2 bt364.2.2.2 (bt364.2.2.2 != bt343.2.2.2) l0_0 l0_1 l0_2 bt343.1 bt343.2.1 bt343.2.2.1 bt354.1 bt354.2.1 bt354.2.2 bt364.1 bt364.2.1 bt364.2.2.1) else (laws_FnExactStartTyping.j0 k a1 a2 bt343.2.2.2 bt364.2.2.2 true l0_0 l0_1 l0_2 bt343.1 bt343.2.1 bt343.2.2.1 bt354.1 bt354.2.1 bt354.2.2 bt364.1 bt364.2.1 bt364.2.2.1))))))))
theorem laws_FnExactStartTyping.mono_l : ∀ k, (∀ y0 y1 y2 y3 y4 y5 y6 y7 y8 y9 y10 y11 y12 y13 y14 y15 y16, LeO (laws_FnExactStartTyping.j0 k y0 y1 y2 y3 y4 y5 y6 y7 y8 y9 y10 y11 y12 y13 y14 y15 y16) (laws_FnExactStartTyping.j0 (k + 1) y0 y1 y2 y3 y4 y5 y6 y7 y8 y9 y10 y11 y12 y13 y14 y15 y16)) ∧ (∀ y0 y1 y2 y3 y4 y5 y6 y7 y8 y9 y10 y11 y12, LeO (laws_FnExactStartTyping.j1 k y0 y1 y2 y3 y4 y5 y6 y7 y8 y9 y10 y11 y12) (laws_FnExactStartTyping.j1 (k + 1) y0 y1 y2 y3 y4 y5 y6 y7 y8 y9 y10 y11 y12)) ∧ (∀ y0 y1 y2 y3 y4, LeO (laws_FnExactStartTyping.j2 k y0 y1 y2 y3 y4) (laws_FnExactStartTyping.j2 (k + 1) y0 y1 y2 y3 y4))
  | 0 => ⟨fun _ _ _ _ _ _ _ _ _ _ _ _ _ _ _ _ _ r h => by simp [laws_FnExactStartTyping.j0] at h, fun _ _ _ _ _ _ _ _ _ _ _ _ _ r h => by simp [laws_FnExactStartTyping.j1] at h, fun _ _ _ _ _ r h => by simp [laws_FnExactStartTyping.j2] at h⟩
  | k + 1 => by
    obtain ⟨ih0, ih1, ih2⟩ := laws_FnExactStartTyping.mono_l k
    refine ⟨?_, ?_, ?_⟩
    · intro y0 y1 y2 y3 y4 y5 y6 y7 y8 y9 y10 y11 y12 y13 y14 y15 y16
      unfold laws_FnExactStartTyping.j0
      repeat' first
      | (with_reducible exact ih0 _ _ _ _ _ _ _ _ _ _ _ _ _ _ _ _ _)
      | (with_reducible exact ih1 _ _ _ _ _ _ _ _ _ _ _ _ _)
      | (with_reducible exact ih2 _ _ _ _ _)
      | (with_reducible exact impl_StartTyping.mono _ _ _ _ _ _)
      | (with_reducible exact laws_eqPresence.mono _ _ _ _ _ _ _)
      | (with_reducible exact laws_heldPresence.mono _ _ _ _ _)
      | (with_reducible exact laws_markPresence.mono _ _ _ _ _)
      | (with_reducible exact laws_toPresence.mono _ _ _ _)
      | (with_reducible exact spec_StartTyping.mono _ _ _ _ _ _)
      | (with_reducible exact LeO.refl _)
      | (with_reducible exact LeO.none _)
      | (with_reducible refine LeO.ite ?_ ?_)
      | (with_reducible refine LeO.bind ?_ (fun _ => ?_))
      | exact ih0 _ _ _ _ _ _ _ _ _ _ _ _ _ _ _ _ _
      | exact ih1 _ _ _ _ _ _ _ _ _ _ _ _ _
      | exact ih2 _ _ _ _ _
      | exact impl_StartTyping.mono _ _ _ _ _ _
      | exact laws_eqPresence.mono _ _ _ _ _ _ _
      | exact laws_heldPresence.mono _ _ _ _ _
      | exact laws_markPresence.mono _ _ _ _ _
      | exact laws_toPresence.mono _ _ _ _
      | exact spec_StartTyping.mono _ _ _ _ _ _
      | exact LeO.none _
      | refine LeO.ite ?_ ?_
      | refine LeO.bind ?_ (fun _ => ?_)
    · intro y0 y1 y2 y3 y4 y5 y6 y7 y8 y9 y10 y11 y12
      unfold laws_FnExactStartTyping.j1
      repeat' first
      | (with_reducible exact ih0 _ _ _ _ _ _ _ _ _ _ _ _ _ _ _ _ _)
      | (with_reducible exact ih1 _ _ _ _ _ _ _ _ _ _ _ _ _)
      | (with_reducible exact ih2 _ _ _ _ _)
      | (with_reducible exact impl_StartTyping.mono _ _ _ _ _ _)
      | (with_reducible exact laws_eqPresence.mono _ _ _ _ _ _ _)
      | (with_reducible exact laws_heldPresence.mono _ _ _ _ _)
      | (with_reducible exact laws_markPresence.mono _ _ _ _ _)
      | (with_reducible exact laws_toPresence.mono _ _ _ _)
      | (with_reducible exact spec_StartTyping.mono _ _ _ _ _ _)
      | (with_reducible exact LeO.refl _)
      | (with_reducible exact LeO.none _)
      | (with_reducible refine LeO.ite ?_ ?_)
      | (with_reducible refine LeO.bind ?_ (fun _ => ?_))
      | exact ih0 _ _ _ _ _ _ _ _ _ _ _ _ _ _ _ _ _
      | exact ih1 _ _ _ _ _ _ _ _ _ _ _ _ _
      | exact ih2 _ _ _ _ _
      | exact impl_StartTyping.mono _ _ _ _ _ _
      | exact laws_eqPresence.mono _ _ _ _ _ _ _
      | exact laws_heldPresence.mono _ _ _ _ _
      | exact laws_markPresence.mono _ _ _ _ _
      | exact laws_toPresence.mono _ _ _ _
      | exact spec_StartTyping.mono _ _ _ _ _ _
      | exact LeO.none _
      | refine LeO.ite ?_ ?_
      | refine LeO.bind ?_ (fun _ => ?_)
    · intro y0 y1 y2 y3 y4
      unfold laws_FnExactStartTyping.j2
      repeat' first
      | (with_reducible exact ih0 _ _ _ _ _ _ _ _ _ _ _ _ _ _ _ _ _)
      | (with_reducible exact ih1 _ _ _ _ _ _ _ _ _ _ _ _ _)
      | (with_reducible exact ih2 _ _ _ _ _)
      | (with_reducible exact impl_StartTyping.mono _ _ _ _ _ _)
      | (with_reducible exact laws_eqPresence.mono _ _ _ _ _ _ _)
      | (with_reducible exact laws_heldPresence.mono _ _ _ _ _)
      | (with_reducible exact laws_markPresence.mono _ _ _ _ _)
      | (with_reducible exact laws_toPresence.mono _ _ _ _)
      | (with_reducible exact spec_StartTyping.mono _ _ _ _ _ _)
      | (with_reducible exact LeO.refl _)
      | (with_reducible exact LeO.none _)
      | (with_reducible refine LeO.ite ?_ ?_)
      | (with_reducible refine LeO.bind ?_ (fun _ => ?_))
      | exact ih0 _ _ _ _ _ _ _ _ _ _ _ _ _ _ _ _ _
      | exact ih1 _ _ _ _ _ _ _ _ _ _ _ _ _
      | exact ih2 _ _ _ _ _
      | exact impl_StartTyping.mono _ _ _ _ _ _
      | exact laws_eqPresence.mono _ _ _ _ _ _ _
      | exact laws_heldPresence.mono _ _ _ _ _
      | exact laws_markPresence.mono _ _ _ _ _
      | exact laws_toPresence.mono _ _ _ _
      | exact spec_StartTyping.mono _ _ _ _ _ _
      | exact LeO.none _
      | refine LeO.ite ?_ ?_
      | refine LeO.bind ?_ (fun _ => ?_)
theorem laws_FnExactStartTyping.mono : ∀ a0 a1 a2 a3 a4 k, LeO (laws_FnExactStartTyping.f k a0 a1 a2 a3 a4) (laws_FnExactStartTyping.f (k + 1) a0 a1 a2 a3 a4) := by
  intro a0 a1 a2 a3 a4 k
  obtain ⟨ih0, ih1, ih2⟩ := laws_FnExactStartTyping.mono_l k
  unfold laws_FnExactStartTyping.f
  repeat' first
      | (with_reducible exact ih0 _ _ _ _ _ _ _ _ _ _ _ _ _ _ _ _ _)
      | (with_reducible exact ih1 _ _ _ _ _ _ _ _ _ _ _ _ _)
      | (with_reducible exact ih2 _ _ _ _ _)
      | (with_reducible exact impl_StartTyping.mono _ _ _ _ _ _)
      | (with_reducible exact laws_eqPresence.mono _ _ _ _ _ _ _)
      | (with_reducible exact laws_heldPresence.mono _ _ _ _ _)
      | (with_reducible exact laws_markPresence.mono _ _ _ _ _)
      | (with_reducible exact laws_toPresence.mono _ _ _ _)
      | (with_reducible exact spec_StartTyping.mono _ _ _ _ _ _)
      | (with_reducible exact LeO.refl _)
      | (with_reducible exact LeO.none _)
      | (with_reducible refine LeO.ite ?_ ?_)
      | (with_reducible refine LeO.bind ?_ (fun _ => ?_))
      | exact ih0 _ _ _ _ _ _ _ _ _ _ _ _ _ _ _ _ _
      | exact ih1 _ _ _ _ _ _ _ _ _ _ _ _ _
      | exact ih2 _ _ _ _ _
      | exact impl_StartTyping.mono _ _ _ _ _ _
      | exact laws_eqPresence.mono _ _ _ _ _ _ _
      | exact laws_heldPresence.mono _ _ _ _ _
      | exact laws_markPresence.mono _ _ _ _ _
      | exact laws_toPresence.mono _ _ _ _
      | exact spec_StartTyping.mono _ _ _ _ _ _
      | exact LeO.none _
      | refine LeO.ite ?_ ?_
      | refine LeO.bind ?_ (fun _ => ?_)
set_option maxHeartbeats 40000000 in
set_option maxRecDepth 100000 in
theorem laws_FnExactStartTyping.calls (k : Nat) (A0_0 : Option Addr) (c0_0 : Nat) (l0_0 : List (S108)) (A0_1 : Option Addr) (c0_1 : Nat) (l0_1 : List (S108)) (A0_2 : Option Addr) (c0_2 : Nat) (l0_2 : List (S110)) (a1 : Int) (a2 : Int) (r : Bool) (w : World) (hr0_0 : Kd.C k108 w A0_0 l0_0.length l0_0) (hc0_0 : l0_0.length ≤ c0_0) (hr0_1 : Kd.C k108 w A0_1 l0_1.length l0_1) (hc0_1 : l0_1.length ≤ c0_1) (hr0_2 : Kd.C k110 w A0_2 l0_2.length l0_2) (hc0_2 : l0_2.length ≤ c0_2) (h : laws_FnExactStartTyping.f k l0_0 l0_1 l0_2 a1 a2 = some r) :
    Calls Try.prog 8 #[.agg #[.slice A0_0 l0_0.length c0_0, .slice A0_1 l0_1.length c0_1, .slice A0_2 l0_2.length c0_2], .int .i64 a1, .int .i64 a2] w fun e w' => e = .returned (.bool r) ∧ Below w.heap.size w w' := by
 have hu45 := Try.underlying45
 have hu27 := Try.underlying27
 have HR0_0 := Aside0.mk hr0_0
 have HC0_0 := Aside0.mk hc0_0
 clear hr0_0 hc0_0
 have HR0_1 := Aside0.mk hr0_1
 have HC0_1 := Aside0.mk hc0_1
 clear hr0_1 hc0_1
 have HR0_2 := Aside0.mk hr0_2
 have HC0_2 := Aside0.mk hc0_2
 clear hr0_2 hc0_2
 have HB := Aside0.mk (Below.refl w.heap.size w)
 have H : ((laws_szPresence.f l0_0 l0_1 l0_2 1048576).bind fun t333 => (if t333 < 0 then (some true) else ((laws_toPresence.f k l0_0 l0_1 l0_2).bind fun bt334 => ((spec_StartTyping.f k bt334.1 bt334.2.1 bt334.2.2 a1 a2).bind fun bt343 => ((laws_toPresence.f k l0_0 l0_1 l0_2).bind fun bt354 => ((impl_StartTyping.f k bt354.1 bt354.2.1 bt354.2.2 a1 a2).bind fun bt364 => ((laws_eqPresence.f k bt364.1 bt364.2.1 bt364.2.2.1 bt343.1 bt343.2.1 bt343.2.2.1).bind fun t375 => (if t375 = true then (laws_FnExactStartTyping.j0 k a1 a2 bt343.2.2.2 bt364.2.2.2 (bt364.2.2.2 != bt343.2.2.2) l0_0 l0_1 l0_2 bt343.1 bt343.2.1 bt343.2.2.1 bt354.1 bt354.2.1 bt354.2.2 bt364.1 bt364.2.1 bt364.2.2.1) else (laws_FnExactStartTyping.j0 k a1 a2 bt343.2.2.2 bt364.2.2.2 true l0_0 l0_1 l0_2 bt343.1 bt343.2.1 bt343.2.2.1 bt354.1 bt354.2.1 bt354.2.2 bt364.1 bt364.2.1 bt364.2.2.1))))))))) = some r := h
 clear h
 replace H := Option.bind_eq_some_iff.mp H
 obtain ⟨t333, A40, H⟩ := H
 replace H : (if t333 < 0 then (some true) else ((laws_toPresence.f k l0_0 l0_1 l0_2).bind fun bt334 => ((spec_StartTyping.f k bt334.1 bt334.2.1 bt334.2.2 a1 a2).bind fun bt343 => ((laws_toPresence.f k l0_0 l0_1 l0_2).bind fun bt354 => ((impl_StartTyping.f k bt354.1 bt354.2.1 bt354.2.2 a1 a2).bind fun bt364 => ((laws_eqPresence.f k bt364.1 bt364.2.1 bt364.2.2.1 bt343.1 bt343.2.1 bt343.2.2.1).bind fun t375 => (if t375 = true then (laws_FnExactStartTyping.j0 k a1 a2 bt343.2.2.2 bt364.2.2.2 (bt364.2.2.2 != bt343.2.2.2) l0_0 l0_1 l0_2 bt343.1 bt343.2.1 bt343.2.2.1 bt354.1 bt354.2.1 bt354.2.2 bt364.1 bt364.2.1 bt364.2.2.1) else (laws_FnExactStartTyping.j0 k a1 a2 bt343.2.2.2 bt364.2.2.2 true l0_0 l0_1 l0_2 bt343.1 bt343.2.1 bt343.2.2.1 bt354.1 bt354.2.1 bt354.2.2 bt364.1 bt364.2.1 bt364.2.2.1)))))))) = some r := H
 have A4 := Aside0.mk A40
 clear A40
 by_cases c5 : t333 < 0
 {
 rw [if_pos c5] at H
 have c5b0 : decide (t333 < 0) = true := decide_eq_true c5
 clear c5
 obtain rfl := Option.some.inj H
 go_enter Try.func8, Try.ntmps8
 go_wp2_with (first | ((with_reducible refine gate_dst (N := 3) rfl ?_); refine bx_ 3 #[.slice A0_0 l0_0.length c0_0, .slice A0_1 l0_1.length c0_1, .slice A0_2 l0_2.length c0_2] 45 ?_; intro gb332 hg w6 hbox hb; have GW332 := b6_ hg HB; have GE332 := b6_ hg HB; replace HB := Aside0.mk (below_step (y1_ HB.out) hb); have BK332 := Aside0.mk (hbox); clear hb hbox hg; have hcz7_0 := c1_ BK332 0 (.slice A0_0 l0_0.length c0_0); have hcz7_1 := c1_ BK332 1 (.slice A0_1 l0_1.length c0_1); have hcz7_2 := c1_ BK332 2 (.slice A0_2 l0_2.length c0_2); have hfz7_0 := f1_ BK332 0; have hfz7_1 := f1_ BK332 1; have hfz7_2 := f1_ BK332 2) | ((with_reducible refine gate_callee (f := 24) rfl ?_); refine goesL_ (some 20) rfl rfl Try.func24 s2_ rfl #[.agg #[.slice A0_0 l0_0.length c0_0, .slice A0_1 l0_1.length c0_1, .slice A0_2 l0_2.length c0_2], .int .i64 1048576] rfl s3_ ?_; (with_reducible refine (laws_szPresence.calls _ _ l0_0 _ _ l0_1 _ _ l0_2 1048576 t333 _ ?side1 ?side2 ?side3 ?side4 ?side5 ?side6 A4.out).mono ?_); (case side1 => exact y2_ (Kd.C_below HR0_0.out HB.out)); (case side2 => exact HC0_0.out); (case side3 => exact y2_ (Kd.C_below HR0_1.out HB.out)); (case side4 => exact HC0_1.out); (case side5 => exact y2_ (Kd.C_below HR0_2.out HB.out)); (case side6 => exact HC0_2.out); rintro e w8 ⟨rfl, hb⟩; refine ⟨_, rfl, ?_⟩; replace BK332 := b3_ BK332 hb; replace HB := Aside0.mk (below_step (y1_ HB.out) hb); (try clear hb); (try clear hb2); (try clear hk); (try clear hi)))
 go_ret
 exact ⟨by first | rfl | (simp [errW_none, errW_some] <;> rfl) | (simp [*, errW_none, errW_some] <;> rfl), by repeat (first | (with_reducible first | exact HB.out | apply below_alloc | apply pw_below_drewN | apply below_drew1) | exact HB.out)⟩}
 {
 rw [if_neg c5] at H
 have c5b0 : decide (t333 < 0) = false := decide_eq_false c5
 clear c5
 replace H := Option.bind_eq_some_iff.mp H
 obtain ⟨⟨t334, t337, t340⟩, A90, H⟩ := H
 replace H : ((spec_StartTyping.f k t334 t337 t340 a1 a2).bind fun bt343 => ((laws_toPresence.f k l0_0 l0_1 l0_2).bind fun bt354 => ((impl_StartTyping.f k bt354.1 bt354.2.1 bt354.2.2 a1 a2).bind fun bt364 => ((laws_eqPresence.f k bt364.1 bt364.2.1 bt364.2.2.1 bt343.1 bt343.2.1 bt343.2.2.1).bind fun t375 => (if t375 = true then (laws_FnExactStartTyping.j0 k a1 a2 bt343.2.2.2 bt364.2.2.2 (bt364.2.2.2 != bt343.2.2.2) l0_0 l0_1 l0_2 bt343.1 bt343.2.1 bt343.2.2.1 bt354.1 bt354.2.1 bt354.2.2 bt364.1 bt364.2.1 bt364.2.2.1) else (laws_FnExactStartTyping.j0 k a1 a2 bt343.2.2.2 bt364.2.2.2 true l0_0 l0_1 l0_2 bt343.1 bt343.2.1 bt343.2.2.1 bt354.1 bt354.2.1 bt354.2.2 bt364.1 bt364.2.1 bt364.2.2.1)))))) = some r := H
 have A9 := Aside0.mk A90
 clear A90
 replace H := Option.bind_eq_some_iff.mp H
 obtain ⟨⟨t343, t346, t349, t352⟩, A100, H⟩ := H
 replace H : ((laws_toPresence.f k l0_0 l0_1 l0_2).bind fun bt354 => ((impl_StartTyping.f k bt354.1 bt354.2.1 bt354.2.2 a1 a2).bind fun bt364 => ((laws_eqPresence.f k bt364.1 bt364.2.1 bt364.2.2.1 t343 t346 t349).bind fun t375 => (if t375 = true then (laws_FnExactStartTyping.j0 k a1 a2 t352 bt364.2.2.2 (bt364.2.2.2 != t352) l0_0 l0_1 l0_2 t343 t346 t349 bt354.1 bt354.2.1 bt354.2.2 bt364.1 bt364.2.1 bt364.2.2.1) else (laws_FnExactStartTyping.j0 k a1 a2 t352 bt364.2.2.2 true l0_0 l0_1 l0_2 t343 t346 t349 bt354.1 bt354.2.1 bt354.2.2 bt364.1 bt364.2.1 bt364.2.2.1))))) = some r := H
 have A10 := Aside0.mk A100
 clear A100
 replace H := Option.bind_eq_some_iff.mp H
 obtain ⟨⟨t354, t357, t360⟩, A110, H⟩ := H
 replace H : ((impl_StartTyping.f k t354 t357 t360 a1 a2).bind fun bt364 => ((laws_eqPresence.f k bt364.1 bt364.2.1 bt364.2.2.1 t343 t346 t349).bind fun t375 => (if t375 = true then (laws_FnExactStartTyping.j0 k a1 a2 t352 bt364.2.2.2 (bt364.2.2.2 != t352) l0_0 l0_1 l0_2 t343 t346 t349 t354 t357 t360 bt364.1 bt364.2.1 bt364.2.2.1) else (laws_FnExactStartTyping.j0 k a1 a2 t352 bt364.2.2.2 true l0_0 l0_1 l0_2 t343 t346 t349 t354 t357 t360 bt364.1 bt364.2.1 bt364.2.2.1)))) = some r := H
 have A11 := Aside0.mk A110
 clear A110
 replace H := Option.bind_eq_some_iff.mp H
 obtain ⟨⟨t364, t367, t370, t373⟩, A120, H⟩ := H
 replace H : ((laws_eqPresence.f k t364 t367 t370 t343 t346 t349).bind fun t375 => (if t375 = true then (laws_FnExactStartTyping.j0 k a1 a2 t352 t373 (t373 != t352) l0_0 l0_1 l0_2 t343 t346 t349 t354 t357 t360 t364 t367 t370) else (laws_FnExactStartTyping.j0 k a1 a2 t352 t373 true l0_0 l0_1 l0_2 t343 t346 t349 t354 t357 t360 t364 t367 t370))) = some r := H
 have A12 := Aside0.mk A120
 clear A120
 have HC13 := Aside0.mk H
 clear H
 go_enter Try.func8, Try.ntmps8
 go_upto_region 8 with (first | ((with_reducible refine gate_dst (N := 3) rfl ?_); refine bx_ 3 #[.slice A0_0 l0_0.length c0_0, .slice A0_1 l0_1.length c0_1, .slice A0_2 l0_2.length c0_2] 45 ?_; intro gb332 hg w14 hbox hb; have GW332 := b6_ hg HB; have GE332 := b6_ hg HB; replace HB := Aside0.mk (below_step (y1_ HB.out) hb); have BK332 := Aside0.mk (hbox); clear hb hbox hg; have hcz15_0 := c1_ BK332 0 (.slice A0_0 l0_0.length c0_0); have hcz15_1 := c1_ BK332 1 (.slice A0_1 l0_1.length c0_1); have hcz15_2 := c1_ BK332 2 (.slice A0_2 l0_2.length c0_2); have hfz15_0 := f1_ BK332 0; have hfz15_1 := f1_ BK332 1; have hfz15_2 := f1_ BK332 2) | ((with_reducible refine gate_callee (f := 24) rfl ?_); refine goesL_ (some 20) rfl rfl Try.func24 s2_ rfl #[.agg #[.slice A0_0 l0_0.length c0_0, .slice A0_1 l0_1.length c0_1, .slice A0_2 l0_2.length c0_2], .int .i64 1048576] rfl s3_ ?_; (with_reducible refine (laws_szPresence.calls _ _ l0_0 _ _ l0_1 _ _ l0_2 1048576 t333 _ ?side1 ?side2 ?side3 ?side4 ?side5 ?side6 A4.out).mono ?_); (case side1 => exact y2_ (Kd.C_below HR0_0.out HB.out)); (case side2 => exact HC0_0.out); (case side3 => exact y2_ (Kd.C_below HR0_1.out HB.out)); (case side4 => exact HC0_1.out); (case side5 => exact y2_ (Kd.C_below HR0_2.out HB.out)); (case side6 => exact HC0_2.out); rintro e w16 ⟨rfl, hb⟩; refine ⟨_, rfl, ?_⟩; replace BK332 := b3_ BK332 hb; replace HB := Aside0.mk (below_step (y1_ HB.out) hb); (try clear hb); (try clear hb2); (try clear hk); (try clear hi); have hcz17_0 := c1_ BK332 0 (.slice A0_0 l0_0.length c0_0); have hcz17_1 := c1_ BK332 1 (.slice A0_1 l0_1.length c0_1); have hcz17_2 := c1_ BK332 2 (.slice A0_2 l0_2.length c0_2); have hfz17_0 := f1_ BK332 0; have hfz17_1 := f1_ BK332 1; have hfz17_2 := f1_ BK332 2) | ((with_reducible refine gate_callee (f := 26) rfl ?_); refine goesL_ (some 25) rfl rfl Try.func26 s2_ rfl #[.agg #[.slice A0_0 l0_0.length c0_0, .slice A0_1 l0_1.length c0_1, .slice A0_2 l0_2.length c0_2]] rfl s3_ ?_; (with_reducible refine (laws_toPresence.calls k _ _ l0_0 _ _ l0_1 _ _ l0_2 t334 t337 t340 _ ?side1 ?side2 ?side3 ?side4 ?side5 ?side6 A9.out).mono ?_); (case side1 => exact y2_ (Kd.C_below HR0_0.out HB.out)); (case side2 => exact HC0_0.out); (case side3 => exact y2_ (Kd.C_below HR0_1.out HB.out)); (case side4 => exact HC0_1.out); (case side5 => exact y2_ (Kd.C_below HR0_2.out HB.out)); (case side6 => exact HC0_2.out); rintro e w18 ⟨v335, v338, v341, rfl, ho0, ho1, ho2, hb⟩; refine ⟨_, rfl, ?_⟩; have HO336 := Aside0.mk (Kd.R_lower ho0 (below_size (y1_ HB.out))); have HO339 := Aside0.mk (Kd.R_lower ho1 (below_size (y1_ HB.out))); have HO342 := Aside0.mk (Kd.R_lower ho2 (below_size (y1_ HB.out))); replace BK332 := b3_ BK332 hb; replace HB := Aside0.mk (below_step (y1_ HB.out) hb); (try clear hb); (try clear hb2); (try clear hk); (try clear hi); (try clear ho0); (try clear ho1); (try clear ho2); obtain ⟨Ao19, co19, eo19⟩ := Kd.R_slice HO336.out; subst eo19; obtain ⟨Ao20, co20, eo20⟩ := Kd.R_slice HO339.out; subst eo20; obtain ⟨Ao21, co21, eo21⟩ := Kd.R_slice HO342.out; subst eo21) | ((with_reducible refine gate_callee (f := 35) rfl ?_); refine goesL_ (some 28) rfl rfl Try.func35 s2_ rfl #[.agg #[.slice Ao19 t334.length co19, .slice Ao20 t337.length co20, .slice Ao21 t340.length co21], .int .i64 a1, .int .i64 a2] rfl s3_ ?_; (with_reducible refine (spec_StartTyping.calls k _ _ t334 _ _ t337 _ _ t340 a1 a2 t343 t346 t349 t352 _ ?side1 ?side2 ?side3 ?side4 ?side5 ?side6 A10.out).mono ?_); (case side1 => exact y2_ (Kd.R_reads' HO336.out).2.2); (case side2 => exact (Kd.R_reads' HO336.out).2.1); (case side3 => exact y2_ (Kd.R_reads' HO339.out).2.2); (case side4 => exact (Kd.R_reads' HO339.out).2.1); (case side5 => exact y2_ (Kd.R_reads' HO342.out).2.2); (case side6 => exact (Kd.R_reads' HO342.out).2.1); rintro e w22 ⟨v344, v347, v350, rfl, ho0, ho1, ho2, hb⟩; refine ⟨_, rfl, ?_⟩; have n0_ := Aside0.mk (Kd.R_mono (Kd.R_told (Kd.R_told (Kd.R_old (b2_ HO336.out) hb) (Kd.R_base ho0)) (Kd.R_base ho1)) (fun _ h_ => h_.1)); have n1_ := Aside0.mk (Kd.R_mono (Kd.R_told (Kd.R_told (Kd.R_old (b2_ HO339.out) hb) (Kd.R_base ho0)) (Kd.R_base ho1)) (fun _ h_ => h_.1)); have n2_ := Aside0.mk (Kd.R_elder' (b2_ HO342.out) (Kd.R_base ho2) hb); have n3_ := Aside0.mk (Kd.R_lower (Kd.R_new' (Kd.R_new' ho0 (Kd.R_lt (b2_ HO336.out))) (Kd.R_lt (b2_ HO339.out))) (below_size (y1_ HB.out))); have n4_ := Aside0.mk (Kd.R_lower (Kd.R_new' (Kd.R_new' ho1 (Kd.R_lt (b2_ HO336.out))) (Kd.R_lt (b2_ HO339.out))) (below_size (y1_ HB.out))); have n5_ := Aside0.mk (Kd.R_lower (Kd.R_new' ho2 (Kd.R_lt (b2_ HO342.out))) (below_size (y1_ HB.out))); have n6_ := b3_ BK332 hb; have n7_ := Aside0.mk (below_step (y1_ HB.out) hb); clear HO336; clear HO339; clear HO342; clear BK332; clear HB; have HO336 := n0_; have HO339 := n1_; have HO342 := n2_; have HO345 := n3_; have HO348 := n4_; have HO351 := n5_; have BK332 := n6_; have HB := n7_; clear n0_ n1_ n2_ n3_ n4_ n5_ n6_ n7_; (try clear hb); (try clear hb2); (try clear hk); (try clear hi); (try clear ho0); (try clear ho1); (try clear ho2)) | ((with_reducible refine gate_dst (N := 8) rfl ?_); refine bx_ 8 #[.slice none 0 0, .slice none 0 0, .slice none 0 0] 27 ?_; intro gb353 hg w23 hbox hb; have GW353 := b6_ hg HB; have GE353 := b6_ hg HB; have NB332_353 := b4_ hg BK332; have NB353_332 := b5_ hg BK332; replace HO336 := r1_ HO336 hb; replace HO339 := r1_ HO339 hb; replace HO342 := r1_ HO342 hb; replace HO345 := r1_ HO345 hb; replace HO348 := r1_ HO348 hb; replace HO351 := r1_ HO351 hb; replace BK332 := b3_ BK332 hb; replace HB := Aside0.mk (below_step (y1_ HB.out) hb); have BK353 := Aside0.mk (hbox); clear hb hbox hg; obtain ⟨Ao24, co24, eo24⟩ := Kd.R_slice HO345.out; subst eo24; have hnb25 := NB353_332.out; have hnc25 := NB332_353.out; have hcz26_0 := c1_ BK353 0 (.slice none 0 0); have hcz26_1 := c1_ BK353 1 (.slice none 0 0); have hcz26_2 := c1_ BK353 2 (.slice none 0 0); have hfz26_0 := f1_ BK353 0; have hfz26_1 := f1_ BK353 1; have hfz26_2 := f1_ BK353 2; obtain ⟨Ao27, co27, eo27⟩ := Kd.R_slice HO348.out; subst eo27; obtain ⟨Ao28, co28, eo28⟩ := Kd.R_slice HO351.out; subst eo28; have hcz29_0 := c1_ BK332 0 (.slice A0_0 l0_0.length c0_0); have hcz29_1 := c1_ BK332 1 (.slice A0_1 l0_1.length c0_1); have hcz29_2 := c1_ BK332 2 (.slice A0_2 l0_2.length c0_2); have hfz29_0 := f1_ BK332 0; have hfz29_1 := f1_ BK332 1; have hfz29_2 := f1_ BK332 2) | ((with_reducible refine gate_callee (f := 26) rfl ?_); refine goesL_ (some 32) rfl rfl Try.func26 s2_ rfl #[.agg #[.slice A0_0 l0_0.length c0_0, .slice A0_1 l0_1.length c0_1, .slice A0_2 l0_2.length c0_2]] rfl s3_ ?_; (with_reducible refine (laws_toPresence.calls k _ _ l0_0 _ _ l0_1 _ _ l0_2 t354 t357 t360 _ ?side1 ?side2 ?side3 ?side4 ?side5 ?side6 A11.out).mono ?_); (case side1 => exact Kd.C_below HR0_0.out (by repeat (first | (with_reducible first | exact HB.out | apply below_alloc | apply pw_below_drewN | apply below_drew1 | refine below_set ?_ GE353.out) | exact HB.out))); (case side2 => exact HC0_0.out); (case side3 => exact Kd.C_below HR0_1.out (by repeat (first | (with_reducible first | exact HB.out | apply below_alloc | apply pw_below_drewN | apply below_drew1 | refine below_set ?_ GE353.out) | exact HB.out))); (case side4 => exact HC0_1.out); (case side5 => exact Kd.C_below HR0_2.out (by repeat (first | (with_reducible first | exact HB.out | apply below_alloc | apply pw_below_drewN | apply below_drew1 | refine below_set ?_ GE353.out) | exact HB.out))); (case side6 => exact HC0_2.out); rintro e w30 ⟨v355, v358, v361, rfl, ho0, ho1, ho2, hb⟩; refine ⟨_, rfl, ?_⟩; have n0_ := Aside0.mk (Kd.R_mono (Kd.R_told (Kd.R_told (Kd.R_old (by (with_reducible repeat (first | apply Kd.R_alloc | apply Kd.R_drewN | apply Kd.R_drew)); exact (Kd.R_mono (Kd.R_far3 (g := gb353) (Kd.R_types HO336.out BK353.out (by decide)) (fun _ hk => hk.2)) (fun _ h_ => h_.1))) hb) (Kd.R_base ho0)) (Kd.R_base ho1)) (fun _ h_ => h_.1)); have n1_ := Aside0.mk (Kd.R_mono (Kd.R_told (Kd.R_told (Kd.R_old (by (with_reducible repeat (first | apply Kd.R_alloc | apply Kd.R_drewN | apply Kd.R_drew)); exact (Kd.R_mono (Kd.R_far3 (g := gb353) (Kd.R_types HO339.out BK353.out (by decide)) (fun _ hk => hk.2)) (fun _ h_ => h_.1))) hb) (Kd.R_base ho0)) (Kd.R_base ho1)) (fun _ h_ => h_.1)); have n2_ := Aside0.mk (Kd.R_elder' (by (with_reducible repeat (first | apply Kd.R_alloc | apply Kd.R_drewN | apply Kd.R_drew)); exact (Kd.R_mono (Kd.R_far3 (g := gb353) (Kd.R_types HO342.out BK353.out (by decide)) (fun _ hk => hk.2)) (fun _ h_ => h_.1))) (Kd.R_base ho2) hb); have n3_ := Aside0.mk (Kd.R_mono (Kd.R_told (Kd.R_told (Kd.R_old (by (with_reducible repeat (first | apply Kd.R_alloc | apply Kd.R_drewN | apply Kd.R_drew)); exact (Kd.R_mono (Kd.R_far3 (g := gb353) (Kd.R_types HO345.out BK353.out (by decide)) (fun _ hk => hk.2)) (fun _ h_ => h_.1))) hb) (Kd.R_base ho0)) (Kd.R_base ho1)) (fun _ h_ => h_.1)); have n4_ := Aside0.mk (Kd.R_mono (Kd.R_told (Kd.R_told (Kd.R_old (by (with_reducible repeat (first | apply Kd.R_alloc | apply Kd.R_drewN | apply Kd.R_drew)); exact (Kd.R_mono (Kd.R_far3 (g := gb353) (Kd.R_types HO348.out BK353.out (by decide)) (fun _ hk => hk.2)) (fun _ h_ => h_.1))) hb) (Kd.R_base ho0)) (Kd.R_base ho1)) (fun _ h_ => h_.1)); have n5_ := Aside0.mk (Kd.R_elder' (by (with_reducible repeat (first | apply Kd.R_alloc | apply Kd.R_drewN | apply Kd.R_drew)); exact (Kd.R_mono (Kd.R_far3 (g := gb353) (Kd.R_types HO351.out BK353.out (by decide)) (fun _ hk => hk.2)) (fun _ h_ => h_.1))) (Kd.R_base ho2) hb); have n6_ := Aside0.mk (Kd.R_lower (Kd.R_new' (Kd.R_new' (Kd.R_new' (Kd.R_new' ho0 (Kd.R_lt (by (with_reducible repeat (first | apply Kd.R_alloc | apply Kd.R_drewN | apply Kd.R_drew)); exact (Kd.R_mono (Kd.R_far3 (g := gb353) (Kd.R_types HO336.out BK353.out (by decide)) (fun _ hk => hk.2)) (fun _ h_ => h_.1))))) (Kd.R_lt (by (with_reducible repeat (first | apply Kd.R_alloc | apply Kd.R_drewN | apply Kd.R_drew)); exact (Kd.R_mono (Kd.R_far3 (g := gb353) (Kd.R_types HO339.out BK353.out (by decide)) (fun _ hk => hk.2)) (fun _ h_ => h_.1))))) (Kd.R_lt (by (with_reducible repeat (first | apply Kd.R_alloc | apply Kd.R_drewN | apply Kd.R_drew)); exact (Kd.R_mono (Kd.R_far3 (g := gb353) (Kd.R_types HO345.out BK353.out (by decide)) (fun _ hk => hk.2)) (fun _ h_ => h_.1))))) (Kd.R_lt (by (with_reducible repeat (first | apply Kd.R_alloc | apply Kd.R_drewN | apply Kd.R_drew)); exact (Kd.R_mono (Kd.R_far3 (g := gb353) (Kd.R_types HO348.out BK353.out (by decide)) (fun _ hk => hk.2)) (fun _ h_ => h_.1))))) (below_size (by repeat (first | (with_reducible first | exact HB.out | apply below_alloc | apply pw_below_drewN | apply below_drew1 | refine below_set ?_ GE353.out) | exact HB.out)))); have n7_ := Aside0.mk (Kd.R_lower (Kd.R_new' (Kd.R_new' (Kd.R_new' (Kd.R_new' ho1 (Kd.R_lt (by (with_reducible repeat (first | apply Kd.R_alloc | apply Kd.R_drewN | apply Kd.R_drew)); exact (Kd.R_mono (Kd.R_far3 (g := gb353) (Kd.R_types HO336.out BK353.out (by decide)) (fun _ hk => hk.2)) (fun _ h_ => h_.1))))) (Kd.R_lt (by (with_reducible repeat (first | apply Kd.R_alloc | apply Kd.R_drewN | apply Kd.R_drew)); exact (Kd.R_mono (Kd.R_far3 (g := gb353) (Kd.R_types HO339.out BK353.out (by decide)) (fun _ hk => hk.2)) (fun _ h_ => h_.1))))) (Kd.R_lt (by (with_reducible repeat (first | apply Kd.R_alloc | apply Kd.R_drewN | apply Kd.R_drew)); exact (Kd.R_mono (Kd.R_far3 (g := gb353) (Kd.R_types HO345.out BK353.out (by decide)) (fun _ hk => hk.2)) (fun _ h_ => h_.1))))) (Kd.R_lt (by (with_reducible repeat (first | apply Kd.R_alloc | apply Kd.R_drewN | apply Kd.R_drew)); exact (Kd.R_mono (Kd.R_far3 (g := gb353) (Kd.R_types HO348.out BK353.out (by decide)) (fun _ hk => hk.2)) (fun _ h_ => h_.1))))) (below_size (by repeat (first | (with_reducible first | exact HB.out | apply below_alloc | apply pw_below_drewN | apply below_drew1 | refine below_set ?_ GE353.out) | exact HB.out)))); have n8_ := Aside0.mk (Kd.R_lower (Kd.R_new' (Kd.R_new' ho2 (Kd.R_lt (by (with_reducible repeat (first | apply Kd.R_alloc | apply Kd.R_drewN | apply Kd.R_drew)); exact (Kd.R_mono (Kd.R_far3 (g := gb353) (Kd.R_types HO342.out BK353.out (by decide)) (fun _ hk => hk.2)) (fun _ h_ => h_.1))))) (Kd.R_lt (by (with_reducible repeat (first | apply Kd.R_alloc | apply Kd.R_drewN | apply Kd.R_drew)); exact (Kd.R_mono (Kd.R_far3 (g := gb353) (Kd.R_types HO351.out BK353.out (by decide)) (fun _ hk => hk.2)) (fun _ h_ => h_.1))))) (below_size (by repeat (first | (with_reducible first | exact HB.out | apply below_alloc | apply pw_below_drewN | apply below_drew1 | refine below_set ?_ GE353.out) | exact HB.out)))); have n9_ := Aside0.mk (blk_below (g := gb332) (o := .cells #[.slice A0_0 l0_0.length c0_0, .slice A0_1 l0_1.length c0_1, .slice A0_2 l0_2.length c0_2] 45 (0, 0)) (by (with_reducible repeat (first | refine blk_drewN ?_ _ | refine blk_drew ?_ | refine blk_alloc ?_ _)); refine blk_far3 ?_ NB332_353.out; (with_reducible repeat (first | refine blk_drewN ?_ _ | refine blk_drew ?_ | refine blk_alloc ?_ _)); exact BK332.out) hb); have n10_ := Aside0.mk (blk_below (g := gb353) (o := .cells #[.slice Ao24 t343.length co24, .slice Ao27 t346.length co27, .slice Ao28 t349.length co28] 27 (0, 0)) (by (with_reducible repeat (first | refine blk_drewN ?_ _ | refine blk_drew ?_ | refine blk_alloc ?_ _)); refine blk_put3 (cs := #[.slice none 0 0, .slice none 0 0, .slice none 0 0]) ?_ rfl; (with_reducible repeat (first | refine blk_drewN ?_ _ | refine blk_drew ?_ | refine blk_alloc ?_ _)); exact BK353.out) hb); have n11_ := Aside0.mk (below_step (by repeat (first | (with_reducible first | exact HB.out | apply below_alloc | apply pw_below_drewN | apply below_drew1 | refine below_set ?_ GE353.out) | exact HB.out)) hb); clear HO336; clear HO339; clear HO342; clear HO345; clear HO348; clear HO351; clear BK332; clear BK353; clear HB; have HO336 := n0_; have HO339 := n1_; have HO342 := n2_; have HO345 := n3_; have HO348 := n4_; have HO351 := n5_; have HO356 := n6_; have HO359 := n7_; have HO362 := n8_; have BK332 := n9_; have BK353 := n10_; have HB := n11_; clear n0_ n1_ n2_ n3_ n4_ n5_ n6_ n7_ n8_ n9_ n10_ n11_; (try clear hb); (try clear hb2); (try clear hk); (try clear hi); (try clear ho0); (try clear ho1); (try clear ho2)) | ((with_reducible refine gate_dst (N := 10) rfl ?_); refine bx_ 10 #[.slice none 0 0, .slice none 0 0, .slice none 0 0] 27 ?_; intro gb363 hg w31 hbox hb; have GW363 := b6_ hg HB; have GE363 := b6_ hg HB; have NB332_363 := b4_ hg BK332; have NB363_332 := b5_ hg BK332; have NB353_363 := b4_ hg BK353; have NB363_353 := b5_ hg BK353; replace HO336 := r1_ HO336 hb; replace HO339 := r1_ HO339 hb; replace HO342 := r1_ HO342 hb; replace HO345 := r1_ HO345 hb; replace HO348 := r1_ HO348 hb; replace HO351 := r1_ HO351 hb; replace HO356 := r1_ HO356 hb; replace HO359 := r1_ HO359 hb; replace HO362 := r1_ HO362 hb; replace BK332 := b3_ BK332 hb; replace BK353 := b3_ BK353 hb; replace HB := Aside0.mk (below_step (y1_ HB.out) hb); have BK363 := Aside0.mk (hbox); clear hb hbox hg; obtain ⟨Ao32, co32, eo32⟩ := Kd.R_slice HO356.out; subst eo32; have hnb33 := NB363_332.out; have hnc33 := NB332_363.out; have hnb34 := NB363_353.out; have hnc34 := NB353_363.out; have hcz35_0 := c1_ BK363 0 (.slice none 0 0); have hcz35_1 := c1_ BK363 1 (.slice none 0 0); have hcz35_2 := c1_ BK363 2 (.slice none 0 0); have hfz35_0 := f1_ BK363 0; have hfz35_1 := f1_ BK363 1; have hfz35_2 := f1_ BK363 2; obtain ⟨Ao36, co36, eo36⟩ := Kd.R_slice HO359.out; subst eo36; obtain ⟨Ao37, co37, eo37⟩ := Kd.R_slice HO362.out; subst eo37) | ((with_reducible refine gate_callee (f := 16) rfl ?_); refine goesL_ (some 37) rfl rfl Try.func16 s2_ rfl #[.agg #[.slice Ao32 t354.length co32, .slice Ao36 t357.length co36, .slice Ao37 t360.length co37], .int .i64 a1, .int .i64 a2] rfl s3_ ?_; (with_reducible refine (impl_StartTyping.calls k _ _ t354 _ _ t357 _ _ t360 a1 a2 t364 t367 t370 t373 _ ?side1 ?side2 ?side3 ?side4 ?side5 ?side6 A12.out).mono ?_); (case side1 => refine (Kd.R_reads' (e := 63) (base := w.heap.size) (ok := fun k_ => ((((some k_ ≠ (.slice Ao36 t357.length co36 : Value).ownBlock ∧ some k_ ≠ (.slice Ao19 t334.length co19 : Value).ownBlock) ∧ some k_ ≠ (.slice Ao20 t337.length co20 : Value).ownBlock) ∧ some k_ ≠ (.slice Ao24 t343.length co24 : Value).ownBlock) ∧ some k_ ≠ (.slice Ao27 t346.length co27 : Value).ownBlock)) (n := t354.length) (c := co32) ?_).2.2; exact (by (with_reducible repeat (first | apply Kd.R_alloc | apply Kd.R_drewN | apply Kd.R_drew)); exact (Kd.R_mono (Kd.R_far3 (g := gb363) (Kd.R_types HO356.out BK363.out (by decide)) (fun _ hk => hk.2)) (fun _ h_ => h_.1)))); (case side2 => exact (Kd.R_reads' HO356.out).2.1); (case side3 => refine (Kd.R_reads' (e := 63) (base := w.heap.size) (ok := fun k_ => ((((some k_ ≠ (.slice Ao32 t354.length co32 : Value).ownBlock ∧ some k_ ≠ (.slice Ao19 t334.length co19 : Value).ownBlock) ∧ some k_ ≠ (.slice Ao20 t337.length co20 : Value).ownBlock) ∧ some k_ ≠ (.slice Ao24 t343.length co24 : Value).ownBlock) ∧ some k_ ≠ (.slice Ao27 t346.length co27 : Value).ownBlock)) (n := t357.length) (c := co36) ?_).2.2; exact (by (with_reducible repeat (first | apply Kd.R_alloc | apply Kd.R_drewN | apply Kd.R_drew)); exact (Kd.R_mono (Kd.R_far3 (g := gb363) (Kd.R_types HO359.out BK363.out (by decide)) (fun _ hk => hk.2)) (fun _ h_ => h_.1)))); (case side4 => exact (Kd.R_reads' HO359.out).2.1); (case side5 => refine (Kd.R_reads' (e := 73) (base := w.heap.size) (ok := fun k_ => ((True ∧ some k_ ≠ (.slice Ao21 t340.length co21 : Value).ownBlock) ∧ some k_ ≠ (.slice Ao28 t349.length co28 : Value).ownBlock)) (n := t360.length) (c := co37) ?_).2.2; exact (by (with_reducible repeat (first | apply Kd.R_alloc | apply Kd.R_drewN | apply Kd.R_drew)); exact (Kd.R_mono (Kd.R_far3 (g := gb363) (Kd.R_types HO362.out BK363.out (by decide)) (fun _ hk => hk.2)) (fun _ h_ => h_.1)))); (case side6 => exact (Kd.R_reads' HO362.out).2.1); rintro e w38 ⟨v365, v368, v371, rfl, ho0, ho1, ho2, hb⟩; refine ⟨_, rfl, ?_⟩; have n0_ := Aside0.mk (Kd.R_mono (Kd.R_told (Kd.R_told (Kd.R_old (by (with_reducible repeat (first | apply Kd.R_alloc | apply Kd.R_drewN | apply Kd.R_drew)); exact (Kd.R_mono (Kd.R_far3 (g := gb363) (Kd.R_types HO336.out BK363.out (by decide)) (fun _ hk => hk.2)) (fun _ h_ => h_.1))) hb) (Kd.R_base ho0)) (Kd.R_base ho1)) (fun _ h_ => h_.1)); have n1_ := Aside0.mk (Kd.R_mono (Kd.R_told (Kd.R_told (Kd.R_old (by (with_reducible repeat (first | apply Kd.R_alloc | apply Kd.R_drewN | apply Kd.R_drew)); exact (Kd.R_mono (Kd.R_far3 (g := gb363) (Kd.R_types HO339.out BK363.out (by decide)) (fun _ hk => hk.2)) (fun _ h_ => h_.1))) hb) (Kd.R_base ho0)) (Kd.R_base ho1)) (fun _ h_ => h_.1)); have n2_ := Aside0.mk (Kd.R_elder' (by (with_reducible repeat (first | apply Kd.R_alloc | apply Kd.R_drewN | apply Kd.R_drew)); exact (Kd.R_mono (Kd.R_far3 (g := gb363) (Kd.R_types HO342.out BK363.out (by decide)) (fun _ hk => hk.2)) (fun _ h_ => h_.1))) (Kd.R_base ho2) hb); have n3_ := Aside0.mk (Kd.R_mono (Kd.R_told (Kd.R_told (Kd.R_old (by (with_reducible repeat (first | apply Kd.R_alloc | apply Kd.R_drewN | apply Kd.R_drew)); exact (Kd.R_mono (Kd.R_far3 (g := gb363) (Kd.R_types HO345.out BK363.out (by decide)) (fun _ hk => hk.2)) (fun _ h_ => h_.1))) hb) (Kd.R_base ho0)) (Kd.R_base ho1)) (fun _ h_ => h_.1)); have n4_ := Aside0.mk (Kd.R_mono (Kd.R_told (Kd.R_told (Kd.R_old (by (with_reducible repeat (first | apply Kd.R_alloc | apply Kd.R_drewN | apply Kd.R_drew)); exact (Kd.R_mono (Kd.R_far3 (g := gb363) (Kd.R_types HO348.out BK363.out (by decide)) (fun _ hk => hk.2)) (fun _ h_ => h_.1))) hb) (Kd.R_base ho0)) (Kd.R_base ho1)) (fun _ h_ => h_.1)); have n5_ := Aside0.mk (Kd.R_elder' (by (with_reducible repeat (first | apply Kd.R_alloc | apply Kd.R_drewN | apply Kd.R_drew)); exact (Kd.R_mono (Kd.R_far3 (g := gb363) (Kd.R_types HO351.out BK363.out (by decide)) (fun _ hk => hk.2)) (fun _ h_ => h_.1))) (Kd.R_base ho2) hb); have n6_ := Aside0.mk (Kd.R_mono (Kd.R_told (Kd.R_told (Kd.R_old (by (with_reducible repeat (first | apply Kd.R_alloc | apply Kd.R_drewN | apply Kd.R_drew)); exact (Kd.R_mono (Kd.R_far3 (g := gb363) (Kd.R_types HO356.out BK363.out (by decide)) (fun _ hk => hk.2)) (fun _ h_ => h_.1))) hb) (Kd.R_base ho0)) (Kd.R_base ho1)) (fun _ h_ => h_.1)); have n7_ := Aside0.mk (Kd.R_mono (Kd.R_told (Kd.R_told (Kd.R_old (by (with_reducible repeat (first | apply Kd.R_alloc | apply Kd.R_drewN | apply Kd.R_drew)); exact (Kd.R_mono (Kd.R_far3 (g := gb363) (Kd.R_types HO359.out BK363.out (by decide)) (fun _ hk => hk.2)) (fun _ h_ => h_.1))) hb) (Kd.R_base ho0)) (Kd.R_base ho1)) (fun _ h_ => h_.1)); have n8_ := Aside0.mk (Kd.R_elder' (by (with_reducible repeat (first | apply Kd.R_alloc | apply Kd.R_drewN | apply Kd.R_drew)); exact (Kd.R_mono (Kd.R_far3 (g := gb363) (Kd.R_types HO362.out BK363.out (by decide)) (fun _ hk => hk.2)) (fun _ h_ => h_.1))) (Kd.R_base ho2) hb); have n9_ := Aside0.mk (Kd.R_lower (Kd.R_new' (Kd.R_new' (Kd.R_new' (Kd.R_new' (Kd.R_new' (Kd.R_new' ho0 (Kd.R_lt (by (with_reducible repeat (first | apply Kd.R_alloc | apply Kd.R_drewN | apply Kd.R_drew)); exact (Kd.R_mono (Kd.R_far3 (g := gb363) (Kd.R_types HO336.out BK363.out (by decide)) (fun _ hk => hk.2)) (fun _ h_ => h_.1))))) (Kd.R_lt (by (with_reducible repeat (first | apply Kd.R_alloc | apply Kd.R_drewN | apply Kd.R_drew)); exact (Kd.R_mono (Kd.R_far3 (g := gb363) (Kd.R_types HO339.out BK363.out (by decide)) (fun _ hk => hk.2)) (fun _ h_ => h_.1))))) (Kd.R_lt (by (with_reducible repeat (first | apply Kd.R_alloc | apply Kd.R_drewN | apply Kd.R_drew)); exact (Kd.R_mono (Kd.R_far3 (g := gb363) (Kd.R_types HO345.out BK363.out (by decide)) (fun _ hk => hk.2)) (fun _ h_ => h_.1))))) (Kd.R_lt (by (with_reducible repeat (first | apply Kd.R_alloc | apply Kd.R_drewN | apply Kd.R_drew)); exact (Kd.R_mono (Kd.R_far3 (g := gb363) (Kd.R_types HO348.out BK363.out (by decide)) (fun _ hk => hk.2)) (fun _ h_ => h_.1))))) (Kd.R_lt (by (with_reducible repeat (first | apply Kd.R_alloc | apply Kd.R_drewN | apply Kd.R_drew)); exact (Kd.R_mono (Kd.R_far3 (g := gb363) (Kd.R_types HO356.out BK363.out (by decide)) (fun _ hk => hk.2)) (fun _ h_ => h_.1))))) (Kd.R_lt (by (with_reducible repeat (first | apply Kd.R_alloc | apply Kd.R_drewN | apply Kd.R_drew)); exact (Kd.R_mono (Kd.R_far3 (g := gb363) (Kd.R_types HO359.out BK363.out (by decide)) (fun _ hk => hk.2)) (fun _ h_ => h_.1))))) (below_size (by repeat (first | (with_reducible first | exact HB.out | apply below_alloc | apply pw_below_drewN | apply below_drew1 | refine below_set ?_ GE363.out) | exact HB.out)))); have n10_ := Aside0.mk (Kd.R_lower (Kd.R_new' (Kd.R_new' (Kd.R_new' (Kd.R_new' (Kd.R_new' (Kd.R_new' ho1 (Kd.R_lt (by (with_reducible repeat (first | apply Kd.R_alloc | apply Kd.R_drewN | apply Kd.R_drew)); exact (Kd.R_mono (Kd.R_far3 (g := gb363) (Kd.R_types HO336.out BK363.out (by decide)) (fun _ hk => hk.2)) (fun _ h_ => h_.1))))) (Kd.R_lt (by (with_reducible repeat (first | apply Kd.R_alloc | apply Kd.R_drewN | apply Kd.R_drew)); exact (Kd.R_mono (Kd.R_far3 (g := gb363) (Kd.R_types HO339.out BK363.out (by decide)) (fun _ hk => hk.2)) (fun _ h_ => h_.1))))) (Kd.R_lt (by (with_reducible repeat (first | apply Kd.R_alloc | apply Kd.R_drewN | apply Kd.R_drew)); exact (Kd.R_mono (Kd.R_far3 (g := gb363) (Kd.R_types HO345.out BK363.out (by decide)) (fun _ hk => hk.2)) (fun _ h_ => h_.1))))) (Kd.R_lt (by (with_reducible repeat (first | apply Kd.R_alloc | apply Kd.R_drewN | apply Kd.R_drew)); exact (Kd.R_mono (Kd.R_far3 (g := gb363) (Kd.R_types HO348.out BK363.out (by decide)) (fun _ hk => hk.2)) (fun _ h_ => h_.1))))) (Kd.R_lt (by (with_reducible repeat (first | apply Kd.R_alloc | apply Kd.R_drewN | apply Kd.R_drew)); exact (Kd.R_mono (Kd.R_far3 (g := gb363) (Kd.R_types HO356.out BK363.out (by decide)) (fun _ hk => hk.2)) (fun _ h_ => h_.1))))) (Kd.R_lt (by (with_reducible repeat (first | apply Kd.R_alloc | apply Kd.R_drewN | apply Kd.R_drew)); exact (Kd.R_mono (Kd.R_far3 (g := gb363) (Kd.R_types HO359.out BK363.out (by decide)) (fun _ hk => hk.2)) (fun _ h_ => h_.1))))) (below_size (by repeat (first | (with_reducible first | exact HB.out | apply below_alloc | apply pw_below_drewN | apply below_drew1 | refine below_set ?_ GE363.out) | exact HB.out)))); have n11_ := Aside0.mk (Kd.R_lower (Kd.R_new' (Kd.R_new' (Kd.R_new' ho2 (Kd.R_lt (by (with_reducible repeat (first | apply Kd.R_alloc | apply Kd.R_drewN | apply Kd.R_drew)); exact (Kd.R_mono (Kd.R_far3 (g := gb363) (Kd.R_types HO342.out BK363.out (by decide)) (fun _ hk => hk.2)) (fun _ h_ => h_.1))))) (Kd.R_lt (by (with_reducible repeat (first | apply Kd.R_alloc | apply Kd.R_drewN | apply Kd.R_drew)); exact (Kd.R_mono (Kd.R_far3 (g := gb363) (Kd.R_types HO351.out BK363.out (by decide)) (fun _ hk => hk.2)) (fun _ h_ => h_.1))))) (Kd.R_lt (by (with_reducible repeat (first | apply Kd.R_alloc | apply Kd.R_drewN | apply Kd.R_drew)); exact (Kd.R_mono (Kd.R_far3 (g := gb363) (Kd.R_types HO362.out BK363.out (by decide)) (fun _ hk => hk.2)) (fun _ h_ => h_.1))))) (below_size (by repeat (first | (with_reducible first | exact HB.out | apply below_alloc | apply pw_below_drewN | apply below_drew1 | refine below_set ?_ GE363.out) | exact HB.out)))); have n12_ := Aside0.mk (blk_below (g := gb332) (o := .cells #[.slice A0_0 l0_0.length c0_0, .slice A0_1 l0_1.length c0_1, .slice A0_2 l0_2.length c0_2] 45 (0, 0)) (by (with_reducible repeat (first | refine blk_drewN ?_ _ | refine blk_drew ?_ | refine blk_alloc ?_ _)); refine blk_far3 ?_ NB332_363.out; (with_reducible repeat (first | refine blk_drewN ?_ _ | refine blk_drew ?_ | refine blk_alloc ?_ _)); exact BK332.out) hb); have n13_ := Aside0.mk (blk_below (g := gb353) (o := .cells #[.slice Ao24 t343.length co24, .slice Ao27 t346.length co27, .slice Ao28 t349.length co28] 27 (0, 0)) (by (with_reducible repeat (first | refine blk_drewN ?_ _ | refine blk_drew ?_ | refine blk_alloc ?_ _)); refine blk_far3 ?_ NB353_363.out; (with_reducible repeat (first | refine blk_drewN ?_ _ | refine blk_drew ?_ | refine blk_alloc ?_ _)); exact BK353.out) hb); have n14_ := Aside0.mk (blk_below (g := gb363) (o := .cells #[.slice Ao32 t354.length co32, .slice Ao36 t357.length co36, .slice Ao37 t360.length co37] 27 (0, 0)) (by (with_reducible repeat (first | refine blk_drewN ?_ _ | refine blk_drew ?_ | refine blk_alloc ?_ _)); refine blk_put3 (cs := #[.slice none 0 0, .slice none 0 0, .slice none 0 0]) ?_ rfl; (with_reducible repeat (first | refine blk_drewN ?_ _ | refine blk_drew ?_ | refine blk_alloc ?_ _)); exact BK363.out) hb); have n15_ := Aside0.mk (below_step (by repeat (first | (with_reducible first | exact HB.out | apply below_alloc | apply pw_below_drewN | apply below_drew1 | refine below_set ?_ GE363.out) | exact HB.out)) hb); clear HO336; clear HO339; clear HO342; clear HO345; clear HO348; clear HO351; clear HO356; clear HO359; clear HO362; clear BK332; clear BK353; clear BK363; clear HB; have HO336 := n0_; have HO339 := n1_; have HO342 := n2_; have HO345 := n3_; have HO348 := n4_; have HO351 := n5_; have HO356 := n6_; have HO359 := n7_; have HO362 := n8_; have HO366 := n9_; have HO369 := n10_; have HO372 := n11_; have BK332 := n12_; have BK353 := n13_; have BK363 := n14_; have HB := n15_; clear n0_ n1_ n2_ n3_ n4_ n5_ n6_ n7_ n8_ n9_ n10_ n11_ n12_ n13_ n14_ n15_; (try clear hb); (try clear hb2); (try clear hk); (try clear hi); (try clear ho0); (try clear ho1); (try clear ho2)) | ((with_reducible refine gate_dst (N := 11) rfl ?_); refine bx_ 11 #[.slice none 0 0, .slice none 0 0, .slice none 0 0] 27 ?_; intro gb374 hg w39 hbox hb; have GW374 := b6_ hg HB; have GE374 := b6_ hg HB; have NB332_374 := b4_ hg BK332; have NB374_332 := b5_ hg BK332; have NB353_374 := b4_ hg BK353; have NB374_353 := b5_ hg BK353; have NB363_374 := b4_ hg BK363; have NB374_363 := b5_ hg BK363; replace HO336 := r1_ HO336 hb; replace HO339 := r1_ HO339 hb; replace HO342 := r1_ HO342 hb; replace HO345 := r1_ HO345 hb; replace HO348 := r1_ HO348 hb; replace HO351 := r1_ HO351 hb; replace HO356 := r1_ HO356 hb; replace HO359 := r1_ HO359 hb; replace HO362 := r1_ HO362 hb; replace HO366 := r1_ HO366 hb; replace HO369 := r1_ HO369 hb; replace HO372 := r1_ HO372 hb; replace BK332 := b3_ BK332 hb; replace BK353 := b3_ BK353 hb; replace BK363 := b3_ BK363 hb; replace HB := Aside0.mk (below_step (y1_ HB.out) hb); have BK374 := Aside0.mk (hbox); clear hb hbox hg; obtain ⟨Ao40, co40, eo40⟩ := Kd.R_slice HO366.out; subst eo40; have hnb41 := NB374_332.out; have hnc41 := NB332_374.out; have hnb42 := NB374_353.out; have hnc42 := NB353_374.out; have hnb43 := NB374_363.out; have hnc43 := NB363_374.out; have hcz44_0 := c1_ BK374 0 (.slice none 0 0); have hcz44_1 := c1_ BK374 1 (.slice none 0 0); have hcz44_2 := c1_ BK374 2 (.slice none 0 0); have hfz44_0 := f1_ BK374 0; have hfz44_1 := f1_ BK374 1; have hfz44_2 := f1_ BK374 2; obtain ⟨Ao45, co45, eo45⟩ := Kd.R_slice HO369.out; subst eo45; obtain ⟨Ao46, co46, eo46⟩ := Kd.R_slice HO372.out; subst eo46))
 (try simp only [Act.put, List.setIfInBounds_toArray, List.set_cons_zero, List.set_cons_succ])
 go_cut [48] (fun v48 wc => ∃ (kq : Nat) (x48_12 : Bool), v48 = .bool x48_12 ∧ Aside0 (laws_FnExactStartTyping.j0 kq a1 a2 t352 t373 x48_12 l0_0 l0_1 l0_2 t343 t346 t349 t354 t357 t360 t364 t367 t370 = some r) ∧ Aside0 (kq ≤ k) ∧ Aside0 (Kd.R k63 63 wc w.heap.size (fun k_ => some k_ ≠ ((.slice Ao27 t346.length co27) : Value).ownBlock ∧ some k_ ≠ ((.slice Ao32 t354.length co32) : Value).ownBlock ∧ some k_ ≠ ((.slice Ao36 t357.length co36) : Value).ownBlock ∧ some k_ ≠ ((.slice Ao40 t364.length co40) : Value).ownBlock ∧ some k_ ≠ ((.slice Ao45 t367.length co45) : Value).ownBlock) (.slice Ao24 t343.length co24) t343) ∧ Aside0 (Kd.R k63 63 wc w.heap.size (fun k_ => some k_ ≠ ((.slice Ao24 t343.length co24) : Value).ownBlock ∧ some k_ ≠ ((.slice Ao32 t354.length co32) : Value).ownBlock ∧ some k_ ≠ ((.slice Ao36 t357.length co36) : Value).ownBlock ∧ some k_ ≠ ((.slice Ao40 t364.length co40) : Value).ownBlock ∧ some k_ ≠ ((.slice Ao45 t367.length co45) : Value).ownBlock) (.slice Ao27 t346.length co27) t346) ∧ Aside0 (Kd.R k73 73 wc w.heap.size (fun k_ => some k_ ≠ ((.slice Ao37 t360.length co37) : Value).ownBlock ∧ some k_ ≠ ((.slice Ao46 t370.length co46) : Value).ownBlock) (.slice Ao28 t349.length co28) t349) ∧ Aside0 (Kd.R k63 63 wc w.heap.size (fun k_ => some k_ ≠ ((.slice Ao24 t343.length co24) : Value).ownBlock ∧ some k_ ≠ ((.slice Ao27 t346.length co27) : Value).ownBlock ∧ some k_ ≠ ((.slice Ao36 t357.length co36) : Value).ownBlock ∧ some k_ ≠ ((.slice Ao40 t364.length co40) : Value).ownBlock ∧ some k_ ≠ ((.slice Ao45 t367.length co45) : Value).ownBlock) (.slice Ao32 t354.length co32) t354) ∧ Aside0 (Kd.R k63 63 wc w.heap.size (fun k_ => some k_ ≠ ((.slice Ao24 t343.length co24) : Value).ownBlock ∧ some k_ ≠ ((.slice Ao27 t346.length co27) : Value).ownBlock ∧ some k_ ≠ ((.slice Ao32 t354.length co32) : Value).ownBlock ∧ some k_ ≠ ((.slice Ao40 t364.length co40) : Value).ownBlock ∧ some k_ ≠ ((.slice Ao45 t367.length co45) : Value).ownBlock) (.slice Ao36 t357.length co36) t357) ∧ Aside0 (Kd.R k73 73 wc w.heap.size (fun k_ => some k_ ≠ ((.slice Ao28 t349.length co28) : Value).ownBlock ∧ some k_ ≠ ((.slice Ao46 t370.length co46) : Value).ownBlock) (.slice Ao37 t360.length co37) t360) ∧ Aside0 (Kd.R k63 63 wc w.heap.size (fun k_ => some k_ ≠ ((.slice Ao24 t343.length co24) : Value).ownBlock ∧ some k_ ≠ ((.slice Ao27 t346.length co27) : Value).ownBlock ∧ some k_ ≠ ((.slice Ao32 t354.length co32) : Value).ownBlock ∧ some k_ ≠ ((.slice Ao36 t357.length co36) : Value).ownBlock ∧ some k_ ≠ ((.slice Ao45 t367.length co45) : Value).ownBlock) (.slice Ao40 t364.length co40) t364) ∧ Aside0 (Kd.R k63 63 wc w.heap.size (fun k_ => some k_ ≠ ((.slice Ao24 t343.length co24) : Value).ownBlock ∧ some k_ ≠ ((.slice Ao27 t346.length co27) : Value).ownBlock ∧ some k_ ≠ ((.slice Ao32 t354.length co32) : Value).ownBlock ∧ some k_ ≠ ((.slice Ao36 t357.length co36) : Value).ownBlock ∧ some k_ ≠ ((.slice Ao40 t364.length co40) : Value).ownBlock) (.slice Ao45 t367.length co45) t367) ∧ Aside0 (Kd.R k73 73 wc w.heap.size (fun k_ => some k_ ≠ ((.slice Ao28 t349.length co28) : Value).ownBlock ∧ some k_ ≠ ((.slice Ao37 t360.length co37) : Value).ownBlock) (.slice Ao46 t370.length co46) t370) ∧ Aside0 (wc.heap[gb332]? = some (.cells #[(.slice A0_0 l0_0.length c0_0), (.slice A0_1 l0_1.length c0_1), (.slice A0_2 l0_2.length c0_2)] 45 (0, 0))) ∧ Aside0 (wc.heap[gb353]? = some (.cells #[(.slice Ao24 t343.length co24), (.slice Ao27 t346.length co27), (.slice Ao28 t349.length co28)] 27 (0, 0))) ∧ Aside0 (wc.heap[gb363]? = some (.cells #[(.slice Ao32 t354.length co32), (.slice Ao36 t357.length co36), (.slice Ao37 t360.length co37)] 27 (0, 0))) ∧ Aside0 (wc.heap[gb374]? = some (.cells #[(.slice Ao40 t364.length co40), (.slice Ao45 t367.length co45), (.slice Ao46 t370.length co46)] 27 (0, 0))) ∧ Aside0 (Below w.heap.size w wc))
 case first =>
  as_aux_lemma =>
   skip
   {
 have H := HC13.out
 clear HC13
 replace H := Option.bind_eq_some_iff.mp H
 obtain ⟨t375, A470, H⟩ := H
 replace H : (if t375 = true then (laws_FnExactStartTyping.j0 k a1 a2 t352 t373 (t373 != t352) l0_0 l0_1 l0_2 t343 t346 t349 t354 t357 t360 t364 t367 t370) else (laws_FnExactStartTyping.j0 k a1 a2 t352 t373 true l0_0 l0_1 l0_2 t343 t346 t349 t354 t357 t360 t364 t367 t370)) = some r := H
 have A47 := Aside0.mk A470
 clear A470
 by_cases c48 : t375 = true
 {
 subst c48
 have H1 : (laws_FnExactStartTyping.j0 k a1 a2 t352 t373 (t373 != t352) l0_0 l0_1 l0_2 t343 t346 t349 t354 t357 t360 t364 t367 t370) = some r := by rw [if_pos rfl] at H; exact H
 clear H
 have H := H1
 clear H1
 have H' := Aside0.mk H
 clear H
 have hnb49 := NB374_332.out
 have hnc49 := NB332_374.out
 have hnb50 := NB374_353.out
 have hnc50 := NB353_374.out
 have hnb51 := NB374_363.out
 have hnc51 := NB363_374.out
 have hcz52_0 := c1_ BK374 0 (.slice none 0 0)
 have hcz52_1 := c1_ BK374 1 (.slice none 0 0)
 have hcz52_2 := c1_ BK374 2 (.slice none 0 0)
 have hfz52_0 := f1_ BK374 0
 have hfz52_1 := f1_ BK374 1
 have hfz52_2 := f1_ BK374 2
 have hnb53 := NB353_332.out
 have hnc53 := NB332_353.out
 have hnb54 := NB353_363.out
 have hnc54 := NB363_353.out
 have hcz55_0 := c1_ BK353 0 (.slice Ao24 t343.length co24)
 have hcz55_1 := c1_ BK353 1 (.slice Ao27 t346.length co27)
 have hcz55_2 := c1_ BK353 2 (.slice Ao28 t349.length co28)
 have hfz55_0 := f1_ BK353 0
 have hfz55_1 := f1_ BK353 1
 have hfz55_2 := f1_ BK353 2
 go_wp2_with (first | ((with_reducible refine gate_callee (f := 27) rfl ?_); refine goesL_ (some 42) rfl rfl Try.func27 s2_ rfl #[.agg #[.slice Ao40 t364.length co40, .slice Ao45 t367.length co45, .slice Ao46 t370.length co46], .agg #[.slice Ao24 t343.length co24, .slice Ao27 t346.length co27, .slice Ao28 t349.length co28]] rfl s3_ ?_; (with_reducible refine (laws_eqPresence.calls k _ _ t364 _ _ t367 _ _ t370 _ _ t343 _ _ t346 _ _ t349 true _ ?side1 ?side2 ?side3 ?side4 ?side5 ?side6 ?side7 ?side8 ?side9 ?side10 ?side11 ?side12 A47.out).mono ?_); (case side1 => refine (Kd.R_reads' (e := 63) (base := w.heap.size) (ok := fun k_ => ((((((some k_ ≠ (.slice Ao45 t367.length co45 : Value).ownBlock ∧ some k_ ≠ (.slice Ao19 t334.length co19 : Value).ownBlock) ∧ some k_ ≠ (.slice Ao20 t337.length co20 : Value).ownBlock) ∧ some k_ ≠ (.slice Ao24 t343.length co24 : Value).ownBlock) ∧ some k_ ≠ (.slice Ao27 t346.length co27 : Value).ownBlock) ∧ some k_ ≠ (.slice Ao32 t354.length co32 : Value).ownBlock) ∧ some k_ ≠ (.slice Ao36 t357.length co36 : Value).ownBlock)) (n := t364.length) (c := co40) ?_).2.2; exact (by (with_reducible repeat (first | apply Kd.R_alloc | apply Kd.R_drewN | apply Kd.R_drew)); exact (Kd.R_mono (Kd.R_far3 (g := gb374) (Kd.R_types HO366.out BK374.out (by decide)) (fun _ hk => hk.2)) (fun _ h_ => h_.1)))); (case side2 => exact (Kd.R_reads' HO366.out).2.1); (case side3 => refine (Kd.R_reads' (e := 63) (base := w.heap.size) (ok := fun k_ => ((((((some k_ ≠ (.slice Ao40 t364.length co40 : Value).ownBlock ∧ some k_ ≠ (.slice Ao19 t334.length co19 : Value).ownBlock) ∧ some k_ ≠ (.slice Ao20 t337.length co20 : Value).ownBlock) ∧ some k_ ≠ (.slice Ao24 t343.length co24 : Value).ownBlock) ∧ some k_ ≠ (.slice Ao27 t346.length co27 : Value).ownBlock) ∧ some k_ ≠ (.slice Ao32 t354.length co32 : Value).ownBlock) ∧ some k_ ≠ (.slice Ao36 t357.length co36 : Value).ownBlock)) (n := t367.length) (c := co45) ?_).2.2; exact (by (with_reducible repeat (first | apply Kd.R_alloc | apply Kd.R_drewN | apply Kd.R_drew)); exact (Kd.R_mono (Kd.R_far3 (g := gb374) (Kd.R_types HO369.out BK374.out (by decide)) (fun _ hk => hk.2)) (fun _ h_ => h_.1)))); (case side4 => exact (Kd.R_reads' HO369.out).2.1); (case side5 => refine (Kd.R_reads' (e := 73) (base := w.heap.size) (ok := fun k_ => (((True ∧ some k_ ≠ (.slice Ao21 t340.length co21 : Value).ownBlock) ∧ some k_ ≠ (.slice Ao28 t349.length co28 : Value).ownBlock) ∧ some k_ ≠ (.slice Ao37 t360.length co37 : Value).ownBlock)) (n := t370.length) (c := co46) ?_).2.2; exact (by (with_reducible repeat (first | apply Kd.R_alloc | apply Kd.R_drewN | apply Kd.R_drew)); exact (Kd.R_mono (Kd.R_far3 (g := gb374) (Kd.R_types HO372.out BK374.out (by decide)) (fun _ hk => hk.2)) (fun _ h_ => h_.1)))); (case side6 => exact (Kd.R_reads' HO372.out).2.1); (case side7 => refine (Kd.R_reads' (e := 63) (base := w.heap.size) (ok := fun k_ => ((((((some k_ ≠ (.slice Ao27 t346.length co27 : Value).ownBlock ∧ some k_ ≠ (.slice Ao19 t334.length co19 : Value).ownBlock) ∧ some k_ ≠ (.slice Ao20 t337.length co20 : Value).ownBlock) ∧ some k_ ≠ (.slice Ao32 t354.length co32 : Value).ownBlock) ∧ some k_ ≠ (.slice Ao36 t357.length co36 : Value).ownBlock) ∧ some k_ ≠ (.slice Ao40 t364.length co40 : Value).ownBlock) ∧ some k_ ≠ (.slice Ao45 t367.length co45 : Value).ownBlock)) (n := t343.length) (c := co24) ?_).2.2; exact (by (with_reducible repeat (first | apply Kd.R_alloc | apply Kd.R_drewN | apply Kd.R_drew)); exact (Kd.R_mono (Kd.R_far3 (g := gb374) (Kd.R_types HO345.out BK374.out (by decide)) (fun _ hk => hk.2)) (fun _ h_ => h_.1)))); (case side8 => exact (Kd.R_reads' HO345.out).2.1); (case side9 => refine (Kd.R_reads' (e := 63) (base := w.heap.size) (ok := fun k_ => ((((((some k_ ≠ (.slice Ao24 t343.length co24 : Value).ownBlock ∧ some k_ ≠ (.slice Ao19 t334.length co19 : Value).ownBlock) ∧ some k_ ≠ (.slice Ao20 t337.length co20 : Value).ownBlock) ∧ some k_ ≠ (.slice Ao32 t354.length co32 : Value).ownBlock) ∧ some k_ ≠ (.slice Ao36 t357.length co36 : Value).ownBlock) ∧ some k_ ≠ (.slice Ao40 t364.length co40 : Value).ownBlock) ∧ some k_ ≠ (.slice Ao45 t367.length co45 : Value).ownBlock)) (n := t346.length) (c := co27) ?_).2.2; exact (by (with_reducible repeat (first | apply Kd.R_alloc | apply Kd.R_drewN | apply Kd.R_drew)); exact (Kd.R_mono (Kd.R_far3 (g := gb374) (Kd.R_types HO348.out BK374.out (by decide)) (fun _ hk => hk.2)) (fun _ h_ => h_.1)))); (case side10 => exact (Kd.R_reads' HO348.out).2.1); (case side11 => refine (Kd.R_reads' (e := 73) (base := w.heap.size) (ok := fun k_ => (((True ∧ some k_ ≠ (.slice Ao21 t340.length co21 : Value).ownBlock) ∧ some k_ ≠ (.slice Ao37 t360.length co37 : Value).ownBlock) ∧ some k_ ≠ (.slice Ao46 t370.length co46 : Value).ownBlock)) (n := t349.length) (c := co28) ?_).2.2; exact (by (with_reducible repeat (first | apply Kd.R_alloc | apply Kd.R_drewN | apply Kd.R_drew)); exact (Kd.R_mono (Kd.R_far3 (g := gb374) (Kd.R_types HO351.out BK374.out (by decide)) (fun _ hk => hk.2)) (fun _ h_ => h_.1)))); (case side12 => exact (Kd.R_reads' HO351.out).2.1); rintro e w56 ⟨rfl, hb⟩; refine ⟨_, rfl, ?_⟩; replace HO336 := Aside0.mk (Kd.R_below (by (with_reducible repeat (first | apply Kd.R_alloc | apply Kd.R_drewN | apply Kd.R_drew)); exact (Kd.R_mono (Kd.R_far3 (g := gb374) (Kd.R_types HO336.out BK374.out (by decide)) (fun _ hk => hk.2)) (fun _ h_ => h_.1))) hb); replace HO339 := Aside0.mk (Kd.R_below (by (with_reducible repeat (first | apply Kd.R_alloc | apply Kd.R_drewN | apply Kd.R_drew)); exact (Kd.R_mono (Kd.R_far3 (g := gb374) (Kd.R_types HO339.out BK374.out (by decide)) (fun _ hk => hk.2)) (fun _ h_ => h_.1))) hb); replace HO342 := Aside0.mk (Kd.R_below (by (with_reducible repeat (first | apply Kd.R_alloc | apply Kd.R_drewN | apply Kd.R_drew)); exact (Kd.R_mono (Kd.R_far3 (g := gb374) (Kd.R_types HO342.out BK374.out (by decide)) (fun _ hk => hk.2)) (fun _ h_ => h_.1))) hb); replace HO345 := Aside0.mk (Kd.R_below (by (with_reducible repeat (first | apply Kd.R_alloc | apply Kd.R_drewN | apply Kd.R_drew)); exact (Kd.R_mono (Kd.R_far3 (g := gb374) (Kd.R_types HO345.out BK374.out (by decide)) (fun _ hk => hk.2)) (fun _ h_ => h_.1))) hb); replace HO348 := Aside0.mk (Kd.R_below (by (with_reducible repeat (first | apply Kd.R_alloc | apply Kd.R_drewN | apply Kd.R_drew)); exact (Kd.R_mono (Kd.R_far3 (g := gb374) (Kd.R_types HO348.out BK374.out (by decide)) (fun _ hk => hk.2)) (fun _ h_ => h_.1))) hb); replace HO351 := Aside0.mk (Kd.R_below (by (with_reducible repeat (first | apply Kd.R_alloc | apply Kd.R_drewN | apply Kd.R_drew)); exact (Kd.R_mono (Kd.R_far3 (g := gb374) (Kd.R_types HO351.out BK374.out (by decide)) (fun _ hk => hk.2)) (fun _ h_ => h_.1))) hb); replace HO356 := Aside0.mk (Kd.R_below (by (with_reducible repeat (first | apply Kd.R_alloc | apply Kd.R_drewN | apply Kd.R_drew)); exact (Kd.R_mono (Kd.R_far3 (g := gb374) (Kd.R_types HO356.out BK374.out (by decide)) (fun _ hk => hk.2)) (fun _ h_ => h_.1))) hb); replace HO359 := Aside0.mk (Kd.R_below (by (with_reducible repeat (first | apply Kd.R_alloc | apply Kd.R_drewN | apply Kd.R_drew)); exact (Kd.R_mono (Kd.R_far3 (g := gb374) (Kd.R_types HO359.out BK374.out (by decide)) (fun _ hk => hk.2)) (fun _ h_ => h_.1))) hb); replace HO362 := Aside0.mk (Kd.R_below (by (with_reducible repeat (first | apply Kd.R_alloc | apply Kd.R_drewN | apply Kd.R_drew)); exact (Kd.R_mono (Kd.R_far3 (g := gb374) (Kd.R_types HO362.out BK374.out (by decide)) (fun _ hk => hk.2)) (fun _ h_ => h_.1))) hb); replace HO366 := Aside0.mk (Kd.R_below (by (with_reducible repeat (first | apply Kd.R_alloc | apply Kd.R_drewN | apply Kd.R_drew)); exact (Kd.R_mono (Kd.R_far3 (g := gb374) (Kd.R_types HO366.out BK374.out (by decide)) (fun _ hk => hk.2)) (fun _ h_ => h_.1))) hb); replace HO369 := Aside0.mk (Kd.R_below (by (with_reducible repeat (first | apply Kd.R_alloc | apply Kd.R_drewN | apply Kd.R_drew)); exact (Kd.R_mono (Kd.R_far3 (g := gb374) (Kd.R_types HO369.out BK374.out (by decide)) (fun _ hk => hk.2)) (fun _ h_ => h_.1))) hb); replace HO372 := Aside0.mk (Kd.R_below (by (with_reducible repeat (first | apply Kd.R_alloc | apply Kd.R_drewN | apply Kd.R_drew)); exact (Kd.R_mono (Kd.R_far3 (g := gb374) (Kd.R_types HO372.out BK374.out (by decide)) (fun _ hk => hk.2)) (fun _ h_ => h_.1))) hb); replace BK332 := Aside0.mk (blk_below (g := gb332) (o := .cells #[.slice A0_0 l0_0.length c0_0, .slice A0_1 l0_1.length c0_1, .slice A0_2 l0_2.length c0_2] 45 (0, 0)) (by (with_reducible repeat (first | refine blk_drewN ?_ _ | refine blk_drew ?_ | refine blk_alloc ?_ _)); refine blk_far3 ?_ NB332_374.out; (with_reducible repeat (first | refine blk_drewN ?_ _ | refine blk_drew ?_ | refine blk_alloc ?_ _)); exact BK332.out) hb); replace BK353 := Aside0.mk (blk_below (g := gb353) (o := .cells #[.slice Ao24 t343.length co24, .slice Ao27 t346.length co27, .slice Ao28 t349.length co28] 27 (0, 0)) (by (with_reducible repeat (first | refine blk_drewN ?_ _ | refine blk_drew ?_ | refine blk_alloc ?_ _)); refine blk_far3 ?_ NB353_374.out; (with_reducible repeat (first | refine blk_drewN ?_ _ | refine blk_drew ?_ | refine blk_alloc ?_ _)); exact BK353.out) hb); replace BK363 := Aside0.mk (blk_below (g := gb363) (o := .cells #[.slice Ao32 t354.length co32, .slice Ao36 t357.length co36, .slice Ao37 t360.length co37] 27 (0, 0)) (by (with_reducible repeat (first | refine blk_drewN ?_ _ | refine blk_drew ?_ | refine blk_alloc ?_ _)); refine blk_far3 ?_ NB363_374.out; (with_reducible repeat (first | refine blk_drewN ?_ _ | refine blk_drew ?_ | refine blk_alloc ?_ _)); exact BK363.out) hb); replace BK374 := Aside0.mk (blk_below (g := gb374) (o := .cells #[.slice Ao40 t364.length co40, .slice Ao45 t367.length co45, .slice Ao46 t370.length co46] 27 (0, 0)) (by (with_reducible repeat (first | refine blk_drewN ?_ _ | refine blk_drew ?_ | refine blk_alloc ?_ _)); refine blk_put3 (cs := #[.slice none 0 0, .slice none 0 0, .slice none 0 0]) ?_ rfl; (with_reducible repeat (first | refine blk_drewN ?_ _ | refine blk_drew ?_ | refine blk_alloc ?_ _)); exact BK374.out) hb); replace HB := Aside0.mk (below_step (by repeat (first | (with_reducible first | exact HB.out | apply below_alloc | apply pw_below_drewN | apply below_drew1 | refine below_set ?_ GE374.out) | exact HB.out)) hb); (try clear hb); (try clear hb2); (try clear hk); (try clear hi)))
 go_meet
 case rel => exact ⟨_, ((t373 != t352)), s1_, H', ⟨by first | omega | exact Nat.le_refl _⟩, ⟨by (with_reducible repeat (first | apply Kd.R_alloc | apply Kd.R_drewN | apply Kd.R_drew)); exact Kd.R_mono HO345.out (fun _ hk => ⟨hk.1.1.1.1.1.1, ⟨hk.1.1.1.2, ⟨hk.1.1.2, ⟨hk.1.2, hk.2⟩⟩⟩⟩)⟩, ⟨by (with_reducible repeat (first | apply Kd.R_alloc | apply Kd.R_drewN | apply Kd.R_drew)); exact Kd.R_mono HO348.out (fun _ hk => ⟨hk.1.1.1.1.1.1, ⟨hk.1.1.1.2, ⟨hk.1.1.2, ⟨hk.1.2, hk.2⟩⟩⟩⟩)⟩, ⟨by (with_reducible repeat (first | apply Kd.R_alloc | apply Kd.R_drewN | apply Kd.R_drew)); exact Kd.R_mono HO351.out (fun _ hk => ⟨hk.1.2, hk.2⟩)⟩, ⟨by (with_reducible repeat (first | apply Kd.R_alloc | apply Kd.R_drewN | apply Kd.R_drew)); exact Kd.R_mono HO356.out (fun _ hk => ⟨hk.1.1.1.2, ⟨hk.1.1.2, ⟨hk.1.1.1.1.1.1, ⟨hk.1.2, hk.2⟩⟩⟩⟩)⟩, ⟨by (with_reducible repeat (first | apply Kd.R_alloc | apply Kd.R_drewN | apply Kd.R_drew)); exact Kd.R_mono HO359.out (fun _ hk => ⟨hk.1.1.1.2, ⟨hk.1.1.2, ⟨hk.1.1.1.1.1.1, ⟨hk.1.2, hk.2⟩⟩⟩⟩)⟩, ⟨by (with_reducible repeat (first | apply Kd.R_alloc | apply Kd.R_drewN | apply Kd.R_drew)); exact Kd.R_mono HO362.out (fun _ hk => ⟨hk.1.2, hk.2⟩)⟩, ⟨by (with_reducible repeat (first | apply Kd.R_alloc | apply Kd.R_drewN | apply Kd.R_drew)); exact Kd.R_mono HO366.out (fun _ hk => ⟨hk.1.1.1.2, ⟨hk.1.1.2, ⟨hk.1.2, ⟨hk.2, hk.1.1.1.1.1.1⟩⟩⟩⟩)⟩, ⟨by (with_reducible repeat (first | apply Kd.R_alloc | apply Kd.R_drewN | apply Kd.R_drew)); exact Kd.R_mono HO369.out (fun _ hk => ⟨hk.1.1.1.2, ⟨hk.1.1.2, ⟨hk.1.2, ⟨hk.2, hk.1.1.1.1.1.1⟩⟩⟩⟩)⟩, ⟨by (with_reducible repeat (first | apply Kd.R_alloc | apply Kd.R_drewN | apply Kd.R_drew)); exact Kd.R_mono HO372.out (fun _ hk => ⟨hk.1.2, hk.2⟩)⟩, ⟨b1_ BK332.out⟩, ⟨b1_ BK353.out⟩, ⟨b1_ BK363.out⟩, ⟨b1_ BK374.out⟩, ⟨by repeat (first | (with_reducible first | exact HB.out | apply below_alloc | apply pw_below_drewN | apply below_drew1) | exact HB.out)⟩⟩}
 {
 replace c48 := Bool.eq_false_iff.mpr c48
 subst c48
 have H1 : (laws_FnExactStartTyping.j0 k a1 a2 t352 t373 true l0_0 l0_1 l0_2 t343 t346 t349 t354 t357 t360 t364 t367 t370) = some r := by rw [if_neg (show ¬ (false = true) by decide)] at H; exact H
 clear H
 have H := H1
 clear H1
 have H' := Aside0.mk H
 clear H
 have hnb57 := NB374_332.out
 have hnc57 := NB332_374.out
 have hnb58 := NB374_353.out
 have hnc58 := NB353_374.out
 have hnb59 := NB374_363.out
 have hnc59 := NB363_374.out
 have hcz60_0 := c1_ BK374 0 (.slice none 0 0)
 have hcz60_1 := c1_ BK374 1 (.slice none 0 0)
 have hcz60_2 := c1_ BK374 2 (.slice none 0 0)
 have hfz60_0 := f1_ BK374 0
 have hfz60_1 := f1_ BK374 1
 have hfz60_2 := f1_ BK374 2
 have hnb61 := NB353_332.out
 have hnc61 := NB332_353.out
 have hnb62 := NB353_363.out
 have hnc62 := NB363_353.out
 have hcz63_0 := c1_ BK353 0 (.slice Ao24 t343.length co24)
 have hcz63_1 := c1_ BK353 1 (.slice Ao27 t346.length co27)
 have hcz63_2 := c1_ BK353 2 (.slice Ao28 t349.length co28)
 have hfz63_0 := f1_ BK353 0
 have hfz63_1 := f1_ BK353 1
 have hfz63_2 := f1_ BK353 2
 go_wp2_with (first | ((with_reducible refine gate_callee (f := 27) rfl ?_); refine goesL_ (some 42) rfl rfl Try.func27 s2_ rfl #[.agg #[.slice Ao40 t364.length co40, .slice Ao45 t367.length co45, .slice Ao46 t370.length co46], .agg #[.slice Ao24 t343.length co24, .slice Ao27 t346.length co27, .slice Ao28 t349.length co28]] rfl s3_ ?_; (with_reducible refine (laws_eqPresence.calls k _ _ t364 _ _ t367 _ _ t370 _ _ t343 _ _ t346 _ _ t349 false _ ?side1 ?side2 ?side3 ?side4 ?side5 ?side6 ?side7 ?side8 ?side9 ?side10 ?side11 ?side12 A47.out).mono ?_); (case side1 => refine (Kd.R_reads' (e := 63) (base := w.heap.size) (ok := fun k_ => ((((((some k_ ≠ (.slice Ao45 t367.length co45 : Value).ownBlock ∧ some k_ ≠ (.slice Ao19 t334.length co19 : Value).ownBlock) ∧ some k_ ≠ (.slice Ao20 t337.length co20 : Value).ownBlock) ∧ some k_ ≠ (.slice Ao24 t343.length co24 : Value).ownBlock) ∧ some k_ ≠ (.slice Ao27 t346.length co27 : Value).ownBlock) ∧ some k_ ≠ (.slice Ao32 t354.length co32 : Value).ownBlock) ∧ some k_ ≠ (.slice Ao36 t357.length co36 : Value).ownBlock)) (n := t364.length) (c := co40) ?_).2.2; exact (by (with_reducible repeat (first | apply Kd.R_alloc | apply Kd.R_drewN | apply Kd.R_drew)); exact (Kd.R_mono (Kd.R_far3 (g := gb374) (Kd.R_types HO366.out BK374.out (by decide)) (fun _ hk => hk.2)) (fun _ h_ => h_.1)))); (case side2 => exact (Kd.R_reads' HO366.out).2.1); (case side3 => refine (Kd.R_reads' (e := 63) (base := w.heap.size) (ok := fun k_ => ((((((some k_ ≠ (.slice Ao40 t364.length co40 : Value).ownBlock ∧ some k_ ≠ (.slice Ao19 t334.length co19 : Value).ownBlock) ∧ some k_ ≠ (.slice Ao20 t337.length co20 : Value).ownBlock) ∧ some k_ ≠ (.slice Ao24 t343.length co24 : Value).ownBlock) ∧ some k_ ≠ (.slice Ao27 t346.length co27 : Value).ownBlock) ∧ some k_ ≠ (.slice Ao32 t354.length co32 : Value).ownBlock) ∧ some k_ ≠ (.slice Ao36 t357.length co36 : Value).ownBlock)) (n := t367.length) (c := co45) ?_).2.2; exact (by (with_reducible repeat (first | apply Kd.R_alloc | apply Kd.R_drewN | apply Kd.R_drew)); exact (Kd.R_mono (Kd.R_far3 (g := gb374) (Kd.R_types HO369.out BK374.out (by decide)) (fun _ hk => hk.2)) (fun _ h_ => h_.1)))); (case side4 => exact (Kd.R_reads' HO369.out).2.1); (case side5 => refine (Kd.R_reads' (e := 73) (base := w.heap.size) (ok := fun k_ => (((True ∧ some k_ ≠ (.slice Ao21 t340.length co21 : Value).ownBlock) ∧ some k_ ≠ (.slice Ao28 t349.length co28 : Value).ownBlock) ∧ some k_ ≠ (.slice Ao37 t360.length co37 : Value).ownBlock)) (n := t370.length) (c := co46) ?_).2.2; exact (by (with_reducible repeat (first | apply Kd.R_alloc | apply Kd.R_drewN | apply Kd.R_drew)); exact (Kd.R_mono (Kd.R_far3 (g := gb374) (Kd.R_types HO372.out BK374.out (by decide)) (fun _ hk => hk.2)) (fun _ h_ => h_.1)))); (case side6 => exact (Kd.R_reads' HO372.out).2.1); (case side7 => refine (Kd.R_reads' (e := 63) (base := w.heap.size) (ok := fun k_ => ((((((some k_ ≠ (.slice Ao27 t346.length co27 : Value).ownBlock ∧ some k_ ≠ (.slice Ao19 t334.length co19 : Value).ownBlock) ∧ some k_ ≠ (.slice Ao20 t337.length co20 : Value).ownBlock) ∧ some k_ ≠ (.slice Ao32 t354.length co32 : Value).ownBlock) ∧ some k_ ≠ (.slice Ao36 t357.length co36 : Value).ownBlock) ∧ some k_ ≠ (.slice Ao40 t364.length co40 : Value).ownBlock) ∧ some k_ ≠ (.slice Ao45 t367.length co45 : Value).ownBlock)) (n := t343.length) (c := co24) ?_).2.2; exact (by (with_reducible repeat (first | apply Kd.R_alloc | apply Kd.R_drewN | apply Kd.R_drew)); exact (Kd.R_mono (Kd.R_far3 (g := gb374) (Kd.R_types HO345.out BK374.out (by decide)) (fun _ hk => hk.2)) (fun _ h_ => h_.1)))); (case side8 => exact (Kd.R_reads' HO345.out).2.1); (case side9 => refine (Kd.R_reads' (e := 63) (base := w.heap.size) (ok := fun k_ => ((((((some k_ ≠ (.slice Ao24 t343.length co24 : Value).ownBlock ∧ some k_ ≠ (.slice Ao19 t334.length co19 : Value).ownBlock) ∧ some k_ ≠ (.slice Ao20 t337.length co20 : Value).ownBlock) ∧ some k_ ≠ (.slice Ao32 t354.length co32 : Value).ownBlock) ∧ some k_ ≠ (.slice Ao36 t357.length co36 : Value).ownBlock) ∧ some k_ ≠ (.slice Ao40 t364.length co40 : Value).ownBlock) ∧ some k_ ≠ (.slice Ao45 t367.length co45 : Value).ownBlock)) (n := t346.length) (c := co27) ?_).2.2; exact (by (with_reducible repeat (first | apply Kd.R_alloc | apply Kd.R_drewN | apply Kd.R_drew)); exact (Kd.R_mono (Kd.R_far3 (g := gb374) (Kd.R_types HO348.out BK374.out (by decide)) (fun _ hk => hk.2)) (fun _ h_ => h_.1)))); (case side10 => exact (Kd.R_reads' HO348.out).2.1); (case side11 => refine (Kd.R_reads' (e := 73) (base := w.heap.size) (ok := fun k_ => (((True ∧ some k_ ≠ (.slice Ao21 t340.length co21 : Value).ownBlock) ∧ some k_ ≠ (.slice Ao37 t360.length co37 : Value).ownBlock) ∧ some k_ ≠ (.slice Ao46 t370.length co46 : Value).ownBlock)) (n := t349.length) (c := co28) ?_).2.2; exact (by (with_reducible repeat (first | apply Kd.R_alloc | apply Kd.R_drewN | apply Kd.R_drew)); exact (Kd.R_mono (Kd.R_far3 (g := gb374) (Kd.R_types HO351.out BK374.out (by decide)) (fun _ hk => hk.2)) (fun _ h_ => h_.1)))); (case side12 => exact (Kd.R_reads' HO351.out).2.1); rintro e w64 ⟨rfl, hb⟩; refine ⟨_, rfl, ?_⟩; replace HO336 := Aside0.mk (Kd.R_below (by (with_reducible repeat (first | apply Kd.R_alloc | apply Kd.R_drewN | apply Kd.R_drew)); exact (Kd.R_mono (Kd.R_far3 (g := gb374) (Kd.R_types HO336.out BK374.out (by decide)) (fun _ hk => hk.2)) (fun _ h_ => h_.1))) hb); replace HO339 := Aside0.mk (Kd.R_below (by (with_reducible repeat (first | apply Kd.R_alloc | apply Kd.R_drewN | apply Kd.R_drew)); exact (Kd.R_mono (Kd.R_far3 (g := gb374) (Kd.R_types HO339.out BK374.out (by decide)) (fun _ hk => hk.2)) (fun _ h_ => h_.1))) hb); replace HO342 := Aside0.mk (Kd.R_below (by (with_reducible repeat (first | apply Kd.R_alloc | apply Kd.R_drewN | apply Kd.R_drew)); exact (Kd.R_mono (Kd.R_far3 (g := gb374) (Kd.R_types HO342.out BK374.out (by decide)) (fun _ hk => hk.2)) (fun _ h_ => h_.1))) hb); replace HO345 := Aside0.mk (Kd.R_below (by (with_reducible repeat (first | apply Kd.R_alloc | apply Kd.R_drewN | apply Kd.R_drew)); exact (Kd.R_mono (Kd.R_far3 (g := gb374) (Kd.R_types HO345.out BK374.out (by decide)) (fun _ hk => hk.2)) (fun _ h_ => h_.1))) hb); replace HO348 := Aside0.mk (Kd.R_below (by (with_reducible repeat (first | apply Kd.R_alloc | apply Kd.R_drewN | apply Kd.R_drew)); exact (Kd.R_mono (Kd.R_far3 (g := gb374) (Kd.R_types HO348.out BK374.out (by decide)) (fun _ hk => hk.2)) (fun _ h_ => h_.1))) hb); replace HO351 := Aside0.mk (Kd.R_below (by (with_reducible repeat (first | apply Kd.R_alloc | apply Kd.R_drewN | apply Kd.R_drew)); exact (Kd.R_mono (Kd.R_far3 (g := gb374) (Kd.R_types HO351.out BK374.out (by decide)) (fun _ hk => hk.2)) (fun _ h_ => h_.1))) hb); replace HO356 := Aside0.mk (Kd.R_below (by (with_reducible repeat (first | apply Kd.R_alloc | apply Kd.R_drewN | apply Kd.R_drew)); exact (Kd.R_mono (Kd.R_far3 (g := gb374) (Kd.R_types HO356.out BK374.out (by decide)) (fun _ hk => hk.2)) (fun _ h_ => h_.1))) hb); replace HO359 := Aside0.mk (Kd.R_below (by (with_reducible repeat (first | apply Kd.R_alloc | apply Kd.R_drewN | apply Kd.R_drew)); exact (Kd.R_mono (Kd.R_far3 (g := gb374) (Kd.R_types HO359.out BK374.out (by decide)) (fun _ hk => hk.2)) (fun _ h_ => h_.1))) hb); replace HO362 := Aside0.mk (Kd.R_below (by (with_reducible repeat (first | apply Kd.R_alloc | apply Kd.R_drewN | apply Kd.R_drew)); exact (Kd.R_mono (Kd.R_far3 (g := gb374) (Kd.R_types HO362.out BK374.out (by decide)) (fun _ hk => hk.2)) (fun _ h_ => h_.1))) hb); replace HO366 := Aside0.mk (Kd.R_below (by (with_reducible repeat (first | apply Kd.R_alloc | apply Kd.R_drewN | apply Kd.R_drew)); exact (Kd.R_mono (Kd.R_far3 (g := gb374) (Kd.R_types HO366.out BK374.out (by decide)) (fun _ hk => hk.2)) (fun _ h_ => h_.1))) hb); replace HO369 := Aside0.mk (Kd.R_below (by (with_reducible repeat (first | apply Kd.R_alloc | apply Kd.R_drewN | apply Kd.R_drew)); exact (Kd.R_mono (Kd.R_far3 (g := gb374) (Kd.R_types HO369.out BK374.out (by decide)) (fun _ hk => hk.2)) (fun _ h_ => h_.1))) hb); replace HO372 := Aside0.mk (Kd.R_below (by (with_reducible repeat (first | apply Kd.R_alloc | apply Kd.R_drewN | apply Kd.R_drew)); exact (Kd.R_mono (Kd.R_far3 (g := gb374) (Kd.R_types HO372.out BK374.out (by decide)) (fun _ hk => hk.2)) (fun _ h_ => h_.1))) hb); replace BK332 := Aside0.mk (blk_below (g := gb332) (o := .cells #[.slice A0_0 l0_0.length c0_0, .slice A0_1 l0_1.length c0_1, .slice A0_2 l0_2.length c0_2] 45 (0, 0)) (by (with_reducible repeat (first | refine blk_drewN ?_ _ | refine blk_drew ?_ | refine blk_alloc ?_ _)); refine blk_far3 ?_ NB332_374.out; (with_reducible repeat (first | refine blk_drewN ?_ _ | refine blk_drew ?_ | refine blk_alloc ?_ _)); exact BK332.out) hb); replace BK353 := Aside0.mk (blk_below (g := gb353) (o := .cells #[.slice Ao24 t343.length co24, .slice Ao27 t346.length co27, .slice Ao28 t349.length co28] 27 (0, 0)) (by (with_reducible repeat (first | refine blk_drewN ?_ _ | refine blk_drew ?_ | refine blk_alloc ?_ _)); refine blk_far3 ?_ NB353_374.out; (with_reducible repeat (first | refine blk_drewN ?_ _ | refine blk_drew ?_ | refine blk_alloc ?_ _)); exact BK353.out) hb); replace BK363 := Aside0.mk (blk_below (g := gb363) (o := .cells #[.slice Ao32 t354.length co32, .slice Ao36 t357.length co36, .slice Ao37 t360.length co37] 27 (0, 0)) (by (with_reducible repeat (first | refine blk_drewN ?_ _ | refine blk_drew ?_ | refine blk_alloc ?_ _)); refine blk_far3 ?_ NB363_374.out; (with_reducible repeat (first | refine blk_drewN ?_ _ | refine blk_drew ?_ | refine blk_alloc ?_ _)); exact BK363.out) hb); replace BK374 := Aside0.mk (blk_below (g := gb374) (o := .cells #[.slice Ao40 t364.length co40, .slice Ao45 t367.length co45, .slice Ao46 t370.length co46] 27 (0, 0)) (by (with_reducible repeat (first | refine blk_drewN ?_ _ | refine blk_drew ?_ | refine blk_alloc ?_ _)); refine blk_put3 (cs := #[.slice none 0 0, .slice none 0 0, .slice none 0 0]) ?_ rfl; (with_reducible repeat (first | refine blk_drewN ?_ _ | refine blk_drew ?_ | refine blk_alloc ?_ _)); exact BK374.out) hb); replace HB := Aside0.mk (below_step (by repeat (first | (with_reducible first | exact HB.out | apply below_alloc | apply pw_below_drewN | apply below_drew1 | refine below_set ?_ GE374.out) | exact HB.out)) hb); (try clear hb); (try clear hb2); (try clear hk); (try clear hi)))
 go_meet
 case rel => exact ⟨_, (true), s1_, H', ⟨by first | omega | exact Nat.le_refl _⟩, ⟨by (with_reducible repeat (first | apply Kd.R_alloc | apply Kd.R_drewN | apply Kd.R_drew)); exact Kd.R_mono HO345.out (fun _ hk => ⟨hk.1.1.1.1.1.1, ⟨hk.1.1.1.2, ⟨hk.1.1.2, ⟨hk.1.2, hk.2⟩⟩⟩⟩)⟩, ⟨by (with_reducible repeat (first | apply Kd.R_alloc | apply Kd.R_drewN | apply Kd.R_drew)); exact Kd.R_mono HO348.out (fun _ hk => ⟨hk.1.1.1.1.1.1, ⟨hk.1.1.1.2, ⟨hk.1.1.2, ⟨hk.1.2, hk.2⟩⟩⟩⟩)⟩, ⟨by (with_reducible repeat (first | apply Kd.R_alloc | apply Kd.R_drewN | apply Kd.R_drew)); exact Kd.R_mono HO351.out (fun _ hk => ⟨hk.1.2, hk.2⟩)⟩, ⟨by (with_reducible repeat (first | apply Kd.R_alloc | apply Kd.R_drewN | apply Kd.R_drew)); exact Kd.R_mono HO356.out (fun _ hk => ⟨hk.1.1.1.2, ⟨hk.1.1.2, ⟨hk.1.1.1.1.1.1, ⟨hk.1.2, hk.2⟩⟩⟩⟩)⟩, ⟨by (with_reducible repeat (first | apply Kd.R_alloc | apply Kd.R_drewN | apply Kd.R_drew)); exact Kd.R_mono HO359.out (fun _ hk => ⟨hk.1.1.1.2, ⟨hk.1.1.2, ⟨hk.1.1.1.1.1.1, ⟨hk.1.2, hk.2⟩⟩⟩⟩)⟩, ⟨by (with_reducible repeat (first | apply Kd.R_alloc | apply Kd.R_drewN | apply Kd.R_drew)); exact Kd.R_mono HO362.out (fun _ hk => ⟨hk.1.2, hk.2⟩)⟩, ⟨by (with_reducible repeat (first | apply Kd.R_alloc | apply Kd.R_drewN | apply Kd.R_drew)); exact Kd.R_mono HO366.out (fun _ hk => ⟨hk.1.1.1.2, ⟨hk.1.1.2, ⟨hk.1.2, ⟨hk.2, hk.1.1.1.1.1.1⟩⟩⟩⟩)⟩, ⟨by (with_reducible repeat (first | apply Kd.R_alloc | apply Kd.R_drewN | apply Kd.R_drew)); exact Kd.R_mono HO369.out (fun _ hk => ⟨hk.1.1.1.2, ⟨hk.1.1.2, ⟨hk.1.2, ⟨hk.2, hk.1.1.1.1.1.1⟩⟩⟩⟩)⟩, ⟨by (with_reducible repeat (first | apply Kd.R_alloc | apply Kd.R_drewN | apply Kd.R_drew)); exact Kd.R_mono HO372.out (fun _ hk => ⟨hk.1.2, hk.2⟩)⟩, ⟨b1_ BK332.out⟩, ⟨b1_ BK353.out⟩, ⟨b1_ BK363.out⟩, ⟨b1_ BK374.out⟩, ⟨by repeat (first | (with_reducible first | exact HB.out | apply below_alloc | apply pw_below_drewN | apply below_drew1) | exact HB.out)⟩⟩}}
 case rest =>
  skip
  {
 clear HC13
 try clear c1
 try clear c2
 try clear p2
 try clear c3
 try clear c4
 try clear c5
 try clear c5b0
 try clear c6
 try clear c8
 try clear c16
 try clear c24
 try clear c25
 try clear c26
 try clear c27
 try clear c33
 try clear c34
 try clear c35
 try clear c41
 try clear c42
 try clear c43
 try clear c48
 try clear c49
 try clear c50
 try clear c51
 try clear c53
 try clear c54
 try clear c57
 try clear c58
 try clear c59
 try clear c61
 try clear c62
 try clear hcz15_0
 try clear hcz15_1
 try clear hcz15_2
 try clear hcz17_0
 try clear hcz17_1
 try clear hcz17_2
 try clear hcz26_0
 try clear hcz26_1
 try clear hcz26_2
 try clear hcz29_0
 try clear hcz29_1
 try clear hcz29_2
 try clear hcz35_0
 try clear hcz35_1
 try clear hcz35_2
 try clear hcz44_0
 try clear hcz44_1
 try clear hcz44_2
 try clear hcz52_0
 try clear hcz52_1
 try clear hcz52_2
 try clear hcz55_0
 try clear hcz55_1
 try clear hcz55_2
 try clear hcz60_0
 try clear hcz60_1
 try clear hcz60_2
 try clear hcz63_0
 try clear hcz63_1
 try clear hcz63_2
 try clear hcz7_0
 try clear hcz7_1
 try clear hcz7_2
 try clear hfz15_0
 try clear hfz15_1
 try clear hfz15_2
 try clear hfz17_0
 try clear hfz17_1
 try clear hfz17_2
 try clear hfz26_0
 try clear hfz26_1
 try clear hfz26_2
 try clear hfz29_0
 try clear hfz29_1
 try clear hfz29_2
 try clear hfz35_0
 try clear hfz35_1
 try clear hfz35_2
 try clear hfz44_0
 try clear hfz44_1
 try clear hfz44_2
 try clear hfz52_0
 try clear hfz52_1
 try clear hfz52_2
 try clear hfz55_0
 try clear hfz55_1
 try clear hfz55_2
 try clear hfz60_0
 try clear hfz60_1
 try clear hfz60_2
 try clear hfz63_0
 try clear hfz63_1
 try clear hfz63_2
 try clear hfz7_0
 try clear hfz7_1
 try clear hfz7_2
 obtain ⟨kq, x48_12, rfl, HA, HJ12, HO_354000, HO_354001, HO_354002, HO_364000, HO_364001, HO_364002, HO_375000, HO_375001, HO_375002, BK332, BK353, BK363, BK374, HB⟩ := hcut
 cases kq with
 | zero => exact absurd HA.out (by simp [laws_FnExactStartTyping.j0])
 | succ kj12 =>
  skip
  {
 have H := HA.out
 clear HA
 simp only [laws_FnExactStartTyping.j0] at H
 by_cases c65 : x48_12 = true
 {
 subst c65
 have H1 : (some false) = some r := by rw [if_pos rfl] at H; exact H
 clear H
 have H := H1
 clear H1
 obtain rfl := Option.some.inj H
 go_wp2
 go_ret
 exact ⟨by first | rfl | (simp [errW_none, errW_some] <;> rfl) | (simp [*, errW_none, errW_some] <;> rfl), by repeat (first | (with_reducible first | exact HB.out | apply below_alloc | apply pw_below_drewN | apply below_drew1) | exact HB.out)⟩}
 {
 replace c65 := Bool.eq_false_iff.mpr c65
 subst c65
 have H1 : ((laws_toPresence.f kj12 l0_0 l0_1 l0_2).bind fun bt376 => ((laws_eqPresence.f kj12 t354 t357 t360 bt376.1 bt376.2.1 bt376.2.2).bind fun t385 => (if t385 = true then ((laws_markPresence.f kj12 t354 t357 t360 1).bind fun bt386 => (if bt386.1 < 0 then (laws_FnExactStartTyping.j1 kj12 a1 a2 t352 true l0_0 l0_1 l0_2 t343 t346 t349 t364 t367 t370) else ((laws_eqPresence.f kj12 t364 t367 t370 t343 t346 t349).bind fun t390 => (if t390 = true then (laws_FnExactStartTyping.j1 kj12 a1 a2 t352 (t373 != t352) l0_0 l0_1 l0_2 t343 t346 t349 t364 t367 t370) else (laws_FnExactStartTyping.j1 kj12 a1 a2 t352 true l0_0 l0_1 l0_2 t343 t346 t349 t364 t367 t370))))) else (some false)))) = some r := by rw [if_neg (show ¬ (false = true) by decide)] at H; exact H
 clear H
 have H := H1
 clear H1
 replace H := Option.bind_eq_some_iff.mp H
 obtain ⟨⟨t376, t379, t382⟩, A660, H⟩ := H
 replace H : ((laws_eqPresence.f kj12 t354 t357 t360 t376 t379 t382).bind fun t385 => (if t385 = true then ((laws_markPresence.f kj12 t354 t357 t360 1).bind fun bt386 => (if bt386.1 < 0 then (laws_FnExactStartTyping.j1 kj12 a1 a2 t352 true l0_0 l0_1 l0_2 t343 t346 t349 t364 t367 t370) else ((laws_eqPresence.f kj12 t364 t367 t370 t343 t346 t349).bind fun t390 => (if t390 = true then (laws_FnExactStartTyping.j1 kj12 a1 a2 t352 (t373 != t352) l0_0 l0_1 l0_2 t343 t346 t349 t364 t367 t370) else (laws_FnExactStartTyping.j1 kj12 a1 a2 t352 true l0_0 l0_1 l0_2 t343 t346 t349 t364 t367 t370))))) else (some false))) = some r := H
 have A66 := Aside0.mk A660
 clear A660
 replace H := Option.bind_eq_some_iff.mp H
 obtain ⟨t385, A670, H⟩ := H
 replace H : (if t385 = true then ((laws_markPresence.f kj12 t354 t357 t360 1).bind fun bt386 => (if bt386.1 < 0 then (laws_FnExactStartTyping.j1 kj12 a1 a2 t352 true l0_0 l0_1 l0_2 t343 t346 t349 t364 t367 t370) else ((laws_eqPresence.f kj12 t364 t367 t370 t343 t346 t349).bind fun t390 => (if t390 = true then (laws_FnExactStartTyping.j1 kj12 a1 a2 t352 (t373 != t352) l0_0 l0_1 l0_2 t343 t346 t349 t364 t367 t370) else (laws_FnExactStartTyping.j1 kj12 a1 a2 t352 true l0_0 l0_1 l0_2 t343 t346 t349 t364 t367 t370))))) else (some false)) = some r := H
 have A67 := Aside0.mk A670
 clear A670
 by_cases c68 : t385 = true
 {
 subst c68
 have H1 : ((laws_markPresence.f kj12 t354 t357 t360 1).bind fun bt386 => (if bt386.1 < 0 then (laws_FnExactStartTyping.j1 kj12 a1 a2 t352 true l0_0 l0_1 l0_2 t343 t346 t349 t364 t367 t370) else ((laws_eqPresence.f kj12 t364 t367 t370 t343 t346 t349).bind fun t390 => (if t390 = true then (laws_FnExactStartTyping.j1 kj12 a1 a2 t352 (t373 != t352) l0_0 l0_1 l0_2 t343 t346 t349 t364 t367 t370) else (laws_FnExactStartTyping.j1 kj12 a1 a2 t352 true l0_0 l0_1 l0_2 t343 t346 t349 t364 t367 t370))))) = some r := by rw [if_pos rfl] at H; exact H
 clear H
 have H := H1
 clear H1
 replace H := Option.bind_eq_some_iff.mp H
 obtain ⟨⟨t386, t387, t388, t389⟩, A690, H⟩ := H
 replace H : (if t386 < 0 then (laws_FnExactStartTyping.j1 kj12 a1 a2 t352 true l0_0 l0_1 l0_2 t343 t346 t349 t364 t367 t370) else ((laws_eqPresence.f kj12 t364 t367 t370 t343 t346 t349).bind fun t390 => (if t390 = true then (laws_FnExactStartTyping.j1 kj12 a1 a2 t352 (t373 != t352) l0_0 l0_1 l0_2 t343 t346 t349 t364 t367 t370) else (laws_FnExactStartTyping.j1 kj12 a1 a2 t352 true l0_0 l0_1 l0_2 t343 t346 t349 t364 t367 t370)))) = some r := H
 have A69 := Aside0.mk A690
 clear A690
 have HC70 := Aside0.mk H
 clear H
 try go_wp2
 replace HO_354000 := Aside0.mk (Kd.R_drew HO_354000.out)
 replace HO_354001 := Aside0.mk (Kd.R_drew HO_354001.out)
 replace HO_354002 := Aside0.mk (Kd.R_drew HO_354002.out)
 replace HO_364000 := Aside0.mk (Kd.R_drew HO_364000.out)
 replace HO_364001 := Aside0.mk (Kd.R_drew HO_364001.out)
 replace HO_364002 := Aside0.mk (Kd.R_drew HO_364002.out)
 replace HO_375000 := Aside0.mk (Kd.R_drew HO_375000.out)
 replace HO_375001 := Aside0.mk (Kd.R_drew HO_375001.out)
 replace HO_375002 := Aside0.mk (Kd.R_drew HO_375002.out)
 replace BK332 := Aside0.mk (blk_drew BK332.out)
 replace BK353 := Aside0.mk (blk_drew BK353.out)
 replace BK363 := Aside0.mk (blk_drew BK363.out)
 replace BK374 := Aside0.mk (blk_drew BK374.out)
 replace HB := Aside0.mk (below_drew1 HB.out)
 refine start_ (n := 5) (S := fun w' => w'.cell? ⟨gb363, 0, none⟩ = some (.slice Ao32 t354.length co32) ∧ w'.cell? ⟨gb363, 1, none⟩ = some (.slice Ao36 t357.length co36) ∧ w'.cell? ⟨gb363, 2, none⟩ = some (.slice Ao37 t360.length co37) ∧ w'.cell? ⟨gb332, 0, none⟩ = some (.slice A0_0 l0_0.length c0_0) ∧ w'.cell? ⟨gb332, 1, none⟩ = some (.slice A0_1 l0_1.length c0_1) ∧ w'.cell? ⟨gb332, 2, none⟩ = some (.slice A0_2 l0_2.length c0_2)) (ds := []) #[F,F,F,F,F] s2_ rfl rfl ⟨(blk_cell BK363.out 0).trans rfl, (blk_cell BK363.out 1).trans rfl, (blk_cell BK363.out 2).trans rfl, (blk_cell BK332.out 0).trans rfl, (blk_cell BK332.out 1).trans rfl, (blk_cell BK332.out 2).trans rfl⟩ (fun hHeld => ?_)
 generalize wc.drew = w71 at HO_354000 HO_354001 HO_354002 HO_364000 HO_364001 HO_364002 HO_375000 HO_375001 HO_375002 BK332 BK353 BK363 BK374 HB hHeld ⊢
 refine take_ (i := 0) (N := some 49) (v := ?_) (a' := ?_) #[T,F,F,F,F] rfl rfl s2_ (fun _ _ _ h => h) (Or.inl ⟨by rfl, ?_⟩) hHeld ?_ ?_
 rotate_left
 {
 rintro w' ⟨s0, s1, s2, s3, s4, s5⟩
 go_simp
 with_reducible rfl}
 rotate_left
 · exact p1_
 refine take_ (i := 1) (N := some 50) (v := ?_) (a' := ?_) #[T,T,F,F,F] rfl rfl s2_ (fun _ _ _ h => h) (Or.inl ⟨by rfl, ?_⟩) hHeld ?_ ?_
 rotate_left
 {
 rintro w' ⟨s0, s1, s2, s3, s4, s5⟩
 go_simp
 with_reducible rfl}
 rotate_left
 · exact p1_
 refine one_ (i := 2) (N := some 51) #[T,T,T,F,F] rfl rfl s2_ (by decide) (fun K hK => ?_)
 refine goes_ Try.func26 s2_ rfl #[.agg #[.slice A0_0 l0_0.length c0_0, .slice A0_1 l0_1.length c0_1, .slice A0_2 l0_2.length c0_2]] (by rfl) rfl rfl s3_ ?_
 with_reducible refine (laws_toPresence.calls kj12 _ _ l0_0 _ _ l0_1 _ _ l0_2 t376 t379 t382 _ ?side1 ?side2 ?side3 ?side4 ?side5 ?side6 A66.out).mono ?_
 (case side1 => exact y2_ (Kd.C_below HR0_0.out HB.out))
 (case side2 => exact HC0_0.out)
 (case side3 => exact y2_ (Kd.C_below HR0_1.out HB.out))
 (case side4 => exact HC0_1.out)
 (case side5 => exact y2_ (Kd.C_below HR0_2.out HB.out))
 (case side6 => exact HC0_2.out)
 rintro e w72 ⟨v377, v380, v383, rfl, ho0, ho1, ho2, hb⟩
 refine ⟨_, rfl, ?_⟩
 have n0_ := Aside0.mk (Kd.R_mono (Kd.R_told (Kd.R_told (Kd.R_old (b2_ HO_354000.out) hb) (Kd.R_base ho0)) (Kd.R_base ho1)) (fun _ h_ => h_.1))
 have n1_ := Aside0.mk (Kd.R_mono (Kd.R_told (Kd.R_told (Kd.R_old (b2_ HO_354001.out) hb) (Kd.R_base ho0)) (Kd.R_base ho1)) (fun _ h_ => h_.1))
 have n2_ := Aside0.mk (Kd.R_elder' (b2_ HO_354002.out) (Kd.R_base ho2) hb)
 have n3_ := Aside0.mk (Kd.R_mono (Kd.R_told (Kd.R_told (Kd.R_old (b2_ HO_364000.out) hb) (Kd.R_base ho0)) (Kd.R_base ho1)) (fun _ h_ => h_.1))
 have n4_ := Aside0.mk (Kd.R_mono (Kd.R_told (Kd.R_told (Kd.R_old (b2_ HO_364001.out) hb) (Kd.R_base ho0)) (Kd.R_base ho1)) (fun _ h_ => h_.1))
 have n5_ := Aside0.mk (Kd.R_elder' (b2_ HO_364002.out) (Kd.R_base ho2) hb)
 have n6_ := Aside0.mk (Kd.R_mono (Kd.R_told (Kd.R_told (Kd.R_old (b2_ HO_375000.out) hb) (Kd.R_base ho0)) (Kd.R_base ho1)) (fun _ h_ => h_.1))
 have n7_ := Aside0.mk (Kd.R_mono (Kd.R_told (Kd.R_told (Kd.R_old (b2_ HO_375001.out) hb) (Kd.R_base ho0)) (Kd.R_base ho1)) (fun _ h_ => h_.1))
 have n8_ := Aside0.mk (Kd.R_elder' (b2_ HO_375002.out) (Kd.R_base ho2) hb)
 have n9_ := Aside0.mk (Kd.R_lower (Kd.R_new' (Kd.R_new' (Kd.R_new' (Kd.R_new' (Kd.R_new' (Kd.R_new' ho0 (Kd.R_lt (b2_ HO_354000.out))) (Kd.R_lt (b2_ HO_354001.out))) (Kd.R_lt (b2_ HO_364000.out))) (Kd.R_lt (b2_ HO_364001.out))) (Kd.R_lt (b2_ HO_375000.out))) (Kd.R_lt (b2_ HO_375001.out))) (below_size (y1_ HB.out)))
 have n10_ := Aside0.mk (Kd.R_lower (Kd.R_new' (Kd.R_new' (Kd.R_new' (Kd.R_new' (Kd.R_new' (Kd.R_new' ho1 (Kd.R_lt (b2_ HO_354000.out))) (Kd.R_lt (b2_ HO_354001.out))) (Kd.R_lt (b2_ HO_364000.out))) (Kd.R_lt (b2_ HO_364001.out))) (Kd.R_lt (b2_ HO_375000.out))) (Kd.R_lt (b2_ HO_375001.out))) (below_size (y1_ HB.out)))
 have n11_ := Aside0.mk (Kd.R_lower (Kd.R_new' (Kd.R_new' (Kd.R_new' ho2 (Kd.R_lt (b2_ HO_354002.out))) (Kd.R_lt (b2_ HO_364002.out))) (Kd.R_lt (b2_ HO_375002.out))) (below_size (y1_ HB.out)))
 have n12_ := b3_ BK332 hb
 have n13_ := b3_ BK353 hb
 have n14_ := b3_ BK363 hb
 have n15_ := b3_ BK374 hb
 have n16_ := Aside0.mk (below_step (y1_ HB.out) hb)
 clear HO_354000
 clear HO_354001
 clear HO_354002
 clear HO_364000
 clear HO_364001
 clear HO_364002
 clear HO_375000
 clear HO_375001
 clear HO_375002
 clear BK332
 clear BK353
 clear BK363
 clear BK374
 clear HB
 have HO_354000 := n0_
 have HO_354001 := n1_
 have HO_354002 := n2_
 have HO_364000 := n3_
 have HO_364001 := n4_
 have HO_364002 := n5_
 have HO_375000 := n6_
 have HO_375001 := n7_
 have HO_375002 := n8_
 have HO378 := n9_
 have HO381 := n10_
 have HO384 := n11_
 have BK332 := n12_
 have BK353 := n13_
 have BK363 := n14_
 have BK374 := n15_
 have HB := n16_
 clear n0_ n1_ n2_ n3_ n4_ n5_ n6_ n7_ n8_ n9_ n10_ n11_ n12_ n13_ n14_ n15_ n16_
 (try clear hb)
 (try clear hb2)
 (try clear hk)
 (try clear hi)
 (try clear ho0)
 (try clear ho1)
 (try clear ho2)
 obtain ⟨Ao73, co73, eo73⟩ := Kd.R_slice HO378.out
 (first | subst eo73 | (injection eo73 with f1_ f2_ f3_; have f4_ := f1_.symm; have f5_ := f3_.symm; clear f1_ f2_ f3_; subst f4_; subst f5_))
 obtain ⟨Ao74, co74, eo74⟩ := Kd.R_slice HO381.out
 (first | subst eo74 | (injection eo74 with f1_ f2_ f3_; have f4_ := f1_.symm; have f5_ := f3_.symm; clear f1_ f2_ f3_; subst f4_; subst f5_))
 obtain ⟨Ao75, co75, eo75⟩ := Kd.R_slice HO384.out
 (first | subst eo75 | (injection eo75 with f1_ f2_ f3_; have f4_ := f1_.symm; have f5_ := f3_.symm; clear f1_ f2_ f3_; subst f4_; subst f5_))
 refine hK.out _ _ ⟨(blk_cell BK363.out 0).trans rfl, (blk_cell BK363.out 1).trans rfl, (blk_cell BK363.out 2).trans rfl, (blk_cell BK332.out 0).trans rfl, (blk_cell BK332.out 1).trans rfl, (blk_cell BK332.out 2).trans rfl⟩ (fun hHeld => ?_)
 clear hK K
 refine norm_ (a' := ?_) ?_ ?_
 rotate_left
 {
 show Act.put _ (some 51) _ = _
 simp only [Act.put, List.setIfInBounds_toArray, List.set_cons_zero, List.set_cons_succ, i64_w, i32_w]
 rfl}
 refine one_ (i := 3) (N := some 52) #[T,T,T,T,F] rfl rfl s2_ (by decide) (fun K hK => ?_)
 refine goes_ Try.func27 s2_ rfl #[.agg #[.slice Ao32 t354.length co32, .slice Ao36 t357.length co36, .slice Ao37 t360.length co37], .agg #[.slice Ao73 t376.length co73, .slice Ao74 t379.length co74, .slice Ao75 t382.length co75]] (by rfl) rfl rfl s3_ ?_
 with_reducible refine (laws_eqPresence.calls kj12 _ _ t354 _ _ t357 _ _ t360 _ _ t376 _ _ t379 _ _ t382 true _ ?side1 ?side2 ?side3 ?side4 ?side5 ?side6 ?side7 ?side8 ?side9 ?side10 ?side11 ?side12 A67.out).mono ?_
 (case side1 => exact y2_ (Kd.R_reads' HO_364000.out).2.2)
 (case side2 => exact (Kd.R_reads' HO_364000.out).2.1)
 (case side3 => exact y2_ (Kd.R_reads' HO_364001.out).2.2)
 (case side4 => exact (Kd.R_reads' HO_364001.out).2.1)
 (case side5 => exact y2_ (Kd.R_reads' HO_364002.out).2.2)
 (case side6 => exact (Kd.R_reads' HO_364002.out).2.1)
 (case side7 => exact y2_ (Kd.R_reads' HO378.out).2.2)
 (case side8 => exact (Kd.R_reads' HO378.out).2.1)
 (case side9 => exact y2_ (Kd.R_reads' HO381.out).2.2)
 (case side10 => exact (Kd.R_reads' HO381.out).2.1)
 (case side11 => exact y2_ (Kd.R_reads' HO384.out).2.2)
 (case side12 => exact (Kd.R_reads' HO384.out).2.1)
 rintro e w76 ⟨rfl, hb⟩
 refine ⟨_, rfl, ?_⟩
 replace HO_354000 := r1_ HO_354000 hb
 replace HO_354001 := r1_ HO_354001 hb
 replace HO_354002 := r1_ HO_354002 hb
 replace HO_364000 := r1_ HO_364000 hb
 replace HO_364001 := r1_ HO_364001 hb
 replace HO_364002 := r1_ HO_364002 hb
 replace HO_375000 := r1_ HO_375000 hb
 replace HO_375001 := r1_ HO_375001 hb
 replace HO_375002 := r1_ HO_375002 hb
 replace HO378 := r1_ HO378 hb
 replace HO381 := r1_ HO381 hb
 replace HO384 := r1_ HO384 hb
 replace BK332 := b3_ BK332 hb
 replace BK353 := b3_ BK353 hb
 replace BK363 := b3_ BK363 hb
 replace BK374 := b3_ BK374 hb
 replace HB := Aside0.mk (below_step (y1_ HB.out) hb)
 (try clear hb)
 (try clear hb2)
 (try clear hk)
 (try clear hi)
 refine hK.out _ _ ⟨(blk_cell BK363.out 0).trans rfl, (blk_cell BK363.out 1).trans rfl, (blk_cell BK363.out 2).trans rfl, (blk_cell BK332.out 0).trans rfl, (blk_cell BK332.out 1).trans rfl, (blk_cell BK332.out 2).trans rfl⟩ (fun hHeld => ?_)
 clear hK K
 refine norm_ (a' := ?_) ?_ ?_
 rotate_left
 {
 show Act.put _ (some 52) _ = _
 simp only [Act.put, List.setIfInBounds_toArray, List.set_cons_zero, List.set_cons_succ, i64_w, i32_w]
 rfl}
 refine pure_ (i := 4) (N := some 53) (v := ?_) (a' := ?_) #[T,T,T,T,T] rfl rfl s2_ (fun _ _ _ h => h) (Or.inl ⟨by rfl, ?_⟩) ?_ ?_
 rotate_left
 {
 intro w'
 go_simp
 with_reducible rfl}
 rotate_left
 · exact p1_
 refine done_ s2_ ?_
 have hnb77 := NB363_332.out
 have hnc77 := NB332_363.out
 have hnb78 := NB363_353.out
 have hnc78 := NB353_363.out
 have hnb79 := NB363_374.out
 have hnc79 := NB374_363.out
 have hcz80_0 := c1_ BK363 0 (.slice Ao32 t354.length co32)
 have hcz80_1 := c1_ BK363 1 (.slice Ao36 t357.length co36)
 have hcz80_2 := c1_ BK363 2 (.slice Ao37 t360.length co37)
 have hfz80_0 := f1_ BK363 0
 have hfz80_1 := f1_ BK363 1
 have hfz80_2 := f1_ BK363 2
 go_upto_region 14 with (first | ((with_reducible refine gate_callee (f := 28) rfl ?_); refine goesL_ (some 56) rfl rfl Try.func28 s2_ rfl #[.agg #[.slice Ao32 t354.length co32, .slice Ao36 t357.length co36, .slice Ao37 t360.length co37], .int .i64 1] rfl s3_ ?_; (with_reducible refine (laws_markPresence.calls kj12 (fun k_ => some k_ = (.slice Ao32 t354.length co32 : Value).ownBlock) (.slice Ao32 t354.length co32) t354 (fun k_ => some k_ = (.slice Ao36 t357.length co36 : Value).ownBlock) (.slice Ao36 t357.length co36) t357 (fun k_ => some k_ = (.slice Ao37 t360.length co37 : Value).ownBlock) (.slice Ao37 t360.length co37) t360 1 t386 t387 t388 t389 w _ ?side1 ?side2 ?side3 ?side4 ?side5 ?side6 A69.out).mono ?_); (case side1 => repeat (first | (with_reducible first | exact HB.out | apply below_alloc | apply pw_below_drewN | apply below_drew1) | exact HB.out)); (case side2 => exact Kd.R_tight rfl HO_364000.out); (case side3 => exact fun k_ e_ => (HO_364000.out.1 k_ e_.symm).1.1.2.2.1); (case side4 => exact Kd.R_tight rfl HO_364001.out); (case side5 => exact fun k_ e_ => (HO_364001.out.1 k_ e_.symm).1.1.2.2.1); (case side6 => exact Kd.R_tight rfl HO_364002.out); rintro e w81 ⟨rfl, hy0, hy1, hy2, hb, hkp⟩; refine ⟨_, rfl, ?_⟩; have n0_ := Aside0.mk (Kd.R_mono (ok' := fun k_ => some k_ ≠ (.slice Ao27 t346.length co27 : Value).ownBlock ∧ some k_ ≠ (.slice Ao32 t354.length co32 : Value).ownBlock ∧ some k_ ≠ (.slice Ao36 t357.length co36 : Value).ownBlock ∧ some k_ ≠ (.slice Ao40 t364.length co40 : Value).ownBlock ∧ some k_ ≠ (.slice Ao45 t367.length co45 : Value).ownBlock ∧ some k_ ≠ (.slice Ao73 t376.length co73 : Value).ownBlock ∧ some k_ ≠ (.slice Ao74 t379.length co74 : Value).ownBlock) (Kd.R_keptB ((Kd.R_apart' HO_354000.out (Kd.R_typed HO_364002.out) (by decide))) hkp (fun k_ hk_ hs_ => Or.elim hs_ (fun e_ => (hk_.1.1.1.2.1) e_) (fun e_ => Or.elim e_ (fun e_ => (hk_.1.1.1.2.2.1) e_) (fun e_ => (hk_.2) e_)))) (fun k_ hk_ => ⟨hk_.1.1.1.1.1, hk_.1.1.1.1.2.1, hk_.1.1.1.1.2.2.1, hk_.1.1.1.1.2.2.2.1, hk_.1.1.1.1.2.2.2.2, hk_.1.1.1.2, hk_.1.1.2⟩)); have n1_ := Aside0.mk (Kd.R_mono (ok' := fun k_ => some k_ ≠ (.slice Ao24 t343.length co24 : Value).ownBlock ∧ some k_ ≠ (.slice Ao32 t354.length co32 : Value).ownBlock ∧ some k_ ≠ (.slice Ao36 t357.length co36 : Value).ownBlock ∧ some k_ ≠ (.slice Ao40 t364.length co40 : Value).ownBlock ∧ some k_ ≠ (.slice Ao45 t367.length co45 : Value).ownBlock ∧ some k_ ≠ (.slice Ao73 t376.length co73 : Value).ownBlock ∧ some k_ ≠ (.slice Ao74 t379.length co74 : Value).ownBlock) (Kd.R_keptB ((Kd.R_apart' HO_354001.out (Kd.R_typed HO_364002.out) (by decide))) hkp (fun k_ hk_ hs_ => Or.elim hs_ (fun e_ => (hk_.1.1.1.2.1) e_) (fun e_ => Or.elim e_ (fun e_ => (hk_.1.1.1.2.2.1) e_) (fun e_ => (hk_.2) e_)))) (fun k_ hk_ => ⟨hk_.1.1.1.1.1, hk_.1.1.1.1.2.1, hk_.1.1.1.1.2.2.1, hk_.1.1.1.1.2.2.2.1, hk_.1.1.1.1.2.2.2.2, hk_.1.1.1.2, hk_.1.1.2⟩)); have n2_ := Aside0.mk (Kd.R_mono (ok' := fun k_ => some k_ ≠ (.slice Ao37 t360.length co37 : Value).ownBlock ∧ some k_ ≠ (.slice Ao46 t370.length co46 : Value).ownBlock ∧ some k_ ≠ (.slice Ao75 t382.length co75 : Value).ownBlock) (Kd.R_keptB ((Kd.R_apart' (Kd.R_apart' HO_354002.out (Kd.R_typed HO_364000.out) (by decide)) (Kd.R_typed HO_364001.out) (by decide))) hkp (fun k_ hk_ hs_ => Or.elim hs_ (fun e_ => (hk_.1.2) e_) (fun e_ => Or.elim e_ (fun e_ => (hk_.2) e_) (fun e_ => (hk_.1.1.1.1) e_)))) (fun k_ hk_ => ⟨hk_.1.1.1.1.1, hk_.1.1.1.1.2, hk_.1.1.1.2⟩)); have n3_ := Aside0.mk (Kd.R_reok rfl hy0 (fun k_ e_ => HO_364000.out.1 k_ e_)); have n4_ := Aside0.mk (Kd.R_reok rfl hy1 (fun k_ e_ => HO_364001.out.1 k_ e_)); have n5_ := Aside0.mk (Kd.R_reok rfl hy2 (fun k_ e_ => HO_364002.out.1 k_ e_)); have n6_ := Aside0.mk (Kd.R_mono (ok' := fun k_ => some k_ ≠ (.slice Ao24 t343.length co24 : Value).ownBlock ∧ some k_ ≠ (.slice Ao27 t346.length co27 : Value).ownBlock ∧ some k_ ≠ (.slice Ao32 t354.length co32 : Value).ownBlock ∧ some k_ ≠ (.slice Ao36 t357.length co36 : Value).ownBlock ∧ some k_ ≠ (.slice Ao45 t367.length co45 : Value).ownBlock ∧ some k_ ≠ (.slice Ao73 t376.length co73 : Value).ownBlock ∧ some k_ ≠ (.slice Ao74 t379.length co74 : Value).ownBlock) (Kd.R_keptB ((Kd.R_apart' HO_375000.out (Kd.R_typed HO_364002.out) (by decide))) hkp (fun k_ hk_ hs_ => Or.elim hs_ (fun e_ => (hk_.1.1.1.2.2.1) e_) (fun e_ => Or.elim e_ (fun e_ => (hk_.1.1.1.2.2.2.1) e_) (fun e_ => (hk_.2) e_)))) (fun k_ hk_ => ⟨hk_.1.1.1.1.1, hk_.1.1.1.1.2.1, hk_.1.1.1.1.2.2.1, hk_.1.1.1.1.2.2.2.1, hk_.1.1.1.1.2.2.2.2, hk_.1.1.1.2, hk_.1.1.2⟩)); have n7_ := Aside0.mk (Kd.R_mono (ok' := fun k_ => some k_ ≠ (.slice Ao24 t343.length co24 : Value).ownBlock ∧ some k_ ≠ (.slice Ao27 t346.length co27 : Value).ownBlock ∧ some k_ ≠ (.slice Ao32 t354.length co32 : Value).ownBlock ∧ some k_ ≠ (.slice Ao36 t357.length co36 : Value).ownBlock ∧ some k_ ≠ (.slice Ao40 t364.length co40 : Value).ownBlock ∧ some k_ ≠ (.slice Ao73 t376.length co73 : Value).ownBlock ∧ some k_ ≠ (.slice Ao74 t379.length co74 : Value).ownBlock) (Kd.R_keptB ((Kd.R_apart' HO_375001.out (Kd.R_typed HO_364002.out) (by decide))) hkp (fun k_ hk_ hs_ => Or.elim hs_ (fun e_ => (hk_.1.1.1.2.2.1) e_) (fun e_ => Or.elim e_ (fun e_ => (hk_.1.1.1.2.2.2.1) e_) (fun e_ => (hk_.2) e_)))) (fun k_ hk_ => ⟨hk_.1.1.1.1.1, hk_.1.1.1.1.2.1, hk_.1.1.1.1.2.2.1, hk_.1.1.1.1.2.2.2.1, hk_.1.1.1.1.2.2.2.2, hk_.1.1.1.2, hk_.1.1.2⟩)); have n8_ := Aside0.mk (Kd.R_mono (ok' := fun k_ => some k_ ≠ (.slice Ao28 t349.length co28 : Value).ownBlock ∧ some k_ ≠ (.slice Ao37 t360.length co37 : Value).ownBlock ∧ some k_ ≠ (.slice Ao75 t382.length co75 : Value).ownBlock) (Kd.R_keptB ((Kd.R_apart' (Kd.R_apart' HO_375002.out (Kd.R_typed HO_364000.out) (by decide)) (Kd.R_typed HO_364001.out) (by decide))) hkp (fun k_ hk_ hs_ => Or.elim hs_ (fun e_ => (hk_.1.2) e_) (fun e_ => Or.elim e_ (fun e_ => (hk_.2) e_) (fun e_ => (hk_.1.1.1.2) e_)))) (fun k_ hk_ => ⟨hk_.1.1.1.1.1, hk_.1.1.1.1.2, hk_.1.1.1.2⟩)); have n9_ := Aside0.mk (blk_kept (b1_ BK332.out) hkp (fun hs_ => Or.elim hs_ (fun e_ => (fun e_ => (Kd.R_ne HO_364000.out BK332.out (by decide)) e_) e_) (fun e_ => Or.elim e_ (fun e_ => (fun e_ => (Kd.R_ne HO_364001.out BK332.out (by decide)) e_) e_) (fun e_ => (fun e_ => (Kd.R_ne HO_364002.out BK332.out (by decide)) e_) e_)))); have n10_ := Aside0.mk (blk_kept (b1_ BK353.out) hkp (fun hs_ => Or.elim hs_ (fun e_ => (fun e_ => (Kd.R_ne HO_364000.out BK353.out (by decide)) e_) e_) (fun e_ => Or.elim e_ (fun e_ => (fun e_ => (Kd.R_ne HO_364001.out BK353.out (by decide)) e_) e_) (fun e_ => (fun e_ => (Kd.R_ne HO_364002.out BK353.out (by decide)) e_) e_)))); have n11_ := Aside0.mk (blk_kept (b1_ BK363.out) hkp (fun hs_ => Or.elim hs_ (fun e_ => (fun e_ => (Kd.R_ne HO_364000.out BK363.out (by decide)) e_) e_) (fun e_ => Or.elim e_ (fun e_ => (fun e_ => (Kd.R_ne HO_364001.out BK363.out (by decide)) e_) e_) (fun e_ => (fun e_ => (Kd.R_ne HO_364002.out BK363.out (by decide)) e_) e_)))); have n12_ := Aside0.mk (blk_kept (b1_ BK374.out) hkp (fun hs_ => Or.elim hs_ (fun e_ => (fun e_ => (Kd.R_ne HO_364000.out BK374.out (by decide)) e_) e_) (fun e_ => Or.elim e_ (fun e_ => (fun e_ => (Kd.R_ne HO_364001.out BK374.out (by decide)) e_) e_) (fun e_ => (fun e_ => (Kd.R_ne HO_364002.out BK374.out (by decide)) e_) e_)))); have n13_ := Aside0.mk (Kd.R_mono (ok' := fun k_ => some k_ ≠ (.slice Ao24 t343.length co24 : Value).ownBlock ∧ some k_ ≠ (.slice Ao27 t346.length co27 : Value).ownBlock ∧ some k_ ≠ (.slice Ao32 t354.length co32 : Value).ownBlock ∧ some k_ ≠ (.slice Ao36 t357.length co36 : Value).ownBlock ∧ some k_ ≠ (.slice Ao40 t364.length co40 : Value).ownBlock ∧ some k_ ≠ (.slice Ao45 t367.length co45 : Value).ownBlock ∧ some k_ ≠ (.slice Ao74 t379.length co74 : Value).ownBlock) (Kd.R_keptB ((Kd.R_apart' HO378.out (Kd.R_typed HO_364002.out) (by decide))) hkp (fun k_ hk_ hs_ => Or.elim hs_ (fun e_ => (hk_.1.1.1.1.2) e_) (fun e_ => Or.elim e_ (fun e_ => (hk_.1.1.1.2) e_) (fun e_ => (hk_.2) e_)))) (fun k_ hk_ => ⟨hk_.1.1.1.1.1.1.1.2, hk_.1.1.1.1.1.1.2, hk_.1.1.1.1.1.2, hk_.1.1.1.1.2, hk_.1.1.1.2, hk_.1.1.2, hk_.1.1.1.1.1.1.1.1⟩)); have n14_ := Aside0.mk (Kd.R_mono (ok' := fun k_ => some k_ ≠ (.slice Ao24 t343.length co24 : Value).ownBlock ∧ some k_ ≠ (.slice Ao27 t346.length co27 : Value).ownBlock ∧ some k_ ≠ (.slice Ao32 t354.length co32 : Value).ownBlock ∧ some k_ ≠ (.slice Ao36 t357.length co36 : Value).ownBlock ∧ some k_ ≠ (.slice Ao40 t364.length co40 : Value).ownBlock ∧ some k_ ≠ (.slice Ao45 t367.length co45 : Value).ownBlock ∧ some k_ ≠ (.slice Ao73 t376.length co73 : Value).ownBlock) (Kd.R_keptB ((Kd.R_apart' HO381.out (Kd.R_typed HO_364002.out) (by decide))) hkp (fun k_ hk_ hs_ => Or.elim hs_ (fun e_ => (hk_.1.1.1.1.2) e_) (fun e_ => Or.elim e_ (fun e_ => (hk_.1.1.1.2) e_) (fun e_ => (hk_.2) e_)))) (fun k_ hk_ => ⟨hk_.1.1.1.1.1.1.1.2, hk_.1.1.1.1.1.1.2, hk_.1.1.1.1.1.2, hk_.1.1.1.1.2, hk_.1.1.1.2, hk_.1.1.2, hk_.1.1.1.1.1.1.1.1⟩)); have n15_ := Aside0.mk (Kd.R_mono (ok' := fun k_ => some k_ ≠ (.slice Ao28 t349.length co28 : Value).ownBlock ∧ some k_ ≠ (.slice Ao37 t360.length co37 : Value).ownBlock ∧ some k_ ≠ (.slice Ao46 t370.length co46 : Value).ownBlock) (Kd.R_keptB ((Kd.R_apart' (Kd.R_apart' HO384.out (Kd.R_typed HO_364000.out) (by decide)) (Kd.R_typed HO_364001.out) (by decide))) hkp (fun k_ hk_ hs_ => Or.elim hs_ (fun e_ => (hk_.1.2) e_) (fun e_ => Or.elim e_ (fun e_ => (hk_.2) e_) (fun e_ => (hk_.1.1.1.2) e_)))) (fun k_ hk_ => ⟨hk_.1.1.1.1.1.2, hk_.1.1.1.1.2, hk_.1.1.1.2⟩)); have n16_ := Aside0.mk (hb); clear HO_354000; clear HO_354001; clear HO_354002; clear HO_364000; clear HO_364001; clear HO_364002; clear HO_375000; clear HO_375001; clear HO_375002; clear BK332; clear BK353; clear BK363; clear BK374; clear HO378; clear HO381; clear HO384; clear HB; have HO_354000 := n0_; have HO_354001 := n1_; have HO_354002 := n2_; have HO_364000 := n3_; have HO_364001 := n4_; have HO_364002 := n5_; have HO_375000 := n6_; have HO_375001 := n7_; have HO_375002 := n8_; have BK332 := n9_; have BK353 := n10_; have BK363 := n11_; have BK374 := n12_; have HO378 := n13_; have HO381 := n14_; have HO384 := n15_; have HB := n16_; clear n0_ n1_ n2_ n3_ n4_ n5_ n6_ n7_ n8_ n9_ n10_ n11_ n12_ n13_ n14_ n15_ n16_; (try clear hb); (try clear hkp); (try clear hy0); (try clear hy1); (try clear hy2)))
 (try simp only [Act.put, List.setIfInBounds_toArray, List.set_cons_zero, List.set_cons_succ])
 go_cut [69] (fun v69 wc => ∃ (kq : Nat) (x69_69 : Bool), v69 = .bool x69_69 ∧ Aside0 (laws_FnExactStartTyping.j1 kq a1 a2 t352 x69_69 l0_0 l0_1 l0_2 t343 t346 t349 t364 t367 t370 = some r) ∧ Aside0 (kq ≤ kj12) ∧ Aside0 (Kd.R k63 63 wc w.heap.size (fun k_ => some k_ ≠ ((.slice Ao27 t346.length co27) : Value).ownBlock ∧ some k_ ≠ ((.slice Ao32 t354.length co32) : Value).ownBlock ∧ some k_ ≠ ((.slice Ao36 t357.length co36) : Value).ownBlock ∧ some k_ ≠ ((.slice Ao40 t364.length co40) : Value).ownBlock ∧ some k_ ≠ ((.slice Ao45 t367.length co45) : Value).ownBlock) (.slice Ao24 t343.length co24) t343) ∧ Aside0 (Kd.R k63 63 wc w.heap.size (fun k_ => some k_ ≠ ((.slice Ao24 t343.length co24) : Value).ownBlock ∧ some k_ ≠ ((.slice Ao32 t354.length co32) : Value).ownBlock ∧ some k_ ≠ ((.slice Ao36 t357.length co36) : Value).ownBlock ∧ some k_ ≠ ((.slice Ao40 t364.length co40) : Value).ownBlock ∧ some k_ ≠ ((.slice Ao45 t367.length co45) : Value).ownBlock) (.slice Ao27 t346.length co27) t346) ∧ Aside0 (Kd.R k73 73 wc w.heap.size (fun k_ => some k_ ≠ ((.slice Ao37 t360.length co37) : Value).ownBlock ∧ some k_ ≠ ((.slice Ao46 t370.length co46) : Value).ownBlock) (.slice Ao28 t349.length co28) t349) ∧ Aside0 (Kd.R k63 63 wc w.heap.size (fun k_ => some k_ ≠ ((.slice Ao24 t343.length co24) : Value).ownBlock ∧ some k_ ≠ ((.slice Ao27 t346.length co27) : Value).ownBlock ∧ some k_ ≠ ((.slice Ao36 t357.length co36) : Value).ownBlock ∧ some k_ ≠ ((.slice Ao40 t364.length co40) : Value).ownBlock ∧ some k_ ≠ ((.slice Ao45 t367.length co45) : Value).ownBlock) (.slice Ao32 t354.length co32) t387) ∧ Aside0 (Kd.R k63 63 wc w.heap.size (fun k_ => some k_ ≠ ((.slice Ao24 t343.length co24) : Value).ownBlock ∧ some k_ ≠ ((.slice Ao27 t346.length co27) : Value).ownBlock ∧ some k_ ≠ ((.slice Ao32 t354.length co32) : Value).ownBlock ∧ some k_ ≠ ((.slice Ao40 t364.length co40) : Value).ownBlock ∧ some k_ ≠ ((.slice Ao45 t367.length co45) : Value).ownBlock) (.slice Ao36 t357.length co36) t388) ∧ Aside0 (Kd.R k73 73 wc w.heap.size (fun k_ => some k_ ≠ ((.slice Ao28 t349.length co28) : Value).ownBlock ∧ some k_ ≠ ((.slice Ao46 t370.length co46) : Value).ownBlock) (.slice Ao37 t360.length co37) t389) ∧ Aside0 (Kd.R k63 63 wc w.heap.size (fun k_ => some k_ ≠ ((.slice Ao24 t343.length co24) : Value).ownBlock ∧ some k_ ≠ ((.slice Ao27 t346.length co27) : Value).ownBlock ∧ some k_ ≠ ((.slice Ao32 t354.length co32) : Value).ownBlock ∧ some k_ ≠ ((.slice Ao36 t357.length co36) : Value).ownBlock ∧ some k_ ≠ ((.slice Ao45 t367.length co45) : Value).ownBlock) (.slice Ao40 t364.length co40) t364) ∧ Aside0 (Kd.R k63 63 wc w.heap.size (fun k_ => some k_ ≠ ((.slice Ao24 t343.length co24) : Value).ownBlock ∧ some k_ ≠ ((.slice Ao27 t346.length co27) : Value).ownBlock ∧ some k_ ≠ ((.slice Ao32 t354.length co32) : Value).ownBlock ∧ some k_ ≠ ((.slice Ao36 t357.length co36) : Value).ownBlock ∧ some k_ ≠ ((.slice Ao40 t364.length co40) : Value).ownBlock) (.slice Ao45 t367.length co45) t367) ∧ Aside0 (Kd.R k73 73 wc w.heap.size (fun k_ => some k_ ≠ ((.slice Ao28 t349.length co28) : Value).ownBlock ∧ some k_ ≠ ((.slice Ao37 t360.length co37) : Value).ownBlock) (.slice Ao46 t370.length co46) t370) ∧ Aside0 (wc.heap[gb332]? = some (.cells #[(.slice A0_0 l0_0.length c0_0), (.slice A0_1 l0_1.length c0_1), (.slice A0_2 l0_2.length c0_2)] 45 (0, 0))) ∧ Aside0 (wc.heap[gb353]? = some (.cells #[(.slice Ao24 t343.length co24), (.slice Ao27 t346.length co27), (.slice Ao28 t349.length co28)] 27 (0, 0))) ∧ Aside0 (wc.heap[gb363]? = some (.cells #[(.slice Ao32 t354.length co32), (.slice Ao36 t357.length co36), (.slice Ao37 t360.length co37)] 27 (0, 0))) ∧ Aside0 (wc.heap[gb374]? = some (.cells #[(.slice Ao40 t364.length co40), (.slice Ao45 t367.length co45), (.slice Ao46 t370.length co46)] 27 (0, 0))) ∧ Aside0 (Below w.heap.size w wc))
 case first =>
  as_aux_lemma =>
   skip
   {
 have H := HC70.out
 clear HC70
 by_cases c82 : t386 < 0
 {
 rw [if_pos c82] at H
 have c82b0 : decide (t386 < 0) = true := decide_eq_true c82
 clear c82
 (first | rw [c82b0] | (simp only [i64_w, i32_w]; rw [c82b0]) | skip)
 have H' := Aside0.mk H
 clear H
 go_wp2
 go_meet
 case rel => exact ⟨_, (true), s1_, H', ⟨by have := HJ12.out; first | omega | exact Nat.le_refl _⟩, ⟨by (with_reducible repeat (first | apply Kd.R_alloc | apply Kd.R_drewN | apply Kd.R_drew)); exact Kd.R_mono HO_354000.out (fun _ hk => ⟨hk.1, ⟨hk.2.1, ⟨hk.2.2.1, ⟨hk.2.2.2.1, hk.2.2.2.2.1⟩⟩⟩⟩)⟩, ⟨by (with_reducible repeat (first | apply Kd.R_alloc | apply Kd.R_drewN | apply Kd.R_drew)); exact Kd.R_mono HO_354001.out (fun _ hk => ⟨hk.1, ⟨hk.2.1, ⟨hk.2.2.1, ⟨hk.2.2.2.1, hk.2.2.2.2.1⟩⟩⟩⟩)⟩, ⟨by (with_reducible repeat (first | apply Kd.R_alloc | apply Kd.R_drewN | apply Kd.R_drew)); exact Kd.R_mono HO_354002.out (fun _ hk => ⟨hk.1, hk.2.1⟩)⟩, ⟨by (with_reducible repeat (first | apply Kd.R_alloc | apply Kd.R_drewN | apply Kd.R_drew)); exact Kd.R_mono HO_364000.out (fun _ hk => ⟨hk.1.1.1, ⟨hk.1.1.2.1, ⟨hk.1.1.2.2.1, ⟨hk.1.1.2.2.2.1, hk.1.1.2.2.2.2⟩⟩⟩⟩)⟩, ⟨by (with_reducible repeat (first | apply Kd.R_alloc | apply Kd.R_drewN | apply Kd.R_drew)); exact Kd.R_mono HO_364001.out (fun _ hk => ⟨hk.1.1.1, ⟨hk.1.1.2.1, ⟨hk.1.1.2.2.1, ⟨hk.1.1.2.2.2.1, hk.1.1.2.2.2.2⟩⟩⟩⟩)⟩, ⟨by (with_reducible repeat (first | apply Kd.R_alloc | apply Kd.R_drewN | apply Kd.R_drew)); exact Kd.R_mono HO_364002.out (fun _ hk => ⟨hk.1.1, hk.1.2⟩)⟩, ⟨by (with_reducible repeat (first | apply Kd.R_alloc | apply Kd.R_drewN | apply Kd.R_drew)); exact Kd.R_mono HO_375000.out (fun _ hk => ⟨hk.1, ⟨hk.2.1, ⟨hk.2.2.1, ⟨hk.2.2.2.1, hk.2.2.2.2.1⟩⟩⟩⟩)⟩, ⟨by (with_reducible repeat (first | apply Kd.R_alloc | apply Kd.R_drewN | apply Kd.R_drew)); exact Kd.R_mono HO_375001.out (fun _ hk => ⟨hk.1, ⟨hk.2.1, ⟨hk.2.2.1, ⟨hk.2.2.2.1, hk.2.2.2.2.1⟩⟩⟩⟩)⟩, ⟨by (with_reducible repeat (first | apply Kd.R_alloc | apply Kd.R_drewN | apply Kd.R_drew)); exact Kd.R_mono HO_375002.out (fun _ hk => ⟨hk.1, hk.2.1⟩)⟩, ⟨b1_ BK332.out⟩, ⟨b1_ BK353.out⟩, ⟨b1_ BK363.out⟩, ⟨b1_ BK374.out⟩, ⟨by repeat (first | (with_reducible first | exact HB.out | apply below_alloc | apply pw_below_drewN | apply below_drew1) | exact HB.out)⟩⟩}
 {
 rw [if_neg c82] at H
 have c82b0 : decide (t386 < 0) = false := decide_eq_false c82
 clear c82
 (first | rw [c82b0] | (simp only [i64_w, i32_w]; rw [c82b0]) | skip)
 replace H := Option.bind_eq_some_iff.mp H
 obtain ⟨t390, A830, H⟩ := H
 replace H : (if t390 = true then (laws_FnExactStartTyping.j1 kj12 a1 a2 t352 (t373 != t352) l0_0 l0_1 l0_2 t343 t346 t349 t364 t367 t370) else (laws_FnExactStartTyping.j1 kj12 a1 a2 t352 true l0_0 l0_1 l0_2 t343 t346 t349 t364 t367 t370)) = some r := H
 have A83 := Aside0.mk A830
 clear A830
 by_cases c84 : t390 = true
 {
 subst c84
 have H1 : (laws_FnExactStartTyping.j1 kj12 a1 a2 t352 (t373 != t352) l0_0 l0_1 l0_2 t343 t346 t349 t364 t367 t370) = some r := by rw [if_pos rfl] at H; exact H
 clear H
 have H := H1
 clear H1
 have H' := Aside0.mk H
 clear H
 have hnb85 := NB374_332.out
 have hnc85 := NB332_374.out
 have hnb86 := NB374_353.out
 have hnc86 := NB353_374.out
 have hnb87 := NB374_363.out
 have hnc87 := NB363_374.out
 have hcz88_0 := c1_ BK374 0 (.slice Ao40 t364.length co40)
 have hcz88_1 := c1_ BK374 1 (.slice Ao45 t367.length co45)
 have hcz88_2 := c1_ BK374 2 (.slice Ao46 t370.length co46)
 have hfz88_0 := f1_ BK374 0
 have hfz88_1 := f1_ BK374 1
 have hfz88_2 := f1_ BK374 2
 have hnb89 := NB353_332.out
 have hnc89 := NB332_353.out
 have hnb90 := NB353_363.out
 have hnc90 := NB363_353.out
 have hcz91_0 := c1_ BK353 0 (.slice Ao24 t343.length co24)
 have hcz91_1 := c1_ BK353 1 (.slice Ao27 t346.length co27)
 have hcz91_2 := c1_ BK353 2 (.slice Ao28 t349.length co28)
 have hfz91_0 := f1_ BK353 0
 have hfz91_1 := f1_ BK353 1
 have hfz91_2 := f1_ BK353 2
 go_wp2_with (first | (go_at_call 27; (with_reducible refine (laws_eqPresence.calls kj12 _ _ t364 _ _ t367 _ _ t370 _ _ t343 _ _ t346 _ _ t349 true _ ?side1 ?side2 ?side3 ?side4 ?side5 ?side6 ?side7 ?side8 ?side9 ?side10 ?side11 ?side12 A83.out).mono ?_); (case side1 => exact y2_ (Kd.R_reads' HO_375000.out).2.2); (case side2 => exact (Kd.R_reads' HO_375000.out).2.1); (case side3 => exact y2_ (Kd.R_reads' HO_375001.out).2.2); (case side4 => exact (Kd.R_reads' HO_375001.out).2.1); (case side5 => exact y2_ (Kd.R_reads' HO_375002.out).2.2); (case side6 => exact (Kd.R_reads' HO_375002.out).2.1); (case side7 => exact y2_ (Kd.R_reads' HO_354000.out).2.2); (case side8 => exact (Kd.R_reads' HO_354000.out).2.1); (case side9 => exact y2_ (Kd.R_reads' HO_354001.out).2.2); (case side10 => exact (Kd.R_reads' HO_354001.out).2.1); (case side11 => exact y2_ (Kd.R_reads' HO_354002.out).2.2); (case side12 => exact (Kd.R_reads' HO_354002.out).2.1); rintro e w92 ⟨rfl, hb⟩; replace HO_354000 := r1_ HO_354000 hb; replace HO_354001 := r1_ HO_354001 hb; replace HO_354002 := r1_ HO_354002 hb; replace HO_364000 := r1_ HO_364000 hb; replace HO_364001 := r1_ HO_364001 hb; replace HO_364002 := r1_ HO_364002 hb; replace HO_375000 := r1_ HO_375000 hb; replace HO_375001 := r1_ HO_375001 hb; replace HO_375002 := r1_ HO_375002 hb; replace HO378 := r1_ HO378 hb; replace HO381 := r1_ HO381 hb; replace HO384 := r1_ HO384 hb; replace BK332 := b3_ BK332 hb; replace BK353 := b3_ BK353 hb; replace BK363 := b3_ BK363 hb; replace BK374 := b3_ BK374 hb; replace HB := Aside0.mk (below_step (y1_ HB.out) hb); (try clear hb); (try clear hb2); (try clear hk); (try clear hi)))
 go_meet
 case rel => exact ⟨_, ((t373 != t352)), s1_, H', ⟨by have := HJ12.out; first | omega | exact Nat.le_refl _⟩, ⟨by (with_reducible repeat (first | apply Kd.R_alloc | apply Kd.R_drewN | apply Kd.R_drew)); exact Kd.R_mono HO_354000.out (fun _ hk => ⟨hk.1, ⟨hk.2.1, ⟨hk.2.2.1, ⟨hk.2.2.2.1, hk.2.2.2.2.1⟩⟩⟩⟩)⟩, ⟨by (with_reducible repeat (first | apply Kd.R_alloc | apply Kd.R_drewN | apply Kd.R_drew)); exact Kd.R_mono HO_354001.out (fun _ hk => ⟨hk.1, ⟨hk.2.1, ⟨hk.2.2.1, ⟨hk.2.2.2.1, hk.2.2.2.2.1⟩⟩⟩⟩)⟩, ⟨by (with_reducible repeat (first | apply Kd.R_alloc | apply Kd.R_drewN | apply Kd.R_drew)); exact Kd.R_mono HO_354002.out (fun _ hk => ⟨hk.1, hk.2.1⟩)⟩, ⟨by (with_reducible repeat (first | apply Kd.R_alloc | apply Kd.R_drewN | apply Kd.R_drew)); exact Kd.R_mono HO_364000.out (fun _ hk => ⟨hk.1.1.1, ⟨hk.1.1.2.1, ⟨hk.1.1.2.2.1, ⟨hk.1.1.2.2.2.1, hk.1.1.2.2.2.2⟩⟩⟩⟩)⟩, ⟨by (with_reducible repeat (first | apply Kd.R_alloc | apply Kd.R_drewN | apply Kd.R_drew)); exact Kd.R_mono HO_364001.out (fun _ hk => ⟨hk.1.1.1, ⟨hk.1.1.2.1, ⟨hk.1.1.2.2.1, ⟨hk.1.1.2.2.2.1, hk.1.1.2.2.2.2⟩⟩⟩⟩)⟩, ⟨by (with_reducible repeat (first | apply Kd.R_alloc | apply Kd.R_drewN | apply Kd.R_drew)); exact Kd.R_mono HO_364002.out (fun _ hk => ⟨hk.1.1, hk.1.2⟩)⟩, ⟨by (with_reducible repeat (first | apply Kd.R_alloc | apply Kd.R_drewN | apply Kd.R_drew)); exact Kd.R_mono HO_375000.out (fun _ hk => ⟨hk.1, ⟨hk.2.1, ⟨hk.2.2.1, ⟨hk.2.2.2.1, hk.2.2.2.2.1⟩⟩⟩⟩)⟩, ⟨by (with_reducible repeat (first | apply Kd.R_alloc | apply Kd.R_drewN | apply Kd.R_drew)); exact Kd.R_mono HO_375001.out (fun _ hk => ⟨hk.1, ⟨hk.2.1, ⟨hk.2.2.1, ⟨hk.2.2.2.1, hk.2.2.2.2.1⟩⟩⟩⟩)⟩, ⟨by (with_reducible repeat (first | apply Kd.R_alloc | apply Kd.R_drewN | apply Kd.R_drew)); exact Kd.R_mono HO_375002.out (fun _ hk => ⟨hk.1, hk.2.1⟩)⟩, ⟨b1_ BK332.out⟩, ⟨b1_ BK353.out⟩, ⟨b1_ BK363.out⟩, ⟨b1_ BK374.out⟩, ⟨by repeat (first | (with_reducible first | exact HB.out | apply below_alloc | apply pw_below_drewN | apply below_drew1) | exact HB.out)⟩⟩}
 {
 replace c84 := Bool.eq_false_iff.mpr c84
 subst c84
 have H1 : (laws_FnExactStartTyping.j1 kj12 a1 a2 t352 true l0_0 l0_1 l0_2 t343 t346 t349 t364 t367 t370) = some r := by rw [if_neg (show ¬ (false = true) by decide)] at H; exact H
 clear H
 have H := H1
 clear H1
 have H' := Aside0.mk H
 clear H
 have hnb93 := NB374_332.out
 have hnc93 := NB332_374.out
 have hnb94 := NB374_353.out
 have hnc94 := NB353_374.out
 have hnb95 := NB374_363.out
 have hnc95 := NB363_374.out
 have hcz96_0 := c1_ BK374 0 (.slice Ao40 t364.length co40)
 have hcz96_1 := c1_ BK374 1 (.slice Ao45 t367.length co45)
 have hcz96_2 := c1_ BK374 2 (.slice Ao46 t370.length co46)
 have hfz96_0 := f1_ BK374 0
 have hfz96_1 := f1_ BK374 1
 have hfz96_2 := f1_ BK374 2
 have hnb97 := NB353_332.out
 have hnc97 := NB332_353.out
 have hnb98 := NB353_363.out
 have hnc98 := NB363_353.out
 have hcz99_0 := c1_ BK353 0 (.slice Ao24 t343.length co24)
 have hcz99_1 := c1_ BK353 1 (.slice Ao27 t346.length co27)
 have hcz99_2 := c1_ BK353 2 (.slice Ao28 t349.length co28)
 have hfz99_0 := f1_ BK353 0
 have hfz99_1 := f1_ BK353 1
 have hfz99_2 := f1_ BK353 2
 go_wp2_with (first | (go_at_call 27; (with_reducible refine (laws_eqPresence.calls kj12 _ _ t364 _ _ t367 _ _ t370 _ _ t343 _ _ t346 _ _ t349 false _ ?side1 ?side2 ?side3 ?side4 ?side5 ?side6 ?side7 ?side8 ?side9 ?side10 ?side11 ?side12 A83.out).mono ?_); (case side1 => exact y2_ (Kd.R_reads' HO_375000.out).2.2); (case side2 => exact (Kd.R_reads' HO_375000.out).2.1); (case side3 => exact y2_ (Kd.R_reads' HO_375001.out).2.2); (case side4 => exact (Kd.R_reads' HO_375001.out).2.1); (case side5 => exact y2_ (Kd.R_reads' HO_375002.out).2.2); (case side6 => exact (Kd.R_reads' HO_375002.out).2.1); (case side7 => exact y2_ (Kd.R_reads' HO_354000.out).2.2); (case side8 => exact (Kd.R_reads' HO_354000.out).2.1); (case side9 => exact y2_ (Kd.R_reads' HO_354001.out).2.2); (case side10 => exact (Kd.R_reads' HO_354001.out).2.1); (case side11 => exact y2_ (Kd.R_reads' HO_354002.out).2.2); (case side12 => exact (Kd.R_reads' HO_354002.out).2.1); rintro e w100 ⟨rfl, hb⟩; replace HO_354000 := r1_ HO_354000 hb; replace HO_354001 := r1_ HO_354001 hb; replace HO_354002 := r1_ HO_354002 hb; replace HO_364000 := r1_ HO_364000 hb; replace HO_364001 := r1_ HO_364001 hb; replace HO_364002 := r1_ HO_364002 hb; replace HO_375000 := r1_ HO_375000 hb; replace HO_375001 := r1_ HO_375001 hb; replace HO_375002 := r1_ HO_375002 hb; replace HO378 := r1_ HO378 hb; replace HO381 := r1_ HO381 hb; replace HO384 := r1_ HO384 hb; replace BK332 := b3_ BK332 hb; replace BK353 := b3_ BK353 hb; replace BK363 := b3_ BK363 hb; replace BK374 := b3_ BK374 hb; replace HB := Aside0.mk (below_step (y1_ HB.out) hb); (try clear hb); (try clear hb2); (try clear hk); (try clear hi)))
 go_meet
 case rel => exact ⟨_, (true), s1_, H', ⟨by have := HJ12.out; first | omega | exact Nat.le_refl _⟩, ⟨by (with_reducible repeat (first | apply Kd.R_alloc | apply Kd.R_drewN | apply Kd.R_drew)); exact Kd.R_mono HO_354000.out (fun _ hk => ⟨hk.1, ⟨hk.2.1, ⟨hk.2.2.1, ⟨hk.2.2.2.1, hk.2.2.2.2.1⟩⟩⟩⟩)⟩, ⟨by (with_reducible repeat (first | apply Kd.R_alloc | apply Kd.R_drewN | apply Kd.R_drew)); exact Kd.R_mono HO_354001.out (fun _ hk => ⟨hk.1, ⟨hk.2.1, ⟨hk.2.2.1, ⟨hk.2.2.2.1, hk.2.2.2.2.1⟩⟩⟩⟩)⟩, ⟨by (with_reducible repeat (first | apply Kd.R_alloc | apply Kd.R_drewN | apply Kd.R_drew)); exact Kd.R_mono HO_354002.out (fun _ hk => ⟨hk.1, hk.2.1⟩)⟩, ⟨by (with_reducible repeat (first | apply Kd.R_alloc | apply Kd.R_drewN | apply Kd.R_drew)); exact Kd.R_mono HO_364000.out (fun _ hk => ⟨hk.1.1.1, ⟨hk.1.1.2.1, ⟨hk.1.1.2.2.1, ⟨hk.1.1.2.2.2.1, hk.1.1.2.2.2.2⟩⟩⟩⟩)⟩, ⟨by (with_reducible repeat (first | apply Kd.R_alloc | apply Kd.R_drewN | apply Kd.R_drew)); exact Kd.R_mono HO_364001.out (fun _ hk => ⟨hk.1.1.1, ⟨hk.1.1.2.1, ⟨hk.1.1.2.2.1, ⟨hk.1.1.2.2.2.1, hk.1.1.2.2.2.2⟩⟩⟩⟩)⟩, ⟨by (with_reducible repeat (first | apply Kd.R_alloc | apply Kd.R_drewN | apply Kd.R_drew)); exact Kd.R_mono HO_364002.out (fun _ hk => ⟨hk.1.1, hk.1.2⟩)⟩, ⟨by (with_reducible repeat (first | apply Kd.R_alloc | apply Kd.R_drewN | apply Kd.R_drew)); exact Kd.R_mono HO_375000.out (fun _ hk => ⟨hk.1, ⟨hk.2.1, ⟨hk.2.2.1, ⟨hk.2.2.2.1, hk.2.2.2.2.1⟩⟩⟩⟩)⟩, ⟨by (with_reducible repeat (first | apply Kd.R_alloc | apply Kd.R_drewN | apply Kd.R_drew)); exact Kd.R_mono HO_375001.out (fun _ hk => ⟨hk.1, ⟨hk.2.1, ⟨hk.2.2.1, ⟨hk.2.2.2.1, hk.2.2.2.2.1⟩⟩⟩⟩)⟩, ⟨by (with_reducible repeat (first | apply Kd.R_alloc | apply Kd.R_drewN | apply Kd.R_drew)); exact Kd.R_mono HO_375002.out (fun _ hk => ⟨hk.1, hk.2.1⟩)⟩, ⟨b1_ BK332.out⟩, ⟨b1_ BK353.out⟩, ⟨b1_ BK363.out⟩, ⟨b1_ BK374.out⟩, ⟨by repeat (first | (with_reducible first | exact HB.out | apply below_alloc | apply pw_below_drewN | apply below_drew1) | exact HB.out)⟩⟩}}}
 case rest =>
  skip
  {
 clear HC70
 try clear c1
 try clear c2
 try clear p2
 try clear c3
 try clear c4
 try clear c5
 try clear c5b0
 try clear c6
 try clear c7
 try clear c8
 try clear c9
 try clear c16
 try clear c24
 try clear c25
 try clear c26
 try clear c27
 try clear c28
 try clear c33
 try clear c34
 try clear c35
 try clear c41
 try clear c42
 try clear c43
 try clear c48
 try clear c49
 try clear c50
 try clear c51
 try clear c53
 try clear c54
 try clear c57
 try clear c58
 try clear c59
 try clear c61
 try clear c62
 try clear c65
 try clear c68
 try clear c77
 try clear c78
 try clear c79
 try clear c82
 try clear c82b0
 try clear c84
 try clear c85
 try clear c86
 try clear c87
 try clear c89
 try clear c90
 try clear c93
 try clear c94
 try clear c95
 try clear c97
 try clear c98
 try clear hcz15_0
 try clear hcz15_1
 try clear hcz15_2
 try clear hcz17_0
 try clear hcz17_1
 try clear hcz17_2
 try clear hcz26_0
 try clear hcz26_1
 try clear hcz26_2
 try clear hcz29_0
 try clear hcz29_1
 try clear hcz29_2
 try clear hcz35_0
 try clear hcz35_1
 try clear hcz35_2
 try clear hcz44_0
 try clear hcz44_1
 try clear hcz44_2
 try clear hcz52_0
 try clear hcz52_1
 try clear hcz52_2
 try clear hcz55_0
 try clear hcz55_1
 try clear hcz55_2
 try clear hcz60_0
 try clear hcz60_1
 try clear hcz60_2
 try clear hcz63_0
 try clear hcz63_1
 try clear hcz63_2
 try clear hcz7_0
 try clear hcz7_1
 try clear hcz7_2
 try clear hcz80_0
 try clear hcz80_1
 try clear hcz80_2
 try clear hcz88_0
 try clear hcz88_1
 try clear hcz88_2
 try clear hcz91_0
 try clear hcz91_1
 try clear hcz91_2
 try clear hcz96_0
 try clear hcz96_1
 try clear hcz96_2
 try clear hcz99_0
 try clear hcz99_1
 try clear hcz99_2
 try clear hfz15_0
 try clear hfz15_1
 try clear hfz15_2
 try clear hfz17_0
 try clear hfz17_1
 try clear hfz17_2
 try clear hfz26_0
 try clear hfz26_1
 try clear hfz26_2
 try clear hfz29_0
 try clear hfz29_1
 try clear hfz29_2
 try clear hfz35_0
 try clear hfz35_1
 try clear hfz35_2
 try clear hfz44_0
 try clear hfz44_1
 try clear hfz44_2
 try clear hfz52_0
 try clear hfz52_1
 try clear hfz52_2
 try clear hfz55_0
 try clear hfz55_1
 try clear hfz55_2
 try clear hfz60_0
 try clear hfz60_1
 try clear hfz60_2
 try clear hfz63_0
 try clear hfz63_1
 try clear hfz63_2
 try clear hfz7_0
 try clear hfz7_1
 try clear hfz7_2
 try clear hfz80_0
 try clear hfz80_1
 try clear hfz80_2
 try clear hfz88_0
 try clear hfz88_1
 try clear hfz88_2
 try clear hfz91_0
 try clear hfz91_1
 try clear hfz91_2
 try clear hfz96_0
 try clear hfz96_1
 try clear hfz96_2
 try clear hfz99_0
 try clear hfz99_1
 try clear hfz99_2
 try clear p2
 obtain ⟨kq, x69_69, rfl, HA, HJ69, HO_354000, HO_354001, HO_354002, HO_364000, HO_364001, HO_364002, HO_375000, HO_375001, HO_375002, BK332, BK353, BK363, BK374, HB⟩ := hcut
 have hl364000_69 := (Kd.R_reads' HO_364000.out).1
 rw [hl364000_69] at HO_364000
 (try simp only [hl364000_69])
 (try simp only [hl364000_69] at BK332)
 (try simp only [hl364000_69] at BK353)
 (try simp only [hl364000_69] at BK363)
 (try simp only [hl364000_69] at BK374)
 (try simp only [hl364000_69] at HO_354000)
 (try simp only [hl364000_69] at HO_354001)
 (try simp only [hl364000_69] at HO_354002)
 (try simp only [hl364000_69] at HO_364001)
 (try simp only [hl364000_69] at HO_364002)
 (try simp only [hl364000_69] at HO_375000)
 (try simp only [hl364000_69] at HO_375001)
 (try simp only [hl364000_69] at HO_375002)
 have hl364001_69 := (Kd.R_reads' HO_364001.out).1
 rw [hl364001_69] at HO_364001
 (try simp only [hl364001_69])
 (try simp only [hl364001_69] at BK332)
 (try simp only [hl364001_69] at BK353)
 (try simp only [hl364001_69] at BK363)
 (try simp only [hl364001_69] at BK374)
 (try simp only [hl364001_69] at HO_354000)
 (try simp only [hl364001_69] at HO_354001)
 (try simp only [hl364001_69] at HO_354002)
 (try simp only [hl364001_69] at HO_364000)
 (try simp only [hl364001_69] at HO_364002)
 (try simp only [hl364001_69] at HO_375000)
 (try simp only [hl364001_69] at HO_375001)
 (try simp only [hl364001_69] at HO_375002)
 have hl364002_69 := (Kd.R_reads' HO_364002.out).1
 rw [hl364002_69] at HO_364002
 (try simp only [hl364002_69])
 (try simp only [hl364002_69] at BK332)
 (try simp only [hl364002_69] at BK353)
 (try simp only [hl364002_69] at BK363)
 (try simp only [hl364002_69] at BK374)
 (try simp only [hl364002_69] at HO_354000)
 (try simp only [hl364002_69] at HO_354001)
 (try simp only [hl364002_69] at HO_354002)
 (try simp only [hl364002_69] at HO_364000)
 (try simp only [hl364002_69] at HO_364001)
 (try simp only [hl364002_69] at HO_375000)
 (try simp only [hl364002_69] at HO_375001)
 (try simp only [hl364002_69] at HO_375002)
 cases kq with
 | zero => exact absurd HA.out (by simp [laws_FnExactStartTyping.j1])
 | succ kj69 =>
  skip
  {
 have H := HA.out
 clear HA
 simp only [laws_FnExactStartTyping.j1] at H
 by_cases c101 : x69_69 = true
 {
 subst c101
 have H1 : (some false) = some r := by rw [if_pos rfl] at H; exact H
 clear H
 have H := H1
 clear H1
 obtain rfl := Option.some.inj H
 go_wp2
 go_ret
 exact ⟨by first | rfl | (simp [errW_none, errW_some] <;> rfl) | (simp [*, errW_none, errW_some] <;> rfl), by repeat (first | (with_reducible first | exact HB.out | apply below_alloc | apply pw_below_drewN | apply below_drew1) | exact HB.out)⟩}
 {
 replace c101 := Bool.eq_false_iff.mpr c101
 subst c101
 have H1 : ((laws_markPresence.f kj69 t364 t367 t370 1).bind fun bt391 => ((laws_heldPresence.f kj69 bt391.2.1 bt391.2.2.1 bt391.2.2.2 1).bind fun t395 => (if t395 < 0 then (some false) else (if t395 = bt391.1 then ((laws_toPresence.f kj69 l0_0 l0_1 l0_2).bind fun bt396 => ((impl_StartTyping.f kj69 bt396.1 bt396.2.1 bt396.2.2 a1 a2).bind fun bt405 => ((laws_eqPresence.f kj69 bt405.1 bt405.2.1 bt405.2.2.1 t343 t346 t349).bind fun t416 => (if t416 = true then (laws_FnExactStartTyping.j2 kj69 bt391.1 (bt405.2.2.2 != t352) bt391.2.1 bt391.2.2.1 bt391.2.2.2) else (laws_FnExactStartTyping.j2 kj69 bt391.1 true bt391.2.1 bt391.2.2.1 bt391.2.2.2))))) else (some false))))) = some r := by rw [if_neg (show ¬ (false = true) by decide)] at H; exact H
 clear H
 have H := H1
 clear H1
 replace H := Option.bind_eq_some_iff.mp H
 obtain ⟨⟨t391, t392, t393, t394⟩, A1020, H⟩ := H
 replace H : ((laws_heldPresence.f kj69 t392 t393 t394 1).bind fun t395 => (if t395 < 0 then (some false) else (if t395 = t391 then ((laws_toPresence.f kj69 l0_0 l0_1 l0_2).bind fun bt396 => ((impl_StartTyping.f kj69 bt396.1 bt396.2.1 bt396.2.2 a1 a2).bind fun bt405 => ((laws_eqPresence.f kj69 bt405.1 bt405.2.1 bt405.2.2.1 t343 t346 t349).bind fun t416 => (if t416 = true then (laws_FnExactStartTyping.j2 kj69 t391 (bt405.2.2.2 != t352) t392 t393 t394) else (laws_FnExactStartTyping.j2 kj69 t391 true t392 t393 t394))))) else (some false)))) = some r := H
 have A102 := Aside0.mk A1020
 clear A1020
 replace H := Option.bind_eq_some_iff.mp H
 obtain ⟨t395, A1030, H⟩ := H
 replace H : (if t395 < 0 then (some false) else (if t395 = t391 then ((laws_toPresence.f kj69 l0_0 l0_1 l0_2).bind fun bt396 => ((impl_StartTyping.f kj69 bt396.1 bt396.2.1 bt396.2.2 a1 a2).bind fun bt405 => ((laws_eqPresence.f kj69 bt405.1 bt405.2.1 bt405.2.2.1 t343 t346 t349).bind fun t416 => (if t416 = true then (laws_FnExactStartTyping.j2 kj69 t391 (bt405.2.2.2 != t352) t392 t393 t394) else (laws_FnExactStartTyping.j2 kj69 t391 true t392 t393 t394))))) else (some false))) = some r := H
 have A103 := Aside0.mk A1030
 clear A1030
 by_cases c104 : t395 < 0
 {
 rw [if_pos c104] at H
 have c104b0 : decide (t395 < 0) = true := decide_eq_true c104
 clear c104
 obtain rfl := Option.some.inj H
 have hnb105 := NB374_332.out
 have hnc105 := NB332_374.out
 have hnb106 := NB374_353.out
 have hnc106 := NB353_374.out
 have hnb107 := NB374_363.out
 have hnc107 := NB363_374.out
 have hcz108_0 := c1_ BK374 0 (.slice Ao40 t364.length co40)
 have hcz108_1 := c1_ BK374 1 (.slice Ao45 t367.length co45)
 have hcz108_2 := c1_ BK374 2 (.slice Ao46 t370.length co46)
 have hfz108_0 := f1_ BK374 0
 have hfz108_1 := f1_ BK374 1
 have hfz108_2 := f1_ BK374 2
 go_wp2_with (first | ((with_reducible refine gate_callee (f := 28) rfl ?_); refine goesL_ (some 72) rfl rfl Try.func28 s2_ rfl #[.agg #[.slice Ao40 t364.length co40, .slice Ao45 t367.length co45, .slice Ao46 t370.length co46], .int .i64 1] rfl s3_ ?_; (with_reducible refine (laws_markPresence.calls kj69 (fun k_ => some k_ = (.slice Ao40 t364.length co40 : Value).ownBlock) (.slice Ao40 t364.length co40) t364 (fun k_ => some k_ = (.slice Ao45 t367.length co45 : Value).ownBlock) (.slice Ao45 t367.length co45) t367 (fun k_ => some k_ = (.slice Ao46 t370.length co46 : Value).ownBlock) (.slice Ao46 t370.length co46) t370 1 t391 t392 t393 t394 w _ ?side1 ?side2 ?side3 ?side4 ?side5 ?side6 A102.out).mono ?_); (case side1 => repeat (first | (with_reducible first | exact HB.out | apply below_alloc | apply pw_below_drewN | apply below_drew1) | exact HB.out)); (case side2 => exact Kd.R_tight rfl HO_375000.out); (case side3 => exact fun k_ e_ => (HO_375000.out.1 k_ e_.symm).2.2.2.2); (case side4 => exact Kd.R_tight rfl HO_375001.out); (case side5 => exact fun k_ e_ => (HO_375001.out.1 k_ e_.symm).2.2.2.2); (case side6 => exact Kd.R_tight rfl HO_375002.out); rintro e w109 ⟨rfl, hy0, hy1, hy2, hb, hkp⟩; refine ⟨_, rfl, ?_⟩; have n0_ := Aside0.mk (Kd.R_mono (ok' := fun k_ => some k_ ≠ (.slice Ao27 t346.length co27 : Value).ownBlock ∧ some k_ ≠ (.slice Ao32 t387.length co32 : Value).ownBlock ∧ some k_ ≠ (.slice Ao36 t388.length co36 : Value).ownBlock ∧ some k_ ≠ (.slice Ao40 t364.length co40 : Value).ownBlock ∧ some k_ ≠ (.slice Ao45 t367.length co45 : Value).ownBlock) (Kd.R_keptB ((Kd.R_apart' HO_354000.out (Kd.R_typed HO_375002.out) (by decide))) hkp (fun k_ hk_ hs_ => Or.elim hs_ (fun e_ => (hk_.1.2.2.2.1) e_) (fun e_ => Or.elim e_ (fun e_ => (hk_.1.2.2.2.2) e_) (fun e_ => (hk_.2) e_)))) (fun k_ hk_ => ⟨hk_.1.1.1, hk_.1.1.2.1, hk_.1.1.2.2.1, hk_.1.1.2.2.2.1, hk_.1.1.2.2.2.2⟩)); have n1_ := Aside0.mk (Kd.R_mono (ok' := fun k_ => some k_ ≠ (.slice Ao24 t343.length co24 : Value).ownBlock ∧ some k_ ≠ (.slice Ao32 t387.length co32 : Value).ownBlock ∧ some k_ ≠ (.slice Ao36 t388.length co36 : Value).ownBlock ∧ some k_ ≠ (.slice Ao40 t364.length co40 : Value).ownBlock ∧ some k_ ≠ (.slice Ao45 t367.length co45 : Value).ownBlock) (Kd.R_keptB ((Kd.R_apart' HO_354001.out (Kd.R_typed HO_375002.out) (by decide))) hkp (fun k_ hk_ hs_ => Or.elim hs_ (fun e_ => (hk_.1.2.2.2.1) e_) (fun e_ => Or.elim e_ (fun e_ => (hk_.1.2.2.2.2) e_) (fun e_ => (hk_.2) e_)))) (fun k_ hk_ => ⟨hk_.1.1.1, hk_.1.1.2.1, hk_.1.1.2.2.1, hk_.1.1.2.2.2.1, hk_.1.1.2.2.2.2⟩)); have n2_ := Aside0.mk (Kd.R_mono (ok' := fun k_ => some k_ ≠ (.slice Ao37 t389.length co37 : Value).ownBlock ∧ some k_ ≠ (.slice Ao46 t370.length co46 : Value).ownBlock) (Kd.R_keptB ((Kd.R_apart' (Kd.R_apart' HO_354002.out (Kd.R_typed HO_375000.out) (by decide)) (Kd.R_typed HO_375001.out) (by decide))) hkp (fun k_ hk_ hs_ => Or.elim hs_ (fun e_ => (hk_.1.2) e_) (fun e_ => Or.elim e_ (fun e_ => (hk_.2) e_) (fun e_ => (hk_.1.1.2) e_)))) (fun k_ hk_ => ⟨hk_.1.1.1.1, hk_.1.1.1.2⟩)); have n3_ := Aside0.mk (Kd.R_mono (ok' := fun k_ => some k_ ≠ (.slice Ao24 t343.length co24 : Value).ownBlock ∧ some k_ ≠ (.slice Ao27 t346.length co27 : Value).ownBlock ∧ some k_ ≠ (.slice Ao36 t388.length co36 : Value).ownBlock ∧ some k_ ≠ (.slice Ao40 t364.length co40 : Value).ownBlock ∧ some k_ ≠ (.slice Ao45 t367.length co45 : Value).ownBlock) (Kd.R_keptB ((Kd.R_apart' HO_364000.out (Kd.R_typed HO_375002.out) (by decide))) hkp (fun k_ hk_ hs_ => Or.elim hs_ (fun e_ => (hk_.1.2.2.2.1) e_) (fun e_ => Or.elim e_ (fun e_ => (hk_.1.2.2.2.2) e_) (fun e_ => (hk_.2) e_)))) (fun k_ hk_ => ⟨hk_.1.1.1, hk_.1.1.2.1, hk_.1.1.2.2.1, hk_.1.1.2.2.2.1, hk_.1.1.2.2.2.2⟩)); have n4_ := Aside0.mk (Kd.R_mono (ok' := fun k_ => some k_ ≠ (.slice Ao24 t343.length co24 : Value).ownBlock ∧ some k_ ≠ (.slice Ao27 t346.length co27 : Value).ownBlock ∧ some k_ ≠ (.slice Ao32 t387.length co32 : Value).ownBlock ∧ some k_ ≠ (.slice Ao40 t364.length co40 : Value).ownBlock ∧ some k_ ≠ (.slice Ao45 t367.length co45 : Value).ownBlock) (Kd.R_keptB ((Kd.R_apart' HO_364001.out (Kd.R_typed HO_375002.out) (by decide))) hkp (fun k_ hk_ hs_ => Or.elim hs_ (fun e_ => (hk_.1.2.2.2.1) e_) (fun e_ => Or.elim e_ (fun e_ => (hk_.1.2.2.2.2) e_) (fun e_ => (hk_.2) e_)))) (fun k_ hk_ => ⟨hk_.1.1.1, hk_.1.1.2.1, hk_.1.1.2.2.1, hk_.1.1.2.2.2.1, hk_.1.1.2.2.2.2⟩)); have n5_ := Aside0.mk (Kd.R_mono (ok' := fun k_ => some k_ ≠ (.slice Ao28 t349.length co28 : Value).ownBlock ∧ some k_ ≠ (.slice Ao46 t370.length co46 : Value).ownBlock) (Kd.R_keptB ((Kd.R_apart' (Kd.R_apart' HO_364002.out (Kd.R_typed HO_375000.out) (by decide)) (Kd.R_typed HO_375001.out) (by decide))) hkp (fun k_ hk_ hs_ => Or.elim hs_ (fun e_ => (hk_.1.2) e_) (fun e_ => Or.elim e_ (fun e_ => (hk_.2) e_) (fun e_ => (hk_.1.1.2) e_)))) (fun k_ hk_ => ⟨hk_.1.1.1.1, hk_.1.1.1.2⟩)); have n6_ := Aside0.mk (Kd.R_reok rfl hy0 (fun k_ e_ => HO_375000.out.1 k_ e_)); have n7_ := Aside0.mk (Kd.R_reok rfl hy1 (fun k_ e_ => HO_375001.out.1 k_ e_)); have n8_ := Aside0.mk (Kd.R_reok rfl hy2 (fun k_ e_ => HO_375002.out.1 k_ e_)); have n9_ := Aside0.mk (blk_kept (b1_ BK332.out) hkp (fun hs_ => Or.elim hs_ (fun e_ => (fun e_ => (Kd.R_ne HO_375000.out BK332.out (by decide)) e_) e_) (fun e_ => Or.elim e_ (fun e_ => (fun e_ => (Kd.R_ne HO_375001.out BK332.out (by decide)) e_) e_) (fun e_ => (fun e_ => (Kd.R_ne HO_375002.out BK332.out (by decide)) e_) e_)))); have n10_ := Aside0.mk (blk_kept (b1_ BK353.out) hkp (fun hs_ => Or.elim hs_ (fun e_ => (fun e_ => (Kd.R_ne HO_375000.out BK353.out (by decide)) e_) e_) (fun e_ => Or.elim e_ (fun e_ => (fun e_ => (Kd.R_ne HO_375001.out BK353.out (by decide)) e_) e_) (fun e_ => (fun e_ => (Kd.R_ne HO_375002.out BK353.out (by decide)) e_) e_)))); have n11_ := Aside0.mk (blk_kept (b1_ BK363.out) hkp (fun hs_ => Or.elim hs_ (fun e_ => (fun e_ => (Kd.R_ne HO_375000.out BK363.out (by decide)) e_) e_) (fun e_ => Or.elim e_ (fun e_ => (fun e_ => (Kd.R_ne HO_375001.out BK363.out (by decide)) e_) e_) (fun e_ => (fun e_ => (Kd.R_ne HO_375002.out BK363.out (by decide)) e_) e_)))); have n12_ := Aside0.mk (blk_kept (b1_ BK374.out) hkp (fun hs_ => Or.elim hs_ (fun e_ => (fun e_ => (Kd.R_ne HO_375000.out BK374.out (by decide)) e_) e_) (fun e_ => Or.elim e_ (fun e_ => (fun e_ => (Kd.R_ne HO_375001.out BK374.out (by decide)) e_) e_) (fun e_ => (fun e_ => (Kd.R_ne HO_375002.out BK374.out (by decide)) e_) e_)))); have n13_ := Aside0.mk (hb); clear HO_354000; clear HO_354001; clear HO_354002; clear HO_364000; clear HO_364001; clear HO_364002; clear HO_375000; clear HO_375001; clear HO_375002; clear BK332; clear BK353; clear BK363; clear BK374; clear HB; have HO_354000 := n0_; have HO_354001 := n1_; have HO_354002 := n2_; have HO_364000 := n3_; have HO_364001 := n4_; have HO_364002 := n5_; have HO_375000 := n6_; have HO_375001 := n7_; have HO_375002 := n8_; have BK332 := n9_; have BK353 := n10_; have BK363 := n11_; have BK374 := n12_; have HB := n13_; clear n0_ n1_ n2_ n3_ n4_ n5_ n6_ n7_ n8_ n9_ n10_ n11_ n12_ n13_; (try clear hb); (try clear hkp); (try clear hy0); (try clear hy1); (try clear hy2); have hcz110_0 := c1_ BK374 0 (.slice Ao40 t364.length co40); have hcz110_1 := c1_ BK374 1 (.slice Ao45 t367.length co45); have hcz110_2 := c1_ BK374 2 (.slice Ao46 t370.length co46); have hfz110_0 := f1_ BK374 0; have hfz110_1 := f1_ BK374 1; have hfz110_2 := f1_ BK374 2) | ((with_reducible refine gate_callee (f := 29) rfl ?_); refine goesL_ (some 75) rfl rfl Try.func29 s2_ rfl #[.agg #[.slice Ao40 t392.length co40, .slice Ao45 t393.length co45, .slice Ao46 t394.length co46], .int .i64 1] rfl (by (try simp only [List.map_toArray, List.map_cons, List.map_nil]); first | done | (rw [show t392.length = t364.length from (Kd.R_reads' HO_375000.out).1.symm, show t393.length = t367.length from (Kd.R_reads' HO_375001.out).1.symm, show t394.length = t370.length from (Kd.R_reads' HO_375002.out).1.symm] <;> rfl) | rfl | (simp only [List.length_drop, List.length_take]; rfl)) ?_; (with_reducible refine (laws_heldPresence.calls kj69 _ _ t392 _ _ t393 _ _ t394 1 t395 _ ?side1 ?side2 ?side3 ?side4 ?side5 ?side6 A103.out).mono ?_); (case side1 => exact y2_ (Kd.R_reads' HO_375000.out).2.2); (case side2 => rw [show t392.length = t364.length from (Kd.R_reads' HO_375000.out).1.symm]; exact (Kd.R_reads' HO_375000.out).2.1); (case side3 => exact y2_ (Kd.R_reads' HO_375001.out).2.2); (case side4 => rw [show t393.length = t367.length from (Kd.R_reads' HO_375001.out).1.symm]; exact (Kd.R_reads' HO_375001.out).2.1); (case side5 => exact y2_ (Kd.R_reads' HO_375002.out).2.2); (case side6 => rw [show t394.length = t370.length from (Kd.R_reads' HO_375002.out).1.symm]; exact (Kd.R_reads' HO_375002.out).2.1); rintro e w111 ⟨rfl, hb⟩; refine ⟨_, rfl, ?_⟩; replace HO_354000 := r1_ HO_354000 hb; replace HO_354001 := r1_ HO_354001 hb; replace HO_354002 := r1_ HO_354002 hb; replace HO_364000 := r1_ HO_364000 hb; replace HO_364001 := r1_ HO_364001 hb; replace HO_364002 := r1_ HO_364002 hb; replace HO_375000 := r1_ HO_375000 hb; replace HO_375001 := r1_ HO_375001 hb; replace HO_375002 := r1_ HO_375002 hb; replace BK332 := b3_ BK332 hb; replace BK353 := b3_ BK353 hb; replace BK363 := b3_ BK363 hb; replace BK374 := b3_ BK374 hb; replace HB := Aside0.mk (below_step (y1_ HB.out) hb); (try clear hb); (try clear hb2); (try clear hk); (try clear hi)))
 go_ret
 exact ⟨by first | rfl | (simp [errW_none, errW_some] <;> rfl) | (simp [*, errW_none, errW_some] <;> rfl), by repeat (first | (with_reducible first | exact HB.out | apply below_alloc | apply pw_below_drewN | apply below_drew1) | exact HB.out)⟩}
 {
 rw [if_neg c104] at H
 have c104b0 : decide (t395 < 0) = false := decide_eq_false c104
 clear c104
 by_cases c112 : t395 = t391
 {
 rw [if_pos c112] at H
 have c112b0 : (t395 == t391) = true := beq_iff_eq.mpr c112
 have c112b1 : (t395 != t391) = false := bne_eq_false_iff_eq.mpr c112
 clear c112
 replace H := Option.bind_eq_some_iff.mp H
 obtain ⟨⟨t396, t399, t402⟩, A1130, H⟩ := H
 replace H : ((impl_StartTyping.f kj69 t396 t399 t402 a1 a2).bind fun bt405 => ((laws_eqPresence.f kj69 bt405.1 bt405.2.1 bt405.2.2.1 t343 t346 t349).bind fun t416 => (if t416 = true then (laws_FnExactStartTyping.j2 kj69 t391 (bt405.2.2.2 != t352) t392 t393 t394) else (laws_FnExactStartTyping.j2 kj69 t391 true t392 t393 t394)))) = some r := H
 have A113 := Aside0.mk A1130
 clear A1130
 replace H := Option.bind_eq_some_iff.mp H
 obtain ⟨⟨t405, t408, t411, t414⟩, A1140, H⟩ := H
 replace H : ((laws_eqPresence.f kj69 t405 t408 t411 t343 t346 t349).bind fun t416 => (if t416 = true then (laws_FnExactStartTyping.j2 kj69 t391 (t414 != t352) t392 t393 t394) else (laws_FnExactStartTyping.j2 kj69 t391 true t392 t393 t394))) = some r := H
 have A114 := Aside0.mk A1140
 clear A1140
 have HC115 := Aside0.mk H
 clear H
 have hnb116 := NB374_332.out
 have hnc116 := NB332_374.out
 have hnb117 := NB374_353.out
 have hnc117 := NB353_374.out
 have hnb118 := NB374_363.out
 have hnc118 := NB363_374.out
 have hcz119_0 := c1_ BK374 0 (.slice Ao40 t364.length co40)
 have hcz119_1 := c1_ BK374 1 (.slice Ao45 t367.length co45)
 have hcz119_2 := c1_ BK374 2 (.slice Ao46 t370.length co46)
 have hfz119_0 := f1_ BK374 0
 have hfz119_1 := f1_ BK374 1
 have hfz119_2 := f1_ BK374 2
 go_upto_region 25 with (first | ((with_reducible refine gate_callee (f := 28) rfl ?_); refine goesL_ (some 72) rfl rfl Try.func28 s2_ rfl #[.agg #[.slice Ao40 t364.length co40, .slice Ao45 t367.length co45, .slice Ao46 t370.length co46], .int .i64 1] rfl s3_ ?_; (with_reducible refine (laws_markPresence.calls kj69 (fun k_ => some k_ = (.slice Ao40 t364.length co40 : Value).ownBlock) (.slice Ao40 t364.length co40) t364 (fun k_ => some k_ = (.slice Ao45 t367.length co45 : Value).ownBlock) (.slice Ao45 t367.length co45) t367 (fun k_ => some k_ = (.slice Ao46 t370.length co46 : Value).ownBlock) (.slice Ao46 t370.length co46) t370 1 t391 t392 t393 t394 w _ ?side1 ?side2 ?side3 ?side4 ?side5 ?side6 A102.out).mono ?_); (case side1 => repeat (first | (with_reducible first | exact HB.out | apply below_alloc | apply pw_below_drewN | apply below_drew1) | exact HB.out)); (case side2 => exact Kd.R_tight rfl HO_375000.out); (case side3 => exact fun k_ e_ => (HO_375000.out.1 k_ e_.symm).2.2.2.2); (case side4 => exact Kd.R_tight rfl HO_375001.out); (case side5 => exact fun k_ e_ => (HO_375001.out.1 k_ e_.symm).2.2.2.2); (case side6 => exact Kd.R_tight rfl HO_375002.out); rintro e w120 ⟨rfl, hy0, hy1, hy2, hb, hkp⟩; refine ⟨_, rfl, ?_⟩; have n0_ := Aside0.mk (Kd.R_mono (ok' := fun k_ => some k_ ≠ (.slice Ao27 t346.length co27 : Value).ownBlock ∧ some k_ ≠ (.slice Ao32 t387.length co32 : Value).ownBlock ∧ some k_ ≠ (.slice Ao36 t388.length co36 : Value).ownBlock ∧ some k_ ≠ (.slice Ao40 t364.length co40 : Value).ownBlock ∧ some k_ ≠ (.slice Ao45 t367.length co45 : Value).ownBlock) (Kd.R_keptB ((Kd.R_apart' HO_354000.out (Kd.R_typed HO_375002.out) (by decide))) hkp (fun k_ hk_ hs_ => Or.elim hs_ (fun e_ => (hk_.1.2.2.2.1) e_) (fun e_ => Or.elim e_ (fun e_ => (hk_.1.2.2.2.2) e_) (fun e_ => (hk_.2) e_)))) (fun k_ hk_ => ⟨hk_.1.1.1, hk_.1.1.2.1, hk_.1.1.2.2.1, hk_.1.1.2.2.2.1, hk_.1.1.2.2.2.2⟩)); have n1_ := Aside0.mk (Kd.R_mono (ok' := fun k_ => some k_ ≠ (.slice Ao24 t343.length co24 : Value).ownBlock ∧ some k_ ≠ (.slice Ao32 t387.length co32 : Value).ownBlock ∧ some k_ ≠ (.slice Ao36 t388.length co36 : Value).ownBlock ∧ some k_ ≠ (.slice Ao40 t364.length co40 : Value).ownBlock ∧ some k_ ≠ (.slice Ao45 t367.length co45 : Value).ownBlock) (Kd.R_keptB ((Kd.R_apart' HO_354001.out (Kd.R_typed HO_375002.out) (by decide))) hkp (fun k_ hk_ hs_ => Or.elim hs_ (fun e_ => (hk_.1.2.2.2.1) e_) (fun e_ => Or.elim e_ (fun e_ => (hk_.1.2.2.2.2) e_) (fun e_ => (hk_.2) e_)))) (fun k_ hk_ => ⟨hk_.1.1.1, hk_.1.1.2.1, hk_.1.1.2.2.1, hk_.1.1.2.2.2.1, hk_.1.1.2.2.2.2⟩)); have n2_ := Aside0.mk (Kd.R_mono (ok' := fun k_ => some k_ ≠ (.slice Ao37 t389.length co37 : Value).ownBlock ∧ some k_ ≠ (.slice Ao46 t370.length co46 : Value).ownBlock) (Kd.R_keptB ((Kd.R_apart' (Kd.R_apart' HO_354002.out (Kd.R_typed HO_375000.out) (by decide)) (Kd.R_typed HO_375001.out) (by decide))) hkp (fun k_ hk_ hs_ => Or.elim hs_ (fun e_ => (hk_.1.2) e_) (fun e_ => Or.elim e_ (fun e_ => (hk_.2) e_) (fun e_ => (hk_.1.1.2) e_)))) (fun k_ hk_ => ⟨hk_.1.1.1.1, hk_.1.1.1.2⟩)); have n3_ := Aside0.mk (Kd.R_mono (ok' := fun k_ => some k_ ≠ (.slice Ao24 t343.length co24 : Value).ownBlock ∧ some k_ ≠ (.slice Ao27 t346.length co27 : Value).ownBlock ∧ some k_ ≠ (.slice Ao36 t388.length co36 : Value).ownBlock ∧ some k_ ≠ (.slice Ao40 t364.length co40 : Value).ownBlock ∧ some k_ ≠ (.slice Ao45 t367.length co45 : Value).ownBlock) (Kd.R_keptB ((Kd.R_apart' HO_364000.out (Kd.R_typed HO_375002.out) (by decide))) hkp (fun k_ hk_ hs_ => Or.elim hs_ (fun e_ => (hk_.1.2.2.2.1) e_) (fun e_ => Or.elim e_ (fun e_ => (hk_.1.2.2.2.2) e_) (fun e_ => (hk_.2) e_)))) (fun k_ hk_ => ⟨hk_.1.1.1, hk_.1.1.2.1, hk_.1.1.2.2.1, hk_.1.1.2.2.2.1, hk_.1.1.2.2.2.2⟩)); have n4_ := Aside0.mk (Kd.R_mono (ok' := fun k_ => some k_ ≠ (.slice Ao24 t343.length co24 : Value).ownBlock ∧ some k_ ≠ (.slice Ao27 t346.length co27 : Value).ownBlock ∧ some k_ ≠ (.slice Ao32 t387.length co32 : Value).ownBlock ∧ some k_ ≠ (.slice Ao40 t364.length co40 : Value).ownBlock ∧ some k_ ≠ (.slice Ao45 t367.length co45 : Value).ownBlock) (Kd.R_keptB ((Kd.R_apart' HO_364001.out (Kd.R_typed HO_375002.out) (by decide))) hkp (fun k_ hk_ hs_ => Or.elim hs_ (fun e_ => (hk_.1.2.2.2.1) e_) (fun e_ => Or.elim e_ (fun e_ => (hk_.1.2.2.2.2) e_) (fun e_ => (hk_.2) e_)))) (fun k_ hk_ => ⟨hk_.1.1.1, hk_.1.1.2.1, hk_.1.1.2.2.1, hk_.1.1.2.2.2.1, hk_.1.1.2.2.2.2⟩)); have n5_ := Aside0.mk (Kd.R_mono (ok' := fun k_ => some k_ ≠ (.slice Ao28 t349.length co28 : Value).ownBlock ∧ some k_ ≠ (.slice Ao46 t370.length co46 : Value).ownBlock) (Kd.R_keptB ((Kd.R_apart' (Kd.R_apart' HO_364002.out (Kd.R_typed HO_375000.out) (by decide)) (Kd.R_typed HO_375001.out) (by decide))) hkp (fun k_ hk_ hs_ => Or.elim hs_ (fun e_ => (hk_.1.2) e_) (fun e_ => Or.elim e_ (fun e_ => (hk_.2) e_) (fun e_ => (hk_.1.1.2) e_)))) (fun k_ hk_ => ⟨hk_.1.1.1.1, hk_.1.1.1.2⟩)); have n6_ := Aside0.mk (Kd.R_reok rfl hy0 (fun k_ e_ => HO_375000.out.1 k_ e_)); have n7_ := Aside0.mk (Kd.R_reok rfl hy1 (fun k_ e_ => HO_375001.out.1 k_ e_)); have n8_ := Aside0.mk (Kd.R_reok rfl hy2 (fun k_ e_ => HO_375002.out.1 k_ e_)); have n9_ := Aside0.mk (blk_kept (b1_ BK332.out) hkp (fun hs_ => Or.elim hs_ (fun e_ => (fun e_ => (Kd.R_ne HO_375000.out BK332.out (by decide)) e_) e_) (fun e_ => Or.elim e_ (fun e_ => (fun e_ => (Kd.R_ne HO_375001.out BK332.out (by decide)) e_) e_) (fun e_ => (fun e_ => (Kd.R_ne HO_375002.out BK332.out (by decide)) e_) e_)))); have n10_ := Aside0.mk (blk_kept (b1_ BK353.out) hkp (fun hs_ => Or.elim hs_ (fun e_ => (fun e_ => (Kd.R_ne HO_375000.out BK353.out (by decide)) e_) e_) (fun e_ => Or.elim e_ (fun e_ => (fun e_ => (Kd.R_ne HO_375001.out BK353.out (by decide)) e_) e_) (fun e_ => (fun e_ => (Kd.R_ne HO_375002.out BK353.out (by decide)) e_) e_)))); have n11_ := Aside0.mk (blk_kept (b1_ BK363.out) hkp (fun hs_ => Or.elim hs_ (fun e_ => (fun e_ => (Kd.R_ne HO_375000.out BK363.out (by decide)) e_) e_) (fun e_ => Or.elim e_ (fun e_ => (fun e_ => (Kd.R_ne HO_375001.out BK363.out (by decide)) e_) e_) (fun e_ => (fun e_ => (Kd.R_ne HO_375002.out BK363.out (by decide)) e_) e_)))); have n12_ := Aside0.mk (blk_kept (b1_ BK374.out) hkp (fun hs_ => Or.elim hs_ (fun e_ => (fun e_ => (Kd.R_ne HO_375000.out BK374.out (by decide)) e_) e_) (fun e_ => Or.elim e_ (fun e_ => (fun e_ => (Kd.R_ne HO_375001.out BK374.out (by decide)) e_) e_) (fun e_ => (fun e_ => (Kd.R_ne HO_375002.out BK374.out (by decide)) e_) e_)))); have n13_ := Aside0.mk (hb); clear HO_354000; clear HO_354001; clear HO_354002; clear HO_364000; clear HO_364001; clear HO_364002; clear HO_375000; clear HO_375001; clear HO_375002; clear BK332; clear BK353; clear BK363; clear BK374; clear HB; have HO_354000 := n0_; have HO_354001 := n1_; have HO_354002 := n2_; have HO_364000 := n3_; have HO_364001 := n4_; have HO_364002 := n5_; have HO_375000 := n6_; have HO_375001 := n7_; have HO_375002 := n8_; have BK332 := n9_; have BK353 := n10_; have BK363 := n11_; have BK374 := n12_; have HB := n13_; clear n0_ n1_ n2_ n3_ n4_ n5_ n6_ n7_ n8_ n9_ n10_ n11_ n12_ n13_; (try clear hb); (try clear hkp); (try clear hy0); (try clear hy1); (try clear hy2); have hcz121_0 := c1_ BK374 0 (.slice Ao40 t364.length co40); have hcz121_1 := c1_ BK374 1 (.slice Ao45 t367.length co45); have hcz121_2 := c1_ BK374 2 (.slice Ao46 t370.length co46); have hfz121_0 := f1_ BK374 0; have hfz121_1 := f1_ BK374 1; have hfz121_2 := f1_ BK374 2) | ((with_reducible refine gate_callee (f := 29) rfl ?_); refine goesL_ (some 75) rfl rfl Try.func29 s2_ rfl #[.agg #[.slice Ao40 t392.length co40, .slice Ao45 t393.length co45, .slice Ao46 t394.length co46], .int .i64 1] rfl (by (try simp only [List.map_toArray, List.map_cons, List.map_nil]); first | done | (rw [show t392.length = t364.length from (Kd.R_reads' HO_375000.out).1.symm, show t393.length = t367.length from (Kd.R_reads' HO_375001.out).1.symm, show t394.length = t370.length from (Kd.R_reads' HO_375002.out).1.symm] <;> rfl) | rfl | (simp only [List.length_drop, List.length_take]; rfl)) ?_; (with_reducible refine (laws_heldPresence.calls kj69 _ _ t392 _ _ t393 _ _ t394 1 t395 _ ?side1 ?side2 ?side3 ?side4 ?side5 ?side6 A103.out).mono ?_); (case side1 => exact y2_ (Kd.R_reads' HO_375000.out).2.2); (case side2 => rw [show t392.length = t364.length from (Kd.R_reads' HO_375000.out).1.symm]; exact (Kd.R_reads' HO_375000.out).2.1); (case side3 => exact y2_ (Kd.R_reads' HO_375001.out).2.2); (case side4 => rw [show t393.length = t367.length from (Kd.R_reads' HO_375001.out).1.symm]; exact (Kd.R_reads' HO_375001.out).2.1); (case side5 => exact y2_ (Kd.R_reads' HO_375002.out).2.2); (case side6 => rw [show t394.length = t370.length from (Kd.R_reads' HO_375002.out).1.symm]; exact (Kd.R_reads' HO_375002.out).2.1); rintro e w122 ⟨rfl, hb⟩; refine ⟨_, rfl, ?_⟩; replace HO_354000 := r1_ HO_354000 hb; replace HO_354001 := r1_ HO_354001 hb; replace HO_354002 := r1_ HO_354002 hb; replace HO_364000 := r1_ HO_364000 hb; replace HO_364001 := r1_ HO_364001 hb; replace HO_364002 := r1_ HO_364002 hb; replace HO_375000 := r1_ HO_375000 hb; replace HO_375001 := r1_ HO_375001 hb; replace HO_375002 := r1_ HO_375002 hb; replace BK332 := b3_ BK332 hb; replace BK353 := b3_ BK353 hb; replace BK363 := b3_ BK363 hb; replace BK374 := b3_ BK374 hb; replace HB := Aside0.mk (below_step (y1_ HB.out) hb); (try clear hb); (try clear hb2); (try clear hk); (try clear hi); have hnb123 := NB332_353.out; have hnc123 := NB353_332.out; have hnb124 := NB332_363.out; have hnc124 := NB363_332.out; have hcz125_0 := c1_ BK332 0 (.slice A0_0 l0_0.length c0_0); have hcz125_1 := c1_ BK332 1 (.slice A0_1 l0_1.length c0_1); have hcz125_2 := c1_ BK332 2 (.slice A0_2 l0_2.length c0_2); have hfz125_0 := f1_ BK332 0; have hfz125_1 := f1_ BK332 1; have hfz125_2 := f1_ BK332 2) | ((with_reducible refine gate_callee (f := 26) rfl ?_); refine goesL_ (some 83) rfl rfl Try.func26 s2_ rfl #[.agg #[.slice A0_0 l0_0.length c0_0, .slice A0_1 l0_1.length c0_1, .slice A0_2 l0_2.length c0_2]] rfl s3_ ?_; (with_reducible refine (laws_toPresence.calls kj69 _ _ l0_0 _ _ l0_1 _ _ l0_2 t396 t399 t402 _ ?side1 ?side2 ?side3 ?side4 ?side5 ?side6 A113.out).mono ?_); (case side1 => exact y2_ (Kd.C_below HR0_0.out HB.out)); (case side2 => exact HC0_0.out); (case side3 => exact y2_ (Kd.C_below HR0_1.out HB.out)); (case side4 => exact HC0_1.out); (case side5 => exact y2_ (Kd.C_below HR0_2.out HB.out)); (case side6 => exact HC0_2.out); rintro e w126 ⟨v397, v400, v403, rfl, ho0, ho1, ho2, hb⟩; refine ⟨_, rfl, ?_⟩; have n0_ := Aside0.mk (Kd.R_mono (Kd.R_told (Kd.R_told (Kd.R_old (b2_ HO_354000.out) hb) (Kd.R_base ho0)) (Kd.R_base ho1)) (fun _ h_ => h_.1)); have n1_ := Aside0.mk (Kd.R_mono (Kd.R_told (Kd.R_told (Kd.R_old (b2_ HO_354001.out) hb) (Kd.R_base ho0)) (Kd.R_base ho1)) (fun _ h_ => h_.1)); have n2_ := Aside0.mk (Kd.R_elder' (b2_ HO_354002.out) (Kd.R_base ho2) hb); have n3_ := Aside0.mk (Kd.R_mono (Kd.R_told (Kd.R_told (Kd.R_old (b2_ HO_364000.out) hb) (Kd.R_base ho0)) (Kd.R_base ho1)) (fun _ h_ => h_.1)); have n4_ := Aside0.mk (Kd.R_mono (Kd.R_told (Kd.R_told (Kd.R_old (b2_ HO_364001.out) hb) (Kd.R_base ho0)) (Kd.R_base ho1)) (fun _ h_ => h_.1)); have n5_ := Aside0.mk (Kd.R_elder' (b2_ HO_364002.out) (Kd.R_base ho2) hb); have n6_ := Aside0.mk (Kd.R_mono (Kd.R_told (Kd.R_told (Kd.R_old (b2_ HO_375000.out) hb) (Kd.R_base ho0)) (Kd.R_base ho1)) (fun _ h_ => h_.1)); have n7_ := Aside0.mk (Kd.R_mono (Kd.R_told (Kd.R_told (Kd.R_old (b2_ HO_375001.out) hb) (Kd.R_base ho0)) (Kd.R_base ho1)) (fun _ h_ => h_.1)); have n8_ := Aside0.mk (Kd.R_elder' (b2_ HO_375002.out) (Kd.R_base ho2) hb); have n9_ := Aside0.mk (Kd.R_lower (Kd.R_new' (Kd.R_new' (Kd.R_new' (Kd.R_new' (Kd.R_new' (Kd.R_new' ho0 (Kd.R_lt (b2_ HO_354000.out))) (Kd.R_lt (b2_ HO_354001.out))) (Kd.R_lt (b2_ HO_364000.out))) (Kd.R_lt (b2_ HO_364001.out))) (Kd.R_lt (b2_ HO_375000.out))) (Kd.R_lt (b2_ HO_375001.out))) (below_size (y1_ HB.out))); have n10_ := Aside0.mk (Kd.R_lower (Kd.R_new' (Kd.R_new' (Kd.R_new' (Kd.R_new' (Kd.R_new' (Kd.R_new' ho1 (Kd.R_lt (b2_ HO_354000.out))) (Kd.R_lt (b2_ HO_354001.out))) (Kd.R_lt (b2_ HO_364000.out))) (Kd.R_lt (b2_ HO_364001.out))) (Kd.R_lt (b2_ HO_375000.out))) (Kd.R_lt (b2_ HO_375001.out))) (below_size (y1_ HB.out))); have n11_ := Aside0.mk (Kd.R_lower (Kd.R_new' (Kd.R_new' (Kd.R_new' ho2 (Kd.R_lt (b2_ HO_354002.out))) (Kd.R_lt (b2_ HO_364002.out))) (Kd.R_lt (b2_ HO_375002.out))) (below_size (y1_ HB.out))); have n12_ := b3_ BK332 hb; have n13_ := b3_ BK353 hb; have n14_ := b3_ BK363 hb; have n15_ := b3_ BK374 hb; have n16_ := Aside0.mk (below_step (y1_ HB.out) hb); clear HO_354000; clear HO_354001; clear HO_354002; clear HO_364000; clear HO_364001; clear HO_364002; clear HO_375000; clear HO_375001; clear HO_375002; clear BK332; clear BK353; clear BK363; clear BK374; clear HB; have HO_354000 := n0_; have HO_354001 := n1_; have HO_354002 := n2_; have HO_364000 := n3_; have HO_364001 := n4_; have HO_364002 := n5_; have HO_375000 := n6_; have HO_375001 := n7_; have HO_375002 := n8_; have HO398 := n9_; have HO401 := n10_; have HO404 := n11_; have BK332 := n12_; have BK353 := n13_; have BK363 := n14_; have BK374 := n15_; have HB := n16_; clear n0_ n1_ n2_ n3_ n4_ n5_ n6_ n7_ n8_ n9_ n10_ n11_ n12_ n13_ n14_ n15_ n16_; (try clear hb); (try clear hb2); (try clear hk); (try clear hi); (try clear ho0); (try clear ho1); (try clear ho2); obtain ⟨Ao127, co127, eo127⟩ := Kd.R_slice HO398.out; subst eo127; obtain ⟨Ao128, co128, eo128⟩ := Kd.R_slice HO401.out; subst eo128; obtain ⟨Ao129, co129, eo129⟩ := Kd.R_slice HO404.out; subst eo129) | ((with_reducible refine gate_callee (f := 16) rfl ?_); refine goesL_ (some 86) rfl rfl Try.func16 s2_ rfl #[.agg #[.slice Ao127 t396.length co127, .slice Ao128 t399.length co128, .slice Ao129 t402.length co129], .int .i64 a1, .int .i64 a2] rfl s3_ ?_; (with_reducible refine (impl_StartTyping.calls kj69 _ _ t396 _ _ t399 _ _ t402 a1 a2 t405 t408 t411 t414 _ ?side1 ?side2 ?side3 ?side4 ?side5 ?side6 A114.out).mono ?_); (case side1 => exact y2_ (Kd.R_reads' HO398.out).2.2); (case side2 => exact (Kd.R_reads' HO398.out).2.1); (case side3 => exact y2_ (Kd.R_reads' HO401.out).2.2); (case side4 => exact (Kd.R_reads' HO401.out).2.1); (case side5 => exact y2_ (Kd.R_reads' HO404.out).2.2); (case side6 => exact (Kd.R_reads' HO404.out).2.1); rintro e w130 ⟨v406, v409, v412, rfl, ho0, ho1, ho2, hb⟩; refine ⟨_, rfl, ?_⟩; have n0_ := Aside0.mk (Kd.R_mono (Kd.R_told (Kd.R_told (Kd.R_old (b2_ HO_354000.out) hb) (Kd.R_base ho0)) (Kd.R_base ho1)) (fun _ h_ => h_.1)); have n1_ := Aside0.mk (Kd.R_mono (Kd.R_told (Kd.R_told (Kd.R_old (b2_ HO_354001.out) hb) (Kd.R_base ho0)) (Kd.R_base ho1)) (fun _ h_ => h_.1)); have n2_ := Aside0.mk (Kd.R_elder' (b2_ HO_354002.out) (Kd.R_base ho2) hb); have n3_ := Aside0.mk (Kd.R_mono (Kd.R_told (Kd.R_told (Kd.R_old (b2_ HO_364000.out) hb) (Kd.R_base ho0)) (Kd.R_base ho1)) (fun _ h_ => h_.1)); have n4_ := Aside0.mk (Kd.R_mono (Kd.R_told (Kd.R_told (Kd.R_old (b2_ HO_364001.out) hb) (Kd.R_base ho0)) (Kd.R_base ho1)) (fun _ h_ => h_.1)); have n5_ := Aside0.mk (Kd.R_elder' (b2_ HO_364002.out) (Kd.R_base ho2) hb); have n6_ := Aside0.mk (Kd.R_mono (Kd.R_told (Kd.R_told (Kd.R_old (b2_ HO_375000.out) hb) (Kd.R_base ho0)) (Kd.R_base ho1)) (fun _ h_ => h_.1)); have n7_ := Aside0.mk (Kd.R_mono (Kd.R_told (Kd.R_told (Kd.R_old (b2_ HO_375001.out) hb) (Kd.R_base ho0)) (Kd.R_base ho1)) (fun _ h_ => h_.1)); have n8_ := Aside0.mk (Kd.R_elder' (b2_ HO_375002.out) (Kd.R_base ho2) hb); have n9_ := Aside0.mk (Kd.R_mono (Kd.R_told (Kd.R_told (Kd.R_old (b2_ HO398.out) hb) (Kd.R_base ho0)) (Kd.R_base ho1)) (fun _ h_ => h_.1)); have n10_ := Aside0.mk (Kd.R_mono (Kd.R_told (Kd.R_told (Kd.R_old (b2_ HO401.out) hb) (Kd.R_base ho0)) (Kd.R_base ho1)) (fun _ h_ => h_.1)); have n11_ := Aside0.mk (Kd.R_elder' (b2_ HO404.out) (Kd.R_base ho2) hb); have n12_ := Aside0.mk (Kd.R_lower (Kd.R_new' (Kd.R_new' (Kd.R_new' (Kd.R_new' (Kd.R_new' (Kd.R_new' (Kd.R_new' (Kd.R_new' ho0 (Kd.R_lt (b2_ HO_354000.out))) (Kd.R_lt (b2_ HO_354001.out))) (Kd.R_lt (b2_ HO_364000.out))) (Kd.R_lt (b2_ HO_364001.out))) (Kd.R_lt (b2_ HO_375000.out))) (Kd.R_lt (b2_ HO_375001.out))) (Kd.R_lt (b2_ HO398.out))) (Kd.R_lt (b2_ HO401.out))) (below_size (y1_ HB.out))); have n13_ := Aside0.mk (Kd.R_lower (Kd.R_new' (Kd.R_new' (Kd.R_new' (Kd.R_new' (Kd.R_new' (Kd.R_new' (Kd.R_new' (Kd.R_new' ho1 (Kd.R_lt (b2_ HO_354000.out))) (Kd.R_lt (b2_ HO_354001.out))) (Kd.R_lt (b2_ HO_364000.out))) (Kd.R_lt (b2_ HO_364001.out))) (Kd.R_lt (b2_ HO_375000.out))) (Kd.R_lt (b2_ HO_375001.out))) (Kd.R_lt (b2_ HO398.out))) (Kd.R_lt (b2_ HO401.out))) (below_size (y1_ HB.out))); have n14_ := Aside0.mk (Kd.R_lower (Kd.R_new' (Kd.R_new' (Kd.R_new' (Kd.R_new' ho2 (Kd.R_lt (b2_ HO_354002.out))) (Kd.R_lt (b2_ HO_364002.out))) (Kd.R_lt (b2_ HO_375002.out))) (Kd.R_lt (b2_ HO404.out))) (below_size (y1_ HB.out))); have n15_ := b3_ BK332 hb; have n16_ := b3_ BK353 hb; have n17_ := b3_ BK363 hb; have n18_ := b3_ BK374 hb; have n19_ := Aside0.mk (below_step (y1_ HB.out) hb); clear HO_354000; clear HO_354001; clear HO_354002; clear HO_364000; clear HO_364001; clear HO_364002; clear HO_375000; clear HO_375001; clear HO_375002; clear HO398; clear HO401; clear HO404; clear BK332; clear BK353; clear BK363; clear BK374; clear HB; have HO_354000 := n0_; have HO_354001 := n1_; have HO_354002 := n2_; have HO_364000 := n3_; have HO_364001 := n4_; have HO_364002 := n5_; have HO_375000 := n6_; have HO_375001 := n7_; have HO_375002 := n8_; have HO398 := n9_; have HO401 := n10_; have HO404 := n11_; have HO407 := n12_; have HO410 := n13_; have HO413 := n14_; have BK332 := n15_; have BK353 := n16_; have BK363 := n17_; have BK374 := n18_; have HB := n19_; clear n0_ n1_ n2_ n3_ n4_ n5_ n6_ n7_ n8_ n9_ n10_ n11_ n12_ n13_ n14_ n15_ n16_ n17_ n18_ n19_; (try clear hb); (try clear hb2); (try clear hk); (try clear hi); (try clear ho0); (try clear ho1); (try clear ho2)) | ((with_reducible refine gate_dst (N := 16) rfl ?_); refine bx_ 16 #[.slice none 0 0, .slice none 0 0, .slice none 0 0] 27 ?_; intro gb415 hg w131 hbox hb; have GW415 := b6_ hg HB; have GE415 := b6_ hg HB; have NB332_415 := b4_ hg BK332; have NB415_332 := b5_ hg BK332; have NB353_415 := b4_ hg BK353; have NB415_353 := b5_ hg BK353; have NB363_415 := b4_ hg BK363; have NB415_363 := b5_ hg BK363; have NB374_415 := b4_ hg BK374; have NB415_374 := b5_ hg BK374; replace HO_354000 := r1_ HO_354000 hb; replace HO_354001 := r1_ HO_354001 hb; replace HO_354002 := r1_ HO_354002 hb; replace HO_364000 := r1_ HO_364000 hb; replace HO_364001 := r1_ HO_364001 hb; replace HO_364002 := r1_ HO_364002 hb; replace HO_375000 := r1_ HO_375000 hb; replace HO_375001 := r1_ HO_375001 hb; replace HO_375002 := r1_ HO_375002 hb; replace HO398 := r1_ HO398 hb; replace HO401 := r1_ HO401 hb; replace HO404 := r1_ HO404 hb; replace HO407 := r1_ HO407 hb; replace HO410 := r1_ HO410 hb; replace HO413 := r1_ HO413 hb; replace BK332 := b3_ BK332 hb; replace BK353 := b3_ BK353 hb; replace BK363 := b3_ BK363 hb; replace BK374 := b3_ BK374 hb; replace HB := Aside0.mk (below_step (y1_ HB.out) hb); have BK415 := Aside0.mk (hbox); clear hb hbox hg; obtain ⟨Ao132, co132, eo132⟩ := Kd.R_slice HO407.out; subst eo132; have hnb133 := NB415_332.out; have hnc133 := NB332_415.out; have hnb134 := NB415_353.out; have hnc134 := NB353_415.out; have hnb135 := NB415_363.out; have hnc135 := NB363_415.out; have hnb136 := NB415_374.out; have hnc136 := NB374_415.out; have hcz137_0 := c1_ BK415 0 (.slice none 0 0); have hcz137_1 := c1_ BK415 1 (.slice none 0 0); have hcz137_2 := c1_ BK415 2 (.slice none 0 0); have hfz137_0 := f1_ BK415 0; have hfz137_1 := f1_ BK415 1; have hfz137_2 := f1_ BK415 2; obtain ⟨Ao138, co138, eo138⟩ := Kd.R_slice HO410.out; subst eo138; obtain ⟨Ao139, co139, eo139⟩ := Kd.R_slice HO413.out; subst eo139))
 (try simp only [Act.put, List.setIfInBounds_toArray, List.set_cons_zero, List.set_cons_succ])
 go_cut [97] (fun v97 wc => ∃ (kq : Nat) (x97_114 : Bool), v97 = .bool x97_114 ∧ Aside0 (laws_FnExactStartTyping.j2 kq t391 x97_114 t392 t393 t394 = some r) ∧ Aside0 (kq ≤ kj69) ∧ Aside0 (Kd.R k63 63 wc w.heap.size (fun k_ => some k_ ≠ ((.slice Ao27 t346.length co27) : Value).ownBlock ∧ some k_ ≠ ((.slice Ao32 t387.length co32) : Value).ownBlock ∧ some k_ ≠ ((.slice Ao36 t388.length co36) : Value).ownBlock ∧ some k_ ≠ ((.slice Ao40 t364.length co40) : Value).ownBlock ∧ some k_ ≠ ((.slice Ao45 t367.length co45) : Value).ownBlock ∧ some k_ ≠ ((.slice Ao132 t405.length co132) : Value).ownBlock ∧ some k_ ≠ ((.slice Ao138 t408.length co138) : Value).ownBlock) (.slice Ao24 t343.length co24) t343) ∧ Aside0 (Kd.R k63 63 wc w.heap.size (fun k_ => some k_ ≠ ((.slice Ao24 t343.length co24) : Value).ownBlock ∧ some k_ ≠ ((.slice Ao32 t387.length co32) : Value).ownBlock ∧ some k_ ≠ ((.slice Ao36 t388.length co36) : Value).ownBlock ∧ some k_ ≠ ((.slice Ao40 t364.length co40) : Value).ownBlock ∧ some k_ ≠ ((.slice Ao45 t367.length co45) : Value).ownBlock ∧ some k_ ≠ ((.slice Ao132 t405.length co132) : Value).ownBlock ∧ some k_ ≠ ((.slice Ao138 t408.length co138) : Value).ownBlock) (.slice Ao27 t346.length co27) t346) ∧ Aside0 (Kd.R k73 73 wc w.heap.size (fun k_ => some k_ ≠ ((.slice Ao37 t389.length co37) : Value).ownBlock ∧ some k_ ≠ ((.slice Ao46 t370.length co46) : Value).ownBlock ∧ some k_ ≠ ((.slice Ao139 t411.length co139) : Value).ownBlock) (.slice Ao28 t349.length co28) t349) ∧ Aside0 (Kd.R k63 63 wc w.heap.size (fun k_ => some k_ ≠ ((.slice Ao24 t343.length co24) : Value).ownBlock ∧ some k_ ≠ ((.slice Ao27 t346.length co27) : Value).ownBlock ∧ some k_ ≠ ((.slice Ao36 t388.length co36) : Value).ownBlock ∧ some k_ ≠ ((.slice Ao40 t364.length co40) : Value).ownBlock ∧ some k_ ≠ ((.slice Ao45 t367.length co45) : Value).ownBlock ∧ some k_ ≠ ((.slice Ao132 t405.length co132) : Value).ownBlock ∧ some k_ ≠ ((.slice Ao138 t408.length co138) : Value).ownBlock) (.slice Ao32 t387.length co32) t387) ∧ Aside0 (Kd.R k63 63 wc w.heap.size (fun k_ => some k_ ≠ ((.slice Ao24 t343.length co24) : Value).ownBlock ∧ some k_ ≠ ((.slice Ao27 t346.length co27) : Value).ownBlock ∧ some k_ ≠ ((.slice Ao32 t387.length co32) : Value).ownBlock ∧ some k_ ≠ ((.slice Ao40 t364.length co40) : Value).ownBlock ∧ some k_ ≠ ((.slice Ao45 t367.length co45) : Value).ownBlock ∧ some k_ ≠ ((.slice Ao132 t405.length co132) : Value).ownBlock ∧ some k_ ≠ ((.slice Ao138 t408.length co138) : Value).ownBlock) (.slice Ao36 t388.length co36) t388) ∧ Aside0 (Kd.R k73 73 wc w.heap.size (fun k_ => some k_ ≠ ((.slice Ao28 t349.length co28) : Value).ownBlock ∧ some k_ ≠ ((.slice Ao46 t370.length co46) : Value).ownBlock ∧ some k_ ≠ ((.slice Ao139 t411.length co139) : Value).ownBlock) (.slice Ao37 t389.length co37) t389) ∧ Aside0 (Kd.R k63 63 wc w.heap.size (fun k_ => some k_ ≠ ((.slice Ao24 t343.length co24) : Value).ownBlock ∧ some k_ ≠ ((.slice Ao27 t346.length co27) : Value).ownBlock ∧ some k_ ≠ ((.slice Ao32 t387.length co32) : Value).ownBlock ∧ some k_ ≠ ((.slice Ao36 t388.length co36) : Value).ownBlock ∧ some k_ ≠ ((.slice Ao45 t367.length co45) : Value).ownBlock ∧ some k_ ≠ ((.slice Ao132 t405.length co132) : Value).ownBlock ∧ some k_ ≠ ((.slice Ao138 t408.length co138) : Value).ownBlock) (.slice Ao40 t364.length co40) t392) ∧ Aside0 (Kd.R k63 63 wc w.heap.size (fun k_ => some k_ ≠ ((.slice Ao24 t343.length co24) : Value).ownBlock ∧ some k_ ≠ ((.slice Ao27 t346.length co27) : Value).ownBlock ∧ some k_ ≠ ((.slice Ao32 t387.length co32) : Value).ownBlock ∧ some k_ ≠ ((.slice Ao36 t388.length co36) : Value).ownBlock ∧ some k_ ≠ ((.slice Ao40 t364.length co40) : Value).ownBlock ∧ some k_ ≠ ((.slice Ao132 t405.length co132) : Value).ownBlock ∧ some k_ ≠ ((.slice Ao138 t408.length co138) : Value).ownBlock) (.slice Ao45 t367.length co45) t393) ∧ Aside0 (Kd.R k73 73 wc w.heap.size (fun k_ => some k_ ≠ ((.slice Ao28 t349.length co28) : Value).ownBlock ∧ some k_ ≠ ((.slice Ao37 t389.length co37) : Value).ownBlock ∧ some k_ ≠ ((.slice Ao139 t411.length co139) : Value).ownBlock) (.slice Ao46 t370.length co46) t394) ∧ Aside0 (Kd.R k63 63 wc w.heap.size (fun k_ => some k_ ≠ ((.slice Ao24 t343.length co24) : Value).ownBlock ∧ some k_ ≠ ((.slice Ao27 t346.length co27) : Value).ownBlock ∧ some k_ ≠ ((.slice Ao32 t387.length co32) : Value).ownBlock ∧ some k_ ≠ ((.slice Ao36 t388.length co36) : Value).ownBlock ∧ some k_ ≠ ((.slice Ao40 t364.length co40) : Value).ownBlock ∧ some k_ ≠ ((.slice Ao45 t367.length co45) : Value).ownBlock ∧ some k_ ≠ ((.slice Ao138 t408.length co138) : Value).ownBlock) (.slice Ao132 t405.length co132) t405) ∧ Aside0 (Kd.R k63 63 wc w.heap.size (fun k_ => some k_ ≠ ((.slice Ao24 t343.length co24) : Value).ownBlock ∧ some k_ ≠ ((.slice Ao27 t346.length co27) : Value).ownBlock ∧ some k_ ≠ ((.slice Ao32 t387.length co32) : Value).ownBlock ∧ some k_ ≠ ((.slice Ao36 t388.length co36) : Value).ownBlock ∧ some k_ ≠ ((.slice Ao40 t364.length co40) : Value).ownBlock ∧ some k_ ≠ ((.slice Ao45 t367.length co45) : Value).ownBlock ∧ some k_ ≠ ((.slice Ao132 t405.length co132) : Value).ownBlock) (.slice Ao138 t408.length co138) t408) ∧ Aside0 (Kd.R k73 73 wc w.heap.size (fun k_ => some k_ ≠ ((.slice Ao28 t349.length co28) : Value).ownBlock ∧ some k_ ≠ ((.slice Ao37 t389.length co37) : Value).ownBlock ∧ some k_ ≠ ((.slice Ao46 t370.length co46) : Value).ownBlock) (.slice Ao139 t411.length co139) t411) ∧ Aside0 (wc.heap[gb332]? = some (.cells #[(.slice A0_0 l0_0.length c0_0), (.slice A0_1 l0_1.length c0_1), (.slice A0_2 l0_2.length c0_2)] 45 (0, 0))) ∧ Aside0 (wc.heap[gb353]? = some (.cells #[(.slice Ao24 t343.length co24), (.slice Ao27 t346.length co27), (.slice Ao28 t349.length co28)] 27 (0, 0))) ∧ Aside0 (wc.heap[gb363]? = some (.cells #[(.slice Ao32 t387.length co32), (.slice Ao36 t388.length co36), (.slice Ao37 t389.length co37)] 27 (0, 0))) ∧ Aside0 (wc.heap[gb374]? = some (.cells #[(.slice Ao40 t364.length co40), (.slice Ao45 t367.length co45), (.slice Ao46 t370.length co46)] 27 (0, 0))) ∧ Aside0 (wc.heap[gb415]? = some (.cells #[(.slice Ao132 t405.length co132), (.slice Ao138 t408.length co138), (.slice Ao139 t411.length co139)] 27 (0, 0))) ∧ Aside0 (Below w.heap.size w wc))
 case first =>
  as_aux_lemma =>
   skip
   {
 have H := HC115.out
 clear HC115
 replace H := Option.bind_eq_some_iff.mp H
 obtain ⟨t416, A1400, H⟩ := H
 replace H : (if t416 = true then (laws_FnExactStartTyping.j2 kj69 t391 (t414 != t352) t392 t393 t394) else (laws_FnExactStartTyping.j2 kj69 t391 true t392 t393 t394)) = some r := H
 have A140 := Aside0.mk A1400
 clear A1400
 by_cases c141 : t416 = true
 {
 subst c141
 have H1 : (laws_FnExactStartTyping.j2 kj69 t391 (t414 != t352) t392 t393 t394) = some r := by rw [if_pos rfl] at H; exact H
 clear H
 have H := H1
 clear H1
 have H' := Aside0.mk H
 clear H
 have hnb142 := NB415_332.out
 have hnc142 := NB332_415.out
 have hnb143 := NB415_353.out
 have hnc143 := NB353_415.out
 have hnb144 := NB415_363.out
 have hnc144 := NB363_415.out
 have hnb145 := NB415_374.out
 have hnc145 := NB374_415.out
 have hcz146_0 := c1_ BK415 0 (.slice none 0 0)
 have hcz146_1 := c1_ BK415 1 (.slice none 0 0)
 have hcz146_2 := c1_ BK415 2 (.slice none 0 0)
 have hfz146_0 := f1_ BK415 0
 have hfz146_1 := f1_ BK415 1
 have hfz146_2 := f1_ BK415 2
 have hnb147 := NB353_332.out
 have hnc147 := NB332_353.out
 have hnb148 := NB353_363.out
 have hnc148 := NB363_353.out
 have hnb149 := NB353_374.out
 have hnc149 := NB374_353.out
 have hcz150_0 := c1_ BK353 0 (.slice Ao24 t343.length co24)
 have hcz150_1 := c1_ BK353 1 (.slice Ao27 t346.length co27)
 have hcz150_2 := c1_ BK353 2 (.slice Ao28 t349.length co28)
 have hfz150_0 := f1_ BK353 0
 have hfz150_1 := f1_ BK353 1
 have hfz150_2 := f1_ BK353 2
 go_wp2_with (first | ((with_reducible refine gate_callee (f := 27) rfl ?_); refine goesL_ (some 91) rfl rfl Try.func27 s2_ rfl #[.agg #[.slice Ao132 t405.length co132, .slice Ao138 t408.length co138, .slice Ao139 t411.length co139], .agg #[.slice Ao24 t343.length co24, .slice Ao27 t346.length co27, .slice Ao28 t349.length co28]] rfl s3_ ?_; (with_reducible refine (laws_eqPresence.calls kj69 _ _ t405 _ _ t408 _ _ t411 _ _ t343 _ _ t346 _ _ t349 true _ ?side1 ?side2 ?side3 ?side4 ?side5 ?side6 ?side7 ?side8 ?side9 ?side10 ?side11 ?side12 A140.out).mono ?_); (case side1 => refine (Kd.R_reads' (e := 63) (base := w.heap.size) (ok := fun k_ => ((((((((some k_ ≠ (.slice Ao138 t408.length co138 : Value).ownBlock ∧ some k_ ≠ (.slice Ao24 t343.length co24 : Value).ownBlock) ∧ some k_ ≠ (.slice Ao27 t346.length co27 : Value).ownBlock) ∧ some k_ ≠ (.slice Ao32 t387.length co32 : Value).ownBlock) ∧ some k_ ≠ (.slice Ao36 t388.length co36 : Value).ownBlock) ∧ some k_ ≠ (.slice Ao40 t364.length co40 : Value).ownBlock) ∧ some k_ ≠ (.slice Ao45 t367.length co45 : Value).ownBlock) ∧ some k_ ≠ (.slice Ao127 t396.length co127 : Value).ownBlock) ∧ some k_ ≠ (.slice Ao128 t399.length co128 : Value).ownBlock)) (n := t405.length) (c := co132) ?_).2.2; exact (by (with_reducible repeat (first | apply Kd.R_alloc | apply Kd.R_drewN | apply Kd.R_drew)); exact (Kd.R_mono (Kd.R_far3 (g := gb415) (Kd.R_types HO407.out BK415.out (by decide)) (fun _ hk => hk.2)) (fun _ h_ => h_.1)))); (case side2 => exact (Kd.R_reads' HO407.out).2.1); (case side3 => refine (Kd.R_reads' (e := 63) (base := w.heap.size) (ok := fun k_ => ((((((((some k_ ≠ (.slice Ao132 t405.length co132 : Value).ownBlock ∧ some k_ ≠ (.slice Ao24 t343.length co24 : Value).ownBlock) ∧ some k_ ≠ (.slice Ao27 t346.length co27 : Value).ownBlock) ∧ some k_ ≠ (.slice Ao32 t387.length co32 : Value).ownBlock) ∧ some k_ ≠ (.slice Ao36 t388.length co36 : Value).ownBlock) ∧ some k_ ≠ (.slice Ao40 t364.length co40 : Value).ownBlock) ∧ some k_ ≠ (.slice Ao45 t367.length co45 : Value).ownBlock) ∧ some k_ ≠ (.slice Ao127 t396.length co127 : Value).ownBlock) ∧ some k_ ≠ (.slice Ao128 t399.length co128 : Value).ownBlock)) (n := t408.length) (c := co138) ?_).2.2; exact (by (with_reducible repeat (first | apply Kd.R_alloc | apply Kd.R_drewN | apply Kd.R_drew)); exact (Kd.R_mono (Kd.R_far3 (g := gb415) (Kd.R_types HO410.out BK415.out (by decide)) (fun _ hk => hk.2)) (fun _ h_ => h_.1)))); (case side4 => exact (Kd.R_reads' HO410.out).2.1); (case side5 => refine (Kd.R_reads' (e := 73) (base := w.heap.size) (ok := fun k_ => ((((True ∧ some k_ ≠ (.slice Ao28 t349.length co28 : Value).ownBlock) ∧ some k_ ≠ (.slice Ao37 t389.length co37 : Value).ownBlock) ∧ some k_ ≠ (.slice Ao46 t370.length co46 : Value).ownBlock) ∧ some k_ ≠ (.slice Ao129 t402.length co129 : Value).ownBlock)) (n := t411.length) (c := co139) ?_).2.2; exact (by (with_reducible repeat (first | apply Kd.R_alloc | apply Kd.R_drewN | apply Kd.R_drew)); exact (Kd.R_mono (Kd.R_far3 (g := gb415) (Kd.R_types HO413.out BK415.out (by decide)) (fun _ hk => hk.2)) (fun _ h_ => h_.1)))); (case side6 => exact (Kd.R_reads' HO413.out).2.1); (case side7 => refine (Kd.R_reads' (e := 63) (base := w.heap.size) (ok := fun k_ => (((((some k_ ≠ (.slice Ao27 t346.length co27 : Value).ownBlock ∧ (some k_ ≠ (.slice Ao32 t387.length co32 : Value).ownBlock ∧ (some k_ ≠ (.slice Ao36 t388.length co36 : Value).ownBlock ∧ (some k_ ≠ (.slice Ao40 t364.length co40 : Value).ownBlock ∧ some k_ ≠ (.slice Ao45 t367.length co45 : Value).ownBlock)))) ∧ some k_ ≠ (.slice Ao127 t396.length co127 : Value).ownBlock) ∧ some k_ ≠ (.slice Ao128 t399.length co128 : Value).ownBlock) ∧ some k_ ≠ (.slice Ao132 t405.length co132 : Value).ownBlock) ∧ some k_ ≠ (.slice Ao138 t408.length co138 : Value).ownBlock)) (n := t343.length) (c := co24) ?_).2.2; exact (by (with_reducible repeat (first | apply Kd.R_alloc | apply Kd.R_drewN | apply Kd.R_drew)); exact (Kd.R_mono (Kd.R_far3 (g := gb415) (Kd.R_types HO_354000.out BK415.out (by decide)) (fun _ hk => hk.2)) (fun _ h_ => h_.1)))); (case side8 => exact (Kd.R_reads' HO_354000.out).2.1); (case side9 => refine (Kd.R_reads' (e := 63) (base := w.heap.size) (ok := fun k_ => (((((some k_ ≠ (.slice Ao24 t343.length co24 : Value).ownBlock ∧ (some k_ ≠ (.slice Ao32 t387.length co32 : Value).ownBlock ∧ (some k_ ≠ (.slice Ao36 t388.length co36 : Value).ownBlock ∧ (some k_ ≠ (.slice Ao40 t364.length co40 : Value).ownBlock ∧ some k_ ≠ (.slice Ao45 t367.length co45 : Value).ownBlock)))) ∧ some k_ ≠ (.slice Ao127 t396.length co127 : Value).ownBlock) ∧ some k_ ≠ (.slice Ao128 t399.length co128 : Value).ownBlock) ∧ some k_ ≠ (.slice Ao132 t405.length co132 : Value).ownBlock) ∧ some k_ ≠ (.slice Ao138 t408.length co138 : Value).ownBlock)) (n := t346.length) (c := co27) ?_).2.2; exact (by (with_reducible repeat (first | apply Kd.R_alloc | apply Kd.R_drewN | apply Kd.R_drew)); exact (Kd.R_mono (Kd.R_far3 (g := gb415) (Kd.R_types HO_354001.out BK415.out (by decide)) (fun _ hk => hk.2)) (fun _ h_ => h_.1)))); (case side10 => exact (Kd.R_reads' HO_354001.out).2.1); (case side11 => refine (Kd.R_reads' (e := 73) (base := w.heap.size) (ok := fun k_ => (((some k_ ≠ (.slice Ao37 t389.length co37 : Value).ownBlock ∧ some k_ ≠ (.slice Ao46 t370.length co46 : Value).ownBlock) ∧ some k_ ≠ (.slice Ao129 t402.length co129 : Value).ownBlock) ∧ some k_ ≠ (.slice Ao139 t411.length co139 : Value).ownBlock)) (n := t349.length) (c := co28) ?_).2.2; exact (by (with_reducible repeat (first | apply Kd.R_alloc | apply Kd.R_drewN | apply Kd.R_drew)); exact (Kd.R_mono (Kd.R_far3 (g := gb415) (Kd.R_types HO_354002.out BK415.out (by decide)) (fun _ hk => hk.2)) (fun _ h_ => h_.1)))); (case side12 => exact (Kd.R_reads' HO_354002.out).2.1); rintro e w151 ⟨rfl, hb⟩; refine ⟨_, rfl, ?_⟩; replace HO_354000 := Aside0.mk (Kd.R_below (by (with_reducible repeat (first | apply Kd.R_alloc | apply Kd.R_drewN | apply Kd.R_drew)); exact (Kd.R_mono (Kd.R_far3 (g := gb415) (Kd.R_types HO_354000.out BK415.out (by decide)) (fun _ hk => hk.2)) (fun _ h_ => h_.1))) hb); replace HO_354001 := Aside0.mk (Kd.R_below (by (with_reducible repeat (first | apply Kd.R_alloc | apply Kd.R_drewN | apply Kd.R_drew)); exact (Kd.R_mono (Kd.R_far3 (g := gb415) (Kd.R_types HO_354001.out BK415.out (by decide)) (fun _ hk => hk.2)) (fun _ h_ => h_.1))) hb); replace HO_354002 := Aside0.mk (Kd.R_below (by (with_reducible repeat (first | apply Kd.R_alloc | apply Kd.R_drewN | apply Kd.R_drew)); exact (Kd.R_mono (Kd.R_far3 (g := gb415) (Kd.R_types HO_354002.out BK415.out (by decide)) (fun _ hk => hk.2)) (fun _ h_ => h_.1))) hb); replace HO_364000 := Aside0.mk (Kd.R_below (by (with_reducible repeat (first | apply Kd.R_alloc | apply Kd.R_drewN | apply Kd.R_drew)); exact (Kd.R_mono (Kd.R_far3 (g := gb415) (Kd.R_types HO_364000.out BK415.out (by decide)) (fun _ hk => hk.2)) (fun _ h_ => h_.1))) hb); replace HO_364001 := Aside0.mk (Kd.R_below (by (with_reducible repeat (first | apply Kd.R_alloc | apply Kd.R_drewN | apply Kd.R_drew)); exact (Kd.R_mono (Kd.R_far3 (g := gb415) (Kd.R_types HO_364001.out BK415.out (by decide)) (fun _ hk => hk.2)) (fun _ h_ => h_.1))) hb); replace HO_364002 := Aside0.mk (Kd.R_below (by (with_reducible repeat (first | apply Kd.R_alloc | apply Kd.R_drewN | apply Kd.R_drew)); exact (Kd.R_mono (Kd.R_far3 (g := gb415) (Kd.R_types HO_364002.out BK415.out (by decide)) (fun _ hk => hk.2)) (fun _ h_ => h_.1))) hb); replace HO_375000 := Aside0.mk (Kd.R_below (by (with_reducible repeat (first | apply Kd.R_alloc | apply Kd.R_drewN | apply Kd.R_drew)); exact (Kd.R_mono (Kd.R_far3 (g := gb415) (Kd.R_types HO_375000.out BK415.out (by decide)) (fun _ hk => hk.2)) (fun _ h_ => h_.1))) hb); replace HO_375001 := Aside0.mk (Kd.R_below (by (with_reducible repeat (first | apply Kd.R_alloc | apply Kd.R_drewN | apply Kd.R_drew)); exact (Kd.R_mono (Kd.R_far3 (g := gb415) (Kd.R_types HO_375001.out BK415.out (by decide)) (fun _ hk => hk.2)) (fun _ h_ => h_.1))) hb); replace HO_375002 := Aside0.mk (Kd.R_below (by (with_reducible repeat (first | apply Kd.R_alloc | apply Kd.R_drewN | apply Kd.R_drew)); exact (Kd.R_mono (Kd.R_far3 (g := gb415) (Kd.R_types HO_375002.out BK415.out (by decide)) (fun _ hk => hk.2)) (fun _ h_ => h_.1))) hb); replace HO398 := Aside0.mk (Kd.R_below (by (with_reducible repeat (first | apply Kd.R_alloc | apply Kd.R_drewN | apply Kd.R_drew)); exact (Kd.R_mono (Kd.R_far3 (g := gb415) (Kd.R_types HO398.out BK415.out (by decide)) (fun _ hk => hk.2)) (fun _ h_ => h_.1))) hb); replace HO401 := Aside0.mk (Kd.R_below (by (with_reducible repeat (first | apply Kd.R_alloc | apply Kd.R_drewN | apply Kd.R_drew)); exact (Kd.R_mono (Kd.R_far3 (g := gb415) (Kd.R_types HO401.out BK415.out (by decide)) (fun _ hk => hk.2)) (fun _ h_ => h_.1))) hb); replace HO404 := Aside0.mk (Kd.R_below (by (with_reducible repeat (first | apply Kd.R_alloc | apply Kd.R_drewN | apply Kd.R_drew)); exact (Kd.R_mono (Kd.R_far3 (g := gb415) (Kd.R_types HO404.out BK415.out (by decide)) (fun _ hk => hk.2)) (fun _ h_ => h_.1))) hb); replace HO407 := Aside0.mk (Kd.R_below (by (with_reducible repeat (first | apply Kd.R_alloc | apply Kd.R_drewN | apply Kd.R_drew)); exact (Kd.R_mono (Kd.R_far3 (g := gb415) (Kd.R_types HO407.out BK415.out (by decide)) (fun _ hk => hk.2)) (fun _ h_ => h_.1))) hb); replace HO410 := Aside0.mk (Kd.R_below (by (with_reducible repeat (first | apply Kd.R_alloc | apply Kd.R_drewN | apply Kd.R_drew)); exact (Kd.R_mono (Kd.R_far3 (g := gb415) (Kd.R_types HO410.out BK415.out (by decide)) (fun _ hk => hk.2)) (fun _ h_ => h_.1))) hb); replace HO413 := Aside0.mk (Kd.R_below (by (with_reducible repeat (first | apply Kd.R_alloc | apply Kd.R_drewN | apply Kd.R_drew)); exact (Kd.R_mono (Kd.R_far3 (g := gb415) (Kd.R_types HO413.out BK415.out (by decide)) (fun _ hk => hk.2)) (fun _ h_ => h_.1))) hb); replace BK332 := Aside0.mk (blk_below (g := gb332) (o := .cells #[.slice A0_0 l0_0.length c0_0, .slice A0_1 l0_1.length c0_1, .slice A0_2 l0_2.length c0_2] 45 (0, 0)) (by (with_reducible repeat (first | refine blk_drewN ?_ _ | refine blk_drew ?_ | refine blk_alloc ?_ _)); refine blk_far3 ?_ NB332_415.out; (with_reducible repeat (first | refine blk_drewN ?_ _ | refine blk_drew ?_ | refine blk_alloc ?_ _)); exact BK332.out) hb); replace BK353 := Aside0.mk (blk_below (g := gb353) (o := .cells #[.slice Ao24 t343.length co24, .slice Ao27 t346.length co27, .slice Ao28 t349.length co28] 27 (0, 0)) (by (with_reducible repeat (first | refine blk_drewN ?_ _ | refine blk_drew ?_ | refine blk_alloc ?_ _)); refine blk_far3 ?_ NB353_415.out; (with_reducible repeat (first | refine blk_drewN ?_ _ | refine blk_drew ?_ | refine blk_alloc ?_ _)); exact BK353.out) hb); replace BK363 := Aside0.mk (blk_below (g := gb363) (o := .cells #[.slice Ao32 t387.length co32, .slice Ao36 t388.length co36, .slice Ao37 t389.length co37] 27 (0, 0)) (by (with_reducible repeat (first | refine blk_drewN ?_ _ | refine blk_drew ?_ | refine blk_alloc ?_ _)); refine blk_far3 ?_ NB363_415.out; (with_reducible repeat (first | refine blk_drewN ?_ _ | refine blk_drew ?_ | refine blk_alloc ?_ _)); exact BK363.out) hb); replace BK374 := Aside0.mk (blk_below (g := gb374) (o := .cells #[.slice Ao40 t364.length co40, .slice Ao45 t367.length co45, .slice Ao46 t370.length co46] 27 (0, 0)) (by (with_reducible repeat (first | refine blk_drewN ?_ _ | refine blk_drew ?_ | refine blk_alloc ?_ _)); refine blk_far3 ?_ NB374_415.out; (with_reducible repeat (first | refine blk_drewN ?_ _ | refine blk_drew ?_ | refine blk_alloc ?_ _)); exact BK374.out) hb); replace BK415 := Aside0.mk (blk_below (g := gb415) (o := .cells #[.slice Ao132 t405.length co132, .slice Ao138 t408.length co138, .slice Ao139 t411.length co139] 27 (0, 0)) (by (with_reducible repeat (first | refine blk_drewN ?_ _ | refine blk_drew ?_ | refine blk_alloc ?_ _)); refine blk_put3 (cs := #[.slice none 0 0, .slice none 0 0, .slice none 0 0]) ?_ rfl; (with_reducible repeat (first | refine blk_drewN ?_ _ | refine blk_drew ?_ | refine blk_alloc ?_ _)); exact BK415.out) hb); replace HB := Aside0.mk (below_step (by repeat (first | (with_reducible first | exact HB.out | apply below_alloc | apply pw_below_drewN | apply below_drew1 | refine below_set ?_ GE415.out) | exact HB.out)) hb); (try clear hb); (try clear hb2); (try clear hk); (try clear hi)))
 go_meet
 case rel => exact ⟨_, ((t414 != t352)), s1_, H', ⟨by have := HJ12.out; have := HJ69.out; first | omega | exact Nat.le_refl _⟩, ⟨by (try simp only [hl364000_69]); (try simp only [hl364001_69]); (try simp only [hl364002_69]); (with_reducible repeat (first | apply Kd.R_alloc | apply Kd.R_drewN | apply Kd.R_drew)); exact Kd.R_mono HO_354000.out (fun _ hk => ⟨hk.1.1.1.1.1, ⟨hk.1.1.1.1.2.1, ⟨hk.1.1.1.1.2.2.1, ⟨hk.1.1.1.1.2.2.2.1, ⟨hk.1.1.1.1.2.2.2.2, ⟨hk.1.2, hk.2⟩⟩⟩⟩⟩⟩)⟩, ⟨by (try simp only [hl364000_69]); (try simp only [hl364001_69]); (try simp only [hl364002_69]); (with_reducible repeat (first | apply Kd.R_alloc | apply Kd.R_drewN | apply Kd.R_drew)); exact Kd.R_mono HO_354001.out (fun _ hk => ⟨hk.1.1.1.1.1, ⟨hk.1.1.1.1.2.1, ⟨hk.1.1.1.1.2.2.1, ⟨hk.1.1.1.1.2.2.2.1, ⟨hk.1.1.1.1.2.2.2.2, ⟨hk.1.2, hk.2⟩⟩⟩⟩⟩⟩)⟩, ⟨by (try simp only [hl364000_69]); (try simp only [hl364001_69]); (try simp only [hl364002_69]); (with_reducible repeat (first | apply Kd.R_alloc | apply Kd.R_drewN | apply Kd.R_drew)); exact Kd.R_mono HO_354002.out (fun _ hk => ⟨hk.1.1.1, ⟨hk.1.1.2, hk.2⟩⟩)⟩, ⟨by (try simp only [hl364000_69]); (try simp only [hl364001_69]); (try simp only [hl364002_69]); (with_reducible repeat (first | apply Kd.R_alloc | apply Kd.R_drewN | apply Kd.R_drew)); exact Kd.R_mono HO_364000.out (fun _ hk => ⟨hk.1.1.1.1.1, ⟨hk.1.1.1.1.2.1, ⟨hk.1.1.1.1.2.2.1, ⟨hk.1.1.1.1.2.2.2.1, ⟨hk.1.1.1.1.2.2.2.2, ⟨hk.1.2, hk.2⟩⟩⟩⟩⟩⟩)⟩, ⟨by (try simp only [hl364000_69]); (try simp only [hl364001_69]); (try simp only [hl364002_69]); (with_reducible repeat (first | apply Kd.R_alloc | apply Kd.R_drewN | apply Kd.R_drew)); exact Kd.R_mono HO_364001.out (fun _ hk => ⟨hk.1.1.1.1.1, ⟨hk.1.1.1.1.2.1, ⟨hk.1.1.1.1.2.2.1, ⟨hk.1.1.1.1.2.2.2.1, ⟨hk.1.1.1.1.2.2.2.2, ⟨hk.1.2, hk.2⟩⟩⟩⟩⟩⟩)⟩, ⟨by (try simp only [hl364000_69]); (try simp only [hl364001_69]); (try simp only [hl364002_69]); (with_reducible repeat (first | apply Kd.R_alloc | apply Kd.R_drewN | apply Kd.R_drew)); exact Kd.R_mono HO_364002.out (fun _ hk => ⟨hk.1.1.1, ⟨hk.1.1.2, hk.2⟩⟩)⟩, ⟨by (try simp only [hl364000_69]); (try simp only [hl364001_69]); (try simp only [hl364002_69]); (with_reducible repeat (first | apply Kd.R_alloc | apply Kd.R_drewN | apply Kd.R_drew)); exact Kd.R_mono HO_375000.out (fun _ hk => ⟨hk.1.1.1.1.1, ⟨hk.1.1.1.1.2.1, ⟨hk.1.1.1.1.2.2.1, ⟨hk.1.1.1.1.2.2.2.1, ⟨hk.1.1.1.1.2.2.2.2, ⟨hk.1.2, hk.2⟩⟩⟩⟩⟩⟩)⟩, ⟨by (try simp only [hl364000_69]); (try simp only [hl364001_69]); (try simp only [hl364002_69]); (with_reducible repeat (first | apply Kd.R_alloc | apply Kd.R_drewN | apply Kd.R_drew)); exact Kd.R_mono HO_375001.out (fun _ hk => ⟨hk.1.1.1.1.1, ⟨hk.1.1.1.1.2.1, ⟨hk.1.1.1.1.2.2.1, ⟨hk.1.1.1.1.2.2.2.1, ⟨hk.1.1.1.1.2.2.2.2, ⟨hk.1.2, hk.2⟩⟩⟩⟩⟩⟩)⟩, ⟨by (try simp only [hl364000_69]); (try simp only [hl364001_69]); (try simp only [hl364002_69]); (with_reducible repeat (first | apply Kd.R_alloc | apply Kd.R_drewN | apply Kd.R_drew)); exact Kd.R_mono HO_375002.out (fun _ hk => ⟨hk.1.1.1, ⟨hk.1.1.2, hk.2⟩⟩)⟩, ⟨by (try simp only [hl364000_69]); (try simp only [hl364001_69]); (try simp only [hl364002_69]); (with_reducible repeat (first | apply Kd.R_alloc | apply Kd.R_drewN | apply Kd.R_drew)); exact Kd.R_mono HO407.out (fun _ hk => ⟨hk.1.1.1.1.1.1.1.2, ⟨hk.1.1.1.1.1.1.2, ⟨hk.1.1.1.1.1.2, ⟨hk.1.1.1.1.2, ⟨hk.1.1.1.2, ⟨hk.1.1.2, hk.1.1.1.1.1.1.1.1⟩⟩⟩⟩⟩⟩)⟩, ⟨by (try simp only [hl364000_69]); (try simp only [hl364001_69]); (try simp only [hl364002_69]); (with_reducible repeat (first | apply Kd.R_alloc | apply Kd.R_drewN | apply Kd.R_drew)); exact Kd.R_mono HO410.out (fun _ hk => ⟨hk.1.1.1.1.1.1.1.2, ⟨hk.1.1.1.1.1.1.2, ⟨hk.1.1.1.1.1.2, ⟨hk.1.1.1.1.2, ⟨hk.1.1.1.2, ⟨hk.1.1.2, hk.1.1.1.1.1.1.1.1⟩⟩⟩⟩⟩⟩)⟩, ⟨by (try simp only [hl364000_69]); (try simp only [hl364001_69]); (try simp only [hl364002_69]); (with_reducible repeat (first | apply Kd.R_alloc | apply Kd.R_drewN | apply Kd.R_drew)); exact Kd.R_mono HO413.out (fun _ hk => ⟨hk.1.1.1.2, ⟨hk.1.1.2, hk.1.2⟩⟩)⟩, ⟨by (try simp only [hl364000_69]); (try simp only [hl364001_69]); (try simp only [hl364002_69]); (with_reducible repeat (first | refine blk_drewN ?_ _ | refine blk_drew ?_ | refine blk_alloc ?_ _)); exact BK332.out⟩, ⟨by (try simp only [hl364000_69]); (try simp only [hl364001_69]); (try simp only [hl364002_69]); (with_reducible repeat (first | refine blk_drewN ?_ _ | refine blk_drew ?_ | refine blk_alloc ?_ _)); exact BK353.out⟩, ⟨by (try simp only [hl364000_69]); (try simp only [hl364001_69]); (try simp only [hl364002_69]); (with_reducible repeat (first | refine blk_drewN ?_ _ | refine blk_drew ?_ | refine blk_alloc ?_ _)); exact BK363.out⟩, ⟨by (try simp only [hl364000_69]); (try simp only [hl364001_69]); (try simp only [hl364002_69]); (with_reducible repeat (first | refine blk_drewN ?_ _ | refine blk_drew ?_ | refine blk_alloc ?_ _)); exact BK374.out⟩, ⟨by (try simp only [hl364000_69]); (try simp only [hl364001_69]); (try simp only [hl364002_69]); (with_reducible repeat (first | refine blk_drewN ?_ _ | refine blk_drew ?_ | refine blk_alloc ?_ _)); exact BK415.out⟩, ⟨by repeat (first | (with_reducible first | exact HB.out | apply below_alloc | apply pw_below_drewN | apply below_drew1) | exact HB.out)⟩⟩}
 {
 replace c141 := Bool.eq_false_iff.mpr c141
 subst c141
 have H1 : (laws_FnExactStartTyping.j2 kj69 t391 true t392 t393 t394) = some r := by rw [if_neg (show ¬ (false = true) by decide)] at H; exact H
 clear H
 have H := H1
 clear H1
 have H' := Aside0.mk H
 clear H
 have hnb152 := NB415_332.out
 have hnc152 := NB332_415.out
 have hnb153 := NB415_353.out
 have hnc153 := NB353_415.out
 have hnb154 := NB415_363.out
 have hnc154 := NB363_415.out
 have hnb155 := NB415_374.out
 have hnc155 := NB374_415.out
 have hcz156_0 := c1_ BK415 0 (.slice none 0 0)
 have hcz156_1 := c1_ BK415 1 (.slice none 0 0)
 have hcz156_2 := c1_ BK415 2 (.slice none 0 0)
 have hfz156_0 := f1_ BK415 0
 have hfz156_1 := f1_ BK415 1
 have hfz156_2 := f1_ BK415 2
 have hnb157 := NB353_332.out
 have hnc157 := NB332_353.out
 have hnb158 := NB353_363.out
 have hnc158 := NB363_353.out
 have hnb159 := NB353_374.out
 have hnc159 := NB374_353.out
 have hcz160_0 := c1_ BK353 0 (.slice Ao24 t343.length co24)
 have hcz160_1 := c1_ BK353 1 (.slice Ao27 t346.length co27)
 have hcz160_2 := c1_ BK353 2 (.slice Ao28 t349.length co28)
 have hfz160_0 := f1_ BK353 0
 have hfz160_1 := f1_ BK353 1
 have hfz160_2 := f1_ BK353 2
 go_wp2_with (first | ((with_reducible refine gate_callee (f := 27) rfl ?_); refine goesL_ (some 91) rfl rfl Try.func27 s2_ rfl #[.agg #[.slice Ao132 t405.length co132, .slice Ao138 t408.length co138, .slice Ao139 t411.length co139], .agg #[.slice Ao24 t343.length co24, .slice Ao27 t346.length co27, .slice Ao28 t349.length co28]] rfl s3_ ?_; (with_reducible refine (laws_eqPresence.calls kj69 _ _ t405 _ _ t408 _ _ t411 _ _ t343 _ _ t346 _ _ t349 false _ ?side1 ?side2 ?side3 ?side4 ?side5 ?side6 ?side7 ?side8 ?side9 ?side10 ?side11 ?side12 A140.out).mono ?_); (case side1 => refine (Kd.R_reads' (e := 63) (base := w.heap.size) (ok := fun k_ => ((((((((some k_ ≠ (.slice Ao138 t408.length co138 : Value).ownBlock ∧ some k_ ≠ (.slice Ao24 t343.length co24 : Value).ownBlock) ∧ some k_ ≠ (.slice Ao27 t346.length co27 : Value).ownBlock) ∧ some k_ ≠ (.slice Ao32 t387.length co32 : Value).ownBlock) ∧ some k_ ≠ (.slice Ao36 t388.length co36 : Value).ownBlock) ∧ some k_ ≠ (.slice Ao40 t364.length co40 : Value).ownBlock) ∧ some k_ ≠ (.slice Ao45 t367.length co45 : Value).ownBlock) ∧ some k_ ≠ (.slice Ao127 t396.length co127 : Value).ownBlock) ∧ some k_ ≠ (.slice Ao128 t399.length co128 : Value).ownBlock)) (n := t405.length) (c := co132) ?_).2.2; exact (by (with_reducible repeat (first | apply Kd.R_alloc | apply Kd.R_drewN | apply Kd.R_drew)); exact (Kd.R_mono (Kd.R_far3 (g := gb415) (Kd.R_types HO407.out BK415.out (by decide)) (fun _ hk => hk.2)) (fun _ h_ => h_.1)))); (case side2 => exact (Kd.R_reads' HO407.out).2.1); (case side3 => refine (Kd.R_reads' (e := 63) (base := w.heap.size) (ok := fun k_ => ((((((((some k_ ≠ (.slice Ao132 t405.length co132 : Value).ownBlock ∧ some k_ ≠ (.slice Ao24 t343.length co24 : Value).ownBlock) ∧ some k_ ≠ (.slice Ao27 t346.length co27 : Value).ownBlock) ∧ some k_ ≠ (.slice Ao32 t387.length co32 : Value).ownBlock) ∧ some k_ ≠ (.slice Ao36 t388.length co36 : Value).ownBlock) ∧ some k_ ≠ (.slice Ao40 t364.length co40 : Value).ownBlock) ∧ some k_ ≠ (.slice Ao45 t367.length co45 : Value).ownBlock) ∧ some k_ ≠ (.slice Ao127 t396.length co127 : Value).ownBlock) ∧ some k_ ≠ (.slice Ao128 t399.length co128 : Value).ownBlock)) (n := t408.length) (c := co138) ?_).2.2; exact (by (with_reducible repeat (first | apply Kd.R_alloc | apply Kd.R_drewN | apply Kd.R_drew)); exact (Kd.R_mono (Kd.R_far3 (g := gb415) (Kd.R_types HO410.out BK415.out (by decide)) (fun _ hk => hk.2)) (fun _ h_ => h_.1)))); (case side4 => exact (Kd.R_reads' HO410.out).2.1); (case side5 => refine (Kd.R_reads' (e := 73) (base := w.heap.size) (ok := fun k_ => ((((True ∧ some k_ ≠ (.slice Ao28 t349.length co28 : Value).ownBlock) ∧ some k_ ≠ (.slice Ao37 t389.length co37 : Value).ownBlock) ∧ some k_ ≠ (.slice Ao46 t370.length co46 : Value).ownBlock) ∧ some k_ ≠ (.slice Ao129 t402.length co129 : Value).ownBlock)) (n := t411.length) (c := co139) ?_).2.2; exact (by (with_reducible repeat (first | apply Kd.R_alloc | apply Kd.R_drewN | apply Kd.R_drew)); exact (Kd.R_mono (Kd.R_far3 (g := gb415) (Kd.R_types HO413.out BK415.out (by decide)) (fun _ hk => hk.2)) (fun _ h_ => h_.1)))); (case side6 => exact (Kd.R_reads' HO413.out).2.1); (case side7 => refine (Kd.R_reads' (e := 63) (base := w.heap.size) (ok := fun k_ => (((((some k_ ≠ (.slice Ao27 t346.length co27 : Value).ownBlock ∧ (some k_ ≠ (.slice Ao32 t387.length co32 : Value).ownBlock ∧ (some k_ ≠ (.slice Ao36 t388.length co36 : Value).ownBlock ∧ (some k_ ≠ (.slice Ao40 t364.length co40 : Value).ownBlock ∧ some k_ ≠ (.slice Ao45 t367.length co45 : Value).ownBlock)))) ∧ some k_ ≠ (.slice Ao127 t396.length co127 : Value).ownBlock) ∧ some k_ ≠ (.slice Ao128 t399.length co128 : Value).ownBlock) ∧ some k_ ≠ (.slice Ao132 t405.length co132 : Value).ownBlock) ∧ some k_ ≠ (.slice Ao138 t408.length co138 : Value).ownBlock)) (n := t343.length) (c := co24) ?_).2.2; exact (by (with_reducible repeat (first | apply Kd.R_alloc | apply Kd.R_drewN | apply Kd.R_drew)); exact (Kd.R_mono (Kd.R_far3 (g := gb415) (Kd.R_types HO_354000.out BK415.out (by decide)) (fun _ hk => hk.2)) (fun _ h_ => h_.1)))); (case side8 => exact (Kd.R_reads' HO_354000.out).2.1); (case side9 => refine (Kd.R_reads' (e := 63) (base := w.heap.size) (ok := fun k_ => (((((some k_ ≠ (.slice Ao24 t343.length co24 : Value).ownBlock ∧ (some k_ ≠ (.slice Ao32 t387.length co32 : Value).ownBlock ∧ (some k_ ≠ (.slice Ao36 t388.length co36 : Value).ownBlock ∧ (some k_ ≠ (.slice Ao40 t364.length co40 : Value).ownBlock ∧ some k_ ≠ (.slice Ao45 t367.length co45 : Value).ownBlock)))) ∧ some k_ ≠ (.slice Ao127 t396.length co127 : Value).ownBlock) ∧ some k_ ≠ (.slice Ao128 t399.length co128 : Value).ownBlock) ∧ some k_ ≠ (.slice Ao132 t405.length co132 : Value).ownBlock) ∧ some k_ ≠ (.slice Ao138 t408.length co138 : Value).ownBlock)) (n := t346.length) (c := co27) ?_).2.2; exact (by (with_reducible repeat (first | apply Kd.R_alloc | apply Kd.R_drewN | apply Kd.R_drew)); exact (Kd.R_mono (Kd.R_far3 (g := gb415) (Kd.R_types HO_354001.out BK415.out (by decide)) (fun _ hk => hk.2)) (fun _ h_ => h_.1)))); (case side10 => exact (Kd.R_reads' HO_354001.out).2.1); (case side11 => refine (Kd.R_reads' (e := 73) (base := w.heap.size) (ok := fun k_ => (((some k_ ≠ (.slice Ao37 t389.length co37 : Value).ownBlock ∧ some k_ ≠ (.slice Ao46 t370.length co46 : Value).ownBlock) ∧ some k_ ≠ (.slice Ao129 t402.length co129 : Value).ownBlock) ∧ some k_ ≠ (.slice Ao139 t411.length co139 : Value).ownBlock)) (n := t349.length) (c := co28) ?_).2.2; exact (by (with_reducible repeat (first | apply Kd.R_alloc | apply Kd.R_drewN | apply Kd.R_drew)); exact (Kd.R_mono (Kd.R_far3 (g := gb415) (Kd.R_types HO_354002.out BK415.out (by decide)) (fun _ hk => hk.2)) (fun _ h_ => h_.1)))); (case side12 => exact (Kd.R_reads' HO_354002.out).2.1); rintro e w161 ⟨rfl, hb⟩; refine ⟨_, rfl, ?_⟩; replace HO_354000 := Aside0.mk (Kd.R_below (by (with_reducible repeat (first | apply Kd.R_alloc | apply Kd.R_drewN | apply Kd.R_drew)); exact (Kd.R_mono (Kd.R_far3 (g := gb415) (Kd.R_types HO_354000.out BK415.out (by decide)) (fun _ hk => hk.2)) (fun _ h_ => h_.1))) hb); replace HO_354001 := Aside0.mk (Kd.R_below (by (with_reducible repeat (first | apply Kd.R_alloc | apply Kd.R_drewN | apply Kd.R_drew)); exact (Kd.R_mono (Kd.R_far3 (g := gb415) (Kd.R_types HO_354001.out BK415.out (by decide)) (fun _ hk => hk.2)) (fun _ h_ => h_.1))) hb); replace HO_354002 := Aside0.mk (Kd.R_below (by (with_reducible repeat (first | apply Kd.R_alloc | apply Kd.R_drewN | apply Kd.R_drew)); exact (Kd.R_mono (Kd.R_far3 (g := gb415) (Kd.R_types HO_354002.out BK415.out (by decide)) (fun _ hk => hk.2)) (fun _ h_ => h_.1))) hb); replace HO_364000 := Aside0.mk (Kd.R_below (by (with_reducible repeat (first | apply Kd.R_alloc | apply Kd.R_drewN | apply Kd.R_drew)); exact (Kd.R_mono (Kd.R_far3 (g := gb415) (Kd.R_types HO_364000.out BK415.out (by decide)) (fun _ hk => hk.2)) (fun _ h_ => h_.1))) hb); replace HO_364001 := Aside0.mk (Kd.R_below (by (with_reducible repeat (first | apply Kd.R_alloc | apply Kd.R_drewN | apply Kd.R_drew)); exact (Kd.R_mono (Kd.R_far3 (g := gb415) (Kd.R_types HO_364001.out BK415.out (by decide)) (fun _ hk => hk.2)) (fun _ h_ => h_.1))) hb); replace HO_364002 := Aside0.mk (Kd.R_below (by (with_reducible repeat (first | apply Kd.R_alloc | apply Kd.R_drewN | apply Kd.R_drew)); exact (Kd.R_mono (Kd.R_far3 (g := gb415) (Kd.R_types HO_364002.out BK415.out (by decide)) (fun _ hk => hk.2)) (fun _ h_ => h_.1))) hb); replace HO_375000 := Aside0.mk (Kd.R_below (by (with_reducible repeat (first | apply Kd.R_alloc | apply Kd.R_drewN | apply Kd.R_drew)); exact (Kd.R_mono (Kd.R_far3 (g := gb415) (Kd.R_types HO_375000.out BK415.out (by decide)) (fun _ hk => hk.2)) (fun _ h_ => h_.1))) hb); replace HO_375001 := Aside0.mk (Kd.R_below (by (with_reducible repeat (first | apply Kd.R_alloc | apply Kd.R_drewN | apply Kd.R_drew)); exact (Kd.R_mono (Kd.R_far3 (g := gb415) (Kd.R_types HO_375001.out BK415.out (by decide)) (fun _ hk => hk.2)) (fun _ h_ => h_.1))) hb); replace HO_375002 := Aside0.mk (Kd.R_below (by (with_reducible repeat (first | apply Kd.R_alloc | apply Kd.R_drewN | apply Kd.R_drew)); exact (Kd.R_mono (Kd.R_far3 (g := gb415) (Kd.R_types HO_375002.out BK415.out (by decide)) (fun _ hk => hk.2)) (fun _ h_ => h_.1))) hb); replace HO398 := Aside0.mk (Kd.R_below (by (with_reducible repeat (first | apply Kd.R_alloc | apply Kd.R_drewN | apply Kd.R_drew)); exact (Kd.R_mono (Kd.R_far3 (g := gb415) (Kd.R_types HO398.out BK415.out (by decide)) (fun _ hk => hk.2)) (fun _ h_ => h_.1))) hb); replace HO401 := Aside0.mk (Kd.R_below (by (with_reducible repeat (first | apply Kd.R_alloc | apply Kd.R_drewN | apply Kd.R_drew)); exact (Kd.R_mono (Kd.R_far3 (g := gb415) (Kd.R_types HO401.out BK415.out (by decide)) (fun _ hk => hk.2)) (fun _ h_ => h_.1))) hb); replace HO404 := Aside0.mk (Kd.R_below (by (with_reducible repeat (first | apply Kd.R_alloc | apply Kd.R_drewN | apply Kd.R_drew)); exact (Kd.R_mono (Kd.R_far3 (g := gb415) (Kd.R_types HO404.out BK415.out (by decide)) (fun _ hk => hk.2)) (fun _ h_ => h_.1))) hb); replace HO407 := Aside0.mk (Kd.R_below (by (with_reducible repeat (first | apply Kd.R_alloc | apply Kd.R_drewN | apply Kd.R_drew)); exact (Kd.R_mono (Kd.R_far3 (g := gb415) (Kd.R_types HO407.out BK415.out (by decide)) (fun _ hk => hk.2)) (fun _ h_ => h_.1))) hb); replace HO410 := Aside0.mk (Kd.R_below (by (with_reducible repeat (first | apply Kd.R_alloc | apply Kd.R_drewN | apply Kd.R_drew)); exact (Kd.R_mono (Kd.R_far3 (g := gb415) (Kd.R_types HO410.out BK415.out (by decide)) (fun _ hk => hk.2)) (fun _ h_ => h_.1))) hb); replace HO413 := Aside0.mk (Kd.R_below (by (with_reducible repeat (first | apply Kd.R_alloc | apply Kd.R_drewN | apply Kd.R_drew)); exact (Kd.R_mono (Kd.R_far3 (g := gb415) (Kd.R_types HO413.out BK415.out (by decide)) (fun _ hk => hk.2)) (fun _ h_ => h_.1))) hb); replace BK332 := Aside0.mk (blk_below (g := gb332) (o := .cells #[.slice A0_0 l0_0.length c0_0, .slice A0_1 l0_1.length c0_1, .slice A0_2 l0_2.length c0_2] 45 (0, 0)) (by (with_reducible repeat (first | refine blk_drewN ?_ _ | refine blk_drew ?_ | refine blk_alloc ?_ _)); refine blk_far3 ?_ NB332_415.out; (with_reducible repeat (first | refine blk_drewN ?_ _ | refine blk_drew ?_ | refine blk_alloc ?_ _)); exact BK332.out) hb); replace BK353 := Aside0.mk (blk_below (g := gb353) (o := .cells #[.slice Ao24 t343.length co24, .slice Ao27 t346.length co27, .slice Ao28 t349.length co28] 27 (0, 0)) (by (with_reducible repeat (first | refine blk_drewN ?_ _ | refine blk_drew ?_ | refine blk_alloc ?_ _)); refine blk_far3 ?_ NB353_415.out; (with_reducible repeat (first | refine blk_drewN ?_ _ | refine blk_drew ?_ | refine blk_alloc ?_ _)); exact BK353.out) hb); replace BK363 := Aside0.mk (blk_below (g := gb363) (o := .cells #[.slice Ao32 t387.length co32, .slice Ao36 t388.length co36, .slice Ao37 t389.length co37] 27 (0, 0)) (by (with_reducible repeat (first | refine blk_drewN ?_ _ | refine blk_drew ?_ | refine blk_alloc ?_ _)); refine blk_far3 ?_ NB363_415.out; (with_reducible repeat (first | refine blk_drewN ?_ _ | refine blk_drew ?_ | refine blk_alloc ?_ _)); exact BK363.out) hb); replace BK374 := Aside0.mk (blk_below (g := gb374) (o := .cells #[.slice Ao40 t364.length co40, .slice Ao45 t367.length co45, .slice Ao46 t370.length co46] 27 (0, 0)) (by (with_reducible repeat (first | refine blk_drewN ?_ _ | refine blk_drew ?_ | refine blk_alloc ?_ _)); refine blk_far3 ?_ NB374_415.out; (with_reducible repeat (first | refine blk_drewN ?_ _ | refine blk_drew ?_ | refine blk_alloc ?_ _)); exact BK374.out) hb); replace BK415 := Aside0.mk (blk_below (g := gb415) (o := .cells #[.slice Ao132 t405.length co132, .slice Ao138 t408.length co138, .slice Ao139 t411.length co139] 27 (0, 0)) (by (with_reducible repeat (first | refine blk_drewN ?_ _ | refine blk_drew ?_ | refine blk_alloc ?_ _)); refine blk_put3 (cs := #[.slice none 0 0, .slice none 0 0, .slice none 0 0]) ?_ rfl; (with_reducible repeat (first | refine blk_drewN ?_ _ | refine blk_drew ?_ | refine blk_alloc ?_ _)); exact BK415.out) hb); replace HB := Aside0.mk (below_step (by repeat (first | (with_reducible first | exact HB.out | apply below_alloc | apply pw_below_drewN | apply below_drew1 | refine below_set ?_ GE415.out) | exact HB.out)) hb); (try clear hb); (try clear hb2); (try clear hk); (try clear hi)))
 go_meet
 case rel => exact ⟨_, (true), s1_, H', ⟨by have := HJ12.out; have := HJ69.out; first | omega | exact Nat.le_refl _⟩, ⟨by (try simp only [hl364000_69]); (try simp only [hl364001_69]); (try simp only [hl364002_69]); (with_reducible repeat (first | apply Kd.R_alloc | apply Kd.R_drewN | apply Kd.R_drew)); exact Kd.R_mono HO_354000.out (fun _ hk => ⟨hk.1.1.1.1.1, ⟨hk.1.1.1.1.2.1, ⟨hk.1.1.1.1.2.2.1, ⟨hk.1.1.1.1.2.2.2.1, ⟨hk.1.1.1.1.2.2.2.2, ⟨hk.1.2, hk.2⟩⟩⟩⟩⟩⟩)⟩, ⟨by (try simp only [hl364000_69]); (try simp only [hl364001_69]); (try simp only [hl364002_69]); (with_reducible repeat (first | apply Kd.R_alloc | apply Kd.R_drewN | apply Kd.R_drew)); exact Kd.R_mono HO_354001.out (fun _ hk => ⟨hk.1.1.1.1.1, ⟨hk.1.1.1.1.2.1, ⟨hk.1.1.1.1.2.2.1, ⟨hk.1.1.1.1.2.2.2.1, ⟨hk.1.1.1.1.2.2.2.2, ⟨hk.1.2, hk.2⟩⟩⟩⟩⟩⟩)⟩, ⟨by (try simp only [hl364000_69]); (try simp only [hl364001_69]); (try simp only [hl364002_69]); (with_reducible repeat (first | apply Kd.R_alloc | apply Kd.R_drewN | apply Kd.R_drew)); exact Kd.R_mono HO_354002.out (fun _ hk => ⟨hk.1.1.1, ⟨hk.1.1.2, hk.2⟩⟩)⟩, ⟨by (try simp only [hl364000_69]); (try simp only [hl364001_69]); (try simp only [hl364002_69]); (with_reducible repeat (first | apply Kd.R_alloc | apply Kd.R_drewN | apply Kd.R_drew)); exact Kd.R_mono HO_364000.out (fun _ hk => ⟨hk.1.1.1.1.1, ⟨hk.1.1.1.1.2.1, ⟨hk.1.1.1.1.2.2.1, ⟨hk.1.1.1.1.2.2.2.1, ⟨hk.1.1.1.1.2.2.2.2, ⟨hk.1.2, hk.2⟩⟩⟩⟩⟩⟩)⟩, ⟨by (try simp only [hl364000_69]); (try simp only [hl364001_69]); (try simp only [hl364002_69]); (with_reducible repeat (first | apply Kd.R_alloc | apply Kd.R_drewN | apply Kd.R_drew)); exact Kd.R_mono HO_364001.out (fun _ hk => ⟨hk.1.1.1.1.1, ⟨hk.1.1.1.1.2.1, ⟨hk.1.1.1.1.2.2.1, ⟨hk.1.1.1.1.2.2.2.1, ⟨hk.1.1.1.1.2.2.2.2, ⟨hk.1.2, hk.2⟩⟩⟩⟩⟩⟩)⟩, ⟨by (try simp only [hl364000_69]); (try simp only [hl364001_69]); (try simp only [hl364002_69]); (with_reducible repeat (first | apply Kd.R_alloc | apply Kd.R_drewN | apply Kd.R_drew)); exact Kd.R_mono HO_364002.out (fun _ hk => ⟨hk.1.1.1, ⟨hk.1.1.2, hk.2⟩⟩)⟩, ⟨by (try simp only [hl364000_69]); (try simp only [hl364001_69]); (try simp only [hl364002_69]); (with_reducible repeat (first | apply Kd.R_alloc | apply Kd.R_drewN | apply Kd.R_drew)); exact Kd.R_mono HO_375000.out (fun _ hk => ⟨hk.1.1.1.1.1, ⟨hk.1.1.1.1.2.1, ⟨hk.1.1.1.1.2.2.1, ⟨hk.1.1.1.1.2.2.2.1, ⟨hk.1.1.1.1.2.2.2.2, ⟨hk.1.2, hk.2⟩⟩⟩⟩⟩⟩)⟩, ⟨by (try simp only [hl364000_69]); (try simp only [hl364001_69]); (try simp only [hl364002_69]); (with_reducible repeat (first | apply Kd.R_alloc | apply Kd.R_drewN | apply Kd.R_drew)); exact Kd.R_mono HO_375001.out (fun _ hk => ⟨hk.1.1.1.1.1, ⟨hk.1.1.1.1.2.1, ⟨hk.1.1.1.1.2.2.1, ⟨hk.1.1.1.1.2.2.2.1, ⟨hk.1.1.1.1.2.2.2.2, ⟨hk.1.2, hk.2⟩⟩⟩⟩⟩⟩)⟩, ⟨by (try simp only [hl364000_69]); (try simp only [hl364001_69]); (try simp only [hl364002_69]); (with_reducible repeat (first | apply Kd.R_alloc | apply Kd.R_drewN | apply Kd.R_drew)); exact Kd.R_mono HO_375002.out (fun _ hk => ⟨hk.1.1.1, ⟨hk.1.1.2, hk.2⟩⟩)⟩, ⟨by (try simp only [hl364000_69]); (try simp only [hl364001_69]); (try simp only [hl364002_69]); (with_reducible repeat (first | apply Kd.R_alloc | apply Kd.R_drewN | apply Kd.R_drew)); exact Kd.R_mono HO407.out (fun _ hk => ⟨hk.1.1.1.1.1.1.1.2, ⟨hk.1.1.1.1.1.1.2, ⟨hk.1.1.1.1.1.2, ⟨hk.1.1.1.1.2, ⟨hk.1.1.1.2, ⟨hk.1.1.2, hk.1.1.1.1.1.1.1.1⟩⟩⟩⟩⟩⟩)⟩, ⟨by (try simp only [hl364000_69]); (try simp only [hl364001_69]); (try simp only [hl364002_69]); (with_reducible repeat (first | apply Kd.R_alloc | apply Kd.R_drewN | apply Kd.R_drew)); exact Kd.R_mono HO410.out (fun _ hk => ⟨hk.1.1.1.1.1.1.1.2, ⟨hk.1.1.1.1.1.1.2, ⟨hk.1.1.1.1.1.2, ⟨hk.1.1.1.1.2, ⟨hk.1.1.1.2, ⟨hk.1.1.2, hk.1.1.1.1.1.1.1.1⟩⟩⟩⟩⟩⟩)⟩, ⟨by (try simp only [hl364000_69]); (try simp only [hl364001_69]); (try simp only [hl364002_69]); (with_reducible repeat (first | apply Kd.R_alloc | apply Kd.R_drewN | apply Kd.R_drew)); exact Kd.R_mono HO413.out (fun _ hk => ⟨hk.1.1.1.2, ⟨hk.1.1.2, hk.1.2⟩⟩)⟩, ⟨by (try simp only [hl364000_69]); (try simp only [hl364001_69]); (try simp only [hl364002_69]); (with_reducible repeat (first | refine blk_drewN ?_ _ | refine blk_drew ?_ | refine blk_alloc ?_ _)); exact BK332.out⟩, ⟨by (try simp only [hl364000_69]); (try simp only [hl364001_69]); (try simp only [hl364002_69]); (with_reducible repeat (first | refine blk_drewN ?_ _ | refine blk_drew ?_ | refine blk_alloc ?_ _)); exact BK353.out⟩, ⟨by (try simp only [hl364000_69]); (try simp only [hl364001_69]); (try simp only [hl364002_69]); (with_reducible repeat (first | refine blk_drewN ?_ _ | refine blk_drew ?_ | refine blk_alloc ?_ _)); exact BK363.out⟩, ⟨by (try simp only [hl364000_69]); (try simp only [hl364001_69]); (try simp only [hl364002_69]); (with_reducible repeat (first | refine blk_drewN ?_ _ | refine blk_drew ?_ | refine blk_alloc ?_ _)); exact BK374.out⟩, ⟨by (try simp only [hl364000_69]); (try simp only [hl364001_69]); (try simp only [hl364002_69]); (with_reducible repeat (first | refine blk_drewN ?_ _ | refine blk_drew ?_ | refine blk_alloc ?_ _)); exact BK415.out⟩, ⟨by repeat (first | (with_reducible first | exact HB.out | apply below_alloc | apply pw_below_drewN | apply below_drew1) | exact HB.out)⟩⟩}}
 case rest =>
  skip
  {
 clear HC115
 try clear c1
 try clear c2
 try clear p2
 try clear c3
 try clear c4
 try clear c5
 try clear c5b0
 try clear c6
 try clear c7
 try clear c8
 try clear c9
 try clear c10
 try clear c11
 try clear c12
 try clear c13
 try clear c14
 try clear c15
 try clear c16
 try clear c24
 try clear c25
 try clear c26
 try clear c27
 try clear c28
 try clear c29
 try clear c33
 try clear c34
 try clear c35
 try clear c41
 try clear c42
 try clear c43
 try clear c48
 try clear c49
 try clear c50
 try clear c51
 try clear c53
 try clear c54
 try clear c57
 try clear c58
 try clear c59
 try clear c61
 try clear c62
 try clear c65
 try clear c68
 try clear c77
 try clear c78
 try clear c79
 try clear c82
 try clear c82b0
 try clear c84
 try clear c85
 try clear c86
 try clear c87
 try clear c89
 try clear c90
 try clear c93
 try clear c94
 try clear c95
 try clear c97
 try clear c98
 try clear c101
 try clear c104
 try clear c104b0
 try clear c105
 try clear c106
 try clear c107
 try clear c112
 try clear c112b0
 try clear c112b1
 try clear c116
 try clear c117
 try clear c118
 try clear c123
 try clear c124
 try clear c133
 try clear c134
 try clear c135
 try clear c136
 try clear c141
 try clear c142
 try clear c143
 try clear c144
 try clear c145
 try clear c147
 try clear c148
 try clear c149
 try clear c152
 try clear c153
 try clear c154
 try clear c155
 try clear c157
 try clear c158
 try clear c159
 try clear hcz108_0
 try clear hcz108_1
 try clear hcz108_2
 try clear hcz110_0
 try clear hcz110_1
 try clear hcz110_2
 try clear hcz119_0
 try clear hcz119_1
 try clear hcz119_2
 try clear hcz121_0
 try clear hcz121_1
 try clear hcz121_2
 try clear hcz125_0
 try clear hcz125_1
 try clear hcz125_2
 try clear hcz137_0
 try clear hcz137_1
 try clear hcz137_2
 try clear hcz146_0
 try clear hcz146_1
 try clear hcz146_2
 try clear hcz150_0
 try clear hcz150_1
 try clear hcz150_2
 try clear hcz156_0
 try clear hcz156_1
 try clear hcz156_2
 try clear hcz15_0
 try clear hcz15_1
 try clear hcz15_2
 try clear hcz160_0
 try clear hcz160_1
 try clear hcz160_2
 try clear hcz17_0
 try clear hcz17_1
 try clear hcz17_2
 try clear hcz26_0
 try clear hcz26_1
 try clear hcz26_2
 try clear hcz29_0
 try clear hcz29_1
 try clear hcz29_2
 try clear hcz35_0
 try clear hcz35_1
 try clear hcz35_2
 try clear hcz44_0
 try clear hcz44_1
 try clear hcz44_2
 try clear hcz52_0
 try clear hcz52_1
 try clear hcz52_2
 try clear hcz55_0
 try clear hcz55_1
 try clear hcz55_2
 try clear hcz60_0
 try clear hcz60_1
 try clear hcz60_2
 try clear hcz63_0
 try clear hcz63_1
 try clear hcz63_2
 try clear hcz7_0
 try clear hcz7_1
 try clear hcz7_2
 try clear hcz80_0
 try clear hcz80_1
 try clear hcz80_2
 try clear hcz88_0
 try clear hcz88_1
 try clear hcz88_2
 try clear hcz91_0
 try clear hcz91_1
 try clear hcz91_2
 try clear hcz96_0
 try clear hcz96_1
 try clear hcz96_2
 try clear hcz99_0
 try clear hcz99_1
 try clear hcz99_2
 try clear hfz108_0
 try clear hfz108_1
 try clear hfz108_2
 try clear hfz110_0
 try clear hfz110_1
 try clear hfz110_2
 try clear hfz119_0
 try clear hfz119_1
 try clear hfz119_2
 try clear hfz121_0
 try clear hfz121_1
 try clear hfz121_2
 try clear hfz125_0
 try clear hfz125_1
 try clear hfz125_2
 try clear hfz137_0
 try clear hfz137_1
 try clear hfz137_2
 try clear hfz146_0
 try clear hfz146_1
 try clear hfz146_2
 try clear hfz150_0
 try clear hfz150_1
 try clear hfz150_2
 try clear hfz156_0
 try clear hfz156_1
 try clear hfz156_2
 try clear hfz15_0
 try clear hfz15_1
 try clear hfz15_2
 try clear hfz160_0
 try clear hfz160_1
 try clear hfz160_2
 try clear hfz17_0
 try clear hfz17_1
 try clear hfz17_2
 try clear hfz26_0
 try clear hfz26_1
 try clear hfz26_2
 try clear hfz29_0
 try clear hfz29_1
 try clear hfz29_2
 try clear hfz35_0
 try clear hfz35_1
 try clear hfz35_2
 try clear hfz44_0
 try clear hfz44_1
 try clear hfz44_2
 try clear hfz52_0
 try clear hfz52_1
 try clear hfz52_2
 try clear hfz55_0
 try clear hfz55_1
 try clear hfz55_2
 try clear hfz60_0
 try clear hfz60_1
 try clear hfz60_2
 try clear hfz63_0
 try clear hfz63_1
 try clear hfz63_2
 try clear hfz7_0
 try clear hfz7_1
 try clear hfz7_2
 try clear hfz80_0
 try clear hfz80_1
 try clear hfz80_2
 try clear hfz88_0
 try clear hfz88_1
 try clear hfz88_2
 try clear hfz91_0
 try clear hfz91_1
 try clear hfz91_2
 try clear hfz96_0
 try clear hfz96_1
 try clear hfz96_2
 try clear hfz99_0
 try clear hfz99_1
 try clear hfz99_2
 try clear p2
 obtain ⟨kq, x97_114, rfl, HA, HJ114, HO_354000, HO_354001, HO_354002, HO_364000, HO_364001, HO_364002, HO_375000, HO_375001, HO_375002, HO_416000, HO_416001, HO_416002, BK332, BK353, BK363, BK374, BK415, HB⟩ := hcut
 have hl375000_114 := (Kd.R_reads' HO_375000.out).1
 rw [hl375000_114] at HO_375000
 (try simp only [hl375000_114])
 (try simp only [hl375000_114] at BK332)
 (try simp only [hl375000_114] at BK353)
 (try simp only [hl375000_114] at BK363)
 (try simp only [hl375000_114] at BK374)
 (try simp only [hl375000_114] at BK415)
 (try simp only [hl375000_114] at HO_354000)
 (try simp only [hl375000_114] at HO_354001)
 (try simp only [hl375000_114] at HO_354002)
 (try simp only [hl375000_114] at HO_364000)
 (try simp only [hl375000_114] at HO_364001)
 (try simp only [hl375000_114] at HO_364002)
 (try simp only [hl375000_114] at HO_375001)
 (try simp only [hl375000_114] at HO_375002)
 (try simp only [hl375000_114] at HO_416000)
 (try simp only [hl375000_114] at HO_416001)
 (try simp only [hl375000_114] at HO_416002)
 have hl375001_114 := (Kd.R_reads' HO_375001.out).1
 rw [hl375001_114] at HO_375001
 (try simp only [hl375001_114])
 (try simp only [hl375001_114] at BK332)
 (try simp only [hl375001_114] at BK353)
 (try simp only [hl375001_114] at BK363)
 (try simp only [hl375001_114] at BK374)
 (try simp only [hl375001_114] at BK415)
 (try simp only [hl375001_114] at HO_354000)
 (try simp only [hl375001_114] at HO_354001)
 (try simp only [hl375001_114] at HO_354002)
 (try simp only [hl375001_114] at HO_364000)
 (try simp only [hl375001_114] at HO_364001)
 (try simp only [hl375001_114] at HO_364002)
 (try simp only [hl375001_114] at HO_375000)
 (try simp only [hl375001_114] at HO_375002)
 (try simp only [hl375001_114] at HO_416000)
 (try simp only [hl375001_114] at HO_416001)
 (try simp only [hl375001_114] at HO_416002)
 have hl375002_114 := (Kd.R_reads' HO_375002.out).1
 rw [hl375002_114] at HO_375002
 (try simp only [hl375002_114])
 (try simp only [hl375002_114] at BK332)
 (try simp only [hl375002_114] at BK353)
 (try simp only [hl375002_114] at BK363)
 (try simp only [hl375002_114] at BK374)
 (try simp only [hl375002_114] at BK415)
 (try simp only [hl375002_114] at HO_354000)
 (try simp only [hl375002_114] at HO_354001)
 (try simp only [hl375002_114] at HO_354002)
 (try simp only [hl375002_114] at HO_364000)
 (try simp only [hl375002_114] at HO_364001)
 (try simp only [hl375002_114] at HO_364002)
 (try simp only [hl375002_114] at HO_375000)
 (try simp only [hl375002_114] at HO_375001)
 (try simp only [hl375002_114] at HO_416000)
 (try simp only [hl375002_114] at HO_416001)
 (try simp only [hl375002_114] at HO_416002)
 cases kq with
 | zero => exact absurd HA.out (by simp [laws_FnExactStartTyping.j2])
 | succ kj114 =>
  skip
  {
 have H := HA.out
 clear HA
 simp only [laws_FnExactStartTyping.j2] at H
 by_cases c162 : x97_114 = true
 {
 subst c162
 have H1 : (some false) = some r := by rw [if_pos rfl] at H; exact H
 clear H
 have H := H1
 clear H1
 obtain rfl := Option.some.inj H
 go_wp2
 go_ret
 exact ⟨by first | rfl | (simp [errW_none, errW_some] <;> rfl) | (simp [*, errW_none, errW_some] <;> rfl), by repeat (first | (with_reducible first | exact HB.out | apply below_alloc | apply pw_below_drewN | apply below_drew1) | exact HB.out)⟩}
 {
 replace c162 := Bool.eq_false_iff.mpr c162
 subst c162
 have H1 : ((laws_heldPresence.f kj114 t392 t393 t394 1).bind fun t417 => (if t417 < 0 then (some false) else (if t417 = t391 then (some true) else (some false)))) = some r := by rw [if_neg (show ¬ (false = true) by decide)] at H; exact H
 clear H
 have H := H1
 clear H1
 replace H := Option.bind_eq_some_iff.mp H
 obtain ⟨t417, A1630, H⟩ := H
 replace H : (if t417 < 0 then (some false) else (if t417 = t391 then (some true) else (some false))) = some r := H
 have A163 := Aside0.mk A1630
 clear A1630
 by_cases c164 : t417 < 0
 {
 rw [if_pos c164] at H
 have c164b0 : decide (t417 < 0) = true := decide_eq_true c164
 clear c164
 obtain rfl := Option.some.inj H
 have hnb165 := NB374_332.out
 have hnc165 := NB332_374.out
 have hnb166 := NB374_353.out
 have hnc166 := NB353_374.out
 have hnb167 := NB374_363.out
 have hnc167 := NB363_374.out
 have hnb168 := NB374_415.out
 have hnc168 := NB415_374.out
 have hcz169_0 := c1_ BK374 0 (.slice Ao40 t392.length co40)
 have hcz169_1 := c1_ BK374 1 (.slice Ao45 t393.length co45)
 have hcz169_2 := c1_ BK374 2 (.slice Ao46 t394.length co46)
 have hfz169_0 := f1_ BK374 0
 have hfz169_1 := f1_ BK374 1
 have hfz169_2 := f1_ BK374 2
 go_wp2_with (first | ((with_reducible refine gate_callee (f := 29) rfl ?_); refine goesL_ (some 100) rfl rfl Try.func29 s2_ rfl #[.agg #[.slice Ao40 t392.length co40, .slice Ao45 t393.length co45, .slice Ao46 t394.length co46], .int .i64 1] rfl s3_ ?_; (with_reducible refine (laws_heldPresence.calls kj114 _ _ t392 _ _ t393 _ _ t394 1 t417 _ ?side1 ?side2 ?side3 ?side4 ?side5 ?side6 A163.out).mono ?_); (case side1 => exact y2_ (Kd.R_reads' HO_375000.out).2.2); (case side2 => exact (Kd.R_reads' HO_375000.out).2.1); (case side3 => exact y2_ (Kd.R_reads' HO_375001.out).2.2); (case side4 => exact (Kd.R_reads' HO_375001.out).2.1); (case side5 => exact y2_ (Kd.R_reads' HO_375002.out).2.2); (case side6 => exact (Kd.R_reads' HO_375002.out).2.1); rintro e w170 ⟨rfl, hb⟩; refine ⟨_, rfl, ?_⟩; replace HO_354000 := r1_ HO_354000 hb; replace HO_354001 := r1_ HO_354001 hb; replace HO_354002 := r1_ HO_354002 hb; replace HO_364000 := r1_ HO_364000 hb; replace HO_364001 := r1_ HO_364001 hb; replace HO_364002 := r1_ HO_364002 hb; replace HO_375000 := r1_ HO_375000 hb; replace HO_375001 := r1_ HO_375001 hb; replace HO_375002 := r1_ HO_375002 hb; replace HO_416000 := r1_ HO_416000 hb; replace HO_416001 := r1_ HO_416001 hb; replace HO_416002 := r1_ HO_416002 hb; replace BK332 := b3_ BK332 hb; replace BK353 := b3_ BK353 hb; replace BK363 := b3_ BK363 hb; replace BK374 := b3_ BK374 hb; replace BK415 := b3_ BK415 hb; replace HB := Aside0.mk (below_step (y1_ HB.out) hb); (try clear hb); (try clear hb2); (try clear hk); (try clear hi)))
 go_ret
 exact ⟨by first | rfl | (simp [errW_none, errW_some] <;> rfl) | (simp [*, errW_none, errW_some] <;> rfl), by repeat (first | (with_reducible first | exact HB.out | apply below_alloc | apply pw_below_drewN | apply below_drew1) | exact HB.out)⟩}
 {
 rw [if_neg c164] at H
 have c164b0 : decide (t417 < 0) = false := decide_eq_false c164
 clear c164
 by_cases c171 : t417 = t391
 {
 rw [if_pos c171] at H
 have c171b0 : (t417 == t391) = true := beq_iff_eq.mpr c171
 have c171b1 : (t417 != t391) = false := bne_eq_false_iff_eq.mpr c171
 clear c171
 obtain rfl := Option.some.inj H
 have hnb172 := NB374_332.out
 have hnc172 := NB332_374.out
 have hnb173 := NB374_353.out
 have hnc173 := NB353_374.out
 have hnb174 := NB374_363.out
 have hnc174 := NB363_374.out
 have hnb175 := NB374_415.out
 have hnc175 := NB415_374.out
 have hcz176_0 := c1_ BK374 0 (.slice Ao40 t392.length co40)
 have hcz176_1 := c1_ BK374 1 (.slice Ao45 t393.length co45)
 have hcz176_2 := c1_ BK374 2 (.slice Ao46 t394.length co46)
 have hfz176_0 := f1_ BK374 0
 have hfz176_1 := f1_ BK374 1
 have hfz176_2 := f1_ BK374 2
 go_wp2_with (first | ((with_reducible refine gate_callee (f := 29) rfl ?_); refine goesL_ (some 100) rfl rfl Try.func29 s2_ rfl #[.agg #[.slice Ao40 t392.length co40, .slice Ao45 t393.length co45, .slice Ao46 t394.length co46], .int .i64 1] rfl s3_ ?_; (with_reducible refine (laws_heldPresence.calls kj114 _ _ t392 _ _ t393 _ _ t394 1 t417 _ ?side1 ?side2 ?side3 ?side4 ?side5 ?side6 A163.out).mono ?_); (case side1 => exact y2_ (Kd.R_reads' HO_375000.out).2.2); (case side2 => exact (Kd.R_reads' HO_375000.out).2.1); (case side3 => exact y2_ (Kd.R_reads' HO_375001.out).2.2); (case side4 => exact (Kd.R_reads' HO_375001.out).2.1); (case side5 => exact y2_ (Kd.R_reads' HO_375002.out).2.2); (case side6 => exact (Kd.R_reads' HO_375002.out).2.1); rintro e w177 ⟨rfl, hb⟩; refine ⟨_, rfl, ?_⟩; replace HO_354000 := r1_ HO_354000 hb; replace HO_354001 := r1_ HO_354001 hb; replace HO_354002 := r1_ HO_354002 hb; replace HO_364000 := r1_ HO_364000 hb; replace HO_364001 := r1_ HO_364001 hb; replace HO_364002 := r1_ HO_364002 hb; replace HO_375000 := r1_ HO_375000 hb; replace HO_375001 := r1_ HO_375001 hb; replace HO_375002 := r1_ HO_375002 hb; replace HO_416000 := r1_ HO_416000 hb; replace HO_416001 := r1_ HO_416001 hb; replace HO_416002 := r1_ HO_416002 hb; replace BK332 := b3_ BK332 hb; replace BK353 := b3_ BK353 hb; replace BK363 := b3_ BK363 hb; replace BK374 := b3_ BK374 hb; replace BK415 := b3_ BK415 hb; replace HB := Aside0.mk (below_step (y1_ HB.out) hb); (try clear hb); (try clear hb2); (try clear hk); (try clear hi)))
 go_ret
 exact ⟨by first | rfl | (simp [errW_none, errW_some] <;> rfl) | (simp [*, errW_none, errW_some] <;> rfl), by repeat (first | (with_reducible first | exact HB.out | apply below_alloc | apply pw_below_drewN | apply below_drew1) | exact HB.out)⟩}
 {
 rw [if_neg c171] at H
 have c171b0 : (t417 == t391) = false := beq_eq_false_iff_ne.mpr c171
 have c171b1 : (t417 != t391) = true := bne_iff_ne.mpr c171
 obtain rfl := Option.some.inj H
 have hnb178 := NB374_332.out
 have hnc178 := NB332_374.out
 have hnb179 := NB374_353.out
 have hnc179 := NB353_374.out
 have hnb180 := NB374_363.out
 have hnc180 := NB363_374.out
 have hnb181 := NB374_415.out
 have hnc181 := NB415_374.out
 have hcz182_0 := c1_ BK374 0 (.slice Ao40 t392.length co40)
 have hcz182_1 := c1_ BK374 1 (.slice Ao45 t393.length co45)
 have hcz182_2 := c1_ BK374 2 (.slice Ao46 t394.length co46)
 have hfz182_0 := f1_ BK374 0
 have hfz182_1 := f1_ BK374 1
 have hfz182_2 := f1_ BK374 2
 go_wp2_with (first | ((with_reducible refine gate_callee (f := 29) rfl ?_); refine goesL_ (some 100) rfl rfl Try.func29 s2_ rfl #[.agg #[.slice Ao40 t392.length co40, .slice Ao45 t393.length co45, .slice Ao46 t394.length co46], .int .i64 1] rfl s3_ ?_; (with_reducible refine (laws_heldPresence.calls kj114 _ _ t392 _ _ t393 _ _ t394 1 t417 _ ?side1 ?side2 ?side3 ?side4 ?side5 ?side6 A163.out).mono ?_); (case side1 => exact y2_ (Kd.R_reads' HO_375000.out).2.2); (case side2 => exact (Kd.R_reads' HO_375000.out).2.1); (case side3 => exact y2_ (Kd.R_reads' HO_375001.out).2.2); (case side4 => exact (Kd.R_reads' HO_375001.out).2.1); (case side5 => exact y2_ (Kd.R_reads' HO_375002.out).2.2); (case side6 => exact (Kd.R_reads' HO_375002.out).2.1); rintro e w183 ⟨rfl, hb⟩; refine ⟨_, rfl, ?_⟩; replace HO_354000 := r1_ HO_354000 hb; replace HO_354001 := r1_ HO_354001 hb; replace HO_354002 := r1_ HO_354002 hb; replace HO_364000 := r1_ HO_364000 hb; replace HO_364001 := r1_ HO_364001 hb; replace HO_364002 := r1_ HO_364002 hb; replace HO_375000 := r1_ HO_375000 hb; replace HO_375001 := r1_ HO_375001 hb; replace HO_375002 := r1_ HO_375002 hb; replace HO_416000 := r1_ HO_416000 hb; replace HO_416001 := r1_ HO_416001 hb; replace HO_416002 := r1_ HO_416002 hb; replace BK332 := b3_ BK332 hb; replace BK353 := b3_ BK353 hb; replace BK363 := b3_ BK363 hb; replace BK374 := b3_ BK374 hb; replace BK415 := b3_ BK415 hb; replace HB := Aside0.mk (below_step (y1_ HB.out) hb); (try clear hb); (try clear hb2); (try clear hk); (try clear hi)))
 go_ret
 exact ⟨by first | rfl | (simp [errW_none, errW_some] <;> rfl) | (simp [*, errW_none, errW_some] <;> rfl), by repeat (first | (with_reducible first | exact HB.out | apply below_alloc | apply pw_below_drewN | apply below_drew1) | exact HB.out)⟩}}}}}}
 {
 rw [if_neg c112] at H
 have c112b0 : (t395 == t391) = false := beq_eq_false_iff_ne.mpr c112
 have c112b1 : (t395 != t391) = true := bne_iff_ne.mpr c112
 obtain rfl := Option.some.inj H
 have hnb184 := NB374_332.out
 have hnc184 := NB332_374.out
 have hnb185 := NB374_353.out
 have hnc185 := NB353_374.out
 have hnb186 := NB374_363.out
 have hnc186 := NB363_374.out
 have hcz187_0 := c1_ BK374 0 (.slice Ao40 t364.length co40)
 have hcz187_1 := c1_ BK374 1 (.slice Ao45 t367.length co45)
 have hcz187_2 := c1_ BK374 2 (.slice Ao46 t370.length co46)
 have hfz187_0 := f1_ BK374 0
 have hfz187_1 := f1_ BK374 1
 have hfz187_2 := f1_ BK374 2
 go_wp2_with (first | ((with_reducible refine gate_callee (f := 28) rfl ?_); refine goesL_ (some 72) rfl rfl Try.func28 s2_ rfl #[.agg #[.slice Ao40 t364.length co40, .slice Ao45 t367.length co45, .slice Ao46 t370.length co46], .int .i64 1] rfl s3_ ?_; (with_reducible refine (laws_markPresence.calls kj69 (fun k_ => some k_ = (.slice Ao40 t364.length co40 : Value).ownBlock) (.slice Ao40 t364.length co40) t364 (fun k_ => some k_ = (.slice Ao45 t367.length co45 : Value).ownBlock) (.slice Ao45 t367.length co45) t367 (fun k_ => some k_ = (.slice Ao46 t370.length co46 : Value).ownBlock) (.slice Ao46 t370.length co46) t370 1 t391 t392 t393 t394 w _ ?side1 ?side2 ?side3 ?side4 ?side5 ?side6 A102.out).mono ?_); (case side1 => repeat (first | (with_reducible first | exact HB.out | apply below_alloc | apply pw_below_drewN | apply below_drew1) | exact HB.out)); (case side2 => exact Kd.R_tight rfl HO_375000.out); (case side3 => exact fun k_ e_ => (HO_375000.out.1 k_ e_.symm).2.2.2.2); (case side4 => exact Kd.R_tight rfl HO_375001.out); (case side5 => exact fun k_ e_ => (HO_375001.out.1 k_ e_.symm).2.2.2.2); (case side6 => exact Kd.R_tight rfl HO_375002.out); rintro e w188 ⟨rfl, hy0, hy1, hy2, hb, hkp⟩; refine ⟨_, rfl, ?_⟩; have n0_ := Aside0.mk (Kd.R_mono (ok' := fun k_ => some k_ ≠ (.slice Ao27 t346.length co27 : Value).ownBlock ∧ some k_ ≠ (.slice Ao32 t387.length co32 : Value).ownBlock ∧ some k_ ≠ (.slice Ao36 t388.length co36 : Value).ownBlock ∧ some k_ ≠ (.slice Ao40 t364.length co40 : Value).ownBlock ∧ some k_ ≠ (.slice Ao45 t367.length co45 : Value).ownBlock) (Kd.R_keptB ((Kd.R_apart' HO_354000.out (Kd.R_typed HO_375002.out) (by decide))) hkp (fun k_ hk_ hs_ => Or.elim hs_ (fun e_ => (hk_.1.2.2.2.1) e_) (fun e_ => Or.elim e_ (fun e_ => (hk_.1.2.2.2.2) e_) (fun e_ => (hk_.2) e_)))) (fun k_ hk_ => ⟨hk_.1.1.1, hk_.1.1.2.1, hk_.1.1.2.2.1, hk_.1.1.2.2.2.1, hk_.1.1.2.2.2.2⟩)); have n1_ := Aside0.mk (Kd.R_mono (ok' := fun k_ => some k_ ≠ (.slice Ao24 t343.length co24 : Value).ownBlock ∧ some k_ ≠ (.slice Ao32 t387.length co32 : Value).ownBlock ∧ some k_ ≠ (.slice Ao36 t388.length co36 : Value).ownBlock ∧ some k_ ≠ (.slice Ao40 t364.length co40 : Value).ownBlock ∧ some k_ ≠ (.slice Ao45 t367.length co45 : Value).ownBlock) (Kd.R_keptB ((Kd.R_apart' HO_354001.out (Kd.R_typed HO_375002.out) (by decide))) hkp (fun k_ hk_ hs_ => Or.elim hs_ (fun e_ => (hk_.1.2.2.2.1) e_) (fun e_ => Or.elim e_ (fun e_ => (hk_.1.2.2.2.2) e_) (fun e_ => (hk_.2) e_)))) (fun k_ hk_ => ⟨hk_.1.1.1, hk_.1.1.2.1, hk_.1.1.2.2.1, hk_.1.1.2.2.2.1, hk_.1.1.2.2.2.2⟩)); have n2_ := Aside0.mk (Kd.R_mono (ok' := fun k_ => some k_ ≠ (.slice Ao37 t389.length co37 : Value).ownBlock ∧ some k_ ≠ (.slice Ao46 t370.length co46 : Value).ownBlock) (Kd.R_keptB ((Kd.R_apart' (Kd.R_apart' HO_354002.out (Kd.R_typed HO_375000.out) (by decide)) (Kd.R_typed HO_375001.out) (by decide))) hkp (fun k_ hk_ hs_ => Or.elim hs_ (fun e_ => (hk_.1.2) e_) (fun e_ => Or.elim e_ (fun e_ => (hk_.2) e_) (fun e_ => (hk_.1.1.2) e_)))) (fun k_ hk_ => ⟨hk_.1.1.1.1, hk_.1.1.1.2⟩)); have n3_ := Aside0.mk (Kd.R_mono (ok' := fun k_ => some k_ ≠ (.slice Ao24 t343.length co24 : Value).ownBlock ∧ some k_ ≠ (.slice Ao27 t346.length co27 : Value).ownBlock ∧ some k_ ≠ (.slice Ao36 t388.length co36 : Value).ownBlock ∧ some k_ ≠ (.slice Ao40 t364.length co40 : Value).ownBlock ∧ some k_ ≠ (.slice Ao45 t367.length co45 : Value).ownBlock) (Kd.R_keptB ((Kd.R_apart' HO_364000.out (Kd.R_typed HO_375002.out) (by decide))) hkp (fun k_ hk_ hs_ => Or.elim hs_ (fun e_ => (hk_.1.2.2.2.1) e_) (fun e_ => Or.elim e_ (fun e_ => (hk_.1.2.2.2.2) e_) (fun e_ => (hk_.2) e_)))) (fun k_ hk_ => ⟨hk_.1.1.1, hk_.1.1.2.1, hk_.1.1.2.2.1, hk_.1.1.2.2.2.1, hk_.1.1.2.2.2.2⟩)); have n4_ := Aside0.mk (Kd.R_mono (ok' := fun k_ => some k_ ≠ (.slice Ao24 t343.length co24 : Value).ownBlock ∧ some k_ ≠ (.slice Ao27 t346.length co27 : Value).ownBlock ∧ some k_ ≠ (.slice Ao32 t387.length co32 : Value).ownBlock ∧ some k_ ≠ (.slice Ao40 t364.length co40 : Value).ownBlock ∧ some k_ ≠ (.slice Ao45 t367.length co45 : Value).ownBlock) (Kd.R_keptB ((Kd.R_apart' HO_364001.out (Kd.R_typed HO_375002.out) (by decide))) hkp (fun k_ hk_ hs_ => Or.elim hs_ (fun e_ => (hk_.1.2.2.2.1) e_) (fun e_ => Or.elim e_ (fun e_ => (hk_.1.2.2.2.2) e_) (fun e_ => (hk_.2) e_)))) (fun k_ hk_ => ⟨hk_.1.1.1, hk_.1.1.2.1, hk_.1.1.2.2.1, hk_.1.1.2.2.2.1, hk_.1.1.2.2.2.2⟩)); have n5_ := Aside0.mk (Kd.R_mono (ok' := fun k_ => some k_ ≠ (.slice Ao28 t349.length co28 : Value).ownBlock ∧ some k_ ≠ (.slice Ao46 t370.length co46 : Value).ownBlock) (Kd.R_keptB ((Kd.R_apart' (Kd.R_apart' HO_364002.out (Kd.R_typed HO_375000.out) (by decide)) (Kd.R_typed HO_375001.out) (by decide))) hkp (fun k_ hk_ hs_ => Or.elim hs_ (fun e_ => (hk_.1.2) e_) (fun e_ => Or.elim e_ (fun e_ => (hk_.2) e_) (fun e_ => (hk_.1.1.2) e_)))) (fun k_ hk_ => ⟨hk_.1.1.1.1, hk_.1.1.1.2⟩)); have n6_ := Aside0.mk (Kd.R_reok rfl hy0 (fun k_ e_ => HO_375000.out.1 k_ e_)); have n7_ := Aside0.mk (Kd.R_reok rfl hy1 (fun k_ e_ => HO_375001.out.1 k_ e_)); have n8_ := Aside0.mk (Kd.R_reok rfl hy2 (fun k_ e_ => HO_375002.out.1 k_ e_)); have n9_ := Aside0.mk (blk_kept (b1_ BK332.out) hkp (fun hs_ => Or.elim hs_ (fun e_ => (fun e_ => (Kd.R_ne HO_375000.out BK332.out (by decide)) e_) e_) (fun e_ => Or.elim e_ (fun e_ => (fun e_ => (Kd.R_ne HO_375001.out BK332.out (by decide)) e_) e_) (fun e_ => (fun e_ => (Kd.R_ne HO_375002.out BK332.out (by decide)) e_) e_)))); have n10_ := Aside0.mk (blk_kept (b1_ BK353.out) hkp (fun hs_ => Or.elim hs_ (fun e_ => (fun e_ => (Kd.R_ne HO_375000.out BK353.out (by decide)) e_) e_) (fun e_ => Or.elim e_ (fun e_ => (fun e_ => (Kd.R_ne HO_375001.out BK353.out (by decide)) e_) e_) (fun e_ => (fun e_ => (Kd.R_ne HO_375002.out BK353.out (by decide)) e_) e_)))); have n11_ := Aside0.mk (blk_kept (b1_ BK363.out) hkp (fun hs_ => Or.elim hs_ (fun e_ => (fun e_ => (Kd.R_ne HO_375000.out BK363.out (by decide)) e_) e_) (fun e_ => Or.elim e_ (fun e_ => (fun e_ => (Kd.R_ne HO_375001.out BK363.out (by decide)) e_) e_) (fun e_ => (fun e_ => (Kd.R_ne HO_375002.out BK363.out (by decide)) e_) e_)))); have n12_ := Aside0.mk (blk_kept (b1_ BK374.out) hkp (fun hs_ => Or.elim hs_ (fun e_ => (fun e_ => (Kd.R_ne HO_375000.out BK374.out (by decide)) e_) e_) (fun e_ => Or.elim e_ (fun e_ => (fun e_ => (Kd.R_ne HO_375001.out BK374.out (by decide)) e_) e_) (fun e_ => (fun e_ => (Kd.R_ne HO_375002.out BK374.out (by decide)) e_) e_)))); have n13_ := Aside0.mk (hb); clear HO_354000; clear HO_354001; clear HO_354002; clear HO_364000; clear HO_364001; clear HO_364002; clear HO_375000; clear HO_375001; clear HO_375002; clear BK332; clear BK353; clear BK363; clear BK374; clear HB; have HO_354000 := n0_; have HO_354001 := n1_; have HO_354002 := n2_; have HO_364000 := n3_; have HO_364001 := n4_; have HO_364002 := n5_; have HO_375000 := n6_; have HO_375001 := n7_; have HO_375002 := n8_; have BK332 := n9_; have BK353 := n10_; have BK363 := n11_; have BK374 := n12_; have HB := n13_; clear n0_ n1_ n2_ n3_ n4_ n5_ n6_ n7_ n8_ n9_ n10_ n11_ n12_ n13_; (try clear hb); (try clear hkp); (try clear hy0); (try clear hy1); (try clear hy2); have hcz189_0 := c1_ BK374 0 (.slice Ao40 t364.length co40); have hcz189_1 := c1_ BK374 1 (.slice Ao45 t367.length co45); have hcz189_2 := c1_ BK374 2 (.slice Ao46 t370.length co46); have hfz189_0 := f1_ BK374 0; have hfz189_1 := f1_ BK374 1; have hfz189_2 := f1_ BK374 2) | ((with_reducible refine gate_callee (f := 29) rfl ?_); refine goesL_ (some 75) rfl rfl Try.func29 s2_ rfl #[.agg #[.slice Ao40 t392.length co40, .slice Ao45 t393.length co45, .slice Ao46 t394.length co46], .int .i64 1] rfl (by (try simp only [List.map_toArray, List.map_cons, List.map_nil]); first | done | (rw [show t392.length = t364.length from (Kd.R_reads' HO_375000.out).1.symm, show t393.length = t367.length from (Kd.R_reads' HO_375001.out).1.symm, show t394.length = t370.length from (Kd.R_reads' HO_375002.out).1.symm] <;> rfl) | rfl | (simp only [List.length_drop, List.length_take]; rfl)) ?_; (with_reducible refine (laws_heldPresence.calls kj69 _ _ t392 _ _ t393 _ _ t394 1 t395 _ ?side1 ?side2 ?side3 ?side4 ?side5 ?side6 A103.out).mono ?_); (case side1 => exact y2_ (Kd.R_reads' HO_375000.out).2.2); (case side2 => rw [show t392.length = t364.length from (Kd.R_reads' HO_375000.out).1.symm]; exact (Kd.R_reads' HO_375000.out).2.1); (case side3 => exact y2_ (Kd.R_reads' HO_375001.out).2.2); (case side4 => rw [show t393.length = t367.length from (Kd.R_reads' HO_375001.out).1.symm]; exact (Kd.R_reads' HO_375001.out).2.1); (case side5 => exact y2_ (Kd.R_reads' HO_375002.out).2.2); (case side6 => rw [show t394.length = t370.length from (Kd.R_reads' HO_375002.out).1.symm]; exact (Kd.R_reads' HO_375002.out).2.1); rintro e w190 ⟨rfl, hb⟩; refine ⟨_, rfl, ?_⟩; replace HO_354000 := r1_ HO_354000 hb; replace HO_354001 := r1_ HO_354001 hb; replace HO_354002 := r1_ HO_354002 hb; replace HO_364000 := r1_ HO_364000 hb; replace HO_364001 := r1_ HO_364001 hb; replace HO_364002 := r1_ HO_364002 hb; replace HO_375000 := r1_ HO_375000 hb; replace HO_375001 := r1_ HO_375001 hb; replace HO_375002 := r1_ HO_375002 hb; replace BK332 := b3_ BK332 hb; replace BK353 := b3_ BK353 hb; replace BK363 := b3_ BK363 hb; replace BK374 := b3_ BK374 hb; replace HB := Aside0.mk (below_step (y1_ HB.out) hb); (try clear hb); (try clear hb2); (try clear hk); (try clear hi)))
 go_ret
 exact ⟨by first | rfl | (simp [errW_none, errW_some] <;> rfl) | (simp [*, errW_none, errW_some] <;> rfl), by repeat (first | (with_reducible first | exact HB.out | apply below_alloc | apply pw_below_drewN | apply below_drew1) | exact HB.out)⟩}}}}}}
 {
 replace c68 := Bool.eq_false_iff.mpr c68
 subst c68
 have H1 : (some false) = some r := by rw [if_neg (show ¬ (false = true) by decide)] at H; exact H
 clear H
 have H := H1
 clear H1
 obtain rfl := Option.some.inj H
 try go_wp2
 replace HO_354000 := Aside0.mk (Kd.R_drew HO_354000.out)
 replace HO_354001 := Aside0.mk (Kd.R_drew HO_354001.out)
 replace HO_354002 := Aside0.mk (Kd.R_drew HO_354002.out)
 replace HO_364000 := Aside0.mk (Kd.R_drew HO_364000.out)
 replace HO_364001 := Aside0.mk (Kd.R_drew HO_364001.out)
 replace HO_364002 := Aside0.mk (Kd.R_drew HO_364002.out)
 replace HO_375000 := Aside0.mk (Kd.R_drew HO_375000.out)
 replace HO_375001 := Aside0.mk (Kd.R_drew HO_375001.out)
 replace HO_375002 := Aside0.mk (Kd.R_drew HO_375002.out)
 replace BK332 := Aside0.mk (blk_drew BK332.out)
 replace BK353 := Aside0.mk (blk_drew BK353.out)
 replace BK363 := Aside0.mk (blk_drew BK363.out)
 replace BK374 := Aside0.mk (blk_drew BK374.out)
 replace HB := Aside0.mk (below_drew1 HB.out)
 refine start_ (n := 5) (S := fun w' => w'.cell? ⟨gb363, 0, none⟩ = some (.slice Ao32 t354.length co32) ∧ w'.cell? ⟨gb363, 1, none⟩ = some (.slice Ao36 t357.length co36) ∧ w'.cell? ⟨gb363, 2, none⟩ = some (.slice Ao37 t360.length co37) ∧ w'.cell? ⟨gb332, 0, none⟩ = some (.slice A0_0 l0_0.length c0_0) ∧ w'.cell? ⟨gb332, 1, none⟩ = some (.slice A0_1 l0_1.length c0_1) ∧ w'.cell? ⟨gb332, 2, none⟩ = some (.slice A0_2 l0_2.length c0_2)) (ds := []) #[F,F,F,F,F] s2_ rfl rfl ⟨(blk_cell BK363.out 0).trans rfl, (blk_cell BK363.out 1).trans rfl, (blk_cell BK363.out 2).trans rfl, (blk_cell BK332.out 0).trans rfl, (blk_cell BK332.out 1).trans rfl, (blk_cell BK332.out 2).trans rfl⟩ (fun hHeld => ?_)
 generalize wc.drew = w191 at HO_354000 HO_354001 HO_354002 HO_364000 HO_364001 HO_364002 HO_375000 HO_375001 HO_375002 BK332 BK353 BK363 BK374 HB hHeld ⊢
 refine take_ (i := 0) (N := some 49) (v := ?_) (a' := ?_) #[T,F,F,F,F] rfl rfl s2_ (fun _ _ _ h => h) (Or.inl ⟨by rfl, ?_⟩) hHeld ?_ ?_
 rotate_left
 {
 rintro w' ⟨s0, s1, s2, s3, s4, s5⟩
 go_simp
 with_reducible rfl}
 rotate_left
 · exact p1_
 refine take_ (i := 1) (N := some 50) (v := ?_) (a' := ?_) #[T,T,F,F,F] rfl rfl s2_ (fun _ _ _ h => h) (Or.inl ⟨by rfl, ?_⟩) hHeld ?_ ?_
 rotate_left
 {
 rintro w' ⟨s0, s1, s2, s3, s4, s5⟩
 go_simp
 with_reducible rfl}
 rotate_left
 · exact p1_
 refine one_ (i := 2) (N := some 51) #[T,T,T,F,F] rfl rfl s2_ (by decide) (fun K hK => ?_)
 refine goes_ Try.func26 s2_ rfl #[.agg #[.slice A0_0 l0_0.length c0_0, .slice A0_1 l0_1.length c0_1, .slice A0_2 l0_2.length c0_2]] (by rfl) rfl rfl s3_ ?_
 with_reducible refine (laws_toPresence.calls kj12 _ _ l0_0 _ _ l0_1 _ _ l0_2 t376 t379 t382 _ ?side1 ?side2 ?side3 ?side4 ?side5 ?side6 A66.out).mono ?_
 (case side1 => exact y2_ (Kd.C_below HR0_0.out HB.out))
 (case side2 => exact HC0_0.out)
 (case side3 => exact y2_ (Kd.C_below HR0_1.out HB.out))
 (case side4 => exact HC0_1.out)
 (case side5 => exact y2_ (Kd.C_below HR0_2.out HB.out))
 (case side6 => exact HC0_2.out)
 rintro e w192 ⟨v377, v380, v383, rfl, ho0, ho1, ho2, hb⟩
 refine ⟨_, rfl, ?_⟩
 have n0_ := Aside0.mk (Kd.R_mono (Kd.R_told (Kd.R_told (Kd.R_old (b2_ HO_354000.out) hb) (Kd.R_base ho0)) (Kd.R_base ho1)) (fun _ h_ => h_.1))
 have n1_ := Aside0.mk (Kd.R_mono (Kd.R_told (Kd.R_told (Kd.R_old (b2_ HO_354001.out) hb) (Kd.R_base ho0)) (Kd.R_base ho1)) (fun _ h_ => h_.1))
 have n2_ := Aside0.mk (Kd.R_elder' (b2_ HO_354002.out) (Kd.R_base ho2) hb)
 have n3_ := Aside0.mk (Kd.R_mono (Kd.R_told (Kd.R_told (Kd.R_old (b2_ HO_364000.out) hb) (Kd.R_base ho0)) (Kd.R_base ho1)) (fun _ h_ => h_.1))
 have n4_ := Aside0.mk (Kd.R_mono (Kd.R_told (Kd.R_told (Kd.R_old (b2_ HO_364001.out) hb) (Kd.R_base ho0)) (Kd.R_base ho1)) (fun _ h_ => h_.1))
 have n5_ := Aside0.mk (Kd.R_elder' (b2_ HO_364002.out) (Kd.R_base ho2) hb)
 have n6_ := Aside0.mk (Kd.R_mono (Kd.R_told (Kd.R_told (Kd.R_old (b2_ HO_375000.out) hb) (Kd.R_base ho0)) (Kd.R_base ho1)) (fun _ h_ => h_.1))
 have n7_ := Aside0.mk (Kd.R_mono (Kd.R_told (Kd.R_told (Kd.R_old (b2_ HO_375001.out) hb) (Kd.R_base ho0)) (Kd.R_base ho1)) (fun _ h_ => h_.1))
 have n8_ := Aside0.mk (Kd.R_elder' (b2_ HO_375002.out) (Kd.R_base ho2) hb)
 have n9_ := Aside0.mk (Kd.R_lower (Kd.R_new' (Kd.R_new' (Kd.R_new' (Kd.R_new' (Kd.R_new' (Kd.R_new' ho0 (Kd.R_lt (b2_ HO_354000.out))) (Kd.R_lt (b2_ HO_354001.out))) (Kd.R_lt (b2_ HO_364000.out))) (Kd.R_lt (b2_ HO_364001.out))) (Kd.R_lt (b2_ HO_375000.out))) (Kd.R_lt (b2_ HO_375001.out))) (below_size (y1_ HB.out)))
 have n10_ := Aside0.mk (Kd.R_lower (Kd.R_new' (Kd.R_new' (Kd.R_new' (Kd.R_new' (Kd.R_new' (Kd.R_new' ho1 (Kd.R_lt (b2_ HO_354000.out))) (Kd.R_lt (b2_ HO_354001.out))) (Kd.R_lt (b2_ HO_364000.out))) (Kd.R_lt (b2_ HO_364001.out))) (Kd.R_lt (b2_ HO_375000.out))) (Kd.R_lt (b2_ HO_375001.out))) (below_size (y1_ HB.out)))
 have n11_ := Aside0.mk (Kd.R_lower (Kd.R_new' (Kd.R_new' (Kd.R_new' ho2 (Kd.R_lt (b2_ HO_354002.out))) (Kd.R_lt (b2_ HO_364002.out))) (Kd.R_lt (b2_ HO_375002.out))) (below_size (y1_ HB.out)))
 have n12_ := b3_ BK332 hb
 have n13_ := b3_ BK353 hb
 have n14_ := b3_ BK363 hb
 have n15_ := b3_ BK374 hb
 have n16_ := Aside0.mk (below_step (y1_ HB.out) hb)
 clear HO_354000
 clear HO_354001
 clear HO_354002
 clear HO_364000
 clear HO_364001
 clear HO_364002
 clear HO_375000
 clear HO_375001
 clear HO_375002
 clear BK332
 clear BK353
 clear BK363
 clear BK374
 clear HB
 have HO_354000 := n0_
 have HO_354001 := n1_
 have HO_354002 := n2_
 have HO_364000 := n3_
 have HO_364001 := n4_
 have HO_364002 := n5_
 have HO_375000 := n6_
 have HO_375001 := n7_
 have HO_375002 := n8_
 have HO378 := n9_
 have HO381 := n10_
 have HO384 := n11_
 have BK332 := n12_
 have BK353 := n13_
 have BK363 := n14_
 have BK374 := n15_
 have HB := n16_
 clear n0_ n1_ n2_ n3_ n4_ n5_ n6_ n7_ n8_ n9_ n10_ n11_ n12_ n13_ n14_ n15_ n16_
 (try clear hb)
 (try clear hb2)
 (try clear hk)
 (try clear hi)
 (try clear ho0)
 (try clear ho1)
 (try clear ho2)
 obtain ⟨Ao193, co193, eo193⟩ := Kd.R_slice HO378.out
 (first | subst eo193 | (injection eo193 with f1_ f2_ f3_; have f4_ := f1_.symm; have f5_ := f3_.symm; clear f1_ f2_ f3_; subst f4_; subst f5_))
 obtain ⟨Ao194, co194, eo194⟩ := Kd.R_slice HO381.out
 (first | subst eo194 | (injection eo194 with f1_ f2_ f3_; have f4_ := f1_.symm; have f5_ := f3_.symm; clear f1_ f2_ f3_; subst f4_; subst f5_))
 obtain ⟨Ao195, co195, eo195⟩ := Kd.R_slice HO384.out
 (first | subst eo195 | (injection eo195 with f1_ f2_ f3_; have f4_ := f1_.symm; have f5_ := f3_.symm; clear f1_ f2_ f3_; subst f4_; subst f5_))
 refine hK.out _ _ ⟨(blk_cell BK363.out 0).trans rfl, (blk_cell BK363.out 1).trans rfl, (blk_cell BK363.out 2).trans rfl, (blk_cell BK332.out 0).trans rfl, (blk_cell BK332.out 1).trans rfl, (blk_cell BK332.out 2).trans rfl⟩ (fun hHeld => ?_)
 clear hK K
 refine norm_ (a' := ?_) ?_ ?_
 rotate_left
 {
 show Act.put _ (some 51) _ = _
 simp only [Act.put, List.setIfInBounds_toArray, List.set_cons_zero, List.set_cons_succ, i64_w, i32_w]
 rfl}
 refine one_ (i := 3) (N := some 52) #[T,T,T,T,F] rfl rfl s2_ (by decide) (fun K hK => ?_)
 refine goes_ Try.func27 s2_ rfl #[.agg #[.slice Ao32 t354.length co32, .slice Ao36 t357.length co36, .slice Ao37 t360.length co37], .agg #[.slice Ao193 t376.length co193, .slice Ao194 t379.length co194, .slice Ao195 t382.length co195]] (by rfl) rfl rfl s3_ ?_
 with_reducible refine (laws_eqPresence.calls kj12 _ _ t354 _ _ t357 _ _ t360 _ _ t376 _ _ t379 _ _ t382 false _ ?side1 ?side2 ?side3 ?side4 ?side5 ?side6 ?side7 ?side8 ?side9 ?side10 ?side11 ?side12 A67.out).mono ?_
 (case side1 => exact y2_ (Kd.R_reads' HO_364000.out).2.2)
 (case side2 => exact (Kd.R_reads' HO_364000.out).2.1)
 (case side3 => exact y2_ (Kd.R_reads' HO_364001.out).2.2)
 (case side4 => exact (Kd.R_reads' HO_364001.out).2.1)
 (case side5 => exact y2_ (Kd.R_reads' HO_364002.out).2.2)
 (case side6 => exact (Kd.R_reads' HO_364002.out).2.1)
 (case side7 => exact y2_ (Kd.R_reads' HO378.out).2.2)
 (case side8 => exact (Kd.R_reads' HO378.out).2.1)
 (case side9 => exact y2_ (Kd.R_reads' HO381.out).2.2)
 (case side10 => exact (Kd.R_reads' HO381.out).2.1)
 (case side11 => exact y2_ (Kd.R_reads' HO384.out).2.2)
 (case side12 => exact (Kd.R_reads' HO384.out).2.1)
 rintro e w196 ⟨rfl, hb⟩
 refine ⟨_, rfl, ?_⟩
 replace HO_354000 := r1_ HO_354000 hb
 replace HO_354001 := r1_ HO_354001 hb
 replace HO_354002 := r1_ HO_354002 hb
 replace HO_364000 := r1_ HO_364000 hb
 replace HO_364001 := r1_ HO_364001 hb
 replace HO_364002 := r1_ HO_364002 hb
 replace HO_375000 := r1_ HO_375000 hb
 replace HO_375001 := r1_ HO_375001 hb
 replace HO_375002 := r1_ HO_375002 hb
 replace HO378 := r1_ HO378 hb
 replace HO381 := r1_ HO381 hb
 replace HO384 := r1_ HO384 hb
 replace BK332 := b3_ BK332 hb
 replace BK353 := b3_ BK353 hb
 replace BK363 := b3_ BK363 hb
 replace BK374 := b3_ BK374 hb
 replace HB := Aside0.mk (below_step (y1_ HB.out) hb)
 (try clear hb)
 (try clear hb2)
 (try clear hk)
 (try clear hi)
 refine hK.out _ _ ⟨(blk_cell BK363.out 0).trans rfl, (blk_cell BK363.out 1).trans rfl, (blk_cell BK363.out 2).trans rfl, (blk_cell BK332.out 0).trans rfl, (blk_cell BK332.out 1).trans rfl, (blk_cell BK332.out 2).trans rfl⟩ (fun hHeld => ?_)
 clear hK K
 refine norm_ (a' := ?_) ?_ ?_
 rotate_left
 {
 show Act.put _ (some 52) _ = _
 simp only [Act.put, List.setIfInBounds_toArray, List.set_cons_zero, List.set_cons_succ, i64_w, i32_w]
 rfl}
 refine pure_ (i := 4) (N := some 53) (v := ?_) (a' := ?_) #[T,T,T,T,T] rfl rfl s2_ (fun _ _ _ h => h) (Or.inl ⟨by rfl, ?_⟩) ?_ ?_
 rotate_left
 {
 intro w'
 go_simp
 with_reducible rfl}
 rotate_left
 · exact p1_
 refine done_ s2_ ?_
 try go_wp2
 go_ret
 exact ⟨by first | rfl | (simp [errW_none, errW_some] <;> rfl) | (simp [*, errW_none, errW_some] <;> rfl), by repeat (first | (with_reducible first | exact HB.out | apply below_alloc | apply pw_below_drewN | apply below_drew1) | exact HB.out)⟩}}}}}

/-- THE ONE PURE STATEMENT of laws_FnExactStartTyping: yours. -/
def laws_FnExactStartTyping.Pure : Prop := ∀ (l0_0 : List (S108)) (l0_1 : List (S108)) (l0_2 : List (S110)) (a1 : Int) (a2 : Int), (l0_0.length ≤ maxLen ∧ l0_0.length * 16 ≤ 140737488351232 ∧ ∀ y0_ ∈ l0_0, fit108 y0_) → (l0_1.length ≤ maxLen ∧ l0_1.length * 16 ≤ 140737488351232 ∧ ∀ y0_ ∈ l0_1, fit108 y0_) → (l0_2.length ≤ maxLen ∧ l0_2.length * 16 ≤ 140737488351232 ∧ ∀ y0_ ∈ l0_2, fit110 y0_) → ((Lit.int .i64 a1).wf = true) → ((Lit.int .i64 a2).wf = true) → ∃ k, laws_FnExactStartTyping.f k l0_0 l0_1 l0_2 a1 a2 = some true
theorem laws_FnExactStartTyping.walk (P : laws_FnExactStartTyping.Pure) (A0_0 : Option Addr) (c0_0 : Nat) (l0_0 : List (S108)) (A0_1 : Option Addr) (c0_1 : Nat) (l0_1 : List (S108)) (A0_2 : Option Addr) (c0_2 : Nat) (l0_2 : List (S110)) (a1 : Int) (a2 : Int) (w : World) (hr0_0 : Kd.C k108 w A0_0 l0_0.length l0_0) (hc0_0 : l0_0.length ≤ c0_0) (hr0_1 : Kd.C k108 w A0_1 l0_1.length l0_1) (hc0_1 : l0_1.length ≤ c0_1) (hr0_2 : Kd.C k110 w A0_2 l0_2.length l0_2) (hc0_2 : l0_2.length ≤ c0_2) (F0_0 : l0_0.length ≤ maxLen ∧ l0_0.length * 16 ≤ 140737488351232 ∧ ∀ y0_ ∈ l0_0, fit108 y0_) (F0_1 : l0_1.length ≤ maxLen ∧ l0_1.length * 16 ≤ 140737488351232 ∧ ∀ y0_ ∈ l0_1, fit108 y0_) (F0_2 : l0_2.length ≤ maxLen ∧ l0_2.length * 16 ≤ 140737488351232 ∧ ∀ y0_ ∈ l0_2, fit110 y0_) (F1 : (Lit.int .i64 a1).wf = true) (F2 : (Lit.int .i64 a2).wf = true) :
    Calls Try.prog 8 #[.agg #[.slice A0_0 l0_0.length c0_0, .slice A0_1 l0_1.length c0_1, .slice A0_2 l0_2.length c0_2], .int .i64 a1, .int .i64 a2] w fun e w' => e = .returned (.bool true) ∧ Below w.heap.size w w' := by
  obtain ⟨k, h⟩ := P l0_0 l0_1 l0_2 a1 a2 F0_0 F0_1 F0_2 F1 F2
  refine (laws_FnExactStartTyping.calls k A0_0 c0_0 l0_0 A0_1 c0_1 l0_1 A0_2 c0_2 l0_2 a1 a2 true w hr0_0 hc0_0 hr0_1 hc0_1 hr0_2 hc0_2 h).mono ?_
  rintro e w' ⟨rfl, hd⟩
  exact ⟨rfl, hd⟩

end Go.Proofs.Ytgfilednbllkmaa.QFnExactStartTyping
