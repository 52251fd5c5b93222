-- written by a program of this session, on the lines of the kit's print
import Derived.Test.YtgfilednbllkmaaQFnExactReadUpTox0
import Derived.Test.YtgfilednbllkmaaQFnExactReadUpTox1
import Derived.Test.YtgfilednbllkmaaQFnExactReadUpTox2
import Derived.Test.YtgfilednbllkmaaQFnExactReadUpTox3
import Derived.Test.YtgfilednbllkmaaQFnExactReadUpTox7
import Derived.Test.YtgfilednbllkmaaQFnExactReadUpTox11
namespace Go.Proofs.Ytgfilednbllkmaa.QFnExactReadUpTo
open Go.RowKit Go.Proofs.YtgfilednbllkmaaW.PrintWords Go.Proofs.YtgfilednbllkmaaW.PrintLast Go.Proofs.YtgfilednbllkmaaW.PrintMore
attribute [local go_sem] max2_int min2_int max_two min_two max_three min_three max_four min_four   -- for this text's walks alone
set_option linter.unusedVariables false
set_option linter.unusedSimpArgs false

/-! ### laws_FnExactReadUpTo: function 7 -/
abbrev laws_FnExactReadUpTo.T : Bool := true
abbrev laws_FnExactReadUpTo.F : Bool := false
theorem laws_FnExactReadUpTo.s1_ {P : Prop} (h : P := by first | rfl | (simp; done) | (simp [*]; done)) : P := h
theorem laws_FnExactReadUpTo.s2_ {P : Prop} (h : P := by kernel_rfl) : P := h
theorem laws_FnExactReadUpTo.s3_ {P : Prop} (h : P := by (try simp only [List.map_toArray, List.map_cons, List.map_nil]); first | done | rfl | (simp only [List.length_drop, List.length_take]; rfl)) : P := h
theorem laws_FnExactReadUpTo.p1_ {P : Prop} (h : P := by simp only [Act.put, List.setIfInBounds_toArray, List.set_cons_zero, List.set_cons_succ, i64_w, i32_w]; rfl) : P := h
theorem laws_FnExactReadUpTo.b1_ {P Q : Prop} (q : Q) (h : Q → P := by intro q_; (with_reducible repeat (first | refine blk_drewN ?_ _ | refine blk_drew ?_ | refine blk_alloc ?_ _)); exact q_) : P := h q
theorem laws_FnExactReadUpTo.b2_ {P Q : Prop} (q : Q) (h : Q → P := by intro q_; (with_reducible repeat (first | apply Kd.R_alloc | apply Kd.R_drewN | apply Kd.R_drew)); exact q_) : P := h q
theorem laws_FnExactReadUpTo.y1_ {P Q : Prop} (q : Q) (h : Q → P := by intro q_; repeat (first | (with_reducible first | exact q_ | apply below_alloc | apply pw_below_drewN | apply below_drew1) | exact q_)) : P := h q
theorem laws_FnExactReadUpTo.y2_ {P Q : Prop} (q : Q) (h : Q → P := by intro q_; repeat (first | exact q_ | (with_reducible refine Kd.C_alloc ?_ _) | (with_reducible refine Kd.C_drewN ?_ _) | (with_reducible refine Kd.C_drew ?_))) : P := h q
theorem laws_FnExactReadUpTo.b3_ {w w1 W : World} {g : Nat} {o : Obj} (q : Aside0 (w.heap[g]? = some o)) (hb : Below W.heap.size W w1) (h : w.heap[g]? = some o → W.heap[g]? = some o := by intro q_; (with_reducible repeat (first | refine blk_drewN ?_ _ | refine blk_drew ?_ | refine blk_alloc ?_ _)); exact q_) : Aside0 (w1.heap[g]? = some o) := ⟨blk_below (h q.out) hb⟩
theorem laws_FnExactReadUpTo.b4_ {w W : World} {g k : Nat} {o : Obj} (hg : k = W.heap.size) (q : Aside0 (w.heap[g]? = some o)) (h : w.heap[g]? = some o → W.heap[g]? = some o := by intro q_; (with_reducible repeat (first | refine blk_drewN ?_ _ | refine blk_drew ?_ | refine blk_alloc ?_ _)); exact q_) : Aside0 (g ≠ k) := ⟨by rw [hg]; exact Nat.ne_of_lt (blk_lt (h q.out))⟩
theorem laws_FnExactReadUpTo.b5_ {w W : World} {g k : Nat} {o : Obj} (hg : k = W.heap.size) (q : Aside0 (w.heap[g]? = some o)) (h : w.heap[g]? = some o → W.heap[g]? = some o := by intro q_; (with_reducible repeat (first | refine blk_drewN ?_ _ | refine blk_drew ?_ | refine blk_alloc ?_ _)); exact q_) : Aside0 (k ≠ g) := ⟨by rw [hg]; exact Nat.ne_of_gt (blk_lt (h q.out))⟩
theorem laws_FnExactReadUpTo.b6_ {w w' W : World} {k : Nat} (hg : k = W.heap.size) (q : Aside0 (Below w.heap.size w w')) (h : Below w.heap.size w w' → Below w.heap.size w W := by intro q_; repeat (first | (with_reducible first | exact q_ | apply below_alloc | apply pw_below_drewN | apply below_drew1) | exact q_)) : Aside0 (w.heap.size ≤ k) := ⟨by rw [hg]; exact below_size (h q.out)⟩
theorem laws_FnExactReadUpTo.r1_ {α : Type} {d : Kd α} {e base : Nat} {ok : Nat → Prop} {v : Value} {xs : List α} {w W w1 : World} (q : Aside0 (d.R e w base ok v xs)) (hb : Below W.heap.size W w1) (h : d.R e w base ok v xs → d.R e W base ok v xs := by intro q_; (with_reducible repeat (first | apply Kd.R_alloc | apply Kd.R_drewN | apply Kd.R_drew)); exact q_) : Aside0 (d.R e w1 base ok v xs) := ⟨Kd.R_below (h q.out) hb⟩
mutual
def laws_FnExactReadUpTo.j0 : Nat → Int → Int → Bool → Bool → Bool → List (S108) → List (S108) → List (S110) → List (S63) → List (S63) → List (S73) → List (S63) → List (S63) → List (S73) → List (S63) → List (S63) → List (S73) → Option (Bool)
  | 0, _, _, _, _, _, _, _, _, _, _, _, _, _, _, _, _, _ => none
  | k + 1, x1, x2, x9, x12, x48, x328000, x328001, x328002, x349000, x349001, x349002, x359000, x359001, x359002, x370000, x370001, x370002 => if x48 = true then (some false) else ((laws_toPresence.f k x328000 x328001 x328002).bind fun bt371 => ((laws_eqPresence.f k x359000 x359001 x359002 bt371.1 bt371.2.1 bt371.2.2).bind fun t380 => (if t380 = true then ((laws_markPresence.f k x359000 x359001 x359002 1).bind fun bt381 => (if bt381.1 < 0 then (laws_FnExactReadUpTo.j1 k x1 x2 x9 true x328000 x328001 x328002 x349000 x349001 x349002 x370000 x370001 x370002) else ((laws_eqPresence.f k x370000 x370001 x370002 x349000 x349001 x349002).bind fun t385 => (if t385 = true then (laws_FnExactReadUpTo.j1 k x1 x2 x9 (x12 != x9) x328000 x328001 x328002 x349000 x349001 x349002 x370000 x370001 x370002) else (laws_FnExactReadUpTo.j1 k x1 x2 x9 true x328000 x328001 x328002 x349000 x349001 x349002 x370000 x370001 x370002))))) else (some false))))
def laws_FnExactReadUpTo.j1 : Nat → Int → Int → Bool → Bool → List (S108) → List (S108) → List (S110) → List (S63) → List (S63) → List (S73) → List (S63) → List (S63) → List (S73) → Option (Bool)
  | 0, _, _, _, _, _, _, _, _, _, _, _, _, _ => none
  | k + 1, x1, x2, x9, x69, x328000, x328001, x328002, x349000, x349001, x349002, x370000, x370001, x370002 => if x69 = true then (some false) else ((laws_markPresence.f k x370000 x370001 x370002 1).bind fun bt386 => ((laws_heldPresence.f k bt386.2.1 bt386.2.2.1 bt386.2.2.2 1).bind fun t390 => (if t390 < 0 then (some false) else (if t390 = bt386.1 then ((laws_toPresence.f k x328000 x328001 x328002).bind fun bt391 => ((impl_ReadUpTo.f k bt391.1 bt391.2.1 bt391.2.2 x1 x2).bind fun bt400 => ((laws_eqPresence.f k bt400.1 bt400.2.1 bt400.2.2.1 x349000 x349001 x349002).bind fun t411 => (if t411 = true then (laws_FnExactReadUpTo.j2 k bt386.1 (bt400.2.2.2 != x9) bt386.2.1 bt386.2.2.1 bt386.2.2.2) else (laws_FnExactReadUpTo.j2 k bt386.1 true bt386.2.1 bt386.2.2.1 bt386.2.2.2))))) else (some false)))))
def laws_FnExactReadUpTo.j2 : Nat → Int → Bool → List (S63) → List (S63) → List (S73) → Option (Bool)
  | 0, _, _, _, _, _ => none
  | k + 1, x14, x97, x370000, x370001, x370002 => if x97 = true then (some false) else ((laws_heldPresence.f k x370000 x370001 x370002 1).bind fun t412 => (if t412 < 0 then (some false) else (if t412 = x14 then (some true) else (some false))))
end
def laws_FnExactReadUpTo.f (k : Nat) (l0_0 : List (S108)) (l0_1 : List (S108)) (l0_2 : List (S110)) (a1 : Int) (a2 : Int) : Option (Bool) := (laws_szPresence.f l0_0 l0_1 l0_2 1048576).bind fun t328 => (if t328 < 0 then (some true) else ((laws_toPresence.f k l0_0 l0_1 l0_2).bind fun bt329 => ((spec_ReadUpTo.f k bt329.1 bt329.2.1 bt329.2.2 a1 a2).bind fun bt338 => ((laws_toPresence.f k l0_0 l0_1 l0_2).bind fun bt349 => ((impl_ReadUpTo.f k bt349.1 bt349.2.1 bt349.2.2 a1 a2).bind fun bt359 => ((laws_eqPresence.f k bt359.1 bt359.2.1 bt359.2.2.1 bt338.1 bt338.2.1 bt338.2.2.1).bind fun t370 => (if t370 = true then (laws_FnExactReadUpTo.j0 k a1 a2 bt338.2.2.2 bt359.2.2.2 (bt359.2.2.2 != bt338.2.2.2) l0_0 l0_1 l0_2 bt338.1 bt338.2.1 bt338.2.2.1 bt349.1 bt349.2.1 bt349.2.2 bt359.1 bt359.2.1 bt359.2.2.1) else (laws_FnExactReadUpTo.j0 k a1 a2 bt338.2.2.2 bt359.2.2.2 true l0_0 l0_1 l0_2 bt338.1 bt338.2.1 bt338.2.2.1 bt349.1 bt349.2.1 bt349.2.2 bt359.1 bt359.2.1 bt359.2.2.1))))))))
theorem laws_FnExactReadUpTo.mono_l : ∀ k, (∀ y0 y1 y2 y3 y4 y5 y6 y7 y8 y9 y10 y11 y12 y13 y14 y15 y16, LeO (laws_FnExactReadUpTo.j0 k y0 y1 y2 y3 y4 y5 y6 y7 y8 y9 y10 y11 y12 y13 y14 y15 y16) (laws_FnExactReadUpTo.j0 (k + 1) y0 y1 y2 y3 y4 y5 y6 y7 y8 y9 y10 y11 y12 y13 y14 y15 y16)) ∧ (∀ y0 y1 y2 y3 y4 y5 y6 y7 y8 y9 y10 y11 y12, LeO (laws_FnExactReadUpTo.j1 k y0 y1 y2 y3 y4 y5 y6 y7 y8 y9 y10 y11 y12) (laws_FnExactReadUpTo.j1 (k + 1) y0 y1 y2 y3 y4 y5 y6 y7 y8 y9 y10 y11 y12)) ∧ (∀ y0 y1 y2 y3 y4, LeO (laws_FnExactReadUpTo.j2 k y0 y1 y2 y3 y4) (laws_FnExactReadUpTo.j2 (k + 1) y0 y1 y2 y3 y4))
  | 0 => ⟨fun _ _ _ _ _ _ _ _ _ _ _ _ _ _ _ _ _ r h => by simp [laws_FnExactReadUpTo.j0] at h, fun _ _ _ _ _ _ _ _ _ _ _ _ _ r h => by simp [laws_FnExactReadUpTo.j1] at h, fun _ _ _ _ _ r h => by simp [laws_FnExactReadUpTo.j2] at h⟩
  | k + 1 => by
    obtain ⟨ih0, ih1, ih2⟩ := laws_FnExactReadUpTo.mono_l k
    refine ⟨?_, ?_, ?_⟩
    · intro y0 y1 y2 y3 y4 y5 y6 y7 y8 y9 y10 y11 y12 y13 y14 y15 y16
      unfold laws_FnExactReadUpTo.j0
      repeat' first
      | (with_reducible exact ih0 _ _ _ _ _ _ _ _ _ _ _ _ _ _ _ _ _)
      | (with_reducible exact ih1 _ _ _ _ _ _ _ _ _ _ _ _ _)
      | (with_reducible exact ih2 _ _ _ _ _)
      | (with_reducible exact impl_ReadUpTo.mono _ _ _ _ _ _)
      | (with_reducible exact laws_eqPresence.mono _ _ _ _ _ _ _)
      | (with_reducible exact laws_heldPresence.mono _ _ _ _ _)
      | (with_reducible exact laws_markPresence.mono _ _ _ _ _)
      | (with_reducible exact laws_toPresence.mono _ _ _ _)
      | (with_reducible exact spec_ReadUpTo.mono _ _ _ _ _ _)
      | (with_reducible exact LeO.refl _)
      | (with_reducible exact LeO.none _)
      | (with_reducible refine LeO.ite ?_ ?_)
      | (with_reducible refine LeO.bind ?_ (fun _ => ?_))
      | exact ih0 _ _ _ _ _ _ _ _ _ _ _ _ _ _ _ _ _
      | exact ih1 _ _ _ _ _ _ _ _ _ _ _ _ _
      | exact ih2 _ _ _ _ _
      | exact impl_ReadUpTo.mono _ _ _ _ _ _
      | exact laws_eqPresence.mono _ _ _ _ _ _ _
      | exact laws_heldPresence.mono _ _ _ _ _
      | exact laws_markPresence.mono _ _ _ _ _
      | exact laws_toPresence.mono _ _ _ _
      | exact spec_ReadUpTo.mono _ _ _ _ _ _
      | exact LeO.none _
      | refine LeO.ite ?_ ?_
      | refine LeO.bind ?_ (fun _ => ?_)
    · intro y0 y1 y2 y3 y4 y5 y6 y7 y8 y9 y10 y11 y12
      unfold laws_FnExactReadUpTo.j1
      repeat' first
      | (with_reducible exact ih0 _ _ _ _ _ _ _ _ _ _ _ _ _ _ _ _ _)
      | (with_reducible exact ih1 _ _ _ _ _ _ _ _ _ _ _ _ _)
      | (with_reducible exact ih2 _ _ _ _ _)
      | (with_reducible exact impl_ReadUpTo.mono _ _ _ _ _ _)
      | (with_reducible exact laws_eqPresence.mono _ _ _ _ _ _ _)
      | (with_reducible exact laws_heldPresence.mono _ _ _ _ _)
      | (with_reducible exact laws_markPresence.mono _ _ _ _ _)
      | (with_reducible exact laws_toPresence.mono _ _ _ _)
      | (with_reducible exact spec_ReadUpTo.mono _ _ _ _ _ _)
      | (with_reducible exact LeO.refl _)
      | (with_reducible exact LeO.none _)
      | (with_reducible refine LeO.ite ?_ ?_)
      | (with_reducible refine LeO.bind ?_ (fun _ => ?_))
      | exact ih0 _ _ _ _ _ _ _ _ _ _ _ _ _ _ _ _ _
      | exact ih1 _ _ _ _ _ _ _ _ _ _ _ _ _
      | exact ih2 _ _ _ _ _
      | exact impl_ReadUpTo.mono _ _ _ _ _ _
      | exact laws_eqPresence.mono _ _ _ _ _ _ _
      | exact laws_heldPresence.mono _ _ _ _ _
      | exact laws_markPresence.mono _ _ _ _ _
      | exact laws_toPresence.mono _ _ _ _
      | exact spec_ReadUpTo.mono _ _ _ _ _ _
      | exact LeO.none _
      | refine LeO.ite ?_ ?_
      | refine LeO.bind ?_ (fun _ => ?_)
    · intro y0 y1 y2 y3 y4
      unfold laws_FnExactReadUpTo.j2
      repeat' first
      | (with_reducible exact ih0 _ _ _ _ _ _ _ _ _ _ _ _ _ _ _ _ _)
      | (with_reducible exact ih1 _ _ _ _ _ _ _ _ _ _ _ _ _)
      | (with_reducible exact ih2 _ _ _ _ _)
      | (with_reducible exact impl_ReadUpTo.mono _ _ _ _ _ _)
      | (with_reducible exact laws_eqPresence.mono _ _ _ _ _ _ _)
      | (with_reducible exact laws_heldPresence.mono _ _ _ _ _)
      | (with_reducible exact laws_markPresence.mono _ _ _ _ _)
      | (with_reducible exact laws_toPresence.mono _ _ _ _)
      | (with_reducible exact spec_ReadUpTo.mono _ _ _ _ _ _)
      | (with_reducible exact LeO.refl _)
      | (with_reducible exact LeO.none _)
      | (with_reducible refine LeO.ite ?_ ?_)
      | (with_reducible refine LeO.bind ?_ (fun _ => ?_))
      | exact ih0 _ _ _ _ _ _ _ _ _ _ _ _ _ _ _ _ _
      | exact ih1 _ _ _ _ _ _ _ _ _ _ _ _ _
      | exact ih2 _ _ _ _ _
      | exact impl_ReadUpTo.mono _ _ _ _ _ _
      | exact laws_eqPresence.mono _ _ _ _ _ _ _
      | exact laws_heldPresence.mono _ _ _ _ _
      | exact laws_markPresence.mono _ _ _ _ _
      | exact laws_toPresence.mono _ _ _ _
      | exact spec_ReadUpTo.mono _ _ _ _ _ _
      | exact LeO.none _
      | refine LeO.ite ?_ ?_
      | refine LeO.bind ?_ (fun _ => ?_)
theorem laws_FnExactReadUpTo.mono : ∀ a0 a1 a2 a3 a4 k, LeO (laws_FnExactReadUpTo.f k a0 a1 a2 a3 a4) (laws_FnExactReadUpTo.f (k + 1) a0 a1 a2 a3 a4) := by
  intro a0 a1 a2 a3 a4 k
  obtain ⟨ih0, ih1, ih2⟩ := laws_FnExactReadUpTo.mono_l k
  unfold laws_FnExactReadUpTo.f
  repeat' first
      | (with_reducible exact ih0 _ _ _ _ _ _ _ _ _ _ _ _ _ _ _ _ _)
      | (with_reducible exact ih1 _ _ _ _ _ _ _ _ _ _ _ _ _)
      | (with_reducible exact ih2 _ _ _ _ _)
      | (with_reducible exact impl_ReadUpTo.mono _ _ _ _ _ _)
      | (with_reducible exact laws_eqPresence.mono _ _ _ _ _ _ _)
      | (with_reducible exact laws_heldPresence.mono _ _ _ _ _)
      | (with_reducible exact laws_markPresence.mono _ _ _ _ _)
      | (with_reducible exact laws_toPresence.mono _ _ _ _)
      | (with_reducible exact spec_ReadUpTo.mono _ _ _ _ _ _)
      | (with_reducible exact LeO.refl _)
      | (with_reducible exact LeO.none _)
      | (with_reducible refine LeO.ite ?_ ?_)
      | (with_reducible refine LeO.bind ?_ (fun _ => ?_))
      | exact ih0 _ _ _ _ _ _ _ _ _ _ _ _ _ _ _ _ _
      | exact ih1 _ _ _ _ _ _ _ _ _ _ _ _ _
      | exact ih2 _ _ _ _ _
      | exact impl_ReadUpTo.mono _ _ _ _ _ _
      | exact laws_eqPresence.mono _ _ _ _ _ _ _
      | exact laws_heldPresence.mono _ _ _ _ _
      | exact laws_markPresence.mono _ _ _ _ _
      | exact laws_toPresence.mono _ _ _ _
      | exact spec_ReadUpTo.mono _ _ _ _ _ _
      | exact LeO.none _
      | refine LeO.ite ?_ ?_
      | refine LeO.bind ?_ (fun _ => ?_)
set_option maxHeartbeats 40000000 in
set_option maxRecDepth 100000 in
theorem laws_FnExactReadUpTo.calls (k : Nat) (A0_0 : Option Addr) (c0_0 : Nat) (l0_0 : List (S108)) (A0_1 : Option Addr) (c0_1 : Nat) (l0_1 : List (S108)) (A0_2 : Option Addr) (c0_2 : Nat) (l0_2 : List (S110)) (a1 : Int) (a2 : Int) (r : Bool) (w : World) (hr0_0 : Kd.C k108 w A0_0 l0_0.length l0_0) (hc0_0 : l0_0.length ≤ c0_0) (hr0_1 : Kd.C k108 w A0_1 l0_1.length l0_1) (hc0_1 : l0_1.length ≤ c0_1) (hr0_2 : Kd.C k110 w A0_2 l0_2.length l0_2) (hc0_2 : l0_2.length ≤ c0_2) (h : laws_FnExactReadUpTo.f k l0_0 l0_1 l0_2 a1 a2 = some r) :
    Calls Try.prog 7 #[.agg #[.slice A0_0 l0_0.length c0_0, .slice A0_1 l0_1.length c0_1, .slice A0_2 l0_2.length c0_2], .int .i64 a1, .int .i64 a2] w fun e w' => e = .returned (.bool r) ∧ Below w.heap.size w w' := by
 have hu45 := Try.underlying45
 have hu27 := Try.underlying27
 have HR0_0 := Aside0.mk hr0_0
 have HC0_0 := Aside0.mk hc0_0
 clear hr0_0 hc0_0
 have HR0_1 := Aside0.mk hr0_1
 have HC0_1 := Aside0.mk hc0_1
 clear hr0_1 hc0_1
 have HR0_2 := Aside0.mk hr0_2
 have HC0_2 := Aside0.mk hc0_2
 clear hr0_2 hc0_2
 have HB := Aside0.mk (Below.refl w.heap.size w)
 have H : ((laws_szPresence.f l0_0 l0_1 l0_2 1048576).bind fun t328 => (if t328 < 0 then (some true) else ((laws_toPresence.f k l0_0 l0_1 l0_2).bind fun bt329 => ((spec_ReadUpTo.f k bt329.1 bt329.2.1 bt329.2.2 a1 a2).bind fun bt338 => ((laws_toPresence.f k l0_0 l0_1 l0_2).bind fun bt349 => ((impl_ReadUpTo.f k bt349.1 bt349.2.1 bt349.2.2 a1 a2).bind fun bt359 => ((laws_eqPresence.f k bt359.1 bt359.2.1 bt359.2.2.1 bt338.1 bt338.2.1 bt338.2.2.1).bind fun t370 => (if t370 = true then (laws_FnExactReadUpTo.j0 k a1 a2 bt338.2.2.2 bt359.2.2.2 (bt359.2.2.2 != bt338.2.2.2) l0_0 l0_1 l0_2 bt338.1 bt338.2.1 bt338.2.2.1 bt349.1 bt349.2.1 bt349.2.2 bt359.1 bt359.2.1 bt359.2.2.1) else (laws_FnExactReadUpTo.j0 k a1 a2 bt338.2.2.2 bt359.2.2.2 true l0_0 l0_1 l0_2 bt338.1 bt338.2.1 bt338.2.2.1 bt349.1 bt349.2.1 bt349.2.2 bt359.1 bt359.2.1 bt359.2.2.1))))))))) = some r := h
 clear h
 replace H := Option.bind_eq_some_iff.mp H
 obtain ⟨t328, A40, H⟩ := H
 replace H : (if t328 < 0 then (some true) else ((laws_toPresence.f k l0_0 l0_1 l0_2).bind fun bt329 => ((spec_ReadUpTo.f k bt329.1 bt329.2.1 bt329.2.2 a1 a2).bind fun bt338 => ((laws_toPresence.f k l0_0 l0_1 l0_2).bind fun bt349 => ((impl_ReadUpTo.f k bt349.1 bt349.2.1 bt349.2.2 a1 a2).bind fun bt359 => ((laws_eqPresence.f k bt359.1 bt359.2.1 bt359.2.2.1 bt338.1 bt338.2.1 bt338.2.2.1).bind fun t370 => (if t370 = true then (laws_FnExactReadUpTo.j0 k a1 a2 bt338.2.2.2 bt359.2.2.2 (bt359.2.2.2 != bt338.2.2.2) l0_0 l0_1 l0_2 bt338.1 bt338.2.1 bt338.2.2.1 bt349.1 bt349.2.1 bt349.2.2 bt359.1 bt359.2.1 bt359.2.2.1) else (laws_FnExactReadUpTo.j0 k a1 a2 bt338.2.2.2 bt359.2.2.2 true l0_0 l0_1 l0_2 bt338.1 bt338.2.1 bt338.2.2.1 bt349.1 bt349.2.1 bt349.2.2 bt359.1 bt359.2.1 bt359.2.2.1)))))))) = some r := H
 have A4 := Aside0.mk A40
 clear A40
 by_cases c5 : t328 < 0
 {
 rw [if_pos c5] at H
 have c5b0 : decide (t328 < 0) = true := decide_eq_true c5
 clear c5
 obtain rfl := Option.some.inj H
 go_enter Try.func7, Try.ntmps7
 go_wp2_with (first | ((with_reducible refine gate_dst (N := 3) rfl ?_); refine box_event ?hg (N := 3) ?hd (cs := #[.slice A0_0 l0_0.length c0_0, .slice A0_1 l0_1.length c0_1, .slice A0_2 l0_2.length c0_2]) (t := 45) ?hr ?_; (case hd => rfl); (case hg => rfl); (case hr => first | (go_simp; done) | (go_simp; rfl)); intro gb327 hg w6 hbox hb; have GW327 := b6_ hg HB; have GE327 := b6_ hg HB; have n0_ := Aside0.mk (below_step (y1_ HB.out) hb); have n1_ := Aside0.mk (hbox); clear HB; have HB := n0_; have BK327 := n1_; clear n0_ n1_; clear hb hbox hg; have hcz7_0 : w6.cell? ⟨gb327, 0, none⟩ = some (.slice A0_0 l0_0.length c0_0) := (blk_cell BK327.out 0).trans rfl; have hcz7_1 : w6.cell? ⟨gb327, 1, none⟩ = some (.slice A0_1 l0_1.length c0_1) := (blk_cell BK327.out 1).trans rfl; have hcz7_2 : w6.cell? ⟨gb327, 2, none⟩ = some (.slice A0_2 l0_2.length c0_2) := (blk_cell BK327.out 2).trans rfl; have hfz7_0 := blk_frozen BK327.out 0; have hfz7_1 := blk_frozen BK327.out 1; have hfz7_2 := blk_frozen BK327.out 2) | ((with_reducible refine gate_callee (f := 24) rfl ?_); refine goesL_ (some 20) rfl rfl Try.func24 s2_ rfl #[.agg #[.slice A0_0 l0_0.length c0_0, .slice A0_1 l0_1.length c0_1, .slice A0_2 l0_2.length c0_2], .int .i64 1048576] rfl s3_ ?_; (with_reducible refine (laws_szPresence.calls _ _ l0_0 _ _ l0_1 _ _ l0_2 1048576 t328 _ ?side1 ?side2 ?side3 ?side4 ?side5 ?side6 A4.out).mono ?_); (case side1 => exact y2_ (Kd.C_below HR0_0.out HB.out)); (case side2 => exact HC0_0.out); (case side3 => exact y2_ (Kd.C_below HR0_1.out HB.out)); (case side4 => exact HC0_1.out); (case side5 => exact y2_ (Kd.C_below HR0_2.out HB.out)); (case side6 => exact HC0_2.out); rintro e w8 ⟨rfl, hb⟩; refine ⟨_, rfl, ?_⟩; have n0_ := b3_ BK327 hb; have n1_ := Aside0.mk (below_step (y1_ HB.out) hb); clear BK327; clear HB; have BK327 := n0_; have HB := n1_; clear n0_ n1_; (try clear hb); (try clear hb2); (try clear hk); (try clear hi)))
 go_ret
 exact ⟨by first | rfl | (simp [errW_none, errW_some] <;> rfl) | (simp [*, errW_none, errW_some] <;> rfl), by repeat (first | (with_reducible first | exact HB.out | apply below_alloc | apply pw_below_drewN | apply below_drew1) | exact HB.out)⟩}
 {
 rw [if_neg c5] at H
 have c5b0 : decide (t328 < 0) = false := decide_eq_false c5
 clear c5
 replace H := Option.bind_eq_some_iff.mp H
 obtain ⟨⟨t329, t332, t335⟩, A90, H⟩ := H
 replace H : ((spec_ReadUpTo.f k t329 t332 t335 a1 a2).bind fun bt338 => ((laws_toPresence.f k l0_0 l0_1 l0_2).bind fun bt349 => ((impl_ReadUpTo.f k bt349.1 bt349.2.1 bt349.2.2 a1 a2).bind fun bt359 => ((laws_eqPresence.f k bt359.1 bt359.2.1 bt359.2.2.1 bt338.1 bt338.2.1 bt338.2.2.1).bind fun t370 => (if t370 = true then (laws_FnExactReadUpTo.j0 k a1 a2 bt338.2.2.2 bt359.2.2.2 (bt359.2.2.2 != bt338.2.2.2) l0_0 l0_1 l0_2 bt338.1 bt338.2.1 bt338.2.2.1 bt349.1 bt349.2.1 bt349.2.2 bt359.1 bt359.2.1 bt359.2.2.1) else (laws_FnExactReadUpTo.j0 k a1 a2 bt338.2.2.2 bt359.2.2.2 true l0_0 l0_1 l0_2 bt338.1 bt338.2.1 bt338.2.2.1 bt349.1 bt349.2.1 bt349.2.2 bt359.1 bt359.2.1 bt359.2.2.1)))))) = some r := H
 have A9 := Aside0.mk A90
 clear A90
 replace H := Option.bind_eq_some_iff.mp H
 obtain ⟨⟨t338, t341, t344, t347⟩, A100, H⟩ := H
 replace H : ((laws_toPresence.f k l0_0 l0_1 l0_2).bind fun bt349 => ((impl_ReadUpTo.f k bt349.1 bt349.2.1 bt349.2.2 a1 a2).bind fun bt359 => ((laws_eqPresence.f k bt359.1 bt359.2.1 bt359.2.2.1 t338 t341 t344).bind fun t370 => (if t370 = true then (laws_FnExactReadUpTo.j0 k a1 a2 t347 bt359.2.2.2 (bt359.2.2.2 != t347) l0_0 l0_1 l0_2 t338 t341 t344 bt349.1 bt349.2.1 bt349.2.2 bt359.1 bt359.2.1 bt359.2.2.1) else (laws_FnExactReadUpTo.j0 k a1 a2 t347 bt359.2.2.2 true l0_0 l0_1 l0_2 t338 t341 t344 bt349.1 bt349.2.1 bt349.2.2 bt359.1 bt359.2.1 bt359.2.2.1))))) = some r := H
 have A10 := Aside0.mk A100
 clear A100
 replace H := Option.bind_eq_some_iff.mp H
 obtain ⟨⟨t349, t352, t355⟩, A110, H⟩ := H
 replace H : ((impl_ReadUpTo.f k t349 t352 t355 a1 a2).bind fun bt359 => ((laws_eqPresence.f k bt359.1 bt359.2.1 bt359.2.2.1 t338 t341 t344).bind fun t370 => (if t370 = true then (laws_FnExactReadUpTo.j0 k a1 a2 t347 bt359.2.2.2 (bt359.2.2.2 != t347) l0_0 l0_1 l0_2 t338 t341 t344 t349 t352 t355 bt359.1 bt359.2.1 bt359.2.2.1) else (laws_FnExactReadUpTo.j0 k a1 a2 t347 bt359.2.2.2 true l0_0 l0_1 l0_2 t338 t341 t344 t349 t352 t355 bt359.1 bt359.2.1 bt359.2.2.1)))) = some r := H
 have A11 := Aside0.mk A110
 clear A110
 replace H := Option.bind_eq_some_iff.mp H
 obtain ⟨⟨t359, t362, t365, t368⟩, A120, H⟩ := H
 replace H : ((laws_eqPresence.f k t359 t362 t365 t338 t341 t344).bind fun t370 => (if t370 = true then (laws_FnExactReadUpTo.j0 k a1 a2 t347 t368 (t368 != t347) l0_0 l0_1 l0_2 t338 t341 t344 t349 t352 t355 t359 t362 t365) else (laws_FnExactReadUpTo.j0 k a1 a2 t347 t368 true l0_0 l0_1 l0_2 t338 t341 t344 t349 t352 t355 t359 t362 t365))) = some r := H
 have A12 := Aside0.mk A120
 clear A120
 have HC13 := Aside0.mk H
 clear H
 go_enter Try.func7, Try.ntmps7
 go_upto_region 8 with (first | ((with_reducible refine gate_dst (N := 3) rfl ?_); refine box_event ?hg (N := 3) ?hd (cs := #[.slice A0_0 l0_0.length c0_0, .slice A0_1 l0_1.length c0_1, .slice A0_2 l0_2.length c0_2]) (t := 45) ?hr ?_; (case hd => rfl); (case hg => rfl); (case hr => first | (go_simp; done) | (go_simp; rfl)); intro gb327 hg w14 hbox hb; have GW327 := b6_ hg HB; have GE327 := b6_ hg HB; have n0_ := Aside0.mk (below_step (y1_ HB.out) hb); have n1_ := Aside0.mk (hbox); clear HB; have HB := n0_; have BK327 := n1_; clear n0_ n1_; clear hb hbox hg; have hcz15_0 : w14.cell? ⟨gb327, 0, none⟩ = some (.slice A0_0 l0_0.length c0_0) := (blk_cell BK327.out 0).trans rfl; have hcz15_1 : w14.cell? ⟨gb327, 1, none⟩ = some (.slice A0_1 l0_1.length c0_1) := (blk_cell BK327.out 1).trans rfl; have hcz15_2 : w14.cell? ⟨gb327, 2, none⟩ = some (.slice A0_2 l0_2.length c0_2) := (blk_cell BK327.out 2).trans rfl; have hfz15_0 := blk_frozen BK327.out 0; have hfz15_1 := blk_frozen BK327.out 1; have hfz15_2 := blk_frozen BK327.out 2) | ((with_reducible refine gate_callee (f := 24) rfl ?_); refine goesL_ (some 20) rfl rfl Try.func24 s2_ rfl #[.agg #[.slice A0_0 l0_0.length c0_0, .slice A0_1 l0_1.length c0_1, .slice A0_2 l0_2.length c0_2], .int .i64 1048576] rfl s3_ ?_; (with_reducible refine (laws_szPresence.calls _ _ l0_0 _ _ l0_1 _ _ l0_2 1048576 t328 _ ?side1 ?side2 ?side3 ?side4 ?side5 ?side6 A4.out).mono ?_); (case side1 => exact y2_ (Kd.C_below HR0_0.out HB.out)); (case side2 => exact HC0_0.out); (case side3 => exact y2_ (Kd.C_below HR0_1.out HB.out)); (case side4 => exact HC0_1.out); (case side5 => exact y2_ (Kd.C_below HR0_2.out HB.out)); (case side6 => exact HC0_2.out); rintro e w16 ⟨rfl, hb⟩; refine ⟨_, rfl, ?_⟩; have n0_ := b3_ BK327 hb; have n1_ := Aside0.mk (below_step (y1_ HB.out) hb); clear BK327; clear HB; have BK327 := n0_; have HB := n1_; clear n0_ n1_; (try clear hb); (try clear hb2); (try clear hk); (try clear hi); have hcz17_0 : w16.cell? ⟨gb327, 0, none⟩ = some (.slice A0_0 l0_0.length c0_0) := (blk_cell BK327.out 0).trans rfl; have hcz17_1 : w16.cell? ⟨gb327, 1, none⟩ = some (.slice A0_1 l0_1.length c0_1) := (blk_cell BK327.out 1).trans rfl; have hcz17_2 : w16.cell? ⟨gb327, 2, none⟩ = some (.slice A0_2 l0_2.length c0_2) := (blk_cell BK327.out 2).trans rfl; have hfz17_0 := blk_frozen BK327.out 0; have hfz17_1 := blk_frozen BK327.out 1; have hfz17_2 := blk_frozen BK327.out 2) | ((with_reducible refine gate_callee (f := 26) rfl ?_); refine goesL_ (some 25) rfl rfl Try.func26 s2_ rfl #[.agg #[.slice A0_0 l0_0.length c0_0, .slice A0_1 l0_1.length c0_1, .slice A0_2 l0_2.length c0_2]] rfl s3_ ?_; (with_reducible refine (laws_toPresence.calls k _ _ l0_0 _ _ l0_1 _ _ l0_2 t329 t332 t335 _ ?side1 ?side2 ?side3 ?side4 ?side5 ?side6 A9.out).mono ?_); (case side1 => exact y2_ (Kd.C_below HR0_0.out HB.out)); (case side2 => exact HC0_0.out); (case side3 => exact y2_ (Kd.C_below HR0_1.out HB.out)); (case side4 => exact HC0_1.out); (case side5 => exact y2_ (Kd.C_below HR0_2.out HB.out)); (case side6 => exact HC0_2.out); rintro e w18 ⟨v330, v333, v336, rfl, ho0, ho1, ho2, hb⟩; refine ⟨_, rfl, ?_⟩; have n0_ := Aside0.mk (Kd.R_lower ho0 (below_size (y1_ HB.out))); have n1_ := Aside0.mk (Kd.R_lower ho1 (below_size (y1_ HB.out))); have n2_ := Aside0.mk (Kd.R_lower ho2 (below_size (y1_ HB.out))); have n3_ := b3_ BK327 hb; have n4_ := Aside0.mk (below_step (y1_ HB.out) hb); clear BK327; clear HB; have HO331 := n0_; have HO334 := n1_; have HO337 := n2_; have BK327 := n3_; have HB := n4_; clear n0_ n1_ n2_ n3_ n4_; (try clear hb); (try clear hb2); (try clear hk); (try clear hi); (try clear ho0); (try clear ho1); (try clear ho2); obtain ⟨Ao19, co19, eo19⟩ := Kd.R_slice HO331.out; subst eo19; obtain ⟨Ao20, co20, eo20⟩ := Kd.R_slice HO334.out; subst eo20; obtain ⟨Ao21, co21, eo21⟩ := Kd.R_slice HO337.out; subst eo21) | ((with_reducible refine gate_callee (f := 33) rfl ?_); refine goesL_ (some 28) rfl rfl Try.func33 s2_ rfl #[.agg #[.slice Ao19 t329.length co19, .slice Ao20 t332.length co20, .slice Ao21 t335.length co21], .int .i64 a1, .int .i64 a2] rfl s3_ ?_; (with_reducible refine (spec_ReadUpTo.calls k _ _ t329 _ _ t332 _ _ t335 a1 a2 t338 t341 t344 t347 _ ?side1 ?side2 ?side3 ?side4 ?side5 ?side6 A10.out).mono ?_); (case side1 => exact y2_ (Kd.R_reads' HO331.out).2.2); (case side2 => exact (Kd.R_reads' HO331.out).2.1); (case side3 => exact y2_ (Kd.R_reads' HO334.out).2.2); (case side4 => exact (Kd.R_reads' HO334.out).2.1); (case side5 => exact y2_ (Kd.R_reads' HO337.out).2.2); (case side6 => exact (Kd.R_reads' HO337.out).2.1); rintro e w22 ⟨v339, v342, v345, rfl, ho0, ho1, ho2, hb⟩; refine ⟨_, rfl, ?_⟩; have n0_ := Aside0.mk (Kd.R_mono (Kd.R_told (Kd.R_told (Kd.R_old (b2_ HO331.out) hb) (Kd.R_base ho0)) (Kd.R_base ho1)) (fun _ h_ => h_.1)); have n1_ := Aside0.mk (Kd.R_mono (Kd.R_told (Kd.R_told (Kd.R_old (b2_ HO334.out) hb) (Kd.R_base ho0)) (Kd.R_base ho1)) (fun _ h_ => h_.1)); have n2_ := Aside0.mk (Kd.R_elder' (b2_ HO337.out) (Kd.R_base ho2) hb); have n3_ := Aside0.mk (Kd.R_lower (Kd.R_new' (Kd.R_new' ho0 (Kd.R_lt (b2_ HO331.out))) (Kd.R_lt (b2_ HO334.out))) (below_size (y1_ HB.out))); have n4_ := Aside0.mk (Kd.R_lower (Kd.R_new' (Kd.R_new' ho1 (Kd.R_lt (b2_ HO331.out))) (Kd.R_lt (b2_ HO334.out))) (below_size (y1_ HB.out))); have n5_ := Aside0.mk (Kd.R_lower (Kd.R_new' ho2 (Kd.R_lt (b2_ HO337.out))) (below_size (y1_ HB.out))); have n6_ := b3_ BK327 hb; have n7_ := Aside0.mk (below_step (y1_ HB.out) hb); clear HO331; clear HO334; clear HO337; clear BK327; clear HB; have HO331 := n0_; have HO334 := n1_; have HO337 := n2_; have HO340 := n3_; have HO343 := n4_; have HO346 := n5_; have BK327 := n6_; have HB := n7_; clear n0_ n1_ n2_ n3_ n4_ n5_ n6_ n7_; (try clear hb); (try clear hb2); (try clear hk); (try clear hi); (try clear ho0); (try clear ho1); (try clear ho2)) | ((with_reducible refine gate_dst (N := 8) rfl ?_); refine box_event ?hg (N := 8) ?hd (cs := #[.slice none 0 0, .slice none 0 0, .slice none 0 0]) (t := 27) ?hr ?_; (case hd => rfl); (case hg => rfl); (case hr => first | (go_simp; done) | (go_simp; rfl)); intro gb348 hg w23 hbox hb; have GW348 := b6_ hg HB; have GE348 := b6_ hg HB; have NB327_348 := b4_ hg BK327; have NB348_327 := b5_ hg BK327; have n0_ := r1_ HO331 hb; have n1_ := r1_ HO334 hb; have n2_ := r1_ HO337 hb; have n3_ := r1_ HO340 hb; have n4_ := r1_ HO343 hb; have n5_ := r1_ HO346 hb; have n6_ := b3_ BK327 hb; have n7_ := Aside0.mk (below_step (y1_ HB.out) hb); have n8_ := Aside0.mk (hbox); clear HO331; clear HO334; clear HO337; clear HO340; clear HO343; clear HO346; clear BK327; clear HB; have HO331 := n0_; have HO334 := n1_; have HO337 := n2_; have HO340 := n3_; have HO343 := n4_; have HO346 := n5_; have BK327 := n6_; have HB := n7_; have BK348 := n8_; clear n0_ n1_ n2_ n3_ n4_ n5_ n6_ n7_ n8_; clear hb hbox hg; obtain ⟨Ao24, co24, eo24⟩ := Kd.R_slice HO340.out; subst eo24; have hnb25 := NB348_327.out; have hnc25 := NB327_348.out; have hcz26_0 : w23.cell? ⟨gb348, 0, none⟩ = some (.slice none 0 0) := (blk_cell BK348.out 0).trans rfl; have hcz26_1 : w23.cell? ⟨gb348, 1, none⟩ = some (.slice none 0 0) := (blk_cell BK348.out 1).trans rfl; have hcz26_2 : w23.cell? ⟨gb348, 2, none⟩ = some (.slice none 0 0) := (blk_cell BK348.out 2).trans rfl; have hfz26_0 := blk_frozen BK348.out 0; have hfz26_1 := blk_frozen BK348.out 1; have hfz26_2 := blk_frozen BK348.out 2; obtain ⟨Ao27, co27, eo27⟩ := Kd.R_slice HO343.out; subst eo27; obtain ⟨Ao28, co28, eo28⟩ := Kd.R_slice HO346.out; subst eo28; have hcz29_0 : w23.cell? ⟨gb327, 0, none⟩ = some (.slice A0_0 l0_0.length c0_0) := (blk_cell BK327.out 0).trans rfl; have hcz29_1 : w23.cell? ⟨gb327, 1, none⟩ = some (.slice A0_1 l0_1.length c0_1) := (blk_cell BK327.out 1).trans rfl; have hcz29_2 : w23.cell? ⟨gb327, 2, none⟩ = some (.slice A0_2 l0_2.length c0_2) := (blk_cell BK327.out 2).trans rfl; have hfz29_0 := blk_frozen BK327.out 0; have hfz29_1 := blk_frozen BK327.out 1; have hfz29_2 := blk_frozen BK327.out 2) | ((with_reducible refine gate_callee (f := 26) rfl ?_); refine goesL_ (some 32) rfl rfl Try.func26 s2_ rfl #[.agg #[.slice A0_0 l0_0.length c0_0, .slice A0_1 l0_1.length c0_1, .slice A0_2 l0_2.length c0_2]] rfl s3_ ?_; (with_reducible refine (laws_toPresence.calls k _ _ l0_0 _ _ l0_1 _ _ l0_2 t349 t352 t355 _ ?side1 ?side2 ?side3 ?side4 ?side5 ?side6 A11.out).mono ?_); (case side1 => exact Kd.C_below HR0_0.out (by repeat (first | (with_reducible first | exact HB.out | apply below_alloc | apply pw_below_drewN | apply below_drew1 | refine below_set ?_ GE348.out) | exact HB.out))); (case side2 => exact HC0_0.out); (case side3 => exact Kd.C_below HR0_1.out (by repeat (first | (with_reducible first | exact HB.out | apply below_alloc | apply pw_below_drewN | apply below_drew1 | refine below_set ?_ GE348.out) | exact HB.out))); (case side4 => exact HC0_1.out); (case side5 => exact Kd.C_below HR0_2.out (by repeat (first | (with_reducible first | exact HB.out | apply below_alloc | apply pw_below_drewN | apply below_drew1 | refine below_set ?_ GE348.out) | exact HB.out))); (case side6 => exact HC0_2.out); rintro e w30 ⟨v350, v353, v356, rfl, ho0, ho1, ho2, hb⟩; refine ⟨_, rfl, ?_⟩; have n0_ := Aside0.mk (Kd.R_mono (Kd.R_told (Kd.R_told (Kd.R_old (by (with_reducible repeat (first | apply Kd.R_alloc | apply Kd.R_drewN | apply Kd.R_drew)); exact (Kd.R_mono (Kd.R_far3 (g := gb348) (Kd.R_types HO331.out BK348.out (by decide)) (fun _ hk => hk.2)) (fun _ h_ => h_.1))) hb) (Kd.R_base ho0)) (Kd.R_base ho1)) (fun _ h_ => h_.1)); have n1_ := Aside0.mk (Kd.R_mono (Kd.R_told (Kd.R_told (Kd.R_old (by (with_reducible repeat (first | apply Kd.R_alloc | apply Kd.R_drewN | apply Kd.R_drew)); exact (Kd.R_mono (Kd.R_far3 (g := gb348) (Kd.R_types HO334.out BK348.out (by decide)) (fun _ hk => hk.2)) (fun _ h_ => h_.1))) hb) (Kd.R_base ho0)) (Kd.R_base ho1)) (fun _ h_ => h_.1)); have n2_ := Aside0.mk (Kd.R_elder' (by (with_reducible repeat (first | apply Kd.R_alloc | apply Kd.R_drewN | apply Kd.R_drew)); exact (Kd.R_mono (Kd.R_far3 (g := gb348) (Kd.R_types HO337.out BK348.out (by decide)) (fun _ hk => hk.2)) (fun _ h_ => h_.1))) (Kd.R_base ho2) hb); have n3_ := Aside0.mk (Kd.R_mono (Kd.R_told (Kd.R_told (Kd.R_old (by (with_reducible repeat (first | apply Kd.R_alloc | apply Kd.R_drewN | apply Kd.R_drew)); exact (Kd.R_mono (Kd.R_far3 (g := gb348) (Kd.R_types HO340.out BK348.out (by decide)) (fun _ hk => hk.2)) (fun _ h_ => h_.1))) hb) (Kd.R_base ho0)) (Kd.R_base ho1)) (fun _ h_ => h_.1)); have n4_ := Aside0.mk (Kd.R_mono (Kd.R_told (Kd.R_told (Kd.R_old (by (with_reducible repeat (first | apply Kd.R_alloc | apply Kd.R_drewN | apply Kd.R_drew)); exact (Kd.R_mono (Kd.R_far3 (g := gb348) (Kd.R_types HO343.out BK348.out (by decide)) (fun _ hk => hk.2)) (fun _ h_ => h_.1))) hb) (Kd.R_base ho0)) (Kd.R_base ho1)) (fun _ h_ => h_.1)); have n5_ := Aside0.mk (Kd.R_elder' (by (with_reducible repeat (first | apply Kd.R_alloc | apply Kd.R_drewN | apply Kd.R_drew)); exact (Kd.R_mono (Kd.R_far3 (g := gb348) (Kd.R_types HO346.out BK348.out (by decide)) (fun _ hk => hk.2)) (fun _ h_ => h_.1))) (Kd.R_base ho2) hb); have n6_ := Aside0.mk (Kd.R_lower (Kd.R_new' (Kd.R_new' (Kd.R_new' (Kd.R_new' ho0 (Kd.R_lt (by (with_reducible repeat (first | apply Kd.R_alloc | apply Kd.R_drewN | apply Kd.R_drew)); exact (Kd.R_mono (Kd.R_far3 (g := gb348) (Kd.R_types HO331.out BK348.out (by decide)) (fun _ hk => hk.2)) (fun _ h_ => h_.1))))) (Kd.R_lt (by (with_reducible repeat (first | apply Kd.R_alloc | apply Kd.R_drewN | apply Kd.R_drew)); exact (Kd.R_mono (Kd.R_far3 (g := gb348) (Kd.R_types HO334.out BK348.out (by decide)) (fun _ hk => hk.2)) (fun _ h_ => h_.1))))) (Kd.R_lt (by (with_reducible repeat (first | apply Kd.R_alloc | apply Kd.R_drewN | apply Kd.R_drew)); exact (Kd.R_mono (Kd.R_far3 (g := gb348) (Kd.R_types HO340.out BK348.out (by decide)) (fun _ hk => hk.2)) (fun _ h_ => h_.1))))) (Kd.R_lt (by (with_reducible repeat (first | apply Kd.R_alloc | apply Kd.R_drewN | apply Kd.R_drew)); exact (Kd.R_mono (Kd.R_far3 (g := gb348) (Kd.R_types HO343.out BK348.out (by decide)) (fun _ hk => hk.2)) (fun _ h_ => h_.1))))) (below_size (by repeat (first | (with_reducible first | exact HB.out | apply below_alloc | apply pw_below_drewN | apply below_drew1 | refine below_set ?_ GE348.out) | exact HB.out)))); have n7_ := Aside0.mk (Kd.R_lower (Kd.R_new' (Kd.R_new' (Kd.R_new' (Kd.R_new' ho1 (Kd.R_lt (by (with_reducible repeat (first | apply Kd.R_alloc | apply Kd.R_drewN | apply Kd.R_drew)); exact (Kd.R_mono (Kd.R_far3 (g := gb348) (Kd.R_types HO331.out BK348.out (by decide)) (fun _ hk => hk.2)) (fun _ h_ => h_.1))))) (Kd.R_lt (by (with_reducible repeat (first | apply Kd.R_alloc | apply Kd.R_drewN | apply Kd.R_drew)); exact (Kd.R_mono (Kd.R_far3 (g := gb348) (Kd.R_types HO334.out BK348.out (by decide)) (fun _ hk => hk.2)) (fun _ h_ => h_.1))))) (Kd.R_lt (by (with_reducible repeat (first | apply Kd.R_alloc | apply Kd.R_drewN | apply Kd.R_drew)); exact (Kd.R_mono (Kd.R_far3 (g := gb348) (Kd.R_types HO340.out BK348.out (by decide)) (fun _ hk => hk.2)) (fun _ h_ => h_.1))))) (Kd.R_lt (by (with_reducible repeat (first | apply Kd.R_alloc | apply Kd.R_drewN | apply Kd.R_drew)); exact (Kd.R_mono (Kd.R_far3 (g := gb348) (Kd.R_types HO343.out BK348.out (by decide)) (fun _ hk => hk.2)) (fun _ h_ => h_.1))))) (below_size (by repeat (first | (with_reducible first | exact HB.out | apply below_alloc | apply pw_below_drewN | apply below_drew1 | refine below_set ?_ GE348.out) | exact HB.out)))); have n8_ := Aside0.mk (Kd.R_lower (Kd.R_new' (Kd.R_new' ho2 (Kd.R_lt (by (with_reducible repeat (first | apply Kd.R_alloc | apply Kd.R_drewN | apply Kd.R_drew)); exact (Kd.R_mono (Kd.R_far3 (g := gb348) (Kd.R_types HO337.out BK348.out (by decide)) (fun _ hk => hk.2)) (fun _ h_ => h_.1))))) (Kd.R_lt (by (with_reducible repeat (first | apply Kd.R_alloc | apply Kd.R_drewN | apply Kd.R_drew)); exact (Kd.R_mono (Kd.R_far3 (g := gb348) (Kd.R_types HO346.out BK348.out (by decide)) (fun _ hk => hk.2)) (fun _ h_ => h_.1))))) (below_size (by repeat (first | (with_reducible first | exact HB.out | apply below_alloc | apply pw_below_drewN | apply below_drew1 | refine below_set ?_ GE348.out) | exact HB.out)))); have n9_ := Aside0.mk (blk_below (g := gb327) (o := .cells #[.slice A0_0 l0_0.length c0_0, .slice A0_1 l0_1.length c0_1, .slice A0_2 l0_2.length c0_2] 45 (0, 0)) (by (with_reducible repeat (first | refine blk_drewN ?_ _ | refine blk_drew ?_ | refine blk_alloc ?_ _)); refine blk_far3 ?_ NB327_348.out; (with_reducible repeat (first | refine blk_drewN ?_ _ | refine blk_drew ?_ | refine blk_alloc ?_ _)); exact BK327.out) hb); have n10_ := Aside0.mk (blk_below (g := gb348) (o := .cells #[.slice Ao24 t338.length co24, .slice Ao27 t341.length co27, .slice Ao28 t344.length co28] 27 (0, 0)) (by (with_reducible repeat (first | refine blk_drewN ?_ _ | refine blk_drew ?_ | refine blk_alloc ?_ _)); refine blk_put3 (cs := #[.slice none 0 0, .slice none 0 0, .slice none 0 0]) ?_ rfl; (with_reducible repeat (first | refine blk_drewN ?_ _ | refine blk_drew ?_ | refine blk_alloc ?_ _)); exact BK348.out) hb); have n11_ := Aside0.mk (below_step (by repeat (first | (with_reducible first | exact HB.out | apply below_alloc | apply pw_below_drewN | apply below_drew1 | refine below_set ?_ GE348.out) | exact HB.out)) hb); clear HO331; clear HO334; clear HO337; clear HO340; clear HO343; clear HO346; clear BK327; clear BK348; clear HB; have HO331 := n0_; have HO334 := n1_; have HO337 := n2_; have HO340 := n3_; have HO343 := n4_; have HO346 := n5_; have HO351 := n6_; have HO354 := n7_; have HO357 := n8_; have BK327 := n9_; have BK348 := n10_; have HB := n11_; clear n0_ n1_ n2_ n3_ n4_ n5_ n6_ n7_ n8_ n9_ n10_ n11_; (try clear hb); (try clear hb2); (try clear hk); (try clear hi); (try clear ho0); (try clear ho1); (try clear ho2)) | ((with_reducible refine gate_dst (N := 10) rfl ?_); refine box_event ?hg (N := 10) ?hd (cs := #[.slice none 0 0, .slice none 0 0, .slice none 0 0]) (t := 27) ?hr ?_; (case hd => rfl); (case hg => rfl); (case hr => first | (go_simp; done) | (go_simp; rfl)); intro gb358 hg w31 hbox hb; have GW358 := b6_ hg HB; have GE358 := b6_ hg HB; have NB327_358 := b4_ hg BK327; have NB358_327 := b5_ hg BK327; have NB348_358 := b4_ hg BK348; have NB358_348 := b5_ hg BK348; have n0_ := r1_ HO331 hb; have n1_ := r1_ HO334 hb; have n2_ := r1_ HO337 hb; have n3_ := r1_ HO340 hb; have n4_ := r1_ HO343 hb; have n5_ := r1_ HO346 hb; have n6_ := r1_ HO351 hb; have n7_ := r1_ HO354 hb; have n8_ := r1_ HO357 hb; have n9_ := b3_ BK327 hb; have n10_ := b3_ BK348 hb; have n11_ := Aside0.mk (below_step (y1_ HB.out) hb); have n12_ := Aside0.mk (hbox); clear HO331; clear HO334; clear HO337; clear HO340; clear HO343; clear HO346; clear HO351; clear HO354; clear HO357; clear BK327; clear BK348; clear HB; have HO331 := n0_; have HO334 := n1_; have HO337 := n2_; have HO340 := n3_; have HO343 := n4_; have HO346 := n5_; have HO351 := n6_; have HO354 := n7_; have HO357 := n8_; have BK327 := n9_; have BK348 := n10_; have HB := n11_; have BK358 := n12_; clear n0_ n1_ n2_ n3_ n4_ n5_ n6_ n7_ n8_ n9_ n10_ n11_ n12_; clear hb hbox hg; obtain ⟨Ao32, co32, eo32⟩ := Kd.R_slice HO351.out; subst eo32; have hnb33 := NB358_327.out; have hnc33 := NB327_358.out; have hnb34 := NB358_348.out; have hnc34 := NB348_358.out; have hcz35_0 : w31.cell? ⟨gb358, 0, none⟩ = some (.slice none 0 0) := (blk_cell BK358.out 0).trans rfl; have hcz35_1 : w31.cell? ⟨gb358, 1, none⟩ = some (.slice none 0 0) := (blk_cell BK358.out 1).trans rfl; have hcz35_2 : w31.cell? ⟨gb358, 2, none⟩ = some (.slice none 0 0) := (blk_cell BK358.out 2).trans rfl; have hfz35_0 := blk_frozen BK358.out 0; have hfz35_1 := blk_frozen BK358.out 1; have hfz35_2 := blk_frozen BK358.out 2; obtain ⟨Ao36, co36, eo36⟩ := Kd.R_slice HO354.out; subst eo36; obtain ⟨Ao37, co37, eo37⟩ := Kd.R_slice HO357.out; subst eo37) | ((with_reducible refine gate_callee (f := 34) rfl ?_); refine goesL_ (some 37) rfl rfl Try.func34 s2_ rfl #[.agg #[.slice Ao32 t349.length co32, .slice Ao36 t352.length co36, .slice Ao37 t355.length co37], .int .i64 a1, .int .i64 a2] rfl s3_ ?_; (with_reducible refine (impl_ReadUpTo.calls k _ _ t349 _ _ t352 _ _ t355 a1 a2 t359 t362 t365 t368 _ ?side1 ?side2 ?side3 ?side4 ?side5 ?side6 A12.out).mono ?_); (case side1 => refine (Kd.R_reads' (e := 63) (base := w.heap.size) (ok := fun k_ => ((((some k_ ≠ (.slice Ao36 t352.length co36 : Value).ownBlock ∧ some k_ ≠ (.slice Ao19 t329.length co19 : Value).ownBlock) ∧ some k_ ≠ (.slice Ao20 t332.length co20 : Value).ownBlock) ∧ some k_ ≠ (.slice Ao24 t338.length co24 : Value).ownBlock) ∧ some k_ ≠ (.slice Ao27 t341.length co27 : Value).ownBlock)) (n := t349.length) (c := co32) ?_).2.2; exact (by (with_reducible repeat (first | apply Kd.R_alloc | apply Kd.R_drewN | apply Kd.R_drew)); exact (Kd.R_mono (Kd.R_far3 (g := gb358) (Kd.R_types HO351.out BK358.out (by decide)) (fun _ hk => hk.2)) (fun _ h_ => h_.1)))); (case side2 => exact (Kd.R_reads' HO351.out).2.1); (case side3 => refine (Kd.R_reads' (e := 63) (base := w.heap.size) (ok := fun k_ => ((((some k_ ≠ (.slice Ao32 t349.length co32 : Value).ownBlock ∧ some k_ ≠ (.slice Ao19 t329.length co19 : Value).ownBlock) ∧ some k_ ≠ (.slice Ao20 t332.length co20 : Value).ownBlock) ∧ some k_ ≠ (.slice Ao24 t338.length co24 : Value).ownBlock) ∧ some k_ ≠ (.slice Ao27 t341.length co27 : Value).ownBlock)) (n := t352.length) (c := co36) ?_).2.2; exact (by (with_reducible repeat (first | apply Kd.R_alloc | apply Kd.R_drewN | apply Kd.R_drew)); exact (Kd.R_mono (Kd.R_far3 (g := gb358) (Kd.R_types HO354.out BK358.out (by decide)) (fun _ hk => hk.2)) (fun _ h_ => h_.1)))); (case side4 => exact (Kd.R_reads' HO354.out).2.1); (case side5 => refine (Kd.R_reads' (e := 73) (base := w.heap.size) (ok := fun k_ => ((True ∧ some k_ ≠ (.slice Ao21 t335.length co21 : Value).ownBlock) ∧ some k_ ≠ (.slice Ao28 t344.length co28 : Value).ownBlock)) (n := t355.length) (c := co37) ?_).2.2; exact (by (with_reducible repeat (first | apply Kd.R_alloc | apply Kd.R_drewN | apply Kd.R_drew)); exact (Kd.R_mono (Kd.R_far3 (g := gb358) (Kd.R_types HO357.out BK358.out (by decide)) (fun _ hk => hk.2)) (fun _ h_ => h_.1)))); (case side6 => exact (Kd.R_reads' HO357.out).2.1); rintro e w38 ⟨v360, v363, v366, rfl, ho0, ho1, ho2, hb⟩; refine ⟨_, rfl, ?_⟩; have n0_ := Aside0.mk (Kd.R_mono (Kd.R_told (Kd.R_told (Kd.R_old (by (with_reducible repeat (first | apply Kd.R_alloc | apply Kd.R_drewN | apply Kd.R_drew)); exact (Kd.R_mono (Kd.R_far3 (g := gb358) (Kd.R_types HO331.out BK358.out (by decide)) (fun _ hk => hk.2)) (fun _ h_ => h_.1))) hb) (Kd.R_base ho0)) (Kd.R_base ho1)) (fun _ h_ => h_.1)); have n1_ := Aside0.mk (Kd.R_mono (Kd.R_told (Kd.R_told (Kd.R_old (by (with_reducible repeat (first | apply Kd.R_alloc | apply Kd.R_drewN | apply Kd.R_drew)); exact (Kd.R_mono (Kd.R_far3 (g := gb358) (Kd.R_types HO334.out BK358.out (by decide)) (fun _ hk => hk.2)) (fun _ h_ => h_.1))) hb) (Kd.R_base ho0)) (Kd.R_base ho1)) (fun _ h_ => h_.1)); have n2_ := Aside0.mk (Kd.R_elder' (by (with_reducible repeat (first | apply Kd.R_alloc | apply Kd.R_drewN | apply Kd.R_drew)); exact (Kd.R_mono (Kd.R_far3 (g := gb358) (Kd.R_types HO337.out BK358.out (by decide)) (fun _ hk => hk.2)) (fun _ h_ => h_.1))) (Kd.R_base ho2) hb); have n3_ := Aside0.mk (Kd.R_mono (Kd.R_told (Kd.R_told (Kd.R_old (by (with_reducible repeat (first | apply Kd.R_alloc | apply Kd.R_drewN | apply Kd.R_drew)); exact (Kd.R_mono (Kd.R_far3 (g := gb358) (Kd.R_types HO340.out BK358.out (by decide)) (fun _ hk => hk.2)) (fun _ h_ => h_.1))) hb) (Kd.R_base ho0)) (Kd.R_base ho1)) (fun _ h_ => h_.1)); have n4_ := Aside0.mk (Kd.R_mono (Kd.R_told (Kd.R_told (Kd.R_old (by (with_reducible repeat (first | apply Kd.R_alloc | apply Kd.R_drewN | apply Kd.R_drew)); exact (Kd.R_mono (Kd.R_far3 (g := gb358) (Kd.R_types HO343.out BK358.out (by decide)) (fun _ hk => hk.2)) (fun _ h_ => h_.1))) hb) (Kd.R_base ho0)) (Kd.R_base ho1)) (fun _ h_ => h_.1)); have n5_ := Aside0.mk (Kd.R_elder' (by (with_reducible repeat (first | apply Kd.R_alloc | apply Kd.R_drewN | apply Kd.R_drew)); exact (Kd.R_mono (Kd.R_far3 (g := gb358) (Kd.R_types HO346.out BK358.out (by decide)) (fun _ hk => hk.2)) (fun _ h_ => h_.1))) (Kd.R_base ho2) hb); have n6_ := Aside0.mk (Kd.R_mono (Kd.R_told (Kd.R_told (Kd.R_old (by (with_reducible repeat (first | apply Kd.R_alloc | apply Kd.R_drewN | apply Kd.R_drew)); exact (Kd.R_mono (Kd.R_far3 (g := gb358) (Kd.R_types HO351.out BK358.out (by decide)) (fun _ hk => hk.2)) (fun _ h_ => h_.1))) hb) (Kd.R_base ho0)) (Kd.R_base ho1)) (fun _ h_ => h_.1)); have n7_ := Aside0.mk (Kd.R_mono (Kd.R_told (Kd.R_told (Kd.R_old (by (with_reducible repeat (first | apply Kd.R_alloc | apply Kd.R_drewN | apply Kd.R_drew)); exact (Kd.R_mono (Kd.R_far3 (g := gb358) (Kd.R_types HO354.out BK358.out (by decide)) (fun _ hk => hk.2)) (fun _ h_ => h_.1))) hb) (Kd.R_base ho0)) (Kd.R_base ho1)) (fun _ h_ => h_.1)); have n8_ := Aside0.mk (Kd.R_elder' (by (with_reducible repeat (first | apply Kd.R_alloc | apply Kd.R_drewN | apply Kd.R_drew)); exact (Kd.R_mono (Kd.R_far3 (g := gb358) (Kd.R_types HO357.out BK358.out (by decide)) (fun _ hk => hk.2)) (fun _ h_ => h_.1))) (Kd.R_base ho2) hb); have n9_ := Aside0.mk (Kd.R_lower (Kd.R_new' (Kd.R_new' (Kd.R_new' (Kd.R_new' (Kd.R_new' (Kd.R_new' ho0 (Kd.R_lt (by (with_reducible repeat (first | apply Kd.R_alloc | apply Kd.R_drewN | apply Kd.R_drew)); exact (Kd.R_mono (Kd.R_far3 (g := gb358) (Kd.R_types HO331.out BK358.out (by decide)) (fun _ hk => hk.2)) (fun _ h_ => h_.1))))) (Kd.R_lt (by (with_reducible repeat (first | apply Kd.R_alloc | apply Kd.R_drewN | apply Kd.R_drew)); exact (Kd.R_mono (Kd.R_far3 (g := gb358) (Kd.R_types HO334.out BK358.out (by decide)) (fun _ hk => hk.2)) (fun _ h_ => h_.1))))) (Kd.R_lt (by (with_reducible repeat (first | apply Kd.R_alloc | apply Kd.R_drewN | apply Kd.R_drew)); exact (Kd.R_mono (Kd.R_far3 (g := gb358) (Kd.R_types HO340.out BK358.out (by decide)) (fun _ hk => hk.2)) (fun _ h_ => h_.1))))) (Kd.R_lt (by (with_reducible repeat (first | apply Kd.R_alloc | apply Kd.R_drewN | apply Kd.R_drew)); exact (Kd.R_mono (Kd.R_far3 (g := gb358) (Kd.R_types HO343.out BK358.out (by decide)) (fun _ hk => hk.2)) (fun _ h_ => h_.1))))) (Kd.R_lt (by (with_reducible repeat (first | apply Kd.R_alloc | apply Kd.R_drewN | apply Kd.R_drew)); exact (Kd.R_mono (Kd.R_far3 (g := gb358) (Kd.R_types HO351.out BK358.out (by decide)) (fun _ hk => hk.2)) (fun _ h_ => h_.1))))) (Kd.R_lt (by (with_reducible repeat (first | apply Kd.R_alloc | apply Kd.R_drewN | apply Kd.R_drew)); exact (Kd.R_mono (Kd.R_far3 (g := gb358) (Kd.R_types HO354.out BK358.out (by decide)) (fun _ hk => hk.2)) (fun _ h_ => h_.1))))) (below_size (by repeat (first | (with_reducible first | exact HB.out | apply below_alloc | apply pw_below_drewN | apply below_drew1 | refine below_set ?_ GE358.out) | exact HB.out)))); have n10_ := Aside0.mk (Kd.R_lower (Kd.R_new' (Kd.R_new' (Kd.R_new' (Kd.R_new' (Kd.R_new' (Kd.R_new' ho1 (Kd.R_lt (by (with_reducible repeat (first | apply Kd.R_alloc | apply Kd.R_drewN | apply Kd.R_drew)); exact (Kd.R_mono (Kd.R_far3 (g := gb358) (Kd.R_types HO331.out BK358.out (by decide)) (fun _ hk => hk.2)) (fun _ h_ => h_.1))))) (Kd.R_lt (by (with_reducible repeat (first | apply Kd.R_alloc | apply Kd.R_drewN | apply Kd.R_drew)); exact (Kd.R_mono (Kd.R_far3 (g := gb358) (Kd.R_types HO334.out BK358.out (by decide)) (fun _ hk => hk.2)) (fun _ h_ => h_.1))))) (Kd.R_lt (by (with_reducible repeat (first | apply Kd.R_alloc | apply Kd.R_drewN | apply Kd.R_drew)); exact (Kd.R_mono (Kd.R_far3 (g := gb358) (Kd.R_types HO340.out BK358.out (by decide)) (fun _ hk => hk.2)) (fun _ h_ => h_.1))))) (Kd.R_lt (by (with_reducible repeat (first | apply Kd.R_alloc | apply Kd.R_drewN | apply Kd.R_drew)); exact (Kd.R_mono (Kd.R_far3 (g := gb358) (Kd.R_types HO343.out BK358.out (by decide)) (fun _ hk => hk.2)) (fun _ h_ => h_.1))))) (Kd.R_lt (by (with_reducible repeat (first | apply Kd.R_alloc | apply Kd.R_drewN | apply Kd.R_drew)); exact (Kd.R_mono (Kd.R_far3 (g := gb358) (Kd.R_types HO351.out BK358.out (by decide)) (fun _ hk => hk.2)) (fun _ h_ => h_.1))))) (Kd.R_lt (by (with_reducible repeat (first | apply Kd.R_alloc | apply Kd.R_drewN | apply Kd.R_drew)); exact (Kd.R_mono (Kd.R_far3 (g := gb358) (Kd.R_types HO354.out BK358.out (by decide)) (fun _ hk => hk.2)) (fun _ h_ => h_.1))))) (below_size (by repeat (first | (with_reducible first | exact HB.out | apply below_alloc | apply pw_below_drewN | apply below_drew1 | refine below_set ?_ GE358.out) | exact HB.out)))); have n11_ := Aside0.mk (Kd.R_lower (Kd.R_new' (Kd.R_new' (Kd.R_new' ho2 (Kd.R_lt (by (with_reducible repeat (first | apply Kd.R_alloc | apply Kd.R_drewN | apply Kd.R_drew)); exact (Kd.R_mono (Kd.R_far3 (g := gb358) (Kd.R_types HO337.out BK358.out (by decide)) (fun _ hk => hk.2)) (fun _ h_ => h_.1))))) (Kd.R_lt (by (with_reducible repeat (first | apply Kd.R_alloc | apply Kd.R_drewN | apply Kd.R_drew)); exact (Kd.R_mono (Kd.R_far3 (g := gb358) (Kd.R_types HO346.out BK358.out (by decide)) (fun _ hk => hk.2)) (fun _ h_ => h_.1))))) (Kd.R_lt (by (with_reducible repeat (first | apply Kd.R_alloc | apply Kd.R_drewN | apply Kd.R_drew)); exact (Kd.R_mono (Kd.R_far3 (g := gb358) (Kd.R_types HO357.out BK358.out (by decide)) (fun _ hk => hk.2)) (fun _ h_ => h_.1))))) (below_size (by repeat (first | (with_reducible first | exact HB.out | apply below_alloc | apply pw_below_drewN | apply below_drew1 | refine below_set ?_ GE358.out) | exact HB.out)))); have n12_ := Aside0.mk (blk_below (g := gb327) (o := .cells #[.slice A0_0 l0_0.length c0_0, .slice A0_1 l0_1.length c0_1, .slice A0_2 l0_2.length c0_2] 45 (0, 0)) (by (with_reducible repeat (first | refine blk_drewN ?_ _ | refine blk_drew ?_ | refine blk_alloc ?_ _)); refine blk_far3 ?_ NB327_358.out; (with_reducible repeat (first | refine blk_drewN ?_ _ | refine blk_drew ?_ | refine blk_alloc ?_ _)); exact BK327.out) hb); have n13_ := Aside0.mk (blk_below (g := gb348) (o := .cells #[.slice Ao24 t338.length co24, .slice Ao27 t341.length co27, .slice Ao28 t344.length co28] 27 (0, 0)) (by (with_reducible repeat (first | refine blk_drewN ?_ _ | refine blk_drew ?_ | refine blk_alloc ?_ _)); refine blk_far3 ?_ NB348_358.out; (with_reducible repeat (first | refine blk_drewN ?_ _ | refine blk_drew ?_ | refine blk_alloc ?_ _)); exact BK348.out) hb); have n14_ := Aside0.mk (blk_below (g := gb358) (o := .cells #[.slice Ao32 t349.length co32, .slice Ao36 t352.length co36, .slice Ao37 t355.length co37] 27 (0, 0)) (by (with_reducible repeat (first | refine blk_drewN ?_ _ | refine blk_drew ?_ | refine blk_alloc ?_ _)); refine blk_put3 (cs := #[.slice none 0 0, .slice none 0 0, .slice none 0 0]) ?_ rfl; (with_reducible repeat (first | refine blk_drewN ?_ _ | refine blk_drew ?_ | refine blk_alloc ?_ _)); exact BK358.out) hb); have n15_ := Aside0.mk (below_step (by repeat (first | (with_reducible first | exact HB.out | apply below_alloc | apply pw_below_drewN | apply below_drew1 | refine below_set ?_ GE358.out) | exact HB.out)) hb); clear HO331; clear HO334; clear HO337; clear HO340; clear HO343; clear HO346; clear HO351; clear HO354; clear HO357; clear BK327; clear BK348; clear BK358; clear HB; have HO331 := n0_; have HO334 := n1_; have HO337 := n2_; have HO340 := n3_; have HO343 := n4_; have HO346 := n5_; have HO351 := n6_; have HO354 := n7_; have HO357 := n8_; have HO361 := n9_; have HO364 := n10_; have HO367 := n11_; have BK327 := n12_; have BK348 := n13_; have BK358 := n14_; have HB := n15_; clear n0_ n1_ n2_ n3_ n4_ n5_ n6_ n7_ n8_ n9_ n10_ n11_ n12_ n13_ n14_ n15_; (try clear hb); (try clear hb2); (try clear hk); (try clear hi); (try clear ho0); (try clear ho1); (try clear ho2)) | ((with_reducible refine gate_dst (N := 11) rfl ?_); refine box_event ?hg (N := 11) ?hd (cs := #[.slice none 0 0, .slice none 0 0, .slice none 0 0]) (t := 27) ?hr ?_; (case hd => rfl); (case hg => rfl); (case hr => first | (go_simp; done) | (go_simp; rfl)); intro gb369 hg w39 hbox hb; have GW369 := b6_ hg HB; have GE369 := b6_ hg HB; have NB327_369 := b4_ hg BK327; have NB369_327 := b5_ hg BK327; have NB348_369 := b4_ hg BK348; have NB369_348 := b5_ hg BK348; have NB358_369 := b4_ hg BK358; have NB369_358 := b5_ hg BK358; have n0_ := r1_ HO331 hb; have n1_ := r1_ HO334 hb; have n2_ := r1_ HO337 hb; have n3_ := r1_ HO340 hb; have n4_ := r1_ HO343 hb; have n5_ := r1_ HO346 hb; have n6_ := r1_ HO351 hb; have n7_ := r1_ HO354 hb; have n8_ := r1_ HO357 hb; have n9_ := r1_ HO361 hb; have n10_ := r1_ HO364 hb; have n11_ := r1_ HO367 hb; have n12_ := b3_ BK327 hb; have n13_ := b3_ BK348 hb; have n14_ := b3_ BK358 hb; have n15_ := Aside0.mk (below_step (y1_ HB.out) hb); have n16_ := Aside0.mk (hbox); clear HO331; clear HO334; clear HO337; clear HO340; clear HO343; clear HO346; clear HO351; clear HO354; clear HO357; clear HO361; clear HO364; clear HO367; clear BK327; clear BK348; clear BK358; clear HB; have HO331 := n0_; have HO334 := n1_; have HO337 := n2_; have HO340 := n3_; have HO343 := n4_; have HO346 := n5_; have HO351 := n6_; have HO354 := n7_; have HO357 := n8_; have HO361 := n9_; have HO364 := n10_; have HO367 := n11_; have BK327 := n12_; have BK348 := n13_; have BK358 := n14_; have HB := n15_; have BK369 := n16_; clear n0_ n1_ n2_ n3_ n4_ n5_ n6_ n7_ n8_ n9_ n10_ n11_ n12_ n13_ n14_ n15_ n16_; clear hb hbox hg; obtain ⟨Ao40, co40, eo40⟩ := Kd.R_slice HO361.out; subst eo40; have hnb41 := NB369_327.out; have hnc41 := NB327_369.out; have hnb42 := NB369_348.out; have hnc42 := NB348_369.out; have hnb43 := NB369_358.out; have hnc43 := NB358_369.out; have hcz44_0 : w39.cell? ⟨gb369, 0, none⟩ = some (.slice none 0 0) := (blk_cell BK369.out 0).trans rfl; have hcz44_1 : w39.cell? ⟨gb369, 1, none⟩ = some (.slice none 0 0) := (blk_cell BK369.out 1).trans rfl; have hcz44_2 : w39.cell? ⟨gb369, 2, none⟩ = some (.slice none 0 0) := (blk_cell BK369.out 2).trans rfl; have hfz44_0 := blk_frozen BK369.out 0; have hfz44_1 := blk_frozen BK369.out 1; have hfz44_2 := blk_frozen BK369.out 2; obtain ⟨Ao45, co45, eo45⟩ := Kd.R_slice HO364.out; subst eo45; obtain ⟨Ao46, co46, eo46⟩ := Kd.R_slice HO367.out; subst eo46))
 (try simp only [Act.put, List.setIfInBounds_toArray, List.set_cons_zero, List.set_cons_succ])
 go_cut [48] (fun v48 wc => ∃ (kq : Nat) (x48_12 : Bool), v48 = .bool x48_12 ∧ Aside0 (laws_FnExactReadUpTo.j0 kq a1 a2 t347 t368 x48_12 l0_0 l0_1 l0_2 t338 t341 t344 t349 t352 t355 t359 t362 t365 = some r) ∧ Aside0 (kq ≤ k) ∧ Aside0 (Kd.R k63 63 wc w.heap.size (fun k_ => some k_ ≠ ((.slice Ao27 t341.length co27) : Value).ownBlock ∧ some k_ ≠ ((.slice Ao32 t349.length co32) : Value).ownBlock ∧ some k_ ≠ ((.slice Ao36 t352.length co36) : Value).ownBlock ∧ some k_ ≠ ((.slice Ao40 t359.length co40) : Value).ownBlock ∧ some k_ ≠ ((.slice Ao45 t362.length co45) : Value).ownBlock) (.slice Ao24 t338.length co24) t338) ∧ Aside0 (Kd.R k63 63 wc w.heap.size (fun k_ => some k_ ≠ ((.slice Ao24 t338.length co24) : Value).ownBlock ∧ some k_ ≠ ((.slice Ao32 t349.length co32) : Value).ownBlock ∧ some k_ ≠ ((.slice Ao36 t352.length co36) : Value).ownBlock ∧ some k_ ≠ ((.slice Ao40 t359.length co40) : Value).ownBlock ∧ some k_ ≠ ((.slice Ao45 t362.length co45) : Value).ownBlock) (.slice Ao27 t341.length co27) t341) ∧ Aside0 (Kd.R k73 73 wc w.heap.size (fun k_ => some k_ ≠ ((.slice Ao37 t355.length co37) : Value).ownBlock ∧ some k_ ≠ ((.slice Ao46 t365.length co46) : Value).ownBlock) (.slice Ao28 t344.length co28) t344) ∧ Aside0 (Kd.R k63 63 wc w.heap.size (fun k_ => some k_ ≠ ((.slice Ao24 t338.length co24) : Value).ownBlock ∧ some k_ ≠ ((.slice Ao27 t341.length co27) : Value).ownBlock ∧ some k_ ≠ ((.slice Ao36 t352.length co36) : Value).ownBlock ∧ some k_ ≠ ((.slice Ao40 t359.length co40) : Value).ownBlock ∧ some k_ ≠ ((.slice Ao45 t362.length co45) : Value).ownBlock) (.slice Ao32 t349.length co32) t349) ∧ Aside0 (Kd.R k63 63 wc w.heap.size (fun k_ => some k_ ≠ ((.slice Ao24 t338.length co24) : Value).ownBlock ∧ some k_ ≠ ((.slice Ao27 t341.length co27) : Value).ownBlock ∧ some k_ ≠ ((.slice Ao32 t349.length co32) : Value).ownBlock ∧ some k_ ≠ ((.slice Ao40 t359.length co40) : Value).ownBlock ∧ some k_ ≠ ((.slice Ao45 t362.length co45) : Value).ownBlock) (.slice Ao36 t352.length co36) t352) ∧ Aside0 (Kd.R k73 73 wc w.heap.size (fun k_ => some k_ ≠ ((.slice Ao28 t344.length co28) : Value).ownBlock ∧ some k_ ≠ ((.slice Ao46 t365.length co46) : Value).ownBlock) (.slice Ao37 t355.length co37) t355) ∧ Aside0 (Kd.R k63 63 wc w.heap.size (fun k_ => some k_ ≠ ((.slice Ao24 t338.length co24) : Value).ownBlock ∧ some k_ ≠ ((.slice Ao27 t341.length co27) : Value).ownBlock ∧ some k_ ≠ ((.slice Ao32 t349.length co32) : Value).ownBlock ∧ some k_ ≠ ((.slice Ao36 t352.length co36) : Value).ownBlock ∧ some k_ ≠ ((.slice Ao45 t362.length co45) : Value).ownBlock) (.slice Ao40 t359.length co40) t359) ∧ Aside0 (Kd.R k63 63 wc w.heap.size (fun k_ => some k_ ≠ ((.slice Ao24 t338.length co24) : Value).ownBlock ∧ some k_ ≠ ((.slice Ao27 t341.length co27) : Value).ownBlock ∧ some k_ ≠ ((.slice Ao32 t349.length co32) : Value).ownBlock ∧ some k_ ≠ ((.slice Ao36 t352.length co36) : Value).ownBlock ∧ some k_ ≠ ((.slice Ao40 t359.length co40) : Value).ownBlock) (.slice Ao45 t362.length co45) t362) ∧ Aside0 (Kd.R k73 73 wc w.heap.size (fun k_ => some k_ ≠ ((.slice Ao28 t344.length co28) : Value).ownBlock ∧ some k_ ≠ ((.slice Ao37 t355.length co37) : Value).ownBlock) (.slice Ao46 t365.length co46) t365) ∧ Aside0 (wc.heap[gb327]? = some (.cells #[(.slice A0_0 l0_0.length c0_0), (.slice A0_1 l0_1.length c0_1), (.slice A0_2 l0_2.length c0_2)] 45 (0, 0))) ∧ Aside0 (wc.heap[gb348]? = some (.cells #[(.slice Ao24 t338.length co24), (.slice Ao27 t341.length co27), (.slice Ao28 t344.length co28)] 27 (0, 0))) ∧ Aside0 (wc.heap[gb358]? = some (.cells #[(.slice Ao32 t349.length co32), (.slice Ao36 t352.length co36), (.slice Ao37 t355.length co37)] 27 (0, 0))) ∧ Aside0 (wc.heap[gb369]? = some (.cells #[(.slice Ao40 t359.length co40), (.slice Ao45 t362.length co45), (.slice Ao46 t365.length co46)] 27 (0, 0))) ∧ Aside0 (Below w.heap.size w wc))
 case first =>
  as_aux_lemma =>
   skip
   {
 have H := HC13.out
 clear HC13
 replace H := Option.bind_eq_some_iff.mp H
 obtain ⟨t370, A470, H⟩ := H
 replace H : (if t370 = true then (laws_FnExactReadUpTo.j0 k a1 a2 t347 t368 (t368 != t347) l0_0 l0_1 l0_2 t338 t341 t344 t349 t352 t355 t359 t362 t365) else (laws_FnExactReadUpTo.j0 k a1 a2 t347 t368 true l0_0 l0_1 l0_2 t338 t341 t344 t349 t352 t355 t359 t362 t365)) = some r := H
 have A47 := Aside0.mk A470
 clear A470
 by_cases c48 : t370 = true
 {
 subst c48
 have H1 : (laws_FnExactReadUpTo.j0 k a1 a2 t347 t368 (t368 != t347) l0_0 l0_1 l0_2 t338 t341 t344 t349 t352 t355 t359 t362 t365) = some r := by rw [if_pos rfl] at H; exact H
 clear H
 have H := H1
 clear H1
 have H' := Aside0.mk H
 clear H
 have hnb49 := NB369_327.out
 have hnc49 := NB327_369.out
 have hnb50 := NB369_348.out
 have hnc50 := NB348_369.out
 have hnb51 := NB369_358.out
 have hnc51 := NB358_369.out
 have hcz52_0 : w39.cell? ⟨gb369, 0, none⟩ = some (.slice none 0 0) := (blk_cell BK369.out 0).trans rfl
 have hcz52_1 : w39.cell? ⟨gb369, 1, none⟩ = some (.slice none 0 0) := (blk_cell BK369.out 1).trans rfl
 have hcz52_2 : w39.cell? ⟨gb369, 2, none⟩ = some (.slice none 0 0) := (blk_cell BK369.out 2).trans rfl
 have hfz52_0 := blk_frozen BK369.out 0
 have hfz52_1 := blk_frozen BK369.out 1
 have hfz52_2 := blk_frozen BK369.out 2
 have hnb53 := NB348_327.out
 have hnc53 := NB327_348.out
 have hnb54 := NB348_358.out
 have hnc54 := NB358_348.out
 have hcz55_0 : w39.cell? ⟨gb348, 0, none⟩ = some (.slice Ao24 t338.length co24) := (blk_cell BK348.out 0).trans rfl
 have hcz55_1 : w39.cell? ⟨gb348, 1, none⟩ = some (.slice Ao27 t341.length co27) := (blk_cell BK348.out 1).trans rfl
 have hcz55_2 : w39.cell? ⟨gb348, 2, none⟩ = some (.slice Ao28 t344.length co28) := (blk_cell BK348.out 2).trans rfl
 have hfz55_0 := blk_frozen BK348.out 0
 have hfz55_1 := blk_frozen BK348.out 1
 have hfz55_2 := blk_frozen BK348.out 2
 go_wp2_with (first | ((with_reducible refine gate_callee (f := 27) rfl ?_); refine goesL_ (some 42) rfl rfl Try.func27 s2_ rfl #[.agg #[.slice Ao40 t359.length co40, .slice Ao45 t362.length co45, .slice Ao46 t365.length co46], .agg #[.slice Ao24 t338.length co24, .slice Ao27 t341.length co27, .slice Ao28 t344.length co28]] rfl s3_ ?_; (with_reducible refine (laws_eqPresence.calls k _ _ t359 _ _ t362 _ _ t365 _ _ t338 _ _ t341 _ _ t344 true _ ?side1 ?side2 ?side3 ?side4 ?side5 ?side6 ?side7 ?side8 ?side9 ?side10 ?side11 ?side12 A47.out).mono ?_); (case side1 => refine (Kd.R_reads' (e := 63) (base := w.heap.size) (ok := fun k_ => ((((((some k_ ≠ (.slice Ao45 t362.length co45 : Value).ownBlock ∧ some k_ ≠ (.slice Ao19 t329.length co19 : Value).ownBlock) ∧ some k_ ≠ (.slice Ao20 t332.length co20 : Value).ownBlock) ∧ some k_ ≠ (.slice Ao24 t338.length co24 : Value).ownBlock) ∧ some k_ ≠ (.slice Ao27 t341.length co27 : Value).ownBlock) ∧ some k_ ≠ (.slice Ao32 t349.length co32 : Value).ownBlock) ∧ some k_ ≠ (.slice Ao36 t352.length co36 : Value).ownBlock)) (n := t359.length) (c := co40) ?_).2.2; exact (by (with_reducible repeat (first | apply Kd.R_alloc | apply Kd.R_drewN | apply Kd.R_drew)); exact (Kd.R_mono (Kd.R_far3 (g := gb369) (Kd.R_types HO361.out BK369.out (by decide)) (fun _ hk => hk.2)) (fun _ h_ => h_.1)))); (case side2 => exact (Kd.R_reads' HO361.out).2.1); (case side3 => refine (Kd.R_reads' (e := 63) (base := w.heap.size) (ok := fun k_ => ((((((some k_ ≠ (.slice Ao40 t359.length co40 : Value).ownBlock ∧ some k_ ≠ (.slice Ao19 t329.length co19 : Value).ownBlock) ∧ some k_ ≠ (.slice Ao20 t332.length co20 : Value).ownBlock) ∧ some k_ ≠ (.slice Ao24 t338.length co24 : Value).ownBlock) ∧ some k_ ≠ (.slice Ao27 t341.length co27 : Value).ownBlock) ∧ some k_ ≠ (.slice Ao32 t349.length co32 : Value).ownBlock) ∧ some k_ ≠ (.slice Ao36 t352.length co36 : Value).ownBlock)) (n := t362.length) (c := co45) ?_).2.2; exact (by (with_reducible repeat (first | apply Kd.R_alloc | apply Kd.R_drewN | apply Kd.R_drew)); exact (Kd.R_mono (Kd.R_far3 (g := gb369) (Kd.R_types HO364.out BK369.out (by decide)) (fun _ hk => hk.2)) (fun _ h_ => h_.1)))); (case side4 => exact (Kd.R_reads' HO364.out).2.1); (case side5 => refine (Kd.R_reads' (e := 73) (base := w.heap.size) (ok := fun k_ => (((True ∧ some k_ ≠ (.slice Ao21 t335.length co21 : Value).ownBlock) ∧ some k_ ≠ (.slice Ao28 t344.length co28 : Value).ownBlock) ∧ some k_ ≠ (.slice Ao37 t355.length co37 : Value).ownBlock)) (n := t365.length) (c := co46) ?_).2.2; exact (by (with_reducible repeat (first | apply Kd.R_alloc | apply Kd.R_drewN | apply Kd.R_drew)); exact (Kd.R_mono (Kd.R_far3 (g := gb369) (Kd.R_types HO367.out BK369.out (by decide)) (fun _ hk => hk.2)) (fun _ h_ => h_.1)))); (case side6 => exact (Kd.R_reads' HO367.out).2.1); (case side7 => refine (Kd.R_reads' (e := 63) (base := w.heap.size) (ok := fun k_ => ((((((some k_ ≠ (.slice Ao27 t341.length co27 : Value).ownBlock ∧ some k_ ≠ (.slice Ao19 t329.length co19 : Value).ownBlock) ∧ some k_ ≠ (.slice Ao20 t332.length co20 : Value).ownBlock) ∧ some k_ ≠ (.slice Ao32 t349.length co32 : Value).ownBlock) ∧ some k_ ≠ (.slice Ao36 t352.length co36 : Value).ownBlock) ∧ some k_ ≠ (.slice Ao40 t359.length co40 : Value).ownBlock) ∧ some k_ ≠ (.slice Ao45 t362.length co45 : Value).ownBlock)) (n := t338.length) (c := co24) ?_).2.2; exact (by (with_reducible repeat (first | apply Kd.R_alloc | apply Kd.R_drewN | apply Kd.R_drew)); exact (Kd.R_mono (Kd.R_far3 (g := gb369) (Kd.R_types HO340.out BK369.out (by decide)) (fun _ hk => hk.2)) (fun _ h_ => h_.1)))); (case side8 => exact (Kd.R_reads' HO340.out).2.1); (case side9 => refine (Kd.R_reads' (e := 63) (base := w.heap.size) (ok := fun k_ => ((((((some k_ ≠ (.slice Ao24 t338.length co24 : Value).ownBlock ∧ some k_ ≠ (.slice Ao19 t329.length co19 : Value).ownBlock) ∧ some k_ ≠ (.slice Ao20 t332.length co20 : Value).ownBlock) ∧ some k_ ≠ (.slice Ao32 t349.length co32 : Value).ownBlock) ∧ some k_ ≠ (.slice Ao36 t352.length co36 : Value).ownBlock) ∧ some k_ ≠ (.slice Ao40 t359.length co40 : Value).ownBlock) ∧ some k_ ≠ (.slice Ao45 t362.length co45 : Value).ownBlock)) (n := t341.length) (c := co27) ?_).2.2; exact (by (with_reducible repeat (first | apply Kd.R_alloc | apply Kd.R_drewN | apply Kd.R_drew)); exact (Kd.R_mono (Kd.R_far3 (g := gb369) (Kd.R_types HO343.out BK369.out (by decide)) (fun _ hk => hk.2)) (fun _ h_ => h_.1)))); (case side10 => exact (Kd.R_reads' HO343.out).2.1); (case side11 => refine (Kd.R_reads' (e := 73) (base := w.heap.size) (ok := fun k_ => (((True ∧ some k_ ≠ (.slice Ao21 t335.length co21 : Value).ownBlock) ∧ some k_ ≠ (.slice Ao37 t355.length co37 : Value).ownBlock) ∧ some k_ ≠ (.slice Ao46 t365.length co46 : Value).ownBlock)) (n := t344.length) (c := co28) ?_).2.2; exact (by (with_reducible repeat (first | apply Kd.R_alloc | apply Kd.R_drewN | apply Kd.R_drew)); exact (Kd.R_mono (Kd.R_far3 (g := gb369) (Kd.R_types HO346.out BK369.out (by decide)) (fun _ hk => hk.2)) (fun _ h_ => h_.1)))); (case side12 => exact (Kd.R_reads' HO346.out).2.1); rintro e w56 ⟨rfl, hb⟩; refine ⟨_, rfl, ?_⟩; have n0_ := Aside0.mk (Kd.R_below (by (with_reducible repeat (first | apply Kd.R_alloc | apply Kd.R_drewN | apply Kd.R_drew)); exact (Kd.R_mono (Kd.R_far3 (g := gb369) (Kd.R_types HO331.out BK369.out (by decide)) (fun _ hk => hk.2)) (fun _ h_ => h_.1))) hb); have n1_ := Aside0.mk (Kd.R_below (by (with_reducible repeat (first | apply Kd.R_alloc | apply Kd.R_drewN | apply Kd.R_drew)); exact (Kd.R_mono (Kd.R_far3 (g := gb369) (Kd.R_types HO334.out BK369.out (by decide)) (fun _ hk => hk.2)) (fun _ h_ => h_.1))) hb); have n2_ := Aside0.mk (Kd.R_below (by (with_reducible repeat (first | apply Kd.R_alloc | apply Kd.R_drewN | apply Kd.R_drew)); exact (Kd.R_mono (Kd.R_far3 (g := gb369) (Kd.R_types HO337.out BK369.out (by decide)) (fun _ hk => hk.2)) (fun _ h_ => h_.1))) hb); have n3_ := Aside0.mk (Kd.R_below (by (with_reducible repeat (first | apply Kd.R_alloc | apply Kd.R_drewN | apply Kd.R_drew)); exact (Kd.R_mono (Kd.R_far3 (g := gb369) (Kd.R_types HO340.out BK369.out (by decide)) (fun _ hk => hk.2)) (fun _ h_ => h_.1))) hb); have n4_ := Aside0.mk (Kd.R_below (by (with_reducible repeat (first | apply Kd.R_alloc | apply Kd.R_drewN | apply Kd.R_drew)); exact (Kd.R_mono (Kd.R_far3 (g := gb369) (Kd.R_types HO343.out BK369.out (by decide)) (fun _ hk => hk.2)) (fun _ h_ => h_.1))) hb); have n5_ := Aside0.mk (Kd.R_below (by (with_reducible repeat (first | apply Kd.R_alloc | apply Kd.R_drewN | apply Kd.R_drew)); exact (Kd.R_mono (Kd.R_far3 (g := gb369) (Kd.R_types HO346.out BK369.out (by decide)) (fun _ hk => hk.2)) (fun _ h_ => h_.1))) hb); have n6_ := Aside0.mk (Kd.R_below (by (with_reducible repeat (first | apply Kd.R_alloc | apply Kd.R_drewN | apply Kd.R_drew)); exact (Kd.R_mono (Kd.R_far3 (g := gb369) (Kd.R_types HO351.out BK369.out (by decide)) (fun _ hk => hk.2)) (fun _ h_ => h_.1))) hb); have n7_ := Aside0.mk (Kd.R_below (by (with_reducible repeat (first | apply Kd.R_alloc | apply Kd.R_drewN | apply Kd.R_drew)); exact (Kd.R_mono (Kd.R_far3 (g := gb369) (Kd.R_types HO354.out BK369.out (by decide)) (fun _ hk => hk.2)) (fun _ h_ => h_.1))) hb); have n8_ := Aside0.mk (Kd.R_below (by (with_reducible repeat (first | apply Kd.R_alloc | apply Kd.R_drewN | apply Kd.R_drew)); exact (Kd.R_mono (Kd.R_far3 (g := gb369) (Kd.R_types HO357.out BK369.out (by decide)) (fun _ hk => hk.2)) (fun _ h_ => h_.1))) hb); have n9_ := Aside0.mk (Kd.R_below (by (with_reducible repeat (first | apply Kd.R_alloc | apply Kd.R_drewN | apply Kd.R_drew)); exact (Kd.R_mono (Kd.R_far3 (g := gb369) (Kd.R_types HO361.out BK369.out (by decide)) (fun _ hk => hk.2)) (fun _ h_ => h_.1))) hb); have n10_ := Aside0.mk (Kd.R_below (by (with_reducible repeat (first | apply Kd.R_alloc | apply Kd.R_drewN | apply Kd.R_drew)); exact (Kd.R_mono (Kd.R_far3 (g := gb369) (Kd.R_types HO364.out BK369.out (by decide)) (fun _ hk => hk.2)) (fun _ h_ => h_.1))) hb); have n11_ := Aside0.mk (Kd.R_below (by (with_reducible repeat (first | apply Kd.R_alloc | apply Kd.R_drewN | apply Kd.R_drew)); exact (Kd.R_mono (Kd.R_far3 (g := gb369) (Kd.R_types HO367.out BK369.out (by decide)) (fun _ hk => hk.2)) (fun _ h_ => h_.1))) hb); have n12_ := Aside0.mk (blk_below (g := gb327) (o := .cells #[.slice A0_0 l0_0.length c0_0, .slice A0_1 l0_1.length c0_1, .slice A0_2 l0_2.length c0_2] 45 (0, 0)) (by (with_reducible repeat (first | refine blk_drewN ?_ _ | refine blk_drew ?_ | refine blk_alloc ?_ _)); refine blk_far3 ?_ NB327_369.out; (with_reducible repeat (first | refine blk_drewN ?_ _ | refine blk_drew ?_ | refine blk_alloc ?_ _)); exact BK327.out) hb); have n13_ := Aside0.mk (blk_below (g := gb348) (o := .cells #[.slice Ao24 t338.length co24, .slice Ao27 t341.length co27, .slice Ao28 t344.length co28] 27 (0, 0)) (by (with_reducible repeat (first | refine blk_drewN ?_ _ | refine blk_drew ?_ | refine blk_alloc ?_ _)); refine blk_far3 ?_ NB348_369.out; (with_reducible repeat (first | refine blk_drewN ?_ _ | refine blk_drew ?_ | refine blk_alloc ?_ _)); exact BK348.out) hb); have n14_ := Aside0.mk (blk_below (g := gb358) (o := .cells #[.slice Ao32 t349.length co32, .slice Ao36 t352.length co36, .slice Ao37 t355.length co37] 27 (0, 0)) (by (with_reducible repeat (first | refine blk_drewN ?_ _ | refine blk_drew ?_ | refine blk_alloc ?_ _)); refine blk_far3 ?_ NB358_369.out; (with_reducible repeat (first | refine blk_drewN ?_ _ | refine blk_drew ?_ | refine blk_alloc ?_ _)); exact BK358.out) hb); have n15_ := Aside0.mk (blk_below (g := gb369) (o := .cells #[.slice Ao40 t359.length co40, .slice Ao45 t362.length co45, .slice Ao46 t365.length co46] 27 (0, 0)) (by (with_reducible repeat (first | refine blk_drewN ?_ _ | refine blk_drew ?_ | refine blk_alloc ?_ _)); refine blk_put3 (cs := #[.slice none 0 0, .slice none 0 0, .slice none 0 0]) ?_ rfl; (with_reducible repeat (first | refine blk_drewN ?_ _ | refine blk_drew ?_ | refine blk_alloc ?_ _)); exact BK369.out) hb); have n16_ := Aside0.mk (below_step (by repeat (first | (with_reducible first | exact HB.out | apply below_alloc | apply pw_below_drewN | apply below_drew1 | refine below_set ?_ GE369.out) | exact HB.out)) hb); clear HO331; clear HO334; clear HO337; clear HO340; clear HO343; clear HO346; clear HO351; clear HO354; clear HO357; clear HO361; clear HO364; clear HO367; clear BK327; clear BK348; clear BK358; clear BK369; clear HB; have HO331 := n0_; have HO334 := n1_; have HO337 := n2_; have HO340 := n3_; have HO343 := n4_; have HO346 := n5_; have HO351 := n6_; have HO354 := n7_; have HO357 := n8_; have HO361 := n9_; have HO364 := n10_; have HO367 := n11_; have BK327 := n12_; have BK348 := n13_; have BK358 := n14_; have BK369 := n15_; have HB := n16_; clear n0_ n1_ n2_ n3_ n4_ n5_ n6_ n7_ n8_ n9_ n10_ n11_ n12_ n13_ n14_ n15_ n16_; (try clear hb); (try clear hb2); (try clear hk); (try clear hi)))
 go_meet
 case rel => exact ⟨_, ((t368 != t347)), s1_, H', ⟨by first | omega | exact Nat.le_refl _⟩, ⟨by (with_reducible repeat (first | apply Kd.R_alloc | apply Kd.R_drewN | apply Kd.R_drew)); exact Kd.R_mono HO340.out (fun _ hk => ⟨hk.1.1.1.1.1.1, ⟨hk.1.1.1.2, ⟨hk.1.1.2, ⟨hk.1.2, hk.2⟩⟩⟩⟩)⟩, ⟨by (with_reducible repeat (first | apply Kd.R_alloc | apply Kd.R_drewN | apply Kd.R_drew)); exact Kd.R_mono HO343.out (fun _ hk => ⟨hk.1.1.1.1.1.1, ⟨hk.1.1.1.2, ⟨hk.1.1.2, ⟨hk.1.2, hk.2⟩⟩⟩⟩)⟩, ⟨by (with_reducible repeat (first | apply Kd.R_alloc | apply Kd.R_drewN | apply Kd.R_drew)); exact Kd.R_mono HO346.out (fun _ hk => ⟨hk.1.2, hk.2⟩)⟩, ⟨by (with_reducible repeat (first | apply Kd.R_alloc | apply Kd.R_drewN | apply Kd.R_drew)); exact Kd.R_mono HO351.out (fun _ hk => ⟨hk.1.1.1.2, ⟨hk.1.1.2, ⟨hk.1.1.1.1.1.1, ⟨hk.1.2, hk.2⟩⟩⟩⟩)⟩, ⟨by (with_reducible repeat (first | apply Kd.R_alloc | apply Kd.R_drewN | apply Kd.R_drew)); exact Kd.R_mono HO354.out (fun _ hk => ⟨hk.1.1.1.2, ⟨hk.1.1.2, ⟨hk.1.1.1.1.1.1, ⟨hk.1.2, hk.2⟩⟩⟩⟩)⟩, ⟨by (with_reducible repeat (first | apply Kd.R_alloc | apply Kd.R_drewN | apply Kd.R_drew)); exact Kd.R_mono HO357.out (fun _ hk => ⟨hk.1.2, hk.2⟩)⟩, ⟨by (with_reducible repeat (first | apply Kd.R_alloc | apply Kd.R_drewN | apply Kd.R_drew)); exact Kd.R_mono HO361.out (fun _ hk => ⟨hk.1.1.1.2, ⟨hk.1.1.2, ⟨hk.1.2, ⟨hk.2, hk.1.1.1.1.1.1⟩⟩⟩⟩)⟩, ⟨by (with_reducible repeat (first | apply Kd.R_alloc | apply Kd.R_drewN | apply Kd.R_drew)); exact Kd.R_mono HO364.out (fun _ hk => ⟨hk.1.1.1.2, ⟨hk.1.1.2, ⟨hk.1.2, ⟨hk.2, hk.1.1.1.1.1.1⟩⟩⟩⟩)⟩, ⟨by (with_reducible repeat (first | apply Kd.R_alloc | apply Kd.R_drewN | apply Kd.R_drew)); exact Kd.R_mono HO367.out (fun _ hk => ⟨hk.1.2, hk.2⟩)⟩, ⟨b1_ BK327.out⟩, ⟨b1_ BK348.out⟩, ⟨b1_ BK358.out⟩, ⟨b1_ BK369.out⟩, ⟨by repeat (first | (with_reducible first | exact HB.out | apply below_alloc | apply pw_below_drewN | apply below_drew1) | exact HB.out)⟩⟩}
 {
 replace c48 := Bool.eq_false_iff.mpr c48
 subst c48
 have H1 : (laws_FnExactReadUpTo.j0 k a1 a2 t347 t368 true l0_0 l0_1 l0_2 t338 t341 t344 t349 t352 t355 t359 t362 t365) = some r := by rw [if_neg (show ¬ (false = true) by decide)] at H; exact H
 clear H
 have H := H1
 clear H1
 have H' := Aside0.mk H
 clear H
 have hnb57 := NB369_327.out
 have hnc57 := NB327_369.out
 have hnb58 := NB369_348.out
 have hnc58 := NB348_369.out
 have hnb59 := NB369_358.out
 have hnc59 := NB358_369.out
 have hcz60_0 : w39.cell? ⟨gb369, 0, none⟩ = some (.slice none 0 0) := (blk_cell BK369.out 0).trans rfl
 have hcz60_1 : w39.cell? ⟨gb369, 1, none⟩ = some (.slice none 0 0) := (blk_cell BK369.out 1).trans rfl
 have hcz60_2 : w39.cell? ⟨gb369, 2, none⟩ = some (.slice none 0 0) := (blk_cell BK369.out 2).trans rfl
 have hfz60_0 := blk_frozen BK369.out 0
 have hfz60_1 := blk_frozen BK369.out 1
 have hfz60_2 := blk_frozen BK369.out 2
 have hnb61 := NB348_327.out
 have hnc61 := NB327_348.out
 have hnb62 := NB348_358.out
 have hnc62 := NB358_348.out
 have hcz63_0 : w39.cell? ⟨gb348, 0, none⟩ = some (.slice Ao24 t338.length co24) := (blk_cell BK348.out 0).trans rfl
 have hcz63_1 : w39.cell? ⟨gb348, 1, none⟩ = some (.slice Ao27 t341.length co27) := (blk_cell BK348.out 1).trans rfl
 have hcz63_2 : w39.cell? ⟨gb348, 2, none⟩ = some (.slice Ao28 t344.length co28) := (blk_cell BK348.out 2).trans rfl
 have hfz63_0 := blk_frozen BK348.out 0
 have hfz63_1 := blk_frozen BK348.out 1
 have hfz63_2 := blk_frozen BK348.out 2
 go_wp2_with (first | ((with_reducible refine gate_callee (f := 27) rfl ?_); refine goesL_ (some 42) rfl rfl Try.func27 s2_ rfl #[.agg #[.slice Ao40 t359.length co40, .slice Ao45 t362.length co45, .slice Ao46 t365.length co46], .agg #[.slice Ao24 t338.length co24, .slice Ao27 t341.length co27, .slice Ao28 t344.length co28]] rfl s3_ ?_; (with_reducible refine (laws_eqPresence.calls k _ _ t359 _ _ t362 _ _ t365 _ _ t338 _ _ t341 _ _ t344 false _ ?side1 ?side2 ?side3 ?side4 ?side5 ?side6 ?side7 ?side8 ?side9 ?side10 ?side11 ?side12 A47.out).mono ?_); (case side1 => refine (Kd.R_reads' (e := 63) (base := w.heap.size) (ok := fun k_ => ((((((some k_ ≠ (.slice Ao45 t362.length co45 : Value).ownBlock ∧ some k_ ≠ (.slice Ao19 t329.length co19 : Value).ownBlock) ∧ some k_ ≠ (.slice Ao20 t332.length co20 : Value).ownBlock) ∧ some k_ ≠ (.slice Ao24 t338.length co24 : Value).ownBlock) ∧ some k_ ≠ (.slice Ao27 t341.length co27 : Value).ownBlock) ∧ some k_ ≠ (.slice Ao32 t349.length co32 : Value).ownBlock) ∧ some k_ ≠ (.slice Ao36 t352.length co36 : Value).ownBlock)) (n := t359.length) (c := co40) ?_).2.2; exact (by (with_reducible repeat (first | apply Kd.R_alloc | apply Kd.R_drewN | apply Kd.R_drew)); exact (Kd.R_mono (Kd.R_far3 (g := gb369) (Kd.R_types HO361.out BK369.out (by decide)) (fun _ hk => hk.2)) (fun _ h_ => h_.1)))); (case side2 => exact (Kd.R_reads' HO361.out).2.1); (case side3 => refine (Kd.R_reads' (e := 63) (base := w.heap.size) (ok := fun k_ => ((((((some k_ ≠ (.slice Ao40 t359.length co40 : Value).ownBlock ∧ some k_ ≠ (.slice Ao19 t329.length co19 : Value).ownBlock) ∧ some k_ ≠ (.slice Ao20 t332.length co20 : Value).ownBlock) ∧ some k_ ≠ (.slice Ao24 t338.length co24 : Value).ownBlock) ∧ some k_ ≠ (.slice Ao27 t341.length co27 : Value).ownBlock) ∧ some k_ ≠ (.slice Ao32 t349.length co32 : Value).ownBlock) ∧ some k_ ≠ (.slice Ao36 t352.length co36 : Value).ownBlock)) (n := t362.length) (c := co45) ?_).2.2; exact (by (with_reducible repeat (first | apply Kd.R_alloc | apply Kd.R_drewN | apply Kd.R_drew)); exact (Kd.R_mono (Kd.R_far3 (g := gb369) (Kd.R_types HO364.out BK369.out (by decide)) (fun _ hk => hk.2)) (fun _ h_ => h_.1)))); (case side4 => exact (Kd.R_reads' HO364.out).2.1); (case side5 => refine (Kd.R_reads' (e := 73) (base := w.heap.size) (ok := fun k_ => (((True ∧ some k_ ≠ (.slice Ao21 t335.length co21 : Value).ownBlock) ∧ some k_ ≠ (.slice Ao28 t344.length co28 : Value).ownBlock) ∧ some k_ ≠ (.slice Ao37 t355.length co37 : Value).ownBlock)) (n := t365.length) (c := co46) ?_).2.2; exact (by (with_reducible repeat (first | apply Kd.R_alloc | apply Kd.R_drewN | apply Kd.R_drew)); exact (Kd.R_mono (Kd.R_far3 (g := gb369) (Kd.R_types HO367.out BK369.out (by decide)) (fun _ hk => hk.2)) (fun _ h_ => h_.1)))); (case side6 => exact (Kd.R_reads' HO367.out).2.1); (case side7 => refine (Kd.R_reads' (e := 63) (base := w.heap.size) (ok := fun k_ => ((((((some k_ ≠ (.slice Ao27 t341.length co27 : Value).ownBlock ∧ some k_ ≠ (.slice Ao19 t329.length co19 : Value).ownBlock) ∧ some k_ ≠ (.slice Ao20 t332.length co20 : Value).ownBlock) ∧ some k_ ≠ (.slice Ao32 t349.length co32 : Value).ownBlock) ∧ some k_ ≠ (.slice Ao36 t352.length co36 : Value).ownBlock) ∧ some k_ ≠ (.slice Ao40 t359.length co40 : Value).ownBlock) ∧ some k_ ≠ (.slice Ao45 t362.length co45 : Value).ownBlock)) (n := t338.length) (c := co24) ?_).2.2; exact (by (with_reducible repeat (first | apply Kd.R_alloc | apply Kd.R_drewN | apply Kd.R_drew)); exact (Kd.R_mono (Kd.R_far3 (g := gb369) (Kd.R_types HO340.out BK369.out (by decide)) (fun _ hk => hk.2)) (fun _ h_ => h_.1)))); (case side8 => exact (Kd.R_reads' HO340.out).2.1); (case side9 => refine (Kd.R_reads' (e := 63) (base := w.heap.size) (ok := fun k_ => ((((((some k_ ≠ (.slice Ao24 t338.length co24 : Value).ownBlock ∧ some k_ ≠ (.slice Ao19 t329.length co19 : Value).ownBlock) ∧ some k_ ≠ (.slice Ao20 t332.length co20 : Value).ownBlock) ∧ some k_ ≠ (.slice Ao32 t349.length co32 : Value).ownBlock) ∧ some k_ ≠ (.slice Ao36 t352.length co36 : Value).ownBlock) ∧ some k_ ≠ (.slice Ao40 t359.length co40 : Value).ownBlock) ∧ some k_ ≠ (.slice Ao45 t362.length co45 : Value).ownBlock)) (n := t341.length) (c := co27) ?_).2.2; exact (by (with_reducible repeat (first | apply Kd.R_alloc | apply Kd.R_drewN | apply Kd.R_drew)); exact (Kd.R_mono (Kd.R_far3 (g := gb369) (Kd.R_types HO343.out BK369.out (by decide)) (fun _ hk => hk.2)) (fun _ h_ => h_.1)))); (case side10 => exact (Kd.R_reads' HO343.out).2.1); (case side11 => refine (Kd.R_reads' (e := 73) (base := w.heap.size) (ok := fun k_ => (((True ∧ some k_ ≠ (.slice Ao21 t335.length co21 : Value).ownBlock) ∧ some k_ ≠ (.slice Ao37 t355.length co37 : Value).ownBlock) ∧ some k_ ≠ (.slice Ao46 t365.length co46 : Value).ownBlock)) (n := t344.length) (c := co28) ?_).2.2; exact (by (with_reducible repeat (first | apply Kd.R_alloc | apply Kd.R_drewN | apply Kd.R_drew)); exact (Kd.R_mono (Kd.R_far3 (g := gb369) (Kd.R_types HO346.out BK369.out (by decide)) (fun _ hk => hk.2)) (fun _ h_ => h_.1)))); (case side12 => exact (Kd.R_reads' HO346.out).2.1); rintro e w64 ⟨rfl, hb⟩; refine ⟨_, rfl, ?_⟩; have n0_ := Aside0.mk (Kd.R_below (by (with_reducible repeat (first | apply Kd.R_alloc | apply Kd.R_drewN | apply Kd.R_drew)); exact (Kd.R_mono (Kd.R_far3 (g := gb369) (Kd.R_types HO331.out BK369.out (by decide)) (fun _ hk => hk.2)) (fun _ h_ => h_.1))) hb); have n1_ := Aside0.mk (Kd.R_below (by (with_reducible repeat (first | apply Kd.R_alloc | apply Kd.R_drewN | apply Kd.R_drew)); exact (Kd.R_mono (Kd.R_far3 (g := gb369) (Kd.R_types HO334.out BK369.out (by decide)) (fun _ hk => hk.2)) (fun _ h_ => h_.1))) hb); have n2_ := Aside0.mk (Kd.R_below (by (with_reducible repeat (first | apply Kd.R_alloc | apply Kd.R_drewN | apply Kd.R_drew)); exact (Kd.R_mono (Kd.R_far3 (g := gb369) (Kd.R_types HO337.out BK369.out (by decide)) (fun _ hk => hk.2)) (fun _ h_ => h_.1))) hb); have n3_ := Aside0.mk (Kd.R_below (by (with_reducible repeat (first | apply Kd.R_alloc | apply Kd.R_drewN | apply Kd.R_drew)); exact (Kd.R_mono (Kd.R_far3 (g := gb369) (Kd.R_types HO340.out BK369.out (by decide)) (fun _ hk => hk.2)) (fun _ h_ => h_.1))) hb); have n4_ := Aside0.mk (Kd.R_below (by (with_reducible repeat (first | apply Kd.R_alloc | apply Kd.R_drewN | apply Kd.R_drew)); exact (Kd.R_mono (Kd.R_far3 (g := gb369) (Kd.R_types HO343.out BK369.out (by decide)) (fun _ hk => hk.2)) (fun _ h_ => h_.1))) hb); have n5_ := Aside0.mk (Kd.R_below (by (with_reducible repeat (first | apply Kd.R_alloc | apply Kd.R_drewN | apply Kd.R_drew)); exact (Kd.R_mono (Kd.R_far3 (g := gb369) (Kd.R_types HO346.out BK369.out (by decide)) (fun _ hk => hk.2)) (fun _ h_ => h_.1))) hb); have n6_ := Aside0.mk (Kd.R_below (by (with_reducible repeat (first | apply Kd.R_alloc | apply Kd.R_drewN | apply Kd.R_drew)); exact (Kd.R_mono (Kd.R_far3 (g := gb369) (Kd.R_types HO351.out BK369.out (by decide)) (fun _ hk => hk.2)) (fun _ h_ => h_.1))) hb); have n7_ := Aside0.mk (Kd.R_below (by (with_reducible repeat (first | apply Kd.R_alloc | apply Kd.R_drewN | apply Kd.R_drew)); exact (Kd.R_mono (Kd.R_far3 (g := gb369) (Kd.R_types HO354.out BK369.out (by decide)) (fun _ hk => hk.2)) (fun _ h_ => h_.1))) hb); have n8_ := Aside0.mk (Kd.R_below (by (with_reducible repeat (first | apply Kd.R_alloc | apply Kd.R_drewN | apply Kd.R_drew)); exact (Kd.R_mono (Kd.R_far3 (g := gb369) (Kd.R_types HO357.out BK369.out (by decide)) (fun _ hk => hk.2)) (fun _ h_ => h_.1))) hb); have n9_ := Aside0.mk (Kd.R_below (by (with_reducible repeat (first | apply Kd.R_alloc | apply Kd.R_drewN | apply Kd.R_drew)); exact (Kd.R_mono (Kd.R_far3 (g := gb369) (Kd.R_types HO361.out BK369.out (by decide)) (fun _ hk => hk.2)) (fun _ h_ => h_.1))) hb); have n10_ := Aside0.mk (Kd.R_below (by (with_reducible repeat (first | apply Kd.R_alloc | apply Kd.R_drewN | apply Kd.R_drew)); exact (Kd.R_mono (Kd.R_far3 (g := gb369) (Kd.R_types HO364.out BK369.out (by decide)) (fun _ hk => hk.2)) (fun _ h_ => h_.1))) hb); have n11_ := Aside0.mk (Kd.R_below (by (with_reducible repeat (first | apply Kd.R_alloc | apply Kd.R_drewN | apply Kd.R_drew)); exact (Kd.R_mono (Kd.R_far3 (g := gb369) (Kd.R_types HO367.out BK369.out (by decide)) (fun _ hk => hk.2)) (fun _ h_ => h_.1))) hb); have n12_ := Aside0.mk (blk_below (g := gb327) (o := .cells #[.slice A0_0 l0_0.length c0_0, .slice A0_1 l0_1.length c0_1, .slice A0_2 l0_2.length c0_2] 45 (0, 0)) (by (with_reducible repeat (first | refine blk_drewN ?_ _ | refine blk_drew ?_ | refine blk_alloc ?_ _)); refine blk_far3 ?_ NB327_369.out; (with_reducible repeat (first | refine blk_drewN ?_ _ | refine blk_drew ?_ | refine blk_alloc ?_ _)); exact BK327.out) hb); have n13_ := Aside0.mk (blk_below (g := gb348) (o := .cells #[.slice Ao24 t338.length co24, .slice Ao27 t341.length co27, .slice Ao28 t344.length co28] 27 (0, 0)) (by (with_reducible repeat (first | refine blk_drewN ?_ _ | refine blk_drew ?_ | refine blk_alloc ?_ _)); refine blk_far3 ?_ NB348_369.out; (with_reducible repeat (first | refine blk_drewN ?_ _ | refine blk_drew ?_ | refine blk_alloc ?_ _)); exact BK348.out) hb); have n14_ := Aside0.mk (blk_below (g := gb358) (o := .cells #[.slice Ao32 t349.length co32, .slice Ao36 t352.length co36, .slice Ao37 t355.length co37] 27 (0, 0)) (by (with_reducible repeat (first | refine blk_drewN ?_ _ | refine blk_drew ?_ | refine blk_alloc ?_ _)); refine blk_far3 ?_ NB358_369.out; (with_reducible repeat (first | refine blk_drewN ?_ _ | refine blk_drew ?_ | refine blk_alloc ?_ _)); exact BK358.out) hb); have n15_ := Aside0.mk (blk_below (g := gb369) (o := .cells #[.slice Ao40 t359.length co40, .slice Ao45 t362.length co45, .slice Ao46 t365.length co46] 27 (0, 0)) (by (with_reducible repeat (first | refine blk_drewN ?_ _ | refine blk_drew ?_ | refine blk_alloc ?_ _)); refine blk_put3 (cs := #[.slice none 0 0, .slice none 0 0, .slice none 0 0]) ?_ rfl; (with_reducible repeat (first | refine blk_drewN ?_ _ | refine blk_drew ?_ | refine blk_alloc ?_ _)); exact BK369.out) hb); have n16_ := Aside0.mk (below_step (by repeat (first | (with_reducible first | exact HB.out | apply below_alloc | apply pw_below_drewN | apply below_drew1 | refine below_set ?_ GE369.out) | exact HB.out)) hb); clear HO331; clear HO334; clear HO337; clear HO340; clear HO343; clear HO346; clear HO351; clear HO354; clear HO357; clear HO361; clear HO364; clear HO367; clear BK327; clear BK348; clear BK358; clear BK369; clear HB; have HO331 := n0_; have HO334 := n1_; have HO337 := n2_; have HO340 := n3_; have HO343 := n4_; have HO346 := n5_; have HO351 := n6_; have HO354 := n7_; have HO357 := n8_; have HO361 := n9_; have HO364 := n10_; have HO367 := n11_; have BK327 := n12_; have BK348 := n13_; have BK358 := n14_; have BK369 := n15_; have HB := n16_; clear n0_ n1_ n2_ n3_ n4_ n5_ n6_ n7_ n8_ n9_ n10_ n11_ n12_ n13_ n14_ n15_ n16_; (try clear hb); (try clear hb2); (try clear hk); (try clear hi)))
 go_meet
 case rel => exact ⟨_, (true), s1_, H', ⟨by first | omega | exact Nat.le_refl _⟩, ⟨by (with_reducible repeat (first | apply Kd.R_alloc | apply Kd.R_drewN | apply Kd.R_drew)); exact Kd.R_mono HO340.out (fun _ hk => ⟨hk.1.1.1.1.1.1, ⟨hk.1.1.1.2, ⟨hk.1.1.2, ⟨hk.1.2, hk.2⟩⟩⟩⟩)⟩, ⟨by (with_reducible repeat (first | apply Kd.R_alloc | apply Kd.R_drewN | apply Kd.R_drew)); exact Kd.R_mono HO343.out (fun _ hk => ⟨hk.1.1.1.1.1.1, ⟨hk.1.1.1.2, ⟨hk.1.1.2, ⟨hk.1.2, hk.2⟩⟩⟩⟩)⟩, ⟨by (with_reducible repeat (first | apply Kd.R_alloc | apply Kd.R_drewN | apply Kd.R_drew)); exact Kd.R_mono HO346.out (fun _ hk => ⟨hk.1.2, hk.2⟩)⟩, ⟨by (with_reducible repeat (first | apply Kd.R_alloc | apply Kd.R_drewN | apply Kd.R_drew)); exact Kd.R_mono HO351.out (fun _ hk => ⟨hk.1.1.1.2, ⟨hk.1.1.2, ⟨hk.1.1.1.1.1.1, ⟨hk.1.2, hk.2⟩⟩⟩⟩)⟩, ⟨by (with_reducible repeat (first | apply Kd.R_alloc | apply Kd.R_drewN | apply Kd.R_drew)); exact Kd.R_mono HO354.out (fun _ hk => ⟨hk.1.1.1.2, ⟨hk.1.1.2, ⟨hk.1.1.1.1.1.1, ⟨hk.1.2, hk.2⟩⟩⟩⟩)⟩, ⟨by (with_reducible repeat (first | apply Kd.R_alloc | apply Kd.R_drewN | apply Kd.R_drew)); exact Kd.R_mono HO357.out (fun _ hk => ⟨hk.1.2, hk.2⟩)⟩, ⟨by (with_reducible repeat (first | apply Kd.R_alloc | apply Kd.R_drewN | apply Kd.R_drew)); exact Kd.R_mono HO361.out (fun _ hk => ⟨hk.1.1.1.2, ⟨hk.1.1.2, ⟨hk.1.2, ⟨hk.2, hk.1.1.1.1.1.1⟩⟩⟩⟩)⟩, ⟨by (with_reducible repeat (first | apply Kd.R_alloc | apply Kd.R_drewN | apply Kd.R_drew)); exact Kd.R_mono HO364.out (fun _ hk => ⟨hk.1.1.1.2, ⟨hk.1.1.2, ⟨hk.1.2, ⟨hk.2, hk.1.1.1.1.1.1⟩⟩⟩⟩)⟩, ⟨by (with_reducible repeat (first | apply Kd.R_alloc | apply Kd.R_drewN | apply Kd.R_drew)); exact Kd.R_mono HO367.out (fun _ hk => ⟨hk.1.2, hk.2⟩)⟩, ⟨b1_ BK327.out⟩, ⟨b1_ BK348.out⟩, ⟨b1_ BK358.out⟩, ⟨b1_ BK369.out⟩, ⟨by repeat (first | (with_reducible first | exact HB.out | apply below_alloc | apply pw_below_drewN | apply below_drew1) | exact HB.out)⟩⟩}}
 case rest =>
  skip
  {
 clear HC13
 try clear c2
 try clear p2
 try clear c3
 try clear c4
 try clear c5
 try clear c5b0
 try clear c6
 try clear c7
 try clear c24
 try clear c25
 try clear c26
 try clear c27
 try clear c33
 try clear c34
 try clear c41
 try clear c42
 try clear c43
 try clear c48
 try clear c49
 try clear c50
 try clear c51
 try clear c53
 try clear c54
 try clear c57
 try clear c58
 try clear c59
 try clear c61
 try clear c62
 try clear hcz15_0
 try clear hcz15_1
 try clear hcz15_2
 try clear hcz17_0
 try clear hcz17_1
 try clear hcz17_2
 try clear hcz26_0
 try clear hcz26_1
 try clear hcz26_2
 try clear hcz29_0
 try clear hcz29_1
 try clear hcz29_2
 try clear hcz35_0
 try clear hcz35_1
 try clear hcz35_2
 try clear hcz44_0
 try clear hcz44_1
 try clear hcz44_2
 try clear hcz52_0
 try clear hcz52_1
 try clear hcz52_2
 try clear hcz55_0
 try clear hcz55_1
 try clear hcz55_2
 try clear hcz60_0
 try clear hcz60_1
 try clear hcz60_2
 try clear hcz63_0
 try clear hcz63_1
 try clear hcz63_2
 try clear hcz7_0
 try clear hcz7_1
 try clear hcz7_2
 try clear hfz15_0
 try clear hfz15_1
 try clear hfz15_2
 try clear hfz17_0
 try clear hfz17_1
 try clear hfz17_2
 try clear hfz26_0
 try clear hfz26_1
 try clear hfz26_2
 try clear hfz29_0
 try clear hfz29_1
 try clear hfz29_2
 try clear hfz35_0
 try clear hfz35_1
 try clear hfz35_2
 try clear hfz44_0
 try clear hfz44_1
 try clear hfz44_2
 try clear hfz52_0
 try clear hfz52_1
 try clear hfz52_2
 try clear hfz55_0
 try clear hfz55_1
 try clear hfz55_2
 try clear hfz60_0
 try clear hfz60_1
 try clear hfz60_2
 try clear hfz63_0
 try clear hfz63_1
 try clear hfz63_2
 try clear hfz7_0
 try clear hfz7_1
 try clear hfz7_2
 obtain ⟨kq, x48_12, rfl, HA, HJ12, HO_349000, HO_349001, HO_349002, HO_359000, HO_359001, HO_359002, HO_370000, HO_370001, HO_370002, BK327, BK348, BK358, BK369, HB⟩ := hcut
 cases kq with
 | zero => exact absurd HA.out (by simp [laws_FnExactReadUpTo.j0])
 | succ kj12 =>
  skip
  {
 have H := HA.out
 clear HA
 simp only [laws_FnExactReadUpTo.j0] at H
 by_cases c65 : x48_12 = true
 {
 subst c65
 have H1 : (some false) = some r := by rw [if_pos rfl] at H; exact H
 clear H
 have H := H1
 clear H1
 obtain rfl := Option.some.inj H
 go_wp2
 go_ret
 exact ⟨by first | rfl | (simp [errW_none, errW_some] <;> rfl) | (simp [*, errW_none, errW_some] <;> rfl), by repeat (first | (with_reducible first | exact HB.out | apply below_alloc | apply pw_below_drewN | apply below_drew1) | exact HB.out)⟩}
 {
 replace c65 := Bool.eq_false_iff.mpr c65
 subst c65
 have H1 : ((laws_toPresence.f kj12 l0_0 l0_1 l0_2).bind fun bt371 => ((laws_eqPresence.f kj12 t349 t352 t355 bt371.1 bt371.2.1 bt371.2.2).bind fun t380 => (if t380 = true then ((laws_markPresence.f kj12 t349 t352 t355 1).bind fun bt381 => (if bt381.1 < 0 then (laws_FnExactReadUpTo.j1 kj12 a1 a2 t347 true l0_0 l0_1 l0_2 t338 t341 t344 t359 t362 t365) else ((laws_eqPresence.f kj12 t359 t362 t365 t338 t341 t344).bind fun t385 => (if t385 = true then (laws_FnExactReadUpTo.j1 kj12 a1 a2 t347 (t368 != t347) l0_0 l0_1 l0_2 t338 t341 t344 t359 t362 t365) else (laws_FnExactReadUpTo.j1 kj12 a1 a2 t347 true l0_0 l0_1 l0_2 t338 t341 t344 t359 t362 t365))))) else (some false)))) = some r := by rw [if_neg (show ¬ (false = true) by decide)] at H; exact H
 clear H
 have H := H1
 clear H1
 replace H := Option.bind_eq_some_iff.mp H
 obtain ⟨⟨t371, t374, t377⟩, A660, H⟩ := H
 replace H : ((laws_eqPresence.f kj12 t349 t352 t355 t371 t374 t377).bind fun t380 => (if t380 = true then ((laws_markPresence.f kj12 t349 t352 t355 1).bind fun bt381 => (if bt381.1 < 0 then (laws_FnExactReadUpTo.j1 kj12 a1 a2 t347 true l0_0 l0_1 l0_2 t338 t341 t344 t359 t362 t365) else ((laws_eqPresence.f kj12 t359 t362 t365 t338 t341 t344).bind fun t385 => (if t385 = true then (laws_FnExactReadUpTo.j1 kj12 a1 a2 t347 (t368 != t347) l0_0 l0_1 l0_2 t338 t341 t344 t359 t362 t365) else (laws_FnExactReadUpTo.j1 kj12 a1 a2 t347 true l0_0 l0_1 l0_2 t338 t341 t344 t359 t362 t365))))) else (some false))) = some r := H
 have A66 := Aside0.mk A660
 clear A660
 replace H := Option.bind_eq_some_iff.mp H
 obtain ⟨t380, A670, H⟩ := H
 replace H : (if t380 = true then ((laws_markPresence.f kj12 t349 t352 t355 1).bind fun bt381 => (if bt381.1 < 0 then (laws_FnExactReadUpTo.j1 kj12 a1 a2 t347 true l0_0 l0_1 l0_2 t338 t341 t344 t359 t362 t365) else ((laws_eqPresence.f kj12 t359 t362 t365 t338 t341 t344).bind fun t385 => (if t385 = true then (laws_FnExactReadUpTo.j1 kj12 a1 a2 t347 (t368 != t347) l0_0 l0_1 l0_2 t338 t341 t344 t359 t362 t365) else (laws_FnExactReadUpTo.j1 kj12 a1 a2 t347 true l0_0 l0_1 l0_2 t338 t341 t344 t359 t362 t365))))) else (some false)) = some r := H
 have A67 := Aside0.mk A670
 clear A670
 by_cases c68 : t380 = true
 {
 subst c68
 have H1 : ((laws_markPresence.f kj12 t349 t352 t355 1).bind fun bt381 => (if bt381.1 < 0 then (laws_FnExactReadUpTo.j1 kj12 a1 a2 t347 true l0_0 l0_1 l0_2 t338 t341 t344 t359 t362 t365) else ((laws_eqPresence.f kj12 t359 t362 t365 t338 t341 t344).bind fun t385 => (if t385 = true then (laws_FnExactReadUpTo.j1 kj12 a1 a2 t347 (t368 != t347) l0_0 l0_1 l0_2 t338 t341 t344 t359 t362 t365) else (laws_FnExactReadUpTo.j1 kj12 a1 a2 t347 true l0_0 l0_1 l0_2 t338 t341 t344 t359 t362 t365))))) = some r := by rw [if_pos rfl] at H; exact H
 clear H
 have H := H1
 clear H1
 replace H := Option.bind_eq_some_iff.mp H
 obtain ⟨⟨t381, t382, t383, t384⟩, A690, H⟩ := H
 replace H : (if t381 < 0 then (laws_FnExactReadUpTo.j1 kj12 a1 a2 t347 true l0_0 l0_1 l0_2 t338 t341 t344 t359 t362 t365) else ((laws_eqPresence.f kj12 t359 t362 t365 t338 t341 t344).bind fun t385 => (if t385 = true then (laws_FnExactReadUpTo.j1 kj12 a1 a2 t347 (t368 != t347) l0_0 l0_1 l0_2 t338 t341 t344 t359 t362 t365) else (laws_FnExactReadUpTo.j1 kj12 a1 a2 t347 true l0_0 l0_1 l0_2 t338 t341 t344 t359 t362 t365)))) = some r := H
 have A69 := Aside0.mk A690
 clear A690
 have HC70 := Aside0.mk H
 clear H
 try go_wp2
 have n0_ := Aside0.mk (Kd.R_drew HO_349000.out)
 have n1_ := Aside0.mk (Kd.R_drew HO_349001.out)
 have n2_ := Aside0.mk (Kd.R_drew HO_349002.out)
 have n3_ := Aside0.mk (Kd.R_drew HO_359000.out)
 have n4_ := Aside0.mk (Kd.R_drew HO_359001.out)
 have n5_ := Aside0.mk (Kd.R_drew HO_359002.out)
 have n6_ := Aside0.mk (Kd.R_drew HO_370000.out)
 have n7_ := Aside0.mk (Kd.R_drew HO_370001.out)
 have n8_ := Aside0.mk (Kd.R_drew HO_370002.out)
 have n9_ := Aside0.mk (blk_drew BK327.out)
 have n10_ := Aside0.mk (blk_drew BK348.out)
 have n11_ := Aside0.mk (blk_drew BK358.out)
 have n12_ := Aside0.mk (blk_drew BK369.out)
 have n13_ := Aside0.mk (below_drew1 HB.out)
 clear HO_349000
 clear HO_349001
 clear HO_349002
 clear HO_359000
 clear HO_359001
 clear HO_359002
 clear HO_370000
 clear HO_370001
 clear HO_370002
 clear BK327
 clear BK348
 clear BK358
 clear BK369
 clear HB
 have HO_349000 := n0_
 have HO_349001 := n1_
 have HO_349002 := n2_
 have HO_359000 := n3_
 have HO_359001 := n4_
 have HO_359002 := n5_
 have HO_370000 := n6_
 have HO_370001 := n7_
 have HO_370002 := n8_
 have BK327 := n9_
 have BK348 := n10_
 have BK358 := n11_
 have BK369 := n12_
 have HB := n13_
 clear n0_ n1_ n2_ n3_ n4_ n5_ n6_ n7_ n8_ n9_ n10_ n11_ n12_ n13_
 refine start_ (n := 5) (S := fun w' => w'.cell? ⟨gb358, 0, none⟩ = some (.slice Ao32 t349.length co32) ∧ w'.cell? ⟨gb358, 1, none⟩ = some (.slice Ao36 t352.length co36) ∧ w'.cell? ⟨gb358, 2, none⟩ = some (.slice Ao37 t355.length co37) ∧ w'.cell? ⟨gb327, 0, none⟩ = some (.slice A0_0 l0_0.length c0_0) ∧ w'.cell? ⟨gb327, 1, none⟩ = some (.slice A0_1 l0_1.length c0_1) ∧ w'.cell? ⟨gb327, 2, none⟩ = some (.slice A0_2 l0_2.length c0_2)) (ds := []) #[F,F,F,F,F] s2_ rfl rfl ⟨(blk_cell BK358.out 0).trans rfl, (blk_cell BK358.out 1).trans rfl, (blk_cell BK358.out 2).trans rfl, (blk_cell BK327.out 0).trans rfl, (blk_cell BK327.out 1).trans rfl, (blk_cell BK327.out 2).trans rfl⟩ (fun hHeld => ?_)
 generalize wc.drew = w71 at HO_349000 HO_349001 HO_349002 HO_359000 HO_359001 HO_359002 HO_370000 HO_370001 HO_370002 BK327 BK348 BK358 BK369 HB hHeld ⊢
 refine take_ (i := 0) (N := some 49) (v := ?_) (a' := ?_) #[T,F,F,F,F] rfl rfl s2_ (fun _ _ _ h => h) (Or.inl ⟨by rfl, ?_⟩) hHeld ?_ ?_
 rotate_left
 {
 rintro w' ⟨s0, s1, s2, s3, s4, s5⟩
 go_simp
 with_reducible rfl}
 rotate_left
 · exact p1_
 refine take_ (i := 1) (N := some 50) (v := ?_) (a' := ?_) #[T,T,F,F,F] rfl rfl s2_ (fun _ _ _ h => h) (Or.inl ⟨by rfl, ?_⟩) hHeld ?_ ?_
 rotate_left
 {
 rintro w' ⟨s0, s1, s2, s3, s4, s5⟩
 go_simp
 with_reducible rfl}
 rotate_left
 · exact p1_
 refine one_ (i := 2) (N := some 51) #[T,T,T,F,F] rfl rfl s2_ (by decide) (fun K hK => ?_)
 refine goes_ Try.func26 s2_ rfl #[.agg #[.slice A0_0 l0_0.length c0_0, .slice A0_1 l0_1.length c0_1, .slice A0_2 l0_2.length c0_2]] (by rfl) rfl rfl s3_ ?_
 with_reducible refine (laws_toPresence.calls kj12 _ _ l0_0 _ _ l0_1 _ _ l0_2 t371 t374 t377 _ ?side1 ?side2 ?side3 ?side4 ?side5 ?side6 A66.out).mono ?_
 (case side1 => exact y2_ (Kd.C_below HR0_0.out HB.out))
 (case side2 => exact HC0_0.out)
 (case side3 => exact y2_ (Kd.C_below HR0_1.out HB.out))
 (case side4 => exact HC0_1.out)
 (case side5 => exact y2_ (Kd.C_below HR0_2.out HB.out))
 (case side6 => exact HC0_2.out)
 rintro e w72 ⟨v372, v375, v378, rfl, ho0, ho1, ho2, hb⟩
 refine ⟨_, rfl, ?_⟩
 have n0_ := Aside0.mk (Kd.R_mono (Kd.R_told (Kd.R_told (Kd.R_old (b2_ HO_349000.out) hb) (Kd.R_base ho0)) (Kd.R_base ho1)) (fun _ h_ => h_.1))
 have n1_ := Aside0.mk (Kd.R_mono (Kd.R_told (Kd.R_told (Kd.R_old (b2_ HO_349001.out) hb) (Kd.R_base ho0)) (Kd.R_base ho1)) (fun _ h_ => h_.1))
 have n2_ := Aside0.mk (Kd.R_elder' (b2_ HO_349002.out) (Kd.R_base ho2) hb)
 have n3_ := Aside0.mk (Kd.R_mono (Kd.R_told (Kd.R_told (Kd.R_old (b2_ HO_359000.out) hb) (Kd.R_base ho0)) (Kd.R_base ho1)) (fun _ h_ => h_.1))
 have n4_ := Aside0.mk (Kd.R_mono (Kd.R_told (Kd.R_told (Kd.R_old (b2_ HO_359001.out) hb) (Kd.R_base ho0)) (Kd.R_base ho1)) (fun _ h_ => h_.1))
 have n5_ := Aside0.mk (Kd.R_elder' (b2_ HO_359002.out) (Kd.R_base ho2) hb)
 have n6_ := Aside0.mk (Kd.R_mono (Kd.R_told (Kd.R_told (Kd.R_old (b2_ HO_370000.out) hb) (Kd.R_base ho0)) (Kd.R_base ho1)) (fun _ h_ => h_.1))
 have n7_ := Aside0.mk (Kd.R_mono (Kd.R_told (Kd.R_told (Kd.R_old (b2_ HO_370001.out) hb) (Kd.R_base ho0)) (Kd.R_base ho1)) (fun _ h_ => h_.1))
 have n8_ := Aside0.mk (Kd.R_elder' (b2_ HO_370002.out) (Kd.R_base ho2) hb)
 have n9_ := Aside0.mk (Kd.R_lower (Kd.R_new' (Kd.R_new' (Kd.R_new' (Kd.R_new' (Kd.R_new' (Kd.R_new' ho0 (Kd.R_lt (b2_ HO_349000.out))) (Kd.R_lt (b2_ HO_349001.out))) (Kd.R_lt (b2_ HO_359000.out))) (Kd.R_lt (b2_ HO_359001.out))) (Kd.R_lt (b2_ HO_370000.out))) (Kd.R_lt (b2_ HO_370001.out))) (below_size (y1_ HB.out)))
 have n10_ := Aside0.mk (Kd.R_lower (Kd.R_new' (Kd.R_new' (Kd.R_new' (Kd.R_new' (Kd.R_new' (Kd.R_new' ho1 (Kd.R_lt (b2_ HO_349000.out))) (Kd.R_lt (b2_ HO_349001.out))) (Kd.R_lt (b2_ HO_359000.out))) (Kd.R_lt (b2_ HO_359001.out))) (Kd.R_lt (b2_ HO_370000.out))) (Kd.R_lt (b2_ HO_370001.out))) (below_size (y1_ HB.out)))
 have n11_ := Aside0.mk (Kd.R_lower (Kd.R_new' (Kd.R_new' (Kd.R_new' ho2 (Kd.R_lt (b2_ HO_349002.out))) (Kd.R_lt (b2_ HO_359002.out))) (Kd.R_lt (b2_ HO_370002.out))) (below_size (y1_ HB.out)))
 have n12_ := b3_ BK327 hb
 have n13_ := b3_ BK348 hb
 have n14_ := b3_ BK358 hb
 have n15_ := b3_ BK369 hb
 have n16_ := Aside0.mk (below_step (y1_ HB.out) hb)
 clear HO_349000
 clear HO_349001
 clear HO_349002
 clear HO_359000
 clear HO_359001
 clear HO_359002
 clear HO_370000
 clear HO_370001
 clear HO_370002
 clear BK327
 clear BK348
 clear BK358
 clear BK369
 clear HB
 have HO_349000 := n0_
 have HO_349001 := n1_
 have HO_349002 := n2_
 have HO_359000 := n3_
 have HO_359001 := n4_
 have HO_359002 := n5_
 have HO_370000 := n6_
 have HO_370001 := n7_
 have HO_370002 := n8_
 have HO373 := n9_
 have HO376 := n10_
 have HO379 := n11_
 have BK327 := n12_
 have BK348 := n13_
 have BK358 := n14_
 have BK369 := n15_
 have HB := n16_
 clear n0_ n1_ n2_ n3_ n4_ n5_ n6_ n7_ n8_ n9_ n10_ n11_ n12_ n13_ n14_ n15_ n16_
 (try clear hb)
 (try clear hb2)
 (try clear hk)
 (try clear hi)
 (try clear ho0)
 (try clear ho1)
 (try clear ho2)
 obtain ⟨Ao73, co73, eo73⟩ := Kd.R_slice HO373.out
 (first | subst eo73 | (injection eo73 with f1_ f2_ f3_; have f4_ := f1_.symm; have f5_ := f3_.symm; clear f1_ f2_ f3_; subst f4_; subst f5_))
 obtain ⟨Ao74, co74, eo74⟩ := Kd.R_slice HO376.out
 (first | subst eo74 | (injection eo74 with f1_ f2_ f3_; have f4_ := f1_.symm; have f5_ := f3_.symm; clear f1_ f2_ f3_; subst f4_; subst f5_))
 obtain ⟨Ao75, co75, eo75⟩ := Kd.R_slice HO379.out
 (first | subst eo75 | (injection eo75 with f1_ f2_ f3_; have f4_ := f1_.symm; have f5_ := f3_.symm; clear f1_ f2_ f3_; subst f4_; subst f5_))
 refine hK.out _ _ ⟨(blk_cell BK358.out 0).trans rfl, (blk_cell BK358.out 1).trans rfl, (blk_cell BK358.out 2).trans rfl, (blk_cell BK327.out 0).trans rfl, (blk_cell BK327.out 1).trans rfl, (blk_cell BK327.out 2).trans rfl⟩ (fun hHeld => ?_)
 clear hK K
 refine norm_ (a' := ?_) ?_ ?_
 rotate_left
 {
 show Act.put _ (some 51) _ = _
 simp only [Act.put, List.setIfInBounds_toArray, List.set_cons_zero, List.set_cons_succ, i64_w, i32_w]
 rfl}
 refine one_ (i := 3) (N := some 52) #[T,T,T,T,F] rfl rfl s2_ (by decide) (fun K hK => ?_)
 refine goes_ Try.func27 s2_ rfl #[.agg #[.slice Ao32 t349.length co32, .slice Ao36 t352.length co36, .slice Ao37 t355.length co37], .agg #[.slice Ao73 t371.length co73, .slice Ao74 t374.length co74, .slice Ao75 t377.length co75]] (by rfl) rfl rfl s3_ ?_
 with_reducible refine (laws_eqPresence.calls kj12 _ _ t349 _ _ t352 _ _ t355 _ _ t371 _ _ t374 _ _ t377 true _ ?side1 ?side2 ?side3 ?side4 ?side5 ?side6 ?side7 ?side8 ?side9 ?side10 ?side11 ?side12 A67.out).mono ?_
 (case side1 => exact y2_ (Kd.R_reads' HO_359000.out).2.2)
 (case side2 => exact (Kd.R_reads' HO_359000.out).2.1)
 (case side3 => exact y2_ (Kd.R_reads' HO_359001.out).2.2)
 (case side4 => exact (Kd.R_reads' HO_359001.out).2.1)
 (case side5 => exact y2_ (Kd.R_reads' HO_359002.out).2.2)
 (case side6 => exact (Kd.R_reads' HO_359002.out).2.1)
 (case side7 => exact y2_ (Kd.R_reads' HO373.out).2.2)
 (case side8 => exact (Kd.R_reads' HO373.out).2.1)
 (case side9 => exact y2_ (Kd.R_reads' HO376.out).2.2)
 (case side10 => exact (Kd.R_reads' HO376.out).2.1)
 (case side11 => exact y2_ (Kd.R_reads' HO379.out).2.2)
 (case side12 => exact (Kd.R_reads' HO379.out).2.1)
 rintro e w76 ⟨rfl, hb⟩
 refine ⟨_, rfl, ?_⟩
 have n0_ := r1_ HO_349000 hb
 have n1_ := r1_ HO_349001 hb
 have n2_ := r1_ HO_349002 hb
 have n3_ := r1_ HO_359000 hb
 have n4_ := r1_ HO_359001 hb
 have n5_ := r1_ HO_359002 hb
 have n6_ := r1_ HO_370000 hb
 have n7_ := r1_ HO_370001 hb
 have n8_ := r1_ HO_370002 hb
 have n9_ := r1_ HO373 hb
 have n10_ := r1_ HO376 hb
 have n11_ := r1_ HO379 hb
 have n12_ := b3_ BK327 hb
 have n13_ := b3_ BK348 hb
 have n14_ := b3_ BK358 hb
 have n15_ := b3_ BK369 hb
 have n16_ := Aside0.mk (below_step (y1_ HB.out) hb)
 clear HO_349000
 clear HO_349001
 clear HO_349002
 clear HO_359000
 clear HO_359001
 clear HO_359002
 clear HO_370000
 clear HO_370001
 clear HO_370002
 clear HO373
 clear HO376
 clear HO379
 clear BK327
 clear BK348
 clear BK358
 clear BK369
 clear HB
 have HO_349000 := n0_
 have HO_349001 := n1_
 have HO_349002 := n2_
 have HO_359000 := n3_
 have HO_359001 := n4_
 have HO_359002 := n5_
 have HO_370000 := n6_
 have HO_370001 := n7_
 have HO_370002 := n8_
 have HO373 := n9_
 have HO376 := n10_
 have HO379 := n11_
 have BK327 := n12_
 have BK348 := n13_
 have BK358 := n14_
 have BK369 := n15_
 have HB := n16_
 clear n0_ n1_ n2_ n3_ n4_ n5_ n6_ n7_ n8_ n9_ n10_ n11_ n12_ n13_ n14_ n15_ n16_
 (try clear hb)
 (try clear hb2)
 (try clear hk)
 (try clear hi)
 refine hK.out _ _ ⟨(blk_cell BK358.out 0).trans rfl, (blk_cell BK358.out 1).trans rfl, (blk_cell BK358.out 2).trans rfl, (blk_cell BK327.out 0).trans rfl, (blk_cell BK327.out 1).trans rfl, (blk_cell BK327.out 2).trans rfl⟩ (fun hHeld => ?_)
 clear hK K
 refine norm_ (a' := ?_) ?_ ?_
 rotate_left
 {
 show Act.put _ (some 52) _ = _
 simp only [Act.put, List.setIfInBounds_toArray, List.set_cons_zero, List.set_cons_succ, i64_w, i32_w]
 rfl}
 refine pure_ (i := 4) (N := some 53) (v := ?_) (a' := ?_) #[T,T,T,T,T] rfl rfl s2_ (fun _ _ _ h => h) (Or.inl ⟨by rfl, ?_⟩) ?_ ?_
 rotate_left
 {
 intro w'
 go_simp
 with_reducible rfl}
 rotate_left
 · exact p1_
 refine done_ s2_ ?_
 have hnb77 := NB358_327.out
 have hnc77 := NB327_358.out
 have hnb78 := NB358_348.out
 have hnc78 := NB348_358.out
 have hnb79 := NB358_369.out
 have hnc79 := NB369_358.out
 have hcz80_0 : w76.cell? ⟨gb358, 0, none⟩ = some (.slice Ao32 t349.length co32) := (blk_cell BK358.out 0).trans rfl
 have hcz80_1 : w76.cell? ⟨gb358, 1, none⟩ = some (.slice Ao36 t352.length co36) := (blk_cell BK358.out 1).trans rfl
 have hcz80_2 : w76.cell? ⟨gb358, 2, none⟩ = some (.slice Ao37 t355.length co37) := (blk_cell BK358.out 2).trans rfl
 have hfz80_0 := blk_frozen BK358.out 0
 have hfz80_1 := blk_frozen BK358.out 1
 have hfz80_2 := blk_frozen BK358.out 2
 go_upto_region 14 with (first | ((with_reducible refine gate_callee (f := 28) rfl ?_); refine goesL_ (some 56) rfl rfl Try.func28 s2_ rfl #[.agg #[.slice Ao32 t349.length co32, .slice Ao36 t352.length co36, .slice Ao37 t355.length co37], .int .i64 1] rfl s3_ ?_; (with_reducible refine (laws_markPresence.calls kj12 (fun k_ => some k_ = (.slice Ao32 t349.length co32 : Value).ownBlock) (.slice Ao32 t349.length co32) t349 (fun k_ => some k_ = (.slice Ao36 t352.length co36 : Value).ownBlock) (.slice Ao36 t352.length co36) t352 (fun k_ => some k_ = (.slice Ao37 t355.length co37 : Value).ownBlock) (.slice Ao37 t355.length co37) t355 1 t381 t382 t383 t384 w _ ?side1 ?side2 ?side3 ?side4 ?side5 ?side6 A69.out).mono ?_); (case side1 => repeat (first | (with_reducible first | exact HB.out | apply below_alloc | apply pw_below_drewN | apply below_drew1) | exact HB.out)); (case side2 => exact Kd.R_tight rfl HO_359000.out); (case side3 => exact fun k_ e_ => (HO_359000.out.1 k_ e_.symm).1.1.2.2.1); (case side4 => exact Kd.R_tight rfl HO_359001.out); (case side5 => exact fun k_ e_ => (HO_359001.out.1 k_ e_.symm).1.1.2.2.1); (case side6 => exact Kd.R_tight rfl HO_359002.out); rintro e w81 ⟨rfl, hy0, hy1, hy2, hb, hkp⟩; refine ⟨_, rfl, ?_⟩; have n0_ := Aside0.mk (Kd.R_mono (ok' := fun k_ => some k_ ≠ (.slice Ao27 t341.length co27 : Value).ownBlock ∧ some k_ ≠ (.slice Ao32 t349.length co32 : Value).ownBlock ∧ some k_ ≠ (.slice Ao36 t352.length co36 : Value).ownBlock ∧ some k_ ≠ (.slice Ao40 t359.length co40 : Value).ownBlock ∧ some k_ ≠ (.slice Ao45 t362.length co45 : Value).ownBlock ∧ some k_ ≠ (.slice Ao73 t371.length co73 : Value).ownBlock ∧ some k_ ≠ (.slice Ao74 t374.length co74 : Value).ownBlock) (Kd.R_keptB ((Kd.R_apart' HO_349000.out (Kd.R_typed HO_359002.out) (by decide))) hkp (fun k_ hk_ hs_ => Or.elim hs_ (fun e_ => (hk_.1.1.1.2.1) e_) (fun e_ => Or.elim e_ (fun e_ => (hk_.1.1.1.2.2.1) e_) (fun e_ => (hk_.2) e_)))) (fun k_ hk_ => ⟨hk_.1.1.1.1.1, hk_.1.1.1.1.2.1, hk_.1.1.1.1.2.2.1, hk_.1.1.1.1.2.2.2.1, hk_.1.1.1.1.2.2.2.2, hk_.1.1.1.2, hk_.1.1.2⟩)); have n1_ := Aside0.mk (Kd.R_mono (ok' := fun k_ => some k_ ≠ (.slice Ao24 t338.length co24 : Value).ownBlock ∧ some k_ ≠ (.slice Ao32 t349.length co32 : Value).ownBlock ∧ some k_ ≠ (.slice Ao36 t352.length co36 : Value).ownBlock ∧ some k_ ≠ (.slice Ao40 t359.length co40 : Value).ownBlock ∧ some k_ ≠ (.slice Ao45 t362.length co45 : Value).ownBlock ∧ some k_ ≠ (.slice Ao73 t371.length co73 : Value).ownBlock ∧ some k_ ≠ (.slice Ao74 t374.length co74 : Value).ownBlock) (Kd.R_keptB ((Kd.R_apart' HO_349001.out (Kd.R_typed HO_359002.out) (by decide))) hkp (fun k_ hk_ hs_ => Or.elim hs_ (fun e_ => (hk_.1.1.1.2.1) e_) (fun e_ => Or.elim e_ (fun e_ => (hk_.1.1.1.2.2.1) e_) (fun e_ => (hk_.2) e_)))) (fun k_ hk_ => ⟨hk_.1.1.1.1.1, hk_.1.1.1.1.2.1, hk_.1.1.1.1.2.2.1, hk_.1.1.1.1.2.2.2.1, hk_.1.1.1.1.2.2.2.2, hk_.1.1.1.2, hk_.1.1.2⟩)); have n2_ := Aside0.mk (Kd.R_mono (ok' := fun k_ => some k_ ≠ (.slice Ao37 t355.length co37 : Value).ownBlock ∧ some k_ ≠ (.slice Ao46 t365.length co46 : Value).ownBlock ∧ some k_ ≠ (.slice Ao75 t377.length co75 : Value).ownBlock) (Kd.R_keptB ((Kd.R_apart' (Kd.R_apart' HO_349002.out (Kd.R_typed HO_359000.out) (by decide)) (Kd.R_typed HO_359001.out) (by decide))) hkp (fun k_ hk_ hs_ => Or.elim hs_ (fun e_ => (hk_.1.2) e_) (fun e_ => Or.elim e_ (fun e_ => (hk_.2) e_) (fun e_ => (hk_.1.1.1.1) e_)))) (fun k_ hk_ => ⟨hk_.1.1.1.1.1, hk_.1.1.1.1.2, hk_.1.1.1.2⟩)); have n3_ := Aside0.mk (Kd.R_reok rfl hy0 (fun k_ e_ => HO_359000.out.1 k_ e_)); have n4_ := Aside0.mk (Kd.R_reok rfl hy1 (fun k_ e_ => HO_359001.out.1 k_ e_)); have n5_ := Aside0.mk (Kd.R_reok rfl hy2 (fun k_ e_ => HO_359002.out.1 k_ e_)); have n6_ := Aside0.mk (Kd.R_mono (ok' := fun k_ => some k_ ≠ (.slice Ao24 t338.length co24 : Value).ownBlock ∧ some k_ ≠ (.slice Ao27 t341.length co27 : Value).ownBlock ∧ some k_ ≠ (.slice Ao32 t349.length co32 : Value).ownBlock ∧ some k_ ≠ (.slice Ao36 t352.length co36 : Value).ownBlock ∧ some k_ ≠ (.slice Ao45 t362.length co45 : Value).ownBlock ∧ some k_ ≠ (.slice Ao73 t371.length co73 : Value).ownBlock ∧ some k_ ≠ (.slice Ao74 t374.length co74 : Value).ownBlock) (Kd.R_keptB ((Kd.R_apart' HO_370000.out (Kd.R_typed HO_359002.out) (by decide))) hkp (fun k_ hk_ hs_ => Or.elim hs_ (fun e_ => (hk_.1.1.1.2.2.1) e_) (fun e_ => Or.elim e_ (fun e_ => (hk_.1.1.1.2.2.2.1) e_) (fun e_ => (hk_.2) e_)))) (fun k_ hk_ => ⟨hk_.1.1.1.1.1, hk_.1.1.1.1.2.1, hk_.1.1.1.1.2.2.1, hk_.1.1.1.1.2.2.2.1, hk_.1.1.1.1.2.2.2.2, hk_.1.1.1.2, hk_.1.1.2⟩)); have n7_ := Aside0.mk (Kd.R_mono (ok' := fun k_ => some k_ ≠ (.slice Ao24 t338.length co24 : Value).ownBlock ∧ some k_ ≠ (.slice Ao27 t341.length co27 : Value).ownBlock ∧ some k_ ≠ (.slice Ao32 t349.length co32 : Value).ownBlock ∧ some k_ ≠ (.slice Ao36 t352.length co36 : Value).ownBlock ∧ some k_ ≠ (.slice Ao40 t359.length co40 : Value).ownBlock ∧ some k_ ≠ (.slice Ao73 t371.length co73 : Value).ownBlock ∧ some k_ ≠ (.slice Ao74 t374.length co74 : Value).ownBlock) (Kd.R_keptB ((Kd.R_apart' HO_370001.out (Kd.R_typed HO_359002.out) (by decide))) hkp (fun k_ hk_ hs_ => Or.elim hs_ (fun e_ => (hk_.1.1.1.2.2.1) e_) (fun e_ => Or.elim e_ (fun e_ => (hk_.1.1.1.2.2.2.1) e_) (fun e_ => (hk_.2) e_)))) (fun k_ hk_ => ⟨hk_.1.1.1.1.1, hk_.1.1.1.1.2.1, hk_.1.1.1.1.2.2.1, hk_.1.1.1.1.2.2.2.1, hk_.1.1.1.1.2.2.2.2, hk_.1.1.1.2, hk_.1.1.2⟩)); have n8_ := Aside0.mk (Kd.R_mono (ok' := fun k_ => some k_ ≠ (.slice Ao28 t344.length co28 : Value).ownBlock ∧ some k_ ≠ (.slice Ao37 t355.length co37 : Value).ownBlock ∧ some k_ ≠ (.slice Ao75 t377.length co75 : Value).ownBlock) (Kd.R_keptB ((Kd.R_apart' (Kd.R_apart' HO_370002.out (Kd.R_typed HO_359000.out) (by decide)) (Kd.R_typed HO_359001.out) (by decide))) hkp (fun k_ hk_ hs_ => Or.elim hs_ (fun e_ => (hk_.1.2) e_) (fun e_ => Or.elim e_ (fun e_ => (hk_.2) e_) (fun e_ => (hk_.1.1.1.2) e_)))) (fun k_ hk_ => ⟨hk_.1.1.1.1.1, hk_.1.1.1.1.2, hk_.1.1.1.2⟩)); have n9_ := Aside0.mk (blk_kept (b1_ BK327.out) hkp (fun hs_ => Or.elim hs_ (fun e_ => (fun e_ => (Kd.R_ne HO_359000.out BK327.out (by decide)) e_) e_) (fun e_ => Or.elim e_ (fun e_ => (fun e_ => (Kd.R_ne HO_359001.out BK327.out (by decide)) e_) e_) (fun e_ => (fun e_ => (Kd.R_ne HO_359002.out BK327.out (by decide)) e_) e_)))); have n10_ := Aside0.mk (blk_kept (b1_ BK348.out) hkp (fun hs_ => Or.elim hs_ (fun e_ => (fun e_ => (Kd.R_ne HO_359000.out BK348.out (by decide)) e_) e_) (fun e_ => Or.elim e_ (fun e_ => (fun e_ => (Kd.R_ne HO_359001.out BK348.out (by decide)) e_) e_) (fun e_ => (fun e_ => (Kd.R_ne HO_359002.out BK348.out (by decide)) e_) e_)))); have n11_ := Aside0.mk (blk_kept (b1_ BK358.out) hkp (fun hs_ => Or.elim hs_ (fun e_ => (fun e_ => (Kd.R_ne HO_359000.out BK358.out (by decide)) e_) e_) (fun e_ => Or.elim e_ (fun e_ => (fun e_ => (Kd.R_ne HO_359001.out BK358.out (by decide)) e_) e_) (fun e_ => (fun e_ => (Kd.R_ne HO_359002.out BK358.out (by decide)) e_) e_)))); have n12_ := Aside0.mk (blk_kept (b1_ BK369.out) hkp (fun hs_ => Or.elim hs_ (fun e_ => (fun e_ => (Kd.R_ne HO_359000.out BK369.out (by decide)) e_) e_) (fun e_ => Or.elim e_ (fun e_ => (fun e_ => (Kd.R_ne HO_359001.out BK369.out (by decide)) e_) e_) (fun e_ => (fun e_ => (Kd.R_ne HO_359002.out BK369.out (by decide)) e_) e_)))); have n13_ := Aside0.mk (Kd.R_mono (ok' := fun k_ => some k_ ≠ (.slice Ao24 t338.length co24 : Value).ownBlock ∧ some k_ ≠ (.slice Ao27 t341.length co27 : Value).ownBlock ∧ some k_ ≠ (.slice Ao32 t349.length co32 : Value).ownBlock ∧ some k_ ≠ (.slice Ao36 t352.length co36 : Value).ownBlock ∧ some k_ ≠ (.slice Ao40 t359.length co40 : Value).ownBlock ∧ some k_ ≠ (.slice Ao45 t362.length co45 : Value).ownBlock ∧ some k_ ≠ (.slice Ao74 t374.length co74 : Value).ownBlock) (Kd.R_keptB ((Kd.R_apart' HO373.out (Kd.R_typed HO_359002.out) (by decide))) hkp (fun k_ hk_ hs_ => Or.elim hs_ (fun e_ => (hk_.1.1.1.1.2) e_) (fun e_ => Or.elim e_ (fun e_ => (hk_.1.1.1.2) e_) (fun e_ => (hk_.2) e_)))) (fun k_ hk_ => ⟨hk_.1.1.1.1.1.1.1.2, hk_.1.1.1.1.1.1.2, hk_.1.1.1.1.1.2, hk_.1.1.1.1.2, hk_.1.1.1.2, hk_.1.1.2, hk_.1.1.1.1.1.1.1.1⟩)); have n14_ := Aside0.mk (Kd.R_mono (ok' := fun k_ => some k_ ≠ (.slice Ao24 t338.length co24 : Value).ownBlock ∧ some k_ ≠ (.slice Ao27 t341.length co27 : Value).ownBlock ∧ some k_ ≠ (.slice Ao32 t349.length co32 : Value).ownBlock ∧ some k_ ≠ (.slice Ao36 t352.length co36 : Value).ownBlock ∧ some k_ ≠ (.slice Ao40 t359.length co40 : Value).ownBlock ∧ some k_ ≠ (.slice Ao45 t362.length co45 : Value).ownBlock ∧ some k_ ≠ (.slice Ao73 t371.length co73 : Value).ownBlock) (Kd.R_keptB ((Kd.R_apart' HO376.out (Kd.R_typed HO_359002.out) (by decide))) hkp (fun k_ hk_ hs_ => Or.elim hs_ (fun e_ => (hk_.1.1.1.1.2) e_) (fun e_ => Or.elim e_ (fun e_ => (hk_.1.1.1.2) e_) (fun e_ => (hk_.2) e_)))) (fun k_ hk_ => ⟨hk_.1.1.1.1.1.1.1.2, hk_.1.1.1.1.1.1.2, hk_.1.1.1.1.1.2, hk_.1.1.1.1.2, hk_.1.1.1.2, hk_.1.1.2, hk_.1.1.1.1.1.1.1.1⟩)); have n15_ := Aside0.mk (Kd.R_mono (ok' := fun k_ => some k_ ≠ (.slice Ao28 t344.length co28 : Value).ownBlock ∧ some k_ ≠ (.slice Ao37 t355.length co37 : Value).ownBlock ∧ some k_ ≠ (.slice Ao46 t365.length co46 : Value).ownBlock) (Kd.R_keptB ((Kd.R_apart' (Kd.R_apart' HO379.out (Kd.R_typed HO_359000.out) (by decide)) (Kd.R_typed HO_359001.out) (by decide))) hkp (fun k_ hk_ hs_ => Or.elim hs_ (fun e_ => (hk_.1.2) e_) (fun e_ => Or.elim e_ (fun e_ => (hk_.2) e_) (fun e_ => (hk_.1.1.1.2) e_)))) (fun k_ hk_ => ⟨hk_.1.1.1.1.1.2, hk_.1.1.1.1.2, hk_.1.1.1.2⟩)); have n16_ := Aside0.mk (hb); clear HO_349000; clear HO_349001; clear HO_349002; clear HO_359000; clear HO_359001; clear HO_359002; clear HO_370000; clear HO_370001; clear HO_370002; clear BK327; clear BK348; clear BK358; clear BK369; clear HO373; clear HO376; clear HO379; clear HB; have HO_349000 := n0_; have HO_349001 := n1_; have HO_349002 := n2_; have HO_359000 := n3_; have HO_359001 := n4_; have HO_359002 := n5_; have HO_370000 := n6_; have HO_370001 := n7_; have HO_370002 := n8_; have BK327 := n9_; have BK348 := n10_; have BK358 := n11_; have BK369 := n12_; have HO373 := n13_; have HO376 := n14_; have HO379 := n15_; have HB := n16_; clear n0_ n1_ n2_ n3_ n4_ n5_ n6_ n7_ n8_ n9_ n10_ n11_ n12_ n13_ n14_ n15_ n16_; (try clear hb); (try clear hkp); (try clear hy0); (try clear hy1); (try clear hy2)))
 (try simp only [Act.put, List.setIfInBounds_toArray, List.set_cons_zero, List.set_cons_succ])
 go_cut [69] (fun v69 wc => ∃ (kq : Nat) (x69_69 : Bool), v69 = .bool x69_69 ∧ Aside0 (laws_FnExactReadUpTo.j1 kq a1 a2 t347 x69_69 l0_0 l0_1 l0_2 t338 t341 t344 t359 t362 t365 = some r) ∧ Aside0 (kq ≤ kj12) ∧ Aside0 (Kd.R k63 63 wc w.heap.size (fun k_ => some k_ ≠ ((.slice Ao27 t341.length co27) : Value).ownBlock ∧ some k_ ≠ ((.slice Ao32 t349.length co32) : Value).ownBlock ∧ some k_ ≠ ((.slice Ao36 t352.length co36) : Value).ownBlock ∧ some k_ ≠ ((.slice Ao40 t359.length co40) : Value).ownBlock ∧ some k_ ≠ ((.slice Ao45 t362.length co45) : Value).ownBlock) (.slice Ao24 t338.length co24) t338) ∧ Aside0 (Kd.R k63 63 wc w.heap.size (fun k_ => some k_ ≠ ((.slice Ao24 t338.length co24) : Value).ownBlock ∧ some k_ ≠ ((.slice Ao32 t349.length co32) : Value).ownBlock ∧ some k_ ≠ ((.slice Ao36 t352.length co36) : Value).ownBlock ∧ some k_ ≠ ((.slice Ao40 t359.length co40) : Value).ownBlock ∧ some k_ ≠ ((.slice Ao45 t362.length co45) : Value).ownBlock) (.slice Ao27 t341.length co27) t341) ∧ Aside0 (Kd.R k73 73 wc w.heap.size (fun k_ => some k_ ≠ ((.slice Ao37 t355.length co37) : Value).ownBlock ∧ some k_ ≠ ((.slice Ao46 t365.length co46) : Value).ownBlock) (.slice Ao28 t344.length co28) t344) ∧ Aside0 (Kd.R k63 63 wc w.heap.size (fun k_ => some k_ ≠ ((.slice Ao24 t338.length co24) : Value).ownBlock ∧ some k_ ≠ ((.slice Ao27 t341.length co27) : Value).ownBlock ∧ some k_ ≠ ((.slice Ao36 t352.length co36) : Value).ownBlock ∧ some k_ ≠ ((.slice Ao40 t359.length co40) : Value).ownBlock ∧ some k_ ≠ ((.slice Ao45 t362.length co45) : Value).ownBlock) (.slice Ao32 t349.length co32) t382) ∧ Aside0 (Kd.R k63 63 wc w.heap.size (fun k_ => some k_ ≠ ((.slice Ao24 t338.length co24) : Value).ownBlock ∧ some k_ ≠ ((.slice Ao27 t341.length co27) : Value).ownBlock ∧ some k_ ≠ ((.slice Ao32 t349.length co32) : Value).ownBlock ∧ some k_ ≠ ((.slice Ao40 t359.length co40) : Value).ownBlock ∧ some k_ ≠ ((.slice Ao45 t362.length co45) : Value).ownBlock) (.slice Ao36 t352.length co36) t383) ∧ Aside0 (Kd.R k73 73 wc w.heap.size (fun k_ => some k_ ≠ ((.slice Ao28 t344.length co28) : Value).ownBlock ∧ some k_ ≠ ((.slice Ao46 t365.length co46) : Value).ownBlock) (.slice Ao37 t355.length co37) t384) ∧ Aside0 (Kd.R k63 63 wc w.heap.size (fun k_ => some k_ ≠ ((.slice Ao24 t338.length co24) : Value).ownBlock ∧ some k_ ≠ ((.slice Ao27 t341.length co27) : Value).ownBlock ∧ some k_ ≠ ((.slice Ao32 t349.length co32) : Value).ownBlock ∧ some k_ ≠ ((.slice Ao36 t352.length co36) : Value).ownBlock ∧ some k_ ≠ ((.slice Ao45 t362.length co45) : Value).ownBlock) (.slice Ao40 t359.length co40) t359) ∧ Aside0 (Kd.R k63 63 wc w.heap.size (fun k_ => some k_ ≠ ((.slice Ao24 t338.length co24) : Value).ownBlock ∧ some k_ ≠ ((.slice Ao27 t341.length co27) : Value).ownBlock ∧ some k_ ≠ ((.slice Ao32 t349.length co32) : Value).ownBlock ∧ some k_ ≠ ((.slice Ao36 t352.length co36) : Value).ownBlock ∧ some k_ ≠ ((.slice Ao40 t359.length co40) : Value).ownBlock) (.slice Ao45 t362.length co45) t362) ∧ Aside0 (Kd.R k73 73 wc w.heap.size (fun k_ => some k_ ≠ ((.slice Ao28 t344.length co28) : Value).ownBlock ∧ some k_ ≠ ((.slice Ao37 t355.length co37) : Value).ownBlock) (.slice Ao46 t365.length co46) t365) ∧ Aside0 (wc.heap[gb327]? = some (.cells #[(.slice A0_0 l0_0.length c0_0), (.slice A0_1 l0_1.length c0_1), (.slice A0_2 l0_2.length c0_2)] 45 (0, 0))) ∧ Aside0 (wc.heap[gb348]? = some (.cells #[(.slice Ao24 t338.length co24), (.slice Ao27 t341.length co27), (.slice Ao28 t344.length co28)] 27 (0, 0))) ∧ Aside0 (wc.heap[gb358]? = some (.cells #[(.slice Ao32 t349.length co32), (.slice Ao36 t352.length co36), (.slice Ao37 t355.length co37)] 27 (0, 0))) ∧ Aside0 (wc.heap[gb369]? = some (.cells #[(.slice Ao40 t359.length co40), (.slice Ao45 t362.length co45), (.slice Ao46 t365.length co46)] 27 (0, 0))) ∧ Aside0 (Below w.heap.size w wc))
 case first =>
  as_aux_lemma =>
   skip
   {
 have H := HC70.out
 clear HC70
 by_cases c82 : t381 < 0
 {
 rw [if_pos c82] at H
 have c82b0 : decide (t381 < 0) = true := decide_eq_true c82
 clear c82
 (first | rw [c82b0] | (simp only [i64_w, i32_w]; rw [c82b0]) | skip)
 have H' := Aside0.mk H
 clear H
 go_wp2
 go_meet
 case rel => exact ⟨_, (true), s1_, H', ⟨by have := HJ12.out; first | omega | exact Nat.le_refl _⟩, ⟨by (with_reducible repeat (first | apply Kd.R_alloc | apply Kd.R_drewN | apply Kd.R_drew)); exact Kd.R_mono HO_349000.out (fun _ hk => ⟨hk.1, ⟨hk.2.1, ⟨hk.2.2.1, ⟨hk.2.2.2.1, hk.2.2.2.2.1⟩⟩⟩⟩)⟩, ⟨by (with_reducible repeat (first | apply Kd.R_alloc | apply Kd.R_drewN | apply Kd.R_drew)); exact Kd.R_mono HO_349001.out (fun _ hk => ⟨hk.1, ⟨hk.2.1, ⟨hk.2.2.1, ⟨hk.2.2.2.1, hk.2.2.2.2.1⟩⟩⟩⟩)⟩, ⟨by (with_reducible repeat (first | apply Kd.R_alloc | apply Kd.R_drewN | apply Kd.R_drew)); exact Kd.R_mono HO_349002.out (fun _ hk => ⟨hk.1, hk.2.1⟩)⟩, ⟨by (with_reducible repeat (first | apply Kd.R_alloc | apply Kd.R_drewN | apply Kd.R_drew)); exact Kd.R_mono HO_359000.out (fun _ hk => ⟨hk.1.1.1, ⟨hk.1.1.2.1, ⟨hk.1.1.2.2.1, ⟨hk.1.1.2.2.2.1, hk.1.1.2.2.2.2⟩⟩⟩⟩)⟩, ⟨by (with_reducible repeat (first | apply Kd.R_alloc | apply Kd.R_drewN | apply Kd.R_drew)); exact Kd.R_mono HO_359001.out (fun _ hk => ⟨hk.1.1.1, ⟨hk.1.1.2.1, ⟨hk.1.1.2.2.1, ⟨hk.1.1.2.2.2.1, hk.1.1.2.2.2.2⟩⟩⟩⟩)⟩, ⟨by (with_reducible repeat (first | apply Kd.R_alloc | apply Kd.R_drewN | apply Kd.R_drew)); exact Kd.R_mono HO_359002.out (fun _ hk => ⟨hk.1.1, hk.1.2⟩)⟩, ⟨by (with_reducible repeat (first | apply Kd.R_alloc | apply Kd.R_drewN | apply Kd.R_drew)); exact Kd.R_mono HO_370000.out (fun _ hk => ⟨hk.1, ⟨hk.2.1, ⟨hk.2.2.1, ⟨hk.2.2.2.1, hk.2.2.2.2.1⟩⟩⟩⟩)⟩, ⟨by (with_reducible repeat (first | apply Kd.R_alloc | apply Kd.R_drewN | apply Kd.R_drew)); exact Kd.R_mono HO_370001.out (fun _ hk => ⟨hk.1, ⟨hk.2.1, ⟨hk.2.2.1, ⟨hk.2.2.2.1, hk.2.2.2.2.1⟩⟩⟩⟩)⟩, ⟨by (with_reducible repeat (first | apply Kd.R_alloc | apply Kd.R_drewN | apply Kd.R_drew)); exact Kd.R_mono HO_370002.out (fun _ hk => ⟨hk.1, hk.2.1⟩)⟩, ⟨b1_ BK327.out⟩, ⟨b1_ BK348.out⟩, ⟨b1_ BK358.out⟩, ⟨b1_ BK369.out⟩, ⟨by repeat (first | (with_reducible first | exact HB.out | apply below_alloc | apply pw_below_drewN | apply below_drew1) | exact HB.out)⟩⟩}
 {
 rw [if_neg c82] at H
 have c82b0 : decide (t381 < 0) = false := decide_eq_false c82
 clear c82
 (first | rw [c82b0] | (simp only [i64_w, i32_w]; rw [c82b0]) | skip)
 replace H := Option.bind_eq_some_iff.mp H
 obtain ⟨t385, A830, H⟩ := H
 replace H : (if t385 = true then (laws_FnExactReadUpTo.j1 kj12 a1 a2 t347 (t368 != t347) l0_0 l0_1 l0_2 t338 t341 t344 t359 t362 t365) else (laws_FnExactReadUpTo.j1 kj12 a1 a2 t347 true l0_0 l0_1 l0_2 t338 t341 t344 t359 t362 t365)) = some r := H
 have A83 := Aside0.mk A830
 clear A830
 by_cases c84 : t385 = true
 {
 subst c84
 have H1 : (laws_FnExactReadUpTo.j1 kj12 a1 a2 t347 (t368 != t347) l0_0 l0_1 l0_2 t338 t341 t344 t359 t362 t365) = some r := by rw [if_pos rfl] at H; exact H
 clear H
 have H := H1
 clear H1
 have H' := Aside0.mk H
 clear H
 have hnb85 := NB369_327.out
 have hnc85 := NB327_369.out
 have hnb86 := NB369_348.out
 have hnc86 := NB348_369.out
 have hnb87 := NB369_358.out
 have hnc87 := NB358_369.out
 have hcz88_0 : w81.cell? ⟨gb369, 0, none⟩ = some (.slice Ao40 t359.length co40) := (blk_cell BK369.out 0).trans rfl
 have hcz88_1 : w81.cell? ⟨gb369, 1, none⟩ = some (.slice Ao45 t362.length co45) := (blk_cell BK369.out 1).trans rfl
 have hcz88_2 : w81.cell? ⟨gb369, 2, none⟩ = some (.slice Ao46 t365.length co46) := (blk_cell BK369.out 2).trans rfl
 have hfz88_0 := blk_frozen BK369.out 0
 have hfz88_1 := blk_frozen BK369.out 1
 have hfz88_2 := blk_frozen BK369.out 2
 have hnb89 := NB348_327.out
 have hnc89 := NB327_348.out
 have hnb90 := NB348_358.out
 have hnc90 := NB358_348.out
 have hcz91_0 : w81.cell? ⟨gb348, 0, none⟩ = some (.slice Ao24 t338.length co24) := (blk_cell BK348.out 0).trans rfl
 have hcz91_1 : w81.cell? ⟨gb348, 1, none⟩ = some (.slice Ao27 t341.length co27) := (blk_cell BK348.out 1).trans rfl
 have hcz91_2 : w81.cell? ⟨gb348, 2, none⟩ = some (.slice Ao28 t344.length co28) := (blk_cell BK348.out 2).trans rfl
 have hfz91_0 := blk_frozen BK348.out 0
 have hfz91_1 := blk_frozen BK348.out 1
 have hfz91_2 := blk_frozen BK348.out 2
 go_wp2_with (first | (go_at_call 27; (with_reducible refine (laws_eqPresence.calls kj12 _ _ t359 _ _ t362 _ _ t365 _ _ t338 _ _ t341 _ _ t344 true _ ?side1 ?side2 ?side3 ?side4 ?side5 ?side6 ?side7 ?side8 ?side9 ?side10 ?side11 ?side12 A83.out).mono ?_); (case side1 => exact y2_ (Kd.R_reads' HO_370000.out).2.2); (case side2 => exact (Kd.R_reads' HO_370000.out).2.1); (case side3 => exact y2_ (Kd.R_reads' HO_370001.out).2.2); (case side4 => exact (Kd.R_reads' HO_370001.out).2.1); (case side5 => exact y2_ (Kd.R_reads' HO_370002.out).2.2); (case side6 => exact (Kd.R_reads' HO_370002.out).2.1); (case side7 => exact y2_ (Kd.R_reads' HO_349000.out).2.2); (case side8 => exact (Kd.R_reads' HO_349000.out).2.1); (case side9 => exact y2_ (Kd.R_reads' HO_349001.out).2.2); (case side10 => exact (Kd.R_reads' HO_349001.out).2.1); (case side11 => exact y2_ (Kd.R_reads' HO_349002.out).2.2); (case side12 => exact (Kd.R_reads' HO_349002.out).2.1); rintro e w92 ⟨rfl, hb⟩; have n0_ := r1_ HO_349000 hb; have n1_ := r1_ HO_349001 hb; have n2_ := r1_ HO_349002 hb; have n3_ := r1_ HO_359000 hb; have n4_ := r1_ HO_359001 hb; have n5_ := r1_ HO_359002 hb; have n6_ := r1_ HO_370000 hb; have n7_ := r1_ HO_370001 hb; have n8_ := r1_ HO_370002 hb; have n9_ := r1_ HO373 hb; have n10_ := r1_ HO376 hb; have n11_ := r1_ HO379 hb; have n12_ := b3_ BK327 hb; have n13_ := b3_ BK348 hb; have n14_ := b3_ BK358 hb; have n15_ := b3_ BK369 hb; have n16_ := Aside0.mk (below_step (y1_ HB.out) hb); clear HO_349000; clear HO_349001; clear HO_349002; clear HO_359000; clear HO_359001; clear HO_359002; clear HO_370000; clear HO_370001; clear HO_370002; clear HO373; clear HO376; clear HO379; clear BK327; clear BK348; clear BK358; clear BK369; clear HB; have HO_349000 := n0_; have HO_349001 := n1_; have HO_349002 := n2_; have HO_359000 := n3_; have HO_359001 := n4_; have HO_359002 := n5_; have HO_370000 := n6_; have HO_370001 := n7_; have HO_370002 := n8_; have HO373 := n9_; have HO376 := n10_; have HO379 := n11_; have BK327 := n12_; have BK348 := n13_; have BK358 := n14_; have BK369 := n15_; have HB := n16_; clear n0_ n1_ n2_ n3_ n4_ n5_ n6_ n7_ n8_ n9_ n10_ n11_ n12_ n13_ n14_ n15_ n16_; (try clear hb); (try clear hb2); (try clear hk); (try clear hi)))
 go_meet
 case rel => exact ⟨_, ((t368 != t347)), s1_, H', ⟨by have := HJ12.out; first | omega | exact Nat.le_refl _⟩, ⟨by (with_reducible repeat (first | apply Kd.R_alloc | apply Kd.R_drewN | apply Kd.R_drew)); exact Kd.R_mono HO_349000.out (fun _ hk => ⟨hk.1, ⟨hk.2.1, ⟨hk.2.2.1, ⟨hk.2.2.2.1, hk.2.2.2.2.1⟩⟩⟩⟩)⟩, ⟨by (with_reducible repeat (first | apply Kd.R_alloc | apply Kd.R_drewN | apply Kd.R_drew)); exact Kd.R_mono HO_349001.out (fun _ hk => ⟨hk.1, ⟨hk.2.1, ⟨hk.2.2.1, ⟨hk.2.2.2.1, hk.2.2.2.2.1⟩⟩⟩⟩)⟩, ⟨by (with_reducible repeat (first | apply Kd.R_alloc | apply Kd.R_drewN | apply Kd.R_drew)); exact Kd.R_mono HO_349002.out (fun _ hk => ⟨hk.1, hk.2.1⟩)⟩, ⟨by (with_reducible repeat (first | apply Kd.R_alloc | apply Kd.R_drewN | apply Kd.R_drew)); exact Kd.R_mono HO_359000.out (fun _ hk => ⟨hk.1.1.1, ⟨hk.1.1.2.1, ⟨hk.1.1.2.2.1, ⟨hk.1.1.2.2.2.1, hk.1.1.2.2.2.2⟩⟩⟩⟩)⟩, ⟨by (with_reducible repeat (first | apply Kd.R_alloc | apply Kd.R_drewN | apply Kd.R_drew)); exact Kd.R_mono HO_359001.out (fun _ hk => ⟨hk.1.1.1, ⟨hk.1.1.2.1, ⟨hk.1.1.2.2.1, ⟨hk.1.1.2.2.2.1, hk.1.1.2.2.2.2⟩⟩⟩⟩)⟩, ⟨by (with_reducible repeat (first | apply Kd.R_alloc | apply Kd.R_drewN | apply Kd.R_drew)); exact Kd.R_mono HO_359002.out (fun _ hk => ⟨hk.1.1, hk.1.2⟩)⟩, ⟨by (with_reducible repeat (first | apply Kd.R_alloc | apply Kd.R_drewN | apply Kd.R_drew)); exact Kd.R_mono HO_370000.out (fun _ hk => ⟨hk.1, ⟨hk.2.1, ⟨hk.2.2.1, ⟨hk.2.2.2.1, hk.2.2.2.2.1⟩⟩⟩⟩)⟩, ⟨by (with_reducible repeat (first | apply Kd.R_alloc | apply Kd.R_drewN | apply Kd.R_drew)); exact Kd.R_mono HO_370001.out (fun _ hk => ⟨hk.1, ⟨hk.2.1, ⟨hk.2.2.1, ⟨hk.2.2.2.1, hk.2.2.2.2.1⟩⟩⟩⟩)⟩, ⟨by (with_reducible repeat (first | apply Kd.R_alloc | apply Kd.R_drewN | apply Kd.R_drew)); exact Kd.R_mono HO_370002.out (fun _ hk => ⟨hk.1, hk.2.1⟩)⟩, ⟨b1_ BK327.out⟩, ⟨b1_ BK348.out⟩, ⟨b1_ BK358.out⟩, ⟨b1_ BK369.out⟩, ⟨by repeat (first | (with_reducible first | exact HB.out | apply below_alloc | apply pw_below_drewN | apply below_drew1) | exact HB.out)⟩⟩}
 {
 replace c84 := Bool.eq_false_iff.mpr c84
 subst c84
 have H1 : (laws_FnExactReadUpTo.j1 kj12 a1 a2 t347 true l0_0 l0_1 l0_2 t338 t341 t344 t359 t362 t365) = some r := by rw [if_neg (show ¬ (false = true) by decide)] at H; exact H
 clear H
 have H := H1
 clear H1
 have H' := Aside0.mk H
 clear H
 have hnb93 := NB369_327.out
 have hnc93 := NB327_369.out
 have hnb94 := NB369_348.out
 have hnc94 := NB348_369.out
 have hnb95 := NB369_358.out
 have hnc95 := NB358_369.out
 have hcz96_0 : w81.cell? ⟨gb369, 0, none⟩ = some (.slice Ao40 t359.length co40) := (blk_cell BK369.out 0).trans rfl
 have hcz96_1 : w81.cell? ⟨gb369, 1, none⟩ = some (.slice Ao45 t362.length co45) := (blk_cell BK369.out 1).trans rfl
 have hcz96_2 : w81.cell? ⟨gb369, 2, none⟩ = some (.slice Ao46 t365.length co46) := (blk_cell BK369.out 2).trans rfl
 have hfz96_0 := blk_frozen BK369.out 0
 have hfz96_1 := blk_frozen BK369.out 1
 have hfz96_2 := blk_frozen BK369.out 2
 have hnb97 := NB348_327.out
 have hnc97 := NB327_348.out
 have hnb98 := NB348_358.out
 have hnc98 := NB358_348.out
 have hcz99_0 : w81.cell? ⟨gb348, 0, none⟩ = some (.slice Ao24 t338.length co24) := (blk_cell BK348.out 0).trans rfl
 have hcz99_1 : w81.cell? ⟨gb348, 1, none⟩ = some (.slice Ao27 t341.length co27) := (blk_cell BK348.out 1).trans rfl
 have hcz99_2 : w81.cell? ⟨gb348, 2, none⟩ = some (.slice Ao28 t344.length co28) := (blk_cell BK348.out 2).trans rfl
 have hfz99_0 := blk_frozen BK348.out 0
 have hfz99_1 := blk_frozen BK348.out 1
 have hfz99_2 := blk_frozen BK348.out 2
 go_wp2_with (first | (go_at_call 27; (with_reducible refine (laws_eqPresence.calls kj12 _ _ t359 _ _ t362 _ _ t365 _ _ t338 _ _ t341 _ _ t344 false _ ?side1 ?side2 ?side3 ?side4 ?side5 ?side6 ?side7 ?side8 ?side9 ?side10 ?side11 ?side12 A83.out).mono ?_); (case side1 => exact y2_ (Kd.R_reads' HO_370000.out).2.2); (case side2 => exact (Kd.R_reads' HO_370000.out).2.1); (case side3 => exact y2_ (Kd.R_reads' HO_370001.out).2.2); (case side4 => exact (Kd.R_reads' HO_370001.out).2.1); (case side5 => exact y2_ (Kd.R_reads' HO_370002.out).2.2); (case side6 => exact (Kd.R_reads' HO_370002.out).2.1); (case side7 => exact y2_ (Kd.R_reads' HO_349000.out).2.2); (case side8 => exact (Kd.R_reads' HO_349000.out).2.1); (case side9 => exact y2_ (Kd.R_reads' HO_349001.out).2.2); (case side10 => exact (Kd.R_reads' HO_349001.out).2.1); (case side11 => exact y2_ (Kd.R_reads' HO_349002.out).2.2); (case side12 => exact (Kd.R_reads' HO_349002.out).2.1); rintro e w100 ⟨rfl, hb⟩; have n0_ := r1_ HO_349000 hb; have n1_ := r1_ HO_349001 hb; have n2_ := r1_ HO_349002 hb; have n3_ := r1_ HO_359000 hb; have n4_ := r1_ HO_359001 hb; have n5_ := r1_ HO_359002 hb; have n6_ := r1_ HO_370000 hb; have n7_ := r1_ HO_370001 hb; have n8_ := r1_ HO_370002 hb; have n9_ := r1_ HO373 hb; have n10_ := r1_ HO376 hb; have n11_ := r1_ HO379 hb; have n12_ := b3_ BK327 hb; have n13_ := b3_ BK348 hb; have n14_ := b3_ BK358 hb; have n15_ := b3_ BK369 hb; have n16_ := Aside0.mk (below_step (y1_ HB.out) hb); clear HO_349000; clear HO_349001; clear HO_349002; clear HO_359000; clear HO_359001; clear HO_359002; clear HO_370000; clear HO_370001; clear HO_370002; clear HO373; clear HO376; clear HO379; clear BK327; clear BK348; clear BK358; clear BK369; clear HB; have HO_349000 := n0_; have HO_349001 := n1_; have HO_349002 := n2_; have HO_359000 := n3_; have HO_359001 := n4_; have HO_359002 := n5_; have HO_370000 := n6_; have HO_370001 := n7_; have HO_370002 := n8_; have HO373 := n9_; have HO376 := n10_; have HO379 := n11_; have BK327 := n12_; have BK348 := n13_; have BK358 := n14_; have BK369 := n15_; have HB := n16_; clear n0_ n1_ n2_ n3_ n4_ n5_ n6_ n7_ n8_ n9_ n10_ n11_ n12_ n13_ n14_ n15_ n16_; (try clear hb); (try clear hb2); (try clear hk); (try clear hi)))
 go_meet
 case rel => exact ⟨_, (true), s1_, H', ⟨by have := HJ12.out; first | omega | exact Nat.le_refl _⟩, ⟨by (with_reducible repeat (first | apply Kd.R_alloc | apply Kd.R_drewN | apply Kd.R_drew)); exact Kd.R_mono HO_349000.out (fun _ hk => ⟨hk.1, ⟨hk.2.1, ⟨hk.2.2.1, ⟨hk.2.2.2.1, hk.2.2.2.2.1⟩⟩⟩⟩)⟩, ⟨by (with_reducible repeat (first | apply Kd.R_alloc | apply Kd.R_drewN | apply Kd.R_drew)); exact Kd.R_mono HO_349001.out (fun _ hk => ⟨hk.1, ⟨hk.2.1, ⟨hk.2.2.1, ⟨hk.2.2.2.1, hk.2.2.2.2.1⟩⟩⟩⟩)⟩, ⟨by (with_reducible repeat (first | apply Kd.R_alloc | apply Kd.R_drewN | apply Kd.R_drew)); exact Kd.R_mono HO_349002.out (fun _ hk => ⟨hk.1, hk.2.1⟩)⟩, ⟨by (with_reducible repeat (first | apply Kd.R_alloc | apply Kd.R_drewN | apply Kd.R_drew)); exact Kd.R_mono HO_359000.out (fun _ hk => ⟨hk.1.1.1, ⟨hk.1.1.2.1, ⟨hk.1.1.2.2.1, ⟨hk.1.1.2.2.2.1, hk.1.1.2.2.2.2⟩⟩⟩⟩)⟩, ⟨by (with_reducible repeat (first | apply Kd.R_alloc | apply Kd.R_drewN | apply Kd.R_drew)); exact Kd.R_mono HO_359001.out (fun _ hk => ⟨hk.1.1.1, ⟨hk.1.1.2.1, ⟨hk.1.1.2.2.1, ⟨hk.1.1.2.2.2.1, hk.1.1.2.2.2.2⟩⟩⟩⟩)⟩, ⟨by (with_reducible repeat (first | apply Kd.R_alloc | apply Kd.R_drewN | apply Kd.R_drew)); exact Kd.R_mono HO_359002.out (fun _ hk => ⟨hk.1.1, hk.1.2⟩)⟩, ⟨by (with_reducible repeat (first | apply Kd.R_alloc | apply Kd.R_drewN | apply Kd.R_drew)); exact Kd.R_mono HO_370000.out (fun _ hk => ⟨hk.1, ⟨hk.2.1, ⟨hk.2.2.1, ⟨hk.2.2.2.1, hk.2.2.2.2.1⟩⟩⟩⟩)⟩, ⟨by (with_reducible repeat (first | apply Kd.R_alloc | apply Kd.R_drewN | apply Kd.R_drew)); exact Kd.R_mono HO_370001.out (fun _ hk => ⟨hk.1, ⟨hk.2.1, ⟨hk.2.2.1, ⟨hk.2.2.2.1, hk.2.2.2.2.1⟩⟩⟩⟩)⟩, ⟨by (with_reducible repeat (first | apply Kd.R_alloc | apply Kd.R_drewN | apply Kd.R_drew)); exact Kd.R_mono HO_370002.out (fun _ hk => ⟨hk.1, hk.2.1⟩)⟩, ⟨b1_ BK327.out⟩, ⟨b1_ BK348.out⟩, ⟨b1_ BK358.out⟩, ⟨b1_ BK369.out⟩, ⟨by repeat (first | (with_reducible first | exact HB.out | apply below_alloc | apply pw_below_drewN | apply below_drew1) | exact HB.out)⟩⟩}}}
 case rest =>
  skip
  {
 clear HC70
 try clear c2
 try clear p2
 try clear c3
 try clear c4
 try clear c5
 try clear c5b0
 try clear c6
 try clear c7
 try clear c8
 try clear c9
 try clear c24
 try clear c25
 try clear c26
 try clear c27
 try clear c28
 try clear c33
 try clear c34
 try clear c41
 try clear c42
 try clear c43
 try clear c48
 try clear c49
 try clear c50
 try clear c51
 try clear c53
 try clear c54
 try clear c57
 try clear c58
 try clear c59
 try clear c61
 try clear c62
 try clear c65
 try clear c68
 try clear c77
 try clear c78
 try clear c79
 try clear c82
 try clear c82b0
 try clear c84
 try clear c85
 try clear c86
 try clear c87
 try clear c89
 try clear c90
 try clear c93
 try clear c94
 try clear c95
 try clear c97
 try clear c98
 try clear hcz15_0
 try clear hcz15_1
 try clear hcz15_2
 try clear hcz17_0
 try clear hcz17_1
 try clear hcz17_2
 try clear hcz26_0
 try clear hcz26_1
 try clear hcz26_2
 try clear hcz29_0
 try clear hcz29_1
 try clear hcz29_2
 try clear hcz35_0
 try clear hcz35_1
 try clear hcz35_2
 try clear hcz44_0
 try clear hcz44_1
 try clear hcz44_2
 try clear hcz52_0
 try clear hcz52_1
 try clear hcz52_2
 try clear hcz55_0
 try clear hcz55_1
 try clear hcz55_2
 try clear hcz60_0
 try clear hcz60_1
 try clear hcz60_2
 try clear hcz63_0
 try clear hcz63_1
 try clear hcz63_2
 try clear hcz7_0
 try clear hcz7_1
 try clear hcz7_2
 try clear hcz80_0
 try clear hcz80_1
 try clear hcz80_2
 try clear hcz88_0
 try clear hcz88_1
 try clear hcz88_2
 try clear hcz91_0
 try clear hcz91_1
 try clear hcz91_2
 try clear hcz96_0
 try clear hcz96_1
 try clear hcz96_2
 try clear hcz99_0
 try clear hcz99_1
 try clear hcz99_2
 try clear hfz15_0
 try clear hfz15_1
 try clear hfz15_2
 try clear hfz17_0
 try clear hfz17_1
 try clear hfz17_2
 try clear hfz26_0
 try clear hfz26_1
 try clear hfz26_2
 try clear hfz29_0
 try clear hfz29_1
 try clear hfz29_2
 try clear hfz35_0
 try clear hfz35_1
 try clear hfz35_2
 try clear hfz44_0
 try clear hfz44_1
 try clear hfz44_2
 try clear hfz52_0
 try clear hfz52_1
 try clear hfz52_2
 try clear hfz55_0
 try clear hfz55_1
 try clear hfz55_2
 try clear hfz60_0
 try clear hfz60_1
 try clear hfz60_2
 try clear hfz63_0
 try clear hfz63_1
 try clear hfz63_2
 try clear hfz7_0
 try clear hfz7_1
 try clear hfz7_2
 try clear hfz80_0
 try clear hfz80_1
 try clear hfz80_2
 try clear hfz88_0
 try clear hfz88_1
 try clear hfz88_2
 try clear hfz91_0
 try clear hfz91_1
 try clear hfz91_2
 try clear hfz96_0
 try clear hfz96_1
 try clear hfz96_2
 try clear hfz99_0
 try clear hfz99_1
 try clear hfz99_2
 try clear p2
 obtain ⟨kq, x69_69, rfl, HA, HJ69, HO_349000, HO_349001, HO_349002, HO_359000, HO_359001, HO_359002, HO_370000, HO_370001, HO_370002, BK327, BK348, BK358, BK369, HB⟩ := hcut
 have hl359000_69 := (Kd.R_reads' HO_359000.out).1
 rw [hl359000_69] at HO_359000
 (try simp only [hl359000_69])
 (try simp only [hl359000_69] at BK327)
 (try simp only [hl359000_69] at BK348)
 (try simp only [hl359000_69] at BK358)
 (try simp only [hl359000_69] at BK369)
 (try simp only [hl359000_69] at HO_349000)
 (try simp only [hl359000_69] at HO_349001)
 (try simp only [hl359000_69] at HO_349002)
 (try simp only [hl359000_69] at HO_359001)
 (try simp only [hl359000_69] at HO_359002)
 (try simp only [hl359000_69] at HO_370000)
 (try simp only [hl359000_69] at HO_370001)
 (try simp only [hl359000_69] at HO_370002)
 have hl359001_69 := (Kd.R_reads' HO_359001.out).1
 rw [hl359001_69] at HO_359001
 (try simp only [hl359001_69])
 (try simp only [hl359001_69] at BK327)
 (try simp only [hl359001_69] at BK348)
 (try simp only [hl359001_69] at BK358)
 (try simp only [hl359001_69] at BK369)
 (try simp only [hl359001_69] at HO_349000)
 (try simp only [hl359001_69] at HO_349001)
 (try simp only [hl359001_69] at HO_349002)
 (try simp only [hl359001_69] at HO_359000)
 (try simp only [hl359001_69] at HO_359002)
 (try simp only [hl359001_69] at HO_370000)
 (try simp only [hl359001_69] at HO_370001)
 (try simp only [hl359001_69] at HO_370002)
 have hl359002_69 := (Kd.R_reads' HO_359002.out).1
 rw [hl359002_69] at HO_359002
 (try simp only [hl359002_69])
 (try simp only [hl359002_69] at BK327)
 (try simp only [hl359002_69] at BK348)
 (try simp only [hl359002_69] at BK358)
 (try simp only [hl359002_69] at BK369)
 (try simp only [hl359002_69] at HO_349000)
 (try simp only [hl359002_69] at HO_349001)
 (try simp only [hl359002_69] at HO_349002)
 (try simp only [hl359002_69] at HO_359000)
 (try simp only [hl359002_69] at HO_359001)
 (try simp only [hl359002_69] at HO_370000)
 (try simp only [hl359002_69] at HO_370001)
 (try simp only [hl359002_69] at HO_370002)
 cases kq with
 | zero => exact absurd HA.out (by simp [laws_FnExactReadUpTo.j1])
 | succ kj69 =>
  skip
  {
 have H := HA.out
 clear HA
 simp only [laws_FnExactReadUpTo.j1] at H
 by_cases c101 : x69_69 = true
 {
 subst c101
 have H1 : (some false) = some r := by rw [if_pos rfl] at H; exact H
 clear H
 have H := H1
 clear H1
 obtain rfl := Option.some.inj H
 go_wp2
 go_ret
 exact ⟨by first | rfl | (simp [errW_none, errW_some] <;> rfl) | (simp [*, errW_none, errW_some] <;> rfl), by repeat (first | (with_reducible first | exact HB.out | apply below_alloc | apply pw_below_drewN | apply below_drew1) | exact HB.out)⟩}
 {
 replace c101 := Bool.eq_false_iff.mpr c101
 subst c101
 have H1 : ((laws_markPresence.f kj69 t359 t362 t365 1).bind fun bt386 => ((laws_heldPresence.f kj69 bt386.2.1 bt386.2.2.1 bt386.2.2.2 1).bind fun t390 => (if t390 < 0 then (some false) else (if t390 = bt386.1 then ((laws_toPresence.f kj69 l0_0 l0_1 l0_2).bind fun bt391 => ((impl_ReadUpTo.f kj69 bt391.1 bt391.2.1 bt391.2.2 a1 a2).bind fun bt400 => ((laws_eqPresence.f kj69 bt400.1 bt400.2.1 bt400.2.2.1 t338 t341 t344).bind fun t411 => (if t411 = true then (laws_FnExactReadUpTo.j2 kj69 bt386.1 (bt400.2.2.2 != t347) bt386.2.1 bt386.2.2.1 bt386.2.2.2) else (laws_FnExactReadUpTo.j2 kj69 bt386.1 true bt386.2.1 bt386.2.2.1 bt386.2.2.2))))) else (some false))))) = some r := by rw [if_neg (show ¬ (false = true) by decide)] at H; exact H
 clear H
 have H := H1
 clear H1
 replace H := Option.bind_eq_some_iff.mp H
 obtain ⟨⟨t386, t387, t388, t389⟩, A1020, H⟩ := H
 replace H : ((laws_heldPresence.f kj69 t387 t388 t389 1).bind fun t390 => (if t390 < 0 then (some false) else (if t390 = t386 then ((laws_toPresence.f kj69 l0_0 l0_1 l0_2).bind fun bt391 => ((impl_ReadUpTo.f kj69 bt391.1 bt391.2.1 bt391.2.2 a1 a2).bind fun bt400 => ((laws_eqPresence.f kj69 bt400.1 bt400.2.1 bt400.2.2.1 t338 t341 t344).bind fun t411 => (if t411 = true then (laws_FnExactReadUpTo.j2 kj69 t386 (bt400.2.2.2 != t347) t387 t388 t389) else (laws_FnExactReadUpTo.j2 kj69 t386 true t387 t388 t389))))) else (some false)))) = some r := H
 have A102 := Aside0.mk A1020
 clear A1020
 replace H := Option.bind_eq_some_iff.mp H
 obtain ⟨t390, A1030, H⟩ := H
 replace H : (if t390 < 0 then (some false) else (if t390 = t386 then ((laws_toPresence.f kj69 l0_0 l0_1 l0_2).bind fun bt391 => ((impl_ReadUpTo.f kj69 bt391.1 bt391.2.1 bt391.2.2 a1 a2).bind fun bt400 => ((laws_eqPresence.f kj69 bt400.1 bt400.2.1 bt400.2.2.1 t338 t341 t344).bind fun t411 => (if t411 = true then (laws_FnExactReadUpTo.j2 kj69 t386 (bt400.2.2.2 != t347) t387 t388 t389) else (laws_FnExactReadUpTo.j2 kj69 t386 true t387 t388 t389))))) else (some false))) = some r := H
 have A103 := Aside0.mk A1030
 clear A1030
 by_cases c104 : t390 < 0
 {
 rw [if_pos c104] at H
 have c104b0 : decide (t390 < 0) = true := decide_eq_true c104
 clear c104
 obtain rfl := Option.some.inj H
 have hnb105 := NB369_327.out
 have hnc105 := NB327_369.out
 have hnb106 := NB369_348.out
 have hnc106 := NB348_369.out
 have hnb107 := NB369_358.out
 have hnc107 := NB358_369.out
 have hcz108_0 : wc.cell? ⟨gb369, 0, none⟩ = some (.slice Ao40 t359.length co40) := (blk_cell BK369.out 0).trans rfl
 have hcz108_1 : wc.cell? ⟨gb369, 1, none⟩ = some (.slice Ao45 t362.length co45) := (blk_cell BK369.out 1).trans rfl
 have hcz108_2 : wc.cell? ⟨gb369, 2, none⟩ = some (.slice Ao46 t365.length co46) := (blk_cell BK369.out 2).trans rfl
 have hfz108_0 := blk_frozen BK369.out 0
 have hfz108_1 := blk_frozen BK369.out 1
 have hfz108_2 := blk_frozen BK369.out 2
 go_wp2_with (first | ((with_reducible refine gate_callee (f := 28) rfl ?_); refine goesL_ (some 72) rfl rfl Try.func28 s2_ rfl #[.agg #[.slice Ao40 t359.length co40, .slice Ao45 t362.length co45, .slice Ao46 t365.length co46], .int .i64 1] rfl s3_ ?_; (with_reducible refine (laws_markPresence.calls kj69 (fun k_ => some k_ = (.slice Ao40 t359.length co40 : Value).ownBlock) (.slice Ao40 t359.length co40) t359 (fun k_ => some k_ = (.slice Ao45 t362.length co45 : Value).ownBlock) (.slice Ao45 t362.length co45) t362 (fun k_ => some k_ = (.slice Ao46 t365.length co46 : Value).ownBlock) (.slice Ao46 t365.length co46) t365 1 t386 t387 t388 t389 w _ ?side1 ?side2 ?side3 ?side4 ?side5 ?side6 A102.out).mono ?_); (case side1 => repeat (first | (with_reducible first | exact HB.out | apply below_alloc | apply pw_below_drewN | apply below_drew1) | exact HB.out)); (case side2 => exact Kd.R_tight rfl HO_370000.out); (case side3 => exact fun k_ e_ => (HO_370000.out.1 k_ e_.symm).2.2.2.2); (case side4 => exact Kd.R_tight rfl HO_370001.out); (case side5 => exact fun k_ e_ => (HO_370001.out.1 k_ e_.symm).2.2.2.2); (case side6 => exact Kd.R_tight rfl HO_370002.out); rintro e w109 ⟨rfl, hy0, hy1, hy2, hb, hkp⟩; refine ⟨_, rfl, ?_⟩; have n0_ := Aside0.mk (Kd.R_mono (ok' := fun k_ => some k_ ≠ (.slice Ao27 t341.length co27 : Value).ownBlock ∧ some k_ ≠ (.slice Ao32 t382.length co32 : Value).ownBlock ∧ some k_ ≠ (.slice Ao36 t383.length co36 : Value).ownBlock ∧ some k_ ≠ (.slice Ao40 t359.length co40 : Value).ownBlock ∧ some k_ ≠ (.slice Ao45 t362.length co45 : Value).ownBlock) (Kd.R_keptB ((Kd.R_apart' HO_349000.out (Kd.R_typed HO_370002.out) (by decide))) hkp (fun k_ hk_ hs_ => Or.elim hs_ (fun e_ => (hk_.1.2.2.2.1) e_) (fun e_ => Or.elim e_ (fun e_ => (hk_.1.2.2.2.2) e_) (fun e_ => (hk_.2) e_)))) (fun k_ hk_ => ⟨hk_.1.1.1, hk_.1.1.2.1, hk_.1.1.2.2.1, hk_.1.1.2.2.2.1, hk_.1.1.2.2.2.2⟩)); have n1_ := Aside0.mk (Kd.R_mono (ok' := fun k_ => some k_ ≠ (.slice Ao24 t338.length co24 : Value).ownBlock ∧ some k_ ≠ (.slice Ao32 t382.length co32 : Value).ownBlock ∧ some k_ ≠ (.slice Ao36 t383.length co36 : Value).ownBlock ∧ some k_ ≠ (.slice Ao40 t359.length co40 : Value).ownBlock ∧ some k_ ≠ (.slice Ao45 t362.length co45 : Value).ownBlock) (Kd.R_keptB ((Kd.R_apart' HO_349001.out (Kd.R_typed HO_370002.out) (by decide))) hkp (fun k_ hk_ hs_ => Or.elim hs_ (fun e_ => (hk_.1.2.2.2.1) e_) (fun e_ => Or.elim e_ (fun e_ => (hk_.1.2.2.2.2) e_) (fun e_ => (hk_.2) e_)))) (fun k_ hk_ => ⟨hk_.1.1.1, hk_.1.1.2.1, hk_.1.1.2.2.1, hk_.1.1.2.2.2.1, hk_.1.1.2.2.2.2⟩)); have n2_ := Aside0.mk (Kd.R_mono (ok' := fun k_ => some k_ ≠ (.slice Ao37 t384.length co37 : Value).ownBlock ∧ some k_ ≠ (.slice Ao46 t365.length co46 : Value).ownBlock) (Kd.R_keptB ((Kd.R_apart' (Kd.R_apart' HO_349002.out (Kd.R_typed HO_370000.out) (by decide)) (Kd.R_typed HO_370001.out) (by decide))) hkp (fun k_ hk_ hs_ => Or.elim hs_ (fun e_ => (hk_.1.2) e_) (fun e_ => Or.elim e_ (fun e_ => (hk_.2) e_) (fun e_ => (hk_.1.1.2) e_)))) (fun k_ hk_ => ⟨hk_.1.1.1.1, hk_.1.1.1.2⟩)); have n3_ := Aside0.mk (Kd.R_mono (ok' := fun k_ => some k_ ≠ (.slice Ao24 t338.length co24 : Value).ownBlock ∧ some k_ ≠ (.slice Ao27 t341.length co27 : Value).ownBlock ∧ some k_ ≠ (.slice Ao36 t383.length co36 : Value).ownBlock ∧ some k_ ≠ (.slice Ao40 t359.length co40 : Value).ownBlock ∧ some k_ ≠ (.slice Ao45 t362.length co45 : Value).ownBlock) (Kd.R_keptB ((Kd.R_apart' HO_359000.out (Kd.R_typed HO_370002.out) (by decide))) hkp (fun k_ hk_ hs_ => Or.elim hs_ (fun e_ => (hk_.1.2.2.2.1) e_) (fun e_ => Or.elim e_ (fun e_ => (hk_.1.2.2.2.2) e_) (fun e_ => (hk_.2) e_)))) (fun k_ hk_ => ⟨hk_.1.1.1, hk_.1.1.2.1, hk_.1.1.2.2.1, hk_.1.1.2.2.2.1, hk_.1.1.2.2.2.2⟩)); have n4_ := Aside0.mk (Kd.R_mono (ok' := fun k_ => some k_ ≠ (.slice Ao24 t338.length co24 : Value).ownBlock ∧ some k_ ≠ (.slice Ao27 t341.length co27 : Value).ownBlock ∧ some k_ ≠ (.slice Ao32 t382.length co32 : Value).ownBlock ∧ some k_ ≠ (.slice Ao40 t359.length co40 : Value).ownBlock ∧ some k_ ≠ (.slice Ao45 t362.length co45 : Value).ownBlock) (Kd.R_keptB ((Kd.R_apart' HO_359001.out (Kd.R_typed HO_370002.out) (by decide))) hkp (fun k_ hk_ hs_ => Or.elim hs_ (fun e_ => (hk_.1.2.2.2.1) e_) (fun e_ => Or.elim e_ (fun e_ => (hk_.1.2.2.2.2) e_) (fun e_ => (hk_.2) e_)))) (fun k_ hk_ => ⟨hk_.1.1.1, hk_.1.1.2.1, hk_.1.1.2.2.1, hk_.1.1.2.2.2.1, hk_.1.1.2.2.2.2⟩)); have n5_ := Aside0.mk (Kd.R_mono (ok' := fun k_ => some k_ ≠ (.slice Ao28 t344.length co28 : Value).ownBlock ∧ some k_ ≠ (.slice Ao46 t365.length co46 : Value).ownBlock) (Kd.R_keptB ((Kd.R_apart' (Kd.R_apart' HO_359002.out (Kd.R_typed HO_370000.out) (by decide)) (Kd.R_typed HO_370001.out) (by decide))) hkp (fun k_ hk_ hs_ => Or.elim hs_ (fun e_ => (hk_.1.2) e_) (fun e_ => Or.elim e_ (fun e_ => (hk_.2) e_) (fun e_ => (hk_.1.1.2) e_)))) (fun k_ hk_ => ⟨hk_.1.1.1.1, hk_.1.1.1.2⟩)); have n6_ := Aside0.mk (Kd.R_reok rfl hy0 (fun k_ e_ => HO_370000.out.1 k_ e_)); have n7_ := Aside0.mk (Kd.R_reok rfl hy1 (fun k_ e_ => HO_370001.out.1 k_ e_)); have n8_ := Aside0.mk (Kd.R_reok rfl hy2 (fun k_ e_ => HO_370002.out.1 k_ e_)); have n9_ := Aside0.mk (blk_kept (b1_ BK327.out) hkp (fun hs_ => Or.elim hs_ (fun e_ => (fun e_ => (Kd.R_ne HO_370000.out BK327.out (by decide)) e_) e_) (fun e_ => Or.elim e_ (fun e_ => (fun e_ => (Kd.R_ne HO_370001.out BK327.out (by decide)) e_) e_) (fun e_ => (fun e_ => (Kd.R_ne HO_370002.out BK327.out (by decide)) e_) e_)))); have n10_ := Aside0.mk (blk_kept (b1_ BK348.out) hkp (fun hs_ => Or.elim hs_ (fun e_ => (fun e_ => (Kd.R_ne HO_370000.out BK348.out (by decide)) e_) e_) (fun e_ => Or.elim e_ (fun e_ => (fun e_ => (Kd.R_ne HO_370001.out BK348.out (by decide)) e_) e_) (fun e_ => (fun e_ => (Kd.R_ne HO_370002.out BK348.out (by decide)) e_) e_)))); have n11_ := Aside0.mk (blk_kept (b1_ BK358.out) hkp (fun hs_ => Or.elim hs_ (fun e_ => (fun e_ => (Kd.R_ne HO_370000.out BK358.out (by decide)) e_) e_) (fun e_ => Or.elim e_ (fun e_ => (fun e_ => (Kd.R_ne HO_370001.out BK358.out (by decide)) e_) e_) (fun e_ => (fun e_ => (Kd.R_ne HO_370002.out BK358.out (by decide)) e_) e_)))); have n12_ := Aside0.mk (blk_kept (b1_ BK369.out) hkp (fun hs_ => Or.elim hs_ (fun e_ => (fun e_ => (Kd.R_ne HO_370000.out BK369.out (by decide)) e_) e_) (fun e_ => Or.elim e_ (fun e_ => (fun e_ => (Kd.R_ne HO_370001.out BK369.out (by decide)) e_) e_) (fun e_ => (fun e_ => (Kd.R_ne HO_370002.out BK369.out (by decide)) e_) e_)))); have n13_ := Aside0.mk (hb); clear HO_349000; clear HO_349001; clear HO_349002; clear HO_359000; clear HO_359001; clear HO_359002; clear HO_370000; clear HO_370001; clear HO_370002; clear BK327; clear BK348; clear BK358; clear BK369; clear HB; have HO_349000 := n0_; have HO_349001 := n1_; have HO_349002 := n2_; have HO_359000 := n3_; have HO_359001 := n4_; have HO_359002 := n5_; have HO_370000 := n6_; have HO_370001 := n7_; have HO_370002 := n8_; have BK327 := n9_; have BK348 := n10_; have BK358 := n11_; have BK369 := n12_; have HB := n13_; clear n0_ n1_ n2_ n3_ n4_ n5_ n6_ n7_ n8_ n9_ n10_ n11_ n12_ n13_; (try clear hb); (try clear hkp); (try clear hy0); (try clear hy1); (try clear hy2); have hcz110_0 : w109.cell? ⟨gb369, 0, none⟩ = some (.slice Ao40 t359.length co40) := (blk_cell BK369.out 0).trans rfl; have hcz110_1 : w109.cell? ⟨gb369, 1, none⟩ = some (.slice Ao45 t362.length co45) := (blk_cell BK369.out 1).trans rfl; have hcz110_2 : w109.cell? ⟨gb369, 2, none⟩ = some (.slice Ao46 t365.length co46) := (blk_cell BK369.out 2).trans rfl; have hfz110_0 := blk_frozen BK369.out 0; have hfz110_1 := blk_frozen BK369.out 1; have hfz110_2 := blk_frozen BK369.out 2) | ((with_reducible refine gate_callee (f := 29) rfl ?_); refine goesL_ (some 75) rfl rfl Try.func29 s2_ rfl #[.agg #[.slice Ao40 t387.length co40, .slice Ao45 t388.length co45, .slice Ao46 t389.length co46], .int .i64 1] rfl (by (try simp only [List.map_toArray, List.map_cons, List.map_nil]); first | done | (rw [show t387.length = t359.length from (Kd.R_reads' HO_370000.out).1.symm, show t388.length = t362.length from (Kd.R_reads' HO_370001.out).1.symm, show t389.length = t365.length from (Kd.R_reads' HO_370002.out).1.symm] <;> rfl) | rfl | (simp only [List.length_drop, List.length_take]; rfl)) ?_; (with_reducible refine (laws_heldPresence.calls kj69 _ _ t387 _ _ t388 _ _ t389 1 t390 _ ?side1 ?side2 ?side3 ?side4 ?side5 ?side6 A103.out).mono ?_); (case side1 => exact y2_ (Kd.R_reads' HO_370000.out).2.2); (case side2 => rw [show t387.length = t359.length from (Kd.R_reads' HO_370000.out).1.symm]; exact (Kd.R_reads' HO_370000.out).2.1); (case side3 => exact y2_ (Kd.R_reads' HO_370001.out).2.2); (case side4 => rw [show t388.length = t362.length from (Kd.R_reads' HO_370001.out).1.symm]; exact (Kd.R_reads' HO_370001.out).2.1); (case side5 => exact y2_ (Kd.R_reads' HO_370002.out).2.2); (case side6 => rw [show t389.length = t365.length from (Kd.R_reads' HO_370002.out).1.symm]; exact (Kd.R_reads' HO_370002.out).2.1); rintro e w111 ⟨rfl, hb⟩; refine ⟨_, rfl, ?_⟩; have n0_ := r1_ HO_349000 hb; have n1_ := r1_ HO_349001 hb; have n2_ := r1_ HO_349002 hb; have n3_ := r1_ HO_359000 hb; have n4_ := r1_ HO_359001 hb; have n5_ := r1_ HO_359002 hb; have n6_ := r1_ HO_370000 hb; have n7_ := r1_ HO_370001 hb; have n8_ := r1_ HO_370002 hb; have n9_ := b3_ BK327 hb; have n10_ := b3_ BK348 hb; have n11_ := b3_ BK358 hb; have n12_ := b3_ BK369 hb; have n13_ := Aside0.mk (below_step (y1_ HB.out) hb); clear HO_349000; clear HO_349001; clear HO_349002; clear HO_359000; clear HO_359001; clear HO_359002; clear HO_370000; clear HO_370001; clear HO_370002; clear BK327; clear BK348; clear BK358; clear BK369; clear HB; have HO_349000 := n0_; have HO_349001 := n1_; have HO_349002 := n2_; have HO_359000 := n3_; have HO_359001 := n4_; have HO_359002 := n5_; have HO_370000 := n6_; have HO_370001 := n7_; have HO_370002 := n8_; have BK327 := n9_; have BK348 := n10_; have BK358 := n11_; have BK369 := n12_; have HB := n13_; clear n0_ n1_ n2_ n3_ n4_ n5_ n6_ n7_ n8_ n9_ n10_ n11_ n12_ n13_; (try clear hb); (try clear hb2); (try clear hk); (try clear hi)))
 go_ret
 exact ⟨by first | rfl | (simp [errW_none, errW_some] <;> rfl) | (simp [*, errW_none, errW_some] <;> rfl), by repeat (first | (with_reducible first | exact HB.out | apply below_alloc | apply pw_below_drewN | apply below_drew1) | exact HB.out)⟩}
 {
 rw [if_neg c104] at H
 have c104b0 : decide (t390 < 0) = false := decide_eq_false c104
 clear c104
 by_cases c112 : t390 = t386
 {
 rw [if_pos c112] at H
 have c112b0 : (t390 == t386) = true := beq_iff_eq.mpr c112
 have c112b1 : (t390 != t386) = false := bne_eq_false_iff_eq.mpr c112
 clear c112
 replace H := Option.bind_eq_some_iff.mp H
 obtain ⟨⟨t391, t394, t397⟩, A1130, H⟩ := H
 replace H : ((impl_ReadUpTo.f kj69 t391 t394 t397 a1 a2).bind fun bt400 => ((laws_eqPresence.f kj69 bt400.1 bt400.2.1 bt400.2.2.1 t338 t341 t344).bind fun t411 => (if t411 = true then (laws_FnExactReadUpTo.j2 kj69 t386 (bt400.2.2.2 != t347) t387 t388 t389) else (laws_FnExactReadUpTo.j2 kj69 t386 true t387 t388 t389)))) = some r := H
 have A113 := Aside0.mk A1130
 clear A1130
 replace H := Option.bind_eq_some_iff.mp H
 obtain ⟨⟨t400, t403, t406, t409⟩, A1140, H⟩ := H
 replace H : ((laws_eqPresence.f kj69 t400 t403 t406 t338 t341 t344).bind fun t411 => (if t411 = true then (laws_FnExactReadUpTo.j2 kj69 t386 (t409 != t347) t387 t388 t389) else (laws_FnExactReadUpTo.j2 kj69 t386 true t387 t388 t389))) = some r := H
 have A114 := Aside0.mk A1140
 clear A1140
 have HC115 := Aside0.mk H
 clear H
 have hnb116 := NB369_327.out
 have hnc116 := NB327_369.out
 have hnb117 := NB369_348.out
 have hnc117 := NB348_369.out
 have hnb118 := NB369_358.out
 have hnc118 := NB358_369.out
 have hcz119_0 : wc.cell? ⟨gb369, 0, none⟩ = some (.slice Ao40 t359.length co40) := (blk_cell BK369.out 0).trans rfl
 have hcz119_1 : wc.cell? ⟨gb369, 1, none⟩ = some (.slice Ao45 t362.length co45) := (blk_cell BK369.out 1).trans rfl
 have hcz119_2 : wc.cell? ⟨gb369, 2, none⟩ = some (.slice Ao46 t365.length co46) := (blk_cell BK369.out 2).trans rfl
 have hfz119_0 := blk_frozen BK369.out 0
 have hfz119_1 := blk_frozen BK369.out 1
 have hfz119_2 := blk_frozen BK369.out 2
 go_upto_region 25 with (first | ((with_reducible refine gate_callee (f := 28) rfl ?_); refine goesL_ (some 72) rfl rfl Try.func28 s2_ rfl #[.agg #[.slice Ao40 t359.length co40, .slice Ao45 t362.length co45, .slice Ao46 t365.length co46], .int .i64 1] rfl s3_ ?_; (with_reducible refine (laws_markPresence.calls kj69 (fun k_ => some k_ = (.slice Ao40 t359.length co40 : Value).ownBlock) (.slice Ao40 t359.length co40) t359 (fun k_ => some k_ = (.slice Ao45 t362.length co45 : Value).ownBlock) (.slice Ao45 t362.length co45) t362 (fun k_ => some k_ = (.slice Ao46 t365.length co46 : Value).ownBlock) (.slice Ao46 t365.length co46) t365 1 t386 t387 t388 t389 w _ ?side1 ?side2 ?side3 ?side4 ?side5 ?side6 A102.out).mono ?_); (case side1 => repeat (first | (with_reducible first | exact HB.out | apply below_alloc | apply pw_below_drewN | apply below_drew1) | exact HB.out)); (case side2 => exact Kd.R_tight rfl HO_370000.out); (case side3 => exact fun k_ e_ => (HO_370000.out.1 k_ e_.symm).2.2.2.2); (case side4 => exact Kd.R_tight rfl HO_370001.out); (case side5 => exact fun k_ e_ => (HO_370001.out.1 k_ e_.symm).2.2.2.2); (case side6 => exact Kd.R_tight rfl HO_370002.out); rintro e w120 ⟨rfl, hy0, hy1, hy2, hb, hkp⟩; refine ⟨_, rfl, ?_⟩; have n0_ := Aside0.mk (Kd.R_mono (ok' := fun k_ => some k_ ≠ (.slice Ao27 t341.length co27 : Value).ownBlock ∧ some k_ ≠ (.slice Ao32 t382.length co32 : Value).ownBlock ∧ some k_ ≠ (.slice Ao36 t383.length co36 : Value).ownBlock ∧ some k_ ≠ (.slice Ao40 t359.length co40 : Value).ownBlock ∧ some k_ ≠ (.slice Ao45 t362.length co45 : Value).ownBlock) (Kd.R_keptB ((Kd.R_apart' HO_349000.out (Kd.R_typed HO_370002.out) (by decide))) hkp (fun k_ hk_ hs_ => Or.elim hs_ (fun e_ => (hk_.1.2.2.2.1) e_) (fun e_ => Or.elim e_ (fun e_ => (hk_.1.2.2.2.2) e_) (fun e_ => (hk_.2) e_)))) (fun k_ hk_ => ⟨hk_.1.1.1, hk_.1.1.2.1, hk_.1.1.2.2.1, hk_.1.1.2.2.2.1, hk_.1.1.2.2.2.2⟩)); have n1_ := Aside0.mk (Kd.R_mono (ok' := fun k_ => some k_ ≠ (.slice Ao24 t338.length co24 : Value).ownBlock ∧ some k_ ≠ (.slice Ao32 t382.length co32 : Value).ownBlock ∧ some k_ ≠ (.slice Ao36 t383.length co36 : Value).ownBlock ∧ some k_ ≠ (.slice Ao40 t359.length co40 : Value).ownBlock ∧ some k_ ≠ (.slice Ao45 t362.length co45 : Value).ownBlock) (Kd.R_keptB ((Kd.R_apart' HO_349001.out (Kd.R_typed HO_370002.out) (by decide))) hkp (fun k_ hk_ hs_ => Or.elim hs_ (fun e_ => (hk_.1.2.2.2.1) e_) (fun e_ => Or.elim e_ (fun e_ => (hk_.1.2.2.2.2) e_) (fun e_ => (hk_.2) e_)))) (fun k_ hk_ => ⟨hk_.1.1.1, hk_.1.1.2.1, hk_.1.1.2.2.1, hk_.1.1.2.2.2.1, hk_.1.1.2.2.2.2⟩)); have n2_ := Aside0.mk (Kd.R_mono (ok' := fun k_ => some k_ ≠ (.slice Ao37 t384.length co37 : Value).ownBlock ∧ some k_ ≠ (.slice Ao46 t365.length co46 : Value).ownBlock) (Kd.R_keptB ((Kd.R_apart' (Kd.R_apart' HO_349002.out (Kd.R_typed HO_370000.out) (by decide)) (Kd.R_typed HO_370001.out) (by decide))) hkp (fun k_ hk_ hs_ => Or.elim hs_ (fun e_ => (hk_.1.2) e_) (fun e_ => Or.elim e_ (fun e_ => (hk_.2) e_) (fun e_ => (hk_.1.1.2) e_)))) (fun k_ hk_ => ⟨hk_.1.1.1.1, hk_.1.1.1.2⟩)); have n3_ := Aside0.mk (Kd.R_mono (ok' := fun k_ => some k_ ≠ (.slice Ao24 t338.length co24 : Value).ownBlock ∧ some k_ ≠ (.slice Ao27 t341.length co27 : Value).ownBlock ∧ some k_ ≠ (.slice Ao36 t383.length co36 : Value).ownBlock ∧ some k_ ≠ (.slice Ao40 t359.length co40 : Value).ownBlock ∧ some k_ ≠ (.slice Ao45 t362.length co45 : Value).ownBlock) (Kd.R_keptB ((Kd.R_apart' HO_359000.out (Kd.R_typed HO_370002.out) (by decide))) hkp (fun k_ hk_ hs_ => Or.elim hs_ (fun e_ => (hk_.1.2.2.2.1) e_) (fun e_ => Or.elim e_ (fun e_ => (hk_.1.2.2.2.2) e_) (fun e_ => (hk_.2) e_)))) (fun k_ hk_ => ⟨hk_.1.1.1, hk_.1.1.2.1, hk_.1.1.2.2.1, hk_.1.1.2.2.2.1, hk_.1.1.2.2.2.2⟩)); have n4_ := Aside0.mk (Kd.R_mono (ok' := fun k_ => some k_ ≠ (.slice Ao24 t338.length co24 : Value).ownBlock ∧ some k_ ≠ (.slice Ao27 t341.length co27 : Value).ownBlock ∧ some k_ ≠ (.slice Ao32 t382.length co32 : Value).ownBlock ∧ some k_ ≠ (.slice Ao40 t359.length co40 : Value).ownBlock ∧ some k_ ≠ (.slice Ao45 t362.length co45 : Value).ownBlock) (Kd.R_keptB ((Kd.R_apart' HO_359001.out (Kd.R_typed HO_370002.out) (by decide))) hkp (fun k_ hk_ hs_ => Or.elim hs_ (fun e_ => (hk_.1.2.2.2.1) e_) (fun e_ => Or.elim e_ (fun e_ => (hk_.1.2.2.2.2) e_) (fun e_ => (hk_.2) e_)))) (fun k_ hk_ => ⟨hk_.1.1.1, hk_.1.1.2.1, hk_.1.1.2.2.1, hk_.1.1.2.2.2.1, hk_.1.1.2.2.2.2⟩)); have n5_ := Aside0.mk (Kd.R_mono (ok' := fun k_ => some k_ ≠ (.slice Ao28 t344.length co28 : Value).ownBlock ∧ some k_ ≠ (.slice Ao46 t365.length co46 : Value).ownBlock) (Kd.R_keptB ((Kd.R_apart' (Kd.R_apart' HO_359002.out (Kd.R_typed HO_370000.out) (by decide)) (Kd.R_typed HO_370001.out) (by decide))) hkp (fun k_ hk_ hs_ => Or.elim hs_ (fun e_ => (hk_.1.2) e_) (fun e_ => Or.elim e_ (fun e_ => (hk_.2) e_) (fun e_ => (hk_.1.1.2) e_)))) (fun k_ hk_ => ⟨hk_.1.1.1.1, hk_.1.1.1.2⟩)); have n6_ := Aside0.mk (Kd.R_reok rfl hy0 (fun k_ e_ => HO_370000.out.1 k_ e_)); have n7_ := Aside0.mk (Kd.R_reok rfl hy1 (fun k_ e_ => HO_370001.out.1 k_ e_)); have n8_ := Aside0.mk (Kd.R_reok rfl hy2 (fun k_ e_ => HO_370002.out.1 k_ e_)); have n9_ := Aside0.mk (blk_kept (b1_ BK327.out) hkp (fun hs_ => Or.elim hs_ (fun e_ => (fun e_ => (Kd.R_ne HO_370000.out BK327.out (by decide)) e_) e_) (fun e_ => Or.elim e_ (fun e_ => (fun e_ => (Kd.R_ne HO_370001.out BK327.out (by decide)) e_) e_) (fun e_ => (fun e_ => (Kd.R_ne HO_370002.out BK327.out (by decide)) e_) e_)))); have n10_ := Aside0.mk (blk_kept (b1_ BK348.out) hkp (fun hs_ => Or.elim hs_ (fun e_ => (fun e_ => (Kd.R_ne HO_370000.out BK348.out (by decide)) e_) e_) (fun e_ => Or.elim e_ (fun e_ => (fun e_ => (Kd.R_ne HO_370001.out BK348.out (by decide)) e_) e_) (fun e_ => (fun e_ => (Kd.R_ne HO_370002.out BK348.out (by decide)) e_) e_)))); have n11_ := Aside0.mk (blk_kept (b1_ BK358.out) hkp (fun hs_ => Or.elim hs_ (fun e_ => (fun e_ => (Kd.R_ne HO_370000.out BK358.out (by decide)) e_) e_) (fun e_ => Or.elim e_ (fun e_ => (fun e_ => (Kd.R_ne HO_370001.out BK358.out (by decide)) e_) e_) (fun e_ => (fun e_ => (Kd.R_ne HO_370002.out BK358.out (by decide)) e_) e_)))); have n12_ := Aside0.mk (blk_kept (b1_ BK369.out) hkp (fun hs_ => Or.elim hs_ (fun e_ => (fun e_ => (Kd.R_ne HO_370000.out BK369.out (by decide)) e_) e_) (fun e_ => Or.elim e_ (fun e_ => (fun e_ => (Kd.R_ne HO_370001.out BK369.out (by decide)) e_) e_) (fun e_ => (fun e_ => (Kd.R_ne HO_370002.out BK369.out (by decide)) e_) e_)))); have n13_ := Aside0.mk (hb); clear HO_349000; clear HO_349001; clear HO_349002; clear HO_359000; clear HO_359001; clear HO_359002; clear HO_370000; clear HO_370001; clear HO_370002; clear BK327; clear BK348; clear BK358; clear BK369; clear HB; have HO_349000 := n0_; have HO_349001 := n1_; have HO_349002 := n2_; have HO_359000 := n3_; have HO_359001 := n4_; have HO_359002 := n5_; have HO_370000 := n6_; have HO_370001 := n7_; have HO_370002 := n8_; have BK327 := n9_; have BK348 := n10_; have BK358 := n11_; have BK369 := n12_; have HB := n13_; clear n0_ n1_ n2_ n3_ n4_ n5_ n6_ n7_ n8_ n9_ n10_ n11_ n12_ n13_; (try clear hb); (try clear hkp); (try clear hy0); (try clear hy1); (try clear hy2); have hcz121_0 : w120.cell? ⟨gb369, 0, none⟩ = some (.slice Ao40 t359.length co40) := (blk_cell BK369.out 0).trans rfl; have hcz121_1 : w120.cell? ⟨gb369, 1, none⟩ = some (.slice Ao45 t362.length co45) := (blk_cell BK369.out 1).trans rfl; have hcz121_2 : w120.cell? ⟨gb369, 2, none⟩ = some (.slice Ao46 t365.length co46) := (blk_cell BK369.out 2).trans rfl; have hfz121_0 := blk_frozen BK369.out 0; have hfz121_1 := blk_frozen BK369.out 1; have hfz121_2 := blk_frozen BK369.out 2) | ((with_reducible refine gate_callee (f := 29) rfl ?_); refine goesL_ (some 75) rfl rfl Try.func29 s2_ rfl #[.agg #[.slice Ao40 t387.length co40, .slice Ao45 t388.length co45, .slice Ao46 t389.length co46], .int .i64 1] rfl (by (try simp only [List.map_toArray, List.map_cons, List.map_nil]); first | done | (rw [show t387.length = t359.length from (Kd.R_reads' HO_370000.out).1.symm, show t388.length = t362.length from (Kd.R_reads' HO_370001.out).1.symm, show t389.length = t365.length from (Kd.R_reads' HO_370002.out).1.symm] <;> rfl) | rfl | (simp only [List.length_drop, List.length_take]; rfl)) ?_; (with_reducible refine (laws_heldPresence.calls kj69 _ _ t387 _ _ t388 _ _ t389 1 t390 _ ?side1 ?side2 ?side3 ?side4 ?side5 ?side6 A103.out).mono ?_); (case side1 => exact y2_ (Kd.R_reads' HO_370000.out).2.2); (case side2 => rw [show t387.length = t359.length from (Kd.R_reads' HO_370000.out).1.symm]; exact (Kd.R_reads' HO_370000.out).2.1); (case side3 => exact y2_ (Kd.R_reads' HO_370001.out).2.2); (case side4 => rw [show t388.length = t362.length from (Kd.R_reads' HO_370001.out).1.symm]; exact (Kd.R_reads' HO_370001.out).2.1); (case side5 => exact y2_ (Kd.R_reads' HO_370002.out).2.2); (case side6 => rw [show t389.length = t365.length from (Kd.R_reads' HO_370002.out).1.symm]; exact (Kd.R_reads' HO_370002.out).2.1); rintro e w122 ⟨rfl, hb⟩; refine ⟨_, rfl, ?_⟩; have n0_ := r1_ HO_349000 hb; have n1_ := r1_ HO_349001 hb; have n2_ := r1_ HO_349002 hb; have n3_ := r1_ HO_359000 hb; have n4_ := r1_ HO_359001 hb; have n5_ := r1_ HO_359002 hb; have n6_ := r1_ HO_370000 hb; have n7_ := r1_ HO_370001 hb; have n8_ := r1_ HO_370002 hb; have n9_ := b3_ BK327 hb; have n10_ := b3_ BK348 hb; have n11_ := b3_ BK358 hb; have n12_ := b3_ BK369 hb; have n13_ := Aside0.mk (below_step (y1_ HB.out) hb); clear HO_349000; clear HO_349001; clear HO_349002; clear HO_359000; clear HO_359001; clear HO_359002; clear HO_370000; clear HO_370001; clear HO_370002; clear BK327; clear BK348; clear BK358; clear BK369; clear HB; have HO_349000 := n0_; have HO_349001 := n1_; have HO_349002 := n2_; have HO_359000 := n3_; have HO_359001 := n4_; have HO_359002 := n5_; have HO_370000 := n6_; have HO_370001 := n7_; have HO_370002 := n8_; have BK327 := n9_; have BK348 := n10_; have BK358 := n11_; have BK369 := n12_; have HB := n13_; clear n0_ n1_ n2_ n3_ n4_ n5_ n6_ n7_ n8_ n9_ n10_ n11_ n12_ n13_; (try clear hb); (try clear hb2); (try clear hk); (try clear hi); have hnb123 := NB327_348.out; have hnc123 := NB348_327.out; have hnb124 := NB327_358.out; have hnc124 := NB358_327.out; have hcz125_0 : w122.cell? ⟨gb327, 0, none⟩ = some (.slice A0_0 l0_0.length c0_0) := (blk_cell BK327.out 0).trans rfl; have hcz125_1 : w122.cell? ⟨gb327, 1, none⟩ = some (.slice A0_1 l0_1.length c0_1) := (blk_cell BK327.out 1).trans rfl; have hcz125_2 : w122.cell? ⟨gb327, 2, none⟩ = some (.slice A0_2 l0_2.length c0_2) := (blk_cell BK327.out 2).trans rfl; have hfz125_0 := blk_frozen BK327.out 0; have hfz125_1 := blk_frozen BK327.out 1; have hfz125_2 := blk_frozen BK327.out 2) | ((with_reducible refine gate_callee (f := 26) rfl ?_); refine goesL_ (some 83) rfl rfl Try.func26 s2_ rfl #[.agg #[.slice A0_0 l0_0.length c0_0, .slice A0_1 l0_1.length c0_1, .slice A0_2 l0_2.length c0_2]] rfl s3_ ?_; (with_reducible refine (laws_toPresence.calls kj69 _ _ l0_0 _ _ l0_1 _ _ l0_2 t391 t394 t397 _ ?side1 ?side2 ?side3 ?side4 ?side5 ?side6 A113.out).mono ?_); (case side1 => exact y2_ (Kd.C_below HR0_0.out HB.out)); (case side2 => exact HC0_0.out); (case side3 => exact y2_ (Kd.C_below HR0_1.out HB.out)); (case side4 => exact HC0_1.out); (case side5 => exact y2_ (Kd.C_below HR0_2.out HB.out)); (case side6 => exact HC0_2.out); rintro e w126 ⟨v392, v395, v398, rfl, ho0, ho1, ho2, hb⟩; refine ⟨_, rfl, ?_⟩; have n0_ := Aside0.mk (Kd.R_mono (Kd.R_told (Kd.R_told (Kd.R_old (b2_ HO_349000.out) hb) (Kd.R_base ho0)) (Kd.R_base ho1)) (fun _ h_ => h_.1)); have n1_ := Aside0.mk (Kd.R_mono (Kd.R_told (Kd.R_told (Kd.R_old (b2_ HO_349001.out) hb) (Kd.R_base ho0)) (Kd.R_base ho1)) (fun _ h_ => h_.1)); have n2_ := Aside0.mk (Kd.R_elder' (b2_ HO_349002.out) (Kd.R_base ho2) hb); have n3_ := Aside0.mk (Kd.R_mono (Kd.R_told (Kd.R_told (Kd.R_old (b2_ HO_359000.out) hb) (Kd.R_base ho0)) (Kd.R_base ho1)) (fun _ h_ => h_.1)); have n4_ := Aside0.mk (Kd.R_mono (Kd.R_told (Kd.R_told (Kd.R_old (b2_ HO_359001.out) hb) (Kd.R_base ho0)) (Kd.R_base ho1)) (fun _ h_ => h_.1)); have n5_ := Aside0.mk (Kd.R_elder' (b2_ HO_359002.out) (Kd.R_base ho2) hb); have n6_ := Aside0.mk (Kd.R_mono (Kd.R_told (Kd.R_told (Kd.R_old (b2_ HO_370000.out) hb) (Kd.R_base ho0)) (Kd.R_base ho1)) (fun _ h_ => h_.1)); have n7_ := Aside0.mk (Kd.R_mono (Kd.R_told (Kd.R_told (Kd.R_old (b2_ HO_370001.out) hb) (Kd.R_base ho0)) (Kd.R_base ho1)) (fun _ h_ => h_.1)); have n8_ := Aside0.mk (Kd.R_elder' (b2_ HO_370002.out) (Kd.R_base ho2) hb); have n9_ := Aside0.mk (Kd.R_lower (Kd.R_new' (Kd.R_new' (Kd.R_new' (Kd.R_new' (Kd.R_new' (Kd.R_new' ho0 (Kd.R_lt (b2_ HO_349000.out))) (Kd.R_lt (b2_ HO_349001.out))) (Kd.R_lt (b2_ HO_359000.out))) (Kd.R_lt (b2_ HO_359001.out))) (Kd.R_lt (b2_ HO_370000.out))) (Kd.R_lt (b2_ HO_370001.out))) (below_size (y1_ HB.out))); have n10_ := Aside0.mk (Kd.R_lower (Kd.R_new' (Kd.R_new' (Kd.R_new' (Kd.R_new' (Kd.R_new' (Kd.R_new' ho1 (Kd.R_lt (b2_ HO_349000.out))) (Kd.R_lt (b2_ HO_349001.out))) (Kd.R_lt (b2_ HO_359000.out))) (Kd.R_lt (b2_ HO_359001.out))) (Kd.R_lt (b2_ HO_370000.out))) (Kd.R_lt (b2_ HO_370001.out))) (below_size (y1_ HB.out))); have n11_ := Aside0.mk (Kd.R_lower (Kd.R_new' (Kd.R_new' (Kd.R_new' ho2 (Kd.R_lt (b2_ HO_349002.out))) (Kd.R_lt (b2_ HO_359002.out))) (Kd.R_lt (b2_ HO_370002.out))) (below_size (y1_ HB.out))); have n12_ := b3_ BK327 hb; have n13_ := b3_ BK348 hb; have n14_ := b3_ BK358 hb; have n15_ := b3_ BK369 hb; have n16_ := Aside0.mk (below_step (y1_ HB.out) hb); clear HO_349000; clear HO_349001; clear HO_349002; clear HO_359000; clear HO_359001; clear HO_359002; clear HO_370000; clear HO_370001; clear HO_370002; clear BK327; clear BK348; clear BK358; clear BK369; clear HB; have HO_349000 := n0_; have HO_349001 := n1_; have HO_349002 := n2_; have HO_359000 := n3_; have HO_359001 := n4_; have HO_359002 := n5_; have HO_370000 := n6_; have HO_370001 := n7_; have HO_370002 := n8_; have HO393 := n9_; have HO396 := n10_; have HO399 := n11_; have BK327 := n12_; have BK348 := n13_; have BK358 := n14_; have BK369 := n15_; have HB := n16_; clear n0_ n1_ n2_ n3_ n4_ n5_ n6_ n7_ n8_ n9_ n10_ n11_ n12_ n13_ n14_ n15_ n16_; (try clear hb); (try clear hb2); (try clear hk); (try clear hi); (try clear ho0); (try clear ho1); (try clear ho2); obtain ⟨Ao127, co127, eo127⟩ := Kd.R_slice HO393.out; subst eo127; obtain ⟨Ao128, co128, eo128⟩ := Kd.R_slice HO396.out; subst eo128; obtain ⟨Ao129, co129, eo129⟩ := Kd.R_slice HO399.out; subst eo129) | ((with_reducible refine gate_callee (f := 34) rfl ?_); refine goesL_ (some 86) rfl rfl Try.func34 s2_ rfl #[.agg #[.slice Ao127 t391.length co127, .slice Ao128 t394.length co128, .slice Ao129 t397.length co129], .int .i64 a1, .int .i64 a2] rfl s3_ ?_; (with_reducible refine (impl_ReadUpTo.calls kj69 _ _ t391 _ _ t394 _ _ t397 a1 a2 t400 t403 t406 t409 _ ?side1 ?side2 ?side3 ?side4 ?side5 ?side6 A114.out).mono ?_); (case side1 => exact y2_ (Kd.R_reads' HO393.out).2.2); (case side2 => exact (Kd.R_reads' HO393.out).2.1); (case side3 => exact y2_ (Kd.R_reads' HO396.out).2.2); (case side4 => exact (Kd.R_reads' HO396.out).2.1); (case side5 => exact y2_ (Kd.R_reads' HO399.out).2.2); (case side6 => exact (Kd.R_reads' HO399.out).2.1); rintro e w130 ⟨v401, v404, v407, rfl, ho0, ho1, ho2, hb⟩; refine ⟨_, rfl, ?_⟩; have n0_ := Aside0.mk (Kd.R_mono (Kd.R_told (Kd.R_told (Kd.R_old (b2_ HO_349000.out) hb) (Kd.R_base ho0)) (Kd.R_base ho1)) (fun _ h_ => h_.1)); have n1_ := Aside0.mk (Kd.R_mono (Kd.R_told (Kd.R_told (Kd.R_old (b2_ HO_349001.out) hb) (Kd.R_base ho0)) (Kd.R_base ho1)) (fun _ h_ => h_.1)); have n2_ := Aside0.mk (Kd.R_elder' (b2_ HO_349002.out) (Kd.R_base ho2) hb); have n3_ := Aside0.mk (Kd.R_mono (Kd.R_told (Kd.R_told (Kd.R_old (b2_ HO_359000.out) hb) (Kd.R_base ho0)) (Kd.R_base ho1)) (fun _ h_ => h_.1)); have n4_ := Aside0.mk (Kd.R_mono (Kd.R_told (Kd.R_told (Kd.R_old (b2_ HO_359001.out) hb) (Kd.R_base ho0)) (Kd.R_base ho1)) (fun _ h_ => h_.1)); have n5_ := Aside0.mk (Kd.R_elder' (b2_ HO_359002.out) (Kd.R_base ho2) hb); have n6_ := Aside0.mk (Kd.R_mono (Kd.R_told (Kd.R_told (Kd.R_old (b2_ HO_370000.out) hb) (Kd.R_base ho0)) (Kd.R_base ho1)) (fun _ h_ => h_.1)); have n7_ := Aside0.mk (Kd.R_mono (Kd.R_told (Kd.R_told (Kd.R_old (b2_ HO_370001.out) hb) (Kd.R_base ho0)) (Kd.R_base ho1)) (fun _ h_ => h_.1)); have n8_ := Aside0.mk (Kd.R_elder' (b2_ HO_370002.out) (Kd.R_base ho2) hb); have n9_ := Aside0.mk (Kd.R_mono (Kd.R_told (Kd.R_told (Kd.R_old (b2_ HO393.out) hb) (Kd.R_base ho0)) (Kd.R_base ho1)) (fun _ h_ => h_.1)); have n10_ := Aside0.mk (Kd.R_mono (Kd.R_told (Kd.R_told (Kd.R_old (b2_ HO396.out) hb) (Kd.R_base ho0)) (Kd.R_base ho1)) (fun _ h_ => h_.1)); have n11_ := Aside0.mk (Kd.R_elder' (b2_ HO399.out) (Kd.R_base ho2) hb); have n12_ := Aside0.mk (Kd.R_lower (Kd.R_new' (Kd.R_new' (Kd.R_new' (Kd.R_new' (Kd.R_new' (Kd.R_new' (Kd.R_new' (Kd.R_new' ho0 (Kd.R_lt (b2_ HO_349000.out))) (Kd.R_lt (b2_ HO_349001.out))) (Kd.R_lt (b2_ HO_359000.out))) (Kd.R_lt (b2_ HO_359001.out))) (Kd.R_lt (b2_ HO_370000.out))) (Kd.R_lt (b2_ HO_370001.out))) (Kd.R_lt (b2_ HO393.out))) (Kd.R_lt (b2_ HO396.out))) (below_size (y1_ HB.out))); have n13_ := Aside0.mk (Kd.R_lower (Kd.R_new' (Kd.R_new' (Kd.R_new' (Kd.R_new' (Kd.R_new' (Kd.R_new' (Kd.R_new' (Kd.R_new' ho1 (Kd.R_lt (b2_ HO_349000.out))) (Kd.R_lt (b2_ HO_349001.out))) (Kd.R_lt (b2_ HO_359000.out))) (Kd.R_lt (b2_ HO_359001.out))) (Kd.R_lt (b2_ HO_370000.out))) (Kd.R_lt (b2_ HO_370001.out))) (Kd.R_lt (b2_ HO393.out))) (Kd.R_lt (b2_ HO396.out))) (below_size (y1_ HB.out))); have n14_ := Aside0.mk (Kd.R_lower (Kd.R_new' (Kd.R_new' (Kd.R_new' (Kd.R_new' ho2 (Kd.R_lt (b2_ HO_349002.out))) (Kd.R_lt (b2_ HO_359002.out))) (Kd.R_lt (b2_ HO_370002.out))) (Kd.R_lt (b2_ HO399.out))) (below_size (y1_ HB.out))); have n15_ := b3_ BK327 hb; have n16_ := b3_ BK348 hb; have n17_ := b3_ BK358 hb; have n18_ := b3_ BK369 hb; have n19_ := Aside0.mk (below_step (y1_ HB.out) hb); clear HO_349000; clear HO_349001; clear HO_349002; clear HO_359000; clear HO_359001; clear HO_359002; clear HO_370000; clear HO_370001; clear HO_370002; clear HO393; clear HO396; clear HO399; clear BK327; clear BK348; clear BK358; clear BK369; clear HB; have HO_349000 := n0_; have HO_349001 := n1_; have HO_349002 := n2_; have HO_359000 := n3_; have HO_359001 := n4_; have HO_359002 := n5_; have HO_370000 := n6_; have HO_370001 := n7_; have HO_370002 := n8_; have HO393 := n9_; have HO396 := n10_; have HO399 := n11_; have HO402 := n12_; have HO405 := n13_; have HO408 := n14_; have BK327 := n15_; have BK348 := n16_; have BK358 := n17_; have BK369 := n18_; have HB := n19_; clear n0_ n1_ n2_ n3_ n4_ n5_ n6_ n7_ n8_ n9_ n10_ n11_ n12_ n13_ n14_ n15_ n16_ n17_ n18_ n19_; (try clear hb); (try clear hb2); (try clear hk); (try clear hi); (try clear ho0); (try clear ho1); (try clear ho2)) | ((with_reducible refine gate_dst (N := 16) rfl ?_); refine box_event ?hg (N := 16) ?hd (cs := #[.slice none 0 0, .slice none 0 0, .slice none 0 0]) (t := 27) ?hr ?_; (case hd => rfl); (case hg => rfl); (case hr => first | (go_simp; done) | (go_simp; rfl)); intro gb410 hg w131 hbox hb; have GW410 := b6_ hg HB; have GE410 := b6_ hg HB; have NB327_410 := b4_ hg BK327; have NB410_327 := b5_ hg BK327; have NB348_410 := b4_ hg BK348; have NB410_348 := b5_ hg BK348; have NB358_410 := b4_ hg BK358; have NB410_358 := b5_ hg BK358; have NB369_410 := b4_ hg BK369; have NB410_369 := b5_ hg BK369; have n0_ := r1_ HO_349000 hb; have n1_ := r1_ HO_349001 hb; have n2_ := r1_ HO_349002 hb; have n3_ := r1_ HO_359000 hb; have n4_ := r1_ HO_359001 hb; have n5_ := r1_ HO_359002 hb; have n6_ := r1_ HO_370000 hb; have n7_ := r1_ HO_370001 hb; have n8_ := r1_ HO_370002 hb; have n9_ := r1_ HO393 hb; have n10_ := r1_ HO396 hb; have n11_ := r1_ HO399 hb; have n12_ := r1_ HO402 hb; have n13_ := r1_ HO405 hb; have n14_ := r1_ HO408 hb; have n15_ := b3_ BK327 hb; have n16_ := b3_ BK348 hb; have n17_ := b3_ BK358 hb; have n18_ := b3_ BK369 hb; have n19_ := Aside0.mk (below_step (y1_ HB.out) hb); have n20_ := Aside0.mk (hbox); clear HO_349000; clear HO_349001; clear HO_349002; clear HO_359000; clear HO_359001; clear HO_359002; clear HO_370000; clear HO_370001; clear HO_370002; clear HO393; clear HO396; clear HO399; clear HO402; clear HO405; clear HO408; clear BK327; clear BK348; clear BK358; clear BK369; clear HB; have HO_349000 := n0_; have HO_349001 := n1_; have HO_349002 := n2_; have HO_359000 := n3_; have HO_359001 := n4_; have HO_359002 := n5_; have HO_370000 := n6_; have HO_370001 := n7_; have HO_370002 := n8_; have HO393 := n9_; have HO396 := n10_; have HO399 := n11_; have HO402 := n12_; have HO405 := n13_; have HO408 := n14_; have BK327 := n15_; have BK348 := n16_; have BK358 := n17_; have BK369 := n18_; have HB := n19_; have BK410 := n20_; clear n0_ n1_ n2_ n3_ n4_ n5_ n6_ n7_ n8_ n9_ n10_ n11_ n12_ n13_ n14_ n15_ n16_ n17_ n18_ n19_ n20_; clear hb hbox hg; obtain ⟨Ao132, co132, eo132⟩ := Kd.R_slice HO402.out; subst eo132; have hnb133 := NB410_327.out; have hnc133 := NB327_410.out; have hnb134 := NB410_348.out; have hnc134 := NB348_410.out; have hnb135 := NB410_358.out; have hnc135 := NB358_410.out; have hnb136 := NB410_369.out; have hnc136 := NB369_410.out; have hcz137_0 : w131.cell? ⟨gb410, 0, none⟩ = some (.slice none 0 0) := (blk_cell BK410.out 0).trans rfl; have hcz137_1 : w131.cell? ⟨gb410, 1, none⟩ = some (.slice none 0 0) := (blk_cell BK410.out 1).trans rfl; have hcz137_2 : w131.cell? ⟨gb410, 2, none⟩ = some (.slice none 0 0) := (blk_cell BK410.out 2).trans rfl; have hfz137_0 := blk_frozen BK410.out 0; have hfz137_1 := blk_frozen BK410.out 1; have hfz137_2 := blk_frozen BK410.out 2; obtain ⟨Ao138, co138, eo138⟩ := Kd.R_slice HO405.out; subst eo138; obtain ⟨Ao139, co139, eo139⟩ := Kd.R_slice HO408.out; subst eo139))
 (try simp only [Act.put, List.setIfInBounds_toArray, List.set_cons_zero, List.set_cons_succ])
 go_cut [97] (fun v97 wc => ∃ (kq : Nat) (x97_114 : Bool), v97 = .bool x97_114 ∧ Aside0 (laws_FnExactReadUpTo.j2 kq t386 x97_114 t387 t388 t389 = some r) ∧ Aside0 (kq ≤ kj69) ∧ Aside0 (Kd.R k63 63 wc w.heap.size (fun k_ => some k_ ≠ ((.slice Ao27 t341.length co27) : Value).ownBlock ∧ some k_ ≠ ((.slice Ao32 t382.length co32) : Value).ownBlock ∧ some k_ ≠ ((.slice Ao36 t383.length co36) : Value).ownBlock ∧ some k_ ≠ ((.slice Ao40 t359.length co40) : Value).ownBlock ∧ some k_ ≠ ((.slice Ao45 t362.length co45) : Value).ownBlock ∧ some k_ ≠ ((.slice Ao132 t400.length co132) : Value).ownBlock ∧ some k_ ≠ ((.slice Ao138 t403.length co138) : Value).ownBlock) (.slice Ao24 t338.length co24) t338) ∧ Aside0 (Kd.R k63 63 wc w.heap.size (fun k_ => some k_ ≠ ((.slice Ao24 t338.length co24) : Value).ownBlock ∧ some k_ ≠ ((.slice Ao32 t382.length co32) : Value).ownBlock ∧ some k_ ≠ ((.slice Ao36 t383.length co36) : Value).ownBlock ∧ some k_ ≠ ((.slice Ao40 t359.length co40) : Value).ownBlock ∧ some k_ ≠ ((.slice Ao45 t362.length co45) : Value).ownBlock ∧ some k_ ≠ ((.slice Ao132 t400.length co132) : Value).ownBlock ∧ some k_ ≠ ((.slice Ao138 t403.length co138) : Value).ownBlock) (.slice Ao27 t341.length co27) t341) ∧ Aside0 (Kd.R k73 73 wc w.heap.size (fun k_ => some k_ ≠ ((.slice Ao37 t384.length co37) : Value).ownBlock ∧ some k_ ≠ ((.slice Ao46 t365.length co46) : Value).ownBlock ∧ some k_ ≠ ((.slice Ao139 t406.length co139) : Value).ownBlock) (.slice Ao28 t344.length co28) t344) ∧ Aside0 (Kd.R k63 63 wc w.heap.size (fun k_ => some k_ ≠ ((.slice Ao24 t338.length co24) : Value).ownBlock ∧ some k_ ≠ ((.slice Ao27 t341.length co27) : Value).ownBlock ∧ some k_ ≠ ((.slice Ao36 t383.length co36) : Value).ownBlock ∧ some k_ ≠ ((.slice Ao40 t359.length co40) : Value).ownBlock ∧ some k_ ≠ ((.slice Ao45 t362.length co45) : Value).ownBlock ∧ some k_ ≠ ((.slice Ao132 t400.length co132) : Value).ownBlock ∧ some k_ ≠ ((.slice Ao138 t403.length co138) : Value).ownBlock) (.slice Ao32 t382.length co32) t382) ∧ Aside0 (Kd.R k63 63 wc w.heap.size (fun k_ => some k_ ≠ ((.slice Ao24 t338.length co24) : Value).ownBlock ∧ some k_ ≠ ((.slice Ao27 t341.length co27) : Value).ownBlock ∧ some k_ ≠ ((.slice Ao32 t382.length co32) : Value).ownBlock ∧ some k_ ≠ ((.slice Ao40 t359.length co40) : Value).ownBlock ∧ some k_ ≠ ((.slice Ao45 t362.length co45) : Value).ownBlock ∧ some k_ ≠ ((.slice Ao132 t400.length co132) : Value).ownBlock ∧ some k_ ≠ ((.slice Ao138 t403.length co138) : Value).ownBlock) (.slice Ao36 t383.length co36) t383) ∧ Aside0 (Kd.R k73 73 wc w.heap.size (fun k_ => some k_ ≠ ((.slice Ao28 t344.length co28) : Value).ownBlock ∧ some k_ ≠ ((.slice Ao46 t365.length co46) : Value).ownBlock ∧ some k_ ≠ ((.slice Ao139 t406.length co139) : Value).ownBlock) (.slice Ao37 t384.length co37) t384) ∧ Aside0 (Kd.R k63 63 wc w.heap.size (fun k_ => some k_ ≠ ((.slice Ao24 t338.length co24) : Value).ownBlock ∧ some k_ ≠ ((.slice Ao27 t341.length co27) : Value).ownBlock ∧ some k_ ≠ ((.slice Ao32 t382.length co32) : Value).ownBlock ∧ some k_ ≠ ((.slice Ao36 t383.length co36) : Value).ownBlock ∧ some k_ ≠ ((.slice Ao45 t362.length co45) : Value).ownBlock ∧ some k_ ≠ ((.slice Ao132 t400.length co132) : Value).ownBlock ∧ some k_ ≠ ((.slice Ao138 t403.length co138) : Value).ownBlock) (.slice Ao40 t359.length co40) t387) ∧ Aside0 (Kd.R k63 63 wc w.heap.size (fun k_ => some k_ ≠ ((.slice Ao24 t338.length co24) : Value).ownBlock ∧ some k_ ≠ ((.slice Ao27 t341.length co27) : Value).ownBlock ∧ some k_ ≠ ((.slice Ao32 t382.length co32) : Value).ownBlock ∧ some k_ ≠ ((.slice Ao36 t383.length co36) : Value).ownBlock ∧ some k_ ≠ ((.slice Ao40 t359.length co40) : Value).ownBlock ∧ some k_ ≠ ((.slice Ao132 t400.length co132) : Value).ownBlock ∧ some k_ ≠ ((.slice Ao138 t403.length co138) : Value).ownBlock) (.slice Ao45 t362.length co45) t388) ∧ Aside0 (Kd.R k73 73 wc w.heap.size (fun k_ => some k_ ≠ ((.slice Ao28 t344.length co28) : Value).ownBlock ∧ some k_ ≠ ((.slice Ao37 t384.length co37) : Value).ownBlock ∧ some k_ ≠ ((.slice Ao139 t406.length co139) : Value).ownBlock) (.slice Ao46 t365.length co46) t389) ∧ Aside0 (Kd.R k63 63 wc w.heap.size (fun k_ => some k_ ≠ ((.slice Ao24 t338.length co24) : Value).ownBlock ∧ some k_ ≠ ((.slice Ao27 t341.length co27) : Value).ownBlock ∧ some k_ ≠ ((.slice Ao32 t382.length co32) : Value).ownBlock ∧ some k_ ≠ ((.slice Ao36 t383.length co36) : Value).ownBlock ∧ some k_ ≠ ((.slice Ao40 t359.length co40) : Value).ownBlock ∧ some k_ ≠ ((.slice Ao45 t362.length co45) : Value).ownBlock ∧ some k_ ≠ ((.slice Ao138 t403.length co138) : Value).ownBlock) (.slice Ao132 t400.length co132) t400) ∧ Aside0 (Kd.R k63 63 wc w.heap.size (fun k_ => some k_ ≠ ((.slice Ao24 t338.length co24) : Value).ownBlock ∧ some k_ ≠ ((.slice Ao27 t341.length co27) : Value).ownBlock ∧ some k_ ≠ ((.slice Ao32 t382.length co32) : Value).ownBlock ∧ some k_ ≠ ((.slice Ao36 t383.length co36) : Value).ownBlock ∧ some k_ ≠ ((.slice Ao40 t359.length co40) : Value).ownBlock ∧ some k_ ≠ ((.slice Ao45 t362.length co45) : Value).ownBlock ∧ some k_ ≠ ((.slice Ao132 t400.length co132) : Value).ownBlock) (.slice Ao138 t403.length co138) t403) ∧ Aside0 (Kd.R k73 73 wc w.heap.size (fun k_ => some k_ ≠ ((.slice Ao28 t344.length co28) : Value).ownBlock ∧ some k_ ≠ ((.slice Ao37 t384.length co37) : Value).ownBlock ∧ some k_ ≠ ((.slice Ao46 t365.length co46) : Value).ownBlock) (.slice Ao139 t406.length co139) t406) ∧ Aside0 (wc.heap[gb327]? = some (.cells #[(.slice A0_0 l0_0.length c0_0), (.slice A0_1 l0_1.length c0_1), (.slice A0_2 l0_2.length c0_2)] 45 (0, 0))) ∧ Aside0 (wc.heap[gb348]? = some (.cells #[(.slice Ao24 t338.length co24), (.slice Ao27 t341.length co27), (.slice Ao28 t344.length co28)] 27 (0, 0))) ∧ Aside0 (wc.heap[gb358]? = some (.cells #[(.slice Ao32 t382.length co32), (.slice Ao36 t383.length co36), (.slice Ao37 t384.length co37)] 27 (0, 0))) ∧ Aside0 (wc.heap[gb369]? = some (.cells #[(.slice Ao40 t359.length co40), (.slice Ao45 t362.length co45), (.slice Ao46 t365.length co46)] 27 (0, 0))) ∧ Aside0 (wc.heap[gb410]? = some (.cells #[(.slice Ao132 t400.length co132), (.slice Ao138 t403.length co138), (.slice Ao139 t406.length co139)] 27 (0, 0))) ∧ Aside0 (Below w.heap.size w wc))
 case first =>
  as_aux_lemma =>
   skip
   {
 have H := HC115.out
 clear HC115
 replace H := Option.bind_eq_some_iff.mp H
 obtain ⟨t411, A1400, H⟩ := H
 replace H : (if t411 = true then (laws_FnExactReadUpTo.j2 kj69 t386 (t409 != t347) t387 t388 t389) else (laws_FnExactReadUpTo.j2 kj69 t386 true t387 t388 t389)) = some r := H
 have A140 := Aside0.mk A1400
 clear A1400
 by_cases c141 : t411 = true
 {
 subst c141
 have H1 : (laws_FnExactReadUpTo.j2 kj69 t386 (t409 != t347) t387 t388 t389) = some r := by rw [if_pos rfl] at H; exact H
 clear H
 have H := H1
 clear H1
 have H' := Aside0.mk H
 clear H
 have hnb142 := NB410_327.out
 have hnc142 := NB327_410.out
 have hnb143 := NB410_348.out
 have hnc143 := NB348_410.out
 have hnb144 := NB410_358.out
 have hnc144 := NB358_410.out
 have hnb145 := NB410_369.out
 have hnc145 := NB369_410.out
 have hcz146_0 : w131.cell? ⟨gb410, 0, none⟩ = some (.slice none 0 0) := (blk_cell BK410.out 0).trans rfl
 have hcz146_1 : w131.cell? ⟨gb410, 1, none⟩ = some (.slice none 0 0) := (blk_cell BK410.out 1).trans rfl
 have hcz146_2 : w131.cell? ⟨gb410, 2, none⟩ = some (.slice none 0 0) := (blk_cell BK410.out 2).trans rfl
 have hfz146_0 := blk_frozen BK410.out 0
 have hfz146_1 := blk_frozen BK410.out 1
 have hfz146_2 := blk_frozen BK410.out 2
 have hnb147 := NB348_327.out
 have hnc147 := NB327_348.out
 have hnb148 := NB348_358.out
 have hnc148 := NB358_348.out
 have hnb149 := NB348_369.out
 have hnc149 := NB369_348.out
 have hcz150_0 : w131.cell? ⟨gb348, 0, none⟩ = some (.slice Ao24 t338.length co24) := (blk_cell BK348.out 0).trans rfl
 have hcz150_1 : w131.cell? ⟨gb348, 1, none⟩ = some (.slice Ao27 t341.length co27) := (blk_cell BK348.out 1).trans rfl
 have hcz150_2 : w131.cell? ⟨gb348, 2, none⟩ = some (.slice Ao28 t344.length co28) := (blk_cell BK348.out 2).trans rfl
 have hfz150_0 := blk_frozen BK348.out 0
 have hfz150_1 := blk_frozen BK348.out 1
 have hfz150_2 := blk_frozen BK348.out 2
 go_wp2_with (first | ((with_reducible refine gate_callee (f := 27) rfl ?_); refine goesL_ (some 91) rfl rfl Try.func27 s2_ rfl #[.agg #[.slice Ao132 t400.length co132, .slice Ao138 t403.length co138, .slice Ao139 t406.length co139], .agg #[.slice Ao24 t338.length co24, .slice Ao27 t341.length co27, .slice Ao28 t344.length co28]] rfl s3_ ?_; (with_reducible refine (laws_eqPresence.calls kj69 _ _ t400 _ _ t403 _ _ t406 _ _ t338 _ _ t341 _ _ t344 true _ ?side1 ?side2 ?side3 ?side4 ?side5 ?side6 ?side7 ?side8 ?side9 ?side10 ?side11 ?side12 A140.out).mono ?_); (case side1 => refine (Kd.R_reads' (e := 63) (base := w.heap.size) (ok := fun k_ => ((((((((some k_ ≠ (.slice Ao138 t403.length co138 : Value).ownBlock ∧ some k_ ≠ (.slice Ao24 t338.length co24 : Value).ownBlock) ∧ some k_ ≠ (.slice Ao27 t341.length co27 : Value).ownBlock) ∧ some k_ ≠ (.slice Ao32 t382.length co32 : Value).ownBlock) ∧ some k_ ≠ (.slice Ao36 t383.length co36 : Value).ownBlock) ∧ some k_ ≠ (.slice Ao40 t359.length co40 : Value).ownBlock) ∧ some k_ ≠ (.slice Ao45 t362.length co45 : Value).ownBlock) ∧ some k_ ≠ (.slice Ao127 t391.length co127 : Value).ownBlock) ∧ some k_ ≠ (.slice Ao128 t394.length co128 : Value).ownBlock)) (n := t400.length) (c := co132) ?_).2.2; exact (by (with_reducible repeat (first | apply Kd.R_alloc | apply Kd.R_drewN | apply Kd.R_drew)); exact (Kd.R_mono (Kd.R_far3 (g := gb410) (Kd.R_types HO402.out BK410.out (by decide)) (fun _ hk => hk.2)) (fun _ h_ => h_.1)))); (case side2 => exact (Kd.R_reads' HO402.out).2.1); (case side3 => refine (Kd.R_reads' (e := 63) (base := w.heap.size) (ok := fun k_ => ((((((((some k_ ≠ (.slice Ao132 t400.length co132 : Value).ownBlock ∧ some k_ ≠ (.slice Ao24 t338.length co24 : Value).ownBlock) ∧ some k_ ≠ (.slice Ao27 t341.length co27 : Value).ownBlock) ∧ some k_ ≠ (.slice Ao32 t382.length co32 : Value).ownBlock) ∧ some k_ ≠ (.slice Ao36 t383.length co36 : Value).ownBlock) ∧ some k_ ≠ (.slice Ao40 t359.length co40 : Value).ownBlock) ∧ some k_ ≠ (.slice Ao45 t362.length co45 : Value).ownBlock) ∧ some k_ ≠ (.slice Ao127 t391.length co127 : Value).ownBlock) ∧ some k_ ≠ (.slice Ao128 t394.length co128 : Value).ownBlock)) (n := t403.length) (c := co138) ?_).2.2; exact (by (with_reducible repeat (first | apply Kd.R_alloc | apply Kd.R_drewN | apply Kd.R_drew)); exact (Kd.R_mono (Kd.R_far3 (g := gb410) (Kd.R_types HO405.out BK410.out (by decide)) (fun _ hk => hk.2)) (fun _ h_ => h_.1)))); (case side4 => exact (Kd.R_reads' HO405.out).2.1); (case side5 => refine (Kd.R_reads' (e := 73) (base := w.heap.size) (ok := fun k_ => ((((True ∧ some k_ ≠ (.slice Ao28 t344.length co28 : Value).ownBlock) ∧ some k_ ≠ (.slice Ao37 t384.length co37 : Value).ownBlock) ∧ some k_ ≠ (.slice Ao46 t365.length co46 : Value).ownBlock) ∧ some k_ ≠ (.slice Ao129 t397.length co129 : Value).ownBlock)) (n := t406.length) (c := co139) ?_).2.2; exact (by (with_reducible repeat (first | apply Kd.R_alloc | apply Kd.R_drewN | apply Kd.R_drew)); exact (Kd.R_mono (Kd.R_far3 (g := gb410) (Kd.R_types HO408.out BK410.out (by decide)) (fun _ hk => hk.2)) (fun _ h_ => h_.1)))); (case side6 => exact (Kd.R_reads' HO408.out).2.1); (case side7 => refine (Kd.R_reads' (e := 63) (base := w.heap.size) (ok := fun k_ => (((((some k_ ≠ (.slice Ao27 t341.length co27 : Value).ownBlock ∧ (some k_ ≠ (.slice Ao32 t382.length co32 : Value).ownBlock ∧ (some k_ ≠ (.slice Ao36 t383.length co36 : Value).ownBlock ∧ (some k_ ≠ (.slice Ao40 t359.length co40 : Value).ownBlock ∧ some k_ ≠ (.slice Ao45 t362.length co45 : Value).ownBlock)))) ∧ some k_ ≠ (.slice Ao127 t391.length co127 : Value).ownBlock) ∧ some k_ ≠ (.slice Ao128 t394.length co128 : Value).ownBlock) ∧ some k_ ≠ (.slice Ao132 t400.length co132 : Value).ownBlock) ∧ some k_ ≠ (.slice Ao138 t403.length co138 : Value).ownBlock)) (n := t338.length) (c := co24) ?_).2.2; exact (by (with_reducible repeat (first | apply Kd.R_alloc | apply Kd.R_drewN | apply Kd.R_drew)); exact (Kd.R_mono (Kd.R_far3 (g := gb410) (Kd.R_types HO_349000.out BK410.out (by decide)) (fun _ hk => hk.2)) (fun _ h_ => h_.1)))); (case side8 => exact (Kd.R_reads' HO_349000.out).2.1); (case side9 => refine (Kd.R_reads' (e := 63) (base := w.heap.size) (ok := fun k_ => (((((some k_ ≠ (.slice Ao24 t338.length co24 : Value).ownBlock ∧ (some k_ ≠ (.slice Ao32 t382.length co32 : Value).ownBlock ∧ (some k_ ≠ (.slice Ao36 t383.length co36 : Value).ownBlock ∧ (some k_ ≠ (.slice Ao40 t359.length co40 : Value).ownBlock ∧ some k_ ≠ (.slice Ao45 t362.length co45 : Value).ownBlock)))) ∧ some k_ ≠ (.slice Ao127 t391.length co127 : Value).ownBlock) ∧ some k_ ≠ (.slice Ao128 t394.length co128 : Value).ownBlock) ∧ some k_ ≠ (.slice Ao132 t400.length co132 : Value).ownBlock) ∧ some k_ ≠ (.slice Ao138 t403.length co138 : Value).ownBlock)) (n := t341.length) (c := co27) ?_).2.2; exact (by (with_reducible repeat (first | apply Kd.R_alloc | apply Kd.R_drewN | apply Kd.R_drew)); exact (Kd.R_mono (Kd.R_far3 (g := gb410) (Kd.R_types HO_349001.out BK410.out (by decide)) (fun _ hk => hk.2)) (fun _ h_ => h_.1)))); (case side10 => exact (Kd.R_reads' HO_349001.out).2.1); (case side11 => refine (Kd.R_reads' (e := 73) (base := w.heap.size) (ok := fun k_ => (((some k_ ≠ (.slice Ao37 t384.length co37 : Value).ownBlock ∧ some k_ ≠ (.slice Ao46 t365.length co46 : Value).ownBlock) ∧ some k_ ≠ (.slice Ao129 t397.length co129 : Value).ownBlock) ∧ some k_ ≠ (.slice Ao139 t406.length co139 : Value).ownBlock)) (n := t344.length) (c := co28) ?_).2.2; exact (by (with_reducible repeat (first | apply Kd.R_alloc | apply Kd.R_drewN | apply Kd.R_drew)); exact (Kd.R_mono (Kd.R_far3 (g := gb410) (Kd.R_types HO_349002.out BK410.out (by decide)) (fun _ hk => hk.2)) (fun _ h_ => h_.1)))); (case side12 => exact (Kd.R_reads' HO_349002.out).2.1); rintro e w151 ⟨rfl, hb⟩; refine ⟨_, rfl, ?_⟩; have n0_ := Aside0.mk (Kd.R_below (by (with_reducible repeat (first | apply Kd.R_alloc | apply Kd.R_drewN | apply Kd.R_drew)); exact (Kd.R_mono (Kd.R_far3 (g := gb410) (Kd.R_types HO_349000.out BK410.out (by decide)) (fun _ hk => hk.2)) (fun _ h_ => h_.1))) hb); have n1_ := Aside0.mk (Kd.R_below (by (with_reducible repeat (first | apply Kd.R_alloc | apply Kd.R_drewN | apply Kd.R_drew)); exact (Kd.R_mono (Kd.R_far3 (g := gb410) (Kd.R_types HO_349001.out BK410.out (by decide)) (fun _ hk => hk.2)) (fun _ h_ => h_.1))) hb); have n2_ := Aside0.mk (Kd.R_below (by (with_reducible repeat (first | apply Kd.R_alloc | apply Kd.R_drewN | apply Kd.R_drew)); exact (Kd.R_mono (Kd.R_far3 (g := gb410) (Kd.R_types HO_349002.out BK410.out (by decide)) (fun _ hk => hk.2)) (fun _ h_ => h_.1))) hb); have n3_ := Aside0.mk (Kd.R_below (by (with_reducible repeat (first | apply Kd.R_alloc | apply Kd.R_drewN | apply Kd.R_drew)); exact (Kd.R_mono (Kd.R_far3 (g := gb410) (Kd.R_types HO_359000.out BK410.out (by decide)) (fun _ hk => hk.2)) (fun _ h_ => h_.1))) hb); have n4_ := Aside0.mk (Kd.R_below (by (with_reducible repeat (first | apply Kd.R_alloc | apply Kd.R_drewN | apply Kd.R_drew)); exact (Kd.R_mono (Kd.R_far3 (g := gb410) (Kd.R_types HO_359001.out BK410.out (by decide)) (fun _ hk => hk.2)) (fun _ h_ => h_.1))) hb); have n5_ := Aside0.mk (Kd.R_below (by (with_reducible repeat (first | apply Kd.R_alloc | apply Kd.R_drewN | apply Kd.R_drew)); exact (Kd.R_mono (Kd.R_far3 (g := gb410) (Kd.R_types HO_359002.out BK410.out (by decide)) (fun _ hk => hk.2)) (fun _ h_ => h_.1))) hb); have n6_ := Aside0.mk (Kd.R_below (by (with_reducible repeat (first | apply Kd.R_alloc | apply Kd.R_drewN | apply Kd.R_drew)); exact (Kd.R_mono (Kd.R_far3 (g := gb410) (Kd.R_types HO_370000.out BK410.out (by decide)) (fun _ hk => hk.2)) (fun _ h_ => h_.1))) hb); have n7_ := Aside0.mk (Kd.R_below (by (with_reducible repeat (first | apply Kd.R_alloc | apply Kd.R_drewN | apply Kd.R_drew)); exact (Kd.R_mono (Kd.R_far3 (g := gb410) (Kd.R_types HO_370001.out BK410.out (by decide)) (fun _ hk => hk.2)) (fun _ h_ => h_.1))) hb); have n8_ := Aside0.mk (Kd.R_below (by (with_reducible repeat (first | apply Kd.R_alloc | apply Kd.R_drewN | apply Kd.R_drew)); exact (Kd.R_mono (Kd.R_far3 (g := gb410) (Kd.R_types HO_370002.out BK410.out (by decide)) (fun _ hk => hk.2)) (fun _ h_ => h_.1))) hb); have n9_ := Aside0.mk (Kd.R_below (by (with_reducible repeat (first | apply Kd.R_alloc | apply Kd.R_drewN | apply Kd.R_drew)); exact (Kd.R_mono (Kd.R_far3 (g := gb410) (Kd.R_types HO393.out BK410.out (by decide)) (fun _ hk => hk.2)) (fun _ h_ => h_.1))) hb); have n10_ := Aside0.mk (Kd.R_below (by (with_reducible repeat (first | apply Kd.R_alloc | apply Kd.R_drewN | apply Kd.R_drew)); exact (Kd.R_mono (Kd.R_far3 (g := gb410) (Kd.R_types HO396.out BK410.out (by decide)) (fun _ hk => hk.2)) (fun _ h_ => h_.1))) hb); have n11_ := Aside0.mk (Kd.R_below (by (with_reducible repeat (first | apply Kd.R_alloc | apply Kd.R_drewN | apply Kd.R_drew)); exact (Kd.R_mono (Kd.R_far3 (g := gb410) (Kd.R_types HO399.out BK410.out (by decide)) (fun _ hk => hk.2)) (fun _ h_ => h_.1))) hb); have n12_ := Aside0.mk (Kd.R_below (by (with_reducible repeat (first | apply Kd.R_alloc | apply Kd.R_drewN | apply Kd.R_drew)); exact (Kd.R_mono (Kd.R_far3 (g := gb410) (Kd.R_types HO402.out BK410.out (by decide)) (fun _ hk => hk.2)) (fun _ h_ => h_.1))) hb); have n13_ := Aside0.mk (Kd.R_below (by (with_reducible repeat (first | apply Kd.R_alloc | apply Kd.R_drewN | apply Kd.R_drew)); exact (Kd.R_mono (Kd.R_far3 (g := gb410) (Kd.R_types HO405.out BK410.out (by decide)) (fun _ hk => hk.2)) (fun _ h_ => h_.1))) hb); have n14_ := Aside0.mk (Kd.R_below (by (with_reducible repeat (first | apply Kd.R_alloc | apply Kd.R_drewN | apply Kd.R_drew)); exact (Kd.R_mono (Kd.R_far3 (g := gb410) (Kd.R_types HO408.out BK410.out (by decide)) (fun _ hk => hk.2)) (fun _ h_ => h_.1))) hb); have n15_ := Aside0.mk (blk_below (g := gb327) (o := .cells #[.slice A0_0 l0_0.length c0_0, .slice A0_1 l0_1.length c0_1, .slice A0_2 l0_2.length c0_2] 45 (0, 0)) (by (with_reducible repeat (first | refine blk_drewN ?_ _ | refine blk_drew ?_ | refine blk_alloc ?_ _)); refine blk_far3 ?_ NB327_410.out; (with_reducible repeat (first | refine blk_drewN ?_ _ | refine blk_drew ?_ | refine blk_alloc ?_ _)); exact BK327.out) hb); have n16_ := Aside0.mk (blk_below (g := gb348) (o := .cells #[.slice Ao24 t338.length co24, .slice Ao27 t341.length co27, .slice Ao28 t344.length co28] 27 (0, 0)) (by (with_reducible repeat (first | refine blk_drewN ?_ _ | refine blk_drew ?_ | refine blk_alloc ?_ _)); refine blk_far3 ?_ NB348_410.out; (with_reducible repeat (first | refine blk_drewN ?_ _ | refine blk_drew ?_ | refine blk_alloc ?_ _)); exact BK348.out) hb); have n17_ := Aside0.mk (blk_below (g := gb358) (o := .cells #[.slice Ao32 t382.length co32, .slice Ao36 t383.length co36, .slice Ao37 t384.length co37] 27 (0, 0)) (by (with_reducible repeat (first | refine blk_drewN ?_ _ | refine blk_drew ?_ | refine blk_alloc ?_ _)); refine blk_far3 ?_ NB358_410.out; (with_reducible repeat (first | refine blk_drewN ?_ _ | refine blk_drew ?_ | refine blk_alloc ?_ _)); exact BK358.out) hb); have n18_ := Aside0.mk (blk_below (g := gb369) (o := .cells #[.slice Ao40 t359.length co40, .slice Ao45 t362.length co45, .slice Ao46 t365.length co46] 27 (0, 0)) (by (with_reducible repeat (first | refine blk_drewN ?_ _ | refine blk_drew ?_ | refine blk_alloc ?_ _)); refine blk_far3 ?_ NB369_410.out; (with_reducible repeat (first | refine blk_drewN ?_ _ | refine blk_drew ?_ | refine blk_alloc ?_ _)); exact BK369.out) hb); have n19_ := Aside0.mk (blk_below (g := gb410) (o := .cells #[.slice Ao132 t400.length co132, .slice Ao138 t403.length co138, .slice Ao139 t406.length co139] 27 (0, 0)) (by (with_reducible repeat (first | refine blk_drewN ?_ _ | refine blk_drew ?_ | refine blk_alloc ?_ _)); refine blk_put3 (cs := #[.slice none 0 0, .slice none 0 0, .slice none 0 0]) ?_ rfl; (with_reducible repeat (first | refine blk_drewN ?_ _ | refine blk_drew ?_ | refine blk_alloc ?_ _)); exact BK410.out) hb); have n20_ := Aside0.mk (below_step (by repeat (first | (with_reducible first | exact HB.out | apply below_alloc | apply pw_below_drewN | apply below_drew1 | refine below_set ?_ GE410.out) | exact HB.out)) hb); clear HO_349000; clear HO_349001; clear HO_349002; clear HO_359000; clear HO_359001; clear HO_359002; clear HO_370000; clear HO_370001; clear HO_370002; clear HO393; clear HO396; clear HO399; clear HO402; clear HO405; clear HO408; clear BK327; clear BK348; clear BK358; clear BK369; clear BK410; clear HB; have HO_349000 := n0_; have HO_349001 := n1_; have HO_349002 := n2_; have HO_359000 := n3_; have HO_359001 := n4_; have HO_359002 := n5_; have HO_370000 := n6_; have HO_370001 := n7_; have HO_370002 := n8_; have HO393 := n9_; have HO396 := n10_; have HO399 := n11_; have HO402 := n12_; have HO405 := n13_; have HO408 := n14_; have BK327 := n15_; have BK348 := n16_; have BK358 := n17_; have BK369 := n18_; have BK410 := n19_; have HB := n20_; clear n0_ n1_ n2_ n3_ n4_ n5_ n6_ n7_ n8_ n9_ n10_ n11_ n12_ n13_ n14_ n15_ n16_ n17_ n18_ n19_ n20_; (try clear hb); (try clear hb2); (try clear hk); (try clear hi)))
 go_meet
 case rel => exact ⟨_, ((t409 != t347)), s1_, H', ⟨by have := HJ12.out; have := HJ69.out; first | omega | exact Nat.le_refl _⟩, ⟨by (try simp only [hl359000_69]); (try simp only [hl359001_69]); (try simp only [hl359002_69]); (with_reducible repeat (first | apply Kd.R_alloc | apply Kd.R_drewN | apply Kd.R_drew)); exact Kd.R_mono HO_349000.out (fun _ hk => ⟨hk.1.1.1.1.1, ⟨hk.1.1.1.1.2.1, ⟨hk.1.1.1.1.2.2.1, ⟨hk.1.1.1.1.2.2.2.1, ⟨hk.1.1.1.1.2.2.2.2, ⟨hk.1.2, hk.2⟩⟩⟩⟩⟩⟩)⟩, ⟨by (try simp only [hl359000_69]); (try simp only [hl359001_69]); (try simp only [hl359002_69]); (with_reducible repeat (first | apply Kd.R_alloc | apply Kd.R_drewN | apply Kd.R_drew)); exact Kd.R_mono HO_349001.out (fun _ hk => ⟨hk.1.1.1.1.1, ⟨hk.1.1.1.1.2.1, ⟨hk.1.1.1.1.2.2.1, ⟨hk.1.1.1.1.2.2.2.1, ⟨hk.1.1.1.1.2.2.2.2, ⟨hk.1.2, hk.2⟩⟩⟩⟩⟩⟩)⟩, ⟨by (try simp only [hl359000_69]); (try simp only [hl359001_69]); (try simp only [hl359002_69]); (with_reducible repeat (first | apply Kd.R_alloc | apply Kd.R_drewN | apply Kd.R_drew)); exact Kd.R_mono HO_349002.out (fun _ hk => ⟨hk.1.1.1, ⟨hk.1.1.2, hk.2⟩⟩)⟩, ⟨by (try simp only [hl359000_69]); (try simp only [hl359001_69]); (try simp only [hl359002_69]); (with_reducible repeat (first | apply Kd.R_alloc | apply Kd.R_drewN | apply Kd.R_drew)); exact Kd.R_mono HO_359000.out (fun _ hk => ⟨hk.1.1.1.1.1, ⟨hk.1.1.1.1.2.1, ⟨hk.1.1.1.1.2.2.1, ⟨hk.1.1.1.1.2.2.2.1, ⟨hk.1.1.1.1.2.2.2.2, ⟨hk.1.2, hk.2⟩⟩⟩⟩⟩⟩)⟩, ⟨by (try simp only [hl359000_69]); (try simp only [hl359001_69]); (try simp only [hl359002_69]); (with_reducible repeat (first | apply Kd.R_alloc | apply Kd.R_drewN | apply Kd.R_drew)); exact Kd.R_mono HO_359001.out (fun _ hk => ⟨hk.1.1.1.1.1, ⟨hk.1.1.1.1.2.1, ⟨hk.1.1.1.1.2.2.1, ⟨hk.1.1.1.1.2.2.2.1, ⟨hk.1.1.1.1.2.2.2.2, ⟨hk.1.2, hk.2⟩⟩⟩⟩⟩⟩)⟩, ⟨by (try simp only [hl359000_69]); (try simp only [hl359001_69]); (try simp only [hl359002_69]); (with_reducible repeat (first | apply Kd.R_alloc | apply Kd.R_drewN | apply Kd.R_drew)); exact Kd.R_mono HO_359002.out (fun _ hk => ⟨hk.1.1.1, ⟨hk.1.1.2, hk.2⟩⟩)⟩, ⟨by (try simp only [hl359000_69]); (try simp only [hl359001_69]); (try simp only [hl359002_69]); (with_reducible repeat (first | apply Kd.R_alloc | apply Kd.R_drewN | apply Kd.R_drew)); exact Kd.R_mono HO_370000.out (fun _ hk => ⟨hk.1.1.1.1.1, ⟨hk.1.1.1.1.2.1, ⟨hk.1.1.1.1.2.2.1, ⟨hk.1.1.1.1.2.2.2.1, ⟨hk.1.1.1.1.2.2.2.2, ⟨hk.1.2, hk.2⟩⟩⟩⟩⟩⟩)⟩, ⟨by (try simp only [hl359000_69]); (try simp only [hl359001_69]); (try simp only [hl359002_69]); (with_reducible repeat (first | apply Kd.R_alloc | apply Kd.R_drewN | apply Kd.R_drew)); exact Kd.R_mono HO_370001.out (fun _ hk => ⟨hk.1.1.1.1.1, ⟨hk.1.1.1.1.2.1, ⟨hk.1.1.1.1.2.2.1, ⟨hk.1.1.1.1.2.2.2.1, ⟨hk.1.1.1.1.2.2.2.2, ⟨hk.1.2, hk.2⟩⟩⟩⟩⟩⟩)⟩, ⟨by (try simp only [hl359000_69]); (try simp only [hl359001_69]); (try simp only [hl359002_69]); (with_reducible repeat (first | apply Kd.R_alloc | apply Kd.R_drewN | apply Kd.R_drew)); exact Kd.R_mono HO_370002.out (fun _ hk => ⟨hk.1.1.1, ⟨hk.1.1.2, hk.2⟩⟩)⟩, ⟨by (try simp only [hl359000_69]); (try simp only [hl359001_69]); (try simp only [hl359002_69]); (with_reducible repeat (first | apply Kd.R_alloc | apply Kd.R_drewN | apply Kd.R_drew)); exact Kd.R_mono HO402.out (fun _ hk => ⟨hk.1.1.1.1.1.1.1.2, ⟨hk.1.1.1.1.1.1.2, ⟨hk.1.1.1.1.1.2, ⟨hk.1.1.1.1.2, ⟨hk.1.1.1.2, ⟨hk.1.1.2, hk.1.1.1.1.1.1.1.1⟩⟩⟩⟩⟩⟩)⟩, ⟨by (try simp only [hl359000_69]); (try simp only [hl359001_69]); (try simp only [hl359002_69]); (with_reducible repeat (first | apply Kd.R_alloc | apply Kd.R_drewN | apply Kd.R_drew)); exact Kd.R_mono HO405.out (fun _ hk => ⟨hk.1.1.1.1.1.1.1.2, ⟨hk.1.1.1.1.1.1.2, ⟨hk.1.1.1.1.1.2, ⟨hk.1.1.1.1.2, ⟨hk.1.1.1.2, ⟨hk.1.1.2, hk.1.1.1.1.1.1.1.1⟩⟩⟩⟩⟩⟩)⟩, ⟨by (try simp only [hl359000_69]); (try simp only [hl359001_69]); (try simp only [hl359002_69]); (with_reducible repeat (first | apply Kd.R_alloc | apply Kd.R_drewN | apply Kd.R_drew)); exact Kd.R_mono HO408.out (fun _ hk => ⟨hk.1.1.1.2, ⟨hk.1.1.2, hk.1.2⟩⟩)⟩, ⟨by (try simp only [hl359000_69]); (try simp only [hl359001_69]); (try simp only [hl359002_69]); (with_reducible repeat (first | refine blk_drewN ?_ _ | refine blk_drew ?_ | refine blk_alloc ?_ _)); exact BK327.out⟩, ⟨by (try simp only [hl359000_69]); (try simp only [hl359001_69]); (try simp only [hl359002_69]); (with_reducible repeat (first | refine blk_drewN ?_ _ | refine blk_drew ?_ | refine blk_alloc ?_ _)); exact BK348.out⟩, ⟨by (try simp only [hl359000_69]); (try simp only [hl359001_69]); (try simp only [hl359002_69]); (with_reducible repeat (first | refine blk_drewN ?_ _ | refine blk_drew ?_ | refine blk_alloc ?_ _)); exact BK358.out⟩, ⟨by (try simp only [hl359000_69]); (try simp only [hl359001_69]); (try simp only [hl359002_69]); (with_reducible repeat (first | refine blk_drewN ?_ _ | refine blk_drew ?_ | refine blk_alloc ?_ _)); exact BK369.out⟩, ⟨by (try simp only [hl359000_69]); (try simp only [hl359001_69]); (try simp only [hl359002_69]); (with_reducible repeat (first | refine blk_drewN ?_ _ | refine blk_drew ?_ | refine blk_alloc ?_ _)); exact BK410.out⟩, ⟨by repeat (first | (with_reducible first | exact HB.out | apply below_alloc | apply pw_below_drewN | apply below_drew1) | exact HB.out)⟩⟩}
 {
 replace c141 := Bool.eq_false_iff.mpr c141
 subst c141
 have H1 : (laws_FnExactReadUpTo.j2 kj69 t386 true t387 t388 t389) = some r := by rw [if_neg (show ¬ (false = true) by decide)] at H; exact H
 clear H
 have H := H1
 clear H1
 have H' := Aside0.mk H
 clear H
 have hnb152 := NB410_327.out
 have hnc152 := NB327_410.out
 have hnb153 := NB410_348.out
 have hnc153 := NB348_410.out
 have hnb154 := NB410_358.out
 have hnc154 := NB358_410.out
 have hnb155 := NB410_369.out
 have hnc155 := NB369_410.out
 have hcz156_0 : w131.cell? ⟨gb410, 0, none⟩ = some (.slice none 0 0) := (blk_cell BK410.out 0).trans rfl
 have hcz156_1 : w131.cell? ⟨gb410, 1, none⟩ = some (.slice none 0 0) := (blk_cell BK410.out 1).trans rfl
 have hcz156_2 : w131.cell? ⟨gb410, 2, none⟩ = some (.slice none 0 0) := (blk_cell BK410.out 2).trans rfl
 have hfz156_0 := blk_frozen BK410.out 0
 have hfz156_1 := blk_frozen BK410.out 1
 have hfz156_2 := blk_frozen BK410.out 2
 have hnb157 := NB348_327.out
 have hnc157 := NB327_348.out
 have hnb158 := NB348_358.out
 have hnc158 := NB358_348.out
 have hnb159 := NB348_369.out
 have hnc159 := NB369_348.out
 have hcz160_0 : w131.cell? ⟨gb348, 0, none⟩ = some (.slice Ao24 t338.length co24) := (blk_cell BK348.out 0).trans rfl
 have hcz160_1 : w131.cell? ⟨gb348, 1, none⟩ = some (.slice Ao27 t341.length co27) := (blk_cell BK348.out 1).trans rfl
 have hcz160_2 : w131.cell? ⟨gb348, 2, none⟩ = some (.slice Ao28 t344.length co28) := (blk_cell BK348.out 2).trans rfl
 have hfz160_0 := blk_frozen BK348.out 0
 have hfz160_1 := blk_frozen BK348.out 1
 have hfz160_2 := blk_frozen BK348.out 2
 go_wp2_with (first | ((with_reducible refine gate_callee (f := 27) rfl ?_); refine goesL_ (some 91) rfl rfl Try.func27 s2_ rfl #[.agg #[.slice Ao132 t400.length co132, .slice Ao138 t403.length co138, .slice Ao139 t406.length co139], .agg #[.slice Ao24 t338.length co24, .slice Ao27 t341.length co27, .slice Ao28 t344.length co28]] rfl s3_ ?_; (with_reducible refine (laws_eqPresence.calls kj69 _ _ t400 _ _ t403 _ _ t406 _ _ t338 _ _ t341 _ _ t344 false _ ?side1 ?side2 ?side3 ?side4 ?side5 ?side6 ?side7 ?side8 ?side9 ?side10 ?side11 ?side12 A140.out).mono ?_); (case side1 => refine (Kd.R_reads' (e := 63) (base := w.heap.size) (ok := fun k_ => ((((((((some k_ ≠ (.slice Ao138 t403.length co138 : Value).ownBlock ∧ some k_ ≠ (.slice Ao24 t338.length co24 : Value).ownBlock) ∧ some k_ ≠ (.slice Ao27 t341.length co27 : Value).ownBlock) ∧ some k_ ≠ (.slice Ao32 t382.length co32 : Value).ownBlock) ∧ some k_ ≠ (.slice Ao36 t383.length co36 : Value).ownBlock) ∧ some k_ ≠ (.slice Ao40 t359.length co40 : Value).ownBlock) ∧ some k_ ≠ (.slice Ao45 t362.length co45 : Value).ownBlock) ∧ some k_ ≠ (.slice Ao127 t391.length co127 : Value).ownBlock) ∧ some k_ ≠ (.slice Ao128 t394.length co128 : Value).ownBlock)) (n := t400.length) (c := co132) ?_).2.2; exact (by (with_reducible repeat (first | apply Kd.R_alloc | apply Kd.R_drewN | apply Kd.R_drew)); exact (Kd.R_mono (Kd.R_far3 (g := gb410) (Kd.R_types HO402.out BK410.out (by decide)) (fun _ hk => hk.2)) (fun _ h_ => h_.1)))); (case side2 => exact (Kd.R_reads' HO402.out).2.1); (case side3 => refine (Kd.R_reads' (e := 63) (base := w.heap.size) (ok := fun k_ => ((((((((some k_ ≠ (.slice Ao132 t400.length co132 : Value).ownBlock ∧ some k_ ≠ (.slice Ao24 t338.length co24 : Value).ownBlock) ∧ some k_ ≠ (.slice Ao27 t341.length co27 : Value).ownBlock) ∧ some k_ ≠ (.slice Ao32 t382.length co32 : Value).ownBlock) ∧ some k_ ≠ (.slice Ao36 t383.length co36 : Value).ownBlock) ∧ some k_ ≠ (.slice Ao40 t359.length co40 : Value).ownBlock) ∧ some k_ ≠ (.slice Ao45 t362.length co45 : Value).ownBlock) ∧ some k_ ≠ (.slice Ao127 t391.length co127 : Value).ownBlock) ∧ some k_ ≠ (.slice Ao128 t394.length co128 : Value).ownBlock)) (n := t403.length) (c := co138) ?_).2.2; exact (by (with_reducible repeat (first | apply Kd.R_alloc | apply Kd.R_drewN | apply Kd.R_drew)); exact (Kd.R_mono (Kd.R_far3 (g := gb410) (Kd.R_types HO405.out BK410.out (by decide)) (fun _ hk => hk.2)) (fun _ h_ => h_.1)))); (case side4 => exact (Kd.R_reads' HO405.out).2.1); (case side5 => refine (Kd.R_reads' (e := 73) (base := w.heap.size) (ok := fun k_ => ((((True ∧ some k_ ≠ (.slice Ao28 t344.length co28 : Value).ownBlock) ∧ some k_ ≠ (.slice Ao37 t384.length co37 : Value).ownBlock) ∧ some k_ ≠ (.slice Ao46 t365.length co46 : Value).ownBlock) ∧ some k_ ≠ (.slice Ao129 t397.length co129 : Value).ownBlock)) (n := t406.length) (c := co139) ?_).2.2; exact (by (with_reducible repeat (first | apply Kd.R_alloc | apply Kd.R_drewN | apply Kd.R_drew)); exact (Kd.R_mono (Kd.R_far3 (g := gb410) (Kd.R_types HO408.out BK410.out (by decide)) (fun _ hk => hk.2)) (fun _ h_ => h_.1)))); (case side6 => exact (Kd.R_reads' HO408.out).2.1); (case side7 => refine (Kd.R_reads' (e := 63) (base := w.heap.size) (ok := fun k_ => (((((some k_ ≠ (.slice Ao27 t341.length co27 : Value).ownBlock ∧ (some k_ ≠ (.slice Ao32 t382.length co32 : Value).ownBlock ∧ (some k_ ≠ (.slice Ao36 t383.length co36 : Value).ownBlock ∧ (some k_ ≠ (.slice Ao40 t359.length co40 : Value).ownBlock ∧ some k_ ≠ (.slice Ao45 t362.length co45 : Value).ownBlock)))) ∧ some k_ ≠ (.slice Ao127 t391.length co127 : Value).ownBlock) ∧ some k_ ≠ (.slice Ao128 t394.length co128 : Value).ownBlock) ∧ some k_ ≠ (.slice Ao132 t400.length co132 : Value).ownBlock) ∧ some k_ ≠ (.slice Ao138 t403.length co138 : Value).ownBlock)) (n := t338.length) (c := co24) ?_).2.2; exact (by (with_reducible repeat (first | apply Kd.R_alloc | apply Kd.R_drewN | apply Kd.R_drew)); exact (Kd.R_mono (Kd.R_far3 (g := gb410) (Kd.R_types HO_349000.out BK410.out (by decide)) (fun _ hk => hk.2)) (fun _ h_ => h_.1)))); (case side8 => exact (Kd.R_reads' HO_349000.out).2.1); (case side9 => refine (Kd.R_reads' (e := 63) (base := w.heap.size) (ok := fun k_ => (((((some k_ ≠ (.slice Ao24 t338.length co24 : Value).ownBlock ∧ (some k_ ≠ (.slice Ao32 t382.length co32 : Value).ownBlock ∧ (some k_ ≠ (.slice Ao36 t383.length co36 : Value).ownBlock ∧ (some k_ ≠ (.slice Ao40 t359.length co40 : Value).ownBlock ∧ some k_ ≠ (.slice Ao45 t362.length co45 : Value).ownBlock)))) ∧ some k_ ≠ (.slice Ao127 t391.length co127 : Value).ownBlock) ∧ some k_ ≠ (.slice Ao128 t394.length co128 : Value).ownBlock) ∧ some k_ ≠ (.slice Ao132 t400.length co132 : Value).ownBlock) ∧ some k_ ≠ (.slice Ao138 t403.length co138 : Value).ownBlock)) (n := t341.length) (c := co27) ?_).2.2; exact (by (with_reducible repeat (first | apply Kd.R_alloc | apply Kd.R_drewN | apply Kd.R_drew)); exact (Kd.R_mono (Kd.R_far3 (g := gb410) (Kd.R_types HO_349001.out BK410.out (by decide)) (fun _ hk => hk.2)) (fun _ h_ => h_.1)))); (case side10 => exact (Kd.R_reads' HO_349001.out).2.1); (case side11 => refine (Kd.R_reads' (e := 73) (base := w.heap.size) (ok := fun k_ => (((some k_ ≠ (.slice Ao37 t384.length co37 : Value).ownBlock ∧ some k_ ≠ (.slice Ao46 t365.length co46 : Value).ownBlock) ∧ some k_ ≠ (.slice Ao129 t397.length co129 : Value).ownBlock) ∧ some k_ ≠ (.slice Ao139 t406.length co139 : Value).ownBlock)) (n := t344.length) (c := co28) ?_).2.2; exact (by (with_reducible repeat (first | apply Kd.R_alloc | apply Kd.R_drewN | apply Kd.R_drew)); exact (Kd.R_mono (Kd.R_far3 (g := gb410) (Kd.R_types HO_349002.out BK410.out (by decide)) (fun _ hk => hk.2)) (fun _ h_ => h_.1)))); (case side12 => exact (Kd.R_reads' HO_349002.out).2.1); rintro e w161 ⟨rfl, hb⟩; refine ⟨_, rfl, ?_⟩; have n0_ := Aside0.mk (Kd.R_below (by (with_reducible repeat (first | apply Kd.R_alloc | apply Kd.R_drewN | apply Kd.R_drew)); exact (Kd.R_mono (Kd.R_far3 (g := gb410) (Kd.R_types HO_349000.out BK410.out (by decide)) (fun _ hk => hk.2)) (fun _ h_ => h_.1))) hb); have n1_ := Aside0.mk (Kd.R_below (by (with_reducible repeat (first | apply Kd.R_alloc | apply Kd.R_drewN | apply Kd.R_drew)); exact (Kd.R_mono (Kd.R_far3 (g := gb410) (Kd.R_types HO_349001.out BK410.out (by decide)) (fun _ hk => hk.2)) (fun _ h_ => h_.1))) hb); have n2_ := Aside0.mk (Kd.R_below (by (with_reducible repeat (first | apply Kd.R_alloc | apply Kd.R_drewN | apply Kd.R_drew)); exact (Kd.R_mono (Kd.R_far3 (g := gb410) (Kd.R_types HO_349002.out BK410.out (by decide)) (fun _ hk => hk.2)) (fun _ h_ => h_.1))) hb); have n3_ := Aside0.mk (Kd.R_below (by (with_reducible repeat (first | apply Kd.R_alloc | apply Kd.R_drewN | apply Kd.R_drew)); exact (Kd.R_mono (Kd.R_far3 (g := gb410) (Kd.R_types HO_359000.out BK410.out (by decide)) (fun _ hk => hk.2)) (fun _ h_ => h_.1))) hb); have n4_ := Aside0.mk (Kd.R_below (by (with_reducible repeat (first | apply Kd.R_alloc | apply Kd.R_drewN | apply Kd.R_drew)); exact (Kd.R_mono (Kd.R_far3 (g := gb410) (Kd.R_types HO_359001.out BK410.out (by decide)) (fun _ hk => hk.2)) (fun _ h_ => h_.1))) hb); have n5_ := Aside0.mk (Kd.R_below (by (with_reducible repeat (first | apply Kd.R_alloc | apply Kd.R_drewN | apply Kd.R_drew)); exact (Kd.R_mono (Kd.R_far3 (g := gb410) (Kd.R_types HO_359002.out BK410.out (by decide)) (fun _ hk => hk.2)) (fun _ h_ => h_.1))) hb); have n6_ := Aside0.mk (Kd.R_below (by (with_reducible repeat (first | apply Kd.R_alloc | apply Kd.R_drewN | apply Kd.R_drew)); exact (Kd.R_mono (Kd.R_far3 (g := gb410) (Kd.R_types HO_370000.out BK410.out (by decide)) (fun _ hk => hk.2)) (fun _ h_ => h_.1))) hb); have n7_ := Aside0.mk (Kd.R_below (by (with_reducible repeat (first | apply Kd.R_alloc | apply Kd.R_drewN | apply Kd.R_drew)); exact (Kd.R_mono (Kd.R_far3 (g := gb410) (Kd.R_types HO_370001.out BK410.out (by decide)) (fun _ hk => hk.2)) (fun _ h_ => h_.1))) hb); have n8_ := Aside0.mk (Kd.R_below (by (with_reducible repeat (first | apply Kd.R_alloc | apply Kd.R_drewN | apply Kd.R_drew)); exact (Kd.R_mono (Kd.R_far3 (g := gb410) (Kd.R_types HO_370002.out BK410.out (by decide)) (fun _ hk => hk.2)) (fun _ h_ => h_.1))) hb); have n9_ := Aside0.mk (Kd.R_below (by (with_reducible repeat (first | apply Kd.R_alloc | apply Kd.R_drewN | apply Kd.R_drew)); exact (Kd.R_mono (Kd.R_far3 (g := gb410) (Kd.R_types HO393.out BK410.out (by decide)) (fun _ hk => hk.2)) (fun _ h_ => h_.1))) hb); have n10_ := Aside0.mk (Kd.R_below (by (with_reducible repeat (first | apply Kd.R_alloc | apply Kd.R_drewN | apply Kd.R_drew)); exact (Kd.R_mono (Kd.R_far3 (g := gb410) (Kd.R_types HO396.out BK410.out (by decide)) (fun _ hk => hk.2)) (fun _ h_ => h_.1))) hb); have n11_ := Aside0.mk (Kd.R_below (by (with_reducible repeat (first | apply Kd.R_alloc | apply Kd.R_drewN | apply Kd.R_drew)); exact (Kd.R_mono (Kd.R_far3 (g := gb410) (Kd.R_types HO399.out BK410.out (by decide)) (fun _ hk => hk.2)) (fun _ h_ => h_.1))) hb); have n12_ := Aside0.mk (Kd.R_below (by (with_reducible repeat (first | apply Kd.R_alloc | apply Kd.R_drewN | apply Kd.R_drew)); exact (Kd.R_mono (Kd.R_far3 (g := gb410) (Kd.R_types HO402.out BK410.out (by decide)) (fun _ hk => hk.2)) (fun _ h_ => h_.1))) hb); have n13_ := Aside0.mk (Kd.R_below (by (with_reducible repeat (first | apply Kd.R_alloc | apply Kd.R_drewN | apply Kd.R_drew)); exact (Kd.R_mono (Kd.R_far3 (g := gb410) (Kd.R_types HO405.out BK410.out (by decide)) (fun _ hk => hk.2)) (fun _ h_ => h_.1))) hb); have n14_ := Aside0.mk (Kd.R_below (by (with_reducible repeat (first | apply Kd.R_alloc | apply Kd.R_drewN | apply Kd.R_drew)); exact (Kd.R_mono (Kd.R_far3 (g := gb410) (Kd.R_types HO408.out BK410.out (by decide)) (fun _ hk => hk.2)) (fun _ h_ => h_.1))) hb); have n15_ := Aside0.mk (blk_below (g := gb327) (o := .cells #[.slice A0_0 l0_0.length c0_0, .slice A0_1 l0_1.length c0_1, .slice A0_2 l0_2.length c0_2] 45 (0, 0)) (by (with_reducible repeat (first | refine blk_drewN ?_ _ | refine blk_drew ?_ | refine blk_alloc ?_ _)); refine blk_far3 ?_ NB327_410.out; (with_reducible repeat (first | refine blk_drewN ?_ _ | refine blk_drew ?_ | refine blk_alloc ?_ _)); exact BK327.out) hb); have n16_ := Aside0.mk (blk_below (g := gb348) (o := .cells #[.slice Ao24 t338.length co24, .slice Ao27 t341.length co27, .slice Ao28 t344.length co28] 27 (0, 0)) (by (with_reducible repeat (first | refine blk_drewN ?_ _ | refine blk_drew ?_ | refine blk_alloc ?_ _)); refine blk_far3 ?_ NB348_410.out; (with_reducible repeat (first | refine blk_drewN ?_ _ | refine blk_drew ?_ | refine blk_alloc ?_ _)); exact BK348.out) hb); have n17_ := Aside0.mk (blk_below (g := gb358) (o := .cells #[.slice Ao32 t382.length co32, .slice Ao36 t383.length co36, .slice Ao37 t384.length co37] 27 (0, 0)) (by (with_reducible repeat (first | refine blk_drewN ?_ _ | refine blk_drew ?_ | refine blk_alloc ?_ _)); refine blk_far3 ?_ NB358_410.out; (with_reducible repeat (first | refine blk_drewN ?_ _ | refine blk_drew ?_ | refine blk_alloc ?_ _)); exact BK358.out) hb); have n18_ := Aside0.mk (blk_below (g := gb369) (o := .cells #[.slice Ao40 t359.length co40, .slice Ao45 t362.length co45, .slice Ao46 t365.length co46] 27 (0, 0)) (by (with_reducible repeat (first | refine blk_drewN ?_ _ | refine blk_drew ?_ | refine blk_alloc ?_ _)); refine blk_far3 ?_ NB369_410.out; (with_reducible repeat (first | refine blk_drewN ?_ _ | refine blk_drew ?_ | refine blk_alloc ?_ _)); exact BK369.out) hb); have n19_ := Aside0.mk (blk_below (g := gb410) (o := .cells #[.slice Ao132 t400.length co132, .slice Ao138 t403.length co138, .slice Ao139 t406.length co139] 27 (0, 0)) (by (with_reducible repeat (first | refine blk_drewN ?_ _ | refine blk_drew ?_ | refine blk_alloc ?_ _)); refine blk_put3 (cs := #[.slice none 0 0, .slice none 0 0, .slice none 0 0]) ?_ rfl; (with_reducible repeat (first | refine blk_drewN ?_ _ | refine blk_drew ?_ | refine blk_alloc ?_ _)); exact BK410.out) hb); have n20_ := Aside0.mk (below_step (by repeat (first | (with_reducible first | exact HB.out | apply below_alloc | apply pw_below_drewN | apply below_drew1 | refine below_set ?_ GE410.out) | exact HB.out)) hb); clear HO_349000; clear HO_349001; clear HO_349002; clear HO_359000; clear HO_359001; clear HO_359002; clear HO_370000; clear HO_370001; clear HO_370002; clear HO393; clear HO396; clear HO399; clear HO402; clear HO405; clear HO408; clear BK327; clear BK348; clear BK358; clear BK369; clear BK410; clear HB; have HO_349000 := n0_; have HO_349001 := n1_; have HO_349002 := n2_; have HO_359000 := n3_; have HO_359001 := n4_; have HO_359002 := n5_; have HO_370000 := n6_; have HO_370001 := n7_; have HO_370002 := n8_; have HO393 := n9_; have HO396 := n10_; have HO399 := n11_; have HO402 := n12_; have HO405 := n13_; have HO408 := n14_; have BK327 := n15_; have BK348 := n16_; have BK358 := n17_; have BK369 := n18_; have BK410 := n19_; have HB := n20_; clear n0_ n1_ n2_ n3_ n4_ n5_ n6_ n7_ n8_ n9_ n10_ n11_ n12_ n13_ n14_ n15_ n16_ n17_ n18_ n19_ n20_; (try clear hb); (try clear hb2); (try clear hk); (try clear hi)))
 go_meet
 case rel => exact ⟨_, (true), s1_, H', ⟨by have := HJ12.out; have := HJ69.out; first | omega | exact Nat.le_refl _⟩, ⟨by (try simp only [hl359000_69]); (try simp only [hl359001_69]); (try simp only [hl359002_69]); (with_reducible repeat (first | apply Kd.R_alloc | apply Kd.R_drewN | apply Kd.R_drew)); exact Kd.R_mono HO_349000.out (fun _ hk => ⟨hk.1.1.1.1.1, ⟨hk.1.1.1.1.2.1, ⟨hk.1.1.1.1.2.2.1, ⟨hk.1.1.1.1.2.2.2.1, ⟨hk.1.1.1.1.2.2.2.2, ⟨hk.1.2, hk.2⟩⟩⟩⟩⟩⟩)⟩, ⟨by (try simp only [hl359000_69]); (try simp only [hl359001_69]); (try simp only [hl359002_69]); (with_reducible repeat (first | apply Kd.R_alloc | apply Kd.R_drewN | apply Kd.R_drew)); exact Kd.R_mono HO_349001.out (fun _ hk => ⟨hk.1.1.1.1.1, ⟨hk.1.1.1.1.2.1, ⟨hk.1.1.1.1.2.2.1, ⟨hk.1.1.1.1.2.2.2.1, ⟨hk.1.1.1.1.2.2.2.2, ⟨hk.1.2, hk.2⟩⟩⟩⟩⟩⟩)⟩, ⟨by (try simp only [hl359000_69]); (try simp only [hl359001_69]); (try simp only [hl359002_69]); (with_reducible repeat (first | apply Kd.R_alloc | apply Kd.R_drewN | apply Kd.R_drew)); exact Kd.R_mono HO_349002.out (fun _ hk => ⟨hk.1.1.1, ⟨hk.1.1.2, hk.2⟩⟩)⟩, ⟨by (try simp only [hl359000_69]); (try simp only [hl359001_69]); (try simp only [hl359002_69]); (with_reducible repeat (first | apply Kd.R_alloc | apply Kd.R_drewN | apply Kd.R_drew)); exact Kd.R_mono HO_359000.out (fun _ hk => ⟨hk.1.1.1.1.1, ⟨hk.1.1.1.1.2.1, ⟨hk.1.1.1.1.2.2.1, ⟨hk.1.1.1.1.2.2.2.1, ⟨hk.1.1.1.1.2.2.2.2, ⟨hk.1.2, hk.2⟩⟩⟩⟩⟩⟩)⟩, ⟨by (try simp only [hl359000_69]); (try simp only [hl359001_69]); (try simp only [hl359002_69]); (with_reducible repeat (first | apply Kd.R_alloc | apply Kd.R_drewN | apply Kd.R_drew)); exact Kd.R_mono HO_359001.out (fun _ hk => ⟨hk.1.1.1.1.1, ⟨hk.1.1.1.1.2.1, ⟨hk.1.1.1.1.2.2.1, ⟨hk.1.1.1.1.2.2.2.1, ⟨hk.1.1.1.1.2.2.2.2, ⟨hk.1.2, hk.2⟩⟩⟩⟩⟩⟩)⟩, ⟨by (try simp only [hl359000_69]); (try simp only [hl359001_69]); (try simp only [hl359002_69]); (with_reducible repeat (first | apply Kd.R_alloc | apply Kd.R_drewN | apply Kd.R_drew)); exact Kd.R_mono HO_359002.out (fun _ hk => ⟨hk.1.1.1, ⟨hk.1.1.2, hk.2⟩⟩)⟩, ⟨by (try simp only [hl359000_69]); (try simp only [hl359001_69]); (try simp only [hl359002_69]); (with_reducible repeat (first | apply Kd.R_alloc | apply Kd.R_drewN | apply Kd.R_drew)); exact Kd.R_mono HO_370000.out (fun _ hk => ⟨hk.1.1.1.1.1, ⟨hk.1.1.1.1.2.1, ⟨hk.1.1.1.1.2.2.1, ⟨hk.1.1.1.1.2.2.2.1, ⟨hk.1.1.1.1.2.2.2.2, ⟨hk.1.2, hk.2⟩⟩⟩⟩⟩⟩)⟩, ⟨by (try simp only [hl359000_69]); (try simp only [hl359001_69]); (try simp only [hl359002_69]); (with_reducible repeat (first | apply Kd.R_alloc | apply Kd.R_drewN | apply Kd.R_drew)); exact Kd.R_mono HO_370001.out (fun _ hk => ⟨hk.1.1.1.1.1, ⟨hk.1.1.1.1.2.1, ⟨hk.1.1.1.1.2.2.1, ⟨hk.1.1.1.1.2.2.2.1, ⟨hk.1.1.1.1.2.2.2.2, ⟨hk.1.2, hk.2⟩⟩⟩⟩⟩⟩)⟩, ⟨by (try simp only [hl359000_69]); (try simp only [hl359001_69]); (try simp only [hl359002_69]); (with_reducible repeat (first | apply Kd.R_alloc | apply Kd.R_drewN | apply Kd.R_drew)); exact Kd.R_mono HO_370002.out (fun _ hk => ⟨hk.1.1.1, ⟨hk.1.1.2, hk.2⟩⟩)⟩, ⟨by (try simp only [hl359000_69]); (try simp only [hl359001_69]); (try simp only [hl359002_69]); (with_reducible repeat (first | apply Kd.R_alloc | apply Kd.R_drewN | apply Kd.R_drew)); exact Kd.R_mono HO402.out (fun _ hk => ⟨hk.1.1.1.1.1.1.1.2, ⟨hk.1.1.1.1.1.1.2, ⟨hk.1.1.1.1.1.2, ⟨hk.1.1.1.1.2, ⟨hk.1.1.1.2, ⟨hk.1.1.2, hk.1.1.1.1.1.1.1.1⟩⟩⟩⟩⟩⟩)⟩, ⟨by (try simp only [hl359000_69]); (try simp only [hl359001_69]); (try simp only [hl359002_69]); (with_reducible repeat (first | apply Kd.R_alloc | apply Kd.R_drewN | apply Kd.R_drew)); exact Kd.R_mono HO405.out (fun _ hk => ⟨hk.1.1.1.1.1.1.1.2, ⟨hk.1.1.1.1.1.1.2, ⟨hk.1.1.1.1.1.2, ⟨hk.1.1.1.1.2, ⟨hk.1.1.1.2, ⟨hk.1.1.2, hk.1.1.1.1.1.1.1.1⟩⟩⟩⟩⟩⟩)⟩, ⟨by (try simp only [hl359000_69]); (try simp only [hl359001_69]); (try simp only [hl359002_69]); (with_reducible repeat (first | apply Kd.R_alloc | apply Kd.R_drewN | apply Kd.R_drew)); exact Kd.R_mono HO408.out (fun _ hk => ⟨hk.1.1.1.2, ⟨hk.1.1.2, hk.1.2⟩⟩)⟩, ⟨by (try simp only [hl359000_69]); (try simp only [hl359001_69]); (try simp only [hl359002_69]); (with_reducible repeat (first | refine blk_drewN ?_ _ | refine blk_drew ?_ | refine blk_alloc ?_ _)); exact BK327.out⟩, ⟨by (try simp only [hl359000_69]); (try simp only [hl359001_69]); (try simp only [hl359002_69]); (with_reducible repeat (first | refine blk_drewN ?_ _ | refine blk_drew ?_ | refine blk_alloc ?_ _)); exact BK348.out⟩, ⟨by (try simp only [hl359000_69]); (try simp only [hl359001_69]); (try simp only [hl359002_69]); (with_reducible repeat (first | refine blk_drewN ?_ _ | refine blk_drew ?_ | refine blk_alloc ?_ _)); exact BK358.out⟩, ⟨by (try simp only [hl359000_69]); (try simp only [hl359001_69]); (try simp only [hl359002_69]); (with_reducible repeat (first | refine blk_drewN ?_ _ | refine blk_drew ?_ | refine blk_alloc ?_ _)); exact BK369.out⟩, ⟨by (try simp only [hl359000_69]); (try simp only [hl359001_69]); (try simp only [hl359002_69]); (with_reducible repeat (first | refine blk_drewN ?_ _ | refine blk_drew ?_ | refine blk_alloc ?_ _)); exact BK410.out⟩, ⟨by repeat (first | (with_reducible first | exact HB.out | apply below_alloc | apply pw_below_drewN | apply below_drew1) | exact HB.out)⟩⟩}}
 case rest =>
  skip
  {
 clear HC115
 try clear c1
 try clear c2
 try clear p2
 try clear c3
 try clear c4
 try clear c5
 try clear c5b0
 try clear c6
 try clear c7
 try clear c8
 try clear c9
 try clear c10
 try clear c11
 try clear c12
 try clear c13
 try clear c14
 try clear c15
 try clear c24
 try clear c25
 try clear c26
 try clear c27
 try clear c28
 try clear c29
 try clear c33
 try clear c34
 try clear c41
 try clear c42
 try clear c43
 try clear c48
 try clear c49
 try clear c50
 try clear c51
 try clear c53
 try clear c54
 try clear c57
 try clear c58
 try clear c59
 try clear c61
 try clear c62
 try clear c65
 try clear c68
 try clear c77
 try clear c78
 try clear c79
 try clear c82
 try clear c82b0
 try clear c84
 try clear c85
 try clear c86
 try clear c87
 try clear c89
 try clear c90
 try clear c93
 try clear c94
 try clear c95
 try clear c97
 try clear c98
 try clear c101
 try clear c104
 try clear c104b0
 try clear c105
 try clear c106
 try clear c107
 try clear c112
 try clear c112b0
 try clear c112b1
 try clear c116
 try clear c117
 try clear c118
 try clear c123
 try clear c124
 try clear c133
 try clear c134
 try clear c135
 try clear c136
 try clear c141
 try clear c142
 try clear c143
 try clear c144
 try clear c145
 try clear c147
 try clear c148
 try clear c149
 try clear c152
 try clear c153
 try clear c154
 try clear c155
 try clear c157
 try clear c158
 try clear c159
 try clear hcz108_0
 try clear hcz108_1
 try clear hcz108_2
 try clear hcz110_0
 try clear hcz110_1
 try clear hcz110_2
 try clear hcz119_0
 try clear hcz119_1
 try clear hcz119_2
 try clear hcz121_0
 try clear hcz121_1
 try clear hcz121_2
 try clear hcz125_0
 try clear hcz125_1
 try clear hcz125_2
 try clear hcz137_0
 try clear hcz137_1
 try clear hcz137_2
 try clear hcz146_0
 try clear hcz146_1
 try clear hcz146_2
 try clear hcz150_0
 try clear hcz150_1
 try clear hcz150_2
 try clear hcz156_0
 try clear hcz156_1
 try clear hcz156_2
 try clear hcz15_0
 try clear hcz15_1
 try clear hcz15_2
 try clear hcz160_0
 try clear hcz160_1
 try clear hcz160_2
 try clear hcz17_0
 try clear hcz17_1
 try clear hcz17_2
 try clear hcz26_0
 try clear hcz26_1
 try clear hcz26_2
 try clear hcz29_0
 try clear hcz29_1
 try clear hcz29_2
 try clear hcz35_0
 try clear hcz35_1
 try clear hcz35_2
 try clear hcz44_0
 try clear hcz44_1
 try clear hcz44_2
 try clear hcz52_0
 try clear hcz52_1
 try clear hcz52_2
 try clear hcz55_0
 try clear hcz55_1
 try clear hcz55_2
 try clear hcz60_0
 try clear hcz60_1
 try clear hcz60_2
 try clear hcz63_0
 try clear hcz63_1
 try clear hcz63_2
 try clear hcz7_0
 try clear hcz7_1
 try clear hcz7_2
 try clear hcz80_0
 try clear hcz80_1
 try clear hcz80_2
 try clear hcz88_0
 try clear hcz88_1
 try clear hcz88_2
 try clear hcz91_0
 try clear hcz91_1
 try clear hcz91_2
 try clear hcz96_0
 try clear hcz96_1
 try clear hcz96_2
 try clear hcz99_0
 try clear hcz99_1
 try clear hcz99_2
 try clear hfz108_0
 try clear hfz108_1
 try clear hfz108_2
 try clear hfz110_0
 try clear hfz110_1
 try clear hfz110_2
 try clear hfz119_0
 try clear hfz119_1
 try clear hfz119_2
 try clear hfz121_0
 try clear hfz121_1
 try clear hfz121_2
 try clear hfz125_0
 try clear hfz125_1
 try clear hfz125_2
 try clear hfz137_0
 try clear hfz137_1
 try clear hfz137_2
 try clear hfz146_0
 try clear hfz146_1
 try clear hfz146_2
 try clear hfz150_0
 try clear hfz150_1
 try clear hfz150_2
 try clear hfz156_0
 try clear hfz156_1
 try clear hfz156_2
 try clear hfz15_0
 try clear hfz15_1
 try clear hfz15_2
 try clear hfz160_0
 try clear hfz160_1
 try clear hfz160_2
 try clear hfz17_0
 try clear hfz17_1
 try clear hfz17_2
 try clear hfz26_0
 try clear hfz26_1
 try clear hfz26_2
 try clear hfz29_0
 try clear hfz29_1
 try clear hfz29_2
 try clear hfz35_0
 try clear hfz35_1
 try clear hfz35_2
 try clear hfz44_0
 try clear hfz44_1
 try clear hfz44_2
 try clear hfz52_0
 try clear hfz52_1
 try clear hfz52_2
 try clear hfz55_0
 try clear hfz55_1
 try clear hfz55_2
 try clear hfz60_0
 try clear hfz60_1
 try clear hfz60_2
 try clear hfz63_0
 try clear hfz63_1
 try clear hfz63_2
 try clear hfz7_0
 try clear hfz7_1
 try clear hfz7_2
 try clear hfz80_0
 try clear hfz80_1
 try clear hfz80_2
 try clear hfz88_0
 try clear hfz88_1
 try clear hfz88_2
 try clear hfz91_0
 try clear hfz91_1
 try clear hfz91_2
 try clear hfz96_0
 try clear hfz96_1
 try clear hfz96_2
 try clear hfz99_0
 try clear hfz99_1
 try clear hfz99_2
 try clear p2
 obtain ⟨kq, x97_114, rfl, HA, HJ114, HO_349000, HO_349001, HO_349002, HO_359000, HO_359001, HO_359002, HO_370000, HO_370001, HO_370002, HO_411000, HO_411001, HO_411002, BK327, BK348, BK358, BK369, BK410, HB⟩ := hcut
 have hl370000_114 := (Kd.R_reads' HO_370000.out).1
 rw [hl370000_114] at HO_370000
 (try simp only [hl370000_114])
 (try simp only [hl370000_114] at BK327)
 (try simp only [hl370000_114] at BK348)
 (try simp only [hl370000_114] at BK358)
 (try simp only [hl370000_114] at BK369)
 (try simp only [hl370000_114] at BK410)
 (try simp only [hl370000_114] at HO_349000)
 (try simp only [hl370000_114] at HO_349001)
 (try simp only [hl370000_114] at HO_349002)
 (try simp only [hl370000_114] at HO_359000)
 (try simp only [hl370000_114] at HO_359001)
 (try simp only [hl370000_114] at HO_359002)
 (try simp only [hl370000_114] at HO_370001)
 (try simp only [hl370000_114] at HO_370002)
 (try simp only [hl370000_114] at HO_411000)
 (try simp only [hl370000_114] at HO_411001)
 (try simp only [hl370000_114] at HO_411002)
 have hl370001_114 := (Kd.R_reads' HO_370001.out).1
 rw [hl370001_114] at HO_370001
 (try simp only [hl370001_114])
 (try simp only [hl370001_114] at BK327)
 (try simp only [hl370001_114] at BK348)
 (try simp only [hl370001_114] at BK358)
 (try simp only [hl370001_114] at BK369)
 (try simp only [hl370001_114] at BK410)
 (try simp only [hl370001_114] at HO_349000)
 (try simp only [hl370001_114] at HO_349001)
 (try simp only [hl370001_114] at HO_349002)
 (try simp only [hl370001_114] at HO_359000)
 (try simp only [hl370001_114] at HO_359001)
 (try simp only [hl370001_114] at HO_359002)
 (try simp only [hl370001_114] at HO_370000)
 (try simp only [hl370001_114] at HO_370002)
 (try simp only [hl370001_114] at HO_411000)
 (try simp only [hl370001_114] at HO_411001)
 (try simp only [hl370001_114] at HO_411002)
 have hl370002_114 := (Kd.R_reads' HO_370002.out).1
 rw [hl370002_114] at HO_370002
 (try simp only [hl370002_114])
 (try simp only [hl370002_114] at BK327)
 (try simp only [hl370002_114] at BK348)
 (try simp only [hl370002_114] at BK358)
 (try simp only [hl370002_114] at BK369)
 (try simp only [hl370002_114] at BK410)
 (try simp only [hl370002_114] at HO_349000)
 (try simp only [hl370002_114] at HO_349001)
 (try simp only [hl370002_114] at HO_349002)
 (try simp only [hl370002_114] at HO_359000)
 (try simp only [hl370002_114] at HO_359001)
 (try simp only [hl370002_114] at HO_359002)
 (try simp only [hl370002_114] at HO_370000)
 (try simp only [hl370002_114] at HO_370001)
 (try simp only [hl370002_114] at HO_411000)
 (try simp only [hl370002_114] at HO_411001)
 (try simp only [hl370002_114] at HO_411002)
 cases kq with
 | zero => exact absurd HA.out (by simp [laws_FnExactReadUpTo.j2])
 | succ kj114 =>
  skip
  {
 have H := HA.out
 clear HA
 simp only [laws_FnExactReadUpTo.j2] at H
 by_cases c162 : x97_114 = true
 {
 subst c162
 have H1 : (some false) = some r := by rw [if_pos rfl] at H; exact H
 clear H
 have H := H1
 clear H1
 obtain rfl := Option.some.inj H
 go_wp2
 go_ret
 exact ⟨by first | rfl | (simp [errW_none, errW_some] <;> rfl) | (simp [*, errW_none, errW_some] <;> rfl), by repeat (first | (with_reducible first | exact HB.out | apply below_alloc | apply pw_below_drewN | apply below_drew1) | exact HB.out)⟩}
 {
 replace c162 := Bool.eq_false_iff.mpr c162
 subst c162
 have H1 : ((laws_heldPresence.f kj114 t387 t388 t389 1).bind fun t412 => (if t412 < 0 then (some false) else (if t412 = t386 then (some true) else (some false)))) = some r := by rw [if_neg (show ¬ (false = true) by decide)] at H; exact H
 clear H
 have H := H1
 clear H1
 replace H := Option.bind_eq_some_iff.mp H
 obtain ⟨t412, A1630, H⟩ := H
 replace H : (if t412 < 0 then (some false) else (if t412 = t386 then (some true) else (some false))) = some r := H
 have A163 := Aside0.mk A1630
 clear A1630
 by_cases c164 : t412 < 0
 {
 rw [if_pos c164] at H
 have c164b0 : decide (t412 < 0) = true := decide_eq_true c164
 clear c164
 obtain rfl := Option.some.inj H
 have hnb165 := NB369_327.out
 have hnc165 := NB327_369.out
 have hnb166 := NB369_348.out
 have hnc166 := NB348_369.out
 have hnb167 := NB369_358.out
 have hnc167 := NB358_369.out
 have hnb168 := NB369_410.out
 have hnc168 := NB410_369.out
 have hcz169_0 : wc.cell? ⟨gb369, 0, none⟩ = some (.slice Ao40 t387.length co40) := (blk_cell BK369.out 0).trans rfl
 have hcz169_1 : wc.cell? ⟨gb369, 1, none⟩ = some (.slice Ao45 t388.length co45) := (blk_cell BK369.out 1).trans rfl
 have hcz169_2 : wc.cell? ⟨gb369, 2, none⟩ = some (.slice Ao46 t389.length co46) := (blk_cell BK369.out 2).trans rfl
 have hfz169_0 := blk_frozen BK369.out 0
 have hfz169_1 := blk_frozen BK369.out 1
 have hfz169_2 := blk_frozen BK369.out 2
 go_wp2_with (first | ((with_reducible refine gate_callee (f := 29) rfl ?_); refine goesL_ (some 100) rfl rfl Try.func29 s2_ rfl #[.agg #[.slice Ao40 t387.length co40, .slice Ao45 t388.length co45, .slice Ao46 t389.length co46], .int .i64 1] rfl s3_ ?_; (with_reducible refine (laws_heldPresence.calls kj114 _ _ t387 _ _ t388 _ _ t389 1 t412 _ ?side1 ?side2 ?side3 ?side4 ?side5 ?side6 A163.out).mono ?_); (case side1 => exact y2_ (Kd.R_reads' HO_370000.out).2.2); (case side2 => exact (Kd.R_reads' HO_370000.out).2.1); (case side3 => exact y2_ (Kd.R_reads' HO_370001.out).2.2); (case side4 => exact (Kd.R_reads' HO_370001.out).2.1); (case side5 => exact y2_ (Kd.R_reads' HO_370002.out).2.2); (case side6 => exact (Kd.R_reads' HO_370002.out).2.1); rintro e w170 ⟨rfl, hb⟩; refine ⟨_, rfl, ?_⟩; have n0_ := r1_ HO_349000 hb; have n1_ := r1_ HO_349001 hb; have n2_ := r1_ HO_349002 hb; have n3_ := r1_ HO_359000 hb; have n4_ := r1_ HO_359001 hb; have n5_ := r1_ HO_359002 hb; have n6_ := r1_ HO_370000 hb; have n7_ := r1_ HO_370001 hb; have n8_ := r1_ HO_370002 hb; have n9_ := r1_ HO_411000 hb; have n10_ := r1_ HO_411001 hb; have n11_ := r1_ HO_411002 hb; have n12_ := b3_ BK327 hb; have n13_ := b3_ BK348 hb; have n14_ := b3_ BK358 hb; have n15_ := b3_ BK369 hb; have n16_ := b3_ BK410 hb; have n17_ := Aside0.mk (below_step (y1_ HB.out) hb); clear HO_349000; clear HO_349001; clear HO_349002; clear HO_359000; clear HO_359001; clear HO_359002; clear HO_370000; clear HO_370001; clear HO_370002; clear HO_411000; clear HO_411001; clear HO_411002; clear BK327; clear BK348; clear BK358; clear BK369; clear BK410; clear HB; have HO_349000 := n0_; have HO_349001 := n1_; have HO_349002 := n2_; have HO_359000 := n3_; have HO_359001 := n4_; have HO_359002 := n5_; have HO_370000 := n6_; have HO_370001 := n7_; have HO_370002 := n8_; have HO_411000 := n9_; have HO_411001 := n10_; have HO_411002 := n11_; have BK327 := n12_; have BK348 := n13_; have BK358 := n14_; have BK369 := n15_; have BK410 := n16_; have HB := n17_; clear n0_ n1_ n2_ n3_ n4_ n5_ n6_ n7_ n8_ n9_ n10_ n11_ n12_ n13_ n14_ n15_ n16_ n17_; (try clear hb); (try clear hb2); (try clear hk); (try clear hi)))
 go_ret
 exact ⟨by first | rfl | (simp [errW_none, errW_some] <;> rfl) | (simp [*, errW_none, errW_some] <;> rfl), by repeat (first | (with_reducible first | exact HB.out | apply below_alloc | apply pw_below_drewN | apply below_drew1) | exact HB.out)⟩}
 {
 rw [if_neg c164] at H
 have c164b0 : decide (t412 < 0) = false := decide_eq_false c164
 clear c164
 by_cases c171 : t412 = t386
 {
 rw [if_pos c171] at H
 have c171b0 : (t412 == t386) = true := beq_iff_eq.mpr c171
 have c171b1 : (t412 != t386) = false := bne_eq_false_iff_eq.mpr c171
 clear c171
 obtain rfl := Option.some.inj H
 have hnb172 := NB369_327.out
 have hnc172 := NB327_369.out
 have hnb173 := NB369_348.out
 have hnc173 := NB348_369.out
 have hnb174 := NB369_358.out
 have hnc174 := NB358_369.out
 have hnb175 := NB369_410.out
 have hnc175 := NB410_369.out
 have hcz176_0 : wc.cell? ⟨gb369, 0, none⟩ = some (.slice Ao40 t387.length co40) := (blk_cell BK369.out 0).trans rfl
 have hcz176_1 : wc.cell? ⟨gb369, 1, none⟩ = some (.slice Ao45 t388.length co45) := (blk_cell BK369.out 1).trans rfl
 have hcz176_2 : wc.cell? ⟨gb369, 2, none⟩ = some (.slice Ao46 t389.length co46) := (blk_cell BK369.out 2).trans rfl
 have hfz176_0 := blk_frozen BK369.out 0
 have hfz176_1 := blk_frozen BK369.out 1
 have hfz176_2 := blk_frozen BK369.out 2
 go_wp2_with (first | ((with_reducible refine gate_callee (f := 29) rfl ?_); refine goesL_ (some 100) rfl rfl Try.func29 s2_ rfl #[.agg #[.slice Ao40 t387.length co40, .slice Ao45 t388.length co45, .slice Ao46 t389.length co46], .int .i64 1] rfl s3_ ?_; (with_reducible refine (laws_heldPresence.calls kj114 _ _ t387 _ _ t388 _ _ t389 1 t412 _ ?side1 ?side2 ?side3 ?side4 ?side5 ?side6 A163.out).mono ?_); (case side1 => exact y2_ (Kd.R_reads' HO_370000.out).2.2); (case side2 => exact (Kd.R_reads' HO_370000.out).2.1); (case side3 => exact y2_ (Kd.R_reads' HO_370001.out).2.2); (case side4 => exact (Kd.R_reads' HO_370001.out).2.1); (case side5 => exact y2_ (Kd.R_reads' HO_370002.out).2.2); (case side6 => exact (Kd.R_reads' HO_370002.out).2.1); rintro e w177 ⟨rfl, hb⟩; refine ⟨_, rfl, ?_⟩; have n0_ := r1_ HO_349000 hb; have n1_ := r1_ HO_349001 hb; have n2_ := r1_ HO_349002 hb; have n3_ := r1_ HO_359000 hb; have n4_ := r1_ HO_359001 hb; have n5_ := r1_ HO_359002 hb; have n6_ := r1_ HO_370000 hb; have n7_ := r1_ HO_370001 hb; have n8_ := r1_ HO_370002 hb; have n9_ := r1_ HO_411000 hb; have n10_ := r1_ HO_411001 hb; have n11_ := r1_ HO_411002 hb; have n12_ := b3_ BK327 hb; have n13_ := b3_ BK348 hb; have n14_ := b3_ BK358 hb; have n15_ := b3_ BK369 hb; have n16_ := b3_ BK410 hb; have n17_ := Aside0.mk (below_step (y1_ HB.out) hb); clear HO_349000; clear HO_349001; clear HO_349002; clear HO_359000; clear HO_359001; clear HO_359002; clear HO_370000; clear HO_370001; clear HO_370002; clear HO_411000; clear HO_411001; clear HO_411002; clear BK327; clear BK348; clear BK358; clear BK369; clear BK410; clear HB; have HO_349000 := n0_; have HO_349001 := n1_; have HO_349002 := n2_; have HO_359000 := n3_; have HO_359001 := n4_; have HO_359002 := n5_; have HO_370000 := n6_; have HO_370001 := n7_; have HO_370002 := n8_; have HO_411000 := n9_; have HO_411001 := n10_; have HO_411002 := n11_; have BK327 := n12_; have BK348 := n13_; have BK358 := n14_; have BK369 := n15_; have BK410 := n16_; have HB := n17_; clear n0_ n1_ n2_ n3_ n4_ n5_ n6_ n7_ n8_ n9_ n10_ n11_ n12_ n13_ n14_ n15_ n16_ n17_; (try clear hb); (try clear hb2); (try clear hk); (try clear hi)))
 go_ret
 exact ⟨by first | rfl | (simp [errW_none, errW_some] <;> rfl) | (simp [*, errW_none, errW_some] <;> rfl), by repeat (first | (with_reducible first | exact HB.out | apply below_alloc | apply pw_below_drewN | apply below_drew1) | exact HB.out)⟩}
 {
 rw [if_neg c171] at H
 have c171b0 : (t412 == t386) = false := beq_eq_false_iff_ne.mpr c171
 have c171b1 : (t412 != t386) = true := bne_iff_ne.mpr c171
 obtain rfl := Option.some.inj H
 have hnb178 := NB369_327.out
 have hnc178 := NB327_369.out
 have hnb179 := NB369_348.out
 have hnc179 := NB348_369.out
 have hnb180 := NB369_358.out
 have hnc180 := NB358_369.out
 have hnb181 := NB369_410.out
 have hnc181 := NB410_369.out
 have hcz182_0 : wc.cell? ⟨gb369, 0, none⟩ = some (.slice Ao40 t387.length co40) := (blk_cell BK369.out 0).trans rfl
 have hcz182_1 : wc.cell? ⟨gb369, 1, none⟩ = some (.slice Ao45 t388.length co45) := (blk_cell BK369.out 1).trans rfl
 have hcz182_2 : wc.cell? ⟨gb369, 2, none⟩ = some (.slice Ao46 t389.length co46) := (blk_cell BK369.out 2).trans rfl
 have hfz182_0 := blk_frozen BK369.out 0
 have hfz182_1 := blk_frozen BK369.out 1
 have hfz182_2 := blk_frozen BK369.out 2
 go_wp2_with (first | ((with_reducible refine gate_callee (f := 29) rfl ?_); refine goesL_ (some 100) rfl rfl Try.func29 s2_ rfl #[.agg #[.slice Ao40 t387.length co40, .slice Ao45 t388.length co45, .slice Ao46 t389.length co46], .int .i64 1] rfl s3_ ?_; (with_reducible refine (laws_heldPresence.calls kj114 _ _ t387 _ _ t388 _ _ t389 1 t412 _ ?side1 ?side2 ?side3 ?side4 ?side5 ?side6 A163.out).mono ?_); (case side1 => exact y2_ (Kd.R_reads' HO_370000.out).2.2); (case side2 => exact (Kd.R_reads' HO_370000.out).2.1); (case side3 => exact y2_ (Kd.R_reads' HO_370001.out).2.2); (case side4 => exact (Kd.R_reads' HO_370001.out).2.1); (case side5 => exact y2_ (Kd.R_reads' HO_370002.out).2.2); (case side6 => exact (Kd.R_reads' HO_370002.out).2.1); rintro e w183 ⟨rfl, hb⟩; refine ⟨_, rfl, ?_⟩; have n0_ := r1_ HO_349000 hb; have n1_ := r1_ HO_349001 hb; have n2_ := r1_ HO_349002 hb; have n3_ := r1_ HO_359000 hb; have n4_ := r1_ HO_359001 hb; have n5_ := r1_ HO_359002 hb; have n6_ := r1_ HO_370000 hb; have n7_ := r1_ HO_370001 hb; have n8_ := r1_ HO_370002 hb; have n9_ := r1_ HO_411000 hb; have n10_ := r1_ HO_411001 hb; have n11_ := r1_ HO_411002 hb; have n12_ := b3_ BK327 hb; have n13_ := b3_ BK348 hb; have n14_ := b3_ BK358 hb; have n15_ := b3_ BK369 hb; have n16_ := b3_ BK410 hb; have n17_ := Aside0.mk (below_step (y1_ HB.out) hb); clear HO_349000; clear HO_349001; clear HO_349002; clear HO_359000; clear HO_359001; clear HO_359002; clear HO_370000; clear HO_370001; clear HO_370002; clear HO_411000; clear HO_411001; clear HO_411002; clear BK327; clear BK348; clear BK358; clear BK369; clear BK410; clear HB; have HO_349000 := n0_; have HO_349001 := n1_; have HO_349002 := n2_; have HO_359000 := n3_; have HO_359001 := n4_; have HO_359002 := n5_; have HO_370000 := n6_; have HO_370001 := n7_; have HO_370002 := n8_; have HO_411000 := n9_; have HO_411001 := n10_; have HO_411002 := n11_; have BK327 := n12_; have BK348 := n13_; have BK358 := n14_; have BK369 := n15_; have BK410 := n16_; have HB := n17_; clear n0_ n1_ n2_ n3_ n4_ n5_ n6_ n7_ n8_ n9_ n10_ n11_ n12_ n13_ n14_ n15_ n16_ n17_; (try clear hb); (try clear hb2); (try clear hk); (try clear hi)))
 go_ret
 exact ⟨by first | rfl | (simp [errW_none, errW_some] <;> rfl) | (simp [*, errW_none, errW_some] <;> rfl), by repeat (first | (with_reducible first | exact HB.out | apply below_alloc | apply pw_below_drewN | apply below_drew1) | exact HB.out)⟩}}}}}}
 {
 rw [if_neg c112] at H
 have c112b0 : (t390 == t386) = false := beq_eq_false_iff_ne.mpr c112
 have c112b1 : (t390 != t386) = true := bne_iff_ne.mpr c112
 obtain rfl := Option.some.inj H
 have hnb184 := NB369_327.out
 have hnc184 := NB327_369.out
 have hnb185 := NB369_348.out
 have hnc185 := NB348_369.out
 have hnb186 := NB369_358.out
 have hnc186 := NB358_369.out
 have hcz187_0 : wc.cell? ⟨gb369, 0, none⟩ = some (.slice Ao40 t359.length co40) := (blk_cell BK369.out 0).trans rfl
 have hcz187_1 : wc.cell? ⟨gb369, 1, none⟩ = some (.slice Ao45 t362.length co45) := (blk_cell BK369.out 1).trans rfl
 have hcz187_2 : wc.cell? ⟨gb369, 2, none⟩ = some (.slice Ao46 t365.length co46) := (blk_cell BK369.out 2).trans rfl
 have hfz187_0 := blk_frozen BK369.out 0
 have hfz187_1 := blk_frozen BK369.out 1
 have hfz187_2 := blk_frozen BK369.out 2
 go_wp2_with (first | ((with_reducible refine gate_callee (f := 28) rfl ?_); refine goesL_ (some 72) rfl rfl Try.func28 s2_ rfl #[.agg #[.slice Ao40 t359.length co40, .slice Ao45 t362.length co45, .slice Ao46 t365.length co46], .int .i64 1] rfl s3_ ?_; (with_reducible refine (laws_markPresence.calls kj69 (fun k_ => some k_ = (.slice Ao40 t359.length co40 : Value).ownBlock) (.slice Ao40 t359.length co40) t359 (fun k_ => some k_ = (.slice Ao45 t362.length co45 : Value).ownBlock) (.slice Ao45 t362.length co45) t362 (fun k_ => some k_ = (.slice Ao46 t365.length co46 : Value).ownBlock) (.slice Ao46 t365.length co46) t365 1 t386 t387 t388 t389 w _ ?side1 ?side2 ?side3 ?side4 ?side5 ?side6 A102.out).mono ?_); (case side1 => repeat (first | (with_reducible first | exact HB.out | apply below_alloc | apply pw_below_drewN | apply below_drew1) | exact HB.out)); (case side2 => exact Kd.R_tight rfl HO_370000.out); (case side3 => exact fun k_ e_ => (HO_370000.out.1 k_ e_.symm).2.2.2.2); (case side4 => exact Kd.R_tight rfl HO_370001.out); (case side5 => exact fun k_ e_ => (HO_370001.out.1 k_ e_.symm).2.2.2.2); (case side6 => exact Kd.R_tight rfl HO_370002.out); rintro e w188 ⟨rfl, hy0, hy1, hy2, hb, hkp⟩; refine ⟨_, rfl, ?_⟩; have n0_ := Aside0.mk (Kd.R_mono (ok' := fun k_ => some k_ ≠ (.slice Ao27 t341.length co27 : Value).ownBlock ∧ some k_ ≠ (.slice Ao32 t382.length co32 : Value).ownBlock ∧ some k_ ≠ (.slice Ao36 t383.length co36 : Value).ownBlock ∧ some k_ ≠ (.slice Ao40 t359.length co40 : Value).ownBlock ∧ some k_ ≠ (.slice Ao45 t362.length co45 : Value).ownBlock) (Kd.R_keptB ((Kd.R_apart' HO_349000.out (Kd.R_typed HO_370002.out) (by decide))) hkp (fun k_ hk_ hs_ => Or.elim hs_ (fun e_ => (hk_.1.2.2.2.1) e_) (fun e_ => Or.elim e_ (fun e_ => (hk_.1.2.2.2.2) e_) (fun e_ => (hk_.2) e_)))) (fun k_ hk_ => ⟨hk_.1.1.1, hk_.1.1.2.1, hk_.1.1.2.2.1, hk_.1.1.2.2.2.1, hk_.1.1.2.2.2.2⟩)); have n1_ := Aside0.mk (Kd.R_mono (ok' := fun k_ => some k_ ≠ (.slice Ao24 t338.length co24 : Value).ownBlock ∧ some k_ ≠ (.slice Ao32 t382.length co32 : Value).ownBlock ∧ some k_ ≠ (.slice Ao36 t383.length co36 : Value).ownBlock ∧ some k_ ≠ (.slice Ao40 t359.length co40 : Value).ownBlock ∧ some k_ ≠ (.slice Ao45 t362.length co45 : Value).ownBlock) (Kd.R_keptB ((Kd.R_apart' HO_349001.out (Kd.R_typed HO_370002.out) (by decide))) hkp (fun k_ hk_ hs_ => Or.elim hs_ (fun e_ => (hk_.1.2.2.2.1) e_) (fun e_ => Or.elim e_ (fun e_ => (hk_.1.2.2.2.2) e_) (fun e_ => (hk_.2) e_)))) (fun k_ hk_ => ⟨hk_.1.1.1, hk_.1.1.2.1, hk_.1.1.2.2.1, hk_.1.1.2.2.2.1, hk_.1.1.2.2.2.2⟩)); have n2_ := Aside0.mk (Kd.R_mono (ok' := fun k_ => some k_ ≠ (.slice Ao37 t384.length co37 : Value).ownBlock ∧ some k_ ≠ (.slice Ao46 t365.length co46 : Value).ownBlock) (Kd.R_keptB ((Kd.R_apart' (Kd.R_apart' HO_349002.out (Kd.R_typed HO_370000.out) (by decide)) (Kd.R_typed HO_370001.out) (by decide))) hkp (fun k_ hk_ hs_ => Or.elim hs_ (fun e_ => (hk_.1.2) e_) (fun e_ => Or.elim e_ (fun e_ => (hk_.2) e_) (fun e_ => (hk_.1.1.2) e_)))) (fun k_ hk_ => ⟨hk_.1.1.1.1, hk_.1.1.1.2⟩)); have n3_ := Aside0.mk (Kd.R_mono (ok' := fun k_ => some k_ ≠ (.slice Ao24 t338.length co24 : Value).ownBlock ∧ some k_ ≠ (.slice Ao27 t341.length co27 : Value).ownBlock ∧ some k_ ≠ (.slice Ao36 t383.length co36 : Value).ownBlock ∧ some k_ ≠ (.slice Ao40 t359.length co40 : Value).ownBlock ∧ some k_ ≠ (.slice Ao45 t362.length co45 : Value).ownBlock) (Kd.R_keptB ((Kd.R_apart' HO_359000.out (Kd.R_typed HO_370002.out) (by decide))) hkp (fun k_ hk_ hs_ => Or.elim hs_ (fun e_ => (hk_.1.2.2.2.1) e_) (fun e_ => Or.elim e_ (fun e_ => (hk_.1.2.2.2.2) e_) (fun e_ => (hk_.2) e_)))) (fun k_ hk_ => ⟨hk_.1.1.1, hk_.1.1.2.1, hk_.1.1.2.2.1, hk_.1.1.2.2.2.1, hk_.1.1.2.2.2.2⟩)); have n4_ := Aside0.mk (Kd.R_mono (ok' := fun k_ => some k_ ≠ (.slice Ao24 t338.length co24 : Value).ownBlock ∧ some k_ ≠ (.slice Ao27 t341.length co27 : Value).ownBlock ∧ some k_ ≠ (.slice Ao32 t382.length co32 : Value).ownBlock ∧ some k_ ≠ (.slice Ao40 t359.length co40 : Value).ownBlock ∧ some k_ ≠ (.slice Ao45 t362.length co45 : Value).ownBlock) (Kd.R_keptB ((Kd.R_apart' HO_359001.out (Kd.R_typed HO_370002.out) (by decide))) hkp (fun k_ hk_ hs_ => Or.elim hs_ (fun e_ => (hk_.1.2.2.2.1) e_) (fun e_ => Or.elim e_ (fun e_ => (hk_.1.2.2.2.2) e_) (fun e_ => (hk_.2) e_)))) (fun k_ hk_ => ⟨hk_.1.1.1, hk_.1.1.2.1, hk_.1.1.2.2.1, hk_.1.1.2.2.2.1, hk_.1.1.2.2.2.2⟩)); have n5_ := Aside0.mk (Kd.R_mono (ok' := fun k_ => some k_ ≠ (.slice Ao28 t344.length co28 : Value).ownBlock ∧ some k_ ≠ (.slice Ao46 t365.length co46 : Value).ownBlock) (Kd.R_keptB ((Kd.R_apart' (Kd.R_apart' HO_359002.out (Kd.R_typed HO_370000.out) (by decide)) (Kd.R_typed HO_370001.out) (by decide))) hkp (fun k_ hk_ hs_ => Or.elim hs_ (fun e_ => (hk_.1.2) e_) (fun e_ => Or.elim e_ (fun e_ => (hk_.2) e_) (fun e_ => (hk_.1.1.2) e_)))) (fun k_ hk_ => ⟨hk_.1.1.1.1, hk_.1.1.1.2⟩)); have n6_ := Aside0.mk (Kd.R_reok rfl hy0 (fun k_ e_ => HO_370000.out.1 k_ e_)); have n7_ := Aside0.mk (Kd.R_reok rfl hy1 (fun k_ e_ => HO_370001.out.1 k_ e_)); have n8_ := Aside0.mk (Kd.R_reok rfl hy2 (fun k_ e_ => HO_370002.out.1 k_ e_)); have n9_ := Aside0.mk (blk_kept (b1_ BK327.out) hkp (fun hs_ => Or.elim hs_ (fun e_ => (fun e_ => (Kd.R_ne HO_370000.out BK327.out (by decide)) e_) e_) (fun e_ => Or.elim e_ (fun e_ => (fun e_ => (Kd.R_ne HO_370001.out BK327.out (by decide)) e_) e_) (fun e_ => (fun e_ => (Kd.R_ne HO_370002.out BK327.out (by decide)) e_) e_)))); have n10_ := Aside0.mk (blk_kept (b1_ BK348.out) hkp (fun hs_ => Or.elim hs_ (fun e_ => (fun e_ => (Kd.R_ne HO_370000.out BK348.out (by decide)) e_) e_) (fun e_ => Or.elim e_ (fun e_ => (fun e_ => (Kd.R_ne HO_370001.out BK348.out (by decide)) e_) e_) (fun e_ => (fun e_ => (Kd.R_ne HO_370002.out BK348.out (by decide)) e_) e_)))); have n11_ := Aside0.mk (blk_kept (b1_ BK358.out) hkp (fun hs_ => Or.elim hs_ (fun e_ => (fun e_ => (Kd.R_ne HO_370000.out BK358.out (by decide)) e_) e_) (fun e_ => Or.elim e_ (fun e_ => (fun e_ => (Kd.R_ne HO_370001.out BK358.out (by decide)) e_) e_) (fun e_ => (fun e_ => (Kd.R_ne HO_370002.out BK358.out (by decide)) e_) e_)))); have n12_ := Aside0.mk (blk_kept (b1_ BK369.out) hkp (fun hs_ => Or.elim hs_ (fun e_ => (fun e_ => (Kd.R_ne HO_370000.out BK369.out (by decide)) e_) e_) (fun e_ => Or.elim e_ (fun e_ => (fun e_ => (Kd.R_ne HO_370001.out BK369.out (by decide)) e_) e_) (fun e_ => (fun e_ => (Kd.R_ne HO_370002.out BK369.out (by decide)) e_) e_)))); have n13_ := Aside0.mk (hb); clear HO_349000; clear HO_349001; clear HO_349002; clear HO_359000; clear HO_359001; clear HO_359002; clear HO_370000; clear HO_370001; clear HO_370002; clear BK327; clear BK348; clear BK358; clear BK369; clear HB; have HO_349000 := n0_; have HO_349001 := n1_; have HO_349002 := n2_; have HO_359000 := n3_; have HO_359001 := n4_; have HO_359002 := n5_; have HO_370000 := n6_; have HO_370001 := n7_; have HO_370002 := n8_; have BK327 := n9_; have BK348 := n10_; have BK358 := n11_; have BK369 := n12_; have HB := n13_; clear n0_ n1_ n2_ n3_ n4_ n5_ n6_ n7_ n8_ n9_ n10_ n11_ n12_ n13_; (try clear hb); (try clear hkp); (try clear hy0); (try clear hy1); (try clear hy2); have hcz189_0 : w188.cell? ⟨gb369, 0, none⟩ = some (.slice Ao40 t359.length co40) := (blk_cell BK369.out 0).trans rfl; have hcz189_1 : w188.cell? ⟨gb369, 1, none⟩ = some (.slice Ao45 t362.length co45) := (blk_cell BK369.out 1).trans rfl; have hcz189_2 : w188.cell? ⟨gb369, 2, none⟩ = some (.slice Ao46 t365.length co46) := (blk_cell BK369.out 2).trans rfl; have hfz189_0 := blk_frozen BK369.out 0; have hfz189_1 := blk_frozen BK369.out 1; have hfz189_2 := blk_frozen BK369.out 2) | ((with_reducible refine gate_callee (f := 29) rfl ?_); refine goesL_ (some 75) rfl rfl Try.func29 s2_ rfl #[.agg #[.slice Ao40 t387.length co40, .slice Ao45 t388.length co45, .slice Ao46 t389.length co46], .int .i64 1] rfl (by (try simp only [List.map_toArray, List.map_cons, List.map_nil]); first | done | (rw [show t387.length = t359.length from (Kd.R_reads' HO_370000.out).1.symm, show t388.length = t362.length from (Kd.R_reads' HO_370001.out).1.symm, show t389.length = t365.length from (Kd.R_reads' HO_370002.out).1.symm] <;> rfl) | rfl | (simp only [List.length_drop, List.length_take]; rfl)) ?_; (with_reducible refine (laws_heldPresence.calls kj69 _ _ t387 _ _ t388 _ _ t389 1 t390 _ ?side1 ?side2 ?side3 ?side4 ?side5 ?side6 A103.out).mono ?_); (case side1 => exact y2_ (Kd.R_reads' HO_370000.out).2.2); (case side2 => rw [show t387.length = t359.length from (Kd.R_reads' HO_370000.out).1.symm]; exact (Kd.R_reads' HO_370000.out).2.1); (case side3 => exact y2_ (Kd.R_reads' HO_370001.out).2.2); (case side4 => rw [show t388.length = t362.length from (Kd.R_reads' HO_370001.out).1.symm]; exact (Kd.R_reads' HO_370001.out).2.1); (case side5 => exact y2_ (Kd.R_reads' HO_370002.out).2.2); (case side6 => rw [show t389.length = t365.length from (Kd.R_reads' HO_370002.out).1.symm]; exact (Kd.R_reads' HO_370002.out).2.1); rintro e w190 ⟨rfl, hb⟩; refine ⟨_, rfl, ?_⟩; have n0_ := r1_ HO_349000 hb; have n1_ := r1_ HO_349001 hb; have n2_ := r1_ HO_349002 hb; have n3_ := r1_ HO_359000 hb; have n4_ := r1_ HO_359001 hb; have n5_ := r1_ HO_359002 hb; have n6_ := r1_ HO_370000 hb; have n7_ := r1_ HO_370001 hb; have n8_ := r1_ HO_370002 hb; have n9_ := b3_ BK327 hb; have n10_ := b3_ BK348 hb; have n11_ := b3_ BK358 hb; have n12_ := b3_ BK369 hb; have n13_ := Aside0.mk (below_step (y1_ HB.out) hb); clear HO_349000; clear HO_349001; clear HO_349002; clear HO_359000; clear HO_359001; clear HO_359002; clear HO_370000; clear HO_370001; clear HO_370002; clear BK327; clear BK348; clear BK358; clear BK369; clear HB; have HO_349000 := n0_; have HO_349001 := n1_; have HO_349002 := n2_; have HO_359000 := n3_; have HO_359001 := n4_; have HO_359002 := n5_; have HO_370000 := n6_; have HO_370001 := n7_; have HO_370002 := n8_; have BK327 := n9_; have BK348 := n10_; have BK358 := n11_; have BK369 := n12_; have HB := n13_; clear n0_ n1_ n2_ n3_ n4_ n5_ n6_ n7_ n8_ n9_ n10_ n11_ n12_ n13_; (try clear hb); (try clear hb2); (try clear hk); (try clear hi)))
 go_ret
 exact ⟨by first | rfl | (simp [errW_none, errW_some] <;> rfl) | (simp [*, errW_none, errW_some] <;> rfl), by repeat (first | (with_reducible first | exact HB.out | apply below_alloc | apply pw_below_drewN | apply below_drew1) | exact HB.out)⟩}}}}}}
 {
 replace c68 := Bool.eq_false_iff.mpr c68
 subst c68
 have H1 : (some false) = some r := by rw [if_neg (show ¬ (false = true) by decide)] at H; exact H
 clear H
 have H := H1
 clear H1
 obtain rfl := Option.some.inj H
 try go_wp2
 have n0_ := Aside0.mk (Kd.R_drew HO_349000.out)
 have n1_ := Aside0.mk (Kd.R_drew HO_349001.out)
 have n2_ := Aside0.mk (Kd.R_drew HO_349002.out)
 have n3_ := Aside0.mk (Kd.R_drew HO_359000.out)
 have n4_ := Aside0.mk (Kd.R_drew HO_359001.out)
 have n5_ := Aside0.mk (Kd.R_drew HO_359002.out)
 have n6_ := Aside0.mk (Kd.R_drew HO_370000.out)
 have n7_ := Aside0.mk (Kd.R_drew HO_370001.out)
 have n8_ := Aside0.mk (Kd.R_drew HO_370002.out)
 have n9_ := Aside0.mk (blk_drew BK327.out)
 have n10_ := Aside0.mk (blk_drew BK348.out)
 have n11_ := Aside0.mk (blk_drew BK358.out)
 have n12_ := Aside0.mk (blk_drew BK369.out)
 have n13_ := Aside0.mk (below_drew1 HB.out)
 clear HO_349000
 clear HO_349001
 clear HO_349002
 clear HO_359000
 clear HO_359001
 clear HO_359002
 clear HO_370000
 clear HO_370001
 clear HO_370002
 clear BK327
 clear BK348
 clear BK358
 clear BK369
 clear HB
 have HO_349000 := n0_
 have HO_349001 := n1_
 have HO_349002 := n2_
 have HO_359000 := n3_
 have HO_359001 := n4_
 have HO_359002 := n5_
 have HO_370000 := n6_
 have HO_370001 := n7_
 have HO_370002 := n8_
 have BK327 := n9_
 have BK348 := n10_
 have BK358 := n11_
 have BK369 := n12_
 have HB := n13_
 clear n0_ n1_ n2_ n3_ n4_ n5_ n6_ n7_ n8_ n9_ n10_ n11_ n12_ n13_
 refine start_ (n := 5) (S := fun w' => w'.cell? ⟨gb358, 0, none⟩ = some (.slice Ao32 t349.length co32) ∧ w'.cell? ⟨gb358, 1, none⟩ = some (.slice Ao36 t352.length co36) ∧ w'.cell? ⟨gb358, 2, none⟩ = some (.slice Ao37 t355.length co37) ∧ w'.cell? ⟨gb327, 0, none⟩ = some (.slice A0_0 l0_0.length c0_0) ∧ w'.cell? ⟨gb327, 1, none⟩ = some (.slice A0_1 l0_1.length c0_1) ∧ w'.cell? ⟨gb327, 2, none⟩ = some (.slice A0_2 l0_2.length c0_2)) (ds := []) #[F,F,F,F,F] s2_ rfl rfl ⟨(blk_cell BK358.out 0).trans rfl, (blk_cell BK358.out 1).trans rfl, (blk_cell BK358.out 2).trans rfl, (blk_cell BK327.out 0).trans rfl, (blk_cell BK327.out 1).trans rfl, (blk_cell BK327.out 2).trans rfl⟩ (fun hHeld => ?_)
 generalize wc.drew = w191 at HO_349000 HO_349001 HO_349002 HO_359000 HO_359001 HO_359002 HO_370000 HO_370001 HO_370002 BK327 BK348 BK358 BK369 HB hHeld ⊢
 refine take_ (i := 0) (N := some 49) (v := ?_) (a' := ?_) #[T,F,F,F,F] rfl rfl s2_ (fun _ _ _ h => h) (Or.inl ⟨by rfl, ?_⟩) hHeld ?_ ?_
 rotate_left
 {
 rintro w' ⟨s0, s1, s2, s3, s4, s5⟩
 go_simp
 with_reducible rfl}
 rotate_left
 · exact p1_
 refine take_ (i := 1) (N := some 50) (v := ?_) (a' := ?_) #[T,T,F,F,F] rfl rfl s2_ (fun _ _ _ h => h) (Or.inl ⟨by rfl, ?_⟩) hHeld ?_ ?_
 rotate_left
 {
 rintro w' ⟨s0, s1, s2, s3, s4, s5⟩
 go_simp
 with_reducible rfl}
 rotate_left
 · exact p1_
 refine one_ (i := 2) (N := some 51) #[T,T,T,F,F] rfl rfl s2_ (by decide) (fun K hK => ?_)
 refine goes_ Try.func26 s2_ rfl #[.agg #[.slice A0_0 l0_0.length c0_0, .slice A0_1 l0_1.length c0_1, .slice A0_2 l0_2.length c0_2]] (by rfl) rfl rfl s3_ ?_
 with_reducible refine (laws_toPresence.calls kj12 _ _ l0_0 _ _ l0_1 _ _ l0_2 t371 t374 t377 _ ?side1 ?side2 ?side3 ?side4 ?side5 ?side6 A66.out).mono ?_
 (case side1 => exact y2_ (Kd.C_below HR0_0.out HB.out))
 (case side2 => exact HC0_0.out)
 (case side3 => exact y2_ (Kd.C_below HR0_1.out HB.out))
 (case side4 => exact HC0_1.out)
 (case side5 => exact y2_ (Kd.C_below HR0_2.out HB.out))
 (case side6 => exact HC0_2.out)
 rintro e w192 ⟨v372, v375, v378, rfl, ho0, ho1, ho2, hb⟩
 refine ⟨_, rfl, ?_⟩
 have n0_ := Aside0.mk (Kd.R_mono (Kd.R_told (Kd.R_told (Kd.R_old (b2_ HO_349000.out) hb) (Kd.R_base ho0)) (Kd.R_base ho1)) (fun _ h_ => h_.1))
 have n1_ := Aside0.mk (Kd.R_mono (Kd.R_told (Kd.R_told (Kd.R_old (b2_ HO_349001.out) hb) (Kd.R_base ho0)) (Kd.R_base ho1)) (fun _ h_ => h_.1))
 have n2_ := Aside0.mk (Kd.R_elder' (b2_ HO_349002.out) (Kd.R_base ho2) hb)
 have n3_ := Aside0.mk (Kd.R_mono (Kd.R_told (Kd.R_told (Kd.R_old (b2_ HO_359000.out) hb) (Kd.R_base ho0)) (Kd.R_base ho1)) (fun _ h_ => h_.1))
 have n4_ := Aside0.mk (Kd.R_mono (Kd.R_told (Kd.R_told (Kd.R_old (b2_ HO_359001.out) hb) (Kd.R_base ho0)) (Kd.R_base ho1)) (fun _ h_ => h_.1))
 have n5_ := Aside0.mk (Kd.R_elder' (b2_ HO_359002.out) (Kd.R_base ho2) hb)
 have n6_ := Aside0.mk (Kd.R_mono (Kd.R_told (Kd.R_told (Kd.R_old (b2_ HO_370000.out) hb) (Kd.R_base ho0)) (Kd.R_base ho1)) (fun _ h_ => h_.1))
 have n7_ := Aside0.mk (Kd.R_mono (Kd.R_told (Kd.R_told (Kd.R_old (b2_ HO_370001.out) hb) (Kd.R_base ho0)) (Kd.R_base ho1)) (fun _ h_ => h_.1))
 have n8_ := Aside0.mk (Kd.R_elder' (b2_ HO_370002.out) (Kd.R_base ho2) hb)
 have n9_ := Aside0.mk (Kd.R_lower (Kd.R_new' (Kd.R_new' (Kd.R_new' (Kd.R_new' (Kd.R_new' (Kd.R_new' ho0 (Kd.R_lt (b2_ HO_349000.out))) (Kd.R_lt (b2_ HO_349001.out))) (Kd.R_lt (b2_ HO_359000.out))) (Kd.R_lt (b2_ HO_359001.out))) (Kd.R_lt (b2_ HO_370000.out))) (Kd.R_lt (b2_ HO_370001.out))) (below_size (y1_ HB.out)))
 have n10_ := Aside0.mk (Kd.R_lower (Kd.R_new' (Kd.R_new' (Kd.R_new' (Kd.R_new' (Kd.R_new' (Kd.R_new' ho1 (Kd.R_lt (b2_ HO_349000.out))) (Kd.R_lt (b2_ HO_349001.out))) (Kd.R_lt (b2_ HO_359000.out))) (Kd.R_lt (b2_ HO_359001.out))) (Kd.R_lt (b2_ HO_370000.out))) (Kd.R_lt (b2_ HO_370001.out))) (below_size (y1_ HB.out)))
 have n11_ := Aside0.mk (Kd.R_lower (Kd.R_new' (Kd.R_new' (Kd.R_new' ho2 (Kd.R_lt (b2_ HO_349002.out))) (Kd.R_lt (b2_ HO_359002.out))) (Kd.R_lt (b2_ HO_370002.out))) (below_size (y1_ HB.out)))
 have n12_ := b3_ BK327 hb
 have n13_ := b3_ BK348 hb
 have n14_ := b3_ BK358 hb
 have n15_ := b3_ BK369 hb
 have n16_ := Aside0.mk (below_step (y1_ HB.out) hb)
 clear HO_349000
 clear HO_349001
 clear HO_349002
 clear HO_359000
 clear HO_359001
 clear HO_359002
 clear HO_370000
 clear HO_370001
 clear HO_370002
 clear BK327
 clear BK348
 clear BK358
 clear BK369
 clear HB
 have HO_349000 := n0_
 have HO_349001 := n1_
 have HO_349002 := n2_
 have HO_359000 := n3_
 have HO_359001 := n4_
 have HO_359002 := n5_
 have HO_370000 := n6_
 have HO_370001 := n7_
 have HO_370002 := n8_
 have HO373 := n9_
 have HO376 := n10_
 have HO379 := n11_
 have BK327 := n12_
 have BK348 := n13_
 have BK358 := n14_
 have BK369 := n15_
 have HB := n16_
 clear n0_ n1_ n2_ n3_ n4_ n5_ n6_ n7_ n8_ n9_ n10_ n11_ n12_ n13_ n14_ n15_ n16_
 (try clear hb)
 (try clear hb2)
 (try clear hk)
 (try clear hi)
 (try clear ho0)
 (try clear ho1)
 (try clear ho2)
 obtain ⟨Ao193, co193, eo193⟩ := Kd.R_slice HO373.out
 (first | subst eo193 | (injection eo193 with f1_ f2_ f3_; have f4_ := f1_.symm; have f5_ := f3_.symm; clear f1_ f2_ f3_; subst f4_; subst f5_))
 obtain ⟨Ao194, co194, eo194⟩ := Kd.R_slice HO376.out
 (first | subst eo194 | (injection eo194 with f1_ f2_ f3_; have f4_ := f1_.symm; have f5_ := f3_.symm; clear f1_ f2_ f3_; subst f4_; subst f5_))
 obtain ⟨Ao195, co195, eo195⟩ := Kd.R_slice HO379.out
 (first | subst eo195 | (injection eo195 with f1_ f2_ f3_; have f4_ := f1_.symm; have f5_ := f3_.symm; clear f1_ f2_ f3_; subst f4_; subst f5_))
 refine hK.out _ _ ⟨(blk_cell BK358.out 0).trans rfl, (blk_cell BK358.out 1).trans rfl, (blk_cell BK358.out 2).trans rfl, (blk_cell BK327.out 0).trans rfl, (blk_cell BK327.out 1).trans rfl, (blk_cell BK327.out 2).trans rfl⟩ (fun hHeld => ?_)
 clear hK K
 refine norm_ (a' := ?_) ?_ ?_
 rotate_left
 {
 show Act.put _ (some 51) _ = _
 simp only [Act.put, List.setIfInBounds_toArray, List.set_cons_zero, List.set_cons_succ, i64_w, i32_w]
 rfl}
 refine one_ (i := 3) (N := some 52) #[T,T,T,T,F] rfl rfl s2_ (by decide) (fun K hK => ?_)
 refine goes_ Try.func27 s2_ rfl #[.agg #[.slice Ao32 t349.length co32, .slice Ao36 t352.length co36, .slice Ao37 t355.length co37], .agg #[.slice Ao193 t371.length co193, .slice Ao194 t374.length co194, .slice Ao195 t377.length co195]] (by rfl) rfl rfl s3_ ?_
 with_reducible refine (laws_eqPresence.calls kj12 _ _ t349 _ _ t352 _ _ t355 _ _ t371 _ _ t374 _ _ t377 false _ ?side1 ?side2 ?side3 ?side4 ?side5 ?side6 ?side7 ?side8 ?side9 ?side10 ?side11 ?side12 A67.out).mono ?_
 (case side1 => exact y2_ (Kd.R_reads' HO_359000.out).2.2)
 (case side2 => exact (Kd.R_reads' HO_359000.out).2.1)
 (case side3 => exact y2_ (Kd.R_reads' HO_359001.out).2.2)
 (case side4 => exact (Kd.R_reads' HO_359001.out).2.1)
 (case side5 => exact y2_ (Kd.R_reads' HO_359002.out).2.2)
 (case side6 => exact (Kd.R_reads' HO_359002.out).2.1)
 (case side7 => exact y2_ (Kd.R_reads' HO373.out).2.2)
 (case side8 => exact (Kd.R_reads' HO373.out).2.1)
 (case side9 => exact y2_ (Kd.R_reads' HO376.out).2.2)
 (case side10 => exact (Kd.R_reads' HO376.out).2.1)
 (case side11 => exact y2_ (Kd.R_reads' HO379.out).2.2)
 (case side12 => exact (Kd.R_reads' HO379.out).2.1)
 rintro e w196 ⟨rfl, hb⟩
 refine ⟨_, rfl, ?_⟩
 have n0_ := r1_ HO_349000 hb
 have n1_ := r1_ HO_349001 hb
 have n2_ := r1_ HO_349002 hb
 have n3_ := r1_ HO_359000 hb
 have n4_ := r1_ HO_359001 hb
 have n5_ := r1_ HO_359002 hb
 have n6_ := r1_ HO_370000 hb
 have n7_ := r1_ HO_370001 hb
 have n8_ := r1_ HO_370002 hb
 have n9_ := r1_ HO373 hb
 have n10_ := r1_ HO376 hb
 have n11_ := r1_ HO379 hb
 have n12_ := b3_ BK327 hb
 have n13_ := b3_ BK348 hb
 have n14_ := b3_ BK358 hb
 have n15_ := b3_ BK369 hb
 have n16_ := Aside0.mk (below_step (y1_ HB.out) hb)
 clear HO_349000
 clear HO_349001
 clear HO_349002
 clear HO_359000
 clear HO_359001
 clear HO_359002
 clear HO_370000
 clear HO_370001
 clear HO_370002
 clear HO373
 clear HO376
 clear HO379
 clear BK327
 clear BK348
 clear BK358
 clear BK369
 clear HB
 have HO_349000 := n0_
 have HO_349001 := n1_
 have HO_349002 := n2_
 have HO_359000 := n3_
 have HO_359001 := n4_
 have HO_359002 := n5_
 have HO_370000 := n6_
 have HO_370001 := n7_
 have HO_370002 := n8_
 have HO373 := n9_
 have HO376 := n10_
 have HO379 := n11_
 have BK327 := n12_
 have BK348 := n13_
 have BK358 := n14_
 have BK369 := n15_
 have HB := n16_
 clear n0_ n1_ n2_ n3_ n4_ n5_ n6_ n7_ n8_ n9_ n10_ n11_ n12_ n13_ n14_ n15_ n16_
 (try clear hb)
 (try clear hb2)
 (try clear hk)
 (try clear hi)
 refine hK.out _ _ ⟨(blk_cell BK358.out 0).trans rfl, (blk_cell BK358.out 1).trans rfl, (blk_cell BK358.out 2).trans rfl, (blk_cell BK327.out 0).trans rfl, (blk_cell BK327.out 1).trans rfl, (blk_cell BK327.out 2).trans rfl⟩ (fun hHeld => ?_)
 clear hK K
 refine norm_ (a' := ?_) ?_ ?_
 rotate_left
 {
 show Act.put _ (some 52) _ = _
 simp only [Act.put, List.setIfInBounds_toArray, List.set_cons_zero, List.set_cons_succ, i64_w, i32_w]
 rfl}
 refine pure_ (i := 4) (N := some 53) (v := ?_) (a' := ?_) #[T,T,T,T,T] rfl rfl s2_ (fun _ _ _ h => h) (Or.inl ⟨by rfl, ?_⟩) ?_ ?_
 rotate_left
 {
 intro w'
 go_simp
 with_reducible rfl}
 rotate_left
 · exact p1_
 refine done_ s2_ ?_
 try go_wp2
 go_ret
 exact ⟨by first | rfl | (simp [errW_none, errW_some] <;> rfl) | (simp [*, errW_none, errW_some] <;> rfl), by repeat (first | (with_reducible first | exact HB.out | apply below_alloc | apply pw_below_drewN | apply below_drew1) | exact HB.out)⟩}}}}}

/-- THE ONE PURE STATEMENT of laws_FnExactReadUpTo: yours. -/
def laws_FnExactReadUpTo.Pure : Prop := ∀ (l0_0 : List (S108)) (l0_1 : List (S108)) (l0_2 : List (S110)) (a1 : Int) (a2 : Int), (l0_0.length ≤ maxLen ∧ l0_0.length * 16 ≤ 140737488351232 ∧ ∀ y0_ ∈ l0_0, fit108 y0_) → (l0_1.length ≤ maxLen ∧ l0_1.length * 16 ≤ 140737488351232 ∧ ∀ y0_ ∈ l0_1, fit108 y0_) → (l0_2.length ≤ maxLen ∧ l0_2.length * 16 ≤ 140737488351232 ∧ ∀ y0_ ∈ l0_2, fit110 y0_) → ((Lit.int .i64 a1).wf = true) → ((Lit.int .i64 a2).wf = true) → ∃ k, laws_FnExactReadUpTo.f k l0_0 l0_1 l0_2 a1 a2 = some true
theorem laws_FnExactReadUpTo.walk (P : laws_FnExactReadUpTo.Pure) (A0_0 : Option Addr) (c0_0 : Nat) (l0_0 : List (S108)) (A0_1 : Option Addr) (c0_1 : Nat) (l0_1 : List (S108)) (A0_2 : Option Addr) (c0_2 : Nat) (l0_2 : List (S110)) (a1 : Int) (a2 : Int) (w : World) (hr0_0 : Kd.C k108 w A0_0 l0_0.length l0_0) (hc0_0 : l0_0.length ≤ c0_0) (hr0_1 : Kd.C k108 w A0_1 l0_1.length l0_1) (hc0_1 : l0_1.length ≤ c0_1) (hr0_2 : Kd.C k110 w A0_2 l0_2.length l0_2) (hc0_2 : l0_2.length ≤ c0_2) (F0_0 : l0_0.length ≤ maxLen ∧ l0_0.length * 16 ≤ 140737488351232 ∧ ∀ y0_ ∈ l0_0, fit108 y0_) (F0_1 : l0_1.length ≤ maxLen ∧ l0_1.length * 16 ≤ 140737488351232 ∧ ∀ y0_ ∈ l0_1, fit108 y0_) (F0_2 : l0_2.length ≤ maxLen ∧ l0_2.length * 16 ≤ 140737488351232 ∧ ∀ y0_ ∈ l0_2, fit110 y0_) (F1 : (Lit.int .i64 a1).wf = true) (F2 : (Lit.int .i64 a2).wf = true) :
    Calls Try.prog 7 #[.agg #[.slice A0_0 l0_0.length c0_0, .slice A0_1 l0_1.length c0_1, .slice A0_2 l0_2.length c0_2], .int .i64 a1, .int .i64 a2] w fun e w' => e = .returned (.bool true) ∧ Below w.heap.size w w' := by
  obtain ⟨k, h⟩ := P l0_0 l0_1 l0_2 a1 a2 F0_0 F0_1 F0_2 F1 F2
  refine (laws_FnExactReadUpTo.calls k A0_0 c0_0 l0_0 A0_1 c0_1 l0_1 A0_2 c0_2 l0_2 a1 a2 true w hr0_0 hc0_0 hr0_1 hc0_1 hr0_2 hc0_2 h).mono ?_
  rintro e w' ⟨rfl, hd⟩
  exact ⟨rfl, hd⟩

end Go.Proofs.Ytgfilednbllkmaa.QFnExactReadUpTo
