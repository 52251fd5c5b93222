-- written by a program of this session, on the lines of the kit's print
import Derived.Test.YtcnhepjdibbkgaaQFnExactNumbersOfx0
import Derived.Test.YtcnhepjdibbkgaaQFnExactNumbersOfx1
import Derived.Test.YtcnhepjdibbkgaaQFnExactNumbersOfx2
import Derived.Test.YtcnhepjdibbkgaaQFnExactNumbersOfx4
import Derived.Test.YtcnhepjdibbkgaaQFnExactNumbersOfx7
namespace Go.Proofs.Ytcnhepjdibbkgaa.QFnExactNumbersOf
open Go.RowKit Go.Proofs.YtcnhepjdibbkgaaW.PrintWords Go.Proofs.YtcnhepjdibbkgaaW.PrintLast Go.Proofs.YtcnhepjdibbkgaaW.PrintMore
attribute [local go_sem] max2_int min2_int max_two min_two max_three min_three max_four min_four   -- for this text's walks alone
set_option linter.unusedVariables false
set_option linter.unusedSimpArgs false

/-! ### laws_FnExactNumbersOf: function 9 -/
abbrev laws_FnExactNumbersOf.T : Bool := true
abbrev laws_FnExactNumbersOf.F : Bool := false
theorem laws_FnExactNumbersOf.s1_ {P : Prop} (h : P := by first | rfl | (simp; done) | (simp [*]; done)) : P := h
theorem laws_FnExactNumbersOf.s2_ {P : Prop} (h : P := by kernel_rfl) : P := h
theorem laws_FnExactNumbersOf.s3_ {P : Prop} (h : P := by (try simp only [List.map_toArray, List.map_cons, List.map_nil]); first | done | rfl | (simp only [List.length_drop, List.length_take]; rfl)) : P := h
theorem laws_FnExactNumbersOf.p1_ {P : Prop} (h : P := by simp only [Act.put, List.setIfInBounds_toArray, List.set_cons_zero, List.set_cons_succ, i64_w, i32_w]; rfl) : P := h
theorem laws_FnExactNumbersOf.b1_ {P Q : Prop} (q : Q) (h : Q → P := by intro q_; (with_reducible repeat (first | refine blk_drewN ?_ _ | refine blk_drew ?_ | refine blk_alloc ?_ _)); exact q_) : P := h q
theorem laws_FnExactNumbersOf.b2_ {P Q : Prop} (q : Q) (h : Q → P := by intro q_; (with_reducible repeat (first | apply Kd.R_alloc | apply Kd.R_drewN | apply Kd.R_drew)); exact q_) : P := h q
theorem laws_FnExactNumbersOf.y1_ {P Q : Prop} (q : Q) (h : Q → P := by intro q_; repeat (first | (with_reducible first | exact q_ | apply below_alloc | apply pw_below_drewN | apply below_drew1) | exact q_)) : P := h q
theorem laws_FnExactNumbersOf.y2_ {P Q : Prop} (q : Q) (h : Q → P := by intro q_; repeat (first | exact q_ | (with_reducible refine Kd.C_alloc ?_ _) | (with_reducible refine Kd.C_drewN ?_ _) | (with_reducible refine Kd.C_drew ?_))) : P := h q
theorem laws_FnExactNumbersOf.b3_ {w w1 W : World} {g : Nat} {o : Obj} (q : Aside0 (w.heap[g]? = some o)) (hb : Below W.heap.size W w1) (h : w.heap[g]? = some o → W.heap[g]? = some o := by intro q_; (with_reducible repeat (first | refine blk_drewN ?_ _ | refine blk_drew ?_ | refine blk_alloc ?_ _)); exact q_) : Aside0 (w1.heap[g]? = some o) := ⟨blk_below (h q.out) hb⟩
theorem laws_FnExactNumbersOf.b4_ {w W : World} {g k : Nat} {o : Obj} (hg : k = W.heap.size) (q : Aside0 (w.heap[g]? = some o)) (h : w.heap[g]? = some o → W.heap[g]? = some o := by intro q_; (with_reducible repeat (first | refine blk_drewN ?_ _ | refine blk_drew ?_ | refine blk_alloc ?_ _)); exact q_) : Aside0 (g ≠ k) := ⟨by rw [hg]; exact Nat.ne_of_lt (blk_lt (h q.out))⟩
theorem laws_FnExactNumbersOf.b5_ {w W : World} {g k : Nat} {o : Obj} (hg : k = W.heap.size) (q : Aside0 (w.heap[g]? = some o)) (h : w.heap[g]? = some o → W.heap[g]? = some o := by intro q_; (with_reducible repeat (first | refine blk_drewN ?_ _ | refine blk_drew ?_ | refine blk_alloc ?_ _)); exact q_) : Aside0 (k ≠ g) := ⟨by rw [hg]; exact Nat.ne_of_gt (blk_lt (h q.out))⟩
theorem laws_FnExactNumbersOf.b6_ {w w' W : World} {k : Nat} (hg : k = W.heap.size) (q : Aside0 (Below w.heap.size w w')) (h : Below w.heap.size w w' → Below w.heap.size w W := by intro q_; repeat (first | (with_reducible first | exact q_ | apply below_alloc | apply pw_below_drewN | apply below_drew1) | exact q_)) : Aside0 (w.heap.size ≤ k) := ⟨by rw [hg]; exact below_size (h q.out)⟩
theorem laws_FnExactNumbersOf.bx_ {P : Program} {ops : Array Oper} {rest : List Oper} {o : Oper} {a : Act} {Q : Exit → Act → World → Prop} {W : World} (N : Tmp) (cs : Array Value) (t : TypeId) (h : ∀ g, g = W.heap.size → ∀ w1, w1.heap[g]? = some (.cells cs t (0, 0)) → Below W.heap.size W w1 → wpList P ops Q rest (a.put o.dst (.pointer (some ⟨g, 0, none⟩))) w1) (hgd : o.guard = none := by rfl) (hd : o.dst = some N := by rfl) (hrun : (execOp a.eval o).run P W = .ok (.value (.pointer (some ⟨W.heap.size, 0, none⟩))) (W.alloc (.cells cs t (0, 0))) := by first | (go_simp; done) | (go_simp; rfl)) : wpList P ops Q (o :: rest) a W := box_event hgd hd hrun h
theorem laws_FnExactNumbersOf.c1_ {w : World} {g : Nat} {t : TypeId} {cs : Array Value} (q : Aside0 (w.heap[g]? = some (.cells cs t (0, 0)))) (i : Nat) (v : Value) (h : cs[i]? = some v := by rfl) : w.cell? ⟨g, i, none⟩ = some v := (blk_cell q.out i).trans h
theorem laws_FnExactNumbersOf.f1_ {w : World} {g : Nat} {t : TypeId} {cs : Array Value} (q : Aside0 (w.heap[g]? = some (.cells cs t (0, 0)))) (i : Nat) : w.frozen? ⟨g, i, none⟩ = false := blk_frozen q.out i
theorem laws_FnExactNumbersOf.r1_ {α : Type} {d : Kd α} {e base : Nat} {ok : Nat → Prop} {v : Value} {xs : List α} {w W w1 : World} (q : Aside0 (d.R e w base ok v xs)) (hb : Below W.heap.size W w1) (h : d.R e w base ok v xs → d.R e W base ok v xs := by intro q_; (with_reducible repeat (first | apply Kd.R_alloc | apply Kd.R_drewN | apply Kd.R_drew)); exact q_) : Aside0 (d.R e w1 base ok v xs) := ⟨Kd.R_below (h q.out) hb⟩
mutual
def laws_FnExactNumbersOf.j0 : Nat → ByteArray → List Int → Bool → List Int → Bool → Bool → List (S108) → List (S63) → Option (Bool)
  | 0, _, _, _, _, _, _, _, _ => none
  | k + 1, x1, x6, x7, x9, x10, x47, x218000, x230000 => if x47 = true then (some false) else ((laws_toIndex.f k x218000).bind fun t235 => ((laws_eqIndex.f k x230000 t235).bind fun t238 => (if t238 = true then ((laws_markIndex.f k x230000 1).bind fun t239 => (if t239 < 0 then (laws_FnExactNumbersOf.j1 k x1 x6 x7 x9 true x218000) else ((laws_eqInt64S.f k x9 x6).bind fun t240 => (if t240 = true then (laws_FnExactNumbersOf.j1 k x1 x6 x7 x9 (x10 != x7) x218000) else (laws_FnExactNumbersOf.j1 k x1 x6 x7 x9 true x218000))))) else (some false))))
def laws_FnExactNumbersOf.j1 : Nat → ByteArray → List Int → Bool → List Int → Bool → List (S108) → Option (Bool)
  | 0, _, _, _, _, _, _ => none
  | k + 1, x1, x6, x7, x9, x68, x218000 => if x68 = true then (some false) else ((laws_markInt64S.f k x9 1).bind fun bt241 => ((laws_heldInt64S.f k bt241.2 1).bind fun t243 => (if t243 < 0 then (some false) else (if t243 = bt241.1 then ((laws_toIndex.f k x218000).bind fun t244 => ((impl_NumbersOf.f k t244 x1).bind fun bt247 => ((laws_eqInt64S.f k bt247.1 x6).bind fun t251 => (if t251 = true then (laws_FnExactNumbersOf.j2 k bt241.2 bt241.1 (bt247.2 != x7)) else (laws_FnExactNumbersOf.j2 k bt241.2 bt241.1 true))))) else (some false)))))
def laws_FnExactNumbersOf.j2 : Nat → List Int → Int → Bool → Option (Bool)
  | 0, _, _, _ => none
  | k + 1, x9, x12, x95 => if x95 = true then (some false) else ((laws_heldInt64S.f k x9 1).bind fun t252 => (if t252 < 0 then (some false) else (if t252 = x12 then (some true) else (some false))))
end
def laws_FnExactNumbersOf.f (k : Nat) (l0_0 : List (S108)) (a1 : ByteArray) : Option (Bool) := if (a1.size : Int) > 1048576 then (some true) else ((laws_szIndex.f k l0_0 1048576).bind fun t218 => (if t218 < 0 then (some true) else ((laws_toIndex.f k l0_0).bind fun t219 => ((spec_NumbersOf.f k t219 a1).bind fun bt222 => ((laws_toIndex.f k l0_0).bind fun t226 => ((impl_NumbersOf.f k t226 a1).bind fun bt230 => ((laws_eqInt64S.f k bt230.1 bt222.1).bind fun t234 => (if t234 = true then (laws_FnExactNumbersOf.j0 k a1 bt222.1 bt222.2 bt230.1 bt230.2 (bt230.2 != bt222.2) l0_0 t226) else (laws_FnExactNumbersOf.j0 k a1 bt222.1 bt222.2 bt230.1 bt230.2 true l0_0 t226)))))))))
theorem laws_FnExactNumbersOf.mono_l : ∀ k, (∀ y0 y1 y2 y3 y4 y5 y6 y7, LeO (laws_FnExactNumbersOf.j0 k y0 y1 y2 y3 y4 y5 y6 y7) (laws_FnExactNumbersOf.j0 (k + 1) y0 y1 y2 y3 y4 y5 y6 y7)) ∧ (∀ y0 y1 y2 y3 y4 y5, LeO (laws_FnExactNumbersOf.j1 k y0 y1 y2 y3 y4 y5) (laws_FnExactNumbersOf.j1 (k + 1) y0 y1 y2 y3 y4 y5)) ∧ (∀ y0 y1 y2, LeO (laws_FnExactNumbersOf.j2 k y0 y1 y2) (laws_FnExactNumbersOf.j2 (k + 1) y0 y1 y2))
  | 0 => ⟨fun _ _ _ _ _ _ _ _ r h => by simp [laws_FnExactNumbersOf.j0] at h, fun _ _ _ _ _ _ r h => by simp [laws_FnExactNumbersOf.j1] at h, fun _ _ _ r h => by simp [laws_FnExactNumbersOf.j2] at h⟩
  | k + 1 => by
    obtain ⟨ih0, ih1, ih2⟩ := laws_FnExactNumbersOf.mono_l k
    refine ⟨?_, ?_, ?_⟩
    · intro y0 y1 y2 y3 y4 y5 y6 y7
      unfold laws_FnExactNumbersOf.j0
      repeat' first
      | (with_reducible exact ih0 _ _ _ _ _ _ _ _)
      | (with_reducible exact ih1 _ _ _ _ _ _)
      | (with_reducible exact ih2 _ _ _)
      | (with_reducible exact impl_NumbersOf.mono _ _ _)
      | (with_reducible exact laws_eqIndex.mono _ _ _)
      | (with_reducible exact laws_eqInt64S.mono _ _ _)
      | (with_reducible exact laws_heldInt64S.mono _ _ _)
      | (with_reducible exact laws_markIndex.mono _ _ _)
      | (with_reducible exact laws_markInt64S.mono _ _ _)
      | (with_reducible exact laws_szIndex.mono _ _ _)
      | (with_reducible exact laws_toIndex.mono _ _)
      | (with_reducible exact spec_NumbersOf.mono _ _ _)
      | (with_reducible exact LeO.refl _)
      | (with_reducible exact LeO.none _)
      | (with_reducible refine LeO.ite ?_ ?_)
      | (with_reducible refine LeO.bind ?_ (fun _ => ?_))
      | exact ih0 _ _ _ _ _ _ _ _
      | exact ih1 _ _ _ _ _ _
      | exact ih2 _ _ _
      | exact impl_NumbersOf.mono _ _ _
      | exact laws_eqIndex.mono _ _ _
      | exact laws_eqInt64S.mono _ _ _
      | exact laws_heldInt64S.mono _ _ _
      | exact laws_markIndex.mono _ _ _
      | exact laws_markInt64S.mono _ _ _
      | exact laws_szIndex.mono _ _ _
      | exact laws_toIndex.mono _ _
      | exact spec_NumbersOf.mono _ _ _
      | exact LeO.none _
      | refine LeO.ite ?_ ?_
      | refine LeO.bind ?_ (fun _ => ?_)
    · intro y0 y1 y2 y3 y4 y5
      unfold laws_FnExactNumbersOf.j1
      repeat' first
      | (with_reducible exact ih0 _ _ _ _ _ _ _ _)
      | (with_reducible exact ih1 _ _ _ _ _ _)
      | (with_reducible exact ih2 _ _ _)
      | (with_reducible exact impl_NumbersOf.mono _ _ _)
      | (with_reducible exact laws_eqIndex.mono _ _ _)
      | (with_reducible exact laws_eqInt64S.mono _ _ _)
      | (with_reducible exact laws_heldInt64S.mono _ _ _)
      | (with_reducible exact laws_markIndex.mono _ _ _)
      | (with_reducible exact laws_markInt64S.mono _ _ _)
      | (with_reducible exact laws_szIndex.mono _ _ _)
      | (with_reducible exact laws_toIndex.mono _ _)
      | (with_reducible exact spec_NumbersOf.mono _ _ _)
      | (with_reducible exact LeO.refl _)
      | (with_reducible exact LeO.none _)
      | (with_reducible refine LeO.ite ?_ ?_)
      | (with_reducible refine LeO.bind ?_ (fun _ => ?_))
      | exact ih0 _ _ _ _ _ _ _ _
      | exact ih1 _ _ _ _ _ _
      | exact ih2 _ _ _
      | exact impl_NumbersOf.mono _ _ _
      | exact laws_eqIndex.mono _ _ _
      | exact laws_eqInt64S.mono _ _ _
      | exact laws_heldInt64S.mono _ _ _
      | exact laws_markIndex.mono _ _ _
      | exact laws_markInt64S.mono _ _ _
      | exact laws_szIndex.mono _ _ _
      | exact laws_toIndex.mono _ _
      | exact spec_NumbersOf.mono _ _ _
      | exact LeO.none _
      | refine LeO.ite ?_ ?_
      | refine LeO.bind ?_ (fun _ => ?_)
    · intro y0 y1 y2
      unfold laws_FnExactNumbersOf.j2
      repeat' first
      | (with_reducible exact ih0 _ _ _ _ _ _ _ _)
      | (with_reducible exact ih1 _ _ _ _ _ _)
      | (with_reducible exact ih2 _ _ _)
      | (with_reducible exact impl_NumbersOf.mono _ _ _)
      | (with_reducible exact laws_eqIndex.mono _ _ _)
      | (with_reducible exact laws_eqInt64S.mono _ _ _)
      | (with_reducible exact laws_heldInt64S.mono _ _ _)
      | (with_reducible exact laws_markIndex.mono _ _ _)
      | (with_reducible exact laws_markInt64S.mono _ _ _)
      | (with_reducible exact laws_szIndex.mono _ _ _)
      | (with_reducible exact laws_toIndex.mono _ _)
      | (with_reducible exact spec_NumbersOf.mono _ _ _)
      | (with_reducible exact LeO.refl _)
      | (with_reducible exact LeO.none _)
      | (with_reducible refine LeO.ite ?_ ?_)
      | (with_reducible refine LeO.bind ?_ (fun _ => ?_))
      | exact ih0 _ _ _ _ _ _ _ _
      | exact ih1 _ _ _ _ _ _
      | exact ih2 _ _ _
      | exact impl_NumbersOf.mono _ _ _
      | exact laws_eqIndex.mono _ _ _
      | exact laws_eqInt64S.mono _ _ _
      | exact laws_heldInt64S.mono _ _ _
      | exact laws_markIndex.mono _ _ _
      | exact laws_markInt64S.mono _ _ _
      | exact laws_szIndex.mono _ _ _
      | exact laws_toIndex.mono _ _
      | exact spec_NumbersOf.mono _ _ _
      | exact LeO.none _
      | refine LeO.ite ?_ ?_
      | refine LeO.bind ?_ (fun _ => ?_)
theorem laws_FnExactNumbersOf.mono : ∀ a0 a1 k, LeO (laws_FnExactNumbersOf.f k a0 a1) (laws_FnExactNumbersOf.f (k + 1) a0 a1) := by
  intro a0 a1 k
  obtain ⟨ih0, ih1, ih2⟩ := laws_FnExactNumbersOf.mono_l k
  unfold laws_FnExactNumbersOf.f
  repeat' first
      | (with_reducible exact ih0 _ _ _ _ _ _ _ _)
      | (with_reducible exact ih1 _ _ _ _ _ _)
      | (with_reducible exact ih2 _ _ _)
      | (with_reducible exact impl_NumbersOf.mono _ _ _)
      | (with_reducible exact laws_eqIndex.mono _ _ _)
      | (with_reducible exact laws_eqInt64S.mono _ _ _)
      | (with_reducible exact laws_heldInt64S.mono _ _ _)
      | (with_reducible exact laws_markIndex.mono _ _ _)
      | (with_reducible exact laws_markInt64S.mono _ _ _)
      | (with_reducible exact laws_szIndex.mono _ _ _)
      | (with_reducible exact laws_toIndex.mono _ _)
      | (with_reducible exact spec_NumbersOf.mono _ _ _)
      | (with_reducible exact LeO.refl _)
      | (with_reducible exact LeO.none _)
      | (with_reducible refine LeO.ite ?_ ?_)
      | (with_reducible refine LeO.bind ?_ (fun _ => ?_))
      | exact ih0 _ _ _ _ _ _ _ _
      | exact ih1 _ _ _ _ _ _
      | exact ih2 _ _ _
      | exact impl_NumbersOf.mono _ _ _
      | exact laws_eqIndex.mono _ _ _
      | exact laws_eqInt64S.mono _ _ _
      | exact laws_heldInt64S.mono _ _ _
      | exact laws_markIndex.mono _ _ _
      | exact laws_markInt64S.mono _ _ _
      | exact laws_szIndex.mono _ _ _
      | exact laws_toIndex.mono _ _
      | exact spec_NumbersOf.mono _ _ _
      | exact LeO.none _
      | refine LeO.ite ?_ ?_
      | refine LeO.bind ?_ (fun _ => ?_)
theorem laws_markIndex.k_own {W w1 : World} {base e : Nat} {ok0 ok1 ok : Nat → Prop} {α : Type} {d : Kd α} {v : Value} {xs : List α} (hk : Kept W w1 (fun k => ok0 k ∧ ok1 k)) (h : d.R e W base ok v xs) (hE : d.E = []) (ht : ∀ k, ok0 k → some k ≠ v.ownBlock) : d.R e w1 base ok v xs :=
  Kd.R_mono (Kd.R_move (Kd.R_tight2 hE h) (fun k hq => hk.2 k (Kd.R_lt h k hq.1.symm) (fun hP => ht k hP.1 hq.1))) (fun _ h => h.2)
set_option maxHeartbeats 8000000 in
set_option maxRecDepth 100000 in
theorem laws_FnExactNumbersOf.calls (k : Nat) (A0_0 : Option Addr) (c0_0 : Nat) (l0_0 : List (S108)) (a1 : ByteArray) (r : Bool) (w : World) (hr0_0 : Kd.C k108 w A0_0 l0_0.length l0_0) (hc0_0 : l0_0.length ≤ c0_0) (h : laws_FnExactNumbersOf.f k l0_0 a1 = some r) :
    Calls Try.prog 9 #[.agg #[.slice A0_0 l0_0.length c0_0], .string a1] w fun e w' => e = .returned (.bool r) ∧ Below w.heap.size w w' := by
 have hu24 := Try.underlying24
 have hu29 := Try.underlying29
 have HR0_0 := Aside0.mk hr0_0
 have HC0_0 := Aside0.mk hc0_0
 clear hr0_0 hc0_0
 have HB := Aside0.mk (Below.refl w.heap.size w)
 have H : (if (a1.size : Int) > 1048576 then (some true) else ((laws_szIndex.f k l0_0 1048576).bind fun t218 => (if t218 < 0 then (some true) else ((laws_toIndex.f k l0_0).bind fun t219 => ((spec_NumbersOf.f k t219 a1).bind fun bt222 => ((laws_toIndex.f k l0_0).bind fun t226 => ((impl_NumbersOf.f k t226 a1).bind fun bt230 => ((laws_eqInt64S.f k bt230.1 bt222.1).bind fun t234 => (if t234 = true then (laws_FnExactNumbersOf.j0 k a1 bt222.1 bt222.2 bt230.1 bt230.2 (bt230.2 != bt222.2) l0_0 t226) else (laws_FnExactNumbersOf.j0 k a1 bt222.1 bt222.2 bt230.1 bt230.2 true l0_0 t226)))))))))) = some r := h
 clear h
 by_cases c3 : (a1.size : Int) > 1048576
 {
 rw [if_pos c3] at H
 have c3b0 : decide (1048576 < (a1.size : Int)) = true := decide_eq_true c3
 have c3b1 : decide (1048576 < a1.size) = true := decide_eq_true (by omega)
 clear c3
 obtain rfl := Option.some.inj H
 go_enter Try.func9, Try.ntmps9
 go_wp2_with (first | ((with_reducible refine gate_dst (N := 2) rfl ?_); refine bx_ 2 #[.slice A0_0 l0_0.length c0_0] 24 ?_; intro gb217 hg w4 hbox hb; have GW217 := b6_ hg HB; have GE217 := b6_ hg HB; replace HB := Aside0.mk (below_step (y1_ HB.out) hb); have BK217 := Aside0.mk (hbox); clear hb hbox hg))
 go_ret
 exact ⟨by first | rfl | (simp [errW_none, errW_some] <;> rfl) | (simp [*, errW_none, errW_some] <;> rfl), by repeat (first | (with_reducible first | exact HB.out | apply below_alloc | apply pw_below_drewN | apply below_drew1) | exact HB.out)⟩}
 {
 rw [if_neg c3] at H
 have c3b0 : decide (1048576 < (a1.size : Int)) = false := decide_eq_false c3
 have c3b1 : decide (1048576 < a1.size) = false := decide_eq_false (by omega)
 clear c3
 replace H := Option.bind_eq_some_iff.mp H
 obtain ⟨t218, A50, H⟩ := H
 replace H : (if t218 < 0 then (some true) else ((laws_toIndex.f k l0_0).bind fun t219 => ((spec_NumbersOf.f k t219 a1).bind fun bt222 => ((laws_toIndex.f k l0_0).bind fun t226 => ((impl_NumbersOf.f k t226 a1).bind fun bt230 => ((laws_eqInt64S.f k bt230.1 bt222.1).bind fun t234 => (if t234 = true then (laws_FnExactNumbersOf.j0 k a1 bt222.1 bt222.2 bt230.1 bt230.2 (bt230.2 != bt222.2) l0_0 t226) else (laws_FnExactNumbersOf.j0 k a1 bt222.1 bt222.2 bt230.1 bt230.2 true l0_0 t226)))))))) = some r := H
 have A5 := Aside0.mk A50
 clear A50
 by_cases c6 : t218 < 0
 {
 rw [if_pos c6] at H
 have c6b0 : decide (t218 < 0) = true := decide_eq_true c6
 clear c6
 obtain rfl := Option.some.inj H
 go_enter Try.func9, Try.ntmps9
 go_wp2_with (first | ((with_reducible refine gate_dst (N := 2) rfl ?_); refine bx_ 2 #[.slice A0_0 l0_0.length c0_0] 24 ?_; intro gb217 hg w7 hbox hb; have GW217 := b6_ hg HB; have GE217 := b6_ hg HB; replace HB := Aside0.mk (below_step (y1_ HB.out) hb); have BK217 := Aside0.mk (hbox); clear hb hbox hg; have hcz8_0 := c1_ BK217 0 (.slice A0_0 l0_0.length c0_0); have hfz8_0 := f1_ BK217 0) | ((with_reducible refine gate_callee (f := 11) rfl ?_); refine goesL_ (some 21) rfl rfl Try.func11 s2_ rfl #[.agg #[.slice A0_0 l0_0.length c0_0], .int .i64 1048576] rfl s3_ ?_; (with_reducible refine (laws_szIndex.calls k _ _ l0_0 1048576 t218 _ ?side1 ?side2 A5.out).mono ?_); (case side1 => exact y2_ (Kd.C_below HR0_0.out HB.out)); (case side2 => exact HC0_0.out); rintro e w9 ⟨rfl, hb⟩; refine ⟨_, rfl, ?_⟩; replace BK217 := b3_ BK217 hb; replace HB := Aside0.mk (below_step (y1_ HB.out) hb); (try clear hb); (try clear hb2); (try clear hk); (try clear hi)))
 go_ret
 exact ⟨by first | rfl | (simp [errW_none, errW_some] <;> rfl) | (simp [*, errW_none, errW_some] <;> rfl), by repeat (first | (with_reducible first | exact HB.out | apply below_alloc | apply pw_below_drewN | apply below_drew1) | exact HB.out)⟩}
 {
 rw [if_neg c6] at H
 have c6b0 : decide (t218 < 0) = false := decide_eq_false c6
 clear c6
 replace H := Option.bind_eq_some_iff.mp H
 obtain ⟨t219, A100, H⟩ := H
 replace H : ((spec_NumbersOf.f k t219 a1).bind fun bt222 => ((laws_toIndex.f k l0_0).bind fun t226 => ((impl_NumbersOf.f k t226 a1).bind fun bt230 => ((laws_eqInt64S.f k bt230.1 bt222.1).bind fun t234 => (if t234 = true then (laws_FnExactNumbersOf.j0 k a1 bt222.1 bt222.2 bt230.1 bt230.2 (bt230.2 != bt222.2) l0_0 t226) else (laws_FnExactNumbersOf.j0 k a1 bt222.1 bt222.2 bt230.1 bt230.2 true l0_0 t226)))))) = some r := H
 have A10 := Aside0.mk A100
 clear A100
 replace H := Option.bind_eq_some_iff.mp H
 obtain ⟨⟨t222, t225⟩, A110, H⟩ := H
 replace H : ((laws_toIndex.f k l0_0).bind fun t226 => ((impl_NumbersOf.f k t226 a1).bind fun bt230 => ((laws_eqInt64S.f k bt230.1 t222).bind fun t234 => (if t234 = true then (laws_FnExactNumbersOf.j0 k a1 t222 t225 bt230.1 bt230.2 (bt230.2 != t225) l0_0 t226) else (laws_FnExactNumbersOf.j0 k a1 t222 t225 bt230.1 bt230.2 true l0_0 t226))))) = some r := H
 have A11 := Aside0.mk A110
 clear A110
 replace H := Option.bind_eq_some_iff.mp H
 obtain ⟨t226, A120, H⟩ := H
 replace H : ((impl_NumbersOf.f k t226 a1).bind fun bt230 => ((laws_eqInt64S.f k bt230.1 t222).bind fun t234 => (if t234 = true then (laws_FnExactNumbersOf.j0 k a1 t222 t225 bt230.1 bt230.2 (bt230.2 != t225) l0_0 t226) else (laws_FnExactNumbersOf.j0 k a1 t222 t225 bt230.1 bt230.2 true l0_0 t226)))) = some r := H
 have A12 := Aside0.mk A120
 clear A120
 replace H := Option.bind_eq_some_iff.mp H
 obtain ⟨⟨t230, t233⟩, A130, H⟩ := H
 replace H : ((laws_eqInt64S.f k t230 t222).bind fun t234 => (if t234 = true then (laws_FnExactNumbersOf.j0 k a1 t222 t225 t230 t233 (t233 != t225) l0_0 t226) else (laws_FnExactNumbersOf.j0 k a1 t222 t225 t230 t233 true l0_0 t226))) = some r := H
 have A13 := Aside0.mk A130
 clear A130
 have HC14 := Aside0.mk H
 clear H
 go_enter Try.func9, Try.ntmps9
 go_upto_region 10 with (first | ((with_reducible refine gate_dst (N := 2) rfl ?_); refine bx_ 2 #[.slice A0_0 l0_0.length c0_0] 24 ?_; intro gb217 hg w15 hbox hb; have GW217 := b6_ hg HB; have GE217 := b6_ hg HB; replace HB := Aside0.mk (below_step (y1_ HB.out) hb); have BK217 := Aside0.mk (hbox); clear hb hbox hg; have hcz16_0 := c1_ BK217 0 (.slice A0_0 l0_0.length c0_0); have hfz16_0 := f1_ BK217 0) | ((with_reducible refine gate_callee (f := 11) rfl ?_); refine goesL_ (some 21) rfl rfl Try.func11 s2_ rfl #[.agg #[.slice A0_0 l0_0.length c0_0], .int .i64 1048576] rfl s3_ ?_; (with_reducible refine (laws_szIndex.calls k _ _ l0_0 1048576 t218 _ ?side1 ?side2 A5.out).mono ?_); (case side1 => exact y2_ (Kd.C_below HR0_0.out HB.out)); (case side2 => exact HC0_0.out); rintro e w17 ⟨rfl, hb⟩; refine ⟨_, rfl, ?_⟩; replace BK217 := b3_ BK217 hb; replace HB := Aside0.mk (below_step (y1_ HB.out) hb); (try clear hb); (try clear hb2); (try clear hk); (try clear hi); have hcz18_0 := c1_ BK217 0 (.slice A0_0 l0_0.length c0_0); have hfz18_0 := f1_ BK217 0) | ((with_reducible refine gate_callee (f := 13) rfl ?_); refine goesL_ (some 26) rfl rfl Try.func13 s2_ rfl #[.agg #[.slice A0_0 l0_0.length c0_0]] rfl s3_ ?_; (with_reducible refine (laws_toIndex.calls k _ _ l0_0 t219 _ ?side1 ?side2 A10.out).mono ?_); (case side1 => exact y2_ (Kd.C_below HR0_0.out HB.out)); (case side2 => exact HC0_0.out); rintro e w19 ⟨v220, rfl, ho0, hb⟩; refine ⟨_, rfl, ?_⟩; have HO221 := Aside0.mk (Kd.S_lower ho0 (below_size (y1_ HB.out))); replace BK217 := b3_ BK217 hb; replace HB := Aside0.mk (below_step (y1_ HB.out) hb); (try clear hb); (try clear hb2); (try clear hk); (try clear hi); (try clear ho0); obtain ⟨Ao20, co20, eo20⟩ := Kd.S_slice HO221.out; subst eo20) | ((with_reducible refine gate_callee (f := 35) rfl ?_); refine goesL_ (some 28) rfl rfl Try.func35 s2_ rfl #[.agg #[.slice Ao20 t219.length co20], .string a1] rfl s3_ ?_; (with_reducible refine (spec_NumbersOf.calls k _ _ t219 a1 t222 t225 _ ?side1 ?side2 A11.out).mono ?_); (case side1 => exact y2_ (Kd.S_reads' HO221.out).2.2); (case side2 => exact (Kd.S_reads' HO221.out).2.1); rintro e w21 ⟨v223, rfl, ho0, hb⟩; refine ⟨_, rfl, ?_⟩; replace HO221 := Aside0.mk (Kd.S_elder' (by (with_reducible repeat (first | apply Kd.S_alloc | apply Kd.S_drewN | apply Kd.S_drew)); exact HO221.out) (Kd.R_base ho0) hb); have HO224 := Aside0.mk (Kd.R_lower ho0 (below_size (y1_ HB.out))); replace BK217 := b3_ BK217 hb; replace HB := Aside0.mk (below_step (y1_ HB.out) hb); (try clear hb); (try clear hb2); (try clear hk); (try clear hi); (try clear ho0); have hcz22_0 := c1_ BK217 0 (.slice A0_0 l0_0.length c0_0); have hfz22_0 := f1_ BK217 0) | ((with_reducible refine gate_callee (f := 13) rfl ?_); refine goesL_ (some 32) rfl rfl Try.func13 s2_ rfl #[.agg #[.slice A0_0 l0_0.length c0_0]] rfl s3_ ?_; (with_reducible refine (laws_toIndex.calls k _ _ l0_0 t226 _ ?side1 ?side2 A12.out).mono ?_); (case side1 => exact y2_ (Kd.C_below HR0_0.out HB.out)); (case side2 => exact HC0_0.out); rintro e w23 ⟨v227, rfl, ho0, hb⟩; refine ⟨_, rfl, ?_⟩; have n0_ := Aside0.mk (Kd.S_elder' (by (with_reducible repeat (first | apply Kd.S_alloc | apply Kd.S_drewN | apply Kd.S_drew)); exact HO221.out) (Kd.S_base ho0) hb); have n1_ := r1_ HO224 hb; have n2_ := Aside0.mk (Kd.S_lower (Kd.S_new' (Kd.S_new' ho0 (Kd.S_lt (by (with_reducible repeat (first | apply Kd.S_alloc | apply Kd.S_drewN | apply Kd.S_drew)); exact HO221.out))) (Kd.R_lt (b2_ HO224.out))) (below_size (y1_ HB.out))); have n3_ := b3_ BK217 hb; have n4_ := Aside0.mk (below_step (y1_ HB.out) hb); clear HO221; clear HO224; clear BK217; clear HB; have HO221 := n0_; have HO224 := n1_; have HO228 := n2_; have BK217 := n3_; have HB := n4_; clear n0_ n1_ n2_ n3_ n4_; (try clear hb); (try clear hb2); (try clear hk); (try clear hi); (try clear ho0)) | ((with_reducible refine gate_dst (N := 8) rfl ?_); refine bx_ 8 #[.slice none 0 0] 29 ?_; intro gb229 hg w24 hbox hb; have GW229 := b6_ hg HB; have GE229 := b6_ hg HB; have NB217_229 := b4_ hg BK217; have NB229_217 := b5_ hg BK217; replace HO221 := Aside0.mk (Kd.S_below (by (with_reducible repeat (first | apply Kd.S_alloc | apply Kd.S_drewN | apply Kd.S_drew)); exact HO221.out) hb); replace HO224 := r1_ HO224 hb; replace HO228 := Aside0.mk (Kd.S_below (by (with_reducible repeat (first | apply Kd.S_alloc | apply Kd.S_drewN | apply Kd.S_drew)); exact HO228.out) hb); replace BK217 := b3_ BK217 hb; replace HB := Aside0.mk (below_step (y1_ HB.out) hb); have BK229 := Aside0.mk (hbox); clear hb hbox hg; obtain ⟨Ao25, co25, eo25⟩ := Kd.S_slice HO228.out; subst eo25; have hnb26 := NB229_217.out; have hnc26 := NB217_229.out; have hcz27_0 := c1_ BK229 0 (.slice none 0 0); have hfz27_0 := f1_ BK229 0) | ((with_reducible refine gate_callee (f := 36) rfl ?_); refine goesL_ (some 36) rfl rfl Try.func36 s2_ rfl #[.agg #[.slice Ao25 t226.length co25], .string a1] rfl s3_ ?_; (with_reducible refine (impl_NumbersOf.calls k _ _ t226 a1 t230 t233 _ ?side1 ?side2 A13.out).mono ?_); (case side1 => refine (Kd.S_reads' (e := 63) (base := w.heap.size) (ok := fun k_ => ((True ∧ some k_ ≠ (.slice Ao20 t219.length co20 : Value).ownBlock) ∧ some k_ ≠ (v223 : Value).ownBlock)) (n := t226.length) (c := co25) ?_).2.2; exact (by (with_reducible repeat (first | apply Kd.S_alloc | apply Kd.S_drewN | apply Kd.S_drew)); exact (Kd.S_mono (Kd.S_far (p := ⟨gb229, 0, none⟩) (Kd.S_types HO228.out BK229.out (by decide)) (fun _ hk => hk.2) (.slice Ao25 t226.length co25)) (fun _ h_ => h_.1)))); (case side2 => exact (Kd.S_reads' HO228.out).2.1); rintro e w28 ⟨v231, rfl, ho0, hb⟩; refine ⟨_, rfl, ?_⟩; have n0_ := Aside0.mk (Kd.S_elder' (by (with_reducible repeat (first | apply Kd.S_alloc | apply Kd.S_drewN | apply Kd.S_drew)); exact (Kd.S_mono (Kd.S_far (p := ⟨gb229, 0, none⟩) (Kd.S_types HO221.out BK229.out (by decide)) (fun _ hk => hk.2) (.slice Ao25 t226.length co25)) (fun _ h_ => h_.1))) (Kd.R_base ho0) hb); have n1_ := Aside0.mk (Kd.R_elder' (by (with_reducible repeat (first | apply Kd.R_alloc | apply Kd.R_drewN | apply Kd.R_drew)); exact (Kd.R_mono (Kd.R_far (p := ⟨gb229, 0, none⟩) (Kd.R_types HO224.out BK229.out (by decide)) (fun _ hk => hk.2) (.slice Ao25 t226.length co25)) (fun _ h_ => h_.1))) (Kd.R_base ho0) hb); have n2_ := Aside0.mk (Kd.S_elder' (by (with_reducible repeat (first | apply Kd.S_alloc | apply Kd.S_drewN | apply Kd.S_drew)); exact (Kd.S_mono (Kd.S_far (p := ⟨gb229, 0, none⟩) (Kd.S_types HO228.out BK229.out (by decide)) (fun _ hk => hk.2) (.slice Ao25 t226.length co25)) (fun _ h_ => h_.1))) (Kd.R_base ho0) hb); have n3_ := Aside0.mk (Kd.R_lower (Kd.R_new' ho0 (Kd.R_lt (by (with_reducible repeat (first | apply Kd.R_alloc | apply Kd.R_drewN | apply Kd.R_drew)); exact (Kd.R_mono (Kd.R_far (p := ⟨gb229, 0, none⟩) (Kd.R_types HO224.out BK229.out (by decide)) (fun _ hk => hk.2) (.slice Ao25 t226.length co25)) (fun _ h_ => h_.1))))) (below_size (by repeat (first | (with_reducible first | exact HB.out | apply below_alloc | apply pw_below_drewN | apply below_drew1 | refine below_set ?_ GE229.out) | exact HB.out)))); have n4_ := Aside0.mk (blk_below (g := gb217) (o := .cells #[.slice A0_0 l0_0.length c0_0] 24 (0, 0)) (by (with_reducible repeat (first | refine blk_drewN ?_ _ | refine blk_drew ?_ | refine blk_alloc ?_ _)); refine blk_far ?_ NB217_229.out _; (with_reducible repeat (first | refine blk_drewN ?_ _ | refine blk_drew ?_ | refine blk_alloc ?_ _)); exact BK217.out) hb); have n5_ := Aside0.mk (blk_below (g := gb229) (o := .cells #[.slice Ao25 t226.length co25] 29 (0, 0)) (by (with_reducible repeat (first | refine blk_drewN ?_ _ | refine blk_drew ?_ | refine blk_alloc ?_ _)); refine blk_put (cs := #[.slice none 0 0]) ?_ 0 _ rfl; (with_reducible repeat (first | refine blk_drewN ?_ _ | refine blk_drew ?_ | refine blk_alloc ?_ _)); exact BK229.out) hb); have n6_ := Aside0.mk (below_step (by repeat (first | (with_reducible first | exact HB.out | apply below_alloc | apply pw_below_drewN | apply below_drew1 | refine below_set ?_ GE229.out) | exact HB.out)) hb); clear HO221; clear HO224; clear HO228; clear BK217; clear BK229; clear HB; have HO221 := n0_; have HO224 := n1_; have HO228 := n2_; have HO232 := n3_; have BK217 := n4_; have BK229 := n5_; have HB := n6_; clear n0_ n1_ n2_ n3_ n4_ n5_ n6_; (try clear hb); (try clear hb2); (try clear hk); (try clear hi); (try clear ho0)))
 (try simp only [Act.put, List.setIfInBounds_toArray, List.set_cons_zero, List.set_cons_succ])
 go_cut [47] (fun v47 wc => ∃ (kq : Nat) (x47_13 : Bool), v47 = .bool x47_13 ∧ Aside0 (laws_FnExactNumbersOf.j0 kq a1 t222 t225 t230 t233 x47_13 l0_0 t226 = some r) ∧ Aside0 (kq ≤ k) ∧ Aside0 (Kd.R (Kd.int .i64) 2 wc w.heap.size (fun k_ => some k_ ≠ (v231 : Value).ownBlock) v223 t222) ∧ Aside0 (Kd.R (Kd.int .i64) 2 wc w.heap.size (fun k_ => some k_ ≠ (v223 : Value).ownBlock) v231 t230) ∧ Aside0 (Kd.S k63 63 wc w.heap.size (fun k_ => some k_ ≠ (v223 : Value).ownBlock ∧ some k_ ≠ (v231 : Value).ownBlock) (.slice Ao25 t226.length co25) t226) ∧ Aside0 (wc.heap[gb217]? = some (.cells #[(.slice A0_0 l0_0.length c0_0)] 24 (0, 0))) ∧ Aside0 (wc.heap[gb229]? = some (.cells #[(.slice Ao25 t226.length co25)] 29 (0, 0))) ∧ Aside0 (Below w.heap.size w wc))
 case first =>
  skip
  {
 have H := HC14.out
 clear HC14
 replace H := Option.bind_eq_some_iff.mp H
 obtain ⟨t234, A290, H⟩ := H
 replace H : (if t234 = true then (laws_FnExactNumbersOf.j0 k a1 t222 t225 t230 t233 (t233 != t225) l0_0 t226) else (laws_FnExactNumbersOf.j0 k a1 t222 t225 t230 t233 true l0_0 t226)) = some r := H
 have A29 := Aside0.mk A290
 clear A290
 by_cases c30 : t234 = true
 {
 subst c30
 have H1 : (laws_FnExactNumbersOf.j0 k a1 t222 t225 t230 t233 (t233 != t225) l0_0 t226) = some r := by rw [if_pos rfl] at H; exact H
 clear H
 have H := H1
 clear H1
 have H' := Aside0.mk H
 clear H
 obtain ⟨Ao31, co31, eo31⟩ := Kd.R_slice HO232.out
 subst eo31
 obtain ⟨Ao32, co32, eo32⟩ := Kd.R_slice HO224.out
 subst eo32
 go_wp2_with (first | ((with_reducible refine gate_callee (f := 37) rfl ?_); refine goesL_ (some 41) rfl rfl Try.func37 s2_ rfl #[.slice Ao31 t230.length co31, .slice Ao32 t222.length co32] rfl s3_ ?_; (with_reducible refine (laws_eqInt64S.calls k _ _ t230 _ _ t222 true _ ?side1 ?side2 ?side3 ?side4 A29.out).mono ?_); (case side1 => exact y2_ (Kd.R_reads' HO232.out).2.2); (case side2 => exact (Kd.R_reads' HO232.out).2.1); (case side3 => exact y2_ (Kd.R_reads' HO224.out).2.2); (case side4 => exact (Kd.R_reads' HO224.out).2.1); rintro e w' ⟨rfl, ⟨nd, rfl⟩⟩; refine ⟨_, rfl, ?_⟩))
 go_meet
 case rel => exact ⟨_, ((t233 != t225)), s1_, H', ⟨by first | omega | exact Nat.le_refl _⟩, ⟨by (with_reducible repeat (first | apply Kd.R_alloc | apply Kd.R_drewN | apply Kd.R_drew)); exact Kd.R_mono HO224.out (fun _ hk => hk.2)⟩, ⟨by (with_reducible repeat (first | apply Kd.R_alloc | apply Kd.R_drewN | apply Kd.R_drew)); exact Kd.R_mono HO232.out (fun _ hk => hk.2)⟩, ⟨by (with_reducible repeat (first | apply Kd.S_alloc | apply Kd.S_drewN | apply Kd.S_drew)); exact Kd.S_mono HO228.out (fun _ hk => ⟨hk.1.2, hk.2⟩)⟩, ⟨b1_ BK217.out⟩, ⟨b1_ BK229.out⟩, ⟨by repeat (first | (with_reducible first | exact HB.out | apply below_alloc | apply pw_below_drewN | apply below_drew1) | exact HB.out)⟩⟩}
 {
 replace c30 := Bool.eq_false_iff.mpr c30
 subst c30
 have H1 : (laws_FnExactNumbersOf.j0 k a1 t222 t225 t230 t233 true l0_0 t226) = some r := by rw [if_neg (show ¬ (false = true) by decide)] at H; exact H
 clear H
 have H := H1
 clear H1
 have H' := Aside0.mk H
 clear H
 obtain ⟨Ao33, co33, eo33⟩ := Kd.R_slice HO232.out
 subst eo33
 obtain ⟨Ao34, co34, eo34⟩ := Kd.R_slice HO224.out
 subst eo34
 go_wp2_with (first | ((with_reducible refine gate_callee (f := 37) rfl ?_); refine goesL_ (some 41) rfl rfl Try.func37 s2_ rfl #[.slice Ao33 t230.length co33, .slice Ao34 t222.length co34] rfl s3_ ?_; (with_reducible refine (laws_eqInt64S.calls k _ _ t230 _ _ t222 false _ ?side1 ?side2 ?side3 ?side4 A29.out).mono ?_); (case side1 => exact y2_ (Kd.R_reads' HO232.out).2.2); (case side2 => exact (Kd.R_reads' HO232.out).2.1); (case side3 => exact y2_ (Kd.R_reads' HO224.out).2.2); (case side4 => exact (Kd.R_reads' HO224.out).2.1); rintro e w' ⟨rfl, ⟨nd, rfl⟩⟩; refine ⟨_, rfl, ?_⟩))
 go_meet
 case rel => exact ⟨_, (true), s1_, H', ⟨by first | omega | exact Nat.le_refl _⟩, ⟨by (with_reducible repeat (first | apply Kd.R_alloc | apply Kd.R_drewN | apply Kd.R_drew)); exact Kd.R_mono HO224.out (fun _ hk => hk.2)⟩, ⟨by (with_reducible repeat (first | apply Kd.R_alloc | apply Kd.R_drewN | apply Kd.R_drew)); exact Kd.R_mono HO232.out (fun _ hk => hk.2)⟩, ⟨by (with_reducible repeat (first | apply Kd.S_alloc | apply Kd.S_drewN | apply Kd.S_drew)); exact Kd.S_mono HO228.out (fun _ hk => ⟨hk.1.2, hk.2⟩)⟩, ⟨b1_ BK217.out⟩, ⟨b1_ BK229.out⟩, ⟨by repeat (first | (with_reducible first | exact HB.out | apply below_alloc | apply pw_below_drewN | apply below_drew1) | exact HB.out)⟩⟩}}
 case rest =>
  skip
  {
 clear HC14
 try clear c1
 try clear c2
 try clear p2
 try clear c3
 try clear c3b0
 try clear c3b1
 try clear c6
 try clear c6b0
 try clear c9
 try clear c11
 try clear c13
 try clear c26
 try clear c30
 try clear hcz16_0
 try clear hcz18_0
 try clear hcz22_0
 try clear hcz27_0
 try clear hcz8_0
 try clear hfz16_0
 try clear hfz18_0
 try clear hfz22_0
 try clear hfz27_0
 try clear hfz8_0
 obtain ⟨kq, x47_13, rfl, HA, HJ13, HO_6, HO_9, HO_230000, BK217, BK229, HB⟩ := hcut
 cases kq with
 | zero => exact absurd HA.out (by simp [laws_FnExactNumbersOf.j0])
 | succ kj13 =>
  skip
  {
 have H := HA.out
 clear HA
 simp only [laws_FnExactNumbersOf.j0] at H
 by_cases c35 : x47_13 = true
 {
 subst c35
 have H1 : (some false) = some r := by rw [if_pos rfl] at H; exact H
 clear H
 have H := H1
 clear H1
 obtain rfl := Option.some.inj H
 go_wp2
 go_ret
 exact ⟨by first | rfl | (simp [errW_none, errW_some] <;> rfl) | (simp [*, errW_none, errW_some] <;> rfl), by repeat (first | (with_reducible first | exact HB.out | apply below_alloc | apply pw_below_drewN | apply below_drew1) | exact HB.out)⟩}
 {
 replace c35 := Bool.eq_false_iff.mpr c35
 subst c35
 have H1 : ((laws_toIndex.f kj13 l0_0).bind fun t235 => ((laws_eqIndex.f kj13 t226 t235).bind fun t238 => (if t238 = true then ((laws_markIndex.f kj13 t226 1).bind fun t239 => (if t239 < 0 then (laws_FnExactNumbersOf.j1 kj13 a1 t222 t225 t230 true l0_0) else ((laws_eqInt64S.f kj13 t230 t222).bind fun t240 => (if t240 = true then (laws_FnExactNumbersOf.j1 kj13 a1 t222 t225 t230 (t233 != t225) l0_0) else (laws_FnExactNumbersOf.j1 kj13 a1 t222 t225 t230 true l0_0))))) else (some false)))) = some r := by rw [if_neg (show ¬ (false = true) by decide)] at H; exact H
 clear H
 have H := H1
 clear H1
 replace H := Option.bind_eq_some_iff.mp H
 obtain ⟨t235, A360, H⟩ := H
 replace H : ((laws_eqIndex.f kj13 t226 t235).bind fun t238 => (if t238 = true then ((laws_markIndex.f kj13 t226 1).bind fun t239 => (if t239 < 0 then (laws_FnExactNumbersOf.j1 kj13 a1 t222 t225 t230 true l0_0) else ((laws_eqInt64S.f kj13 t230 t222).bind fun t240 => (if t240 = true then (laws_FnExactNumbersOf.j1 kj13 a1 t222 t225 t230 (t233 != t225) l0_0) else (laws_FnExactNumbersOf.j1 kj13 a1 t222 t225 t230 true l0_0))))) else (some false))) = some r := H
 have A36 := Aside0.mk A360
 clear A360
 replace H := Option.bind_eq_some_iff.mp H
 obtain ⟨t238, A370, H⟩ := H
 replace H : (if t238 = true then ((laws_markIndex.f kj13 t226 1).bind fun t239 => (if t239 < 0 then (laws_FnExactNumbersOf.j1 kj13 a1 t222 t225 t230 true l0_0) else ((laws_eqInt64S.f kj13 t230 t222).bind fun t240 => (if t240 = true then (laws_FnExactNumbersOf.j1 kj13 a1 t222 t225 t230 (t233 != t225) l0_0) else (laws_FnExactNumbersOf.j1 kj13 a1 t222 t225 t230 true l0_0))))) else (some false)) = some r := H
 have A37 := Aside0.mk A370
 clear A370
 by_cases c38 : t238 = true
 {
 subst c38
 have H1 : ((laws_markIndex.f kj13 t226 1).bind fun t239 => (if t239 < 0 then (laws_FnExactNumbersOf.j1 kj13 a1 t222 t225 t230 true l0_0) else ((laws_eqInt64S.f kj13 t230 t222).bind fun t240 => (if t240 = true then (laws_FnExactNumbersOf.j1 kj13 a1 t222 t225 t230 (t233 != t225) l0_0) else (laws_FnExactNumbersOf.j1 kj13 a1 t222 t225 t230 true l0_0))))) = some r := by rw [if_pos rfl] at H; exact H
 clear H
 have H := H1
 clear H1
 replace H := Option.bind_eq_some_iff.mp H
 obtain ⟨t239, A390, H⟩ := H
 replace H : (if t239 < 0 then (laws_FnExactNumbersOf.j1 kj13 a1 t222 t225 t230 true l0_0) else ((laws_eqInt64S.f kj13 t230 t222).bind fun t240 => (if t240 = true then (laws_FnExactNumbersOf.j1 kj13 a1 t222 t225 t230 (t233 != t225) l0_0) else (laws_FnExactNumbersOf.j1 kj13 a1 t222 t225 t230 true l0_0)))) = some r := H
 have A39 := Aside0.mk A390
 clear A390
 have HC40 := Aside0.mk H
 clear H
 try go_wp2
 replace HO_6 := Aside0.mk (Kd.R_drew HO_6.out)
 replace HO_9 := Aside0.mk (Kd.R_drew HO_9.out)
 replace HO_230000 := Aside0.mk (Kd.S_drew HO_230000.out)
 replace BK217 := Aside0.mk (blk_drew BK217.out)
 replace BK229 := Aside0.mk (blk_drew BK229.out)
 replace HB := Aside0.mk (below_drew1 HB.out)
 refine start_ (n := 5) (S := fun w' => w'.cell? ⟨gb229, 0, none⟩ = some (.slice Ao25 t226.length co25) ∧ w'.cell? ⟨gb217, 0, none⟩ = some (.slice A0_0 l0_0.length c0_0)) (ds := []) #[F,F,F,F,F] s2_ rfl rfl ⟨(blk_cell BK229.out 0).trans rfl, (blk_cell BK217.out 0).trans rfl⟩ (fun hHeld => ?_)
 generalize wc.drew = w41 at HO_6 HO_9 HO_230000 BK217 BK229 HB hHeld ⊢
 refine take_ (i := 0) (N := some 48) (v := ?_) (a' := ?_) #[T,F,F,F,F] rfl rfl s2_ (fun _ _ _ h => h) (Or.inl ⟨by rfl, ?_⟩) hHeld ?_ ?_
 rotate_left
 {
 rintro w' ⟨s0, s1⟩
 go_simp
 with_reducible rfl}
 rotate_left
 · exact p1_
 refine take_ (i := 1) (N := some 49) (v := ?_) (a' := ?_) #[T,T,F,F,F] rfl rfl s2_ (fun _ _ _ h => h) (Or.inl ⟨by rfl, ?_⟩) hHeld ?_ ?_
 rotate_left
 {
 rintro w' ⟨s0, s1⟩
 go_simp
 with_reducible rfl}
 rotate_left
 · exact p1_
 refine one_ (i := 2) (N := some 50) #[T,T,T,F,F] rfl rfl s2_ (by decide) (fun K hK => ?_)
 refine goes_ Try.func13 s2_ rfl #[.agg #[.slice A0_0 l0_0.length c0_0]] (by rfl) rfl rfl s3_ ?_
 with_reducible refine (laws_toIndex.calls kj13 _ _ l0_0 t235 _ ?side1 ?side2 A36.out).mono ?_
 (case side1 => exact y2_ (Kd.C_below HR0_0.out HB.out))
 (case side2 => exact HC0_0.out)
 rintro e w42 ⟨v236, rfl, ho0, hb⟩
 refine ⟨_, rfl, ?_⟩
 have n0_ := r1_ HO_6 hb
 have n1_ := r1_ HO_9 hb
 have n2_ := Aside0.mk (Kd.S_elder' (by (with_reducible repeat (first | apply Kd.S_alloc | apply Kd.S_drewN | apply Kd.S_drew)); exact HO_230000.out) (Kd.S_base ho0) hb)
 have n3_ := Aside0.mk (Kd.S_lower (Kd.S_new' (Kd.S_new' (Kd.S_new' ho0 (Kd.R_lt (b2_ HO_6.out))) (Kd.R_lt (b2_ HO_9.out))) (Kd.S_lt (by (with_reducible repeat (first | apply Kd.S_alloc | apply Kd.S_drewN | apply Kd.S_drew)); exact HO_230000.out))) (below_size (y1_ HB.out)))
 have n4_ := b3_ BK217 hb
 have n5_ := b3_ BK229 hb
 have n6_ := Aside0.mk (below_step (y1_ HB.out) hb)
 clear HO_6
 clear HO_9
 clear HO_230000
 clear BK217
 clear BK229
 clear HB
 have HO_6 := n0_
 have HO_9 := n1_
 have HO_230000 := n2_
 have HO237 := n3_
 have BK217 := n4_
 have BK229 := n5_
 have HB := n6_
 clear n0_ n1_ n2_ n3_ n4_ n5_ n6_
 (try clear hb)
 (try clear hb2)
 (try clear hk)
 (try clear hi)
 (try clear ho0)
 obtain ⟨Ao43, co43, eo43⟩ := Kd.S_slice HO237.out
 (first | subst eo43 | (injection eo43 with f1_ f2_ f3_; have f4_ := f1_.symm; have f5_ := f3_.symm; clear f1_ f2_ f3_; subst f4_; subst f5_))
 refine hK.out _ _ ⟨(blk_cell BK229.out 0).trans rfl, (blk_cell BK217.out 0).trans rfl⟩ (fun hHeld => ?_)
 clear hK K
 refine norm_ (a' := ?_) ?_ ?_
 rotate_left
 {
 show Act.put _ (some 50) _ = _
 simp only [Act.put, List.setIfInBounds_toArray, List.set_cons_zero, List.set_cons_succ, i64_w, i32_w]
 rfl}
 refine one_ (i := 3) (N := some 51) #[T,T,T,T,F] rfl rfl s2_ (by decide) (fun K hK => ?_)
 refine goes_ Try.func15 s2_ rfl #[.agg #[.slice Ao25 t226.length co25], .agg #[.slice Ao43 t235.length co43]] (by rfl) rfl rfl s3_ ?_
 with_reducible refine (laws_eqIndex.calls kj13 _ _ t226 _ _ t235 true _ ?side1 ?side2 ?side3 ?side4 A37.out).mono ?_
 (case side1 => exact y2_ (Kd.S_reads' HO_230000.out).2.2)
 (case side2 => exact (Kd.S_reads' HO_230000.out).2.1)
 (case side3 => exact y2_ (Kd.S_reads' HO237.out).2.2)
 (case side4 => exact (Kd.S_reads' HO237.out).2.1)
 rintro e w44 ⟨rfl, hb⟩
 refine ⟨_, rfl, ?_⟩
 replace HO_6 := r1_ HO_6 hb
 replace HO_9 := r1_ HO_9 hb
 replace HO_230000 := Aside0.mk (Kd.S_below (by (with_reducible repeat (first | apply Kd.S_alloc | apply Kd.S_drewN | apply Kd.S_drew)); exact HO_230000.out) hb)
 replace HO237 := Aside0.mk (Kd.S_below (by (with_reducible repeat (first | apply Kd.S_alloc | apply Kd.S_drewN | apply Kd.S_drew)); exact HO237.out) hb)
 replace BK217 := b3_ BK217 hb
 replace BK229 := b3_ BK229 hb
 replace HB := Aside0.mk (below_step (y1_ HB.out) hb)
 (try clear hb)
 (try clear hb2)
 (try clear hk)
 (try clear hi)
 refine hK.out _ _ ⟨(blk_cell BK229.out 0).trans rfl, (blk_cell BK217.out 0).trans rfl⟩ (fun hHeld => ?_)
 clear hK K
 refine norm_ (a' := ?_) ?_ ?_
 rotate_left
 {
 show Act.put _ (some 51) _ = _
 simp only [Act.put, List.setIfInBounds_toArray, List.set_cons_zero, List.set_cons_succ, i64_w, i32_w]
 rfl}
 refine pure_ (i := 4) (N := some 52) (v := ?_) (a' := ?_) #[T,T,T,T,T] rfl rfl s2_ (fun _ _ _ h => h) (Or.inl ⟨by rfl, ?_⟩) ?_ ?_
 rotate_left
 {
 intro w'
 go_simp
 with_reducible rfl}
 rotate_left
 · exact p1_
 refine done_ s2_ ?_
 have hnb45 := NB229_217.out
 have hnc45 := NB217_229.out
 have hcz46_0 := c1_ BK229 0 (.slice Ao25 t226.length co25)
 have hfz46_0 := f1_ BK229 0
 go_upto_region 16 with (first | ((with_reducible refine gate_callee (f := 32) rfl ?_); refine goesL_ (some 55) rfl rfl Try.func32 s2_ rfl #[.agg #[.slice Ao25 t226.length co25], .int .i64 1] rfl s3_ ?_; (refine (laws_markIndex.own kj13 ?P_ _ t226 1 t239 w _ ?hb1_ ?ho1_ A39.out).mono ?_); (case ho1_ => exact Kd.S_bound HO_230000.out); (case hb1_ => exact y1_ HB.out); rintro e w47 ⟨rfl, ⟨r2_, hs2_⟩, hb, hkp⟩; refine ⟨_, rfl, ?_⟩; have lt0_ := Kd.R_lt HO_6.out; have lt1_ := Kd.R_lt HO_9.out; replace HO_6 := Aside0.mk (laws_markIndex.k_own hkp HO_6.out rfl (fun _ h_ => h_.1.1)); replace HO_9 := Aside0.mk (laws_markIndex.k_own hkp HO_9.out rfl (fun _ h_ => h_.1.2)); replace HO_230000 := Aside0.mk (Kd.S_mono (ok' := fun k_ => ((some k_ ≠ (v223 : Value).ownBlock ∧ some k_ ≠ (v231 : Value).ownBlock)) ∧ True) hs2_ (fun k_ hk_ => hk_.elim (fun h_ => ⟨h_.1.1, trivial⟩) (fun h_ => ⟨⟨fun e_ => absurd (lt0_ k_ e_.symm) (Nat.not_lt.2 h_), fun e_ => absurd (lt1_ k_ e_.symm) (Nat.not_lt.2 h_)⟩, trivial⟩))); clear HO237; replace BK217 := Aside0.mk (laws_markIndex.k_blk hkp BK217.out (by decide)); replace BK229 := Aside0.mk (laws_markIndex.k_blk hkp BK229.out (by decide)); replace HB := Aside0.mk hb; clear hs2_ hkp; (try clear hb); (try clear hb2); (try clear hk); (try clear hi)))
 (try simp only [Act.put, List.setIfInBounds_toArray, List.set_cons_zero, List.set_cons_succ])
 go_cut [68] (fun v68 wc => ∃ (kq : Nat) (x68_39 : Bool), v68 = .bool x68_39 ∧ Aside0 (laws_FnExactNumbersOf.j1 kq a1 t222 t225 t230 x68_39 l0_0 = some r) ∧ Aside0 (kq ≤ kj13) ∧ Aside0 (Kd.R (Kd.int .i64) 2 wc w.heap.size (fun k_ => some k_ ≠ (v231 : Value).ownBlock) v223 t222) ∧ Aside0 (Kd.R (Kd.int .i64) 2 wc w.heap.size (fun k_ => some k_ ≠ (v223 : Value).ownBlock) v231 t230) ∧ Aside0 (Kd.S k63 63 wc w.heap.size (fun k_ => some k_ ≠ (v223 : Value).ownBlock ∧ some k_ ≠ (v231 : Value).ownBlock) (.slice Ao25 t226.length co25) r2_) ∧ Aside0 (wc.heap[gb217]? = some (.cells #[(.slice A0_0 l0_0.length c0_0)] 24 (0, 0))) ∧ Aside0 (wc.heap[gb229]? = some (.cells #[(.slice Ao25 t226.length co25)] 29 (0, 0))) ∧ Aside0 (Below w.heap.size w wc))
 case first =>
  skip
  {
 have H := HC40.out
 clear HC40
 by_cases c48 : t239 < 0
 {
 rw [if_pos c48] at H
 have c48b0 : decide (t239 < 0) = true := decide_eq_true c48
 clear c48
 (first | rw [c48b0] | (simp only [i64_w, i32_w]; rw [c48b0]) | skip)
 have H' := Aside0.mk H
 clear H
 go_wp2
 go_meet
 case rel => exact ⟨_, (true), s1_, H', ⟨by have := HJ13.out; first | omega | exact Nat.le_refl _⟩, ⟨b2_ HO_6.out⟩, ⟨b2_ HO_9.out⟩, ⟨by (with_reducible repeat (first | apply Kd.S_alloc | apply Kd.S_drewN | apply Kd.S_drew)); exact Kd.S_mono HO_230000.out (fun _ hk => ⟨hk.1.1, hk.1.2⟩)⟩, ⟨b1_ BK217.out⟩, ⟨b1_ BK229.out⟩, ⟨by repeat (first | (with_reducible first | exact HB.out | apply below_alloc | apply pw_below_drewN | apply below_drew1) | exact HB.out)⟩⟩}
 {
 rw [if_neg c48] at H
 have c48b0 : decide (t239 < 0) = false := decide_eq_false c48
 clear c48
 (first | rw [c48b0] | (simp only [i64_w, i32_w]; rw [c48b0]) | skip)
 replace H := Option.bind_eq_some_iff.mp H
 obtain ⟨t240, A490, H⟩ := H
 replace H : (if t240 = true then (laws_FnExactNumbersOf.j1 kj13 a1 t222 t225 t230 (t233 != t225) l0_0) else (laws_FnExactNumbersOf.j1 kj13 a1 t222 t225 t230 true l0_0)) = some r := H
 have A49 := Aside0.mk A490
 clear A490
 by_cases c50 : t240 = true
 {
 subst c50
 have H1 : (laws_FnExactNumbersOf.j1 kj13 a1 t222 t225 t230 (t233 != t225) l0_0) = some r := by rw [if_pos rfl] at H; exact H
 clear H
 have H := H1
 clear H1
 have H' := Aside0.mk H
 clear H
 obtain ⟨Ao51, co51, eo51⟩ := Kd.R_slice HO_9.out
 subst eo51
 obtain ⟨Ao52, co52, eo52⟩ := Kd.R_slice HO_6.out
 subst eo52
 go_wp2_with (first | (go_at_call 37; (with_reducible refine (laws_eqInt64S.calls kj13 _ _ t230 _ _ t222 true _ ?side1 ?side2 ?side3 ?side4 A49.out).mono ?_); (case side1 => exact y2_ (Kd.R_reads' HO_9.out).2.2); (case side2 => exact (Kd.R_reads' HO_9.out).2.1); (case side3 => exact y2_ (Kd.R_reads' HO_6.out).2.2); (case side4 => exact (Kd.R_reads' HO_6.out).2.1); rintro e w' ⟨rfl, ⟨nd, rfl⟩⟩))
 go_meet
 case rel => exact ⟨_, ((t233 != t225)), s1_, H', ⟨by have := HJ13.out; first | omega | exact Nat.le_refl _⟩, ⟨b2_ HO_6.out⟩, ⟨b2_ HO_9.out⟩, ⟨by (with_reducible repeat (first | apply Kd.S_alloc | apply Kd.S_drewN | apply Kd.S_drew)); exact Kd.S_mono HO_230000.out (fun _ hk => ⟨hk.1.1, hk.1.2⟩)⟩, ⟨b1_ BK217.out⟩, ⟨b1_ BK229.out⟩, ⟨by repeat (first | (with_reducible first | exact HB.out | apply below_alloc | apply pw_below_drewN | apply below_drew1) | exact HB.out)⟩⟩}
 {
 replace c50 := Bool.eq_false_iff.mpr c50
 subst c50
 have H1 : (laws_FnExactNumbersOf.j1 kj13 a1 t222 t225 t230 true l0_0) = some r := by rw [if_neg (show ¬ (false = true) by decide)] at H; exact H
 clear H
 have H := H1
 clear H1
 have H' := Aside0.mk H
 clear H
 obtain ⟨Ao53, co53, eo53⟩ := Kd.R_slice HO_9.out
 subst eo53
 obtain ⟨Ao54, co54, eo54⟩ := Kd.R_slice HO_6.out
 subst eo54
 go_wp2_with (first | (go_at_call 37; (with_reducible refine (laws_eqInt64S.calls kj13 _ _ t230 _ _ t222 false _ ?side1 ?side2 ?side3 ?side4 A49.out).mono ?_); (case side1 => exact y2_ (Kd.R_reads' HO_9.out).2.2); (case side2 => exact (Kd.R_reads' HO_9.out).2.1); (case side3 => exact y2_ (Kd.R_reads' HO_6.out).2.2); (case side4 => exact (Kd.R_reads' HO_6.out).2.1); rintro e w' ⟨rfl, ⟨nd, rfl⟩⟩))
 go_meet
 case rel => exact ⟨_, (true), s1_, H', ⟨by have := HJ13.out; first | omega | exact Nat.le_refl _⟩, ⟨b2_ HO_6.out⟩, ⟨b2_ HO_9.out⟩, ⟨by (with_reducible repeat (first | apply Kd.S_alloc | apply Kd.S_drewN | apply Kd.S_drew)); exact Kd.S_mono HO_230000.out (fun _ hk => ⟨hk.1.1, hk.1.2⟩)⟩, ⟨b1_ BK217.out⟩, ⟨b1_ BK229.out⟩, ⟨by repeat (first | (with_reducible first | exact HB.out | apply below_alloc | apply pw_below_drewN | apply below_drew1) | exact HB.out)⟩⟩}}}
 case rest =>
  skip
  {
 clear HC40
 try clear c1
 try clear c2
 try clear p2
 try clear c3
 try clear c3b0
 try clear c3b1
 try clear c4
 try clear c5
 try clear c6
 try clear c6b0
 try clear c9
 try clear c11
 try clear c13
 try clear c15
 try clear c26
 try clear c30
 try clear c32
 try clear c35
 try clear c36
 try clear c37
 try clear c38
 try clear c45
 try clear c48
 try clear c48b0
 try clear c50
 try clear hcz16_0
 try clear hcz18_0
 try clear hcz22_0
 try clear hcz27_0
 try clear hcz46_0
 try clear hcz8_0
 try clear hfz16_0
 try clear hfz18_0
 try clear hfz22_0
 try clear hfz27_0
 try clear hfz46_0
 try clear hfz8_0
 try clear p2
 obtain ⟨kq, x68_39, rfl, HA, HJ39, HO_6, HO_9, HO_230000, BK217, BK229, HB⟩ := hcut
 cases kq with
 | zero => exact absurd HA.out (by simp [laws_FnExactNumbersOf.j1])
 | succ kj39 =>
  skip
  {
 have H := HA.out
 clear HA
 simp only [laws_FnExactNumbersOf.j1] at H
 by_cases c55 : x68_39 = true
 {
 subst c55
 have H1 : (some false) = some r := by rw [if_pos rfl] at H; exact H
 clear H
 have H := H1
 clear H1
 obtain rfl := Option.some.inj H
 go_wp2
 go_ret
 exact ⟨by first | rfl | (simp [errW_none, errW_some] <;> rfl) | (simp [*, errW_none, errW_some] <;> rfl), by repeat (first | (with_reducible first | exact HB.out | apply below_alloc | apply pw_below_drewN | apply below_drew1) | exact HB.out)⟩}
 {
 replace c55 := Bool.eq_false_iff.mpr c55
 subst c55
 have H1 : ((laws_markInt64S.f kj39 t230 1).bind fun bt241 => ((laws_heldInt64S.f kj39 bt241.2 1).bind fun t243 => (if t243 < 0 then (some false) else (if t243 = bt241.1 then ((laws_toIndex.f kj39 l0_0).bind fun t244 => ((impl_NumbersOf.f kj39 t244 a1).bind fun bt247 => ((laws_eqInt64S.f kj39 bt247.1 t222).bind fun t251 => (if t251 = true then (laws_FnExactNumbersOf.j2 kj39 bt241.2 bt241.1 (bt247.2 != t225)) else (laws_FnExactNumbersOf.j2 kj39 bt241.2 bt241.1 true))))) else (some false))))) = some r := by rw [if_neg (show ¬ (false = true) by decide)] at H; exact H
 clear H
 have H := H1
 clear H1
 replace H := Option.bind_eq_some_iff.mp H
 obtain ⟨⟨t241, t242⟩, A560, H⟩ := H
 replace H : ((laws_heldInt64S.f kj39 t242 1).bind fun t243 => (if t243 < 0 then (some false) else (if t243 = t241 then ((laws_toIndex.f kj39 l0_0).bind fun t244 => ((impl_NumbersOf.f kj39 t244 a1).bind fun bt247 => ((laws_eqInt64S.f kj39 bt247.1 t222).bind fun t251 => (if t251 = true then (laws_FnExactNumbersOf.j2 kj39 t242 t241 (bt247.2 != t225)) else (laws_FnExactNumbersOf.j2 kj39 t242 t241 true))))) else (some false)))) = some r := H
 have A56 := Aside0.mk A560
 clear A560
 replace H := Option.bind_eq_some_iff.mp H
 obtain ⟨t243, A570, H⟩ := H
 replace H : (if t243 < 0 then (some false) else (if t243 = t241 then ((laws_toIndex.f kj39 l0_0).bind fun t244 => ((impl_NumbersOf.f kj39 t244 a1).bind fun bt247 => ((laws_eqInt64S.f kj39 bt247.1 t222).bind fun t251 => (if t251 = true then (laws_FnExactNumbersOf.j2 kj39 t242 t241 (bt247.2 != t225)) else (laws_FnExactNumbersOf.j2 kj39 t242 t241 true))))) else (some false))) = some r := H
 have A57 := Aside0.mk A570
 clear A570
 by_cases c58 : t243 < 0
 {
 rw [if_pos c58] at H
 have c58b0 : decide (t243 < 0) = true := decide_eq_true c58
 clear c58
 obtain rfl := Option.some.inj H
 obtain ⟨Ao59, co59, eo59⟩ := Kd.R_slice HO_9.out
 subst eo59
 go_wp2_with (first | ((with_reducible refine gate_callee (f := 38) rfl ?_); refine goesL_ (some 71) rfl rfl Try.func38 s2_ rfl #[.slice Ao59 t230.length co59, .int .i64 1] rfl s3_ ?_; (with_reducible refine (laws_markInt64S.calls kj39 (fun k_ => some k_ = (.slice Ao59 t230.length co59 : Value).ownBlock) (.slice Ao59 t230.length co59) t230 1 t241 t242 w _ ?side1 ?side2 A56.out).mono ?_); (case side1 => repeat (first | (with_reducible first | exact HB.out | apply below_alloc | apply pw_below_drewN | apply below_drew1) | exact HB.out)); (case side2 => exact Kd.R_tight rfl HO_9.out); rintro e w60 ⟨rfl, hy0, hb, hkp⟩; refine ⟨_, rfl, ?_⟩; have n0_ := Aside0.mk (Kd.R_mono (ok' := fun k_ => some k_ ≠ (.slice Ao59 t230.length co59 : Value).ownBlock) (Kd.R_keptB (HO_6.out) hkp (fun k_ hk_ hs_ => (hk_) hs_)) (fun k_ hk_ => hk_.1)); have n1_ := Aside0.mk (Kd.R_reok rfl hy0 (fun k_ e_ => HO_9.out.1 k_ e_)); have n2_ := Aside0.mk (Kd.S_mono (ok' := fun k_ => some k_ ≠ (v223 : Value).ownBlock ∧ some k_ ≠ (.slice Ao59 t230.length co59 : Value).ownBlock) (Kd.S_keptB (HO_230000.out) hkp (fun k_ hk_ hs_ => (hk_.2) hs_)) (fun k_ hk_ => ⟨hk_.1.1, hk_.1.2⟩)); have n3_ := Aside0.mk (blk_kept (b1_ BK217.out) hkp (fun hs_ => (fun e_ => (Kd.R_ne HO_9.out BK217.out (by decide)) e_) hs_)); have n4_ := Aside0.mk (blk_kept (b1_ BK229.out) hkp (fun hs_ => (fun e_ => (Kd.R_ne HO_9.out BK229.out (by decide)) e_) hs_)); have n5_ := Aside0.mk (hb); clear HO_6; clear HO_9; clear HO_230000; clear BK217; clear BK229; clear HB; have HO_6 := n0_; have HO_9 := n1_; have HO_230000 := n2_; have BK217 := n3_; have BK229 := n4_; have HB := n5_; clear n0_ n1_ n2_ n3_ n4_ n5_; (try clear hb); (try clear hkp); (try clear hy0)) | ((with_reducible refine gate_callee (f := 39) rfl ?_); refine goesL_ (some 74) rfl rfl Try.func39 s2_ rfl #[.slice Ao59 t242.length co59, .int .i64 1] rfl (by (try simp only [List.map_toArray, List.map_cons, List.map_nil]); first | done | (rw [show t242.length = t230.length from (Kd.R_reads' HO_9.out).1.symm] <;> rfl) | rfl | (simp only [List.length_drop, List.length_take]; rfl)) ?_; (with_reducible refine (laws_heldInt64S.calls kj39 _ _ t242 1 t243 _ ?side1 ?side2 A57.out).mono ?_); (case side1 => exact y2_ (Kd.R_reads' HO_9.out).2.2); (case side2 => rw [show t242.length = t230.length from (Kd.R_reads' HO_9.out).1.symm]; exact (Kd.R_reads' HO_9.out).2.1); rintro e w' ⟨rfl, ⟨nd, rfl⟩⟩; refine ⟨_, rfl, ?_⟩))
 go_ret
 exact ⟨by first | rfl | (simp [errW_none, errW_some] <;> rfl) | (simp [*, errW_none, errW_some] <;> rfl), by repeat (first | (with_reducible first | exact HB.out | apply below_alloc | apply pw_below_drewN | apply below_drew1) | exact HB.out)⟩}
 {
 rw [if_neg c58] at H
 have c58b0 : decide (t243 < 0) = false := decide_eq_false c58
 clear c58
 by_cases c61 : t243 = t241
 {
 rw [if_pos c61] at H
 have c61b0 : (t243 == t241) = true := beq_iff_eq.mpr c61
 have c61b1 : (t243 != t241) = false := bne_eq_false_iff_eq.mpr c61
 clear c61
 replace H := Option.bind_eq_some_iff.mp H
 obtain ⟨t244, A620, H⟩ := H
 replace H : ((impl_NumbersOf.f kj39 t244 a1).bind fun bt247 => ((laws_eqInt64S.f kj39 bt247.1 t222).bind fun t251 => (if t251 = true then (laws_FnExactNumbersOf.j2 kj39 t242 t241 (bt247.2 != t225)) else (laws_FnExactNumbersOf.j2 kj39 t242 t241 true)))) = some r := H
 have A62 := Aside0.mk A620
 clear A620
 replace H := Option.bind_eq_some_iff.mp H
 obtain ⟨⟨t247, t250⟩, A630, H⟩ := H
 replace H : ((laws_eqInt64S.f kj39 t247 t222).bind fun t251 => (if t251 = true then (laws_FnExactNumbersOf.j2 kj39 t242 t241 (t250 != t225)) else (laws_FnExactNumbersOf.j2 kj39 t242 t241 true))) = some r := H
 have A63 := Aside0.mk A630
 clear A630
 have HC64 := Aside0.mk H
 clear H
 obtain ⟨Ao65, co65, eo65⟩ := Kd.R_slice HO_9.out
 subst eo65
 go_upto_region 27 with (first | ((with_reducible refine gate_callee (f := 38) rfl ?_); refine goesL_ (some 71) rfl rfl Try.func38 s2_ rfl #[.slice Ao65 t230.length co65, .int .i64 1] rfl s3_ ?_; (with_reducible refine (laws_markInt64S.calls kj39 (fun k_ => some k_ = (.slice Ao65 t230.length co65 : Value).ownBlock) (.slice Ao65 t230.length co65) t230 1 t241 t242 w _ ?side1 ?side2 A56.out).mono ?_); (case side1 => repeat (first | (with_reducible first | exact HB.out | apply below_alloc | apply pw_below_drewN | apply below_drew1) | exact HB.out)); (case side2 => exact Kd.R_tight rfl HO_9.out); rintro e w66 ⟨rfl, hy0, hb, hkp⟩; refine ⟨_, rfl, ?_⟩; have n0_ := Aside0.mk (Kd.R_mono (ok' := fun k_ => some k_ ≠ (.slice Ao65 t230.length co65 : Value).ownBlock) (Kd.R_keptB (HO_6.out) hkp (fun k_ hk_ hs_ => (hk_) hs_)) (fun k_ hk_ => hk_.1)); have n1_ := Aside0.mk (Kd.R_reok rfl hy0 (fun k_ e_ => HO_9.out.1 k_ e_)); have n2_ := Aside0.mk (Kd.S_mono (ok' := fun k_ => some k_ ≠ (v223 : Value).ownBlock ∧ some k_ ≠ (.slice Ao65 t230.length co65 : Value).ownBlock) (Kd.S_keptB (HO_230000.out) hkp (fun k_ hk_ hs_ => (hk_.2) hs_)) (fun k_ hk_ => ⟨hk_.1.1, hk_.1.2⟩)); have n3_ := Aside0.mk (blk_kept (b1_ BK217.out) hkp (fun hs_ => (fun e_ => (Kd.R_ne HO_9.out BK217.out (by decide)) e_) hs_)); have n4_ := Aside0.mk (blk_kept (b1_ BK229.out) hkp (fun hs_ => (fun e_ => (Kd.R_ne HO_9.out BK229.out (by decide)) e_) hs_)); have n5_ := Aside0.mk (hb); clear HO_6; clear HO_9; clear HO_230000; clear BK217; clear BK229; clear HB; have HO_6 := n0_; have HO_9 := n1_; have HO_230000 := n2_; have BK217 := n3_; have BK229 := n4_; have HB := n5_; clear n0_ n1_ n2_ n3_ n4_ n5_; (try clear hb); (try clear hkp); (try clear hy0)) | ((with_reducible refine gate_callee (f := 39) rfl ?_); refine goesL_ (some 74) rfl rfl Try.func39 s2_ rfl #[.slice Ao65 t242.length co65, .int .i64 1] rfl (by (try simp only [List.map_toArray, List.map_cons, List.map_nil]); first | done | (rw [show t242.length = t230.length from (Kd.R_reads' HO_9.out).1.symm] <;> rfl) | rfl | (simp only [List.length_drop, List.length_take]; rfl)) ?_; (with_reducible refine (laws_heldInt64S.calls kj39 _ _ t242 1 t243 _ ?side1 ?side2 A57.out).mono ?_); (case side1 => exact y2_ (Kd.R_reads' HO_9.out).2.2); (case side2 => rw [show t242.length = t230.length from (Kd.R_reads' HO_9.out).1.symm]; exact (Kd.R_reads' HO_9.out).2.1); rintro e w' ⟨rfl, ⟨nd, rfl⟩⟩; refine ⟨_, rfl, ?_⟩; have hnb67 := NB217_229.out; have hnc67 := NB229_217.out; have hcz68_0 := c1_ BK217 0 (.slice A0_0 l0_0.length c0_0); have hfz68_0 := f1_ BK217 0) | ((with_reducible refine gate_callee (f := 13) rfl ?_); refine goesL_ (some 82) rfl rfl Try.func13 s2_ rfl #[.agg #[.slice A0_0 l0_0.length c0_0]] rfl s3_ ?_; (with_reducible refine (laws_toIndex.calls kj39 _ _ l0_0 t244 _ ?side1 ?side2 A62.out).mono ?_); (case side1 => exact y2_ (Kd.C_below HR0_0.out (y1_ HB.out))); (case side2 => exact HC0_0.out); rintro e w69 ⟨v245, rfl, ho0, hb⟩; refine ⟨_, rfl, ?_⟩; have n0_ := r1_ HO_6 hb; have n1_ := r1_ HO_9 hb; have n2_ := Aside0.mk (Kd.S_elder' (by (with_reducible repeat (first | apply Kd.S_alloc | apply Kd.S_drewN | apply Kd.S_drew)); exact HO_230000.out) (Kd.S_base ho0) hb); have n3_ := Aside0.mk (Kd.S_lower (Kd.S_new' (Kd.S_new' (Kd.S_new' ho0 (Kd.R_lt (b2_ HO_6.out))) (Kd.R_lt (b2_ HO_9.out))) (Kd.S_lt (by (with_reducible repeat (first | apply Kd.S_alloc | apply Kd.S_drewN | apply Kd.S_drew)); exact HO_230000.out))) (below_size (y1_ HB.out))); have n4_ := b3_ BK217 hb; have n5_ := b3_ BK229 hb; have n6_ := Aside0.mk (below_step (y1_ HB.out) hb); clear HO_6; clear HO_9; clear HO_230000; clear BK217; clear BK229; clear HB; have HO_6 := n0_; have HO_9 := n1_; have HO_230000 := n2_; have HO246 := n3_; have BK217 := n4_; have BK229 := n5_; have HB := n6_; clear n0_ n1_ n2_ n3_ n4_ n5_ n6_; (try clear hb); (try clear hb2); (try clear hk); (try clear hi); (try clear ho0); obtain ⟨Ao70, co70, eo70⟩ := Kd.S_slice HO246.out; subst eo70) | ((with_reducible refine gate_callee (f := 36) rfl ?_); refine goesL_ (some 84) rfl rfl Try.func36 s2_ rfl #[.agg #[.slice Ao70 t244.length co70], .string a1] rfl s3_ ?_; (with_reducible refine (impl_NumbersOf.calls kj39 _ _ t244 a1 t247 t250 _ ?side1 ?side2 A63.out).mono ?_); (case side1 => exact y2_ (Kd.S_reads' HO246.out).2.2); (case side2 => exact (Kd.S_reads' HO246.out).2.1); rintro e w71 ⟨v248, rfl, ho0, hb⟩; refine ⟨_, rfl, ?_⟩; have n0_ := Aside0.mk (Kd.R_elder' (b2_ HO_6.out) (Kd.R_base ho0) hb); have n1_ := Aside0.mk (Kd.R_elder' (b2_ HO_9.out) (Kd.R_base ho0) hb); have n2_ := Aside0.mk (Kd.S_elder' (by (with_reducible repeat (first | apply Kd.S_alloc | apply Kd.S_drewN | apply Kd.S_drew)); exact HO_230000.out) (Kd.R_base ho0) hb); have n3_ := Aside0.mk (Kd.S_elder' (by (with_reducible repeat (first | apply Kd.S_alloc | apply Kd.S_drewN | apply Kd.S_drew)); exact HO246.out) (Kd.R_base ho0) hb); have n4_ := Aside0.mk (Kd.R_lower (Kd.R_new' (Kd.R_new' ho0 (Kd.R_lt (b2_ HO_6.out))) (Kd.R_lt (b2_ HO_9.out))) (below_size (y1_ HB.out))); have n5_ := b3_ BK217 hb; have n6_ := b3_ BK229 hb; have n7_ := Aside0.mk (below_step (y1_ HB.out) hb); clear HO_6; clear HO_9; clear HO_230000; clear HO246; clear BK217; clear BK229; clear HB; have HO_6 := n0_; have HO_9 := n1_; have HO_230000 := n2_; have HO246 := n3_; have HO249 := n4_; have BK217 := n5_; have BK229 := n6_; have HB := n7_; clear n0_ n1_ n2_ n3_ n4_ n5_ n6_ n7_; (try clear hb); (try clear hb2); (try clear hk); (try clear hi); (try clear ho0)))
 (try simp only [Act.put, List.setIfInBounds_toArray, List.set_cons_zero, List.set_cons_succ])
 go_cut [95] (fun v95 wc => ∃ (kq : Nat) (x95_63 : Bool), v95 = .bool x95_63 ∧ Aside0 (laws_FnExactNumbersOf.j2 kq t242 t241 x95_63 = some r) ∧ Aside0 (kq ≤ kj39) ∧ Aside0 (Kd.R (Kd.int .i64) 2 wc w.heap.size (fun _ => True) (.slice Ao65 t230.length co65) t242) ∧ Aside0 (Kd.S k63 63 wc w.heap.size (fun k_ => some k_ ≠ ((.slice Ao65 t230.length co65) : Value).ownBlock) (.slice Ao25 t226.length co25) r2_) ∧ Aside0 (wc.heap[gb217]? = some (.cells #[(.slice A0_0 l0_0.length c0_0)] 24 (0, 0))) ∧ Aside0 (wc.heap[gb229]? = some (.cells #[(.slice Ao25 t226.length co25)] 29 (0, 0))) ∧ Aside0 (Below w.heap.size w wc))
 case first =>
  skip
  {
 have H := HC64.out
 clear HC64
 replace H := Option.bind_eq_some_iff.mp H
 obtain ⟨t251, A720, H⟩ := H
 replace H : (if t251 = true then (laws_FnExactNumbersOf.j2 kj39 t242 t241 (t250 != t225)) else (laws_FnExactNumbersOf.j2 kj39 t242 t241 true)) = some r := H
 have A72 := Aside0.mk A720
 clear A720
 by_cases c73 : t251 = true
 {
 subst c73
 have H1 : (laws_FnExactNumbersOf.j2 kj39 t242 t241 (t250 != t225)) = some r := by rw [if_pos rfl] at H; exact H
 clear H
 have H := H1
 clear H1
 have H' := Aside0.mk H
 clear H
 obtain ⟨Ao74, co74, eo74⟩ := Kd.R_slice HO249.out
 subst eo74
 obtain ⟨Ao75, co75, eo75⟩ := Kd.R_slice HO_6.out
 subst eo75
 go_wp2_with (first | ((with_reducible refine gate_callee (f := 37) rfl ?_); refine goesL_ (some 89) rfl rfl Try.func37 s2_ rfl #[.slice Ao74 t247.length co74, .slice Ao75 t222.length co75] rfl s3_ ?_; (with_reducible refine (laws_eqInt64S.calls kj39 _ _ t247 _ _ t222 true _ ?side1 ?side2 ?side3 ?side4 A72.out).mono ?_); (case side1 => exact y2_ (Kd.R_reads' HO249.out).2.2); (case side2 => exact (Kd.R_reads' HO249.out).2.1); (case side3 => exact y2_ (Kd.R_reads' HO_6.out).2.2); (case side4 => exact (Kd.R_reads' HO_6.out).2.1); rintro e w' ⟨rfl, ⟨nd, rfl⟩⟩; refine ⟨_, rfl, ?_⟩))
 go_meet
 case rel => exact ⟨_, ((t250 != t225)), s1_, H', ⟨by have := HJ13.out; have := HJ39.out; first | omega | exact Nat.le_refl _⟩, ⟨by (with_reducible repeat (first | apply Kd.R_alloc | apply Kd.R_drewN | apply Kd.R_drew)); exact Kd.R_mono HO_9.out (fun _ hk => trivial)⟩, ⟨by (with_reducible repeat (first | apply Kd.S_alloc | apply Kd.S_drewN | apply Kd.S_drew)); exact Kd.S_mono HO_230000.out (fun _ hk => hk.1.1.2)⟩, ⟨b1_ BK217.out⟩, ⟨b1_ BK229.out⟩, ⟨by repeat (first | (with_reducible first | exact HB.out | apply below_alloc | apply pw_below_drewN | apply below_drew1) | exact HB.out)⟩⟩}
 {
 replace c73 := Bool.eq_false_iff.mpr c73
 subst c73
 have H1 : (laws_FnExactNumbersOf.j2 kj39 t242 t241 true) = some r := by rw [if_neg (show ¬ (false = true) by decide)] at H; exact H
 clear H
 have H := H1
 clear H1
 have H' := Aside0.mk H
 clear H
 obtain ⟨Ao76, co76, eo76⟩ := Kd.R_slice HO249.out
 subst eo76
 obtain ⟨Ao77, co77, eo77⟩ := Kd.R_slice HO_6.out
 subst eo77
 go_wp2_with (first | ((with_reducible refine gate_callee (f := 37) rfl ?_); refine goesL_ (some 89) rfl rfl Try.func37 s2_ rfl #[.slice Ao76 t247.length co76, .slice Ao77 t222.length co77] rfl s3_ ?_; (with_reducible refine (laws_eqInt64S.calls kj39 _ _ t247 _ _ t222 false _ ?side1 ?side2 ?side3 ?side4 A72.out).mono ?_); (case side1 => exact y2_ (Kd.R_reads' HO249.out).2.2); (case side2 => exact (Kd.R_reads' HO249.out).2.1); (case side3 => exact y2_ (Kd.R_reads' HO_6.out).2.2); (case side4 => exact (Kd.R_reads' HO_6.out).2.1); rintro e w' ⟨rfl, ⟨nd, rfl⟩⟩; refine ⟨_, rfl, ?_⟩))
 go_meet
 case rel => exact ⟨_, (true), s1_, H', ⟨by have := HJ13.out; have := HJ39.out; first | omega | exact Nat.le_refl _⟩, ⟨by (with_reducible repeat (first | apply Kd.R_alloc | apply Kd.R_drewN | apply Kd.R_drew)); exact Kd.R_mono HO_9.out (fun _ hk => trivial)⟩, ⟨by (with_reducible repeat (first | apply Kd.S_alloc | apply Kd.S_drewN | apply Kd.S_drew)); exact Kd.S_mono HO_230000.out (fun _ hk => hk.1.1.2)⟩, ⟨b1_ BK217.out⟩, ⟨b1_ BK229.out⟩, ⟨by repeat (first | (with_reducible first | exact HB.out | apply below_alloc | apply pw_below_drewN | apply below_drew1) | exact HB.out)⟩⟩}}
 case rest =>
  skip
  {
 clear HC64
 try clear c1
 try clear c2
 try clear p2
 try clear c3
 try clear c3b0
 try clear c3b1
 try clear c4
 try clear c5
 try clear c6
 try clear c6b0
 try clear c7
 try clear c9
 try clear c11
 try clear c13
 try clear c15
 try clear c26
 try clear c30
 try clear c32
 try clear c35
 try clear c36
 try clear c37
 try clear c38
 try clear c39
 try clear c45
 try clear c48
 try clear c48b0
 try clear c50
 try clear c55
 try clear c58
 try clear c58b0
 try clear c61
 try clear c61b0
 try clear c61b1
 try clear c67
 try clear c73
 try clear hcz16_0
 try clear hcz18_0
 try clear hcz22_0
 try clear hcz27_0
 try clear hcz46_0
 try clear hcz68_0
 try clear hcz8_0
 try clear hfz16_0
 try clear hfz18_0
 try clear hfz22_0
 try clear hfz27_0
 try clear hfz46_0
 try clear hfz68_0
 try clear hfz8_0
 try clear p2
 obtain ⟨kq, x95_63, rfl, HA, HJ63, HO_9, HO_230000, BK217, BK229, HB⟩ := hcut
 have hl9_63 := (Kd.R_reads' HO_9.out).1
 rw [hl9_63] at HO_9
 (try simp only [hl9_63])
 (try simp only [hl9_63] at BK217)
 (try simp only [hl9_63] at BK229)
 (try simp only [hl9_63] at HO_230000)
 cases kq with
 | zero => exact absurd HA.out (by simp [laws_FnExactNumbersOf.j2])
 | succ kj63 =>
  skip
  {
 have H := HA.out
 clear HA
 simp only [laws_FnExactNumbersOf.j2] at H
 by_cases c78 : x95_63 = true
 {
 subst c78
 have H1 : (some false) = some r := by rw [if_pos rfl] at H; exact H
 clear H
 have H := H1
 clear H1
 obtain rfl := Option.some.inj H
 go_wp2
 go_ret
 exact ⟨by first | rfl | (simp [errW_none, errW_some] <;> rfl) | (simp [*, errW_none, errW_some] <;> rfl), by repeat (first | (with_reducible first | exact HB.out | apply below_alloc | apply pw_below_drewN | apply below_drew1) | exact HB.out)⟩}
 {
 replace c78 := Bool.eq_false_iff.mpr c78
 subst c78
 have H1 : ((laws_heldInt64S.f kj63 t242 1).bind fun t252 => (if t252 < 0 then (some false) else (if t252 = t241 then (some true) else (some false)))) = some r := by rw [if_neg (show ¬ (false = true) by decide)] at H; exact H
 clear H
 have H := H1
 clear H1
 replace H := Option.bind_eq_some_iff.mp H
 obtain ⟨t252, A790, H⟩ := H
 replace H : (if t252 < 0 then (some false) else (if t252 = t241 then (some true) else (some false))) = some r := H
 have A79 := Aside0.mk A790
 clear A790
 by_cases c80 : t252 < 0
 {
 rw [if_pos c80] at H
 have c80b0 : decide (t252 < 0) = true := decide_eq_true c80
 clear c80
 obtain rfl := Option.some.inj H
 go_wp2_with (first | ((with_reducible refine gate_callee (f := 39) rfl ?_); refine goesL_ (some 98) rfl rfl Try.func39 s2_ rfl #[.slice Ao65 t242.length co65, .int .i64 1] rfl s3_ ?_; (with_reducible refine (laws_heldInt64S.calls kj63 _ _ t242 1 t252 _ ?side1 ?side2 A79.out).mono ?_); (case side1 => exact y2_ (Kd.R_reads' HO_9.out).2.2); (case side2 => exact (Kd.R_reads' HO_9.out).2.1); rintro e w' ⟨rfl, ⟨nd, rfl⟩⟩; refine ⟨_, rfl, ?_⟩))
 go_ret
 exact ⟨by first | rfl | (simp [errW_none, errW_some] <;> rfl) | (simp [*, errW_none, errW_some] <;> rfl), by repeat (first | (with_reducible first | exact HB.out | apply below_alloc | apply pw_below_drewN | apply below_drew1) | exact HB.out)⟩}
 {
 rw [if_neg c80] at H
 have c80b0 : decide (t252 < 0) = false := decide_eq_false c80
 clear c80
 by_cases c81 : t252 = t241
 {
 rw [if_pos c81] at H
 have c81b0 : (t252 == t241) = true := beq_iff_eq.mpr c81
 have c81b1 : (t252 != t241) = false := bne_eq_false_iff_eq.mpr c81
 clear c81
 obtain rfl := Option.some.inj H
 go_wp2_with (first | ((with_reducible refine gate_callee (f := 39) rfl ?_); refine goesL_ (some 98) rfl rfl Try.func39 s2_ rfl #[.slice Ao65 t242.length co65, .int .i64 1] rfl s3_ ?_; (with_reducible refine (laws_heldInt64S.calls kj63 _ _ t242 1 t252 _ ?side1 ?side2 A79.out).mono ?_); (case side1 => exact y2_ (Kd.R_reads' HO_9.out).2.2); (case side2 => exact (Kd.R_reads' HO_9.out).2.1); rintro e w' ⟨rfl, ⟨nd, rfl⟩⟩; refine ⟨_, rfl, ?_⟩))
 go_ret
 exact ⟨by first | rfl | (simp [errW_none, errW_some] <;> rfl) | (simp [*, errW_none, errW_some] <;> rfl), by repeat (first | (with_reducible first | exact HB.out | apply below_alloc | apply pw_below_drewN | apply below_drew1) | exact HB.out)⟩}
 {
 rw [if_neg c81] at H
 have c81b0 : (t252 == t241) = false := beq_eq_false_iff_ne.mpr c81
 have c81b1 : (t252 != t241) = true := bne_iff_ne.mpr c81
 obtain rfl := Option.some.inj H
 go_wp2_with (first | ((with_reducible refine gate_callee (f := 39) rfl ?_); refine goesL_ (some 98) rfl rfl Try.func39 s2_ rfl #[.slice Ao65 t242.length co65, .int .i64 1] rfl s3_ ?_; (with_reducible refine (laws_heldInt64S.calls kj63 _ _ t242 1 t252 _ ?side1 ?side2 A79.out).mono ?_); (case side1 => exact y2_ (Kd.R_reads' HO_9.out).2.2); (case side2 => exact (Kd.R_reads' HO_9.out).2.1); rintro e w' ⟨rfl, ⟨nd, rfl⟩⟩; refine ⟨_, rfl, ?_⟩))
 go_ret
 exact ⟨by first | rfl | (simp [errW_none, errW_some] <;> rfl) | (simp [*, errW_none, errW_some] <;> rfl), by repeat (first | (with_reducible first | exact HB.out | apply below_alloc | apply pw_below_drewN | apply below_drew1) | exact HB.out)⟩}}}}}}
 {
 rw [if_neg c61] at H
 have c61b0 : (t243 == t241) = false := beq_eq_false_iff_ne.mpr c61
 have c61b1 : (t243 != t241) = true := bne_iff_ne.mpr c61
 obtain rfl := Option.some.inj H
 obtain ⟨Ao82, co82, eo82⟩ := Kd.R_slice HO_9.out
 subst eo82
 go_wp2_with (first | ((with_reducible refine gate_callee (f := 38) rfl ?_); refine goesL_ (some 71) rfl rfl Try.func38 s2_ rfl #[.slice Ao82 t230.length co82, .int .i64 1] rfl s3_ ?_; (with_reducible refine (laws_markInt64S.calls kj39 (fun k_ => some k_ = (.slice Ao82 t230.length co82 : Value).ownBlock) (.slice Ao82 t230.length co82) t230 1 t241 t242 w _ ?side1 ?side2 A56.out).mono ?_); (case side1 => repeat (first | (with_reducible first | exact HB.out | apply below_alloc | apply pw_below_drewN | apply below_drew1) | exact HB.out)); (case side2 => exact Kd.R_tight rfl HO_9.out); rintro e w83 ⟨rfl, hy0, hb, hkp⟩; refine ⟨_, rfl, ?_⟩; have n0_ := Aside0.mk (Kd.R_mono (ok' := fun k_ => some k_ ≠ (.slice Ao82 t230.length co82 : Value).ownBlock) (Kd.R_keptB (HO_6.out) hkp (fun k_ hk_ hs_ => (hk_) hs_)) (fun k_ hk_ => hk_.1)); have n1_ := Aside0.mk (Kd.R_reok rfl hy0 (fun k_ e_ => HO_9.out.1 k_ e_)); have n2_ := Aside0.mk (Kd.S_mono (ok' := fun k_ => some k_ ≠ (v223 : Value).ownBlock ∧ some k_ ≠ (.slice Ao82 t230.length co82 : Value).ownBlock) (Kd.S_keptB (HO_230000.out) hkp (fun k_ hk_ hs_ => (hk_.2) hs_)) (fun k_ hk_ => ⟨hk_.1.1, hk_.1.2⟩)); have n3_ := Aside0.mk (blk_kept (b1_ BK217.out) hkp (fun hs_ => (fun e_ => (Kd.R_ne HO_9.out BK217.out (by decide)) e_) hs_)); have n4_ := Aside0.mk (blk_kept (b1_ BK229.out) hkp (fun hs_ => (fun e_ => (Kd.R_ne HO_9.out BK229.out (by decide)) e_) hs_)); have n5_ := Aside0.mk (hb); clear HO_6; clear HO_9; clear HO_230000; clear BK217; clear BK229; clear HB; have HO_6 := n0_; have HO_9 := n1_; have HO_230000 := n2_; have BK217 := n3_; have BK229 := n4_; have HB := n5_; clear n0_ n1_ n2_ n3_ n4_ n5_; (try clear hb); (try clear hkp); (try clear hy0)) | ((with_reducible refine gate_callee (f := 39) rfl ?_); refine goesL_ (some 74) rfl rfl Try.func39 s2_ rfl #[.slice Ao82 t242.length co82, .int .i64 1] rfl (by (try simp only [List.map_toArray, List.map_cons, List.map_nil]); first | done | (rw [show t242.length = t230.length from (Kd.R_reads' HO_9.out).1.symm] <;> rfl) | rfl | (simp only [List.length_drop, List.length_take]; rfl)) ?_; (with_reducible refine (laws_heldInt64S.calls kj39 _ _ t242 1 t243 _ ?side1 ?side2 A57.out).mono ?_); (case side1 => exact y2_ (Kd.R_reads' HO_9.out).2.2); (case side2 => rw [show t242.length = t230.length from (Kd.R_reads' HO_9.out).1.symm]; exact (Kd.R_reads' HO_9.out).2.1); rintro e w' ⟨rfl, ⟨nd, rfl⟩⟩; refine ⟨_, rfl, ?_⟩))
 go_ret
 exact ⟨by first | rfl | (simp [errW_none, errW_some] <;> rfl) | (simp [*, errW_none, errW_some] <;> rfl), by repeat (first | (with_reducible first | exact HB.out | apply below_alloc | apply pw_below_drewN | apply below_drew1) | exact HB.out)⟩}}}}}}
 {
 replace c38 := Bool.eq_false_iff.mpr c38
 subst c38
 have H1 : (some false) = some r := by rw [if_neg (show ¬ (false = true) by decide)] at H; exact H
 clear H
 have H := H1
 clear H1
 obtain rfl := Option.some.inj H
 try go_wp2
 replace HO_6 := Aside0.mk (Kd.R_drew HO_6.out)
 replace HO_9 := Aside0.mk (Kd.R_drew HO_9.out)
 replace HO_230000 := Aside0.mk (Kd.S_drew HO_230000.out)
 replace BK217 := Aside0.mk (blk_drew BK217.out)
 replace BK229 := Aside0.mk (blk_drew BK229.out)
 replace HB := Aside0.mk (below_drew1 HB.out)
 refine start_ (n := 5) (S := fun w' => w'.cell? ⟨gb229, 0, none⟩ = some (.slice Ao25 t226.length co25) ∧ w'.cell? ⟨gb217, 0, none⟩ = some (.slice A0_0 l0_0.length c0_0)) (ds := []) #[F,F,F,F,F] s2_ rfl rfl ⟨(blk_cell BK229.out 0).trans rfl, (blk_cell BK217.out 0).trans rfl⟩ (fun hHeld => ?_)
 generalize wc.drew = w84 at HO_6 HO_9 HO_230000 BK217 BK229 HB hHeld ⊢
 refine take_ (i := 0) (N := some 48) (v := ?_) (a' := ?_) #[T,F,F,F,F] rfl rfl s2_ (fun _ _ _ h => h) (Or.inl ⟨by rfl, ?_⟩) hHeld ?_ ?_
 rotate_left
 {
 rintro w' ⟨s0, s1⟩
 go_simp
 with_reducible rfl}
 rotate_left
 · exact p1_
 refine take_ (i := 1) (N := some 49) (v := ?_) (a' := ?_) #[T,T,F,F,F] rfl rfl s2_ (fun _ _ _ h => h) (Or.inl ⟨by rfl, ?_⟩) hHeld ?_ ?_
 rotate_left
 {
 rintro w' ⟨s0, s1⟩
 go_simp
 with_reducible rfl}
 rotate_left
 · exact p1_
 refine one_ (i := 2) (N := some 50) #[T,T,T,F,F] rfl rfl s2_ (by decide) (fun K hK => ?_)
 refine goes_ Try.func13 s2_ rfl #[.agg #[.slice A0_0 l0_0.length c0_0]] (by rfl) rfl rfl s3_ ?_
 with_reducible refine (laws_toIndex.calls kj13 _ _ l0_0 t235 _ ?side1 ?side2 A36.out).mono ?_
 (case side1 => exact y2_ (Kd.C_below HR0_0.out HB.out))
 (case side2 => exact HC0_0.out)
 rintro e w85 ⟨v236, rfl, ho0, hb⟩
 refine ⟨_, rfl, ?_⟩
 have n0_ := r1_ HO_6 hb
 have n1_ := r1_ HO_9 hb
 have n2_ := Aside0.mk (Kd.S_elder' (by (with_reducible repeat (first | apply Kd.S_alloc | apply Kd.S_drewN | apply Kd.S_drew)); exact HO_230000.out) (Kd.S_base ho0) hb)
 have n3_ := Aside0.mk (Kd.S_lower (Kd.S_new' (Kd.S_new' (Kd.S_new' ho0 (Kd.R_lt (b2_ HO_6.out))) (Kd.R_lt (b2_ HO_9.out))) (Kd.S_lt (by (with_reducible repeat (first | apply Kd.S_alloc | apply Kd.S_drewN | apply Kd.S_drew)); exact HO_230000.out))) (below_size (y1_ HB.out)))
 have n4_ := b3_ BK217 hb
 have n5_ := b3_ BK229 hb
 have n6_ := Aside0.mk (below_step (y1_ HB.out) hb)
 clear HO_6
 clear HO_9
 clear HO_230000
 clear BK217
 clear BK229
 clear HB
 have HO_6 := n0_
 have HO_9 := n1_
 have HO_230000 := n2_
 have HO237 := n3_
 have BK217 := n4_
 have BK229 := n5_
 have HB := n6_
 clear n0_ n1_ n2_ n3_ n4_ n5_ n6_
 (try clear hb)
 (try clear hb2)
 (try clear hk)
 (try clear hi)
 (try clear ho0)
 obtain ⟨Ao86, co86, eo86⟩ := Kd.S_slice HO237.out
 (first | subst eo86 | (injection eo86 with f1_ f2_ f3_; have f4_ := f1_.symm; have f5_ := f3_.symm; clear f1_ f2_ f3_; subst f4_; subst f5_))
 refine hK.out _ _ ⟨(blk_cell BK229.out 0).trans rfl, (blk_cell BK217.out 0).trans rfl⟩ (fun hHeld => ?_)
 clear hK K
 refine norm_ (a' := ?_) ?_ ?_
 rotate_left
 {
 show Act.put _ (some 50) _ = _
 simp only [Act.put, List.setIfInBounds_toArray, List.set_cons_zero, List.set_cons_succ, i64_w, i32_w]
 rfl}
 refine one_ (i := 3) (N := some 51) #[T,T,T,T,F] rfl rfl s2_ (by decide) (fun K hK => ?_)
 refine goes_ Try.func15 s2_ rfl #[.agg #[.slice Ao25 t226.length co25], .agg #[.slice Ao86 t235.length co86]] (by rfl) rfl rfl s3_ ?_
 with_reducible refine (laws_eqIndex.calls kj13 _ _ t226 _ _ t235 false _ ?side1 ?side2 ?side3 ?side4 A37.out).mono ?_
 (case side1 => exact y2_ (Kd.S_reads' HO_230000.out).2.2)
 (case side2 => exact (Kd.S_reads' HO_230000.out).2.1)
 (case side3 => exact y2_ (Kd.S_reads' HO237.out).2.2)
 (case side4 => exact (Kd.S_reads' HO237.out).2.1)
 rintro e w87 ⟨rfl, hb⟩
 refine ⟨_, rfl, ?_⟩
 replace HO_6 := r1_ HO_6 hb
 replace HO_9 := r1_ HO_9 hb
 replace HO_230000 := Aside0.mk (Kd.S_below (by (with_reducible repeat (first | apply Kd.S_alloc | apply Kd.S_drewN | apply Kd.S_drew)); exact HO_230000.out) hb)
 replace HO237 := Aside0.mk (Kd.S_below (by (with_reducible repeat (first | apply Kd.S_alloc | apply Kd.S_drewN | apply Kd.S_drew)); exact HO237.out) hb)
 replace BK217 := b3_ BK217 hb
 replace BK229 := b3_ BK229 hb
 replace HB := Aside0.mk (below_step (y1_ HB.out) hb)
 (try clear hb)
 (try clear hb2)
 (try clear hk)
 (try clear hi)
 refine hK.out _ _ ⟨(blk_cell BK229.out 0).trans rfl, (blk_cell BK217.out 0).trans rfl⟩ (fun hHeld => ?_)
 clear hK K
 refine norm_ (a' := ?_) ?_ ?_
 rotate_left
 {
 show Act.put _ (some 51) _ = _
 simp only [Act.put, List.setIfInBounds_toArray, List.set_cons_zero, List.set_cons_succ, i64_w, i32_w]
 rfl}
 refine pure_ (i := 4) (N := some 52) (v := ?_) (a' := ?_) #[T,T,T,T,T] rfl rfl s2_ (fun _ _ _ h => h) (Or.inl ⟨by rfl, ?_⟩) ?_ ?_
 rotate_left
 {
 intro w'
 go_simp
 with_reducible rfl}
 rotate_left
 · exact p1_
 refine done_ s2_ ?_
 try go_wp2
 go_ret
 exact ⟨by first | rfl | (simp [errW_none, errW_some] <;> rfl) | (simp [*, errW_none, errW_some] <;> rfl), by repeat (first | (with_reducible first | exact HB.out | apply below_alloc | apply pw_below_drewN | apply below_drew1) | exact HB.out)⟩}}}}}}

/-- THE ONE PURE STATEMENT of laws_FnExactNumbersOf: yours. -/
def laws_FnExactNumbersOf.Pure : Prop := ∀ (l0_0 : List (S108)) (a1 : ByteArray), (l0_0.length ≤ maxLen ∧ l0_0.length * 40 ≤ 140737488351232 ∧ ∀ y0_ ∈ l0_0, fit108 y0_) → (a1.size ≤ 140737488351232) → ∃ k, laws_FnExactNumbersOf.f k l0_0 a1 = some true
theorem laws_FnExactNumbersOf.walk (P : laws_FnExactNumbersOf.Pure) (A0_0 : Option Addr) (c0_0 : Nat) (l0_0 : List (S108)) (a1 : ByteArray) (w : World) (hr0_0 : Kd.C k108 w A0_0 l0_0.length l0_0) (hc0_0 : l0_0.length ≤ c0_0) (F0_0 : l0_0.length ≤ maxLen ∧ l0_0.length * 40 ≤ 140737488351232 ∧ ∀ y0_ ∈ l0_0, fit108 y0_) (F1 : a1.size ≤ 140737488351232) :
    Calls Try.prog 9 #[.agg #[.slice A0_0 l0_0.length c0_0], .string a1] w fun e w' => e = .returned (.bool true) ∧ Below w.heap.size w w' := by
  obtain ⟨k, h⟩ := P l0_0 a1 F0_0 F1
  refine (laws_FnExactNumbersOf.calls k A0_0 c0_0 l0_0 a1 true w hr0_0 hc0_0 h).mono ?_
  rintro e w' ⟨rfl, hd⟩
  exact ⟨rfl, hd⟩

end Go.Proofs.Ytcnhepjdibbkgaa.QFnExactNumbersOf
