-- written by a program of this session, on the lines of the kit's print
import Derived.Test.YtcnhepjdibbkgaaQFnExactWordsFromx0
import Derived.Test.YtcnhepjdibbkgaaQFnExactWordsFromx1
import Derived.Test.YtcnhepjdibbkgaaQFnExactWordsFromx2
import Derived.Test.YtcnhepjdibbkgaaQFnExactWordsFromx4
import Derived.Test.YtcnhepjdibbkgaaQFnExactWordsFromx7
import Derived.Test.YtcnhepjdibbkgaaQFnExactWordsFromx8
namespace Go.Proofs.Ytcnhepjdibbkgaa.QFnExactWordsFrom
open Go.RowKit Go.Proofs.YtcnhepjdibbkgaaW.PrintWords Go.Proofs.YtcnhepjdibbkgaaW.PrintLast Go.Proofs.YtcnhepjdibbkgaaW.PrintMore
attribute [local go_sem] max2_int min2_int max_two min_two max_three min_three max_four min_four   -- for this text's walks alone
set_option linter.unusedVariables false
set_option linter.unusedSimpArgs false

/-! ### laws_FnExactWordsFrom: function 8 -/
abbrev laws_FnExactWordsFrom.T : Bool := true
abbrev laws_FnExactWordsFrom.F : Bool := false
theorem laws_FnExactWordsFrom.s1_ {P : Prop} (h : P := by first | rfl | (simp; done) | (simp [*]; done)) : P := h
theorem laws_FnExactWordsFrom.s2_ {P : Prop} (h : P := by kernel_rfl) : P := h
theorem laws_FnExactWordsFrom.s3_ {P : Prop} (h : P := by (try simp only [List.map_toArray, List.map_cons, List.map_nil]); first | done | rfl | (simp only [List.length_drop, List.length_take]; rfl)) : P := h
theorem laws_FnExactWordsFrom.p1_ {P : Prop} (h : P := by simp only [Act.put, List.setIfInBounds_toArray, List.set_cons_zero, List.set_cons_succ, i64_w, i32_w]; rfl) : P := h
theorem laws_FnExactWordsFrom.b1_ {P Q : Prop} (q : Q) (h : Q → P := by intro q_; (with_reducible repeat (first | refine blk_drewN ?_ _ | refine blk_drew ?_ | refine blk_alloc ?_ _)); exact q_) : P := h q
theorem laws_FnExactWordsFrom.b2_ {P Q : Prop} (q : Q) (h : Q → P := by intro q_; (with_reducible repeat (first | apply Kd.R_alloc | apply Kd.R_drewN | apply Kd.R_drew)); exact q_) : P := h q
theorem laws_FnExactWordsFrom.y1_ {P Q : Prop} (q : Q) (h : Q → P := by intro q_; repeat (first | (with_reducible first | exact q_ | apply below_alloc | apply pw_below_drewN | apply below_drew1) | exact q_)) : P := h q
theorem laws_FnExactWordsFrom.y2_ {P Q : Prop} (q : Q) (h : Q → P := by intro q_; repeat (first | exact q_ | (with_reducible refine Kd.C_alloc ?_ _) | (with_reducible refine Kd.C_drewN ?_ _) | (with_reducible refine Kd.C_drew ?_))) : P := h q
theorem laws_FnExactWordsFrom.b3_ {w w1 W : World} {g : Nat} {o : Obj} (q : Aside0 (w.heap[g]? = some o)) (hb : Below W.heap.size W w1) (h : w.heap[g]? = some o → W.heap[g]? = some o := by intro q_; (with_reducible repeat (first | refine blk_drewN ?_ _ | refine blk_drew ?_ | refine blk_alloc ?_ _)); exact q_) : Aside0 (w1.heap[g]? = some o) := ⟨blk_below (h q.out) hb⟩
theorem laws_FnExactWordsFrom.b4_ {w W : World} {g k : Nat} {o : Obj} (hg : k = W.heap.size) (q : Aside0 (w.heap[g]? = some o)) (h : w.heap[g]? = some o → W.heap[g]? = some o := by intro q_; (with_reducible repeat (first | refine blk_drewN ?_ _ | refine blk_drew ?_ | refine blk_alloc ?_ _)); exact q_) : Aside0 (g ≠ k) := ⟨by rw [hg]; exact Nat.ne_of_lt (blk_lt (h q.out))⟩
theorem laws_FnExactWordsFrom.b5_ {w W : World} {g k : Nat} {o : Obj} (hg : k = W.heap.size) (q : Aside0 (w.heap[g]? = some o)) (h : w.heap[g]? = some o → W.heap[g]? = some o := by intro q_; (with_reducible repeat (first | refine blk_drewN ?_ _ | refine blk_drew ?_ | refine blk_alloc ?_ _)); exact q_) : Aside0 (k ≠ g) := ⟨by rw [hg]; exact Nat.ne_of_gt (blk_lt (h q.out))⟩
theorem laws_FnExactWordsFrom.b6_ {w w' W : World} {k : Nat} (hg : k = W.heap.size) (q : Aside0 (Below w.heap.size w w')) (h : Below w.heap.size w w' → Below w.heap.size w W := by intro q_; repeat (first | (with_reducible first | exact q_ | apply below_alloc | apply pw_below_drewN | apply below_drew1) | exact q_)) : Aside0 (w.heap.size ≤ k) := ⟨by rw [hg]; exact below_size (h q.out)⟩
theorem laws_FnExactWordsFrom.bx_ {P : Program} {ops : Array Oper} {rest : List Oper} {o : Oper} {a : Act} {Q : Exit → Act → World → Prop} {W : World} (N : Tmp) (cs : Array Value) (t : TypeId) (h : ∀ g, g = W.heap.size → ∀ w1, w1.heap[g]? = some (.cells cs t (0, 0)) → Below W.heap.size W w1 → wpList P ops Q rest (a.put o.dst (.pointer (some ⟨g, 0, none⟩))) w1) (hgd : o.guard = none := by rfl) (hd : o.dst = some N := by rfl) (hrun : (execOp a.eval o).run P W = .ok (.value (.pointer (some ⟨W.heap.size, 0, none⟩))) (W.alloc (.cells cs t (0, 0))) := by first | (go_simp; done) | (go_simp; rfl)) : wpList P ops Q (o :: rest) a W := box_event hgd hd hrun h
theorem laws_FnExactWordsFrom.c1_ {w : World} {g : Nat} {t : TypeId} {cs : Array Value} (q : Aside0 (w.heap[g]? = some (.cells cs t (0, 0)))) (i : Nat) (v : Value) (h : cs[i]? = some v := by rfl) : w.cell? ⟨g, i, none⟩ = some v := (blk_cell q.out i).trans h
theorem laws_FnExactWordsFrom.f1_ {w : World} {g : Nat} {t : TypeId} {cs : Array Value} (q : Aside0 (w.heap[g]? = some (.cells cs t (0, 0)))) (i : Nat) : w.frozen? ⟨g, i, none⟩ = false := blk_frozen q.out i
theorem laws_FnExactWordsFrom.r1_ {α : Type} {d : Kd α} {e base : Nat} {ok : Nat → Prop} {v : Value} {xs : List α} {w W w1 : World} (q : Aside0 (d.R e w base ok v xs)) (hb : Below W.heap.size W w1) (h : d.R e w base ok v xs → d.R e W base ok v xs := by intro q_; (with_reducible repeat (first | apply Kd.R_alloc | apply Kd.R_drewN | apply Kd.R_drew)); exact q_) : Aside0 (d.R e w1 base ok v xs) := ⟨Kd.R_below (h q.out) hb⟩
mutual
def laws_FnExactWordsFrom.j0 : Nat → ByteArray → List ByteArray → Bool → List ByteArray → Bool → Bool → List (S108) → List (S63) → Option (Bool)
  | 0, _, _, _, _, _, _, _, _ => none
  | k + 1, x1, x6, x7, x9, x10, x47, x200000, x212000 => if x47 = true then (some false) else ((laws_toIndex.f k x200000).bind fun t217 => ((laws_eqIndex.f k x212000 t217).bind fun t220 => (if t220 = true then ((laws_markIndex.f k x212000 1).bind fun t221 => (if t221 < 0 then (laws_FnExactWordsFrom.j1 k x1 x6 x7 x9 true x200000) else ((laws_eqStringS.f k x9 x6).bind fun t222 => (if t222 = true then (laws_FnExactWordsFrom.j1 k x1 x6 x7 x9 (x10 != x7) x200000) else (laws_FnExactWordsFrom.j1 k x1 x6 x7 x9 true x200000))))) else (some false))))
def laws_FnExactWordsFrom.j1 : Nat → ByteArray → List ByteArray → Bool → List ByteArray → Bool → List (S108) → Option (Bool)
  | 0, _, _, _, _, _, _ => none
  | k + 1, x1, x6, x7, x9, x68, x200000 => if x68 = true then (some false) else ((laws_markStringS.f k x9 1).bind fun bt223 => ((laws_heldStringS.f k bt223.2 1).bind fun t225 => (if t225 < 0 then (some false) else (if t225 = bt223.1 then ((laws_toIndex.f k x200000).bind fun t226 => ((impl_WordsFrom.f k t226 x1).bind fun bt229 => ((laws_eqStringS.f k bt229.1 x6).bind fun t233 => (if t233 = true then (laws_FnExactWordsFrom.j2 k bt223.2 bt223.1 (bt229.2 != x7)) else (laws_FnExactWordsFrom.j2 k bt223.2 bt223.1 true))))) else (some false)))))
def laws_FnExactWordsFrom.j2 : Nat → List ByteArray → Int → Bool → Option (Bool)
  | 0, _, _, _ => none
  | k + 1, x9, x12, x95 => if x95 = true then (some false) else ((laws_heldStringS.f k x9 1).bind fun t234 => (if t234 < 0 then (some false) else (if t234 = x12 then (some true) else (some false))))
end
def laws_FnExactWordsFrom.f (k : Nat) (l0_0 : List (S108)) (a1 : ByteArray) : Option (Bool) := if (a1.size : Int) > 1048576 then (some true) else ((laws_szIndex.f k l0_0 1048576).bind fun t200 => (if t200 < 0 then (some true) else ((laws_toIndex.f k l0_0).bind fun t201 => ((spec_WordsFrom.f k t201 a1).bind fun bt204 => ((laws_toIndex.f k l0_0).bind fun t208 => ((impl_WordsFrom.f k t208 a1).bind fun bt212 => ((laws_eqStringS.f k bt212.1 bt204.1).bind fun t216 => (if t216 = true then (laws_FnExactWordsFrom.j0 k a1 bt204.1 bt204.2 bt212.1 bt212.2 (bt212.2 != bt204.2) l0_0 t208) else (laws_FnExactWordsFrom.j0 k a1 bt204.1 bt204.2 bt212.1 bt212.2 true l0_0 t208)))))))))
theorem laws_FnExactWordsFrom.mono_l : ∀ k, (∀ y0 y1 y2 y3 y4 y5 y6 y7, LeO (laws_FnExactWordsFrom.j0 k y0 y1 y2 y3 y4 y5 y6 y7) (laws_FnExactWordsFrom.j0 (k + 1) y0 y1 y2 y3 y4 y5 y6 y7)) ∧ (∀ y0 y1 y2 y3 y4 y5, LeO (laws_FnExactWordsFrom.j1 k y0 y1 y2 y3 y4 y5) (laws_FnExactWordsFrom.j1 (k + 1) y0 y1 y2 y3 y4 y5)) ∧ (∀ y0 y1 y2, LeO (laws_FnExactWordsFrom.j2 k y0 y1 y2) (laws_FnExactWordsFrom.j2 (k + 1) y0 y1 y2))
  | 0 => ⟨fun _ _ _ _ _ _ _ _ r h => by simp [laws_FnExactWordsFrom.j0] at h, fun _ _ _ _ _ _ r h => by simp [laws_FnExactWordsFrom.j1] at h, fun _ _ _ r h => by simp [laws_FnExactWordsFrom.j2] at h⟩
  | k + 1 => by
    obtain ⟨ih0, ih1, ih2⟩ := laws_FnExactWordsFrom.mono_l k
    refine ⟨?_, ?_, ?_⟩
    · intro y0 y1 y2 y3 y4 y5 y6 y7
      unfold laws_FnExactWordsFrom.j0
      repeat' first
      | (with_reducible exact ih0 _ _ _ _ _ _ _ _)
      | (with_reducible exact ih1 _ _ _ _ _ _)
      | (with_reducible exact ih2 _ _ _)
      | (with_reducible exact impl_WordsFrom.mono _ _ _)
      | (with_reducible exact laws_eqIndex.mono _ _ _)
      | (with_reducible exact laws_eqStringS.mono _ _ _)
      | (with_reducible exact laws_heldStringS.mono _ _ _)
      | (with_reducible exact laws_markIndex.mono _ _ _)
      | (with_reducible exact laws_markStringS.mono _ _ _)
      | (with_reducible exact laws_szIndex.mono _ _ _)
      | (with_reducible exact laws_toIndex.mono _ _)
      | (with_reducible exact spec_WordsFrom.mono _ _ _)
      | (with_reducible exact LeO.refl _)
      | (with_reducible exact LeO.none _)
      | (with_reducible refine LeO.ite ?_ ?_)
      | (with_reducible refine LeO.bind ?_ (fun _ => ?_))
      | exact ih0 _ _ _ _ _ _ _ _
      | exact ih1 _ _ _ _ _ _
      | exact ih2 _ _ _
      | exact impl_WordsFrom.mono _ _ _
      | exact laws_eqIndex.mono _ _ _
      | exact laws_eqStringS.mono _ _ _
      | exact laws_heldStringS.mono _ _ _
      | exact laws_markIndex.mono _ _ _
      | exact laws_markStringS.mono _ _ _
      | exact laws_szIndex.mono _ _ _
      | exact laws_toIndex.mono _ _
      | exact spec_WordsFrom.mono _ _ _
      | exact LeO.none _
      | refine LeO.ite ?_ ?_
      | refine LeO.bind ?_ (fun _ => ?_)
    · intro y0 y1 y2 y3 y4 y5
      unfold laws_FnExactWordsFrom.j1
      repeat' first
      | (with_reducible exact ih0 _ _ _ _ _ _ _ _)
      | (with_reducible exact ih1 _ _ _ _ _ _)
      | (with_reducible exact ih2 _ _ _)
      | (with_reducible exact impl_WordsFrom.mono _ _ _)
      | (with_reducible exact laws_eqIndex.mono _ _ _)
      | (with_reducible exact laws_eqStringS.mono _ _ _)
      | (with_reducible exact laws_heldStringS.mono _ _ _)
      | (with_reducible exact laws_markIndex.mono _ _ _)
      | (with_reducible exact laws_markStringS.mono _ _ _)
      | (with_reducible exact laws_szIndex.mono _ _ _)
      | (with_reducible exact laws_toIndex.mono _ _)
      | (with_reducible exact spec_WordsFrom.mono _ _ _)
      | (with_reducible exact LeO.refl _)
      | (with_reducible exact LeO.none _)
      | (with_reducible refine LeO.ite ?_ ?_)
      | (with_reducible refine LeO.bind ?_ (fun _ => ?_))
      | exact ih0 _ _ _ _ _ _ _ _
      | exact ih1 _ _ _ _ _ _
      | exact ih2 _ _ _
      | exact impl_WordsFrom.mono _ _ _
      | exact laws_eqIndex.mono _ _ _
      | exact laws_eqStringS.mono _ _ _
      | exact laws_heldStringS.mono _ _ _
      | exact laws_markIndex.mono _ _ _
      | exact laws_markStringS.mono _ _ _
      | exact laws_szIndex.mono _ _ _
      | exact laws_toIndex.mono _ _
      | exact spec_WordsFrom.mono _ _ _
      | exact LeO.none _
      | refine LeO.ite ?_ ?_
      | refine LeO.bind ?_ (fun _ => ?_)
    · intro y0 y1 y2
      unfold laws_FnExactWordsFrom.j2
      repeat' first
      | (with_reducible exact ih0 _ _ _ _ _ _ _ _)
      | (with_reducible exact ih1 _ _ _ _ _ _)
      | (with_reducible exact ih2 _ _ _)
      | (with_reducible exact impl_WordsFrom.mono _ _ _)
      | (with_reducible exact laws_eqIndex.mono _ _ _)
      | (with_reducible exact laws_eqStringS.mono _ _ _)
      | (with_reducible exact laws_heldStringS.mono _ _ _)
      | (with_reducible exact laws_markIndex.mono _ _ _)
      | (with_reducible exact laws_markStringS.mono _ _ _)
      | (with_reducible exact laws_szIndex.mono _ _ _)
      | (with_reducible exact laws_toIndex.mono _ _)
      | (with_reducible exact spec_WordsFrom.mono _ _ _)
      | (with_reducible exact LeO.refl _)
      | (with_reducible exact LeO.none _)
      | (with_reducible refine LeO.ite ?_ ?_)
      | (with_reducible refine LeO.bind ?_ (fun _ => ?_))
      | exact ih0 _ _ _ _ _ _ _ _
      | exact ih1 _ _ _ _ _ _
      | exact ih2 _ _ _
      | exact impl_WordsFrom.mono _ _ _
      | exact laws_eqIndex.mono _ _ _
      | exact laws_eqStringS.mono _ _ _
      | exact laws_heldStringS.mono _ _ _
      | exact laws_markIndex.mono _ _ _
      | exact laws_markStringS.mono _ _ _
      | exact laws_szIndex.mono _ _ _
      | exact laws_toIndex.mono _ _
      | exact spec_WordsFrom.mono _ _ _
      | exact LeO.none _
      | refine LeO.ite ?_ ?_
      | refine LeO.bind ?_ (fun _ => ?_)
theorem laws_FnExactWordsFrom.mono : ∀ a0 a1 k, LeO (laws_FnExactWordsFrom.f k a0 a1) (laws_FnExactWordsFrom.f (k + 1) a0 a1) := by
  intro a0 a1 k
  obtain ⟨ih0, ih1, ih2⟩ := laws_FnExactWordsFrom.mono_l k
  unfold laws_FnExactWordsFrom.f
  repeat' first
      | (with_reducible exact ih0 _ _ _ _ _ _ _ _)
      | (with_reducible exact ih1 _ _ _ _ _ _)
      | (with_reducible exact ih2 _ _ _)
      | (with_reducible exact impl_WordsFrom.mono _ _ _)
      | (with_reducible exact laws_eqIndex.mono _ _ _)
      | (with_reducible exact laws_eqStringS.mono _ _ _)
      | (with_reducible exact laws_heldStringS.mono _ _ _)
      | (with_reducible exact laws_markIndex.mono _ _ _)
      | (with_reducible exact laws_markStringS.mono _ _ _)
      | (with_reducible exact laws_szIndex.mono _ _ _)
      | (with_reducible exact laws_toIndex.mono _ _)
      | (with_reducible exact spec_WordsFrom.mono _ _ _)
      | (with_reducible exact LeO.refl _)
      | (with_reducible exact LeO.none _)
      | (with_reducible refine LeO.ite ?_ ?_)
      | (with_reducible refine LeO.bind ?_ (fun _ => ?_))
      | exact ih0 _ _ _ _ _ _ _ _
      | exact ih1 _ _ _ _ _ _
      | exact ih2 _ _ _
      | exact impl_WordsFrom.mono _ _ _
      | exact laws_eqIndex.mono _ _ _
      | exact laws_eqStringS.mono _ _ _
      | exact laws_heldStringS.mono _ _ _
      | exact laws_markIndex.mono _ _ _
      | exact laws_markStringS.mono _ _ _
      | exact laws_szIndex.mono _ _ _
      | exact laws_toIndex.mono _ _
      | exact spec_WordsFrom.mono _ _ _
      | exact LeO.none _
      | refine LeO.ite ?_ ?_
      | refine LeO.bind ?_ (fun _ => ?_)
set_option maxHeartbeats 8000000 in
set_option maxRecDepth 100000 in
theorem laws_FnExactWordsFrom.calls (k : Nat) (A0_0 : Option Addr) (c0_0 : Nat) (l0_0 : List (S108)) (a1 : ByteArray) (r : Bool) (w : World) (hr0_0 : Kd.C k108 w A0_0 l0_0.length l0_0) (hc0_0 : l0_0.length ≤ c0_0) (h : laws_FnExactWordsFrom.f k l0_0 a1 = some r) :
    Calls Try.prog 8 #[.agg #[.slice A0_0 l0_0.length c0_0], .string a1] w fun e w' => e = .returned (.bool r) ∧ Below w.heap.size w w' := by
 have hu24 := Try.underlying24
 have hu29 := Try.underlying29
 have HR0_0 := Aside0.mk hr0_0
 have HC0_0 := Aside0.mk hc0_0
 clear hr0_0 hc0_0
 have HB := Aside0.mk (Below.refl w.heap.size w)
 have H : (if (a1.size : Int) > 1048576 then (some true) else ((laws_szIndex.f k l0_0 1048576).bind fun t200 => (if t200 < 0 then (some true) else ((laws_toIndex.f k l0_0).bind fun t201 => ((spec_WordsFrom.f k t201 a1).bind fun bt204 => ((laws_toIndex.f k l0_0).bind fun t208 => ((impl_WordsFrom.f k t208 a1).bind fun bt212 => ((laws_eqStringS.f k bt212.1 bt204.1).bind fun t216 => (if t216 = true then (laws_FnExactWordsFrom.j0 k a1 bt204.1 bt204.2 bt212.1 bt212.2 (bt212.2 != bt204.2) l0_0 t208) else (laws_FnExactWordsFrom.j0 k a1 bt204.1 bt204.2 bt212.1 bt212.2 true l0_0 t208)))))))))) = some r := h
 clear h
 by_cases c3 : (a1.size : Int) > 1048576
 {
 rw [if_pos c3] at H
 have c3b0 : decide (1048576 < (a1.size : Int)) = true := decide_eq_true c3
 have c3b1 : decide (1048576 < a1.size) = true := decide_eq_true (by omega)
 clear c3
 obtain rfl := Option.some.inj H
 go_enter Try.func8, Try.ntmps8
 go_wp2_with (first | ((with_reducible refine gate_dst (N := 2) rfl ?_); refine bx_ 2 #[.slice A0_0 l0_0.length c0_0] 24 ?_; intro gb199 hg w4 hbox hb; have GW199 := b6_ hg HB; have GE199 := b6_ hg HB; replace HB := Aside0.mk (below_step (y1_ HB.out) hb); have BK199 := Aside0.mk (hbox); clear hb hbox hg))
 go_ret
 exact ⟨by first | rfl | (simp [errW_none, errW_some] <;> rfl) | (simp [*, errW_none, errW_some] <;> rfl), by repeat (first | (with_reducible first | exact HB.out | apply below_alloc | apply pw_below_drewN | apply below_drew1) | exact HB.out)⟩}
 {
 rw [if_neg c3] at H
 have c3b0 : decide (1048576 < (a1.size : Int)) = false := decide_eq_false c3
 have c3b1 : decide (1048576 < a1.size) = false := decide_eq_false (by omega)
 clear c3
 replace H := Option.bind_eq_some_iff.mp H
 obtain ⟨t200, A50, H⟩ := H
 replace H : (if t200 < 0 then (some true) else ((laws_toIndex.f k l0_0).bind fun t201 => ((spec_WordsFrom.f k t201 a1).bind fun bt204 => ((laws_toIndex.f k l0_0).bind fun t208 => ((impl_WordsFrom.f k t208 a1).bind fun bt212 => ((laws_eqStringS.f k bt212.1 bt204.1).bind fun t216 => (if t216 = true then (laws_FnExactWordsFrom.j0 k a1 bt204.1 bt204.2 bt212.1 bt212.2 (bt212.2 != bt204.2) l0_0 t208) else (laws_FnExactWordsFrom.j0 k a1 bt204.1 bt204.2 bt212.1 bt212.2 true l0_0 t208)))))))) = some r := H
 have A5 := Aside0.mk A50
 clear A50
 by_cases c6 : t200 < 0
 {
 rw [if_pos c6] at H
 have c6b0 : decide (t200 < 0) = true := decide_eq_true c6
 clear c6
 obtain rfl := Option.some.inj H
 go_enter Try.func8, Try.ntmps8
 go_wp2_with (first | ((with_reducible refine gate_dst (N := 2) rfl ?_); refine bx_ 2 #[.slice A0_0 l0_0.length c0_0] 24 ?_; intro gb199 hg w7 hbox hb; have GW199 := b6_ hg HB; have GE199 := b6_ hg HB; replace HB := Aside0.mk (below_step (y1_ HB.out) hb); have BK199 := Aside0.mk (hbox); clear hb hbox hg; have hcz8_0 := c1_ BK199 0 (.slice A0_0 l0_0.length c0_0); have hfz8_0 := f1_ BK199 0) | ((with_reducible refine gate_callee (f := 11) rfl ?_); refine goesL_ (some 21) rfl rfl Try.func11 s2_ rfl #[.agg #[.slice A0_0 l0_0.length c0_0], .int .i64 1048576] rfl s3_ ?_; (with_reducible refine (laws_szIndex.calls k _ _ l0_0 1048576 t200 _ ?side1 ?side2 A5.out).mono ?_); (case side1 => exact y2_ (Kd.C_below HR0_0.out HB.out)); (case side2 => exact HC0_0.out); rintro e w9 ⟨rfl, hb⟩; refine ⟨_, rfl, ?_⟩; replace BK199 := b3_ BK199 hb; replace HB := Aside0.mk (below_step (y1_ HB.out) hb); (try clear hb); (try clear hb2); (try clear hk); (try clear hi)))
 go_ret
 exact ⟨by first | rfl | (simp [errW_none, errW_some] <;> rfl) | (simp [*, errW_none, errW_some] <;> rfl), by repeat (first | (with_reducible first | exact HB.out | apply below_alloc | apply pw_below_drewN | apply below_drew1) | exact HB.out)⟩}
 {
 rw [if_neg c6] at H
 have c6b0 : decide (t200 < 0) = false := decide_eq_false c6
 clear c6
 replace H := Option.bind_eq_some_iff.mp H
 obtain ⟨t201, A100, H⟩ := H
 replace H : ((spec_WordsFrom.f k t201 a1).bind fun bt204 => ((laws_toIndex.f k l0_0).bind fun t208 => ((impl_WordsFrom.f k t208 a1).bind fun bt212 => ((laws_eqStringS.f k bt212.1 bt204.1).bind fun t216 => (if t216 = true then (laws_FnExactWordsFrom.j0 k a1 bt204.1 bt204.2 bt212.1 bt212.2 (bt212.2 != bt204.2) l0_0 t208) else (laws_FnExactWordsFrom.j0 k a1 bt204.1 bt204.2 bt212.1 bt212.2 true l0_0 t208)))))) = some r := H
 have A10 := Aside0.mk A100
 clear A100
 replace H := Option.bind_eq_some_iff.mp H
 obtain ⟨⟨t204, t207⟩, A110, H⟩ := H
 replace H : ((laws_toIndex.f k l0_0).bind fun t208 => ((impl_WordsFrom.f k t208 a1).bind fun bt212 => ((laws_eqStringS.f k bt212.1 t204).bind fun t216 => (if t216 = true then (laws_FnExactWordsFrom.j0 k a1 t204 t207 bt212.1 bt212.2 (bt212.2 != t207) l0_0 t208) else (laws_FnExactWordsFrom.j0 k a1 t204 t207 bt212.1 bt212.2 true l0_0 t208))))) = some r := H
 have A11 := Aside0.mk A110
 clear A110
 replace H := Option.bind_eq_some_iff.mp H
 obtain ⟨t208, A120, H⟩ := H
 replace H : ((impl_WordsFrom.f k t208 a1).bind fun bt212 => ((laws_eqStringS.f k bt212.1 t204).bind fun t216 => (if t216 = true then (laws_FnExactWordsFrom.j0 k a1 t204 t207 bt212.1 bt212.2 (bt212.2 != t207) l0_0 t208) else (laws_FnExactWordsFrom.j0 k a1 t204 t207 bt212.1 bt212.2 true l0_0 t208)))) = some r := H
 have A12 := Aside0.mk A120
 clear A120
 replace H := Option.bind_eq_some_iff.mp H
 obtain ⟨⟨t212, t215⟩, A130, H⟩ := H
 replace H : ((laws_eqStringS.f k t212 t204).bind fun t216 => (if t216 = true then (laws_FnExactWordsFrom.j0 k a1 t204 t207 t212 t215 (t215 != t207) l0_0 t208) else (laws_FnExactWordsFrom.j0 k a1 t204 t207 t212 t215 true l0_0 t208))) = some r := H
 have A13 := Aside0.mk A130
 clear A130
 have HC14 := Aside0.mk H
 clear H
 go_enter Try.func8, Try.ntmps8
 go_upto_region 10 with (first | ((with_reducible refine gate_dst (N := 2) rfl ?_); refine bx_ 2 #[.slice A0_0 l0_0.length c0_0] 24 ?_; intro gb199 hg w15 hbox hb; have GW199 := b6_ hg HB; have GE199 := b6_ hg HB; replace HB := Aside0.mk (below_step (y1_ HB.out) hb); have BK199 := Aside0.mk (hbox); clear hb hbox hg; have hcz16_0 := c1_ BK199 0 (.slice A0_0 l0_0.length c0_0); have hfz16_0 := f1_ BK199 0) | ((with_reducible refine gate_callee (f := 11) rfl ?_); refine goesL_ (some 21) rfl rfl Try.func11 s2_ rfl #[.agg #[.slice A0_0 l0_0.length c0_0], .int .i64 1048576] rfl s3_ ?_; (with_reducible refine (laws_szIndex.calls k _ _ l0_0 1048576 t200 _ ?side1 ?side2 A5.out).mono ?_); (case side1 => exact y2_ (Kd.C_below HR0_0.out HB.out)); (case side2 => exact HC0_0.out); rintro e w17 ⟨rfl, hb⟩; refine ⟨_, rfl, ?_⟩; replace BK199 := b3_ BK199 hb; replace HB := Aside0.mk (below_step (y1_ HB.out) hb); (try clear hb); (try clear hb2); (try clear hk); (try clear hi); have hcz18_0 := c1_ BK199 0 (.slice A0_0 l0_0.length c0_0); have hfz18_0 := f1_ BK199 0) | ((with_reducible refine gate_callee (f := 13) rfl ?_); refine goesL_ (some 26) rfl rfl Try.func13 s2_ rfl #[.agg #[.slice A0_0 l0_0.length c0_0]] rfl s3_ ?_; (with_reducible refine (laws_toIndex.calls k _ _ l0_0 t201 _ ?side1 ?side2 A10.out).mono ?_); (case side1 => exact y2_ (Kd.C_below HR0_0.out HB.out)); (case side2 => exact HC0_0.out); rintro e w19 ⟨v202, rfl, ho0, hb⟩; refine ⟨_, rfl, ?_⟩; have HO203 := Aside0.mk (Kd.S_lower ho0 (below_size (y1_ HB.out))); replace BK199 := b3_ BK199 hb; replace HB := Aside0.mk (below_step (y1_ HB.out) hb); (try clear hb); (try clear hb2); (try clear hk); (try clear hi); (try clear ho0); obtain ⟨Ao20, co20, eo20⟩ := Kd.S_slice HO203.out; subst eo20) | ((with_reducible refine gate_callee (f := 30) rfl ?_); refine goesL_ (some 28) rfl rfl Try.func30 s2_ rfl #[.agg #[.slice Ao20 t201.length co20], .string a1] rfl s3_ ?_; (with_reducible refine (spec_WordsFrom.calls k _ _ t201 a1 t204 t207 _ ?side1 ?side2 A11.out).mono ?_); (case side1 => exact y2_ (Kd.S_reads' HO203.out).2.2); (case side2 => exact (Kd.S_reads' HO203.out).2.1); rintro e w21 ⟨v205, rfl, ho0, hb⟩; refine ⟨_, rfl, ?_⟩; replace HO203 := Aside0.mk (Kd.S_below (by (with_reducible repeat (first | apply Kd.S_alloc | apply Kd.S_drewN | apply Kd.S_drew)); exact HO203.out) hb); have HO206 := Aside0.mk (Kd.R_lower ho0 (below_size (y1_ HB.out))); replace BK199 := b3_ BK199 hb; replace HB := Aside0.mk (below_step (y1_ HB.out) hb); (try clear hb); (try clear hb2); (try clear hk); (try clear hi); (try clear ho0); have hcz22_0 := c1_ BK199 0 (.slice A0_0 l0_0.length c0_0); have hfz22_0 := f1_ BK199 0) | ((with_reducible refine gate_callee (f := 13) rfl ?_); refine goesL_ (some 32) rfl rfl Try.func13 s2_ rfl #[.agg #[.slice A0_0 l0_0.length c0_0]] rfl s3_ ?_; (with_reducible refine (laws_toIndex.calls k _ _ l0_0 t208 _ ?side1 ?side2 A12.out).mono ?_); (case side1 => exact y2_ (Kd.C_below HR0_0.out HB.out)); (case side2 => exact HC0_0.out); rintro e w23 ⟨v209, rfl, ho0, hb⟩; refine ⟨_, rfl, ?_⟩; have n0_ := Aside0.mk (Kd.S_elder' (by (with_reducible repeat (first | apply Kd.S_alloc | apply Kd.S_drewN | apply Kd.S_drew)); exact HO203.out) (Kd.S_base ho0) hb); have n1_ := r1_ HO206 hb; have n2_ := Aside0.mk (Kd.S_lower (Kd.S_new' ho0 (Kd.S_lt (by (with_reducible repeat (first | apply Kd.S_alloc | apply Kd.S_drewN | apply Kd.S_drew)); exact HO203.out))) (below_size (y1_ HB.out))); have n3_ := b3_ BK199 hb; have n4_ := Aside0.mk (below_step (y1_ HB.out) hb); clear HO203; clear HO206; clear BK199; clear HB; have HO203 := n0_; have HO206 := n1_; have HO210 := n2_; have BK199 := n3_; have HB := n4_; clear n0_ n1_ n2_ n3_ n4_; (try clear hb); (try clear hb2); (try clear hk); (try clear hi); (try clear ho0)) | ((with_reducible refine gate_dst (N := 8) rfl ?_); refine bx_ 8 #[.slice none 0 0] 29 ?_; intro gb211 hg w24 hbox hb; have GW211 := b6_ hg HB; have GE211 := b6_ hg HB; have NB199_211 := b4_ hg BK199; have NB211_199 := b5_ hg BK199; replace HO203 := Aside0.mk (Kd.S_below (by (with_reducible repeat (first | apply Kd.S_alloc | apply Kd.S_drewN | apply Kd.S_drew)); exact HO203.out) hb); replace HO206 := r1_ HO206 hb; replace HO210 := Aside0.mk (Kd.S_below (by (with_reducible repeat (first | apply Kd.S_alloc | apply Kd.S_drewN | apply Kd.S_drew)); exact HO210.out) hb); replace BK199 := b3_ BK199 hb; replace HB := Aside0.mk (below_step (y1_ HB.out) hb); have BK211 := Aside0.mk (hbox); clear hb hbox hg; obtain ⟨Ao25, co25, eo25⟩ := Kd.S_slice HO210.out; subst eo25; have hnb26 := NB211_199.out; have hnc26 := NB199_211.out; have hcz27_0 := c1_ BK211 0 (.slice none 0 0); have hfz27_0 := f1_ BK211 0) | ((with_reducible refine gate_callee (f := 31) rfl ?_); refine goesL_ (some 36) rfl rfl Try.func31 s2_ rfl #[.agg #[.slice Ao25 t208.length co25], .string a1] rfl s3_ ?_; (with_reducible refine (impl_WordsFrom.calls k _ _ t208 a1 t212 t215 _ ?side1 ?side2 A13.out).mono ?_); (case side1 => refine (Kd.S_reads' (e := 63) (base := w.heap.size) (ok := fun k_ => (True ∧ some k_ ≠ (.slice Ao20 t201.length co20 : Value).ownBlock)) (n := t208.length) (c := co25) ?_).2.2; exact (by (with_reducible repeat (first | apply Kd.S_alloc | apply Kd.S_drewN | apply Kd.S_drew)); exact (Kd.S_mono (Kd.S_far (p := ⟨gb211, 0, none⟩) (Kd.S_types HO210.out BK211.out (by decide)) (fun _ hk => hk.2) (.slice Ao25 t208.length co25)) (fun _ h_ => h_.1)))); (case side2 => exact (Kd.S_reads' HO210.out).2.1); rintro e w28 ⟨v213, rfl, ho0, hb⟩; refine ⟨_, rfl, ?_⟩; have n0_ := Aside0.mk (Kd.S_below (by (with_reducible repeat (first | apply Kd.S_alloc | apply Kd.S_drewN | apply Kd.S_drew)); exact (Kd.S_mono (Kd.S_far (p := ⟨gb211, 0, none⟩) (Kd.S_types HO203.out BK211.out (by decide)) (fun _ hk => hk.2) (.slice Ao25 t208.length co25)) (fun _ h_ => h_.1))) hb); have n1_ := Aside0.mk (Kd.R_elder' (by (with_reducible repeat (first | apply Kd.R_alloc | apply Kd.R_drewN | apply Kd.R_drew)); exact (Kd.R_mono (Kd.R_far (p := ⟨gb211, 0, none⟩) (Kd.R_types HO206.out BK211.out (by decide)) (fun _ hk => hk.2) (.slice Ao25 t208.length co25)) (fun _ h_ => h_.1))) (Kd.R_base ho0) hb); have n2_ := Aside0.mk (Kd.S_below (by (with_reducible repeat (first | apply Kd.S_alloc | apply Kd.S_drewN | apply Kd.S_drew)); exact (Kd.S_mono (Kd.S_far (p := ⟨gb211, 0, none⟩) (Kd.S_types HO210.out BK211.out (by decide)) (fun _ hk => hk.2) (.slice Ao25 t208.length co25)) (fun _ h_ => h_.1))) hb); have n3_ := Aside0.mk (Kd.R_lower (Kd.R_new' ho0 (Kd.R_lt (by (with_reducible repeat (first | apply Kd.R_alloc | apply Kd.R_drewN | apply Kd.R_drew)); exact (Kd.R_mono (Kd.R_far (p := ⟨gb211, 0, none⟩) (Kd.R_types HO206.out BK211.out (by decide)) (fun _ hk => hk.2) (.slice Ao25 t208.length co25)) (fun _ h_ => h_.1))))) (below_size (by repeat (first | (with_reducible first | exact HB.out | apply below_alloc | apply pw_below_drewN | apply below_drew1 | refine below_set ?_ GE211.out) | exact HB.out)))); have n4_ := Aside0.mk (blk_below (g := gb199) (o := .cells #[.slice A0_0 l0_0.length c0_0] 24 (0, 0)) (by (with_reducible repeat (first | refine blk_drewN ?_ _ | refine blk_drew ?_ | refine blk_alloc ?_ _)); refine blk_far ?_ NB199_211.out _; (with_reducible repeat (first | refine blk_drewN ?_ _ | refine blk_drew ?_ | refine blk_alloc ?_ _)); exact BK199.out) hb); have n5_ := Aside0.mk (blk_below (g := gb211) (o := .cells #[.slice Ao25 t208.length co25] 29 (0, 0)) (by (with_reducible repeat (first | refine blk_drewN ?_ _ | refine blk_drew ?_ | refine blk_alloc ?_ _)); refine blk_put (cs := #[.slice none 0 0]) ?_ 0 _ rfl; (with_reducible repeat (first | refine blk_drewN ?_ _ | refine blk_drew ?_ | refine blk_alloc ?_ _)); exact BK211.out) hb); have n6_ := Aside0.mk (below_step (by repeat (first | (with_reducible first | exact HB.out | apply below_alloc | apply pw_below_drewN | apply below_drew1 | refine below_set ?_ GE211.out) | exact HB.out)) hb); clear HO203; clear HO206; clear HO210; clear BK199; clear BK211; clear HB; have HO203 := n0_; have HO206 := n1_; have HO210 := n2_; have HO214 := n3_; have BK199 := n4_; have BK211 := n5_; have HB := n6_; clear n0_ n1_ n2_ n3_ n4_ n5_ n6_; (try clear hb); (try clear hb2); (try clear hk); (try clear hi); (try clear ho0)))
 (try simp only [Act.put, List.setIfInBounds_toArray, List.set_cons_zero, List.set_cons_succ])
 go_cut [47] (fun v47 wc => ∃ (kq : Nat) (x47_13 : Bool), v47 = .bool x47_13 ∧ Aside0 (laws_FnExactWordsFrom.j0 kq a1 t204 t207 t212 t215 x47_13 l0_0 t208 = some r) ∧ Aside0 (kq ≤ k) ∧ Aside0 (Kd.R Kd.string 9 wc w.heap.size (fun k_ => some k_ ≠ (v213 : Value).ownBlock) v205 t204) ∧ Aside0 (Kd.R Kd.string 9 wc w.heap.size (fun k_ => some k_ ≠ (v205 : Value).ownBlock) v213 t212) ∧ Aside0 (Kd.S k63 63 wc w.heap.size (fun _ => True) (.slice Ao25 t208.length co25) t208) ∧ Aside0 (wc.heap[gb199]? = some (.cells #[(.slice A0_0 l0_0.length c0_0)] 24 (0, 0))) ∧ Aside0 (wc.heap[gb211]? = some (.cells #[(.slice Ao25 t208.length co25)] 29 (0, 0))) ∧ Aside0 (Below w.heap.size w wc))
 case first =>
  skip
  {
 have H := HC14.out
 clear HC14
 replace H := Option.bind_eq_some_iff.mp H
 obtain ⟨t216, A290, H⟩ := H
 replace H : (if t216 = true then (laws_FnExactWordsFrom.j0 k a1 t204 t207 t212 t215 (t215 != t207) l0_0 t208) else (laws_FnExactWordsFrom.j0 k a1 t204 t207 t212 t215 true l0_0 t208)) = some r := H
 have A29 := Aside0.mk A290
 clear A290
 by_cases c30 : t216 = true
 {
 subst c30
 have H1 : (laws_FnExactWordsFrom.j0 k a1 t204 t207 t212 t215 (t215 != t207) l0_0 t208) = some r := by rw [if_pos rfl] at H; exact H
 clear H
 have H := H1
 clear H1
 have H' := Aside0.mk H
 clear H
 obtain ⟨Ao31, co31, eo31⟩ := Kd.R_slice HO214.out
 subst eo31
 obtain ⟨Ao32, co32, eo32⟩ := Kd.R_slice HO206.out
 subst eo32
 go_wp2_with (first | ((with_reducible refine gate_callee (f := 28) rfl ?_); refine goesL_ (some 41) rfl rfl Try.func28 s2_ rfl #[.slice Ao31 t212.length co31, .slice Ao32 t204.length co32] rfl s3_ ?_; (with_reducible refine (laws_eqStringS.calls k _ _ t212 _ _ t204 true _ ?side1 ?side2 ?side3 ?side4 A29.out).mono ?_); (case side1 => exact y2_ (Kd.R_reads' HO214.out).2.2); (case side2 => exact (Kd.R_reads' HO214.out).2.1); (case side3 => exact y2_ (Kd.R_reads' HO206.out).2.2); (case side4 => exact (Kd.R_reads' HO206.out).2.1); rintro e w' ⟨rfl, ⟨nd, rfl⟩⟩; refine ⟨_, rfl, ?_⟩))
 go_meet
 case rel => exact ⟨_, ((t215 != t207)), s1_, H', ⟨by first | omega | exact Nat.le_refl _⟩, ⟨by (with_reducible repeat (first | apply Kd.R_alloc | apply Kd.R_drewN | apply Kd.R_drew)); exact Kd.R_mono HO206.out (fun _ hk => hk.2)⟩, ⟨by (with_reducible repeat (first | apply Kd.R_alloc | apply Kd.R_drewN | apply Kd.R_drew)); exact Kd.R_mono HO214.out (fun _ hk => hk.2)⟩, ⟨by (with_reducible repeat (first | apply Kd.S_alloc | apply Kd.S_drewN | apply Kd.S_drew)); exact Kd.S_mono HO210.out (fun _ hk => trivial)⟩, ⟨b1_ BK199.out⟩, ⟨b1_ BK211.out⟩, ⟨by repeat (first | (with_reducible first | exact HB.out | apply below_alloc | apply pw_below_drewN | apply below_drew1) | exact HB.out)⟩⟩}
 {
 replace c30 := Bool.eq_false_iff.mpr c30
 subst c30
 have H1 : (laws_FnExactWordsFrom.j0 k a1 t204 t207 t212 t215 true l0_0 t208) = some r := by rw [if_neg (show ¬ (false = true) by decide)] at H; exact H
 clear H
 have H := H1
 clear H1
 have H' := Aside0.mk H
 clear H
 obtain ⟨Ao33, co33, eo33⟩ := Kd.R_slice HO214.out
 subst eo33
 obtain ⟨Ao34, co34, eo34⟩ := Kd.R_slice HO206.out
 subst eo34
 go_wp2_with (first | ((with_reducible refine gate_callee (f := 28) rfl ?_); refine goesL_ (some 41) rfl rfl Try.func28 s2_ rfl #[.slice Ao33 t212.length co33, .slice Ao34 t204.length co34] rfl s3_ ?_; (with_reducible refine (laws_eqStringS.calls k _ _ t212 _ _ t204 false _ ?side1 ?side2 ?side3 ?side4 A29.out).mono ?_); (case side1 => exact y2_ (Kd.R_reads' HO214.out).2.2); (case side2 => exact (Kd.R_reads' HO214.out).2.1); (case side3 => exact y2_ (Kd.R_reads' HO206.out).2.2); (case side4 => exact (Kd.R_reads' HO206.out).2.1); rintro e w' ⟨rfl, ⟨nd, rfl⟩⟩; refine ⟨_, rfl, ?_⟩))
 go_meet
 case rel => exact ⟨_, (true), s1_, H', ⟨by first | omega | exact Nat.le_refl _⟩, ⟨by (with_reducible repeat (first | apply Kd.R_alloc | apply Kd.R_drewN | apply Kd.R_drew)); exact Kd.R_mono HO206.out (fun _ hk => hk.2)⟩, ⟨by (with_reducible repeat (first | apply Kd.R_alloc | apply Kd.R_drewN | apply Kd.R_drew)); exact Kd.R_mono HO214.out (fun _ hk => hk.2)⟩, ⟨by (with_reducible repeat (first | apply Kd.S_alloc | apply Kd.S_drewN | apply Kd.S_drew)); exact Kd.S_mono HO210.out (fun _ hk => trivial)⟩, ⟨b1_ BK199.out⟩, ⟨b1_ BK211.out⟩, ⟨by repeat (first | (with_reducible first | exact HB.out | apply below_alloc | apply pw_below_drewN | apply below_drew1) | exact HB.out)⟩⟩}}
 case rest =>
  skip
  {
 clear HC14
 try clear c1
 try clear c2
 try clear p2
 try clear c3
 try clear c3b0
 try clear c3b1
 try clear c6
 try clear c6b0
 try clear c8
 try clear c11
 try clear c13
 try clear c26
 try clear c28
 try clear c30
 try clear c31
 try clear hcz16_0
 try clear hcz18_0
 try clear hcz22_0
 try clear hcz27_0
 try clear hcz8_0
 try clear hfz16_0
 try clear hfz18_0
 try clear hfz22_0
 try clear hfz27_0
 try clear hfz8_0
 obtain ⟨kq, x47_13, rfl, HA, HJ13, HO_6, HO_9, HO_212000, BK199, BK211, HB⟩ := hcut
 cases kq with
 | zero => exact absurd HA.out (by simp [laws_FnExactWordsFrom.j0])
 | succ kj13 =>
  skip
  {
 have H := HA.out
 clear HA
 simp only [laws_FnExactWordsFrom.j0] at H
 by_cases c35 : x47_13 = true
 {
 subst c35
 have H1 : (some false) = some r := by rw [if_pos rfl] at H; exact H
 clear H
 have H := H1
 clear H1
 obtain rfl := Option.some.inj H
 go_wp2
 go_ret
 exact ⟨by first | rfl | (simp [errW_none, errW_some] <;> rfl) | (simp [*, errW_none, errW_some] <;> rfl), by repeat (first | (with_reducible first | exact HB.out | apply below_alloc | apply pw_below_drewN | apply below_drew1) | exact HB.out)⟩}
 {
 replace c35 := Bool.eq_false_iff.mpr c35
 subst c35
 have H1 : ((laws_toIndex.f kj13 l0_0).bind fun t217 => ((laws_eqIndex.f kj13 t208 t217).bind fun t220 => (if t220 = true then ((laws_markIndex.f kj13 t208 1).bind fun t221 => (if t221 < 0 then (laws_FnExactWordsFrom.j1 kj13 a1 t204 t207 t212 true l0_0) else ((laws_eqStringS.f kj13 t212 t204).bind fun t222 => (if t222 = true then (laws_FnExactWordsFrom.j1 kj13 a1 t204 t207 t212 (t215 != t207) l0_0) else (laws_FnExactWordsFrom.j1 kj13 a1 t204 t207 t212 true l0_0))))) else (some false)))) = some r := by rw [if_neg (show ¬ (false = true) by decide)] at H; exact H
 clear H
 have H := H1
 clear H1
 replace H := Option.bind_eq_some_iff.mp H
 obtain ⟨t217, A360, H⟩ := H
 replace H : ((laws_eqIndex.f kj13 t208 t217).bind fun t220 => (if t220 = true then ((laws_markIndex.f kj13 t208 1).bind fun t221 => (if t221 < 0 then (laws_FnExactWordsFrom.j1 kj13 a1 t204 t207 t212 true l0_0) else ((laws_eqStringS.f kj13 t212 t204).bind fun t222 => (if t222 = true then (laws_FnExactWordsFrom.j1 kj13 a1 t204 t207 t212 (t215 != t207) l0_0) else (laws_FnExactWordsFrom.j1 kj13 a1 t204 t207 t212 true l0_0))))) else (some false))) = some r := H
 have A36 := Aside0.mk A360
 clear A360
 replace H := Option.bind_eq_some_iff.mp H
 obtain ⟨t220, A370, H⟩ := H
 replace H : (if t220 = true then ((laws_markIndex.f kj13 t208 1).bind fun t221 => (if t221 < 0 then (laws_FnExactWordsFrom.j1 kj13 a1 t204 t207 t212 true l0_0) else ((laws_eqStringS.f kj13 t212 t204).bind fun t222 => (if t222 = true then (laws_FnExactWordsFrom.j1 kj13 a1 t204 t207 t212 (t215 != t207) l0_0) else (laws_FnExactWordsFrom.j1 kj13 a1 t204 t207 t212 true l0_0))))) else (some false)) = some r := H
 have A37 := Aside0.mk A370
 clear A370
 by_cases c38 : t220 = true
 {
 subst c38
 have H1 : ((laws_markIndex.f kj13 t208 1).bind fun t221 => (if t221 < 0 then (laws_FnExactWordsFrom.j1 kj13 a1 t204 t207 t212 true l0_0) else ((laws_eqStringS.f kj13 t212 t204).bind fun t222 => (if t222 = true then (laws_FnExactWordsFrom.j1 kj13 a1 t204 t207 t212 (t215 != t207) l0_0) else (laws_FnExactWordsFrom.j1 kj13 a1 t204 t207 t212 true l0_0))))) = some r := by rw [if_pos rfl] at H; exact H
 clear H
 have H := H1
 clear H1
 replace H := Option.bind_eq_some_iff.mp H
 obtain ⟨t221, A390, H⟩ := H
 replace H : (if t221 < 0 then (laws_FnExactWordsFrom.j1 kj13 a1 t204 t207 t212 true l0_0) else ((laws_eqStringS.f kj13 t212 t204).bind fun t222 => (if t222 = true then (laws_FnExactWordsFrom.j1 kj13 a1 t204 t207 t212 (t215 != t207) l0_0) else (laws_FnExactWordsFrom.j1 kj13 a1 t204 t207 t212 true l0_0)))) = some r := H
 have A39 := Aside0.mk A390
 clear A390
 have HC40 := Aside0.mk H
 clear H
 try go_wp2
 replace HO_6 := Aside0.mk (Kd.R_drew HO_6.out)
 replace HO_9 := Aside0.mk (Kd.R_drew HO_9.out)
 replace HO_212000 := Aside0.mk (Kd.S_drew HO_212000.out)
 replace BK199 := Aside0.mk (blk_drew BK199.out)
 replace BK211 := Aside0.mk (blk_drew BK211.out)
 replace HB := Aside0.mk (below_drew1 HB.out)
 refine start_ (n := 5) (S := fun w' => w'.cell? ⟨gb211, 0, none⟩ = some (.slice Ao25 t208.length co25) ∧ w'.cell? ⟨gb199, 0, none⟩ = some (.slice A0_0 l0_0.length c0_0)) (ds := []) #[F,F,F,F,F] s2_ rfl rfl ⟨(blk_cell BK211.out 0).trans rfl, (blk_cell BK199.out 0).trans rfl⟩ (fun hHeld => ?_)
 generalize wc.drew = w41 at HO_6 HO_9 HO_212000 BK199 BK211 HB hHeld ⊢
 refine take_ (i := 0) (N := some 48) (v := ?_) (a' := ?_) #[T,F,F,F,F] rfl rfl s2_ (fun _ _ _ h => h) (Or.inl ⟨by rfl, ?_⟩) hHeld ?_ ?_
 rotate_left
 {
 rintro w' ⟨s0, s1⟩
 go_simp
 with_reducible rfl}
 rotate_left
 · exact p1_
 refine take_ (i := 1) (N := some 49) (v := ?_) (a' := ?_) #[T,T,F,F,F] rfl rfl s2_ (fun _ _ _ h => h) (Or.inl ⟨by rfl, ?_⟩) hHeld ?_ ?_
 rotate_left
 {
 rintro w' ⟨s0, s1⟩
 go_simp
 with_reducible rfl}
 rotate_left
 · exact p1_
 refine one_ (i := 2) (N := some 50) #[T,T,T,F,F] rfl rfl s2_ (by decide) (fun K hK => ?_)
 refine goes_ Try.func13 s2_ rfl #[.agg #[.slice A0_0 l0_0.length c0_0]] (by rfl) rfl rfl s3_ ?_
 with_reducible refine (laws_toIndex.calls kj13 _ _ l0_0 t217 _ ?side1 ?side2 A36.out).mono ?_
 (case side1 => exact y2_ (Kd.C_below HR0_0.out HB.out))
 (case side2 => exact HC0_0.out)
 rintro e w42 ⟨v218, rfl, ho0, hb⟩
 refine ⟨_, rfl, ?_⟩
 have n0_ := r1_ HO_6 hb
 have n1_ := r1_ HO_9 hb
 have n2_ := Aside0.mk (Kd.S_elder' (by (with_reducible repeat (first | apply Kd.S_alloc | apply Kd.S_drewN | apply Kd.S_drew)); exact HO_212000.out) (Kd.S_base ho0) hb)
 have n3_ := Aside0.mk (Kd.S_lower (Kd.S_new' ho0 (Kd.S_lt (by (with_reducible repeat (first | apply Kd.S_alloc | apply Kd.S_drewN | apply Kd.S_drew)); exact HO_212000.out))) (below_size (y1_ HB.out)))
 have n4_ := b3_ BK199 hb
 have n5_ := b3_ BK211 hb
 have n6_ := Aside0.mk (below_step (y1_ HB.out) hb)
 clear HO_6
 clear HO_9
 clear HO_212000
 clear BK199
 clear BK211
 clear HB
 have HO_6 := n0_
 have HO_9 := n1_
 have HO_212000 := n2_
 have HO219 := n3_
 have BK199 := n4_
 have BK211 := n5_
 have HB := n6_
 clear n0_ n1_ n2_ n3_ n4_ n5_ n6_
 (try clear hb)
 (try clear hb2)
 (try clear hk)
 (try clear hi)
 (try clear ho0)
 obtain ⟨Ao43, co43, eo43⟩ := Kd.S_slice HO219.out
 (first | subst eo43 | (injection eo43 with f1_ f2_ f3_; have f4_ := f1_.symm; have f5_ := f3_.symm; clear f1_ f2_ f3_; subst f4_; subst f5_))
 refine hK.out _ _ ⟨(blk_cell BK211.out 0).trans rfl, (blk_cell BK199.out 0).trans rfl⟩ (fun hHeld => ?_)
 clear hK K
 refine norm_ (a' := ?_) ?_ ?_
 rotate_left
 {
 show Act.put _ (some 50) _ = _
 simp only [Act.put, List.setIfInBounds_toArray, List.set_cons_zero, List.set_cons_succ, i64_w, i32_w]
 rfl}
 refine one_ (i := 3) (N := some 51) #[T,T,T,T,F] rfl rfl s2_ (by decide) (fun K hK => ?_)
 refine goes_ Try.func15 s2_ rfl #[.agg #[.slice Ao25 t208.length co25], .agg #[.slice Ao43 t217.length co43]] (by rfl) rfl rfl s3_ ?_
 with_reducible refine (laws_eqIndex.calls kj13 _ _ t208 _ _ t217 true _ ?side1 ?side2 ?side3 ?side4 A37.out).mono ?_
 (case side1 => exact y2_ (Kd.S_reads' HO_212000.out).2.2)
 (case side2 => exact (Kd.S_reads' HO_212000.out).2.1)
 (case side3 => exact y2_ (Kd.S_reads' HO219.out).2.2)
 (case side4 => exact (Kd.S_reads' HO219.out).2.1)
 rintro e w44 ⟨rfl, hb⟩
 refine ⟨_, rfl, ?_⟩
 replace HO_6 := r1_ HO_6 hb
 replace HO_9 := r1_ HO_9 hb
 replace HO_212000 := Aside0.mk (Kd.S_below (by (with_reducible repeat (first | apply Kd.S_alloc | apply Kd.S_drewN | apply Kd.S_drew)); exact HO_212000.out) hb)
 replace HO219 := Aside0.mk (Kd.S_below (by (with_reducible repeat (first | apply Kd.S_alloc | apply Kd.S_drewN | apply Kd.S_drew)); exact HO219.out) hb)
 replace BK199 := b3_ BK199 hb
 replace BK211 := b3_ BK211 hb
 replace HB := Aside0.mk (below_step (y1_ HB.out) hb)
 (try clear hb)
 (try clear hb2)
 (try clear hk)
 (try clear hi)
 refine hK.out _ _ ⟨(blk_cell BK211.out 0).trans rfl, (blk_cell BK199.out 0).trans rfl⟩ (fun hHeld => ?_)
 clear hK K
 refine norm_ (a' := ?_) ?_ ?_
 rotate_left
 {
 show Act.put _ (some 51) _ = _
 simp only [Act.put, List.setIfInBounds_toArray, List.set_cons_zero, List.set_cons_succ, i64_w, i32_w]
 rfl}
 refine pure_ (i := 4) (N := some 52) (v := ?_) (a' := ?_) #[T,T,T,T,T] rfl rfl s2_ (fun _ _ _ h => h) (Or.inl ⟨by rfl, ?_⟩) ?_ ?_
 rotate_left
 {
 intro w'
 go_simp
 with_reducible rfl}
 rotate_left
 · exact p1_
 refine done_ s2_ ?_
 have hnb45 := NB211_199.out
 have hnc45 := NB199_211.out
 have hcz46_0 := c1_ BK211 0 (.slice Ao25 t208.length co25)
 have hfz46_0 := f1_ BK211 0
 go_upto_region 16 with (first | ((with_reducible refine gate_callee (f := 32) rfl ?_); refine goesL_ (some 55) rfl rfl Try.func32 s2_ rfl #[.agg #[.slice Ao25 t208.length co25], .int .i64 1] rfl s3_ ?_; (refine (laws_markIndex.own kj13 ?P_ _ t208 1 t221 w _ ?hb1_ ?ho1_ A39.out).mono ?_); (case ho1_ => exact Kd.S_bound HO_212000.out); (case hb1_ => exact y1_ HB.out); rintro e w47 ⟨rfl, ⟨r2_, hs2_⟩, hb, hkp⟩; refine ⟨_, rfl, ?_⟩; replace HO_6 := Aside0.mk (laws_markIndex.k_row hkp HO_6.out (by decide)); replace HO_9 := Aside0.mk (laws_markIndex.k_row hkp HO_9.out (by decide)); replace HO_212000 := Aside0.mk (Kd.S_mono hs2_ (fun _ _ => trivial)); clear HO219; replace BK199 := Aside0.mk (laws_markIndex.k_blk hkp BK199.out (by decide)); replace BK211 := Aside0.mk (laws_markIndex.k_blk hkp BK211.out (by decide)); replace HB := Aside0.mk hb; clear hs2_ hkp; (try clear hb); (try clear hb2); (try clear hk); (try clear hi)))
 (try simp only [Act.put, List.setIfInBounds_toArray, List.set_cons_zero, List.set_cons_succ])
 go_cut [68] (fun v68 wc => ∃ (kq : Nat) (x68_39 : Bool), v68 = .bool x68_39 ∧ Aside0 (laws_FnExactWordsFrom.j1 kq a1 t204 t207 t212 x68_39 l0_0 = some r) ∧ Aside0 (kq ≤ kj13) ∧ Aside0 (Kd.R Kd.string 9 wc w.heap.size (fun k_ => some k_ ≠ (v213 : Value).ownBlock) v205 t204) ∧ Aside0 (Kd.R Kd.string 9 wc w.heap.size (fun k_ => some k_ ≠ (v205 : Value).ownBlock) v213 t212) ∧ Aside0 (Kd.S k63 63 wc w.heap.size (fun _ => True) (.slice Ao25 t208.length co25) r2_) ∧ Aside0 (wc.heap[gb199]? = some (.cells #[(.slice A0_0 l0_0.length c0_0)] 24 (0, 0))) ∧ Aside0 (wc.heap[gb211]? = some (.cells #[(.slice Ao25 t208.length co25)] 29 (0, 0))) ∧ Aside0 (Below w.heap.size w wc))
 case first =>
  skip
  {
 have H := HC40.out
 clear HC40
 by_cases c48 : t221 < 0
 {
 rw [if_pos c48] at H
 have c48b0 : decide (t221 < 0) = true := decide_eq_true c48
 clear c48
 (first | rw [c48b0] | (simp only [i64_w, i32_w]; rw [c48b0]) | skip)
 have H' := Aside0.mk H
 clear H
 go_wp2
 go_meet
 case rel => exact ⟨_, (true), s1_, H', ⟨by have := HJ13.out; first | omega | exact Nat.le_refl _⟩, ⟨b2_ HO_6.out⟩, ⟨b2_ HO_9.out⟩, ⟨by (with_reducible repeat (first | apply Kd.S_alloc | apply Kd.S_drewN | apply Kd.S_drew)); exact Kd.S_mono HO_212000.out (fun _ hk => trivial)⟩, ⟨b1_ BK199.out⟩, ⟨b1_ BK211.out⟩, ⟨by repeat (first | (with_reducible first | exact HB.out | apply below_alloc | apply pw_below_drewN | apply below_drew1) | exact HB.out)⟩⟩}
 {
 rw [if_neg c48] at H
 have c48b0 : decide (t221 < 0) = false := decide_eq_false c48
 clear c48
 (first | rw [c48b0] | (simp only [i64_w, i32_w]; rw [c48b0]) | skip)
 replace H := Option.bind_eq_some_iff.mp H
 obtain ⟨t222, A490, H⟩ := H
 replace H : (if t222 = true then (laws_FnExactWordsFrom.j1 kj13 a1 t204 t207 t212 (t215 != t207) l0_0) else (laws_FnExactWordsFrom.j1 kj13 a1 t204 t207 t212 true l0_0)) = some r := H
 have A49 := Aside0.mk A490
 clear A490
 by_cases c50 : t222 = true
 {
 subst c50
 have H1 : (laws_FnExactWordsFrom.j1 kj13 a1 t204 t207 t212 (t215 != t207) l0_0) = some r := by rw [if_pos rfl] at H; exact H
 clear H
 have H := H1
 clear H1
 have H' := Aside0.mk H
 clear H
 obtain ⟨Ao51, co51, eo51⟩ := Kd.R_slice HO_9.out
 subst eo51
 obtain ⟨Ao52, co52, eo52⟩ := Kd.R_slice HO_6.out
 subst eo52
 go_wp2_with (first | (go_at_call 28; (with_reducible refine (laws_eqStringS.calls kj13 _ _ t212 _ _ t204 true _ ?side1 ?side2 ?side3 ?side4 A49.out).mono ?_); (case side1 => exact y2_ (Kd.R_reads' HO_9.out).2.2); (case side2 => exact (Kd.R_reads' HO_9.out).2.1); (case side3 => exact y2_ (Kd.R_reads' HO_6.out).2.2); (case side4 => exact (Kd.R_reads' HO_6.out).2.1); rintro e w' ⟨rfl, ⟨nd, rfl⟩⟩))
 go_meet
 case rel => exact ⟨_, ((t215 != t207)), s1_, H', ⟨by have := HJ13.out; first | omega | exact Nat.le_refl _⟩, ⟨b2_ HO_6.out⟩, ⟨b2_ HO_9.out⟩, ⟨by (with_reducible repeat (first | apply Kd.S_alloc | apply Kd.S_drewN | apply Kd.S_drew)); exact Kd.S_mono HO_212000.out (fun _ hk => trivial)⟩, ⟨b1_ BK199.out⟩, ⟨b1_ BK211.out⟩, ⟨by repeat (first | (with_reducible first | exact HB.out | apply below_alloc | apply pw_below_drewN | apply below_drew1) | exact HB.out)⟩⟩}
 {
 replace c50 := Bool.eq_false_iff.mpr c50
 subst c50
 have H1 : (laws_FnExactWordsFrom.j1 kj13 a1 t204 t207 t212 true l0_0) = some r := by rw [if_neg (show ¬ (false = true) by decide)] at H; exact H
 clear H
 have H := H1
 clear H1
 have H' := Aside0.mk H
 clear H
 obtain ⟨Ao53, co53, eo53⟩ := Kd.R_slice HO_9.out
 subst eo53
 obtain ⟨Ao54, co54, eo54⟩ := Kd.R_slice HO_6.out
 subst eo54
 go_wp2_with (first | (go_at_call 28; (with_reducible refine (laws_eqStringS.calls kj13 _ _ t212 _ _ t204 false _ ?side1 ?side2 ?side3 ?side4 A49.out).mono ?_); (case side1 => exact y2_ (Kd.R_reads' HO_9.out).2.2); (case side2 => exact (Kd.R_reads' HO_9.out).2.1); (case side3 => exact y2_ (Kd.R_reads' HO_6.out).2.2); (case side4 => exact (Kd.R_reads' HO_6.out).2.1); rintro e w' ⟨rfl, ⟨nd, rfl⟩⟩))
 go_meet
 case rel => exact ⟨_, (true), s1_, H', ⟨by have := HJ13.out; first | omega | exact Nat.le_refl _⟩, ⟨b2_ HO_6.out⟩, ⟨b2_ HO_9.out⟩, ⟨by (with_reducible repeat (first | apply Kd.S_alloc | apply Kd.S_drewN | apply Kd.S_drew)); exact Kd.S_mono HO_212000.out (fun _ hk => trivial)⟩, ⟨b1_ BK199.out⟩, ⟨b1_ BK211.out⟩, ⟨by repeat (first | (with_reducible first | exact HB.out | apply below_alloc | apply pw_below_drewN | apply below_drew1) | exact HB.out)⟩⟩}}}
 case rest =>
  skip
  {
 clear HC40
 try clear c1
 try clear c2
 try clear p2
 try clear c3
 try clear c3b0
 try clear c3b1
 try clear c4
 try clear c5
 try clear c6
 try clear c6b0
 try clear c8
 try clear c11
 try clear c13
 try clear c15
 try clear c26
 try clear c28
 try clear c30
 try clear c31
 try clear c32
 try clear c35
 try clear c38
 try clear c45
 try clear c48
 try clear c48b0
 try clear c50
 try clear hcz16_0
 try clear hcz18_0
 try clear hcz22_0
 try clear hcz27_0
 try clear hcz46_0
 try clear hcz8_0
 try clear hfz16_0
 try clear hfz18_0
 try clear hfz22_0
 try clear hfz27_0
 try clear hfz46_0
 try clear hfz8_0
 try clear p2
 obtain ⟨kq, x68_39, rfl, HA, HJ39, HO_6, HO_9, HO_212000, BK199, BK211, HB⟩ := hcut
 cases kq with
 | zero => exact absurd HA.out (by simp [laws_FnExactWordsFrom.j1])
 | succ kj39 =>
  skip
  {
 have H := HA.out
 clear HA
 simp only [laws_FnExactWordsFrom.j1] at H
 by_cases c55 : x68_39 = true
 {
 subst c55
 have H1 : (some false) = some r := by rw [if_pos rfl] at H; exact H
 clear H
 have H := H1
 clear H1
 obtain rfl := Option.some.inj H
 go_wp2
 go_ret
 exact ⟨by first | rfl | (simp [errW_none, errW_some] <;> rfl) | (simp [*, errW_none, errW_some] <;> rfl), by repeat (first | (with_reducible first | exact HB.out | apply below_alloc | apply pw_below_drewN | apply below_drew1) | exact HB.out)⟩}
 {
 replace c55 := Bool.eq_false_iff.mpr c55
 subst c55
 have H1 : ((laws_markStringS.f kj39 t212 1).bind fun bt223 => ((laws_heldStringS.f kj39 bt223.2 1).bind fun t225 => (if t225 < 0 then (some false) else (if t225 = bt223.1 then ((laws_toIndex.f kj39 l0_0).bind fun t226 => ((impl_WordsFrom.f kj39 t226 a1).bind fun bt229 => ((laws_eqStringS.f kj39 bt229.1 t204).bind fun t233 => (if t233 = true then (laws_FnExactWordsFrom.j2 kj39 bt223.2 bt223.1 (bt229.2 != t207)) else (laws_FnExactWordsFrom.j2 kj39 bt223.2 bt223.1 true))))) else (some false))))) = some r := by rw [if_neg (show ¬ (false = true) by decide)] at H; exact H
 clear H
 have H := H1
 clear H1
 replace H := Option.bind_eq_some_iff.mp H
 obtain ⟨⟨t223, t224⟩, A560, H⟩ := H
 replace H : ((laws_heldStringS.f kj39 t224 1).bind fun t225 => (if t225 < 0 then (some false) else (if t225 = t223 then ((laws_toIndex.f kj39 l0_0).bind fun t226 => ((impl_WordsFrom.f kj39 t226 a1).bind fun bt229 => ((laws_eqStringS.f kj39 bt229.1 t204).bind fun t233 => (if t233 = true then (laws_FnExactWordsFrom.j2 kj39 t224 t223 (bt229.2 != t207)) else (laws_FnExactWordsFrom.j2 kj39 t224 t223 true))))) else (some false)))) = some r := H
 have A56 := Aside0.mk A560
 clear A560
 replace H := Option.bind_eq_some_iff.mp H
 obtain ⟨t225, A570, H⟩ := H
 replace H : (if t225 < 0 then (some false) else (if t225 = t223 then ((laws_toIndex.f kj39 l0_0).bind fun t226 => ((impl_WordsFrom.f kj39 t226 a1).bind fun bt229 => ((laws_eqStringS.f kj39 bt229.1 t204).bind fun t233 => (if t233 = true then (laws_FnExactWordsFrom.j2 kj39 t224 t223 (bt229.2 != t207)) else (laws_FnExactWordsFrom.j2 kj39 t224 t223 true))))) else (some false))) = some r := H
 have A57 := Aside0.mk A570
 clear A570
 by_cases c58 : t225 < 0
 {
 rw [if_pos c58] at H
 have c58b0 : decide (t225 < 0) = true := decide_eq_true c58
 clear c58
 obtain rfl := Option.some.inj H
 obtain ⟨Ao59, co59, eo59⟩ := Kd.R_slice HO_9.out
 subst eo59
 go_wp2_with (first | ((with_reducible refine gate_callee (f := 33) rfl ?_); refine goesL_ (some 71) rfl rfl Try.func33 s2_ rfl #[.slice Ao59 t212.length co59, .int .i64 1] rfl s3_ ?_; (with_reducible refine (laws_markStringS.calls kj39 (fun k_ => some k_ = (.slice Ao59 t212.length co59 : Value).ownBlock) (.slice Ao59 t212.length co59) t212 1 t223 t224 w _ ?side1 ?side2 A56.out).mono ?_); (case side1 => repeat (first | (with_reducible first | exact HB.out | apply below_alloc | apply pw_below_drewN | apply below_drew1) | exact HB.out)); (case side2 => exact Kd.R_tight rfl HO_9.out); rintro e w60 ⟨rfl, hy0, hb, hkp⟩; refine ⟨_, rfl, ?_⟩; have n0_ := Aside0.mk (Kd.R_mono (ok' := fun k_ => some k_ ≠ (.slice Ao59 t212.length co59 : Value).ownBlock) (Kd.R_keptB (HO_6.out) hkp (fun k_ hk_ hs_ => (hk_) hs_)) (fun k_ hk_ => hk_.1)); have n1_ := Aside0.mk (Kd.R_reok rfl hy0 (fun k_ e_ => HO_9.out.1 k_ e_)); have n2_ := Aside0.mk (Kd.S_mono (ok' := fun k_ => True) (Kd.S_keptB ((Kd.S_apart' HO_212000.out (Kd.R_typed HO_9.out) (by decide))) hkp (fun k_ hk_ hs_ => (hk_.2) hs_)) (fun k_ hk_ => trivial)); have n3_ := Aside0.mk (blk_kept (b1_ BK199.out) hkp (fun hs_ => (fun e_ => (Kd.R_ne HO_9.out BK199.out (by decide)) e_) hs_)); have n4_ := Aside0.mk (blk_kept (b1_ BK211.out) hkp (fun hs_ => (fun e_ => (Kd.R_ne HO_9.out BK211.out (by decide)) e_) hs_)); have n5_ := Aside0.mk (hb); clear HO_6; clear HO_9; clear HO_212000; clear BK199; clear BK211; clear HB; have HO_6 := n0_; have HO_9 := n1_; have HO_212000 := n2_; have BK199 := n3_; have BK211 := n4_; have HB := n5_; clear n0_ n1_ n2_ n3_ n4_ n5_; (try clear hb); (try clear hkp); (try clear hy0)) | ((with_reducible refine gate_callee (f := 34) rfl ?_); refine goesL_ (some 74) rfl rfl Try.func34 s2_ rfl #[.slice Ao59 t224.length co59, .int .i64 1] rfl (by (try simp only [List.map_toArray, List.map_cons, List.map_nil]); first | done | (rw [show t224.length = t212.length from (Kd.R_reads' HO_9.out).1.symm] <;> rfl) | rfl | (simp only [List.length_drop, List.length_take]; rfl)) ?_; (with_reducible refine (laws_heldStringS.calls kj39 _ _ t224 1 t225 _ ?side1 ?side2 A57.out).mono ?_); (case side1 => exact y2_ (Kd.R_reads' HO_9.out).2.2); (case side2 => rw [show t224.length = t212.length from (Kd.R_reads' HO_9.out).1.symm]; exact (Kd.R_reads' HO_9.out).2.1); rintro e w61 ⟨rfl, hb⟩; refine ⟨_, rfl, ?_⟩; replace HO_6 := r1_ HO_6 hb; replace HO_9 := r1_ HO_9 hb; replace HO_212000 := Aside0.mk (Kd.S_below (by (with_reducible repeat (first | apply Kd.S_alloc | apply Kd.S_drewN | apply Kd.S_drew)); exact HO_212000.out) hb); replace BK199 := b3_ BK199 hb; replace BK211 := b3_ BK211 hb; replace HB := Aside0.mk (below_step (y1_ HB.out) hb); (try clear hb); (try clear hb2); (try clear hk); (try clear hi)))
 go_ret
 exact ⟨by first | rfl | (simp [errW_none, errW_some] <;> rfl) | (simp [*, errW_none, errW_some] <;> rfl), by repeat (first | (with_reducible first | exact HB.out | apply below_alloc | apply pw_below_drewN | apply below_drew1) | exact HB.out)⟩}
 {
 rw [if_neg c58] at H
 have c58b0 : decide (t225 < 0) = false := decide_eq_false c58
 clear c58
 by_cases c62 : t225 = t223
 {
 rw [if_pos c62] at H
 have c62b0 : (t225 == t223) = true := beq_iff_eq.mpr c62
 have c62b1 : (t225 != t223) = false := bne_eq_false_iff_eq.mpr c62
 clear c62
 replace H := Option.bind_eq_some_iff.mp H
 obtain ⟨t226, A630, H⟩ := H
 replace H : ((impl_WordsFrom.f kj39 t226 a1).bind fun bt229 => ((laws_eqStringS.f kj39 bt229.1 t204).bind fun t233 => (if t233 = true then (laws_FnExactWordsFrom.j2 kj39 t224 t223 (bt229.2 != t207)) else (laws_FnExactWordsFrom.j2 kj39 t224 t223 true)))) = some r := H
 have A63 := Aside0.mk A630
 clear A630
 replace H := Option.bind_eq_some_iff.mp H
 obtain ⟨⟨t229, t232⟩, A640, H⟩ := H
 replace H : ((laws_eqStringS.f kj39 t229 t204).bind fun t233 => (if t233 = true then (laws_FnExactWordsFrom.j2 kj39 t224 t223 (t232 != t207)) else (laws_FnExactWordsFrom.j2 kj39 t224 t223 true))) = some r := H
 have A64 := Aside0.mk A640
 clear A640
 have HC65 := Aside0.mk H
 clear H
 obtain ⟨Ao66, co66, eo66⟩ := Kd.R_slice HO_9.out
 subst eo66
 go_upto_region 27 with (first | ((with_reducible refine gate_callee (f := 33) rfl ?_); refine goesL_ (some 71) rfl rfl Try.func33 s2_ rfl #[.slice Ao66 t212.length co66, .int .i64 1] rfl s3_ ?_; (with_reducible refine (laws_markStringS.calls kj39 (fun k_ => some k_ = (.slice Ao66 t212.length co66 : Value).ownBlock) (.slice Ao66 t212.length co66) t212 1 t223 t224 w _ ?side1 ?side2 A56.out).mono ?_); (case side1 => repeat (first | (with_reducible first | exact HB.out | apply below_alloc | apply pw_below_drewN | apply below_drew1) | exact HB.out)); (case side2 => exact Kd.R_tight rfl HO_9.out); rintro e w67 ⟨rfl, hy0, hb, hkp⟩; refine ⟨_, rfl, ?_⟩; have n0_ := Aside0.mk (Kd.R_mono (ok' := fun k_ => some k_ ≠ (.slice Ao66 t212.length co66 : Value).ownBlock) (Kd.R_keptB (HO_6.out) hkp (fun k_ hk_ hs_ => (hk_) hs_)) (fun k_ hk_ => hk_.1)); have n1_ := Aside0.mk (Kd.R_reok rfl hy0 (fun k_ e_ => HO_9.out.1 k_ e_)); have n2_ := Aside0.mk (Kd.S_mono (ok' := fun k_ => True) (Kd.S_keptB ((Kd.S_apart' HO_212000.out (Kd.R_typed HO_9.out) (by decide))) hkp (fun k_ hk_ hs_ => (hk_.2) hs_)) (fun k_ hk_ => trivial)); have n3_ := Aside0.mk (blk_kept (b1_ BK199.out) hkp (fun hs_ => (fun e_ => (Kd.R_ne HO_9.out BK199.out (by decide)) e_) hs_)); have n4_ := Aside0.mk (blk_kept (b1_ BK211.out) hkp (fun hs_ => (fun e_ => (Kd.R_ne HO_9.out BK211.out (by decide)) e_) hs_)); have n5_ := Aside0.mk (hb); clear HO_6; clear HO_9; clear HO_212000; clear BK199; clear BK211; clear HB; have HO_6 := n0_; have HO_9 := n1_; have HO_212000 := n2_; have BK199 := n3_; have BK211 := n4_; have HB := n5_; clear n0_ n1_ n2_ n3_ n4_ n5_; (try clear hb); (try clear hkp); (try clear hy0)) | ((with_reducible refine gate_callee (f := 34) rfl ?_); refine goesL_ (some 74) rfl rfl Try.func34 s2_ rfl #[.slice Ao66 t224.length co66, .int .i64 1] rfl (by (try simp only [List.map_toArray, List.map_cons, List.map_nil]); first | done | (rw [show t224.length = t212.length from (Kd.R_reads' HO_9.out).1.symm] <;> rfl) | rfl | (simp only [List.length_drop, List.length_take]; rfl)) ?_; (with_reducible refine (laws_heldStringS.calls kj39 _ _ t224 1 t225 _ ?side1 ?side2 A57.out).mono ?_); (case side1 => exact y2_ (Kd.R_reads' HO_9.out).2.2); (case side2 => rw [show t224.length = t212.length from (Kd.R_reads' HO_9.out).1.symm]; exact (Kd.R_reads' HO_9.out).2.1); rintro e w68 ⟨rfl, hb⟩; refine ⟨_, rfl, ?_⟩; replace HO_6 := r1_ HO_6 hb; replace HO_9 := r1_ HO_9 hb; replace HO_212000 := Aside0.mk (Kd.S_below (by (with_reducible repeat (first | apply Kd.S_alloc | apply Kd.S_drewN | apply Kd.S_drew)); exact HO_212000.out) hb); replace BK199 := b3_ BK199 hb; replace BK211 := b3_ BK211 hb; replace HB := Aside0.mk (below_step (y1_ HB.out) hb); (try clear hb); (try clear hb2); (try clear hk); (try clear hi); have hnb69 := NB199_211.out; have hnc69 := NB211_199.out; have hcz70_0 := c1_ BK199 0 (.slice A0_0 l0_0.length c0_0); have hfz70_0 := f1_ BK199 0) | ((with_reducible refine gate_callee (f := 13) rfl ?_); refine goesL_ (some 82) rfl rfl Try.func13 s2_ rfl #[.agg #[.slice A0_0 l0_0.length c0_0]] rfl s3_ ?_; (with_reducible refine (laws_toIndex.calls kj39 _ _ l0_0 t226 _ ?side1 ?side2 A63.out).mono ?_); (case side1 => exact y2_ (Kd.C_below HR0_0.out HB.out)); (case side2 => exact HC0_0.out); rintro e w71 ⟨v227, rfl, ho0, hb⟩; refine ⟨_, rfl, ?_⟩; have n0_ := r1_ HO_6 hb; have n1_ := r1_ HO_9 hb; have n2_ := Aside0.mk (Kd.S_elder' (by (with_reducible repeat (first | apply Kd.S_alloc | apply Kd.S_drewN | apply Kd.S_drew)); exact HO_212000.out) (Kd.S_base ho0) hb); have n3_ := Aside0.mk (Kd.S_lower (Kd.S_new' ho0 (Kd.S_lt (by (with_reducible repeat (first | apply Kd.S_alloc | apply Kd.S_drewN | apply Kd.S_drew)); exact HO_212000.out))) (below_size (y1_ HB.out))); have n4_ := b3_ BK199 hb; have n5_ := b3_ BK211 hb; have n6_ := Aside0.mk (below_step (y1_ HB.out) hb); clear HO_6; clear HO_9; clear HO_212000; clear BK199; clear BK211; clear HB; have HO_6 := n0_; have HO_9 := n1_; have HO_212000 := n2_; have HO228 := n3_; have BK199 := n4_; have BK211 := n5_; have HB := n6_; clear n0_ n1_ n2_ n3_ n4_ n5_ n6_; (try clear hb); (try clear hb2); (try clear hk); (try clear hi); (try clear ho0); obtain ⟨Ao72, co72, eo72⟩ := Kd.S_slice HO228.out; subst eo72) | ((with_reducible refine gate_callee (f := 31) rfl ?_); refine goesL_ (some 84) rfl rfl Try.func31 s2_ rfl #[.agg #[.slice Ao72 t226.length co72], .string a1] rfl s3_ ?_; (with_reducible refine (impl_WordsFrom.calls kj39 _ _ t226 a1 t229 t232 _ ?side1 ?side2 A64.out).mono ?_); (case side1 => exact y2_ (Kd.S_reads' HO228.out).2.2); (case side2 => exact (Kd.S_reads' HO228.out).2.1); rintro e w73 ⟨v230, rfl, ho0, hb⟩; refine ⟨_, rfl, ?_⟩; have n0_ := Aside0.mk (Kd.R_elder' (b2_ HO_6.out) (Kd.R_base ho0) hb); have n1_ := Aside0.mk (Kd.R_elder' (b2_ HO_9.out) (Kd.R_base ho0) hb); have n2_ := Aside0.mk (Kd.S_below (by (with_reducible repeat (first | apply Kd.S_alloc | apply Kd.S_drewN | apply Kd.S_drew)); exact HO_212000.out) hb); have n3_ := Aside0.mk (Kd.S_below (by (with_reducible repeat (first | apply Kd.S_alloc | apply Kd.S_drewN | apply Kd.S_drew)); exact HO228.out) hb); have n4_ := Aside0.mk (Kd.R_lower (Kd.R_new' (Kd.R_new' ho0 (Kd.R_lt (b2_ HO_6.out))) (Kd.R_lt (b2_ HO_9.out))) (below_size (y1_ HB.out))); have n5_ := b3_ BK199 hb; have n6_ := b3_ BK211 hb; have n7_ := Aside0.mk (below_step (y1_ HB.out) hb); clear HO_6; clear HO_9; clear HO_212000; clear HO228; clear BK199; clear BK211; clear HB; have HO_6 := n0_; have HO_9 := n1_; have HO_212000 := n2_; have HO228 := n3_; have HO231 := n4_; have BK199 := n5_; have BK211 := n6_; have HB := n7_; clear n0_ n1_ n2_ n3_ n4_ n5_ n6_ n7_; (try clear hb); (try clear hb2); (try clear hk); (try clear hi); (try clear ho0)))
 (try simp only [Act.put, List.setIfInBounds_toArray, List.set_cons_zero, List.set_cons_succ])
 go_cut [95] (fun v95 wc => ∃ (kq : Nat) (x95_64 : Bool), v95 = .bool x95_64 ∧ Aside0 (laws_FnExactWordsFrom.j2 kq t224 t223 x95_64 = some r) ∧ Aside0 (kq ≤ kj39) ∧ Aside0 (Kd.R Kd.string 9 wc w.heap.size (fun _ => True) (.slice Ao66 t212.length co66) t224) ∧ Aside0 (Kd.S k63 63 wc w.heap.size (fun _ => True) (.slice Ao25 t208.length co25) r2_) ∧ Aside0 (wc.heap[gb199]? = some (.cells #[(.slice A0_0 l0_0.length c0_0)] 24 (0, 0))) ∧ Aside0 (wc.heap[gb211]? = some (.cells #[(.slice Ao25 t208.length co25)] 29 (0, 0))) ∧ Aside0 (Below w.heap.size w wc))
 case first =>
  skip
  {
 have H := HC65.out
 clear HC65
 replace H := Option.bind_eq_some_iff.mp H
 obtain ⟨t233, A740, H⟩ := H
 replace H : (if t233 = true then (laws_FnExactWordsFrom.j2 kj39 t224 t223 (t232 != t207)) else (laws_FnExactWordsFrom.j2 kj39 t224 t223 true)) = some r := H
 have A74 := Aside0.mk A740
 clear A740
 by_cases c75 : t233 = true
 {
 subst c75
 have H1 : (laws_FnExactWordsFrom.j2 kj39 t224 t223 (t232 != t207)) = some r := by rw [if_pos rfl] at H; exact H
 clear H
 have H := H1
 clear H1
 have H' := Aside0.mk H
 clear H
 obtain ⟨Ao76, co76, eo76⟩ := Kd.R_slice HO231.out
 subst eo76
 obtain ⟨Ao77, co77, eo77⟩ := Kd.R_slice HO_6.out
 subst eo77
 go_wp2_with (first | ((with_reducible refine gate_callee (f := 28) rfl ?_); refine goesL_ (some 89) rfl rfl Try.func28 s2_ rfl #[.slice Ao76 t229.length co76, .slice Ao77 t204.length co77] rfl s3_ ?_; (with_reducible refine (laws_eqStringS.calls kj39 _ _ t229 _ _ t204 true _ ?side1 ?side2 ?side3 ?side4 A74.out).mono ?_); (case side1 => exact y2_ (Kd.R_reads' HO231.out).2.2); (case side2 => exact (Kd.R_reads' HO231.out).2.1); (case side3 => exact y2_ (Kd.R_reads' HO_6.out).2.2); (case side4 => exact (Kd.R_reads' HO_6.out).2.1); rintro e w' ⟨rfl, ⟨nd, rfl⟩⟩; refine ⟨_, rfl, ?_⟩))
 go_meet
 case rel => exact ⟨_, ((t232 != t207)), s1_, H', ⟨by have := HJ13.out; have := HJ39.out; first | omega | exact Nat.le_refl _⟩, ⟨by (with_reducible repeat (first | apply Kd.R_alloc | apply Kd.R_drewN | apply Kd.R_drew)); exact Kd.R_mono HO_9.out (fun _ hk => trivial)⟩, ⟨by (with_reducible repeat (first | apply Kd.S_alloc | apply Kd.S_drewN | apply Kd.S_drew)); exact Kd.S_mono HO_212000.out (fun _ hk => trivial)⟩, ⟨b1_ BK199.out⟩, ⟨b1_ BK211.out⟩, ⟨by repeat (first | (with_reducible first | exact HB.out | apply below_alloc | apply pw_below_drewN | apply below_drew1) | exact HB.out)⟩⟩}
 {
 replace c75 := Bool.eq_false_iff.mpr c75
 subst c75
 have H1 : (laws_FnExactWordsFrom.j2 kj39 t224 t223 true) = some r := by rw [if_neg (show ¬ (false = true) by decide)] at H; exact H
 clear H
 have H := H1
 clear H1
 have H' := Aside0.mk H
 clear H
 obtain ⟨Ao78, co78, eo78⟩ := Kd.R_slice HO231.out
 subst eo78
 obtain ⟨Ao79, co79, eo79⟩ := Kd.R_slice HO_6.out
 subst eo79
 go_wp2_with (first | ((with_reducible refine gate_callee (f := 28) rfl ?_); refine goesL_ (some 89) rfl rfl Try.func28 s2_ rfl #[.slice Ao78 t229.length co78, .slice Ao79 t204.length co79] rfl s3_ ?_; (with_reducible refine (laws_eqStringS.calls kj39 _ _ t229 _ _ t204 false _ ?side1 ?side2 ?side3 ?side4 A74.out).mono ?_); (case side1 => exact y2_ (Kd.R_reads' HO231.out).2.2); (case side2 => exact (Kd.R_reads' HO231.out).2.1); (case side3 => exact y2_ (Kd.R_reads' HO_6.out).2.2); (case side4 => exact (Kd.R_reads' HO_6.out).2.1); rintro e w' ⟨rfl, ⟨nd, rfl⟩⟩; refine ⟨_, rfl, ?_⟩))
 go_meet
 case rel => exact ⟨_, (true), s1_, H', ⟨by have := HJ13.out; have := HJ39.out; first | omega | exact Nat.le_refl _⟩, ⟨by (with_reducible repeat (first | apply Kd.R_alloc | apply Kd.R_drewN | apply Kd.R_drew)); exact Kd.R_mono HO_9.out (fun _ hk => trivial)⟩, ⟨by (with_reducible repeat (first | apply Kd.S_alloc | apply Kd.S_drewN | apply Kd.S_drew)); exact Kd.S_mono HO_212000.out (fun _ hk => trivial)⟩, ⟨b1_ BK199.out⟩, ⟨b1_ BK211.out⟩, ⟨by repeat (first | (with_reducible first | exact HB.out | apply below_alloc | apply pw_below_drewN | apply below_drew1) | exact HB.out)⟩⟩}}
 case rest =>
  skip
  {
 clear HC65
 try clear c1
 try clear c2
 try clear p2
 try clear c3
 try clear c3b0
 try clear c3b1
 try clear c4
 try clear c5
 try clear c6
 try clear c6b0
 try clear c7
 try clear c8
 try clear c11
 try clear c13
 try clear c15
 try clear c26
 try clear c28
 try clear c30
 try clear c31
 try clear c32
 try clear c33
 try clear c34
 try clear c35
 try clear c38
 try clear c45
 try clear c48
 try clear c48b0
 try clear c50
 try clear c55
 try clear c58
 try clear c58b0
 try clear c62
 try clear c62b0
 try clear c62b1
 try clear c69
 try clear c75
 try clear hcz16_0
 try clear hcz18_0
 try clear hcz22_0
 try clear hcz27_0
 try clear hcz46_0
 try clear hcz70_0
 try clear hcz8_0
 try clear hfz16_0
 try clear hfz18_0
 try clear hfz22_0
 try clear hfz27_0
 try clear hfz46_0
 try clear hfz70_0
 try clear hfz8_0
 try clear p2
 obtain ⟨kq, x95_64, rfl, HA, HJ64, HO_9, HO_212000, BK199, BK211, HB⟩ := hcut
 have hl9_64 := (Kd.R_reads' HO_9.out).1
 rw [hl9_64] at HO_9
 (try simp only [hl9_64])
 (try simp only [hl9_64] at BK199)
 (try simp only [hl9_64] at BK211)
 (try simp only [hl9_64] at HO_212000)
 cases kq with
 | zero => exact absurd HA.out (by simp [laws_FnExactWordsFrom.j2])
 | succ kj64 =>
  skip
  {
 have H := HA.out
 clear HA
 simp only [laws_FnExactWordsFrom.j2] at H
 by_cases c80 : x95_64 = true
 {
 subst c80
 have H1 : (some false) = some r := by rw [if_pos rfl] at H; exact H
 clear H
 have H := H1
 clear H1
 obtain rfl := Option.some.inj H
 go_wp2
 go_ret
 exact ⟨by first | rfl | (simp [errW_none, errW_some] <;> rfl) | (simp [*, errW_none, errW_some] <;> rfl), by repeat (first | (with_reducible first | exact HB.out | apply below_alloc | apply pw_below_drewN | apply below_drew1) | exact HB.out)⟩}
 {
 replace c80 := Bool.eq_false_iff.mpr c80
 subst c80
 have H1 : ((laws_heldStringS.f kj64 t224 1).bind fun t234 => (if t234 < 0 then (some false) else (if t234 = t223 then (some true) else (some false)))) = some r := by rw [if_neg (show ¬ (false = true) by decide)] at H; exact H
 clear H
 have H := H1
 clear H1
 replace H := Option.bind_eq_some_iff.mp H
 obtain ⟨t234, A810, H⟩ := H
 replace H : (if t234 < 0 then (some false) else (if t234 = t223 then (some true) else (some false))) = some r := H
 have A81 := Aside0.mk A810
 clear A810
 by_cases c82 : t234 < 0
 {
 rw [if_pos c82] at H
 have c82b0 : decide (t234 < 0) = true := decide_eq_true c82
 clear c82
 obtain rfl := Option.some.inj H
 go_wp2_with (first | ((with_reducible refine gate_callee (f := 34) rfl ?_); refine goesL_ (some 98) rfl rfl Try.func34 s2_ rfl #[.slice Ao66 t224.length co66, .int .i64 1] rfl s3_ ?_; (with_reducible refine (laws_heldStringS.calls kj64 _ _ t224 1 t234 _ ?side1 ?side2 A81.out).mono ?_); (case side1 => exact y2_ (Kd.R_reads' HO_9.out).2.2); (case side2 => exact (Kd.R_reads' HO_9.out).2.1); rintro e w83 ⟨rfl, hb⟩; refine ⟨_, rfl, ?_⟩; replace HO_9 := r1_ HO_9 hb; replace HO_212000 := Aside0.mk (Kd.S_below (by (with_reducible repeat (first | apply Kd.S_alloc | apply Kd.S_drewN | apply Kd.S_drew)); exact HO_212000.out) hb); replace BK199 := b3_ BK199 hb; replace BK211 := b3_ BK211 hb; replace HB := Aside0.mk (below_step (y1_ HB.out) hb); (try clear hb); (try clear hb2); (try clear hk); (try clear hi)))
 go_ret
 exact ⟨by first | rfl | (simp [errW_none, errW_some] <;> rfl) | (simp [*, errW_none, errW_some] <;> rfl), by repeat (first | (with_reducible first | exact HB.out | apply below_alloc | apply pw_below_drewN | apply below_drew1) | exact HB.out)⟩}
 {
 rw [if_neg c82] at H
 have c82b0 : decide (t234 < 0) = false := decide_eq_false c82
 clear c82
 by_cases c84 : t234 = t223
 {
 rw [if_pos c84] at H
 have c84b0 : (t234 == t223) = true := beq_iff_eq.mpr c84
 have c84b1 : (t234 != t223) = false := bne_eq_false_iff_eq.mpr c84
 clear c84
 obtain rfl := Option.some.inj H
 go_wp2_with (first | ((with_reducible refine gate_callee (f := 34) rfl ?_); refine goesL_ (some 98) rfl rfl Try.func34 s2_ rfl #[.slice Ao66 t224.length co66, .int .i64 1] rfl s3_ ?_; (with_reducible refine (laws_heldStringS.calls kj64 _ _ t224 1 t234 _ ?side1 ?side2 A81.out).mono ?_); (case side1 => exact y2_ (Kd.R_reads' HO_9.out).2.2); (case side2 => exact (Kd.R_reads' HO_9.out).2.1); rintro e w85 ⟨rfl, hb⟩; refine ⟨_, rfl, ?_⟩; replace HO_9 := r1_ HO_9 hb; replace HO_212000 := Aside0.mk (Kd.S_below (by (with_reducible repeat (first | apply Kd.S_alloc | apply Kd.S_drewN | apply Kd.S_drew)); exact HO_212000.out) hb); replace BK199 := b3_ BK199 hb; replace BK211 := b3_ BK211 hb; replace HB := Aside0.mk (below_step (y1_ HB.out) hb); (try clear hb); (try clear hb2); (try clear hk); (try clear hi)))
 go_ret
 exact ⟨by first | rfl | (simp [errW_none, errW_some] <;> rfl) | (simp [*, errW_none, errW_some] <;> rfl), by repeat (first | (with_reducible first | exact HB.out | apply below_alloc | apply pw_below_drewN | apply below_drew1) | exact HB.out)⟩}
 {
 rw [if_neg c84] at H
 have c84b0 : (t234 == t223) = false := beq_eq_false_iff_ne.mpr c84
 have c84b1 : (t234 != t223) = true := bne_iff_ne.mpr c84
 obtain rfl := Option.some.inj H
 go_wp2_with (first | ((with_reducible refine gate_callee (f := 34) rfl ?_); refine goesL_ (some 98) rfl rfl Try.func34 s2_ rfl #[.slice Ao66 t224.length co66, .int .i64 1] rfl s3_ ?_; (with_reducible refine (laws_heldStringS.calls kj64 _ _ t224 1 t234 _ ?side1 ?side2 A81.out).mono ?_); (case side1 => exact y2_ (Kd.R_reads' HO_9.out).2.2); (case side2 => exact (Kd.R_reads' HO_9.out).2.1); rintro e w86 ⟨rfl, hb⟩; refine ⟨_, rfl, ?_⟩; replace HO_9 := r1_ HO_9 hb; replace HO_212000 := Aside0.mk (Kd.S_below (by (with_reducible repeat (first | apply Kd.S_alloc | apply Kd.S_drewN | apply Kd.S_drew)); exact HO_212000.out) hb); replace BK199 := b3_ BK199 hb; replace BK211 := b3_ BK211 hb; replace HB := Aside0.mk (below_step (y1_ HB.out) hb); (try clear hb); (try clear hb2); (try clear hk); (try clear hi)))
 go_ret
 exact ⟨by first | rfl | (simp [errW_none, errW_some] <;> rfl) | (simp [*, errW_none, errW_some] <;> rfl), by repeat (first | (with_reducible first | exact HB.out | apply below_alloc | apply pw_below_drewN | apply below_drew1) | exact HB.out)⟩}}}}}}
 {
 rw [if_neg c62] at H
 have c62b0 : (t225 == t223) = false := beq_eq_false_iff_ne.mpr c62
 have c62b1 : (t225 != t223) = true := bne_iff_ne.mpr c62
 obtain rfl := Option.some.inj H
 obtain ⟨Ao87, co87, eo87⟩ := Kd.R_slice HO_9.out
 subst eo87
 go_wp2_with (first | ((with_reducible refine gate_callee (f := 33) rfl ?_); refine goesL_ (some 71) rfl rfl Try.func33 s2_ rfl #[.slice Ao87 t212.length co87, .int .i64 1] rfl s3_ ?_; (with_reducible refine (laws_markStringS.calls kj39 (fun k_ => some k_ = (.slice Ao87 t212.length co87 : Value).ownBlock) (.slice Ao87 t212.length co87) t212 1 t223 t224 w _ ?side1 ?side2 A56.out).mono ?_); (case side1 => repeat (first | (with_reducible first | exact HB.out | apply below_alloc | apply pw_below_drewN | apply below_drew1) | exact HB.out)); (case side2 => exact Kd.R_tight rfl HO_9.out); rintro e w88 ⟨rfl, hy0, hb, hkp⟩; refine ⟨_, rfl, ?_⟩; have n0_ := Aside0.mk (Kd.R_mono (ok' := fun k_ => some k_ ≠ (.slice Ao87 t212.length co87 : Value).ownBlock) (Kd.R_keptB (HO_6.out) hkp (fun k_ hk_ hs_ => (hk_) hs_)) (fun k_ hk_ => hk_.1)); have n1_ := Aside0.mk (Kd.R_reok rfl hy0 (fun k_ e_ => HO_9.out.1 k_ e_)); have n2_ := Aside0.mk (Kd.S_mono (ok' := fun k_ => True) (Kd.S_keptB ((Kd.S_apart' HO_212000.out (Kd.R_typed HO_9.out) (by decide))) hkp (fun k_ hk_ hs_ => (hk_.2) hs_)) (fun k_ hk_ => trivial)); have n3_ := Aside0.mk (blk_kept (b1_ BK199.out) hkp (fun hs_ => (fun e_ => (Kd.R_ne HO_9.out BK199.out (by decide)) e_) hs_)); have n4_ := Aside0.mk (blk_kept (b1_ BK211.out) hkp (fun hs_ => (fun e_ => (Kd.R_ne HO_9.out BK211.out (by decide)) e_) hs_)); have n5_ := Aside0.mk (hb); clear HO_6; clear HO_9; clear HO_212000; clear BK199; clear BK211; clear HB; have HO_6 := n0_; have HO_9 := n1_; have HO_212000 := n2_; have BK199 := n3_; have BK211 := n4_; have HB := n5_; clear n0_ n1_ n2_ n3_ n4_ n5_; (try clear hb); (try clear hkp); (try clear hy0)) | ((with_reducible refine gate_callee (f := 34) rfl ?_); refine goesL_ (some 74) rfl rfl Try.func34 s2_ rfl #[.slice Ao87 t224.length co87, .int .i64 1] rfl (by (try simp only [List.map_toArray, List.map_cons, List.map_nil]); first | done | (rw [show t224.length = t212.length from (Kd.R_reads' HO_9.out).1.symm] <;> rfl) | rfl | (simp only [List.length_drop, List.length_take]; rfl)) ?_; (with_reducible refine (laws_heldStringS.calls kj39 _ _ t224 1 t225 _ ?side1 ?side2 A57.out).mono ?_); (case side1 => exact y2_ (Kd.R_reads' HO_9.out).2.2); (case side2 => rw [show t224.length = t212.length from (Kd.R_reads' HO_9.out).1.symm]; exact (Kd.R_reads' HO_9.out).2.1); rintro e w89 ⟨rfl, hb⟩; refine ⟨_, rfl, ?_⟩; replace HO_6 := r1_ HO_6 hb; replace HO_9 := r1_ HO_9 hb; replace HO_212000 := Aside0.mk (Kd.S_below (by (with_reducible repeat (first | apply Kd.S_alloc | apply Kd.S_drewN | apply Kd.S_drew)); exact HO_212000.out) hb); replace BK199 := b3_ BK199 hb; replace BK211 := b3_ BK211 hb; replace HB := Aside0.mk (below_step (y1_ HB.out) hb); (try clear hb); (try clear hb2); (try clear hk); (try clear hi)))
 go_ret
 exact ⟨by first | rfl | (simp [errW_none, errW_some] <;> rfl) | (simp [*, errW_none, errW_some] <;> rfl), by repeat (first | (with_reducible first | exact HB.out | apply below_alloc | apply pw_below_drewN | apply below_drew1) | exact HB.out)⟩}}}}}}
 {
 replace c38 := Bool.eq_false_iff.mpr c38
 subst c38
 have H1 : (some false) = some r := by rw [if_neg (show ¬ (false = true) by decide)] at H; exact H
 clear H
 have H := H1
 clear H1
 obtain rfl := Option.some.inj H
 try go_wp2
 replace HO_6 := Aside0.mk (Kd.R_drew HO_6.out)
 replace HO_9 := Aside0.mk (Kd.R_drew HO_9.out)
 replace HO_212000 := Aside0.mk (Kd.S_drew HO_212000.out)
 replace BK199 := Aside0.mk (blk_drew BK199.out)
 replace BK211 := Aside0.mk (blk_drew BK211.out)
 replace HB := Aside0.mk (below_drew1 HB.out)
 refine start_ (n := 5) (S := fun w' => w'.cell? ⟨gb211, 0, none⟩ = some (.slice Ao25 t208.length co25) ∧ w'.cell? ⟨gb199, 0, none⟩ = some (.slice A0_0 l0_0.length c0_0)) (ds := []) #[F,F,F,F,F] s2_ rfl rfl ⟨(blk_cell BK211.out 0).trans rfl, (blk_cell BK199.out 0).trans rfl⟩ (fun hHeld => ?_)
 generalize wc.drew = w90 at HO_6 HO_9 HO_212000 BK199 BK211 HB hHeld ⊢
 refine take_ (i := 0) (N := some 48) (v := ?_) (a' := ?_) #[T,F,F,F,F] rfl rfl s2_ (fun _ _ _ h => h) (Or.inl ⟨by rfl, ?_⟩) hHeld ?_ ?_
 rotate_left
 {
 rintro w' ⟨s0, s1⟩
 go_simp
 with_reducible rfl}
 rotate_left
 · exact p1_
 refine take_ (i := 1) (N := some 49) (v := ?_) (a' := ?_) #[T,T,F,F,F] rfl rfl s2_ (fun _ _ _ h => h) (Or.inl ⟨by rfl, ?_⟩) hHeld ?_ ?_
 rotate_left
 {
 rintro w' ⟨s0, s1⟩
 go_simp
 with_reducible rfl}
 rotate_left
 · exact p1_
 refine one_ (i := 2) (N := some 50) #[T,T,T,F,F] rfl rfl s2_ (by decide) (fun K hK => ?_)
 refine goes_ Try.func13 s2_ rfl #[.agg #[.slice A0_0 l0_0.length c0_0]] (by rfl) rfl rfl s3_ ?_
 with_reducible refine (laws_toIndex.calls kj13 _ _ l0_0 t217 _ ?side1 ?side2 A36.out).mono ?_
 (case side1 => exact y2_ (Kd.C_below HR0_0.out HB.out))
 (case side2 => exact HC0_0.out)
 rintro e w91 ⟨v218, rfl, ho0, hb⟩
 refine ⟨_, rfl, ?_⟩
 have n0_ := r1_ HO_6 hb
 have n1_ := r1_ HO_9 hb
 have n2_ := Aside0.mk (Kd.S_elder' (by (with_reducible repeat (first | apply Kd.S_alloc | apply Kd.S_drewN | apply Kd.S_drew)); exact HO_212000.out) (Kd.S_base ho0) hb)
 have n3_ := Aside0.mk (Kd.S_lower (Kd.S_new' ho0 (Kd.S_lt (by (with_reducible repeat (first | apply Kd.S_alloc | apply Kd.S_drewN | apply Kd.S_drew)); exact HO_212000.out))) (below_size (y1_ HB.out)))
 have n4_ := b3_ BK199 hb
 have n5_ := b3_ BK211 hb
 have n6_ := Aside0.mk (below_step (y1_ HB.out) hb)
 clear HO_6
 clear HO_9
 clear HO_212000
 clear BK199
 clear BK211
 clear HB
 have HO_6 := n0_
 have HO_9 := n1_
 have HO_212000 := n2_
 have HO219 := n3_
 have BK199 := n4_
 have BK211 := n5_
 have HB := n6_
 clear n0_ n1_ n2_ n3_ n4_ n5_ n6_
 (try clear hb)
 (try clear hb2)
 (try clear hk)
 (try clear hi)
 (try clear ho0)
 obtain ⟨Ao92, co92, eo92⟩ := Kd.S_slice HO219.out
 (first | subst eo92 | (injection eo92 with f1_ f2_ f3_; have f4_ := f1_.symm; have f5_ := f3_.symm; clear f1_ f2_ f3_; subst f4_; subst f5_))
 refine hK.out _ _ ⟨(blk_cell BK211.out 0).trans rfl, (blk_cell BK199.out 0).trans rfl⟩ (fun hHeld => ?_)
 clear hK K
 refine norm_ (a' := ?_) ?_ ?_
 rotate_left
 {
 show Act.put _ (some 50) _ = _
 simp only [Act.put, List.setIfInBounds_toArray, List.set_cons_zero, List.set_cons_succ, i64_w, i32_w]
 rfl}
 refine one_ (i := 3) (N := some 51) #[T,T,T,T,F] rfl rfl s2_ (by decide) (fun K hK => ?_)
 refine goes_ Try.func15 s2_ rfl #[.agg #[.slice Ao25 t208.length co25], .agg #[.slice Ao92 t217.length co92]] (by rfl) rfl rfl s3_ ?_
 with_reducible refine (laws_eqIndex.calls kj13 _ _ t208 _ _ t217 false _ ?side1 ?side2 ?side3 ?side4 A37.out).mono ?_
 (case side1 => exact y2_ (Kd.S_reads' HO_212000.out).2.2)
 (case side2 => exact (Kd.S_reads' HO_212000.out).2.1)
 (case side3 => exact y2_ (Kd.S_reads' HO219.out).2.2)
 (case side4 => exact (Kd.S_reads' HO219.out).2.1)
 rintro e w93 ⟨rfl, hb⟩
 refine ⟨_, rfl, ?_⟩
 replace HO_6 := r1_ HO_6 hb
 replace HO_9 := r1_ HO_9 hb
 replace HO_212000 := Aside0.mk (Kd.S_below (by (with_reducible repeat (first | apply Kd.S_alloc | apply Kd.S_drewN | apply Kd.S_drew)); exact HO_212000.out) hb)
 replace HO219 := Aside0.mk (Kd.S_below (by (with_reducible repeat (first | apply Kd.S_alloc | apply Kd.S_drewN | apply Kd.S_drew)); exact HO219.out) hb)
 replace BK199 := b3_ BK199 hb
 replace BK211 := b3_ BK211 hb
 replace HB := Aside0.mk (below_step (y1_ HB.out) hb)
 (try clear hb)
 (try clear hb2)
 (try clear hk)
 (try clear hi)
 refine hK.out _ _ ⟨(blk_cell BK211.out 0).trans rfl, (blk_cell BK199.out 0).trans rfl⟩ (fun hHeld => ?_)
 clear hK K
 refine norm_ (a' := ?_) ?_ ?_
 rotate_left
 {
 show Act.put _ (some 51) _ = _
 simp only [Act.put, List.setIfInBounds_toArray, List.set_cons_zero, List.set_cons_succ, i64_w, i32_w]
 rfl}
 refine pure_ (i := 4) (N := some 52) (v := ?_) (a' := ?_) #[T,T,T,T,T] rfl rfl s2_ (fun _ _ _ h => h) (Or.inl ⟨by rfl, ?_⟩) ?_ ?_
 rotate_left
 {
 intro w'
 go_simp
 with_reducible rfl}
 rotate_left
 · exact p1_
 refine done_ s2_ ?_
 try go_wp2
 go_ret
 exact ⟨by first | rfl | (simp [errW_none, errW_some] <;> rfl) | (simp [*, errW_none, errW_some] <;> rfl), by repeat (first | (with_reducible first | exact HB.out | apply below_alloc | apply pw_below_drewN | apply below_drew1) | exact HB.out)⟩}}}}}}

/-- THE ONE PURE STATEMENT of laws_FnExactWordsFrom: yours. -/
def laws_FnExactWordsFrom.Pure : Prop := ∀ (l0_0 : List (S108)) (a1 : ByteArray), (l0_0.length ≤ maxLen ∧ l0_0.length * 40 ≤ 140737488351232 ∧ ∀ y0_ ∈ l0_0, fit108 y0_) → (a1.size ≤ 140737488351232) → ∃ k, laws_FnExactWordsFrom.f k l0_0 a1 = some true
theorem laws_FnExactWordsFrom.walk (P : laws_FnExactWordsFrom.Pure) (A0_0 : Option Addr) (c0_0 : Nat) (l0_0 : List (S108)) (a1 : ByteArray) (w : World) (hr0_0 : Kd.C k108 w A0_0 l0_0.length l0_0) (hc0_0 : l0_0.length ≤ c0_0) (F0_0 : l0_0.length ≤ maxLen ∧ l0_0.length * 40 ≤ 140737488351232 ∧ ∀ y0_ ∈ l0_0, fit108 y0_) (F1 : a1.size ≤ 140737488351232) :
    Calls Try.prog 8 #[.agg #[.slice A0_0 l0_0.length c0_0], .string a1] w fun e w' => e = .returned (.bool true) ∧ Below w.heap.size w w' := by
  obtain ⟨k, h⟩ := P l0_0 a1 F0_0 F1
  refine (laws_FnExactWordsFrom.calls k A0_0 c0_0 l0_0 a1 true w hr0_0 hc0_0 h).mono ?_
  rintro e w' ⟨rfl, hd⟩
  exact ⟨rfl, hd⟩

end Go.Proofs.Ytcnhepjdibbkgaa.QFnExactWordsFrom
