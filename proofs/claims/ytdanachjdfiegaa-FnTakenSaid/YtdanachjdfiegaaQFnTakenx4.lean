-- written by a program of this session, on the lines of the kit's print
import Derived.Test.YtdanachjdfiegaaQFnTakenx0
import Derived.Test.YtdanachjdfiegaaQFnTakenx3
namespace Go.Proofs.Ytdanachjdfiegaa.QFnTaken
open Go.RowKit Go.Proofs.YtdanachjdfiegaaW.PrintWords Go.Proofs.YtdanachjdfiegaaW.PrintLast Go.Proofs.YtdanachjdfiegaaW.PrintMore
attribute [local go_sem] max2_int min2_int max_two min_two max_three min_three max_four min_four   -- for this text's walks alone
set_option linter.unusedVariables false
set_option linter.unusedSimpArgs false

/-! ### spec_l04Find: function 88 -/
def spec_l04Find.l0 : Nat → ByteArray → Int → Int → List (S58) → Option (Int)
  | 0, _, _, _, _ => none
  | k + 1, x1, x5, x1000, x1001 => if x5 < (x1001.length : Int) then (if 0 ≤ x5 then (if ((rd_T58 x1001 x5).f0).toList = x1.toList then (some x5) else (spec_l04Find.l0 k x1 (wrap64 (x5 + 1)) x1000 x1001)) else (none)) else (some (-1))
def spec_l04Find.f (k : Nat) (a0_0 : Int) (l0_1 : List (S58)) (a1 : ByteArray) : Option (Int) := spec_l04Find.l0 k a1 0 a0_0 l0_1
theorem spec_l04Find.mono_l : ∀ k, (∀ y0 y1 y2 y3, LeO (spec_l04Find.l0 k y0 y1 y2 y3) (spec_l04Find.l0 (k + 1) y0 y1 y2 y3))
  | 0 => fun _ _ _ _ r h => by simp [spec_l04Find.l0] at h
  | k + 1 => by
    have ih0 := spec_l04Find.mono_l k
    · intro y0 y1 y2 y3
      unfold spec_l04Find.l0
      repeat' first
      | (with_reducible exact ih0 _ _ _ _)
      | (with_reducible exact LeO.refl _)
      | (with_reducible exact LeO.none _)
      | (with_reducible refine LeO.ite ?_ ?_)
      | (with_reducible refine LeO.bind ?_ (fun _ => ?_))
      | exact ih0 _ _ _ _
      | exact LeO.none _
      | refine LeO.ite ?_ ?_
      | refine LeO.bind ?_ (fun _ => ?_)
theorem spec_l04Find.mono : ∀ a0 a1 a2 k, LeO (spec_l04Find.f k a0 a1 a2) (spec_l04Find.f (k + 1) a0 a1 a2) := by
  intro a0 a1 a2 k
  have ih0 := spec_l04Find.mono_l k
  unfold spec_l04Find.f
  repeat' first
      | (with_reducible exact ih0 _ _ _ _)
      | (with_reducible exact LeO.refl _)
      | (with_reducible exact LeO.none _)
      | (with_reducible refine LeO.ite ?_ ?_)
      | (with_reducible refine LeO.bind ?_ (fun _ => ?_))
      | exact ih0 _ _ _ _
      | exact LeO.none _
      | refine LeO.ite ?_ ?_
      | refine LeO.bind ?_ (fun _ => ?_)
set_option maxHeartbeats 8000000 in
set_option maxRecDepth 100000 in
theorem spec_l04Find.calls (k : Nat) (g0_ : Nat) (a0_0 : Int) (A0_1 : Option Addr) (c0_1 : Nat) (l0_1 : List (S58)) (a1 : ByteArray) (r : Int) (w : World) (hbk0 : w.heap[g0_]? = some (.cells #[.int .i64 a0_0, .slice A0_1 l0_1.length c0_1] 54 (0, 0))) (hr0_1 : Kd.C k58 w A0_1 l0_1.length l0_1) (hc0_1 : l0_1.length ≤ c0_1) (h : spec_l04Find.f k a0_0 l0_1 a1 = some r) :
    Calls Try.prog 88 #[.pointer (some ⟨g0_, 0, none⟩), .string a1] w fun e w' => e = .returned (.int .i64 r) ∧ Below w.heap.size w w' := by
  have HR0_1 := Aside0.mk hr0_1
  have HC0_1 := Aside0.mk hc0_1
  clear hr0_1 hc0_1
  have BK0 := Aside0.mk hbk0
  clear hbk0
  have HB := Aside0.mk (Below.refl w.heap.size w)
  have H : (spec_l04Find.l0 k a1 0 a0_0 l0_1) = some r := h
  clear h
  have H' := Aside0.mk H
  clear H
  go_enter Try.func88, Try.ntmps88
  go_wp2
  go_loopg [5] k (fun kq v5 w' => ∃ (x5_1 : Int), v5 = .int .i64 x5_1 ∧ Aside0 (spec_l04Find.l0 kq a1 x5_1 a0_0 l0_1 = some r) ∧ Aside0 (kq ≤ k) ∧ Aside0 (w'.heap[g0_]? = some (.cells #[.int .i64 a0_0, (.slice A0_1 l0_1.length c0_1)] 54 (0, 0))) ∧ Aside0 (Below w.heap.size w w'))
  case atStart => exact ⟨(0), (by first | rfl | (simp; done) | (simp [*]; done)), H', ⟨Nat.le_refl _⟩, ⟨by (with_reducible repeat (first | refine blk_drewN ?_ _ | refine blk_drew ?_ | refine blk_alloc ?_ _)); exact BK0.out⟩, ⟨by repeat (first | (with_reducible first | exact HB.out | apply below_alloc | apply pw_below_drewN | apply below_drew1) | exact HB.out)⟩⟩
  case round =>
    clear H'
    try clear p2
    obtain ⟨x5_1, rfl, HA, HK1, BK0, HB⟩ := hrel
    cases gk with
    | zero => exact absurd HA.out (by simp [spec_l04Find.l0])
    | succ k1 =>
      have H := HA.out
      clear HA
      simp only [spec_l04Find.l0] at H
      by_cases c3 : x5_1 < (l0_1.length : Int)
      · rw [if_pos c3] at H
        have c3b0 : decide (x5_1 < (l0_1.length : Int)) = true := decide_eq_true c3
        clear c3
        by_cases c4 : 0 ≤ x5_1
        · rw [if_pos c4] at H
          have c4b0 : decide (0 ≤ x5_1) = true := decide_eq_true c4
          clear c4
          by_cases c5 : ((rd_T58 l0_1 x5_1).f0).toList = a1.toList
          · rw [if_pos c5] at H
            have c5b0 : (((rd_T58 l0_1 x5_1).f0).toList == a1.toList) = true := beq_iff_eq.mpr c5
            have c5b1 : (((rd_T58 l0_1 x5_1).f0).toList != a1.toList) = false := bne_eq_false_iff_eq.mpr c5
            clear c5
            obtain rfl := Option.some.inj H
            have hcz6_0 : wr.cell? ⟨g0_, 0, none⟩ = some (.int .i64 a0_0) := (blk_cell BK0.out 0).trans rfl
            have hcz6_1 : wr.cell? ⟨g0_, 1, none⟩ = some (.slice A0_1 l0_1.length c0_1) := (blk_cell BK0.out 1).trans rfl
            have hfz6_0 := blk_frozen BK0.out 0
            have hfz6_1 := blk_frozen BK0.out 1
            have p128 : 0 ≤ (x5_1 : Int) := of_decide_eq_true (by first | (with_reducible assumption) | assumption)
            have q128 : x5_1 < (l0_1.length : Int) := of_decide_eq_true (by first | (with_reducible assumption) | assumption)
            obtain ⟨ad128, A128_3, c128_3, e128, hx128_0, hx128_1, hx128_2, hx128_3, hl128_3, hi128_3⟩ := at_T58 HR0_1.out x5_1 p128 q128
            cases e128
            replace hx128_0 := (HB.out.cell (World.block_lt_of_cell? w _ hx128_0)).trans hx128_0
            replace hx128_1 := (HB.out.cell (World.block_lt_of_cell? w _ hx128_1)).trans hx128_1
            replace hx128_2 := (HB.out.cell (World.block_lt_of_cell? w _ hx128_2)).trans hx128_2
            replace hx128_3 := (HB.out.cell (World.block_lt_of_cell? w _ hx128_3)).trans hx128_3
            have HR128_3 := Aside0.mk hi128_3
            have HC128_3 := Aside0.mk hl128_3
            clear hi128_3 hl128_3
            replace p128 := eq_true p128
            replace q128 := eq_true q128
            go_wp2
            go_ret
            exact ⟨by first | rfl | (simp [errW_none, errW_some] <;> rfl) | (simp [*, errW_none, errW_some] <;> rfl), by repeat (first | (with_reducible first | exact HB.out | apply below_alloc | apply pw_below_drewN | apply below_drew1) | exact HB.out)⟩
          · rw [if_neg c5] at H
            have c5b0 : (((rd_T58 l0_1 x5_1).f0).toList == a1.toList) = false := beq_eq_false_iff_ne.mpr c5
            have c5b1 : (((rd_T58 l0_1 x5_1).f0).toList != a1.toList) = true := bne_iff_ne.mpr c5
            have H' := Aside0.mk H
            clear H
            have hcz7_0 : wr.cell? ⟨g0_, 0, none⟩ = some (.int .i64 a0_0) := (blk_cell BK0.out 0).trans rfl
            have hcz7_1 : wr.cell? ⟨g0_, 1, none⟩ = some (.slice A0_1 l0_1.length c0_1) := (blk_cell BK0.out 1).trans rfl
            have hfz7_0 := blk_frozen BK0.out 0
            have hfz7_1 := blk_frozen BK0.out 1
            have p128 : 0 ≤ (x5_1 : Int) := of_decide_eq_true (by first | (with_reducible assumption) | assumption)
            have q128 : x5_1 < (l0_1.length : Int) := of_decide_eq_true (by first | (with_reducible assumption) | assumption)
            obtain ⟨ad128, A128_3, c128_3, e128, hx128_0, hx128_1, hx128_2, hx128_3, hl128_3, hi128_3⟩ := at_T58 HR0_1.out x5_1 p128 q128
            cases e128
            replace hx128_0 := (HB.out.cell (World.block_lt_of_cell? w _ hx128_0)).trans hx128_0
            replace hx128_1 := (HB.out.cell (World.block_lt_of_cell? w _ hx128_1)).trans hx128_1
            replace hx128_2 := (HB.out.cell (World.block_lt_of_cell? w _ hx128_2)).trans hx128_2
            replace hx128_3 := (HB.out.cell (World.block_lt_of_cell? w _ hx128_3)).trans hx128_3
            have HR128_3 := Aside0.mk hi128_3
            have HC128_3 := Aside0.mk hl128_3
            clear hi128_3 hl128_3
            replace p128 := eq_true p128
            replace q128 := eq_true q128
            go_wp2
            go_roundg k1
            case measure => have := HK1.out; omega
            case rel => exact ⟨(wrap64 (x5_1 + 1)), (by first | rfl | (simp; done) | (simp [*]; done)), H', ⟨by have := HK1.out; omega⟩, ⟨by (with_reducible repeat (first | refine blk_drewN ?_ _ | refine blk_drew ?_ | refine blk_alloc ?_ _)); exact BK0.out⟩, ⟨by repeat (first | (with_reducible first | exact HB.out | apply below_alloc | apply pw_below_drewN | apply below_drew1) | exact HB.out)⟩⟩
        · rw [if_neg c4] at H
          exact absurd H (by simp)
      · rw [if_neg c3] at H
        have c3b0 : decide (x5_1 < (l0_1.length : Int)) = false := decide_eq_false c3
        clear c3
        obtain rfl := Option.some.inj H
        have hcz8_0 : wr.cell? ⟨g0_, 0, none⟩ = some (.int .i64 a0_0) := (blk_cell BK0.out 0).trans rfl
        have hcz8_1 : wr.cell? ⟨g0_, 1, none⟩ = some (.slice A0_1 l0_1.length c0_1) := (blk_cell BK0.out 1).trans rfl
        have hfz8_0 := blk_frozen BK0.out 0
        have hfz8_1 := blk_frozen BK0.out 1
        go_wp2
        go_ret
        exact ⟨by first | rfl | (simp [errW_none, errW_some] <;> rfl) | (simp [*, errW_none, errW_some] <;> rfl), by repeat (first | (with_reducible first | exact HB.out | apply below_alloc | apply pw_below_drewN | apply below_drew1) | exact HB.out)⟩

/-! ### spec_l04Copy: function 89 -/
abbrev spec_l04Copy.T : Bool := true
abbrev spec_l04Copy.F : Bool := false
theorem spec_l04Copy.b1_ {P Q : Prop} (q : Q) (h : Q → P := by intro q_; (with_reducible repeat (first | refine blk_drewN ?_ _ | refine blk_drew ?_ | refine blk_alloc ?_ _)); exact q_) : P := h q
theorem spec_l04Copy.b2_ {P Q : Prop} (q : Q) (h : Q → P := by intro q_; (with_reducible repeat (first | apply Kd.R_alloc | apply Kd.R_drewN | apply Kd.R_drew)); exact q_) : P := h q
theorem spec_l04Copy.y1_ {P Q : Prop} (q : Q) (h : Q → P := by intro q_; repeat (first | (with_reducible first | exact q_ | apply below_alloc | apply pw_below_drewN | apply below_drew1) | exact q_)) : P := h q
theorem spec_l04Copy.b3_ {w w1 W : World} {g : Nat} {o : Obj} (q : Aside0 (w.heap[g]? = some o)) (hb : Below W.heap.size W w1) (h : w.heap[g]? = some o → W.heap[g]? = some o := by intro q_; (with_reducible repeat (first | refine blk_drewN ?_ _ | refine blk_drew ?_ | refine blk_alloc ?_ _)); exact q_) : Aside0 (w1.heap[g]? = some o) := ⟨blk_below (h q.out) hb⟩
theorem spec_l04Copy.b4_ {w W : World} {g k : Nat} {o : Obj} (hg : k = W.heap.size) (q : Aside0 (w.heap[g]? = some o)) (h : w.heap[g]? = some o → W.heap[g]? = some o := by intro q_; (with_reducible repeat (first | refine blk_drewN ?_ _ | refine blk_drew ?_ | refine blk_alloc ?_ _)); exact q_) : Aside0 (g ≠ k) := ⟨by rw [hg]; exact Nat.ne_of_lt (blk_lt (h q.out))⟩
theorem spec_l04Copy.b5_ {w W : World} {g k : Nat} {o : Obj} (hg : k = W.heap.size) (q : Aside0 (w.heap[g]? = some o)) (h : w.heap[g]? = some o → W.heap[g]? = some o := by intro q_; (with_reducible repeat (first | refine blk_drewN ?_ _ | refine blk_drew ?_ | refine blk_alloc ?_ _)); exact q_) : Aside0 (k ≠ g) := ⟨by rw [hg]; exact Nat.ne_of_gt (blk_lt (h q.out))⟩
theorem spec_l04Copy.b6_ {w w' W : World} {k : Nat} (hg : k = W.heap.size) (q : Aside0 (Below w.heap.size w w')) (h : Below w.heap.size w w' → Below w.heap.size w W := by intro q_; repeat (first | (with_reducible first | exact q_ | apply below_alloc | apply pw_below_drewN | apply below_drew1) | exact q_)) : Aside0 (w.heap.size ≤ k) := ⟨by rw [hg]; exact below_size (h q.out)⟩
theorem spec_l04Copy.bx_ {P : Program} {ops : Array Oper} {rest : List Oper} {o : Oper} {a : Act} {Q : Exit → Act → World → Prop} {W : World} (N : Tmp) (cs : Array Value) (t : TypeId) (h : ∀ g, g = W.heap.size → ∀ w1, w1.heap[g]? = some (.cells cs t (0, 0)) → Below W.heap.size W w1 → wpList P ops Q rest (a.put o.dst (.pointer (some ⟨g, 0, none⟩))) w1) (hgd : o.guard = none := by rfl) (hd : o.dst = some N := by rfl) (hrun : (execOp a.eval o).run P W = .ok (.value (.pointer (some ⟨W.heap.size, 0, none⟩))) (W.alloc (.cells cs t (0, 0))) := by first | (go_simp; done) | (go_simp; rfl)) : wpList P ops Q (o :: rest) a W := box_event hgd hd hrun h
theorem spec_l04Copy.c1_ {w : World} {g : Nat} {t : TypeId} {cs : Array Value} (q : Aside0 (w.heap[g]? = some (.cells cs t (0, 0)))) (i : Nat) (v : Value) (h : cs[i]? = some v := by rfl) : w.cell? ⟨g, i, none⟩ = some v := (blk_cell q.out i).trans h
theorem spec_l04Copy.f1_ {w : World} {g : Nat} {t : TypeId} {cs : Array Value} (q : Aside0 (w.heap[g]? = some (.cells cs t (0, 0)))) (i : Nat) : w.frozen? ⟨g, i, none⟩ = false := blk_frozen q.out i
def spec_l04Copy.l0 : Nat → Int → Int → List (S58) → Int → List (S58) → Option (Int × (List (S58)))
  | 0, _, _, _, _, _ => none
  | k + 1, x4, x1000, x1001, x134000, x134001 => if x4 < (x1001.length : Int) then (if 0 ≤ x4 then ((some (([] : List (S97)) : List (S97))).bind fun y136 => (if y136.length + ((rd_T58 x1001 x4).f3).length < 8796093022208 then (if x134001.length < 2513169434916 then (spec_l04Copy.l0 k (wrap64 (x4 + 1)) x1000 x1001 x134000 (x134001 ++ [(⟨(rd_T58 x1001 x4).f0, (rd_T58 x1001 x4).f1, (rd_T58 x1001 x4).f2, (y136 ++ ((rd_T58 x1001 x4).f3))⟩ : S58)])) else (none)) else (none))) else (none)) else (some (x134000, x134001))
def spec_l04Copy.f (k : Nat) (a0_0 : Int) (l0_1 : List (S58)) : Option (Int × (List (S58))) := spec_l04Copy.l0 k 0 a0_0 l0_1 a0_0 (([] : List (S58)))
theorem spec_l04Copy.mono_l : ∀ k, (∀ y0 y1 y2 y3 y4, LeO (spec_l04Copy.l0 k y0 y1 y2 y3 y4) (spec_l04Copy.l0 (k + 1) y0 y1 y2 y3 y4))
  | 0 => fun _ _ _ _ _ r h => by simp [spec_l04Copy.l0] at h
  | k + 1 => by
    have ih0 := spec_l04Copy.mono_l k
    · intro y0 y1 y2 y3 y4
      unfold spec_l04Copy.l0
      repeat' first
      | (with_reducible exact ih0 _ _ _ _ _)
      | (with_reducible exact LeO.refl _)
      | (with_reducible exact LeO.none _)
      | (with_reducible refine LeO.ite ?_ ?_)
      | (with_reducible refine LeO.bind ?_ (fun _ => ?_))
      | exact ih0 _ _ _ _ _
      | exact LeO.none _
      | refine LeO.ite ?_ ?_
      | refine LeO.bind ?_ (fun _ => ?_)
theorem spec_l04Copy.mono : ∀ a0 a1 k, LeO (spec_l04Copy.f k a0 a1) (spec_l04Copy.f (k + 1) a0 a1) := by
  intro a0 a1 k
  have ih0 := spec_l04Copy.mono_l k
  unfold spec_l04Copy.f
  repeat' first
      | (with_reducible exact ih0 _ _ _ _ _)
      | (with_reducible exact LeO.refl _)
      | (with_reducible exact LeO.none _)
      | (with_reducible refine LeO.ite ?_ ?_)
      | (with_reducible refine LeO.bind ?_ (fun _ => ?_))
      | exact ih0 _ _ _ _ _
      | exact LeO.none _
      | refine LeO.ite ?_ ?_
      | refine LeO.bind ?_ (fun _ => ?_)
set_option maxHeartbeats 8000000 in
set_option maxRecDepth 100000 in
theorem spec_l04Copy.calls (k : Nat) (g0_ : Nat) (a0_0 : Int) (A0_1 : Option Addr) (c0_1 : Nat) (l0_1 : List (S58)) (r1 : Int) (r2 : List (S58)) (w : World) (hbk0 : w.heap[g0_]? = some (.cells #[.int .i64 a0_0, .slice A0_1 l0_1.length c0_1] 54 (0, 0))) (hr0_1 : Kd.C k58 w A0_1 l0_1.length l0_1) (hc0_1 : l0_1.length ≤ c0_1) (h : spec_l04Copy.f k a0_0 l0_1 = some (r1, r2)) :
    Calls Try.prog 89 #[.pointer (some ⟨g0_, 0, none⟩)] w fun e w' => ∃ v1_ : Value, e = .returned (.agg #[.int .i64 r1, v1_]) ∧ Kd.S k58 58 w' w.heap.size (fun _ => True) v1_ r2 ∧ Below w.heap.size w w' := by
 have hu54 := Try.underlying54
 have hu58 := Try.underlying58
 have HR0_1 := Aside0.mk hr0_1
 have HC0_1 := Aside0.mk hc0_1
 clear hr0_1 hc0_1
 have BK0 := Aside0.mk hbk0
 clear hbk0
 have HB := Aside0.mk (Below.refl w.heap.size w)
 have H : (spec_l04Copy.l0 k 0 a0_0 l0_1 a0_0 (([] : List (S58)))) = some (r1, r2) := h
 clear h
 obtain ⟨y130, hy130⟩ : ∃ y_ : List (S58), y_ = (([] : List (S58))) := ⟨_, rfl⟩
 replace H : (spec_l04Copy.l0 k 0 a0_0 l0_1 a0_0 y130) = some (r1, r2) := by first | (rw [hy130]; with_reducible exact H) | (have H2_ := (Option.bind_some _ _).symm.trans H; rw [hy130]; with_reducible exact H2_) | (have H2_ := (Option.bind_some _ _).symm.trans H; with_reducible exact H2_) | with_reducible exact H | (rw [hy130]; exact H) | exact H
 have Ny130 := Aside0.mk hy130
 clear hy130
 have H' := Aside0.mk H
 clear H
 go_enter Try.func89, Try.ntmps89
 go_wp2_with (first | ((with_reducible refine gate_dst (N := 2) rfl ?_); refine bx_ 2 #[.int .i64 0, .slice none 0 0] 54 ?_; intro gb129 hg w2 hbox hb; have GW129 := b6_ hg HB; have GE129 := b6_ hg HB; have NB0_129 := b4_ hg BK0; have NB129_0 := b5_ hg BK0; replace BK0 := b3_ BK0 hb; replace HB := Aside0.mk (below_step (y1_ HB.out) hb); have BK129 := Aside0.mk (hbox); clear hb hbox hg; have hnb3 := NB0_129.out; have hnc3 := NB129_0.out; have hcz4_0 := c1_ BK0 0 (.int .i64 a0_0); have hcz4_1 := c1_ BK0 1 (.slice A0_1 l0_1.length c0_1); have hfz4_0 := f1_ BK0 0; have hfz4_1 := f1_ BK0 1) | ((with_reducible refine gate_dst (N := 10) rfl ?_); refine Kd.S_lit k58 _ 58 ?hg (N := 10) ?hd (xs := ([] : List (S58))) (inner := []) (ok := fun _ => True) (okp := fun _ => True) ?hr ?hp (fun _ hk => hk) trivial (Below.refl _ _) (Nat.le_refl _) (by simp) ?_; (case hd => rfl); (case hg => rfl); (case hr => first | (go_simp; done) | (go_simp; rfl)); (case hp => exact (Reps.none _ _)); intro v131 w5 ho6 hb hg_ hnew_; clear hg_ hnew_; (first | rw [← Ny130.out] at ho6 | (simp only [Int.reduceToNat] at ho6; rw [← Ny130.out] at ho6)); have HO132 := Aside0.mk (Kd.S_lower ho6 (below_size (y1_ HB.out))); replace BK0 := b3_ BK0 hb; replace BK129 := b3_ BK129 hb; replace HB := Aside0.mk (below_step (y1_ HB.out) hb); clear hb ho6; obtain ⟨Ao7, co7, eo7⟩ := Kd.S_slice HO132.out; subst eo7) | ((with_reducible refine gate_dst (N := 3) rfl ?_); refine bx_ 3 #[.int .i64 0, .slice none 0 0] 54 ?_; intro gb133 hg w8 hbox hb; have GW133 := b6_ hg HB; have GE133 := b6_ hg HB; have NB0_133 := b4_ hg BK0; have NB133_0 := b5_ hg BK0; have NB129_133 := b4_ hg BK129; have NB133_129 := b5_ hg BK129; replace HO132 := Aside0.mk (Kd.S_below (by (with_reducible repeat (first | apply Kd.S_alloc | apply Kd.S_drewN | apply Kd.S_drew)); exact HO132.out) hb); replace BK0 := b3_ BK0 hb; replace BK129 := b3_ BK129 hb; replace HB := Aside0.mk (below_step (y1_ HB.out) hb); have BK133 := Aside0.mk (hbox); clear hb hbox hg; have hnb9 := NB133_0.out; have hnc9 := NB0_133.out; have hnb10 := NB133_129.out; have hnc10 := NB129_133.out; have hcz11_0 := c1_ BK133 0 (.int .i64 0); have hcz11_1 := c1_ BK133 1 (.slice none 0 0); have hfz11_0 := f1_ BK133 0; have hfz11_1 := f1_ BK133 1))
 go_loopg [4] k (fun kq v4 w' => ∃ (x4_1 : Int) (x134001_1 : List (S58)) (u134001 : Value), v4 = .int .i64 x4_1 ∧ Aside0 (spec_l04Copy.l0 kq x4_1 a0_0 l0_1 a0_0 x134001_1 = some (r1, r2)) ∧ Aside0 (kq ≤ k) ∧ Aside0 (Kd.S k58 58 w' w.heap.size (fun _ => True) u134001 x134001_1) ∧ Aside0 (w'.heap[g0_]? = some (.cells #[.int .i64 a0_0, (.slice A0_1 l0_1.length c0_1)] 54 (0, 0))) ∧ Aside0 (w'.heap[gb129]? = some (.cells #[.int .i64 0, (.slice none 0 0)] 54 (0, 0))) ∧ Aside0 (w'.heap[gb133]? = some (.cells #[.int .i64 a0_0, u134001] 54 (0, 0))) ∧ Aside0 (Below w.heap.size w w'))
 case atStart => exact ⟨(0), (y130), (.slice Ao7 y130.length co7), (by first | rfl | (simp; done) | (simp [*]; done)), H', ⟨Nat.le_refl _⟩, ⟨by (with_reducible repeat (first | apply Kd.S_alloc | apply Kd.S_drewN | apply Kd.S_drew)); exact Kd.S_mono (Kd.S_far (p := ⟨gb133, 1, none⟩) (Kd.S_far (p := ⟨gb133, 0, none⟩) (Kd.S_types HO132.out BK133.out (by decide)) (fun _ hk => hk.2) (.int .i64 a0_0)) (fun _ hk => hk.2) (.slice Ao7 y130.length co7)) (fun _ hk => trivial)⟩, ⟨by (with_reducible repeat (first | refine blk_drewN ?_ _ | refine blk_drew ?_ | refine blk_alloc ?_ _)); refine blk_far ?_ NB0_133.out _; (with_reducible repeat (first | refine blk_drewN ?_ _ | refine blk_drew ?_ | refine blk_alloc ?_ _)); refine blk_far ?_ NB0_133.out _; (with_reducible repeat (first | refine blk_drewN ?_ _ | refine blk_drew ?_ | refine blk_alloc ?_ _)); exact BK0.out⟩, ⟨by (with_reducible repeat (first | refine blk_drewN ?_ _ | refine blk_drew ?_ | refine blk_alloc ?_ _)); refine blk_far ?_ NB129_133.out _; (with_reducible repeat (first | refine blk_drewN ?_ _ | refine blk_drew ?_ | refine blk_alloc ?_ _)); refine blk_far ?_ NB129_133.out _; (with_reducible repeat (first | refine blk_drewN ?_ _ | refine blk_drew ?_ | refine blk_alloc ?_ _)); exact BK129.out⟩, ⟨by (with_reducible repeat (first | refine blk_drewN ?_ _ | refine blk_drew ?_ | refine blk_alloc ?_ _)); refine blk_put (cs := #[.int .i64 a0_0, .slice none 0 0]) ?_ 1 _ rfl; (with_reducible repeat (first | refine blk_drewN ?_ _ | refine blk_drew ?_ | refine blk_alloc ?_ _)); refine blk_put (cs := #[.int .i64 0, .slice none 0 0]) ?_ 0 _ rfl; (with_reducible repeat (first | refine blk_drewN ?_ _ | refine blk_drew ?_ | refine blk_alloc ?_ _)); exact BK133.out⟩, ⟨by repeat (first | (with_reducible first | exact HB.out | apply below_alloc | apply pw_below_drewN | apply below_drew1 | refine below_set ?_ GE133.out) | exact HB.out)⟩⟩
 case round =>
  skip
  {
 clear H'
 try clear c1
 try clear p2
 try clear c3
 try clear c8
 try clear c9
 try clear c10
 try clear hcz11_0
 try clear hcz11_1
 try clear hcz4_0
 try clear hcz4_1
 try clear hfz11_0
 try clear hfz11_1
 try clear hfz4_0
 try clear hfz4_1
 obtain ⟨x4_1, x134001_1, u134001, rfl, HA, HK1, HO_134001, BK0, BK129, BK133, HB⟩ := hrel
 cases gk with
 | zero => exact absurd HA.out (by simp [spec_l04Copy.l0])
 | succ k1 =>
  skip
  {
 have H := HA.out
 clear HA
 simp only [spec_l04Copy.l0] at H
 by_cases c12 : x4_1 < (l0_1.length : Int)
 {
 rw [if_pos c12] at H
 have c12b0 : decide (x4_1 < (l0_1.length : Int)) = true := decide_eq_true c12
 clear c12
 by_cases c13 : 0 ≤ x4_1
 {
 rw [if_pos c13] at H
 have c13b0 : decide (0 ≤ x4_1) = true := decide_eq_true c13
 clear c13
 obtain ⟨y136, hy136⟩ : ∃ y_ : List (S97), y_ = (([] : List (S97))) := ⟨_, rfl⟩
 replace H : (if y136.length + ((rd_T58 l0_1 x4_1).f3).length < 8796093022208 then (if x134001_1.length < 2513169434916 then (spec_l04Copy.l0 k1 (wrap64 (x4_1 + 1)) a0_0 l0_1 a0_0 (x134001_1 ++ [(⟨(rd_T58 l0_1 x4_1).f0, (rd_T58 l0_1 x4_1).f1, (rd_T58 l0_1 x4_1).f2, (y136 ++ ((rd_T58 l0_1 x4_1).f3))⟩ : S58)])) else (none)) else (none)) = some (r1, r2) := by first | (rw [hy136]; with_reducible exact H) | (have H2_ := (Option.bind_some _ _).symm.trans H; rw [hy136]; with_reducible exact H2_) | (have H2_ := (Option.bind_some _ _).symm.trans H; with_reducible exact H2_) | with_reducible exact H | (rw [hy136]; exact H) | exact H
 have Ny136 := Aside0.mk hy136
 clear hy136
 by_cases c14 : y136.length + ((rd_T58 l0_1 x4_1).f3).length < 8796093022208
 {
 rw [if_pos c14] at H
 have LMc14 := Aside0.mk c14
 clear c14
 obtain ⟨y139, hy139⟩ : ∃ y_ : List (S97), y_ = (y136 ++ ((rd_T58 l0_1 x4_1).f3)) := ⟨_, rfl⟩
 replace H : (if x134001_1.length < 2513169434916 then (spec_l04Copy.l0 k1 (wrap64 (x4_1 + 1)) a0_0 l0_1 a0_0 (x134001_1 ++ [(⟨(rd_T58 l0_1 x4_1).f0, (rd_T58 l0_1 x4_1).f1, (rd_T58 l0_1 x4_1).f2, y139⟩ : S58)])) else (none)) = some (r1, r2) := by first | (rw [hy139]; with_reducible exact H) | (have H2_ := (Option.bind_some _ _).symm.trans H; rw [hy139]; with_reducible exact H2_) | (have H2_ := (Option.bind_some _ _).symm.trans H; with_reducible exact H2_) | with_reducible exact H | (rw [hy139]; exact H) | exact H
 have Ny139 := Aside0.mk hy139
 clear hy139
 by_cases c15 : x134001_1.length < 2513169434916
 {
 rw [if_pos c15] at H
 have LMc15 := Aside0.mk c15
 clear c15
 obtain ⟨y142, hy142⟩ : ∃ y_ : List (S58), y_ = (x134001_1 ++ [(⟨(rd_T58 l0_1 x4_1).f0, (rd_T58 l0_1 x4_1).f1, (rd_T58 l0_1 x4_1).f2, y139⟩ : S58)]) := ⟨_, rfl⟩
 replace H : (spec_l04Copy.l0 k1 (wrap64 (x4_1 + 1)) a0_0 l0_1 a0_0 y142) = some (r1, r2) := by first | (rw [hy142]; with_reducible exact H) | (have H2_ := (Option.bind_some _ _).symm.trans H; rw [hy142]; with_reducible exact H2_) | (have H2_ := (Option.bind_some _ _).symm.trans H; with_reducible exact H2_) | with_reducible exact H | (rw [hy142]; exact H) | exact H
 have Ny142 := Aside0.mk hy142
 clear hy142
 have H' := Aside0.mk H
 clear H
 have hnb16 := NB0_129.out
 have hnc16 := NB129_0.out
 have hnb17 := NB0_133.out
 have hnc17 := NB133_0.out
 have hcz18_0 := c1_ BK0 0 (.int .i64 a0_0)
 have hcz18_1 := c1_ BK0 1 (.slice A0_1 l0_1.length c0_1)
 have hfz18_0 := f1_ BK0 0
 have hfz18_1 := f1_ BK0 1
 have p134 : 0 ≤ (x4_1 : Int) := of_decide_eq_true (by first | (with_reducible assumption) | assumption)
 have q134 : x4_1 < (l0_1.length : Int) := of_decide_eq_true (by first | (with_reducible assumption) | assumption)
 obtain ⟨ad134, A134_3, c134_3, e134, hx134_0, hx134_1, hx134_2, hx134_3, hl134_3, hi134_3⟩ := at_T58 HR0_1.out x4_1 p134 q134
 cases e134
 replace hx134_0 := (HB.out.cell (World.block_lt_of_cell? w _ hx134_0)).trans hx134_0
 replace hx134_1 := (HB.out.cell (World.block_lt_of_cell? w _ hx134_1)).trans hx134_1
 replace hx134_2 := (HB.out.cell (World.block_lt_of_cell? w _ hx134_2)).trans hx134_2
 replace hx134_3 := (HB.out.cell (World.block_lt_of_cell? w _ hx134_3)).trans hx134_3
 have HR134_3 := Aside0.mk hi134_3
 have HC134_3 := Aside0.mk hl134_3
 clear hi134_3 hl134_3
 replace p134 := eq_true p134
 replace q134 := eq_true q134
 go_wp2_with (first | ((with_reducible refine gate_dst (N := 5) rfl ?_); refine bx_ 5 #[.string (⟨#[]⟩ : ByteArray), .int .i64 0, .int .i64 0, .slice none 0 0] 58 ?_; intro gb135 hg w19 hbox hb; have GW135 := b6_ hg HB; have GE135 := b6_ hg HB; have NB0_135 := b4_ hg BK0; have NB135_0 := b5_ hg BK0; have NB129_135 := b4_ hg BK129; have NB135_129 := b5_ hg BK129; have NB133_135 := b4_ hg BK133; have NB135_133 := b5_ hg BK133; replace HO_134001 := Aside0.mk (Kd.S_below (Kd.S_elderB (by (with_reducible repeat (first | apply Kd.S_alloc | apply Kd.S_drewN | apply Kd.S_drew)); exact HO_134001.out) gb135 (Nat.le_of_eq hg.symm)) hb); replace BK0 := b3_ BK0 hb; replace BK129 := b3_ BK129 hb; replace BK133 := b3_ BK133 hb; replace HB := Aside0.mk (below_step (y1_ HB.out) hb); have BK135 := Aside0.mk (hbox); clear hb hbox hg; have hnb20 := NB135_0.out; have hnc20 := NB0_135.out; have hnb21 := NB135_129.out; have hnc21 := NB129_135.out; have hnb22 := NB135_133.out; have hnc22 := NB133_135.out; have hcz23_0 := c1_ BK135 0 (.string (⟨#[]⟩ : ByteArray)); have hcz23_1 := c1_ BK135 1 (.int .i64 0); have hcz23_2 := c1_ BK135 2 (.int .i64 0); have hcz23_3 := c1_ BK135 3 (.slice none 0 0); have hfz23_0 := f1_ BK135 0; have hfz23_1 := f1_ BK135 1; have hfz23_2 := f1_ BK135 2; have hfz23_3 := f1_ BK135 3) | ((with_reducible refine gate_dst (N := 28) rfl ?_); refine Kd.R_lit k97 _ 97 ?hg (N := 28) ?hd (xs := ([] : List (S97))) (inner := []) (ok := fun _ => True) (okp := fun _ => True) ?hr ?hp (fun _ hk => hk) trivial (Below.refl _ _) (Nat.le_refl _) (by simp) ?_; (case hd => rfl); (case hg => rfl); (case hr => first | (go_simp; done) | (go_simp; rfl)); (case hp => exact (Reps.none _ _)); intro v137 w24 ho25 hb hg_ hnew_; clear hg_ hnew_; (first | rw [← Ny136.out] at ho25 | (simp only [Int.reduceToNat] at ho25; rw [← Ny136.out] at ho25)); replace HO_134001 := Aside0.mk (Kd.S_elder' (by (with_reducible repeat (first | apply Kd.S_alloc | apply Kd.S_drewN | apply Kd.S_drew)); exact (Kd.S_mono (Kd.S_far (p := ⟨gb135, 3, none⟩) (Kd.S_far (p := ⟨gb135, 2, none⟩) (Kd.S_far (p := ⟨gb135, 1, none⟩) (Kd.S_far (p := ⟨gb135, 0, none⟩) (Kd.S_mono HO_134001.out (fun k_ hk => (⟨hk, hk.2⟩ : _ ∧ k_ ≠ gb135))) (fun _ hk => hk.2) (.string ((rd_T58 l0_1 x4_1).f0))) (fun _ hk => hk.2) (.int .i64 ((rd_T58 l0_1 x4_1).f1))) (fun _ hk => hk.2) (.int .i64 ((rd_T58 l0_1 x4_1).f2))) (fun _ hk => hk.2) (.slice A134_3 ((rd_T58 l0_1 x4_1).f3).length c134_3)) (fun _ h_ => h_.1))) (Kd.R_base ho25) hb); have HO138 := Aside0.mk (Kd.R_lower ho25 (below_size (by repeat (first | (with_reducible first | exact HB.out | apply below_alloc | apply pw_below_drewN | apply below_drew1 | refine below_set ?_ GE135.out) | exact HB.out)))); replace BK0 := Aside0.mk (blk_below (g := g0_) (o := .cells #[.int .i64 a0_0, .slice (some ad134) l0_1.length c0_1] 54 (0, 0)) (by (with_reducible repeat (first | refine blk_drewN ?_ _ | refine blk_drew ?_ | refine blk_alloc ?_ _)); refine blk_far3 ?_ NB0_135.out; (with_reducible repeat (first | refine blk_drewN ?_ _ | refine blk_drew ?_ | refine blk_alloc ?_ _)); refine blk_far ?_ NB0_135.out _; (with_reducible repeat (first | refine blk_drewN ?_ _ | refine blk_drew ?_ | refine blk_alloc ?_ _)); exact BK0.out) hb); replace BK129 := Aside0.mk (blk_below (g := gb129) (o := .cells #[.int .i64 0, .slice none 0 0] 54 (0, 0)) (by (with_reducible repeat (first | refine blk_drewN ?_ _ | refine blk_drew ?_ | refine blk_alloc ?_ _)); refine blk_far3 ?_ NB129_135.out; (with_reducible repeat (first | refine blk_drewN ?_ _ | refine blk_drew ?_ | refine blk_alloc ?_ _)); refine blk_far ?_ NB129_135.out _; (with_reducible repeat (first | refine blk_drewN ?_ _ | refine blk_drew ?_ | refine blk_alloc ?_ _)); exact BK129.out) hb); replace BK133 := Aside0.mk (blk_below (g := gb133) (o := .cells #[.int .i64 a0_0, u134001] 54 (0, 0)) (by (with_reducible repeat (first | refine blk_drewN ?_ _ | refine blk_drew ?_ | refine blk_alloc ?_ _)); refine blk_far3 ?_ NB133_135.out; (with_reducible repeat (first | refine blk_drewN ?_ _ | refine blk_drew ?_ | refine blk_alloc ?_ _)); refine blk_far ?_ NB133_135.out _; (with_reducible repeat (first | refine blk_drewN ?_ _ | refine blk_drew ?_ | refine blk_alloc ?_ _)); exact BK133.out) hb); replace BK135 := Aside0.mk (blk_below (g := gb135) (o := .cells #[.string ((rd_T58 l0_1 x4_1).f0), .int .i64 ((rd_T58 l0_1 x4_1).f1), .int .i64 ((rd_T58 l0_1 x4_1).f2), .slice A134_3 ((rd_T58 l0_1 x4_1).f3).length c134_3] 58 (0, 0)) (by (with_reducible repeat (first | refine blk_drewN ?_ _ | refine blk_drew ?_ | refine blk_alloc ?_ _)); refine blk_put3 (cs := #[.string ((rd_T58 l0_1 x4_1).f0), .int .i64 0, .int .i64 0, .slice none 0 0]) ?_ rfl; (with_reducible repeat (first | refine blk_drewN ?_ _ | refine blk_drew ?_ | refine blk_alloc ?_ _)); refine blk_put (cs := #[.string (⟨#[]⟩ : ByteArray), .int .i64 0, .int .i64 0, .slice none 0 0]) ?_ 0 _ rfl; (with_reducible repeat (first | refine blk_drewN ?_ _ | refine blk_drew ?_ | refine blk_alloc ?_ _)); exact BK135.out) hb); replace HB := Aside0.mk (below_step (by repeat (first | (with_reducible first | exact HB.out | apply below_alloc | apply pw_below_drewN | apply below_drew1 | refine below_set ?_ GE135.out) | exact HB.out)) hb); clear hb ho25; have hcz26_0 := c1_ BK135 0 (.string ((rd_T58 l0_1 x4_1).f0)); have hcz26_1 := c1_ BK135 1 (.int .i64 ((rd_T58 l0_1 x4_1).f1)); have hcz26_2 := c1_ BK135 2 (.int .i64 ((rd_T58 l0_1 x4_1).f2)); have hcz26_3 := c1_ BK135 3 (.slice A134_3 ((rd_T58 l0_1 x4_1).f3).length c134_3); have hfz26_0 := f1_ BK135 0; have hfz26_1 := f1_ BK135 1; have hfz26_2 := f1_ BK135 2; have hfz26_3 := f1_ BK135 3) | ((with_reducible refine gate_builtin (b := .append) (xs := #[.tmp 28, .tmp 30]) rfl ?_); at_builtin; refine Kd.R_append_rows k97 (w0 := w) w.heap.size rfl (.tmp 28) (.tmp 30) 56 97 (.agg #[(.int .i64 0), (.int .i64 0)]) 16 rfl Try.underlying56 info97 rfl (by decide) (by omega) v137 y136 ((rd_T58 l0_1 x4_1).f3) _ _ _ (fun _ => True) (fun _ => False) rfl rfl ?aO ?aR (fun _ _ h => h) (fun _ h => h.elim) ?aF ?aB ?aS ?aL ?_; (case aR => repeat (first | exact (Kd.C_below HR134_3.out HB.out) | (with_reducible refine Kd.C_alloc ?_ _) | (with_reducible refine Kd.C_drewN ?_ _) | (with_reducible refine Kd.C_drew ?_))); (case aB => exact (y1_ HB.out)); (case aF => exact (fun _ _ => trivial)); (case aO => exact (b2_ HO138.out)); (case aS => exact (below_size (y1_ HB.out))); (case aL => have := LMc14.out; omega); intro v140 w27 ho hb hg hat; rw [← Ny139.out] at ho; replace HO_134001 := Aside0.mk (Kd.S_after (ok := (fun k_ => k_ ≠ gb135)) (by (with_reducible repeat (first | apply Kd.S_alloc | apply Kd.S_drewN | apply Kd.S_drew)); exact Kd.S_mono HO_134001.out (fun _ hk => ⟨hk.1.2, hk.2⟩)) hg hat); replace BK0 := Aside0.mk (blk_grown (g := g0_) (o := .cells #[.int .i64 a0_0, .slice (some ad134) l0_1.length c0_1] 54 (0, 0)) (b1_ BK0.out) hg (Kd.R_ne HO138.out BK0.out (by decide))); replace BK129 := Aside0.mk (blk_grown (g := gb129) (o := .cells #[.int .i64 0, .slice none 0 0] 54 (0, 0)) (b1_ BK129.out) hg (Kd.R_ne HO138.out BK129.out (by decide))); replace BK133 := Aside0.mk (blk_grown (g := gb133) (o := .cells #[.int .i64 a0_0, u134001] 54 (0, 0)) (b1_ BK133.out) hg (Kd.R_ne HO138.out BK133.out (by decide))); replace BK135 := Aside0.mk (blk_grown (g := gb135) (o := .cells #[.string ((rd_T58 l0_1 x4_1).f0), .int .i64 ((rd_T58 l0_1 x4_1).f1), .int .i64 ((rd_T58 l0_1 x4_1).f2), .slice A134_3 ((rd_T58 l0_1 x4_1).f3).length c134_3] 58 (0, 0)) (b1_ BK135.out) hg (Kd.R_ne HO138.out BK135.out (by decide))); replace HB := Aside0.mk (hb); have HO141 := Aside0.mk (ho); clear HO138; clear ho hb hg hat; obtain ⟨Ao28, co28, eo28⟩ := Kd.R_slice HO141.out; subst eo28; have hcz29_0 := c1_ BK135 0 (.string ((rd_T58 l0_1 x4_1).f0)); have hcz29_1 := c1_ BK135 1 (.int .i64 ((rd_T58 l0_1 x4_1).f1)); have hcz29_2 := c1_ BK135 2 (.int .i64 ((rd_T58 l0_1 x4_1).f2)); have hcz29_3 := c1_ BK135 3 (.slice A134_3 ((rd_T58 l0_1 x4_1).f3).length c134_3); have hfz29_0 := f1_ BK135 0; have hfz29_1 := f1_ BK135 1; have hfz29_2 := f1_ BK135 2; have hfz29_3 := f1_ BK135 3) | ((with_reducible refine gate_store (t := 56) (p := 32) rfl ?_); refine store_event (t := 56) (p := 32) (v := ?vo_w30) (w1 := (w27.setCell ⟨gb135, 3, none⟩ (.slice Ao28 y139.length co28))) ?hg ?ho ?hn ?hr ?_; (case ho => rfl); (case hg => rfl); (case hn => rfl); (case hr => first | (go_simp; done) | (go_simp; rfl)); intro w30 hw; have n0_ : Aside0 (Kd.S k58 58 w30 w.heap.size (fun k_ => some k_ ≠ (.slice Ao28 y139.length co28 : Value).ownBlock ∧ k_ ≠ gb135) u134001 x134001_1) := ⟨(by rw [hw]; exact (by (with_reducible repeat (first | apply Kd.S_alloc | apply Kd.S_drewN | apply Kd.S_drew)); exact Kd.S_mono (Kd.S_far (p := ⟨gb135, 3, none⟩) (Kd.S_mono HO_134001.out (fun k_ hk => (⟨hk, hk.1⟩ : _ ∧ k_ ≠ gb135))) (fun _ hk => hk.2) (.slice Ao28 y139.length co28)) (fun _ hk => ⟨hk.1.2, hk.1.1⟩)))⟩; have n1_ : Aside0 (Kd.R k97 97 w30 w.heap.size (fun _ => True) (.slice Ao28 y139.length co28) y139) := ⟨(by rw [hw]; exact (by (with_reducible repeat (first | apply Kd.R_alloc | apply Kd.R_drewN | apply Kd.R_drew)); exact Kd.R_mono (Kd.R_far (p := ⟨gb135, 3, none⟩) (Kd.R_types HO141.out BK135.out (by decide)) (fun _ hk => hk.2) (.slice Ao28 y139.length co28)) (fun _ hk => trivial)))⟩; have n2_ : Aside0 (w30.heap[g0_]? = some (.cells #[.int .i64 a0_0, .slice (some ad134) l0_1.length c0_1] 54 (0, 0))) := ⟨(by rw [hw]; exact (by (with_reducible repeat (first | refine blk_drewN ?_ _ | refine blk_drew ?_ | refine blk_alloc ?_ _)); refine blk_far ?_ NB0_135.out _; (with_reducible repeat (first | refine blk_drewN ?_ _ | refine blk_drew ?_ | refine blk_alloc ?_ _)); exact BK0.out))⟩; have n3_ : Aside0 (w30.heap[gb129]? = some (.cells #[.int .i64 0, .slice none 0 0] 54 (0, 0))) := ⟨(by rw [hw]; exact (by (with_reducible repeat (first | refine blk_drewN ?_ _ | refine blk_drew ?_ | refine blk_alloc ?_ _)); refine blk_far ?_ NB129_135.out _; (with_reducible repeat (first | refine blk_drewN ?_ _ | refine blk_drew ?_ | refine blk_alloc ?_ _)); exact BK129.out))⟩; have n4_ : Aside0 (w30.heap[gb133]? = some (.cells #[.int .i64 a0_0, u134001] 54 (0, 0))) := ⟨(by rw [hw]; exact (by (with_reducible repeat (first | refine blk_drewN ?_ _ | refine blk_drew ?_ | refine blk_alloc ?_ _)); refine blk_far ?_ NB133_135.out _; (with_reducible repeat (first | refine blk_drewN ?_ _ | refine blk_drew ?_ | refine blk_alloc ?_ _)); exact BK133.out))⟩; have n5_ : Aside0 (w30.heap[gb135]? = some (.cells #[.string ((rd_T58 l0_1 x4_1).f0), .int .i64 ((rd_T58 l0_1 x4_1).f1), .int .i64 ((rd_T58 l0_1 x4_1).f2), .slice Ao28 y139.length co28] 58 (0, 0))) := ⟨(by rw [hw]; exact (by (with_reducible repeat (first | refine blk_drewN ?_ _ | refine blk_drew ?_ | refine blk_alloc ?_ _)); refine blk_put (cs := #[.string ((rd_T58 l0_1 x4_1).f0), .int .i64 ((rd_T58 l0_1 x4_1).f1), .int .i64 ((rd_T58 l0_1 x4_1).f2), .slice A134_3 ((rd_T58 l0_1 x4_1).f3).length c134_3]) ?_ 3 _ rfl; (with_reducible repeat (first | refine blk_drewN ?_ _ | refine blk_drew ?_ | refine blk_alloc ?_ _)); exact BK135.out))⟩; have n6_ : Aside0 (Below w.heap.size w w30) := ⟨(by rw [hw]; exact (by repeat (first | (with_reducible first | exact HB.out | apply below_alloc | apply pw_below_drewN | apply below_drew1 | refine below_set ?_ GE135.out) | exact HB.out)))⟩; clear hw; clear HO_134001; clear HO141; clear BK0; clear BK129; clear BK133; clear BK135; clear HB; have HO_134001 := n0_; have HO141 := n1_; have BK0 := n2_; have BK129 := n3_; have BK133 := n4_; have BK135 := n5_; have HB := n6_; clear n0_ n1_ n2_ n3_ n4_ n5_ n6_; have hnb31 := NB133_129.out; have hnc31 := NB129_133.out; have hcz32_0 := c1_ BK133 0 (.int .i64 a0_0); have hcz32_1 := c1_ BK133 1 (u134001); have hfz32_0 := f1_ BK133 0; have hfz32_1 := f1_ BK133 1; have hcz33_0 := c1_ BK135 0 (.string ((rd_T58 l0_1 x4_1).f0)); have hcz33_1 := c1_ BK135 1 (.int .i64 ((rd_T58 l0_1 x4_1).f1)); have hcz33_2 := c1_ BK135 2 (.int .i64 ((rd_T58 l0_1 x4_1).f2)); have hcz33_3 := c1_ BK135 3 (.slice Ao28 y139.length co28); have hfz33_0 := f1_ BK135 0; have hfz33_1 := f1_ BK135 1; have hfz33_2 := f1_ BK135 2; have hfz33_3 := f1_ BK135 3) | ((with_reducible refine gate_builtin (b := .append) (xs := #[.tmp 34, .tmp 36]) rfl ?_); at_builtin; refine Kd.S_append k58 (w0 := w) w.heap.size rfl (.tmp 34) (.tmp 36) 52 58 (.agg #[(.string ⟨#[]⟩), (.int .i64 0), (.int .i64 0), (.slice none 0 0)]) 56 rfl Try.underlying52 info58 rfl (by decide) (by omega) u134001 x134001_1 (⟨(rd_T58 l0_1 x4_1).f0, (rd_T58 l0_1 x4_1).f1, (rd_T58 l0_1 x4_1).f2, y139⟩ : S58) [.string ((rd_T58 l0_1 x4_1).f0), .int .i64 ((rd_T58 l0_1 x4_1).f1), .int .i64 ((rd_T58 l0_1 x4_1).f2), .slice Ao28 y139.length co28] (fun k_ => k_ ≠ gb135) (fun k_ => some k_ = (.slice Ao28 y139.length co28 : Value).ownBlock) rfl rfl ?aP (fun k_ hk_ => ((Kd.R_mono (ok' := fun k_ => ((fun k_ => k_ ≠ gb135)) k_ ∧ some k_ ≠ (u134001 : Value).ownBlock) (Kd.R_types (Kd.R_apart' (HO141.out) (Kd.S_typed HO_134001.out) (by decide)) BK135.out (by decide)) (fun k_ hk => ⟨hk.2, hk.1.2⟩))).1 k_ hk_.symm) ?aF ?aO ?aB ?aS ?aL ?_; (case aP => exact k58_mkM _ _ _ (⟨(rd_T58 l0_1 x4_1).f0, (rd_T58 l0_1 x4_1).f1, (rd_T58 l0_1 x4_1).f2, y139⟩ : S58) (Kd.R_mono (Kd.R_tight rfl (Kd.R_mono (ok' := fun k_ => ((fun k_ => k_ ≠ gb135)) k_ ∧ some k_ ≠ (u134001 : Value).ownBlock) (Kd.R_types (Kd.R_apart' (HO141.out) (Kd.S_typed HO_134001.out) (by decide)) BK135.out (by decide)) (fun k_ hk => ⟨hk.2, hk.1.2⟩))) (fun _ h_ => h_))); (case aB => exact (y1_ HB.out)); (case aF => exact (fun k_ hk => Kd.freshB (g := gb135) (o := .cells #[.string ((rd_T58 l0_1 x4_1).f0), .int .i64 ((rd_T58 l0_1 x4_1).f1), .int .i64 ((rd_T58 l0_1 x4_1).f2), .slice Ao28 y139.length co28] 58 (0, 0)) (b1_ BK135.out) k_ hk)); (case aO => exact (by (with_reducible repeat (first | apply Kd.S_alloc | apply Kd.S_drewN | apply Kd.S_drew)); exact Kd.S_mono HO_134001.out (fun k_ hk => ⟨hk.2, fun e_ => hk.1 e_⟩))); (case aS => exact (below_size (y1_ HB.out))); (case aL => have := LMc15.out; omega); intro v143 w34 ho hb hg hat; rw [← Ny142.out] at ho; replace BK0 := Aside0.mk (blk_grown (g := g0_) (o := .cells #[.int .i64 a0_0, .slice (some ad134) l0_1.length c0_1] 54 (0, 0)) (b1_ BK0.out) hg (Kd.S_ne HO_134001.out BK0.out (by decide))); replace BK129 := Aside0.mk (blk_grown (g := gb129) (o := .cells #[.int .i64 0, .slice none 0 0] 54 (0, 0)) (b1_ BK129.out) hg (Kd.S_ne HO_134001.out BK129.out (by decide))); replace BK133 := Aside0.mk (blk_grown (g := gb133) (o := .cells #[.int .i64 a0_0, u134001] 54 (0, 0)) (b1_ BK133.out) hg (Kd.S_ne HO_134001.out BK133.out (by decide))); replace BK135 := Aside0.mk (blk_grown (g := gb135) (o := .cells #[.string ((rd_T58 l0_1 x4_1).f0), .int .i64 ((rd_T58 l0_1 x4_1).f1), .int .i64 ((rd_T58 l0_1 x4_1).f2), .slice Ao28 y139.length co28] 58 (0, 0)) (b1_ BK135.out) hg (Kd.S_away HO_134001.out (fun _ hk => hk.2))); replace HB := Aside0.mk (hb); have HO144 := Aside0.mk (ho); clear HO_134001; clear HO141; clear ho hb hg hat; obtain ⟨Ao35, co35, eo35⟩ := Kd.S_slice HO144.out; subst eo35; have hcz36_0 := c1_ BK133 0 (.int .i64 a0_0); have hcz36_1 := c1_ BK133 1 (u134001); have hfz36_0 := f1_ BK133 0; have hfz36_1 := f1_ BK133 1))
 go_roundg k1
 case measure => have := HK1.out; omega
 case rel => exact ⟨(wrap64 (x4_1 + 1)), (y142), (.slice Ao35 y142.length co35), (by first | rfl | (simp; done) | (simp [*]; done)), H', ⟨by have := HK1.out; omega⟩, ⟨by (with_reducible repeat (first | apply Kd.S_alloc | apply Kd.S_drewN | apply Kd.S_drew)); exact Kd.S_mono (Kd.S_far (p := ⟨gb133, 1, none⟩) (Kd.S_types HO144.out BK133.out (by decide)) (fun _ hk => hk.2) (.slice Ao35 y142.length co35)) (fun _ hk => trivial)⟩, ⟨by (with_reducible repeat (first | refine blk_drewN ?_ _ | refine blk_drew ?_ | refine blk_alloc ?_ _)); refine blk_far ?_ NB0_133.out _; (with_reducible repeat (first | refine blk_drewN ?_ _ | refine blk_drew ?_ | refine blk_alloc ?_ _)); exact BK0.out⟩, ⟨by (with_reducible repeat (first | refine blk_drewN ?_ _ | refine blk_drew ?_ | refine blk_alloc ?_ _)); refine blk_far ?_ NB129_133.out _; (with_reducible repeat (first | refine blk_drewN ?_ _ | refine blk_drew ?_ | refine blk_alloc ?_ _)); exact BK129.out⟩, ⟨by (with_reducible repeat (first | refine blk_drewN ?_ _ | refine blk_drew ?_ | refine blk_alloc ?_ _)); refine blk_put (cs := #[.int .i64 a0_0, u134001]) ?_ 1 _ rfl; (with_reducible repeat (first | refine blk_drewN ?_ _ | refine blk_drew ?_ | refine blk_alloc ?_ _)); exact BK133.out⟩, ⟨by repeat (first | (with_reducible first | exact HB.out | apply below_alloc | apply pw_below_drewN | apply below_drew1 | refine below_set ?_ GE133.out) | exact HB.out)⟩⟩}
 {
 rw [if_neg c15] at H
 exact absurd H (by simp)}}
 {
 rw [if_neg c14] at H
 exact absurd H (by simp)}}
 {
 rw [if_neg c13] at H
 exact absurd H (by simp)}}
 {
 rw [if_neg c12] at H
 have c12b0 : decide (x4_1 < (l0_1.length : Int)) = false := decide_eq_false c12
 clear c12
 simp only [Option.some.injEq, Prod.mk.injEq] at H
 obtain ⟨rfl, rfl⟩ := H
 have hnb37 := NB0_129.out
 have hnc37 := NB129_0.out
 have hnb38 := NB0_133.out
 have hnc38 := NB133_0.out
 have hcz39_0 := c1_ BK0 0 (.int .i64 a0_0)
 have hcz39_1 := c1_ BK0 1 (.slice A0_1 l0_1.length c0_1)
 have hfz39_0 := f1_ BK0 0
 have hfz39_1 := f1_ BK0 1
 have hnb40 := NB133_129.out
 have hnc40 := NB129_133.out
 have hcz41_0 := c1_ BK133 0 (.int .i64 a0_0)
 have hcz41_1 := c1_ BK133 1 (u134001)
 have hfz41_0 := f1_ BK133 0
 have hfz41_1 := f1_ BK133 1
 have hcz42_0 := c1_ BK129 0 (.int .i64 0)
 have hcz42_1 := c1_ BK129 1 (.slice none 0 0)
 have hfz42_0 := f1_ BK129 0
 have hfz42_1 := f1_ BK129 1
 obtain ⟨Ao43, co43, eo43⟩ := Kd.S_slice HO_134001.out
 subst eo43
 go_wp2
 refine bodyPost_ret (results_cell_row rfl _ _ gb129 54 #[.int .i64 a0_0, .slice Ao43 x134001_1.length co43] (0, 0) _ rfl (by (with_reducible repeat (first | refine blk_drewN ?_ _ | refine blk_drew ?_ | refine blk_alloc ?_ _)); refine blk_put (cs := #[.int .i64 a0_0, .slice none 0 0]) ?_ 1 _ rfl; (with_reducible repeat (first | refine blk_drewN ?_ _ | refine blk_drew ?_ | refine blk_alloc ?_ _)); refine blk_put (cs := #[.int .i64 0, .slice none 0 0]) ?_ 0 _ rfl; (with_reducible repeat (first | refine blk_drewN ?_ _ | refine blk_drew ?_ | refine blk_alloc ?_ _)); exact BK129.out) Try.underlying54 rfl (by kernel_rfl)) rfl ?_
 exact ⟨_, by first | rfl | (simp [errW_none, errW_some] <;> rfl) | (simp [*, errW_none, errW_some] <;> rfl), by (with_reducible repeat (first | apply Kd.S_alloc | apply Kd.S_drewN | apply Kd.S_drew)); exact Kd.S_mono (Kd.S_far (p := ⟨gb129, 1, none⟩) (Kd.S_far (p := ⟨gb129, 0, none⟩) (Kd.S_types HO_134001.out BK129.out (by decide)) (fun _ hk => hk.2) (.int .i64 a0_0)) (fun _ hk => hk.2) (.slice Ao43 x134001_1.length co43)) (fun _ hk => trivial), by repeat (first | (with_reducible first | exact HB.out | apply below_alloc | apply pw_below_drewN | apply below_drew1 | refine below_set ?_ GE129.out) | exact HB.out)⟩}}}

end Go.Proofs.Ytdanachjdfiegaa.QFnTaken
