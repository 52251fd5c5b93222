-- written by a program of this session, on the lines of the kit's print
import Derived.Test.YtgfilednbllkmaaQFnExactStartTypingx0
import Derived.Test.YtgfilednbllkmaaQFnExactStartTypingx8
import Derived.Test.YtgfilednbllkmaaQFnExactStartTypingx9
namespace Go.Proofs.Ytgfilednbllkmaa.QFnExactStartTyping
open Go.RowKit Go.Proofs.YtgfilednbllkmaaW.PrintWords Go.Proofs.YtgfilednbllkmaaW.PrintLast Go.Proofs.YtgfilednbllkmaaW.PrintMore
attribute [local go_sem] max2_int min2_int max_two min_two max_three min_three max_four min_four   -- for this text's walks alone
set_option linter.unusedVariables false
set_option linter.unusedSimpArgs false

/-! ### spec_l05Is: function 57 -/
abbrev spec_l05Is.T : Bool := true
abbrev spec_l05Is.F : Bool := false
theorem spec_l05Is.s1_ {P : Prop} (h : P := by first | rfl | (simp; done) | (simp [*]; done)) : P := h
theorem spec_l05Is.b1_ {P Q : Prop} (q : Q) (h : Q → P := by intro q_; (with_reducible repeat (first | refine blk_drewN ?_ _ | refine blk_drew ?_ | refine blk_alloc ?_ _)); exact q_) : P := h q
theorem spec_l05Is.y1_ {P Q : Prop} (q : Q) (h : Q → P := by intro q_; repeat (first | (with_reducible first | exact q_ | apply below_alloc | apply pw_below_drewN | apply below_drew1) | exact q_)) : P := h q
theorem spec_l05Is.y2_ {P Q : Prop} (q : Q) (h : Q → P := by intro q_; repeat (first | exact q_ | (with_reducible refine Kd.C_alloc ?_ _) | (with_reducible refine Kd.C_drewN ?_ _) | (with_reducible refine Kd.C_drew ?_))) : P := h q
theorem spec_l05Is.b3_ {w w1 W : World} {g : Nat} {o : Obj} (q : Aside0 (w.heap[g]? = some o)) (hb : Below W.heap.size W w1) (h : w.heap[g]? = some o → W.heap[g]? = some o := by intro q_; (with_reducible repeat (first | refine blk_drewN ?_ _ | refine blk_drew ?_ | refine blk_alloc ?_ _)); exact q_) : Aside0 (w1.heap[g]? = some o) := ⟨blk_below (h q.out) hb⟩
theorem spec_l05Is.b4_ {w W : World} {g k : Nat} {o : Obj} (hg : k = W.heap.size) (q : Aside0 (w.heap[g]? = some o)) (h : w.heap[g]? = some o → W.heap[g]? = some o := by intro q_; (with_reducible repeat (first | refine blk_drewN ?_ _ | refine blk_drew ?_ | refine blk_alloc ?_ _)); exact q_) : Aside0 (g ≠ k) := ⟨by rw [hg]; exact Nat.ne_of_lt (blk_lt (h q.out))⟩
theorem spec_l05Is.b5_ {w W : World} {g k : Nat} {o : Obj} (hg : k = W.heap.size) (q : Aside0 (w.heap[g]? = some o)) (h : w.heap[g]? = some o → W.heap[g]? = some o := by intro q_; (with_reducible repeat (first | refine blk_drewN ?_ _ | refine blk_drew ?_ | refine blk_alloc ?_ _)); exact q_) : Aside0 (k ≠ g) := ⟨by rw [hg]; exact Nat.ne_of_gt (blk_lt (h q.out))⟩
theorem spec_l05Is.b6_ {w w' W : World} {k : Nat} (hg : k = W.heap.size) (q : Aside0 (Below w.heap.size w w')) (h : Below w.heap.size w w' → Below w.heap.size w W := by intro q_; repeat (first | (with_reducible first | exact q_ | apply below_alloc | apply pw_below_drewN | apply below_drew1) | exact q_)) : Aside0 (w.heap.size ≤ k) := ⟨by rw [hg]; exact below_size (h q.out)⟩
theorem spec_l05Is.bx_ {P : Program} {ops : Array Oper} {rest : List Oper} {o : Oper} {a : Act} {Q : Exit → Act → World → Prop} {W : World} (N : Tmp) (cs : Array Value) (t : TypeId) (h : ∀ g, g = W.heap.size → ∀ w1, w1.heap[g]? = some (.cells cs t (0, 0)) → Below W.heap.size W w1 → wpList P ops Q rest (a.put o.dst (.pointer (some ⟨g, 0, none⟩))) w1) (hgd : o.guard = none := by rfl) (hd : o.dst = some N := by rfl) (hrun : (execOp a.eval o).run P W = .ok (.value (.pointer (some ⟨W.heap.size, 0, none⟩))) (W.alloc (.cells cs t (0, 0))) := by first | (go_simp; done) | (go_simp; rfl)) : wpList P ops Q (o :: rest) a W := box_event hgd hd hrun h
theorem spec_l05Is.c1_ {w : World} {g : Nat} {t : TypeId} {cs : Array Value} (q : Aside0 (w.heap[g]? = some (.cells cs t (0, 0)))) (i : Nat) (v : Value) (h : cs[i]? = some v := by rfl) : w.cell? ⟨g, i, none⟩ = some v := (blk_cell q.out i).trans h
theorem spec_l05Is.f1_ {w : World} {g : Nat} {t : TypeId} {cs : Array Value} (q : Aside0 (w.heap[g]? = some (.cells cs t (0, 0)))) (i : Nat) : w.frozen? ⟨g, i, none⟩ = false := blk_frozen q.out i
mutual
def spec_l05Is.l0 : Nat → Int → Int → List (S63) → List (S63) → List (S73) → Option (Bool)
  | 0, _, _, _, _, _ => none
  | k + 1, x9, x10, x1000, x1001, x1002 => if x10 < x9 then (if 0 ≤ x10 then (if x10 < (x1002.length : Int) then ((spec_l01Member.f ((rd_T73 x1002 x10).f0)).bind fun t242 => (if t242 = true then ((spec_l00In.f ((rd_T73 x1002 x10).f1) 0 1000000000).bind fun t243 => (if t243 = true then (if x10 > 0 then (if 0 ≤ (wrap64 (x10 - 1)) then (if (wrap64 (x10 - 1)) < (x1002.length : Int) then (spec_l05Is.j1 k x9 x10 (decide (((rd_T73 x1002 (wrap64 (x10 - 1))).f0) ≥ ((rd_T73 x1002 x10).f0))) x1000 x1001 x1002) else (none)) else (none)) else (spec_l05Is.j1 k x9 x10 false x1000 x1001 x1002)) else (spec_l05Is.j1 k x9 x10 true x1000 x1001 x1002))) else (spec_l05Is.j1 k x9 x10 true x1000 x1001 x1002))) else (none)) else (none)) else (if (x1002.length : Int) ≤ 30 then ((spec_l05Leases.f k x1000).bind fun t245 => (if t245 = true then ((spec_l05Leases.f k x1001).bind fun t246 => (some t246)) else (some false))) else (some false))
def spec_l05Is.j1 : Nat → Int → Int → Bool → List (S63) → List (S63) → List (S73) → Option (Bool)
  | 0, _, _, _, _, _, _ => none
  | k + 1, x9, x10, x47, x1000, x1001, x1002 => if x47 = true then (some false) else (spec_l05Is.l0 k x9 (wrap64 (x10 + 1)) x1000 x1001 x1002)
end
def spec_l05Is.f (k : Nat) (l0_0 : List (S63)) (l0_1 : List (S63)) (l0_2 : List (S73)) : Option (Bool) := spec_l05Is.l0 k (l0_2.length : Int) 0 l0_0 l0_1 l0_2
theorem spec_l05Is.mono_l : ∀ k, (∀ y0 y1 y2 y3 y4, LeO (spec_l05Is.l0 k y0 y1 y2 y3 y4) (spec_l05Is.l0 (k + 1) y0 y1 y2 y3 y4)) ∧ (∀ y0 y1 y2 y3 y4 y5, LeO (spec_l05Is.j1 k y0 y1 y2 y3 y4 y5) (spec_l05Is.j1 (k + 1) y0 y1 y2 y3 y4 y5))
  | 0 => ⟨fun _ _ _ _ _ r h => by simp [spec_l05Is.l0] at h, fun _ _ _ _ _ _ r h => by simp [spec_l05Is.j1] at h⟩
  | k + 1 => by
    obtain ⟨ih0, ih1⟩ := spec_l05Is.mono_l k
    refine ⟨?_, ?_⟩
    · intro y0 y1 y2 y3 y4
      unfold spec_l05Is.l0
      repeat' first
      | (with_reducible exact ih0 _ _ _ _ _)
      | (with_reducible exact ih1 _ _ _ _ _ _)
      | (with_reducible exact spec_l05Leases.mono _ _)
      | (with_reducible exact LeO.refl _)
      | (with_reducible exact LeO.none _)
      | (with_reducible refine LeO.ite ?_ ?_)
      | (with_reducible refine LeO.bind ?_ (fun _ => ?_))
      | exact ih0 _ _ _ _ _
      | exact ih1 _ _ _ _ _ _
      | exact spec_l05Leases.mono _ _
      | exact LeO.none _
      | refine LeO.ite ?_ ?_
      | refine LeO.bind ?_ (fun _ => ?_)
    · intro y0 y1 y2 y3 y4 y5
      unfold spec_l05Is.j1
      repeat' first
      | (with_reducible exact ih0 _ _ _ _ _)
      | (with_reducible exact ih1 _ _ _ _ _ _)
      | (with_reducible exact spec_l05Leases.mono _ _)
      | (with_reducible exact LeO.refl _)
      | (with_reducible exact LeO.none _)
      | (with_reducible refine LeO.ite ?_ ?_)
      | (with_reducible refine LeO.bind ?_ (fun _ => ?_))
      | exact ih0 _ _ _ _ _
      | exact ih1 _ _ _ _ _ _
      | exact spec_l05Leases.mono _ _
      | exact LeO.none _
      | refine LeO.ite ?_ ?_
      | refine LeO.bind ?_ (fun _ => ?_)
theorem spec_l05Is.mono : ∀ a0 a1 a2 k, LeO (spec_l05Is.f k a0 a1 a2) (spec_l05Is.f (k + 1) a0 a1 a2) := by
  intro a0 a1 a2 k
  obtain ⟨ih0, ih1⟩ := spec_l05Is.mono_l k
  unfold spec_l05Is.f
  repeat' first
      | (with_reducible exact ih0 _ _ _ _ _)
      | (with_reducible exact ih1 _ _ _ _ _ _)
      | (with_reducible exact spec_l05Leases.mono _ _)
      | (with_reducible exact LeO.refl _)
      | (with_reducible exact LeO.none _)
      | (with_reducible refine LeO.ite ?_ ?_)
      | (with_reducible refine LeO.bind ?_ (fun _ => ?_))
      | exact ih0 _ _ _ _ _
      | exact ih1 _ _ _ _ _ _
      | exact spec_l05Leases.mono _ _
      | exact LeO.none _
      | refine LeO.ite ?_ ?_
      | refine LeO.bind ?_ (fun _ => ?_)
set_option maxHeartbeats 8000000 in
set_option maxRecDepth 100000 in
theorem spec_l05Is.calls (k : Nat) (g0_ : Nat) (A0_0 : Option Addr) (c0_0 : Nat) (l0_0 : List (S63)) (A0_1 : Option Addr) (c0_1 : Nat) (l0_1 : List (S63)) (A0_2 : Option Addr) (c0_2 : Nat) (l0_2 : List (S73)) (r : Bool) (w : World) (hbk0 : w.heap[g0_]? = some (.cells #[.slice A0_0 l0_0.length c0_0, .slice A0_1 l0_1.length c0_1, .slice A0_2 l0_2.length c0_2] 27 (0, 0))) (hr0_0 : Kd.C k63 w A0_0 l0_0.length l0_0) (hc0_0 : l0_0.length ≤ c0_0) (hr0_1 : Kd.C k63 w A0_1 l0_1.length l0_1) (hc0_1 : l0_1.length ≤ c0_1) (hr0_2 : Kd.C k73 w A0_2 l0_2.length l0_2) (hc0_2 : l0_2.length ≤ c0_2) (h : spec_l05Is.f k l0_0 l0_1 l0_2 = some r) :
    Calls Try.prog 57 #[.pointer (some ⟨g0_, 0, none⟩)] w fun e w' => e = .returned (.bool r) ∧ Below w.heap.size w w' := by
 have hu73 := Try.underlying73
 have HR0_0 := Aside0.mk hr0_0
 have HC0_0 := Aside0.mk hc0_0
 clear hr0_0 hc0_0
 have HR0_1 := Aside0.mk hr0_1
 have HC0_1 := Aside0.mk hc0_1
 clear hr0_1 hc0_1
 have HR0_2 := Aside0.mk hr0_2
 have HC0_2 := Aside0.mk hc0_2
 clear hr0_2 hc0_2
 have BK0 := Aside0.mk hbk0
 clear hbk0
 have HB := Aside0.mk (Below.refl w.heap.size w)
 have H : (spec_l05Is.l0 k (l0_2.length : Int) 0 l0_0 l0_1 l0_2) = some r := h
 clear h
 have H' := Aside0.mk H
 clear H
 have hcz2_0 := c1_ BK0 0 (.slice A0_0 l0_0.length c0_0)
 have hcz2_1 := c1_ BK0 1 (.slice A0_1 l0_1.length c0_1)
 have hcz2_2 := c1_ BK0 2 (.slice A0_2 l0_2.length c0_2)
 have hfz2_0 := f1_ BK0 0
 have hfz2_1 := f1_ BK0 1
 have hfz2_2 := f1_ BK0 2
 go_enter Try.func57, Try.ntmps57
 go_wp2
 repeat (go_quiet (fail); try go_wp2)
 go_loopg [10] k (fun kq v10 w' => ∃ (x10_1 : Int), v10 = .int .i64 x10_1 ∧ Aside0 (spec_l05Is.l0 kq (l0_2.length : Int) x10_1 l0_0 l0_1 l0_2 = some r) ∧ Aside0 (kq ≤ k) ∧ Aside0 (w'.heap[g0_]? = some (.cells #[(.slice A0_0 l0_0.length c0_0), (.slice A0_1 l0_1.length c0_1), (.slice A0_2 l0_2.length c0_2)] 27 (0, 0))) ∧ Aside0 (Below w.heap.size w w'))
 case atStart => exact ⟨(0), s1_, H', ⟨Nat.le_refl _⟩, ⟨b1_ BK0.out⟩, ⟨by repeat (first | (with_reducible first | exact HB.out | apply below_alloc | apply pw_below_drewN | apply below_drew1) | exact HB.out)⟩⟩
 case round =>
  skip
  {
 clear H'
 try clear p2
 try clear hcz2_0
 try clear hcz2_1
 try clear hcz2_2
 try clear hfz2_0
 try clear hfz2_1
 try clear hfz2_2
 obtain ⟨x10_1, rfl, HA, HK1, BK0, HB⟩ := hrel
 cases gk with
 | zero => exact absurd HA.out (by simp [spec_l05Is.l0])
 | succ k1 =>
  skip
  {
 have H := HA.out
 clear HA
 simp only [spec_l05Is.l0] at H
 by_cases c3 : x10_1 < (l0_2.length : Int)
 {
 rw [if_pos c3] at H
 have c3b0 : decide (x10_1 < (l0_2.length : Int)) = true := decide_eq_true c3
 clear c3
 by_cases c4 : 0 ≤ x10_1
 {
 rw [if_pos c4] at H
 have c4b0 : decide (0 ≤ x10_1) = true := decide_eq_true c4
 clear c4
 by_cases c5 : x10_1 < (l0_2.length : Int)
 {
 rw [if_pos c5] at H
 have c5b0 : decide (x10_1 < (l0_2.length : Int)) = true := decide_eq_true c5
 clear c5
 have HC6 := Aside0.mk H
 clear H
 have hcz7_0 := c1_ BK0 0 (.slice A0_0 l0_0.length c0_0)
 have hcz7_1 := c1_ BK0 1 (.slice A0_1 l0_1.length c0_1)
 have hcz7_2 := c1_ BK0 2 (.slice A0_2 l0_2.length c0_2)
 have hfz7_0 := f1_ BK0 0
 have hfz7_1 := f1_ BK0 1
 have hfz7_2 := f1_ BK0 2
 have p240 : 0 ≤ (x10_1 : Int) := of_decide_eq_true (by first | (with_reducible assumption) | assumption)
 have q240 : x10_1 < (l0_2.length : Int) := of_decide_eq_true (by first | (with_reducible assumption) | assumption)
 have hbd240 := Aside0.mk (And.intro p240 q240)
 obtain ⟨ad240, e240, hx240_0, hx240_1⟩ := at_T73 HR0_2.out x10_1 p240 q240
 cases e240
 replace hx240_0 := (HB.out.cell (World.block_lt_of_cell? w _ hx240_0)).trans hx240_0
 replace hx240_1 := (HB.out.cell (World.block_lt_of_cell? w _ hx240_1)).trans hx240_1
 replace p240 := eq_true p240
 replace q240 := eq_true q240
 go_upto_region 5 with (first | ((with_reducible refine gate_dst (N := 4) rfl ?_); refine bx_ 4 #[.int .i64 0, .int .i64 0] 73 ?_; intro gb241 hg w8 hbox hb; have GW241 := b6_ hg HB; have GE241 := b6_ hg HB; have NB0_241 := b4_ hg BK0; have NB241_0 := b5_ hg BK0; replace BK0 := b3_ BK0 hb; replace HB := Aside0.mk (below_step (y1_ HB.out) hb); have BK241 := Aside0.mk (hbox); clear hb hbox hg; have hnb9 := NB241_0.out; have hnc9 := NB0_241.out; have hcz10_0 := c1_ BK241 0 (.int .i64 0); have hcz10_1 := c1_ BK241 1 (.int .i64 0); have hfz10_0 := f1_ BK241 0; have hfz10_1 := f1_ BK241 1))
 repeat (go_quiet (first | ((with_reducible refine gate_dst (N := 4) rfl ?_); refine bx_ 4 #[.int .i64 0, .int .i64 0] 73 ?_; intro gb241 hg w8 hbox hb; have GW241 := b6_ hg HB; have GE241 := b6_ hg HB; have NB0_241 := b4_ hg BK0; have NB241_0 := b5_ hg BK0; replace BK0 := b3_ BK0 hb; replace HB := Aside0.mk (below_step (y1_ HB.out) hb); have BK241 := Aside0.mk (hbox); clear hb hbox hg; have hnb9 := NB241_0.out; have hnc9 := NB0_241.out; have hcz10_0 := c1_ BK241 0 (.int .i64 0); have hcz10_1 := c1_ BK241 1 (.int .i64 0); have hfz10_0 := f1_ BK241 0; have hfz10_1 := f1_ BK241 1)); go_upto_region 5 with (first | ((with_reducible refine gate_dst (N := 4) rfl ?_); refine bx_ 4 #[.int .i64 0, .int .i64 0] 73 ?_; intro gb241 hg w8 hbox hb; have GW241 := b6_ hg HB; have GE241 := b6_ hg HB; have NB0_241 := b4_ hg BK0; have NB241_0 := b5_ hg BK0; replace BK0 := b3_ BK0 hb; replace HB := Aside0.mk (below_step (y1_ HB.out) hb); have BK241 := Aside0.mk (hbox); clear hb hbox hg; have hnb9 := NB241_0.out; have hnc9 := NB0_241.out; have hcz10_0 := c1_ BK241 0 (.int .i64 0); have hcz10_1 := c1_ BK241 1 (.int .i64 0); have hfz10_0 := f1_ BK241 0; have hfz10_1 := f1_ BK241 1)))
 (try simp only [Act.put, List.setIfInBounds_toArray, List.set_cons_zero, List.set_cons_succ])
 go_cut [47] (fun v47 wc => ∃ (kq : Nat) (x47_5 : Bool), v47 = .bool x47_5 ∧ Aside0 (spec_l05Is.j1 kq (l0_2.length : Int) x10_1 x47_5 l0_0 l0_1 l0_2 = some r) ∧ Aside0 (kq ≤ k1) ∧ Aside0 (wc.heap[g0_]? = some (.cells #[(.slice A0_0 l0_0.length c0_0), (.slice A0_1 l0_1.length c0_1), (.slice (some ad240) l0_2.length c0_2)] 27 (0, 0))) ∧ Aside0 (wc.heap[gb241]? = some (.cells #[.int .i64 ((rd_T73 l0_2 x10_1).f0), .int .i64 ((rd_T73 l0_2 x10_1).f1)] 73 (0, 0))) ∧ Aside0 (Below w.heap.size w wc))
 case first =>
  skip
  {
 have H := HC6.out
 clear HC6
 replace H := Option.bind_eq_some_iff.mp H
 obtain ⟨t242, A110, H⟩ := H
 replace H : (if t242 = true then ((spec_l00In.f ((rd_T73 l0_2 x10_1).f1) 0 1000000000).bind fun t243 => (if t243 = true then (if x10_1 > 0 then (if 0 ≤ (wrap64 (x10_1 - 1)) then (if (wrap64 (x10_1 - 1)) < (l0_2.length : Int) then (spec_l05Is.j1 k1 (l0_2.length : Int) x10_1 (decide (((rd_T73 l0_2 (wrap64 (x10_1 - 1))).f0) ≥ ((rd_T73 l0_2 x10_1).f0))) l0_0 l0_1 l0_2) else (none)) else (none)) else (spec_l05Is.j1 k1 (l0_2.length : Int) x10_1 false l0_0 l0_1 l0_2)) else (spec_l05Is.j1 k1 (l0_2.length : Int) x10_1 true l0_0 l0_1 l0_2))) else (spec_l05Is.j1 k1 (l0_2.length : Int) x10_1 true l0_0 l0_1 l0_2)) = some r := H
 have A11 := Aside0.mk A110
 clear A110
 by_cases c12 : t242 = true
 {
 subst c12
 have H1 : ((spec_l00In.f ((rd_T73 l0_2 x10_1).f1) 0 1000000000).bind fun t243 => (if t243 = true then (if x10_1 > 0 then (if 0 ≤ (wrap64 (x10_1 - 1)) then (if (wrap64 (x10_1 - 1)) < (l0_2.length : Int) then (spec_l05Is.j1 k1 (l0_2.length : Int) x10_1 (decide (((rd_T73 l0_2 (wrap64 (x10_1 - 1))).f0) ≥ ((rd_T73 l0_2 x10_1).f0))) l0_0 l0_1 l0_2) else (none)) else (none)) else (spec_l05Is.j1 k1 (l0_2.length : Int) x10_1 false l0_0 l0_1 l0_2)) else (spec_l05Is.j1 k1 (l0_2.length : Int) x10_1 true l0_0 l0_1 l0_2))) = some r := by rw [if_pos rfl] at H; exact H
 clear H
 have H := H1
 clear H1
 replace H := Option.bind_eq_some_iff.mp H
 obtain ⟨t243, A130, H⟩ := H
 replace H : (if t243 = true then (if x10_1 > 0 then (if 0 ≤ (wrap64 (x10_1 - 1)) then (if (wrap64 (x10_1 - 1)) < (l0_2.length : Int) then (spec_l05Is.j1 k1 (l0_2.length : Int) x10_1 (decide (((rd_T73 l0_2 (wrap64 (x10_1 - 1))).f0) ≥ ((rd_T73 l0_2 x10_1).f0))) l0_0 l0_1 l0_2) else (none)) else (none)) else (spec_l05Is.j1 k1 (l0_2.length : Int) x10_1 false l0_0 l0_1 l0_2)) else (spec_l05Is.j1 k1 (l0_2.length : Int) x10_1 true l0_0 l0_1 l0_2)) = some r := H
 have A13 := Aside0.mk A130
 clear A130
 by_cases c14 : t243 = true
 {
 subst c14
 have H1 : (if x10_1 > 0 then (if 0 ≤ (wrap64 (x10_1 - 1)) then (if (wrap64 (x10_1 - 1)) < (l0_2.length : Int) then (spec_l05Is.j1 k1 (l0_2.length : Int) x10_1 (decide (((rd_T73 l0_2 (wrap64 (x10_1 - 1))).f0) ≥ ((rd_T73 l0_2 x10_1).f0))) l0_0 l0_1 l0_2) else (none)) else (none)) else (spec_l05Is.j1 k1 (l0_2.length : Int) x10_1 false l0_0 l0_1 l0_2)) = some r := by rw [if_pos rfl] at H; exact H
 clear H
 have H := H1
 clear H1
 by_cases c15 : x10_1 > 0
 {
 rw [if_pos c15] at H
 have c15b0 : decide (0 < x10_1) = true := decide_eq_true c15
 clear c15
 (first | rw [c15b0] | (simp only [i64_w, i32_w]; rw [c15b0]) | skip)
 obtain ⟨ji16, hji16⟩ : ∃ j_ : Int, (wrap64 (x10_1 - 1)) = j_ := ⟨_, rfl⟩
 replace H : (if 0 ≤ (ji16) then (if (ji16) < (l0_2.length : Int) then (spec_l05Is.j1 k1 (l0_2.length : Int) x10_1 (decide (((rd_T73 l0_2 (ji16)).f0) ≥ ((rd_T73 l0_2 x10_1).f0))) l0_0 l0_1 l0_2) else (none)) else (none)) = some r := by first | (rw [hji16] at H; exact H) | (simp only [hji16] at H ⊢; exact H)
 (try rw [hji16] at A11)
 (try rw [hji16] at A13)
 have hji16w : (IntKind.i64.wrap (x10_1 - 1)) = ji16 := (i64_w _).trans hji16
 by_cases c17 : 0 ≤ (ji16)
 {
 rw [if_pos c17] at H
 have c17b0 : decide (0 ≤ (ji16)) = true := decide_eq_true c17
 clear c17
 by_cases c18 : (ji16) < (l0_2.length : Int)
 {
 rw [if_pos c18] at H
 have c18b0 : decide ((ji16) < (l0_2.length : Int)) = true := decide_eq_true c18
 clear c18
 have H' := Aside0.mk H
 clear H
 have hnb19 := NB241_0.out
 have hnc19 := NB0_241.out
 have hcz20_0 := c1_ BK241 0 (.int .i64 0)
 have hcz20_1 := c1_ BK241 1 (.int .i64 0)
 have hfz20_0 := f1_ BK241 0
 have hfz20_1 := f1_ BK241 1
 have hcz21_0 := c1_ BK0 0 (.slice A0_0 l0_0.length c0_0)
 have hcz21_1 := c1_ BK0 1 (.slice A0_1 l0_1.length c0_1)
 have hcz21_2 := c1_ BK0 2 (.slice (some ad240) l0_2.length c0_2)
 have hfz21_0 := f1_ BK0 0
 have hfz21_1 := f1_ BK0 1
 have hfz21_2 := f1_ BK0 2
 have p244 : 0 ≤ ((ji16) : Int) := of_decide_eq_true (by first | (with_reducible assumption) | assumption)
 have q244 : (ji16) < (l0_2.length : Int) := of_decide_eq_true (by first | (with_reducible assumption) | assumption)
 obtain ⟨ad244, e244, hx244_0, hx244_1⟩ := at_T73 HR0_2.out (ji16) p244 q244
 obtain rfl : ad240 = ad244 := (by injection e244)
 have hn244_0 : ad240.block ≠ gb241 := Nat.ne_of_lt (Nat.lt_of_lt_of_le (by have := World.block_lt_of_cell? _ _ hx244_0; first | rwa [add_block] at this | exact this) GW241.out)
 have hn244_1 : ad240.block ≠ gb241 := Nat.ne_of_lt (Nat.lt_of_lt_of_le (by have := World.block_lt_of_cell? _ _ hx244_0; first | rwa [add_block] at this | exact this) GW241.out)
 replace hx244_0 := (HB.out.cell (World.block_lt_of_cell? w _ hx244_0)).trans hx244_0
 replace hx244_1 := (HB.out.cell (World.block_lt_of_cell? w _ hx244_1)).trans hx244_1
 replace hx244_0 := (cell_far (p := ⟨gb241, 0, none⟩) (by first | (rw [add_block]; exact hn244_0) | (show (Addr.add _ _).block ≠ _; rw [add_block]; exact hn244_0) | exact hn244_0) (.int .i64 ((rd_T73 l0_2 x10_1).f0))).trans hx244_0
 replace hx244_1 := (cell_far (p := ⟨gb241, 0, none⟩) (by first | (rw [add_block]; exact hn244_0) | (show (Addr.add _ _).block ≠ _; rw [add_block]; exact hn244_0) | exact hn244_0) (.int .i64 ((rd_T73 l0_2 x10_1).f0))).trans hx244_1
 replace hx244_0 := (cell_far (p := ⟨gb241, 1, none⟩) (by first | (rw [add_block]; exact hn244_1) | (show (Addr.add _ _).block ≠ _; rw [add_block]; exact hn244_1) | exact hn244_1) (.int .i64 ((rd_T73 l0_2 x10_1).f1))).trans hx244_0
 replace hx244_1 := (cell_far (p := ⟨gb241, 1, none⟩) (by first | (rw [add_block]; exact hn244_1) | (show (Addr.add _ _).block ≠ _; rw [add_block]; exact hn244_1) | exact hn244_1) (.int .i64 ((rd_T73 l0_2 x10_1).f1))).trans hx244_1
 (try have hy244_0 := fun (n_ : Nat) => (show ((((w8.drewN n_).setCell ⟨gb241, 0, none⟩ (.int .i64 ((rd_T73 l0_2 x10_1).f0))).setCell ⟨gb241, 1, none⟩ (.int .i64 ((rd_T73 l0_2 x10_1).f1)))).cell? _ = some _ from hx244_0))
 (try have hy244_1 := fun (n_ : Nat) => (show ((((w8.drewN n_).setCell ⟨gb241, 0, none⟩ (.int .i64 ((rd_T73 l0_2 x10_1).f0))).setCell ⟨gb241, 1, none⟩ (.int .i64 ((rd_T73 l0_2 x10_1).f1)))).cell? _ = some _ from hx244_1))
 clear hn244_0
 clear hn244_1
 replace p244 := eq_true p244
 replace q244 := eq_true q244
 go_wp2_with (first | (go_at_call 98; (with_reducible refine (spec_l01Member.calls ((rd_T73 l0_2 x10_1).f0) true _ A11.out).mono ?_); rintro e w' ⟨rfl, ⟨nd, rfl⟩⟩; (try first | exact ⟨rfl, _, World.drewN_drewN _ _ _⟩ | exact ⟨rfl, _, Eq.trans (World.drewN_drewN _ _ _) (congrArg (World.drewN _) (Nat.add_assoc _ _ _))⟩)) | (go_at_call 99; (with_reducible refine (spec_l00In.calls ((rd_T73 l0_2 x10_1).f1) 0 1000000000 true _ A13.out).mono ?_); rintro e w' ⟨rfl, ⟨nd, rfl⟩⟩; (try first | exact ⟨rfl, _, World.drewN_drewN _ _ _⟩ | exact ⟨rfl, _, Eq.trans (World.drewN_drewN _ _ _) (congrArg (World.drewN _) (Nat.add_assoc _ _ _))⟩)))
 repeat (go_quiet (first | (go_at_call 98; (with_reducible refine (spec_l01Member.calls ((rd_T73 l0_2 x10_1).f0) true _ A11.out).mono ?_); rintro e w' ⟨rfl, ⟨nd, rfl⟩⟩; (try first | exact ⟨rfl, _, World.drewN_drewN _ _ _⟩ | exact ⟨rfl, _, Eq.trans (World.drewN_drewN _ _ _) (congrArg (World.drewN _) (Nat.add_assoc _ _ _))⟩)) | (go_at_call 99; (with_reducible refine (spec_l00In.calls ((rd_T73 l0_2 x10_1).f1) 0 1000000000 true _ A13.out).mono ?_); rintro e w' ⟨rfl, ⟨nd, rfl⟩⟩; (try first | exact ⟨rfl, _, World.drewN_drewN _ _ _⟩ | exact ⟨rfl, _, Eq.trans (World.drewN_drewN _ _ _) (congrArg (World.drewN _) (Nat.add_assoc _ _ _))⟩))); try go_wp2_with (first | (go_at_call 98; (with_reducible refine (spec_l01Member.calls ((rd_T73 l0_2 x10_1).f0) true _ A11.out).mono ?_); rintro e w' ⟨rfl, ⟨nd, rfl⟩⟩; (try first | exact ⟨rfl, _, World.drewN_drewN _ _ _⟩ | exact ⟨rfl, _, Eq.trans (World.drewN_drewN _ _ _) (congrArg (World.drewN _) (Nat.add_assoc _ _ _))⟩)) | (go_at_call 99; (with_reducible refine (spec_l00In.calls ((rd_T73 l0_2 x10_1).f1) 0 1000000000 true _ A13.out).mono ?_); rintro e w' ⟨rfl, ⟨nd, rfl⟩⟩; (try first | exact ⟨rfl, _, World.drewN_drewN _ _ _⟩ | exact ⟨rfl, _, Eq.trans (World.drewN_drewN _ _ _) (congrArg (World.drewN _) (Nat.add_assoc _ _ _))⟩))))
 go_meet
 case rel => exact ⟨_, (decide (((rd_T73 l0_2 (ji16)).f0) ≥ ((rd_T73 l0_2 x10_1).f0))), (by first | rfl | (simp; done) | (simp only [← hji16] <;> (first | rfl | simp)) | (simp [*]; done)), H', ⟨by have := HK1.out; first | omega | exact Nat.le_refl _⟩, ⟨by (with_reducible repeat (first | refine blk_drewN ?_ _ | refine blk_drew ?_ | refine blk_alloc ?_ _)); refine blk_far ?_ NB0_241.out _; (with_reducible repeat (first | refine blk_drewN ?_ _ | refine blk_drew ?_ | refine blk_alloc ?_ _)); refine blk_far ?_ NB0_241.out _; (with_reducible repeat (first | refine blk_drewN ?_ _ | refine blk_drew ?_ | refine blk_alloc ?_ _)); exact BK0.out⟩, ⟨by (with_reducible repeat (first | refine blk_drewN ?_ _ | refine blk_drew ?_ | refine blk_alloc ?_ _)); refine blk_put (cs := #[.int .i64 ((rd_T73 l0_2 x10_1).f0), .int .i64 0]) ?_ 1 _ rfl; (with_reducible repeat (first | refine blk_drewN ?_ _ | refine blk_drew ?_ | refine blk_alloc ?_ _)); refine blk_put (cs := #[.int .i64 0, .int .i64 0]) ?_ 0 _ rfl; (with_reducible repeat (first | refine blk_drewN ?_ _ | refine blk_drew ?_ | refine blk_alloc ?_ _)); exact BK241.out⟩, ⟨by repeat (first | (with_reducible first | exact HB.out | apply below_alloc | apply pw_below_drewN | apply below_drew1 | refine below_set ?_ GE241.out) | exact HB.out)⟩⟩}
 {
 rw [if_neg c18] at H
 exact absurd H (by simp)}}
 {
 rw [if_neg c17] at H
 exact absurd H (by simp)}}
 {
 rw [if_neg c15] at H
 have c15b0 : decide (0 < x10_1) = false := decide_eq_false c15
 clear c15
 (first | rw [c15b0] | (simp only [i64_w, i32_w]; rw [c15b0]) | skip)
 have H' := Aside0.mk H
 clear H
 have hnb22 := NB241_0.out
 have hnc22 := NB0_241.out
 have hcz23_0 := c1_ BK241 0 (.int .i64 0)
 have hcz23_1 := c1_ BK241 1 (.int .i64 0)
 have hfz23_0 := f1_ BK241 0
 have hfz23_1 := f1_ BK241 1
 go_wp2_with (first | (go_at_call 98; (with_reducible refine (spec_l01Member.calls ((rd_T73 l0_2 x10_1).f0) true _ A11.out).mono ?_); rintro e w' ⟨rfl, ⟨nd, rfl⟩⟩; (try first | exact ⟨rfl, _, World.drewN_drewN _ _ _⟩ | exact ⟨rfl, _, Eq.trans (World.drewN_drewN _ _ _) (congrArg (World.drewN _) (Nat.add_assoc _ _ _))⟩)) | (go_at_call 99; (with_reducible refine (spec_l00In.calls ((rd_T73 l0_2 x10_1).f1) 0 1000000000 true _ A13.out).mono ?_); rintro e w' ⟨rfl, ⟨nd, rfl⟩⟩; (try first | exact ⟨rfl, _, World.drewN_drewN _ _ _⟩ | exact ⟨rfl, _, Eq.trans (World.drewN_drewN _ _ _) (congrArg (World.drewN _) (Nat.add_assoc _ _ _))⟩)))
 repeat (go_quiet (first | (go_at_call 98; (with_reducible refine (spec_l01Member.calls ((rd_T73 l0_2 x10_1).f0) true _ A11.out).mono ?_); rintro e w' ⟨rfl, ⟨nd, rfl⟩⟩; (try first | exact ⟨rfl, _, World.drewN_drewN _ _ _⟩ | exact ⟨rfl, _, Eq.trans (World.drewN_drewN _ _ _) (congrArg (World.drewN _) (Nat.add_assoc _ _ _))⟩)) | (go_at_call 99; (with_reducible refine (spec_l00In.calls ((rd_T73 l0_2 x10_1).f1) 0 1000000000 true _ A13.out).mono ?_); rintro e w' ⟨rfl, ⟨nd, rfl⟩⟩; (try first | exact ⟨rfl, _, World.drewN_drewN _ _ _⟩ | exact ⟨rfl, _, Eq.trans (World.drewN_drewN _ _ _) (congrArg (World.drewN _) (Nat.add_assoc _ _ _))⟩))); try go_wp2_with (first | (go_at_call 98; (with_reducible refine (spec_l01Member.calls ((rd_T73 l0_2 x10_1).f0) true _ A11.out).mono ?_); rintro e w' ⟨rfl, ⟨nd, rfl⟩⟩; (try first | exact ⟨rfl, _, World.drewN_drewN _ _ _⟩ | exact ⟨rfl, _, Eq.trans (World.drewN_drewN _ _ _) (congrArg (World.drewN _) (Nat.add_assoc _ _ _))⟩)) | (go_at_call 99; (with_reducible refine (spec_l00In.calls ((rd_T73 l0_2 x10_1).f1) 0 1000000000 true _ A13.out).mono ?_); rintro e w' ⟨rfl, ⟨nd, rfl⟩⟩; (try first | exact ⟨rfl, _, World.drewN_drewN _ _ _⟩ | exact ⟨rfl, _, Eq.trans (World.drewN_drewN _ _ _) (congrArg (World.drewN _) (Nat.add_assoc _ _ _))⟩))))
 go_meet
 case rel => exact ⟨_, (false), s1_, H', ⟨by have := HK1.out; first | omega | exact Nat.le_refl _⟩, ⟨by (with_reducible repeat (first | refine blk_drewN ?_ _ | refine blk_drew ?_ | refine blk_alloc ?_ _)); refine blk_far ?_ NB0_241.out _; (with_reducible repeat (first | refine blk_drewN ?_ _ | refine blk_drew ?_ | refine blk_alloc ?_ _)); refine blk_far ?_ NB0_241.out _; (with_reducible repeat (first | refine blk_drewN ?_ _ | refine blk_drew ?_ | refine blk_alloc ?_ _)); exact BK0.out⟩, ⟨by (with_reducible repeat (first | refine blk_drewN ?_ _ | refine blk_drew ?_ | refine blk_alloc ?_ _)); refine blk_put (cs := #[.int .i64 ((rd_T73 l0_2 x10_1).f0), .int .i64 0]) ?_ 1 _ rfl; (with_reducible repeat (first | refine blk_drewN ?_ _ | refine blk_drew ?_ | refine blk_alloc ?_ _)); refine blk_put (cs := #[.int .i64 0, .int .i64 0]) ?_ 0 _ rfl; (with_reducible repeat (first | refine blk_drewN ?_ _ | refine blk_drew ?_ | refine blk_alloc ?_ _)); exact BK241.out⟩, ⟨by repeat (first | (with_reducible first | exact HB.out | apply below_alloc | apply pw_below_drewN | apply below_drew1 | refine below_set ?_ GE241.out) | exact HB.out)⟩⟩}}
 {
 replace c14 := Bool.eq_false_iff.mpr c14
 subst c14
 have H1 : (spec_l05Is.j1 k1 (l0_2.length : Int) x10_1 true l0_0 l0_1 l0_2) = some r := by rw [if_neg (show ¬ (false = true) by decide)] at H; exact H
 clear H
 have H := H1
 clear H1
 have H' := Aside0.mk H
 clear H
 have hnb24 := NB241_0.out
 have hnc24 := NB0_241.out
 have hcz25_0 := c1_ BK241 0 (.int .i64 0)
 have hcz25_1 := c1_ BK241 1 (.int .i64 0)
 have hfz25_0 := f1_ BK241 0
 have hfz25_1 := f1_ BK241 1
 go_wp2_with (first | (go_at_call 98; (with_reducible refine (spec_l01Member.calls ((rd_T73 l0_2 x10_1).f0) true _ A11.out).mono ?_); rintro e w' ⟨rfl, ⟨nd, rfl⟩⟩; (try first | exact ⟨rfl, _, World.drewN_drewN _ _ _⟩ | exact ⟨rfl, _, Eq.trans (World.drewN_drewN _ _ _) (congrArg (World.drewN _) (Nat.add_assoc _ _ _))⟩)) | (go_at_call 99; (with_reducible refine (spec_l00In.calls ((rd_T73 l0_2 x10_1).f1) 0 1000000000 false _ A13.out).mono ?_); rintro e w' ⟨rfl, ⟨nd, rfl⟩⟩; (try first | exact ⟨rfl, _, World.drewN_drewN _ _ _⟩ | exact ⟨rfl, _, Eq.trans (World.drewN_drewN _ _ _) (congrArg (World.drewN _) (Nat.add_assoc _ _ _))⟩)))
 repeat (go_quiet (first | (go_at_call 98; (with_reducible refine (spec_l01Member.calls ((rd_T73 l0_2 x10_1).f0) true _ A11.out).mono ?_); rintro e w' ⟨rfl, ⟨nd, rfl⟩⟩; (try first | exact ⟨rfl, _, World.drewN_drewN _ _ _⟩ | exact ⟨rfl, _, Eq.trans (World.drewN_drewN _ _ _) (congrArg (World.drewN _) (Nat.add_assoc _ _ _))⟩)) | (go_at_call 99; (with_reducible refine (spec_l00In.calls ((rd_T73 l0_2 x10_1).f1) 0 1000000000 false _ A13.out).mono ?_); rintro e w' ⟨rfl, ⟨nd, rfl⟩⟩; (try first | exact ⟨rfl, _, World.drewN_drewN _ _ _⟩ | exact ⟨rfl, _, Eq.trans (World.drewN_drewN _ _ _) (congrArg (World.drewN _) (Nat.add_assoc _ _ _))⟩))); try go_wp2_with (first | (go_at_call 98; (with_reducible refine (spec_l01Member.calls ((rd_T73 l0_2 x10_1).f0) true _ A11.out).mono ?_); rintro e w' ⟨rfl, ⟨nd, rfl⟩⟩; (try first | exact ⟨rfl, _, World.drewN_drewN _ _ _⟩ | exact ⟨rfl, _, Eq.trans (World.drewN_drewN _ _ _) (congrArg (World.drewN _) (Nat.add_assoc _ _ _))⟩)) | (go_at_call 99; (with_reducible refine (spec_l00In.calls ((rd_T73 l0_2 x10_1).f1) 0 1000000000 false _ A13.out).mono ?_); rintro e w' ⟨rfl, ⟨nd, rfl⟩⟩; (try first | exact ⟨rfl, _, World.drewN_drewN _ _ _⟩ | exact ⟨rfl, _, Eq.trans (World.drewN_drewN _ _ _) (congrArg (World.drewN _) (Nat.add_assoc _ _ _))⟩))))
 go_meet
 case rel => exact ⟨_, (true), s1_, H', ⟨by have := HK1.out; first | omega | exact Nat.le_refl _⟩, ⟨by (with_reducible repeat (first | refine blk_drewN ?_ _ | refine blk_drew ?_ | refine blk_alloc ?_ _)); refine blk_far ?_ NB0_241.out _; (with_reducible repeat (first | refine blk_drewN ?_ _ | refine blk_drew ?_ | refine blk_alloc ?_ _)); refine blk_far ?_ NB0_241.out _; (with_reducible repeat (first | refine blk_drewN ?_ _ | refine blk_drew ?_ | refine blk_alloc ?_ _)); exact BK0.out⟩, ⟨by (with_reducible repeat (first | refine blk_drewN ?_ _ | refine blk_drew ?_ | refine blk_alloc ?_ _)); refine blk_put (cs := #[.int .i64 ((rd_T73 l0_2 x10_1).f0), .int .i64 0]) ?_ 1 _ rfl; (with_reducible repeat (first | refine blk_drewN ?_ _ | refine blk_drew ?_ | refine blk_alloc ?_ _)); refine blk_put (cs := #[.int .i64 0, .int .i64 0]) ?_ 0 _ rfl; (with_reducible repeat (first | refine blk_drewN ?_ _ | refine blk_drew ?_ | refine blk_alloc ?_ _)); exact BK241.out⟩, ⟨by repeat (first | (with_reducible first | exact HB.out | apply below_alloc | apply pw_below_drewN | apply below_drew1 | refine below_set ?_ GE241.out) | exact HB.out)⟩⟩}}
 {
 replace c12 := Bool.eq_false_iff.mpr c12
 subst c12
 have H1 : (spec_l05Is.j1 k1 (l0_2.length : Int) x10_1 true l0_0 l0_1 l0_2) = some r := by rw [if_neg (show ¬ (false = true) by decide)] at H; exact H
 clear H
 have H := H1
 clear H1
 have H' := Aside0.mk H
 clear H
 have hnb26 := NB241_0.out
 have hnc26 := NB0_241.out
 have hcz27_0 := c1_ BK241 0 (.int .i64 0)
 have hcz27_1 := c1_ BK241 1 (.int .i64 0)
 have hfz27_0 := f1_ BK241 0
 have hfz27_1 := f1_ BK241 1
 go_wp2_with (first | (go_at_call 98; (with_reducible refine (spec_l01Member.calls ((rd_T73 l0_2 x10_1).f0) false _ A11.out).mono ?_); rintro e w' ⟨rfl, ⟨nd, rfl⟩⟩; (try first | exact ⟨rfl, _, World.drewN_drewN _ _ _⟩ | exact ⟨rfl, _, Eq.trans (World.drewN_drewN _ _ _) (congrArg (World.drewN _) (Nat.add_assoc _ _ _))⟩)))
 repeat (go_quiet (first | (go_at_call 98; (with_reducible refine (spec_l01Member.calls ((rd_T73 l0_2 x10_1).f0) false _ A11.out).mono ?_); rintro e w' ⟨rfl, ⟨nd, rfl⟩⟩; (try first | exact ⟨rfl, _, World.drewN_drewN _ _ _⟩ | exact ⟨rfl, _, Eq.trans (World.drewN_drewN _ _ _) (congrArg (World.drewN _) (Nat.add_assoc _ _ _))⟩))); try go_wp2_with (first | (go_at_call 98; (with_reducible refine (spec_l01Member.calls ((rd_T73 l0_2 x10_1).f0) false _ A11.out).mono ?_); rintro e w' ⟨rfl, ⟨nd, rfl⟩⟩; (try first | exact ⟨rfl, _, World.drewN_drewN _ _ _⟩ | exact ⟨rfl, _, Eq.trans (World.drewN_drewN _ _ _) (congrArg (World.drewN _) (Nat.add_assoc _ _ _))⟩))))
 go_meet
 case rel => exact ⟨_, (true), s1_, H', ⟨by have := HK1.out; first | omega | exact Nat.le_refl _⟩, ⟨by (with_reducible repeat (first | refine blk_drewN ?_ _ | refine blk_drew ?_ | refine blk_alloc ?_ _)); refine blk_far ?_ NB0_241.out _; (with_reducible repeat (first | refine blk_drewN ?_ _ | refine blk_drew ?_ | refine blk_alloc ?_ _)); refine blk_far ?_ NB0_241.out _; (with_reducible repeat (first | refine blk_drewN ?_ _ | refine blk_drew ?_ | refine blk_alloc ?_ _)); exact BK0.out⟩, ⟨by (with_reducible repeat (first | refine blk_drewN ?_ _ | refine blk_drew ?_ | refine blk_alloc ?_ _)); refine blk_put (cs := #[.int .i64 ((rd_T73 l0_2 x10_1).f0), .int .i64 0]) ?_ 1 _ rfl; (with_reducible repeat (first | refine blk_drewN ?_ _ | refine blk_drew ?_ | refine blk_alloc ?_ _)); refine blk_put (cs := #[.int .i64 0, .int .i64 0]) ?_ 0 _ rfl; (with_reducible repeat (first | refine blk_drewN ?_ _ | refine blk_drew ?_ | refine blk_alloc ?_ _)); exact BK241.out⟩, ⟨by repeat (first | (with_reducible first | exact HB.out | apply below_alloc | apply pw_below_drewN | apply below_drew1 | refine below_set ?_ GE241.out) | exact HB.out)⟩⟩}}
 case rest =>
  skip
  {
 clear HC6
 try clear c1
 try clear c2
 try clear p2
 try clear q2
 try clear hx2
 try clear c3
 try clear c3b0
 try clear c4
 try clear c4b0
 try clear c5
 try clear c5b0
 try clear p6
 try clear c9
 try clear c12
 try clear c14
 try clear c15
 try clear c15b0
 try clear c17
 try clear c17b0
 try clear c18
 try clear c18b0
 try clear c19
 try clear c22
 try clear c24
 try clear p24
 try clear q24
 try clear hx24
 try clear c26
 try clear hcz10_0
 try clear hcz10_1
 try clear hcz20_0
 try clear hcz20_1
 try clear hcz21_0
 try clear hcz21_1
 try clear hcz21_2
 try clear hcz23_0
 try clear hcz23_1
 try clear hcz25_0
 try clear hcz25_1
 try clear hcz27_0
 try clear hcz27_1
 try clear hcz2_0
 try clear hcz2_1
 try clear hcz2_2
 try clear hcz7_0
 try clear hcz7_1
 try clear hcz7_2
 try clear hfz10_0
 try clear hfz10_1
 try clear hfz20_0
 try clear hfz20_1
 try clear hfz21_0
 try clear hfz21_1
 try clear hfz21_2
 try clear hfz23_0
 try clear hfz23_1
 try clear hfz25_0
 try clear hfz25_1
 try clear hfz27_0
 try clear hfz27_1
 try clear hfz2_0
 try clear hfz2_1
 try clear hfz2_2
 try clear hfz7_0
 try clear hfz7_1
 try clear hfz7_2
 try clear hx240_0
 try clear hx240_1
 try clear hx244_0
 try clear hx244_1
 try clear p2
 try clear p240
 try clear p244
 try clear q240
 try clear q244
 obtain ⟨kq, x47_5, rfl, HA, HJ5, BK0, BK241, HB⟩ := hcut
 cases kq with
 | zero => exact absurd HA.out (by simp [spec_l05Is.j1])
 | succ kj5 =>
  skip
  {
 have H := HA.out
 clear HA
 simp only [spec_l05Is.j1] at H
 by_cases c28 : x47_5 = true
 {
 subst c28
 have H1 : (some false) = some r := by rw [if_pos rfl] at H; exact H
 clear H
 have H := H1
 clear H1
 obtain rfl := Option.some.inj H
 go_wp2
 repeat (go_quiet (fail); try go_wp2)
 go_ret
 exact ⟨by first | rfl | (simp [errW_none, errW_some] <;> rfl) | (simp [*, errW_none, errW_some] <;> rfl), by repeat (first | (with_reducible first | exact HB.out | apply below_alloc | apply pw_below_drewN | apply below_drew1) | exact HB.out)⟩}
 {
 replace c28 := Bool.eq_false_iff.mpr c28
 subst c28
 have H1 : (spec_l05Is.l0 kj5 (l0_2.length : Int) (wrap64 (x10_1 + 1)) l0_0 l0_1 l0_2) = some r := by rw [if_neg (show ¬ (false = true) by decide)] at H; exact H
 clear H
 have H := H1
 clear H1
 have H' := Aside0.mk H
 clear H
 go_wp2
 repeat (go_quiet (fail); try go_wp2)
 go_roundg kj5
 case measure => have := HK1.out; have := HJ5.out; omega
 case rel => exact ⟨(wrap64 (x10_1 + 1)), s1_, H', ⟨by have := HK1.out; have := HJ5.out; omega⟩, ⟨b1_ BK0.out⟩, ⟨by repeat (first | (with_reducible first | exact HB.out | apply below_alloc | apply pw_below_drewN | apply below_drew1) | exact HB.out)⟩⟩}}}}
 {
 rw [if_neg c5] at H
 exact absurd H (by simp)}}
 {
 rw [if_neg c4] at H
 exact absurd H (by simp)}}
 {
 rw [if_neg c3] at H
 have c3b0 : decide (x10_1 < (l0_2.length : Int)) = false := decide_eq_false c3
 clear c3
 by_cases c29 : (l0_2.length : Int) ≤ 30
 {
 rw [if_pos c29] at H
 have c29b0 : decide ((l0_2.length : Int) ≤ 30) = true := decide_eq_true c29
 have c29b1 : decide (l0_2.length ≤ 30) = true := decide_eq_true (by omega)
 clear c29
 replace H := Option.bind_eq_some_iff.mp H
 obtain ⟨t245, A300, H⟩ := H
 replace H : (if t245 = true then ((spec_l05Leases.f k1 l0_1).bind fun t246 => (some t246)) else (some false)) = some r := H
 have A30 := Aside0.mk A300
 clear A300
 by_cases c31 : t245 = true
 {
 subst c31
 have H1 : ((spec_l05Leases.f k1 l0_1).bind fun t246 => (some t246)) = some r := by rw [if_pos rfl] at H; exact H
 clear H
 have H := H1
 clear H1
 replace H := Option.bind_eq_some_iff.mp H
 obtain ⟨t246, A320, H⟩ := H
 replace H : (some t246) = some r := H
 have A32 := Aside0.mk A320
 clear A320
 obtain rfl := Option.some.inj H
 have hcz33_0 := c1_ BK0 0 (.slice A0_0 l0_0.length c0_0)
 have hcz33_1 := c1_ BK0 1 (.slice A0_1 l0_1.length c0_1)
 have hcz33_2 := c1_ BK0 2 (.slice A0_2 l0_2.length c0_2)
 have hfz33_0 := f1_ BK0 0
 have hfz33_1 := f1_ BK0 1
 have hfz33_2 := f1_ BK0 2
 go_wp2_with (first | (go_at_call 100; (with_reducible refine (spec_l05Leases.calls k1 _ _ l0_0 true _ ?side1 ?side2 A30.out).mono ?_); (case side1 => exact y2_ (Kd.C_below HR0_0.out HB.out)); (case side2 => exact HC0_0.out); rintro e w34 ⟨rfl, hb⟩; replace BK0 := b3_ BK0 hb; replace HB := Aside0.mk (below_step (y1_ HB.out) hb); (try clear hb); (try clear hb2); (try clear hk); (try clear hi); have hcz35_0 := c1_ BK0 0 (.slice A0_0 l0_0.length c0_0); have hcz35_1 := c1_ BK0 1 (.slice A0_1 l0_1.length c0_1); have hcz35_2 := c1_ BK0 2 (.slice A0_2 l0_2.length c0_2); have hfz35_0 := f1_ BK0 0; have hfz35_1 := f1_ BK0 1; have hfz35_2 := f1_ BK0 2) | (go_at_call 100; (with_reducible refine (spec_l05Leases.calls k1 _ _ l0_1 t246 _ ?side1 ?side2 A32.out).mono ?_); (case side1 => exact y2_ (Kd.C_below HR0_1.out HB.out)); (case side2 => exact HC0_1.out); rintro e w36 ⟨rfl, hb⟩; replace BK0 := b3_ BK0 hb; replace HB := Aside0.mk (below_step (y1_ HB.out) hb); (try clear hb); (try clear hb2); (try clear hk); (try clear hi)))
 repeat (go_quiet (first | (go_at_call 100; (with_reducible refine (spec_l05Leases.calls k1 _ _ l0_0 true _ ?side1 ?side2 A30.out).mono ?_); (case side1 => exact y2_ (Kd.C_below HR0_0.out HB.out)); (case side2 => exact HC0_0.out); rintro e w34 ⟨rfl, hb⟩; replace BK0 := b3_ BK0 hb; replace HB := Aside0.mk (below_step (y1_ HB.out) hb); (try clear hb); (try clear hb2); (try clear hk); (try clear hi); have hcz35_0 := c1_ BK0 0 (.slice A0_0 l0_0.length c0_0); have hcz35_1 := c1_ BK0 1 (.slice A0_1 l0_1.length c0_1); have hcz35_2 := c1_ BK0 2 (.slice A0_2 l0_2.length c0_2); have hfz35_0 := f1_ BK0 0; have hfz35_1 := f1_ BK0 1; have hfz35_2 := f1_ BK0 2) | (go_at_call 100; (with_reducible refine (spec_l05Leases.calls k1 _ _ l0_1 t246 _ ?side1 ?side2 A32.out).mono ?_); (case side1 => exact y2_ (Kd.C_below HR0_1.out HB.out)); (case side2 => exact HC0_1.out); rintro e w36 ⟨rfl, hb⟩; replace BK0 := b3_ BK0 hb; replace HB := Aside0.mk (below_step (y1_ HB.out) hb); (try clear hb); (try clear hb2); (try clear hk); (try clear hi))); try go_wp2_with (first | (go_at_call 100; (with_reducible refine (spec_l05Leases.calls k1 _ _ l0_0 true _ ?side1 ?side2 A30.out).mono ?_); (case side1 => exact y2_ (Kd.C_below HR0_0.out HB.out)); (case side2 => exact HC0_0.out); rintro e w34 ⟨rfl, hb⟩; replace BK0 := b3_ BK0 hb; replace HB := Aside0.mk (below_step (y1_ HB.out) hb); (try clear hb); (try clear hb2); (try clear hk); (try clear hi); have hcz35_0 := c1_ BK0 0 (.slice A0_0 l0_0.length c0_0); have hcz35_1 := c1_ BK0 1 (.slice A0_1 l0_1.length c0_1); have hcz35_2 := c1_ BK0 2 (.slice A0_2 l0_2.length c0_2); have hfz35_0 := f1_ BK0 0; have hfz35_1 := f1_ BK0 1; have hfz35_2 := f1_ BK0 2) | (go_at_call 100; (with_reducible refine (spec_l05Leases.calls k1 _ _ l0_1 t246 _ ?side1 ?side2 A32.out).mono ?_); (case side1 => exact y2_ (Kd.C_below HR0_1.out HB.out)); (case side2 => exact HC0_1.out); rintro e w36 ⟨rfl, hb⟩; replace BK0 := b3_ BK0 hb; replace HB := Aside0.mk (below_step (y1_ HB.out) hb); (try clear hb); (try clear hb2); (try clear hk); (try clear hi))))
 go_ret
 exact ⟨by first | rfl | (simp [errW_none, errW_some] <;> rfl) | (simp [*, errW_none, errW_some] <;> rfl), by repeat (first | (with_reducible first | exact HB.out | apply below_alloc | apply pw_below_drewN | apply below_drew1) | exact HB.out)⟩}
 {
 replace c31 := Bool.eq_false_iff.mpr c31
 subst c31
 have H1 : (some false) = some r := by rw [if_neg (show ¬ (false = true) by decide)] at H; exact H
 clear H
 have H := H1
 clear H1
 obtain rfl := Option.some.inj H
 have hcz37_0 := c1_ BK0 0 (.slice A0_0 l0_0.length c0_0)
 have hcz37_1 := c1_ BK0 1 (.slice A0_1 l0_1.length c0_1)
 have hcz37_2 := c1_ BK0 2 (.slice A0_2 l0_2.length c0_2)
 have hfz37_0 := f1_ BK0 0
 have hfz37_1 := f1_ BK0 1
 have hfz37_2 := f1_ BK0 2
 go_wp2_with (first | (go_at_call 100; (with_reducible refine (spec_l05Leases.calls k1 _ _ l0_0 false _ ?side1 ?side2 A30.out).mono ?_); (case side1 => exact y2_ (Kd.C_below HR0_0.out HB.out)); (case side2 => exact HC0_0.out); rintro e w38 ⟨rfl, hb⟩; replace BK0 := b3_ BK0 hb; replace HB := Aside0.mk (below_step (y1_ HB.out) hb); (try clear hb); (try clear hb2); (try clear hk); (try clear hi)))
 repeat (go_quiet (first | (go_at_call 100; (with_reducible refine (spec_l05Leases.calls k1 _ _ l0_0 false _ ?side1 ?side2 A30.out).mono ?_); (case side1 => exact y2_ (Kd.C_below HR0_0.out HB.out)); (case side2 => exact HC0_0.out); rintro e w38 ⟨rfl, hb⟩; replace BK0 := b3_ BK0 hb; replace HB := Aside0.mk (below_step (y1_ HB.out) hb); (try clear hb); (try clear hb2); (try clear hk); (try clear hi))); try go_wp2_with (first | (go_at_call 100; (with_reducible refine (spec_l05Leases.calls k1 _ _ l0_0 false _ ?side1 ?side2 A30.out).mono ?_); (case side1 => exact y2_ (Kd.C_below HR0_0.out HB.out)); (case side2 => exact HC0_0.out); rintro e w38 ⟨rfl, hb⟩; replace BK0 := b3_ BK0 hb; replace HB := Aside0.mk (below_step (y1_ HB.out) hb); (try clear hb); (try clear hb2); (try clear hk); (try clear hi))))
 go_ret
 exact ⟨by first | rfl | (simp [errW_none, errW_some] <;> rfl) | (simp [*, errW_none, errW_some] <;> rfl), by repeat (first | (with_reducible first | exact HB.out | apply below_alloc | apply pw_below_drewN | apply below_drew1) | exact HB.out)⟩}}
 {
 rw [if_neg c29] at H
 have c29b0 : decide ((l0_2.length : Int) ≤ 30) = false := decide_eq_false c29
 have c29b1 : decide (l0_2.length ≤ 30) = false := decide_eq_false (by omega)
 clear c29
 obtain rfl := Option.some.inj H
 have hcz39_0 := c1_ BK0 0 (.slice A0_0 l0_0.length c0_0)
 have hcz39_1 := c1_ BK0 1 (.slice A0_1 l0_1.length c0_1)
 have hcz39_2 := c1_ BK0 2 (.slice A0_2 l0_2.length c0_2)
 have hfz39_0 := f1_ BK0 0
 have hfz39_1 := f1_ BK0 1
 have hfz39_2 := f1_ BK0 2
 go_wp2
 repeat (go_quiet (fail); try go_wp2)
 go_ret
 exact ⟨by first | rfl | (simp [errW_none, errW_some] <;> rfl) | (simp [*, errW_none, errW_some] <;> rfl), by repeat (first | (with_reducible first | exact HB.out | apply below_alloc | apply pw_below_drewN | apply below_drew1) | exact HB.out)⟩}}}}

/-! ### spec_l05Until: function 59 -/
def spec_l05Until.l0 : Nat → List (S63) → Int → Int → Int → Option (Int)
  | 0, _, _, _, _ => none
  | k + 1, x0, x1, x7, x8 => if x8 < x7 then (if 0 ≤ x8 then (if x8 < (x0.length : Int) then (if ((rd_T63 x0 x8).f0) = x1 then (some ((rd_T63 x0 x8).f1)) else (spec_l05Until.l0 k x0 x1 x7 (wrap64 (x8 + 1)))) else (none)) else (none)) else (some (-1))
def spec_l05Until.f (k : Nat) (l0 : List (S63)) (a1 : Int) : Option (Int) := spec_l05Until.l0 k l0 a1 (l0.length : Int) 0
theorem spec_l05Until.mono_l : ∀ k, (∀ y0 y1 y2 y3, LeO (spec_l05Until.l0 k y0 y1 y2 y3) (spec_l05Until.l0 (k + 1) y0 y1 y2 y3))
  | 0 => fun _ _ _ _ r h => by simp [spec_l05Until.l0] at h
  | k + 1 => by
    have ih0 := spec_l05Until.mono_l k
    · intro y0 y1 y2 y3
      unfold spec_l05Until.l0
      repeat' first
      | (with_reducible exact ih0 _ _ _ _)
      | (with_reducible exact LeO.refl _)
      | (with_reducible exact LeO.none _)
      | (with_reducible refine LeO.ite ?_ ?_)
      | (with_reducible refine LeO.bind ?_ (fun _ => ?_))
      | exact ih0 _ _ _ _
      | exact LeO.none _
      | refine LeO.ite ?_ ?_
      | refine LeO.bind ?_ (fun _ => ?_)
theorem spec_l05Until.mono : ∀ a0 a1 k, LeO (spec_l05Until.f k a0 a1) (spec_l05Until.f (k + 1) a0 a1) := by
  intro a0 a1 k
  have ih0 := spec_l05Until.mono_l k
  unfold spec_l05Until.f
  repeat' first
      | (with_reducible exact ih0 _ _ _ _)
      | (with_reducible exact LeO.refl _)
      | (with_reducible exact LeO.none _)
      | (with_reducible refine LeO.ite ?_ ?_)
      | (with_reducible refine LeO.bind ?_ (fun _ => ?_))
      | exact ih0 _ _ _ _
      | exact LeO.none _
      | refine LeO.ite ?_ ?_
      | refine LeO.bind ?_ (fun _ => ?_)
set_option maxHeartbeats 8000000 in
set_option maxRecDepth 100000 in
theorem spec_l05Until.calls (k : Nat) (A0 : Option Addr) (c0 : Nat) (l0 : List (S63)) (a1 : Int) (r : Int) (w : World) (hr0 : Kd.C k63 w A0 l0.length l0) (hc0 : l0.length ≤ c0) (h : spec_l05Until.f k l0 a1 = some r) :
    Calls Try.prog 59 #[.slice A0 l0.length c0, .int .i64 a1] w fun e w' => e = .returned (.int .i64 r) ∧ Drawn0 w w' := by
  have HR0 := Aside0.mk hr0
  have HC0 := Aside0.mk hc0
  clear hr0 hc0
  have H : (spec_l05Until.l0 k l0 a1 (l0.length : Int) 0) = some r := h
  clear h
  have H' := Aside0.mk H
  clear H
  go_enter Try.func59, Try.ntmps59
  go_wp2
  go_loopg [8] k (fun kq v8 w' => ∃ (x8_1 : Int), v8 = .int .i64 x8_1 ∧ Aside0 (spec_l05Until.l0 kq l0 a1 (l0.length : Int) x8_1 = some r) ∧ Aside0 (kq ≤ k) ∧ Drawn0 w w')
  case atStart => exact ⟨(0), (by first | rfl | (simp; done) | (simp [*]; done)), H', ⟨Nat.le_refl _⟩, by repeat (first | exact Drawn0.refl _ | apply Drawn0.step)⟩
  case round =>
    clear H'
    try clear p2
    obtain ⟨x8_1, rfl, HA, HK1, ⟨m1, rfl⟩⟩ := hrel
    cases gk with
    | zero => exact absurd HA.out (by simp [spec_l05Until.l0])
    | succ k1 =>
      have H := HA.out
      clear HA
      simp only [spec_l05Until.l0] at H
      by_cases c3 : x8_1 < (l0.length : Int)
      · rw [if_pos c3] at H
        have c3b0 : decide (x8_1 < (l0.length : Int)) = true := decide_eq_true c3
        clear c3
        by_cases c4 : 0 ≤ x8_1
        · rw [if_pos c4] at H
          have c4b0 : decide (0 ≤ x8_1) = true := decide_eq_true c4
          clear c4
          by_cases c5 : x8_1 < (l0.length : Int)
          · rw [if_pos c5] at H
            have c5b0 : decide (x8_1 < (l0.length : Int)) = true := decide_eq_true c5
            clear c5
            by_cases c6 : ((rd_T63 l0 x8_1).f0) = a1
            · rw [if_pos c6] at H
              have c6b0 : (((rd_T63 l0 x8_1).f0) == a1) = true := beq_iff_eq.mpr c6
              have c6b1 : (((rd_T63 l0 x8_1).f0) != a1) = false := bne_eq_false_iff_eq.mpr c6
              clear c6
              obtain rfl := Option.some.inj H
              have p247 : 0 ≤ (x8_1 : Int) := of_decide_eq_true (by first | (with_reducible assumption) | assumption)
              have q247 : x8_1 < (l0.length : Int) := of_decide_eq_true (by first | (with_reducible assumption) | assumption)
              obtain ⟨ad247, e247, hx247_0, hx247_1⟩ := at_T63 HR0.out x8_1 p247 q247
              cases e247
              replace p247 := eq_true p247
              replace q247 := eq_true q247
              have p248 : 0 ≤ (x8_1 : Int) := of_decide_eq_true (by first | (with_reducible assumption) | assumption)
              have q248 : x8_1 < (l0.length : Int) := of_decide_eq_true (by first | (with_reducible assumption) | assumption)
              obtain ⟨ad248, e248, hx248_0, hx248_1⟩ := at_T63 HR0.out x8_1 p248 q248
              obtain rfl : ad247 = ad248 := (by injection e248)
              replace p248 := eq_true p248
              replace q248 := eq_true q248
              go_wp2
              go_ret
              exact ⟨by first | rfl | (simp; done) | (simp [*]; done), by repeat (first | exact Drawn0.refl _ | apply Drawn0.step)⟩
            · rw [if_neg c6] at H
              have c6b0 : (((rd_T63 l0 x8_1).f0) == a1) = false := beq_eq_false_iff_ne.mpr c6
              have c6b1 : (((rd_T63 l0 x8_1).f0) != a1) = true := bne_iff_ne.mpr c6
              have H' := Aside0.mk H
              clear H
              have p247 : 0 ≤ (x8_1 : Int) := of_decide_eq_true (by first | (with_reducible assumption) | assumption)
              have q247 : x8_1 < (l0.length : Int) := of_decide_eq_true (by first | (with_reducible assumption) | assumption)
              obtain ⟨ad247, e247, hx247_0, hx247_1⟩ := at_T63 HR0.out x8_1 p247 q247
              cases e247
              replace p247 := eq_true p247
              replace q247 := eq_true q247
              go_wp2
              go_roundg k1
              case measure => have := HK1.out; omega
              case rel => exact ⟨(wrap64 (x8_1 + 1)), (by first | rfl | (simp; done) | (simp [*]; done)), H', ⟨by have := HK1.out; omega⟩, by repeat (first | exact Drawn0.refl _ | apply Drawn0.step)⟩
          · rw [if_neg c5] at H
            exact absurd H (by simp)
        · rw [if_neg c4] at H
          exact absurd H (by simp)
      · rw [if_neg c3] at H
        have c3b0 : decide (x8_1 < (l0.length : Int)) = false := decide_eq_false c3
        clear c3
        obtain rfl := Option.some.inj H
        go_wp2
        go_ret
        exact ⟨by first | rfl | (simp; done) | (simp [*]; done), by repeat (first | exact Drawn0.refl _ | apply Drawn0.step)⟩

end Go.Proofs.Ytgfilednbllkmaa.QFnExactStartTyping
