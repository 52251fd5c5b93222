-- written by a program of this session, on the lines of the kit's print
import Derived.Test.YtdanachjdfiegaaQFnTakenx0
import Derived.Test.YtdanachjdfiegaaQFnTakenx1
import Derived.Test.YtdanachjdfiegaaQFnTakenx7
import Derived.Shelf.Small.Strs
namespace Go.Proofs.Ytdanachjdfiegaa.QFnTaken
open Go.RowKit Go.Proofs.YtdanachjdfiegaaW.PrintWords Go.Proofs.YtdanachjdfiegaaW.PrintLast Go.Proofs.YtdanachjdfiegaaW.PrintMore
attribute [local go_sem] max2_int min2_int max_two min_two max_three min_three max_four min_four   -- for this text's walks alone
set_option linter.unusedVariables false
set_option linter.unusedSimpArgs false

attribute [local go_sem high] eqA97
/-! ### impl_clonePost: function 91 -/
abbrev impl_clonePost.T : Bool := true
abbrev impl_clonePost.F : Bool := false
theorem impl_clonePost.b1_ {P Q : Prop} (q : Q) (h : Q → P := by intro q_; (with_reducible repeat (first | refine blk_drewN ?_ _ | refine blk_drew ?_ | refine blk_alloc ?_ _)); exact q_) : P := h q
theorem impl_clonePost.y1_ {P Q : Prop} (q : Q) (h : Q → P := by intro q_; repeat (first | (with_reducible first | exact q_ | apply below_alloc | apply pw_below_drewN | apply below_drew1) | exact q_)) : P := h q
theorem impl_clonePost.b3_ {w w1 W : World} {g : Nat} {o : Obj} (q : Aside0 (w.heap[g]? = some o)) (hb : Below W.heap.size W w1) (h : w.heap[g]? = some o → W.heap[g]? = some o := by intro q_; (with_reducible repeat (first | refine blk_drewN ?_ _ | refine blk_drew ?_ | refine blk_alloc ?_ _)); exact q_) : Aside0 (w1.heap[g]? = some o) := ⟨blk_below (h q.out) hb⟩
theorem impl_clonePost.b4_ {w W : World} {g k : Nat} {o : Obj} (hg : k = W.heap.size) (q : Aside0 (w.heap[g]? = some o)) (h : w.heap[g]? = some o → W.heap[g]? = some o := by intro q_; (with_reducible repeat (first | refine blk_drewN ?_ _ | refine blk_drew ?_ | refine blk_alloc ?_ _)); exact q_) : Aside0 (g ≠ k) := ⟨by rw [hg]; exact Nat.ne_of_lt (blk_lt (h q.out))⟩
theorem impl_clonePost.b5_ {w W : World} {g k : Nat} {o : Obj} (hg : k = W.heap.size) (q : Aside0 (w.heap[g]? = some o)) (h : w.heap[g]? = some o → W.heap[g]? = some o := by intro q_; (with_reducible repeat (first | refine blk_drewN ?_ _ | refine blk_drew ?_ | refine blk_alloc ?_ _)); exact q_) : Aside0 (k ≠ g) := ⟨by rw [hg]; exact Nat.ne_of_gt (blk_lt (h q.out))⟩
theorem impl_clonePost.b6_ {w w' W : World} {k : Nat} (hg : k = W.heap.size) (q : Aside0 (Below w.heap.size w w')) (h : Below w.heap.size w w' → Below w.heap.size w W := by intro q_; repeat (first | (with_reducible first | exact q_ | apply below_alloc | apply pw_below_drewN | apply below_drew1) | exact q_)) : Aside0 (w.heap.size ≤ k) := ⟨by rw [hg]; exact below_size (h q.out)⟩
theorem impl_clonePost.bx_ {P : Program} {ops : Array Oper} {rest : List Oper} {o : Oper} {a : Act} {Q : Exit → Act → World → Prop} {W : World} (N : Tmp) (cs : Array Value) (t : TypeId) (h : ∀ g, g = W.heap.size → ∀ w1, w1.heap[g]? = some (.cells cs t (0, 0)) → Below W.heap.size W w1 → wpList P ops Q rest (a.put o.dst (.pointer (some ⟨g, 0, none⟩))) w1) (hgd : o.guard = none := by rfl) (hd : o.dst = some N := by rfl) (hrun : (execOp a.eval o).run P W = .ok (.value (.pointer (some ⟨W.heap.size, 0, none⟩))) (W.alloc (.cells cs t (0, 0))) := by first | (go_simp; done) | (go_simp; rfl)) : wpList P ops Q (o :: rest) a W := box_event hgd hd hrun h
theorem impl_clonePost.c1_ {w : World} {g : Nat} {t : TypeId} {cs : Array Value} (q : Aside0 (w.heap[g]? = some (.cells cs t (0, 0)))) (i : Nat) (v : Value) (h : cs[i]? = some v := by rfl) : w.cell? ⟨g, i, none⟩ = some v := (blk_cell q.out i).trans h
theorem impl_clonePost.f1_ {w : World} {g : Nat} {t : TypeId} {cs : Array Value} (q : Aside0 (w.heap[g]? = some (.cells cs t (0, 0)))) (i : Nat) : w.frozen? ⟨g, i, none⟩ = false := blk_frozen q.out i
def impl_clonePost.l0 : Nat → List (S58) → Int → Int → Int → List (S58) → Option (Int × (List (S58)))
  | 0, _, _, _, _, _ => none
  | k + 1, x10, x11, x12, x300000, x300001 => if x12 < x11 then (if 0 ≤ x12 then (if x12 < (x10.length : Int) then ((impl_Parcel_95.f ((rd_T58 x10 x12).f3)).bind fun t302 => (if x300001.length < 2513169434916 then (impl_clonePost.l0 k x10 x11 (wrap64 (x12 + 1)) x300000 (x300001 ++ [(⟨(rd_T58 x10 x12).f0, (rd_T58 x10 x12).f1, (rd_T58 x10 x12).f2, t302⟩ : S58)])) else (none))) else (none)) else (none)) else (some (x300000, x300001))
def impl_clonePost.f (k : Nat) (a0_0 : Int) (l0_1 : List (S58)) : Option (Int × (List (S58))) := impl_clonePost.l0 k l0_1 (l0_1.length : Int) 0 a0_0 ([] : List (S58))
theorem impl_clonePost.mono_l : ∀ k, (∀ y0 y1 y2 y3 y4, LeO (impl_clonePost.l0 k y0 y1 y2 y3 y4) (impl_clonePost.l0 (k + 1) y0 y1 y2 y3 y4))
  | 0 => fun _ _ _ _ _ r h => by simp [impl_clonePost.l0] at h
  | k + 1 => by
    have ih0 := impl_clonePost.mono_l k
    · intro y0 y1 y2 y3 y4
      unfold impl_clonePost.l0
      repeat' first
      | (with_reducible exact ih0 _ _ _ _ _)
      | (with_reducible exact LeO.refl _)
      | (with_reducible exact LeO.none _)
      | (with_reducible refine LeO.ite ?_ ?_)
      | (with_reducible refine LeO.bind ?_ (fun _ => ?_))
      | exact ih0 _ _ _ _ _
      | exact LeO.none _
      | refine LeO.ite ?_ ?_
      | refine LeO.bind ?_ (fun _ => ?_)
theorem impl_clonePost.mono : ∀ a0 a1 k, LeO (impl_clonePost.f k a0 a1) (impl_clonePost.f (k + 1) a0 a1) := by
  intro a0 a1 k
  have ih0 := impl_clonePost.mono_l k
  unfold impl_clonePost.f
  repeat' first
      | (with_reducible exact ih0 _ _ _ _ _)
      | (with_reducible exact LeO.refl _)
      | (with_reducible exact LeO.none _)
      | (with_reducible refine LeO.ite ?_ ?_)
      | (with_reducible refine LeO.bind ?_ (fun _ => ?_))
      | exact ih0 _ _ _ _ _
      | exact LeO.none _
      | refine LeO.ite ?_ ?_
      | refine LeO.bind ?_ (fun _ => ?_)
set_option maxHeartbeats 8000000 in
set_option maxRecDepth 100000 in
theorem impl_clonePost.calls (k : Nat) (a0_0 : Int) (A0_1 : Option Addr) (c0_1 : Nat) (l0_1 : List (S58)) (r1 : Int) (r2 : List (S58)) (w : World) (hr0_1 : Kd.C k58 w A0_1 l0_1.length l0_1) (hc0_1 : l0_1.length ≤ c0_1) (h : impl_clonePost.f k a0_0 l0_1 = some (r1, r2)) :
    Calls Try.prog 91 #[.agg #[.int .i64 a0_0, .slice A0_1 l0_1.length c0_1]] w fun e w' => ∃ v1_ : Value, e = .returned (.agg #[.int .i64 r1, v1_]) ∧ Kd.S k58 58 w' w.heap.size (fun _ => True) v1_ r2 ∧ Below w.heap.size w w' := by
 have hu54 := Try.underlying54
 have hu58 := Try.underlying58
 have HR0_1 := Aside0.mk hr0_1
 have HC0_1 := Aside0.mk hc0_1
 clear hr0_1 hc0_1
 have HB := Aside0.mk (Below.refl w.heap.size w)
 have H : (impl_clonePost.l0 k l0_1 (l0_1.length : Int) 0 a0_0 ([] : List (S58))) = some (r1, r2) := h
 clear h
 have H' := Aside0.mk H
 clear H
 go_enter Try.func91, Try.ntmps91
 go_wp2_with (first | ((with_reducible refine gate_dst (N := 1) rfl ?_); refine bx_ 1 #[.int .i64 a0_0, .slice A0_1 l0_1.length c0_1] 54 ?_; intro gb297 hg w2 hbox hb; have GW297 := b6_ hg HB; have GE297 := b6_ hg HB; replace HB := Aside0.mk (below_step (y1_ HB.out) hb); have BK297 := Aside0.mk (hbox); clear hb hbox hg) | ((with_reducible refine gate_dst (N := 2) rfl ?_); refine bx_ 2 #[.int .i64 0, .slice none 0 0] 54 ?_; intro gb298 hg w3 hbox hb; have GW298 := b6_ hg HB; have GE298 := b6_ hg HB; have NB297_298 := b4_ hg BK297; have NB298_297 := b5_ hg BK297; replace BK297 := b3_ BK297 hb; replace HB := Aside0.mk (below_step (y1_ HB.out) hb); have BK298 := Aside0.mk (hbox); clear hb hbox hg; have hnb4 := NB297_298.out; have hnc4 := NB298_297.out; have hcz5_0 := c1_ BK297 0 (.int .i64 a0_0); have hcz5_1 := c1_ BK297 1 (.slice A0_1 l0_1.length c0_1); have hfz5_0 := f1_ BK297 0; have hfz5_1 := f1_ BK297 1) | ((with_reducible refine gate_dst (N := 3) rfl ?_); refine bx_ 3 #[.int .i64 0, .slice none 0 0] 54 ?_; intro gb299 hg w6 hbox hb; have GW299 := b6_ hg HB; have GE299 := b6_ hg HB; have NB297_299 := b4_ hg BK297; have NB299_297 := b5_ hg BK297; have NB298_299 := b4_ hg BK298; have NB299_298 := b5_ hg BK298; replace BK297 := b3_ BK297 hb; replace BK298 := b3_ BK298 hb; replace HB := Aside0.mk (below_step (y1_ HB.out) hb); have BK299 := Aside0.mk (hbox); clear hb hbox hg; have hnb7 := NB299_297.out; have hnc7 := NB297_299.out; have hnb8 := NB299_298.out; have hnc8 := NB298_299.out; have hcz9_0 := c1_ BK299 0 (.int .i64 0); have hcz9_1 := c1_ BK299 1 (.slice none 0 0); have hfz9_0 := f1_ BK299 0; have hfz9_1 := f1_ BK299 1; have hcz10_0 := c1_ BK297 0 (.int .i64 a0_0); have hcz10_1 := c1_ BK297 1 (.slice A0_1 l0_1.length c0_1); have hfz10_0 := f1_ BK297 0; have hfz10_1 := f1_ BK297 1))
 go_loopg [12] k (fun kq v12 w' => ∃ (x12_1 : Int) (x300001_1 : List (S58)) (u300001 : Value), v12 = .int .i64 x12_1 ∧ Aside0 (impl_clonePost.l0 kq l0_1 (l0_1.length : Int) x12_1 a0_0 x300001_1 = some (r1, r2)) ∧ Aside0 (kq ≤ k) ∧ Aside0 (Kd.S k58 58 w' w.heap.size (fun _ => True) u300001 x300001_1) ∧ Aside0 (w'.heap[gb297]? = some (.cells #[.int .i64 a0_0, (.slice A0_1 l0_1.length c0_1)] 54 (0, 0))) ∧ Aside0 (w'.heap[gb298]? = some (.cells #[.int .i64 0, (.slice none 0 0)] 54 (0, 0))) ∧ Aside0 (w'.heap[gb299]? = some (.cells #[.int .i64 a0_0, u300001] 54 (0, 0))) ∧ Aside0 (Below w.heap.size w w'))
 case atStart => exact ⟨(0), (([] : List (S58))), (.slice none 0 0), (by first | rfl | (simp; done) | (simp [*]; done)), H', ⟨Nat.le_refl _⟩, ⟨by first | exact Kd.S_nil _ _ _ _ _ | exact Kd.N_nil _ _ _ _ _ | exact Kd.V_nil _ _ _ _ _ | exact Kd.Q_nil _ _ _ _ _ | exact Kd.R_nil _ _ _ _ _⟩, ⟨by (with_reducible repeat (first | refine blk_drewN ?_ _ | refine blk_drew ?_ | refine blk_alloc ?_ _)); refine blk_far ?_ NB297_299.out _; (with_reducible repeat (first | refine blk_drewN ?_ _ | refine blk_drew ?_ | refine blk_alloc ?_ _)); refine blk_far ?_ NB297_299.out _; (with_reducible repeat (first | refine blk_drewN ?_ _ | refine blk_drew ?_ | refine blk_alloc ?_ _)); exact BK297.out⟩, ⟨by (with_reducible repeat (first | refine blk_drewN ?_ _ | refine blk_drew ?_ | refine blk_alloc ?_ _)); refine blk_far ?_ NB298_299.out _; (with_reducible repeat (first | refine blk_drewN ?_ _ | refine blk_drew ?_ | refine blk_alloc ?_ _)); refine blk_far ?_ NB298_299.out _; (with_reducible repeat (first | refine blk_drewN ?_ _ | refine blk_drew ?_ | refine blk_alloc ?_ _)); exact BK298.out⟩, ⟨by (with_reducible repeat (first | refine blk_drewN ?_ _ | refine blk_drew ?_ | refine blk_alloc ?_ _)); refine blk_put (cs := #[.int .i64 a0_0, .slice none 0 0]) ?_ 1 _ rfl; (with_reducible repeat (first | refine blk_drewN ?_ _ | refine blk_drew ?_ | refine blk_alloc ?_ _)); refine blk_put (cs := #[.int .i64 0, .slice none 0 0]) ?_ 0 _ rfl; (with_reducible repeat (first | refine blk_drewN ?_ _ | refine blk_drew ?_ | refine blk_alloc ?_ _)); exact BK299.out⟩, ⟨by repeat (first | (with_reducible first | exact HB.out | apply below_alloc | apply pw_below_drewN | apply below_drew1 | refine below_set ?_ GE299.out) | exact HB.out)⟩⟩
 case round =>
  skip
  {
 clear H'
 try clear p2
 try clear c4
 try clear c7
 try clear c8
 try clear c9
 try clear hcz10_0
 try clear hcz10_1
 try clear hcz5_0
 try clear hcz5_1
 try clear hcz9_0
 try clear hcz9_1
 try clear hfz10_0
 try clear hfz10_1
 try clear hfz5_0
 try clear hfz5_1
 try clear hfz9_0
 try clear hfz9_1
 obtain ⟨x12_1, x300001_1, u300001, rfl, HA, HK1, HO_300001, BK297, BK298, BK299, HB⟩ := hrel
 cases gk with
 | zero => exact absurd HA.out (by simp [impl_clonePost.l0])
 | succ k1 =>
  skip
  {
 have H := HA.out
 clear HA
 simp only [impl_clonePost.l0] at H
 by_cases c11 : x12_1 < (l0_1.length : Int)
 {
 rw [if_pos c11] at H
 have c11b0 : decide (x12_1 < (l0_1.length : Int)) = true := decide_eq_true c11
 clear c11
 by_cases c12 : 0 ≤ x12_1
 {
 rw [if_pos c12] at H
 have c12b0 : decide (0 ≤ x12_1) = true := decide_eq_true c12
 clear c12
 by_cases c13 : x12_1 < (l0_1.length : Int)
 {
 rw [if_pos c13] at H
 have c13b0 : decide (x12_1 < (l0_1.length : Int)) = true := decide_eq_true c13
 clear c13
 replace H := Option.bind_eq_some_iff.mp H
 obtain ⟨t302, A140, H⟩ := H
 replace H : (if x300001_1.length < 2513169434916 then (impl_clonePost.l0 k1 l0_1 (l0_1.length : Int) (wrap64 (x12_1 + 1)) a0_0 (x300001_1 ++ [(⟨(rd_T58 l0_1 x12_1).f0, (rd_T58 l0_1 x12_1).f1, (rd_T58 l0_1 x12_1).f2, t302⟩ : S58)])) else (none)) = some (r1, r2) := H
 have A14 := Aside0.mk A140
 clear A140
 by_cases c15 : x300001_1.length < 2513169434916
 {
 rw [if_pos c15] at H
 have LMc15 := Aside0.mk c15
 clear c15
 obtain ⟨y305, hy305⟩ : ∃ y_ : List (S58), y_ = (x300001_1 ++ [(⟨(rd_T58 l0_1 x12_1).f0, (rd_T58 l0_1 x12_1).f1, (rd_T58 l0_1 x12_1).f2, t302⟩ : S58)]) := ⟨_, rfl⟩
 replace H : (impl_clonePost.l0 k1 l0_1 (l0_1.length : Int) (wrap64 (x12_1 + 1)) a0_0 y305) = some (r1, r2) := by first | (rw [hy305]; with_reducible exact H) | (have H2_ := (Option.bind_some _ _).symm.trans H; rw [hy305]; with_reducible exact H2_) | (have H2_ := (Option.bind_some _ _).symm.trans H; with_reducible exact H2_) | with_reducible exact H | (rw [hy305]; exact H) | exact H
 have Ny305 := Aside0.mk hy305
 clear hy305
 have H' := Aside0.mk H
 clear H
 have p300 : 0 ≤ (x12_1 : Int) := of_decide_eq_true (by first | (with_reducible assumption) | assumption)
 have q300 : x12_1 < (l0_1.length : Int) := of_decide_eq_true (by first | (with_reducible assumption) | assumption)
 obtain ⟨ad300, A300_3, c300_3, e300, hx300_0, hx300_1, hx300_2, hx300_3, hl300_3, hi300_3⟩ := at_T58 HR0_1.out x12_1 p300 q300
 cases e300
 replace hx300_0 := (HB.out.cell (World.block_lt_of_cell? w _ hx300_0)).trans hx300_0
 replace hx300_1 := (HB.out.cell (World.block_lt_of_cell? w _ hx300_1)).trans hx300_1
 replace hx300_2 := (HB.out.cell (World.block_lt_of_cell? w _ hx300_2)).trans hx300_2
 replace hx300_3 := (HB.out.cell (World.block_lt_of_cell? w _ hx300_3)).trans hx300_3
 have HR300_3 := Aside0.mk hi300_3
 have HC300_3 := Aside0.mk hl300_3
 clear hi300_3 hl300_3
 replace p300 := eq_true p300
 replace q300 := eq_true q300
 go_wp2_with (first | ((with_reducible refine gate_dst (N := 5) rfl ?_); refine bx_ 5 #[.string (⟨#[]⟩ : ByteArray), .int .i64 0, .int .i64 0, .slice none 0 0] 58 ?_; intro gb301 hg w16 hbox hb; have GW301 := b6_ hg HB; have GE301 := b6_ hg HB; have NB297_301 := b4_ hg BK297; have NB301_297 := b5_ hg BK297; have NB298_301 := b4_ hg BK298; have NB301_298 := b5_ hg BK298; have NB299_301 := b4_ hg BK299; have NB301_299 := b5_ hg BK299; replace HO_300001 := Aside0.mk (Kd.S_below (Kd.S_elderB (by (with_reducible repeat (first | apply Kd.S_alloc | apply Kd.S_drewN | apply Kd.S_drew)); exact HO_300001.out) gb301 (Nat.le_of_eq hg.symm)) hb); replace BK297 := b3_ BK297 hb; replace BK298 := b3_ BK298 hb; replace BK299 := b3_ BK299 hb; replace HB := Aside0.mk (below_step (y1_ HB.out) hb); have BK301 := Aside0.mk (hbox); clear hb hbox hg; have hnb17 := NB301_297.out; have hnc17 := NB297_301.out; have hnb18 := NB301_298.out; have hnc18 := NB298_301.out; have hnb19 := NB301_299.out; have hnc19 := NB299_301.out; have hcz20_0 := c1_ BK301 0 (.string (⟨#[]⟩ : ByteArray)); have hcz20_1 := c1_ BK301 1 (.int .i64 0); have hcz20_2 := c1_ BK301 2 (.int .i64 0); have hcz20_3 := c1_ BK301 3 (.slice none 0 0); have hfz20_0 := f1_ BK301 0; have hfz20_1 := f1_ BK301 1; have hfz20_2 := f1_ BK301 2; have hfz20_3 := f1_ BK301 3) | ((with_reducible refine gate_callee (f := 95) rfl ?_); refine goesL_ (some 18) rfl rfl Try.func95 (by kernel_rfl) rfl #[.slice A300_3 ((rd_T58 l0_1 x12_1).f3).length c300_3] rfl (by (try simp only [List.map_toArray, List.map_cons, List.map_nil]); first | done | rfl | (simp only [List.length_drop, List.length_take]; rfl)) ?_; (with_reducible refine (impl_Parcel_95.calls _ _ ((rd_T58 l0_1 x12_1).f3) t302 _ ?side1 ?side2 A14.out).mono ?_); (case side1 => exact Kd.C_below HR300_3.out (by repeat (first | (with_reducible first | exact HB.out | apply below_alloc | apply pw_below_drewN | apply below_drew1 | refine below_set ?_ GE301.out) | exact HB.out))); (case side2 => exact HC300_3.out); rintro e w21 ⟨v303, rfl, ho0, hb⟩; refine ⟨_, rfl, ?_⟩; replace HO_300001 := Aside0.mk (Kd.S_elder' (by (with_reducible repeat (first | apply Kd.S_alloc | apply Kd.S_drewN | apply Kd.S_drew)); exact (Kd.S_mono (Kd.S_far (p := ⟨gb301, 3, none⟩) (Kd.S_far (p := ⟨gb301, 2, none⟩) (Kd.S_far (p := ⟨gb301, 1, none⟩) (Kd.S_far (p := ⟨gb301, 0, none⟩) (Kd.S_mono HO_300001.out (fun k_ hk => (⟨hk, hk.2⟩ : _ ∧ k_ ≠ gb301))) (fun _ hk => hk.2) (.string ((rd_T58 l0_1 x12_1).f0))) (fun _ hk => hk.2) (.int .i64 ((rd_T58 l0_1 x12_1).f1))) (fun _ hk => hk.2) (.int .i64 ((rd_T58 l0_1 x12_1).f2))) (fun _ hk => hk.2) (.slice A300_3 ((rd_T58 l0_1 x12_1).f3).length c300_3)) (fun _ h_ => h_.1))) (Kd.R_base ho0) hb); have HO304 := Aside0.mk (Kd.R_lower ho0 (below_size (by repeat (first | (with_reducible first | exact HB.out | apply below_alloc | apply pw_below_drewN | apply below_drew1 | refine below_set ?_ GE301.out) | exact HB.out)))); replace BK297 := Aside0.mk (blk_below (g := gb297) (o := .cells #[.int .i64 a0_0, .slice (some ad300) l0_1.length c0_1] 54 (0, 0)) (by (with_reducible repeat (first | refine blk_drewN ?_ _ | refine blk_drew ?_ | refine blk_alloc ?_ _)); refine blk_far3 ?_ NB297_301.out; (with_reducible repeat (first | refine blk_drewN ?_ _ | refine blk_drew ?_ | refine blk_alloc ?_ _)); refine blk_far ?_ NB297_301.out _; (with_reducible repeat (first | refine blk_drewN ?_ _ | refine blk_drew ?_ | refine blk_alloc ?_ _)); exact BK297.out) hb); replace BK298 := Aside0.mk (blk_below (g := gb298) (o := .cells #[.int .i64 0, .slice none 0 0] 54 (0, 0)) (by (with_reducible repeat (first | refine blk_drewN ?_ _ | refine blk_drew ?_ | refine blk_alloc ?_ _)); refine blk_far3 ?_ NB298_301.out; (with_reducible repeat (first | refine blk_drewN ?_ _ | refine blk_drew ?_ | refine blk_alloc ?_ _)); refine blk_far ?_ NB298_301.out _; (with_reducible repeat (first | refine blk_drewN ?_ _ | refine blk_drew ?_ | refine blk_alloc ?_ _)); exact BK298.out) hb); replace BK299 := Aside0.mk (blk_below (g := gb299) (o := .cells #[.int .i64 a0_0, u300001] 54 (0, 0)) (by (with_reducible repeat (first | refine blk_drewN ?_ _ | refine blk_drew ?_ | refine blk_alloc ?_ _)); refine blk_far3 ?_ NB299_301.out; (with_reducible repeat (first | refine blk_drewN ?_ _ | refine blk_drew ?_ | refine blk_alloc ?_ _)); refine blk_far ?_ NB299_301.out _; (with_reducible repeat (first | refine blk_drewN ?_ _ | refine blk_drew ?_ | refine blk_alloc ?_ _)); exact BK299.out) hb); replace BK301 := Aside0.mk (blk_below (g := gb301) (o := .cells #[.string ((rd_T58 l0_1 x12_1).f0), .int .i64 ((rd_T58 l0_1 x12_1).f1), .int .i64 ((rd_T58 l0_1 x12_1).f2), .slice A300_3 ((rd_T58 l0_1 x12_1).f3).length c300_3] 58 (0, 0)) (by (with_reducible repeat (first | refine blk_drewN ?_ _ | refine blk_drew ?_ | refine blk_alloc ?_ _)); refine blk_put3 (cs := #[.string ((rd_T58 l0_1 x12_1).f0), .int .i64 0, .int .i64 0, .slice none 0 0]) ?_ rfl; (with_reducible repeat (first | refine blk_drewN ?_ _ | refine blk_drew ?_ | refine blk_alloc ?_ _)); refine blk_put (cs := #[.string (⟨#[]⟩ : ByteArray), .int .i64 0, .int .i64 0, .slice none 0 0]) ?_ 0 _ rfl; (with_reducible repeat (first | refine blk_drewN ?_ _ | refine blk_drew ?_ | refine blk_alloc ?_ _)); exact BK301.out) hb); replace HB := Aside0.mk (below_step (by repeat (first | (with_reducible first | exact HB.out | apply below_alloc | apply pw_below_drewN | apply below_drew1 | refine below_set ?_ GE301.out) | exact HB.out)) hb); (try clear hb); (try clear hb2); (try clear hk); (try clear hi); (try clear ho0); obtain ⟨Ao22, co22, eo22⟩ := Kd.R_slice HO304.out; subst eo22; have hcz23_0 := c1_ BK301 0 (.string ((rd_T58 l0_1 x12_1).f0)); have hcz23_1 := c1_ BK301 1 (.int .i64 ((rd_T58 l0_1 x12_1).f1)); have hcz23_2 := c1_ BK301 2 (.int .i64 ((rd_T58 l0_1 x12_1).f2)); have hcz23_3 := c1_ BK301 3 (.slice A300_3 ((rd_T58 l0_1 x12_1).f3).length c300_3); have hfz23_0 := f1_ BK301 0; have hfz23_1 := f1_ BK301 1; have hfz23_2 := f1_ BK301 2; have hfz23_3 := f1_ BK301 3) | ((with_reducible refine gate_store (t := 56) (p := 19) rfl ?_); refine store_event (t := 56) (p := 19) (v := ?vo_w24) (w1 := (w21.setCell ⟨gb301, 3, none⟩ (.slice Ao22 t302.length co22))) ?hg ?ho ?hn ?hr ?_; (case ho => rfl); (case hg => rfl); (case hn => rfl); (case hr => first | (go_simp; done) | (go_simp; rfl)); intro w24 hw; have n0_ : Aside0 (Kd.S k58 58 w24 w.heap.size (fun k_ => some k_ ≠ (.slice Ao22 t302.length co22 : Value).ownBlock ∧ k_ ≠ gb301) u300001 x300001_1) := ⟨(by rw [hw]; exact (by (with_reducible repeat (first | apply Kd.S_alloc | apply Kd.S_drewN | apply Kd.S_drew)); exact Kd.S_mono (Kd.S_far (p := ⟨gb301, 3, none⟩) (Kd.S_mono HO_300001.out (fun k_ hk => (⟨hk, hk.1.2⟩ : _ ∧ k_ ≠ gb301))) (fun _ hk => hk.2) (.slice Ao22 t302.length co22)) (fun _ hk => ⟨hk.1.2, hk.1.1.2⟩)))⟩; have n1_ : Aside0 (Kd.R k97 97 w24 w.heap.size (fun _ => True) (.slice Ao22 t302.length co22) t302) := ⟨(by rw [hw]; exact (by (with_reducible repeat (first | apply Kd.R_alloc | apply Kd.R_drewN | apply Kd.R_drew)); exact Kd.R_mono (Kd.R_far (p := ⟨gb301, 3, none⟩) (Kd.R_types HO304.out BK301.out (by decide)) (fun _ hk => hk.2) (.slice Ao22 t302.length co22)) (fun _ hk => trivial)))⟩; have n2_ : Aside0 (w24.heap[gb297]? = some (.cells #[.int .i64 a0_0, .slice (some ad300) l0_1.length c0_1] 54 (0, 0))) := ⟨(by rw [hw]; exact (by (with_reducible repeat (first | refine blk_drewN ?_ _ | refine blk_drew ?_ | refine blk_alloc ?_ _)); refine blk_far ?_ NB297_301.out _; (with_reducible repeat (first | refine blk_drewN ?_ _ | refine blk_drew ?_ | refine blk_alloc ?_ _)); exact BK297.out))⟩; have n3_ : Aside0 (w24.heap[gb298]? = some (.cells #[.int .i64 0, .slice none 0 0] 54 (0, 0))) := ⟨(by rw [hw]; exact (by (with_reducible repeat (first | refine blk_drewN ?_ _ | refine blk_drew ?_ | refine blk_alloc ?_ _)); refine blk_far ?_ NB298_301.out _; (with_reducible repeat (first | refine blk_drewN ?_ _ | refine blk_drew ?_ | refine blk_alloc ?_ _)); exact BK298.out))⟩; have n4_ : Aside0 (w24.heap[gb299]? = some (.cells #[.int .i64 a0_0, u300001] 54 (0, 0))) := ⟨(by rw [hw]; exact (by (with_reducible repeat (first | refine blk_drewN ?_ _ | refine blk_drew ?_ | refine blk_alloc ?_ _)); refine blk_far ?_ NB299_301.out _; (with_reducible repeat (first | refine blk_drewN ?_ _ | refine blk_drew ?_ | refine blk_alloc ?_ _)); exact BK299.out))⟩; have n5_ : Aside0 (w24.heap[gb301]? = some (.cells #[.string ((rd_T58 l0_1 x12_1).f0), .int .i64 ((rd_T58 l0_1 x12_1).f1), .int .i64 ((rd_T58 l0_1 x12_1).f2), .slice Ao22 t302.length co22] 58 (0, 0))) := ⟨(by rw [hw]; exact (by (with_reducible repeat (first | refine blk_drewN ?_ _ | refine blk_drew ?_ | refine blk_alloc ?_ _)); refine blk_put (cs := #[.string ((rd_T58 l0_1 x12_1).f0), .int .i64 ((rd_T58 l0_1 x12_1).f1), .int .i64 ((rd_T58 l0_1 x12_1).f2), .slice A300_3 ((rd_T58 l0_1 x12_1).f3).length c300_3]) ?_ 3 _ rfl; (with_reducible repeat (first | refine blk_drewN ?_ _ | refine blk_drew ?_ | refine blk_alloc ?_ _)); exact BK301.out))⟩; have n6_ : Aside0 (Below w.heap.size w w24) := ⟨(by rw [hw]; exact (by repeat (first | (with_reducible first | exact HB.out | apply below_alloc | apply pw_below_drewN | apply below_drew1 | refine below_set ?_ GE301.out) | exact HB.out)))⟩; clear hw; clear HO_300001; clear HO304; clear BK297; clear BK298; clear BK299; clear BK301; clear HB; have HO_300001 := n0_; have HO304 := n1_; have BK297 := n2_; have BK298 := n3_; have BK299 := n4_; have BK301 := n5_; have HB := n6_; clear n0_ n1_ n2_ n3_ n4_ n5_ n6_; have hnb25 := NB299_297.out; have hnc25 := NB297_299.out; have hnb26 := NB299_298.out; have hnc26 := NB298_299.out; have hcz27_0 := c1_ BK299 0 (.int .i64 a0_0); have hcz27_1 := c1_ BK299 1 (u300001); have hfz27_0 := f1_ BK299 0; have hfz27_1 := f1_ BK299 1; have hcz28_0 := c1_ BK301 0 (.string ((rd_T58 l0_1 x12_1).f0)); have hcz28_1 := c1_ BK301 1 (.int .i64 ((rd_T58 l0_1 x12_1).f1)); have hcz28_2 := c1_ BK301 2 (.int .i64 ((rd_T58 l0_1 x12_1).f2)); have hcz28_3 := c1_ BK301 3 (.slice Ao22 t302.length co22); have hfz28_0 := f1_ BK301 0; have hfz28_1 := f1_ BK301 1; have hfz28_2 := f1_ BK301 2; have hfz28_3 := f1_ BK301 3) | ((with_reducible refine gate_builtin (b := .append) (xs := #[.tmp 21, .tmp 23]) rfl ?_); at_builtin; refine Kd.S_append k58 (w0 := w) w.heap.size rfl (.tmp 21) (.tmp 23) 52 58 (.agg #[(.string ⟨#[]⟩), (.int .i64 0), (.int .i64 0), (.slice none 0 0)]) 56 rfl Try.underlying52 info58 rfl (by decide) (by omega) u300001 x300001_1 (⟨(rd_T58 l0_1 x12_1).f0, (rd_T58 l0_1 x12_1).f1, (rd_T58 l0_1 x12_1).f2, t302⟩ : S58) [.string ((rd_T58 l0_1 x12_1).f0), .int .i64 ((rd_T58 l0_1 x12_1).f1), .int .i64 ((rd_T58 l0_1 x12_1).f2), .slice Ao22 t302.length co22] (fun k_ => k_ ≠ gb301) (fun k_ => some k_ = (.slice Ao22 t302.length co22 : Value).ownBlock) rfl rfl ?aP (fun k_ hk_ => ((Kd.R_mono (ok' := fun k_ => ((fun k_ => k_ ≠ gb301)) k_ ∧ some k_ ≠ (u300001 : Value).ownBlock) (Kd.R_types (Kd.R_apart' (HO304.out) (Kd.S_typed HO_300001.out) (by decide)) BK301.out (by decide)) (fun k_ hk => ⟨hk.2, hk.1.2⟩))).1 k_ hk_.symm) ?aF ?aO ?aB ?aS ?aL ?_; (case aP => exact k58_mkM _ _ _ (⟨(rd_T58 l0_1 x12_1).f0, (rd_T58 l0_1 x12_1).f1, (rd_T58 l0_1 x12_1).f2, t302⟩ : S58) (Kd.R_mono (Kd.R_tight rfl (Kd.R_mono (ok' := fun k_ => ((fun k_ => k_ ≠ gb301)) k_ ∧ some k_ ≠ (u300001 : Value).ownBlock) (Kd.R_types (Kd.R_apart' (HO304.out) (Kd.S_typed HO_300001.out) (by decide)) BK301.out (by decide)) (fun k_ hk => ⟨hk.2, hk.1.2⟩))) (fun _ h_ => h_))); (case aB => exact (y1_ HB.out)); (case aF => exact (fun k_ hk => Kd.freshB (g := gb301) (o := .cells #[.string ((rd_T58 l0_1 x12_1).f0), .int .i64 ((rd_T58 l0_1 x12_1).f1), .int .i64 ((rd_T58 l0_1 x12_1).f2), .slice Ao22 t302.length co22] 58 (0, 0)) (b1_ BK301.out) k_ hk)); (case aO => exact (by (with_reducible repeat (first | apply Kd.S_alloc | apply Kd.S_drewN | apply Kd.S_drew)); exact Kd.S_mono HO_300001.out (fun k_ hk => ⟨hk.2, fun e_ => hk.1 e_⟩))); (case aS => exact (below_size (y1_ HB.out))); (case aL => have := LMc15.out; omega); intro v306 w29 ho hb hg hat; rw [← Ny305.out] at ho; replace BK297 := Aside0.mk (blk_grown (g := gb297) (o := .cells #[.int .i64 a0_0, .slice (some ad300) l0_1.length c0_1] 54 (0, 0)) (b1_ BK297.out) hg (Kd.S_ne HO_300001.out BK297.out (by decide))); replace BK298 := Aside0.mk (blk_grown (g := gb298) (o := .cells #[.int .i64 0, .slice none 0 0] 54 (0, 0)) (b1_ BK298.out) hg (Kd.S_ne HO_300001.out BK298.out (by decide))); replace BK299 := Aside0.mk (blk_grown (g := gb299) (o := .cells #[.int .i64 a0_0, u300001] 54 (0, 0)) (b1_ BK299.out) hg (Kd.S_ne HO_300001.out BK299.out (by decide))); replace BK301 := Aside0.mk (blk_grown (g := gb301) (o := .cells #[.string ((rd_T58 l0_1 x12_1).f0), .int .i64 ((rd_T58 l0_1 x12_1).f1), .int .i64 ((rd_T58 l0_1 x12_1).f2), .slice Ao22 t302.length co22] 58 (0, 0)) (b1_ BK301.out) hg (Kd.S_away HO_300001.out (fun _ hk => hk.2))); replace HB := Aside0.mk (hb); have HO307 := Aside0.mk (ho); clear HO_300001; clear HO304; clear ho hb hg hat; obtain ⟨Ao30, co30, eo30⟩ := Kd.S_slice HO307.out; subst eo30; have hcz31_0 := c1_ BK299 0 (.int .i64 a0_0); have hcz31_1 := c1_ BK299 1 (u300001); have hfz31_0 := f1_ BK299 0; have hfz31_1 := f1_ BK299 1))
 go_roundg k1
 case measure => have := HK1.out; omega
 case rel => exact ⟨(wrap64 (x12_1 + 1)), (y305), (.slice Ao30 y305.length co30), (by first | rfl | (simp; done) | (simp [*]; done)), H', ⟨by have := HK1.out; omega⟩, ⟨by (with_reducible repeat (first | apply Kd.S_alloc | apply Kd.S_drewN | apply Kd.S_drew)); exact Kd.S_mono (Kd.S_far (p := ⟨gb299, 1, none⟩) (Kd.S_types HO307.out BK299.out (by decide)) (fun _ hk => hk.2) (.slice Ao30 y305.length co30)) (fun _ hk => trivial)⟩, ⟨by (with_reducible repeat (first | refine blk_drewN ?_ _ | refine blk_drew ?_ | refine blk_alloc ?_ _)); refine blk_far ?_ NB297_299.out _; (with_reducible repeat (first | refine blk_drewN ?_ _ | refine blk_drew ?_ | refine blk_alloc ?_ _)); exact BK297.out⟩, ⟨by (with_reducible repeat (first | refine blk_drewN ?_ _ | refine blk_drew ?_ | refine blk_alloc ?_ _)); refine blk_far ?_ NB298_299.out _; (with_reducible repeat (first | refine blk_drewN ?_ _ | refine blk_drew ?_ | refine blk_alloc ?_ _)); exact BK298.out⟩, ⟨by (with_reducible repeat (first | refine blk_drewN ?_ _ | refine blk_drew ?_ | refine blk_alloc ?_ _)); refine blk_put (cs := #[.int .i64 a0_0, u300001]) ?_ 1 _ rfl; (with_reducible repeat (first | refine blk_drewN ?_ _ | refine blk_drew ?_ | refine blk_alloc ?_ _)); exact BK299.out⟩, ⟨by repeat (first | (with_reducible first | exact HB.out | apply below_alloc | apply pw_below_drewN | apply below_drew1 | refine below_set ?_ GE299.out) | exact HB.out)⟩⟩}
 {
 rw [if_neg c15] at H
 exact absurd H (by simp)}}
 {
 rw [if_neg c13] at H
 exact absurd H (by simp)}}
 {
 rw [if_neg c12] at H
 exact absurd H (by simp)}}
 {
 rw [if_neg c11] at H
 have c11b0 : decide (x12_1 < (l0_1.length : Int)) = false := decide_eq_false c11
 clear c11
 simp only [Option.some.injEq, Prod.mk.injEq] at H
 obtain ⟨rfl, rfl⟩ := H
 have hnb32 := NB299_297.out
 have hnc32 := NB297_299.out
 have hnb33 := NB299_298.out
 have hnc33 := NB298_299.out
 have hcz34_0 := c1_ BK299 0 (.int .i64 a0_0)
 have hcz34_1 := c1_ BK299 1 (u300001)
 have hfz34_0 := f1_ BK299 0
 have hfz34_1 := f1_ BK299 1
 have hnb35 := NB298_297.out
 have hnc35 := NB297_298.out
 have hcz36_0 := c1_ BK298 0 (.int .i64 0)
 have hcz36_1 := c1_ BK298 1 (.slice none 0 0)
 have hfz36_0 := f1_ BK298 0
 have hfz36_1 := f1_ BK298 1
 obtain ⟨Ao37, co37, eo37⟩ := Kd.S_slice HO_300001.out
 subst eo37
 go_wp2
 refine bodyPost_ret (results_cell_row rfl _ _ gb298 54 #[.int .i64 a0_0, .slice Ao37 x300001_1.length co37] (0, 0) _ rfl (by (with_reducible repeat (first | refine blk_drewN ?_ _ | refine blk_drew ?_ | refine blk_alloc ?_ _)); refine blk_put (cs := #[.int .i64 a0_0, .slice none 0 0]) ?_ 1 _ rfl; (with_reducible repeat (first | refine blk_drewN ?_ _ | refine blk_drew ?_ | refine blk_alloc ?_ _)); refine blk_put (cs := #[.int .i64 0, .slice none 0 0]) ?_ 0 _ rfl; (with_reducible repeat (first | refine blk_drewN ?_ _ | refine blk_drew ?_ | refine blk_alloc ?_ _)); exact BK298.out) Try.underlying54 rfl (by kernel_rfl)) rfl ?_
 exact ⟨_, by first | rfl | (simp [errW_none, errW_some] <;> rfl) | (simp [*, errW_none, errW_some] <;> rfl), by (with_reducible repeat (first | apply Kd.S_alloc | apply Kd.S_drewN | apply Kd.S_drew)); exact Kd.S_mono (Kd.S_far (p := ⟨gb298, 1, none⟩) (Kd.S_far (p := ⟨gb298, 0, none⟩) (Kd.S_types HO_300001.out BK298.out (by decide)) (fun _ hk => hk.2) (.int .i64 a0_0)) (fun _ hk => hk.2) (.slice Ao37 x300001_1.length co37)) (fun _ hk => trivial), by repeat (first | (with_reducible first | exact HB.out | apply below_alloc | apply pw_below_drewN | apply below_drew1 | refine below_set ?_ GE298.out) | exact HB.out)⟩}}}



/-! ### strings_Compare_n94: function 94 -/
section
open Go.Shelf
def strings_Compare_n94.lays_ren : Go.Shelf.Ren := ⟨fun | 106 => 94 | 213 => 103 | 265 => 107 | n => n, fun | 9 => 9 | 3 => 3 | n => n, fun | n => n⟩
theorem strings_Compare_n94.lays : Go.Proofs.Lays.n106 Try.prog strings_Compare_n94.lays_ren := {
  mixed := by kernel_rfl
  f106 := Try.func94.trans (congrArg some (by kernel_rfl))
  f213 := Try.func103.trans (congrArg some (by kernel_rfl))
  f265 := Try.func107.trans (congrArg some (by kernel_rfl))
  t3 := Try.underlying3
  a3 := Try.isAgg3
  z3 := Try.sizeOf3
  v3 := Try.zeroValue3
  t9 := Try.underlying9
  a9 := Try.isAgg9
  z9 := Try.sizeOf9
  v9 := Try.zeroValue9 }
end
/-- strings.Compare of two strings. -/
def strings_Compare_n94.f (a0 : ByteArray) (a1 : ByteArray) : Option Int := some (Lib.compareBytes a0.data.toList a1.data.toList)
theorem strings_Compare_n94.calls (a0 : ByteArray) (a1 : ByteArray) (r : Int) (w : World) (h : strings_Compare_n94.f a0 a1 = some r) :
    Calls Try.prog 94 #[.string a0, .string a1] w fun e w' => e = .returned (.int .i64 r) ∧ w' = w := by
  cases h
  have c : Calls Try.prog 94 #[.string a0, .string a1] w fun e w' => e = .returned (.int .i64 (Lib.compareBytes a0.data.toList a1.data.toList)) ∧ w' = w := Any.strings_Compare strings_Compare_n94.lays a0 a1 w
  exact c

/-! ### impl_Post_at_1_n93: function 93 -/
def impl_Post_at_1_n93.f (a0_0 : ByteArray) (a0_1 : Int) (a0_2 : Int) (l0_3 : List (S97)) (a1 : ByteArray) : Option (Int) := (strings_Compare_n94.f a0_0 a1).bind fun t333 => (some t333)
set_option maxHeartbeats 8000000 in
set_option maxRecDepth 100000 in
theorem impl_Post_at_1_n93.calls (a0_0 : ByteArray) (a0_1 : Int) (a0_2 : Int) (A0_3 : Option Addr) (c0_3 : Nat) (l0_3 : List (S97)) (a1 : ByteArray) (r : Int) (w : World) (hr0_3 : Kd.C k97 w A0_3 l0_3.length l0_3) (hc0_3 : l0_3.length ≤ c0_3) (h : impl_Post_at_1_n93.f a0_0 a0_1 a0_2 l0_3 a1 = some r) :
    Calls Try.prog 93 #[.agg #[.string a0_0, .int .i64 a0_1, .int .i64 a0_2, .slice A0_3 l0_3.length c0_3], .string a1] w fun e w' => e = .returned (.int .i64 r) ∧ Below w.heap.size w w' := by
  have hu58 := Try.underlying58
  have HR0_3 := Aside0.mk hr0_3
  have HC0_3 := Aside0.mk hc0_3
  clear hr0_3 hc0_3
  have HB := Aside0.mk (Below.refl w.heap.size w)
  have H : ((strings_Compare_n94.f a0_0 a1).bind fun t333 => (some t333)) = some r := h
  clear h
  replace H := Option.bind_eq_some_iff.mp H
  obtain ⟨t333, A30, H⟩ := H
  replace H : (some t333) = some r := H
  have A3 := Aside0.mk A30
  clear A30
  obtain rfl := Option.some.inj H
  go_enter Try.func93, Try.ntmps93
  go_wp2_with (first | ((with_reducible refine gate_dst (N := 2) rfl ?_); refine box_event ?hg (N := 2) ?hd (cs := #[.string a0_0, .int .i64 a0_1, .int .i64 a0_2, .slice A0_3 l0_3.length c0_3]) (t := 58) ?hr ?_; (case hd => rfl); (case hg => rfl); (case hr => first | (go_simp; done) | (go_simp; rfl)); intro gb332 hg w4 hbox hb; have GW332 := Aside0.mk ((by rw [hg]; exact (below_size (by repeat (first | (with_reducible first | exact HB.out | apply below_alloc | apply pw_below_drewN | apply below_drew1) | exact HB.out))) : w.heap.size ≤ gb332)); have GE332 := Aside0.mk ((by rw [hg]; exact (below_size (by repeat (first | (with_reducible first | exact HB.out | apply below_alloc | apply pw_below_drewN | apply below_drew1) | exact HB.out))) : w.heap.size ≤ gb332)); replace HB := Aside0.mk (below_step (by repeat (first | (with_reducible first | exact HB.out | apply below_alloc | apply pw_below_drewN | apply below_drew1) | exact HB.out)) hb); have BK332 := Aside0.mk (hbox); clear hb hbox hg; have hcz5_0 : w4.cell? ⟨gb332, 0, none⟩ = some (.string a0_0) := (blk_cell BK332.out 0).trans rfl; have hcz5_1 : w4.cell? ⟨gb332, 1, none⟩ = some (.int .i64 a0_1) := (blk_cell BK332.out 1).trans rfl; have hcz5_2 : w4.cell? ⟨gb332, 2, none⟩ = some (.int .i64 a0_2) := (blk_cell BK332.out 2).trans rfl; have hcz5_3 : w4.cell? ⟨gb332, 3, none⟩ = some (.slice A0_3 l0_3.length c0_3) := (blk_cell BK332.out 3).trans rfl; have hfz5_0 := blk_frozen BK332.out 0; have hfz5_1 := blk_frozen BK332.out 1; have hfz5_2 := blk_frozen BK332.out 2; have hfz5_3 := blk_frozen BK332.out 3) | ((with_reducible refine gate_callee (f := 94) rfl ?_); refine goesL_ (some 8) rfl rfl Try.func94 (by kernel_rfl) rfl #[.string a0_0, .string a1] rfl (by (try simp only [List.map_toArray, List.map_cons, List.map_nil]); first | done | rfl | (simp only [List.length_drop, List.length_take]; rfl)) ?_; (with_reducible refine (strings_Compare_n94.calls a0_0 a1 t333 _ A3.out).mono ?_); rintro e w' ⟨rfl, ⟨nd, rfl⟩⟩; refine ⟨_, rfl, ?_⟩))
  go_ret
  exact ⟨by first | rfl | (simp [errW_none, errW_some] <;> rfl) | (simp [*, errW_none, errW_some] <;> rfl), by repeat (first | (with_reducible first | exact HB.out | apply below_alloc | apply pw_below_drewN | apply below_drew1) | exact HB.out)⟩

/-! ### impl_Box_string_v2: function 92 -/
abbrev impl_Box_string_v2.T : Bool := true
abbrev impl_Box_string_v2.F : Bool := false
theorem impl_Box_string_v2.s1_ {P : Prop} (h : P := by first | rfl | (simp; done) | (simp [*]; done)) : P := h
theorem impl_Box_string_v2.y1_ {P Q : Prop} (q : Q) (h : Q → P := by intro q_; repeat (first | (with_reducible first | exact q_ | apply below_alloc | apply pw_below_drewN | apply below_drew1) | exact q_)) : P := h q
theorem impl_Box_string_v2.y2_ {P Q : Prop} (q : Q) (h : Q → P := by intro q_; repeat (first | exact q_ | (with_reducible refine Kd.C_alloc ?_ _) | (with_reducible refine Kd.C_drewN ?_ _) | (with_reducible refine Kd.C_drew ?_))) : P := h q
def impl_Box_string_v2.l0 : Nat → List (S58) → ByteArray → Int → Int → Int → Option (Int × Bool)
  | 0, _, _, _, _, _ => none
  | k + 1, x0, x1, x8, x9, x10 => if x9 < x10 then (if 0 ≤ (wrap64 ((IntKind.u64.wrap (wrap64 (x9 + x10))) / 2)) then (if (wrap64 ((IntKind.u64.wrap (wrap64 (x9 + x10))) / 2)) < (x0.length : Int) then ((impl_Post_at_1_n93.f ((rd_T58 x0 (wrap64 ((IntKind.u64.wrap (wrap64 (x9 + x10))) / 2))).f0) ((rd_T58 x0 (wrap64 ((IntKind.u64.wrap (wrap64 (x9 + x10))) / 2))).f1) ((rd_T58 x0 (wrap64 ((IntKind.u64.wrap (wrap64 (x9 + x10))) / 2))).f2) ((rd_T58 x0 (wrap64 ((IntKind.u64.wrap (wrap64 (x9 + x10))) / 2))).f3) x1).bind fun t335 => (if t335 < 0 then (impl_Box_string_v2.l0 k x0 x1 x8 (wrap64 ((wrap64 ((IntKind.u64.wrap (wrap64 (x9 + x10))) / 2)) + 1)) x10) else (impl_Box_string_v2.l0 k x0 x1 x8 x9 (wrap64 ((IntKind.u64.wrap (wrap64 (x9 + x10))) / 2))))) else (none)) else (none)) else (if x9 < x8 then (if 0 ≤ x9 then (if x9 < (x0.length : Int) then ((impl_Post_at_1_n93.f ((rd_T58 x0 x9).f0) ((rd_T58 x0 x9).f1) ((rd_T58 x0 x9).f2) ((rd_T58 x0 x9).f3) x1).bind fun t337 => (some (x9, (t337 == 0)))) else (none)) else (none)) else (some (x9, false)))
def impl_Box_string_v2.f (k : Nat) (l0 : List (S58)) (a1 : ByteArray)  : Option (Int × Bool) := impl_Box_string_v2.l0 k l0 a1 (l0.length : Int) 0 (l0.length : Int)
theorem impl_Box_string_v2.mono_l : ∀ k, (∀ y0 y1 y2 y3 y4, LeO (impl_Box_string_v2.l0 k y0 y1 y2 y3 y4) (impl_Box_string_v2.l0 (k + 1) y0 y1 y2 y3 y4))
  | 0 => fun _ _ _ _ _ r h => by simp [impl_Box_string_v2.l0] at h
  | k + 1 => by
    have ih0 := impl_Box_string_v2.mono_l k
    · intro y0 y1 y2 y3 y4
      unfold impl_Box_string_v2.l0
      repeat' first
      | (with_reducible exact ih0 _ _ _ _ _)
      | (with_reducible exact LeO.refl _)
      | (with_reducible exact LeO.none _)
      | (with_reducible refine LeO.ite ?_ ?_)
      | (with_reducible refine LeO.bind ?_ (fun _ => ?_))
      | exact ih0 _ _ _ _ _
      | exact LeO.none _
      | refine LeO.ite ?_ ?_
      | refine LeO.bind ?_ (fun _ => ?_)
theorem impl_Box_string_v2.mono : ∀ a0 a1 k, LeO (impl_Box_string_v2.f k a0 a1) (impl_Box_string_v2.f (k + 1) a0 a1) := by
  intro a0 a1 k
  have ih0 := impl_Box_string_v2.mono_l k
  unfold impl_Box_string_v2.f
  repeat' first
      | (with_reducible exact ih0 _ _ _ _ _)
      | (with_reducible exact LeO.refl _)
      | (with_reducible exact LeO.none _)
      | (with_reducible refine LeO.ite ?_ ?_)
      | (with_reducible refine LeO.bind ?_ (fun _ => ?_))
      | exact ih0 _ _ _ _ _
      | exact LeO.none _
      | refine LeO.ite ?_ ?_
      | refine LeO.bind ?_ (fun _ => ?_)
set_option maxHeartbeats 8000000 in
set_option maxRecDepth 100000 in
theorem impl_Box_string_v2.calls (k : Nat) (A0 : Option Addr) (c0 : Nat) (l0 : List (S58)) (a1 : ByteArray)  (r1 : Int) (r2 : Bool) (w : World) (hr0 : Kd.C k58 w A0 l0.length l0) (hc0 : l0.length ≤ c0) (h : impl_Box_string_v2.f k l0 a1 = some (r1, r2)) :
    Calls Try.prog 92 #[.slice A0 l0.length c0, .string a1, .func (.func 93) #[] #[]] w fun e w' => e = .returned (.tuple #[.int .i64 r1, .bool r2]) ∧ Below w.heap.size w w' := by
 have hu58 := Try.underlying58
 have HR0 := Aside0.mk hr0
 have HC0 := Aside0.mk hc0
 clear hr0 hc0
 have HB := Aside0.mk (Below.refl w.heap.size w)
 have H : (impl_Box_string_v2.l0 k l0 a1 (l0.length : Int) 0 (l0.length : Int)) = some (r1, r2) := h
 clear h
 have H' := Aside0.mk H
 clear H
 go_enter Try.func92, Try.ntmps92
 go_wp2
 go_loopg [9, 10] k (fun kq v9 v10 w' => ∃ (x9_1 : Int) (x10_1 : Int), v9 = .int .i64 x9_1 ∧ v10 = .int .i64 x10_1 ∧ Aside0 (impl_Box_string_v2.l0 kq l0 a1 (l0.length : Int) x9_1 x10_1 = some (r1, r2)) ∧ Aside0 (kq ≤ k) ∧ Aside0 (Below w.heap.size w w'))
 case atStart => exact ⟨(0), ((l0.length : Int)), s1_, s1_, H', ⟨Nat.le_refl _⟩, ⟨by repeat (first | (with_reducible first | exact HB.out | apply below_alloc | apply pw_below_drewN | apply below_drew1) | exact HB.out)⟩⟩
 case round =>
  skip
  {
 clear H'
 try clear p2
 obtain ⟨x9_1, x10_1, rfl, rfl, HA, HK1, HB⟩ := hrel
 cases gk with
 | zero => exact absurd HA.out (by simp [impl_Box_string_v2.l0])
 | succ k1 =>
  skip
  {
 have H := HA.out
 clear HA
 simp only [impl_Box_string_v2.l0] at H
 by_cases c4 : x9_1 < x10_1
 {
 rw [if_pos c4] at H
 have c4b0 : decide (x9_1 < x10_1) = true := decide_eq_true c4
 clear c4
 obtain ⟨ji5, hji5⟩ : ∃ j_ : Int, (wrap64 ((IntKind.u64.wrap (wrap64 (x9_1 + x10_1))) / 2)) = j_ := ⟨_, rfl⟩
 replace H : (if 0 ≤ (ji5) then (if (ji5) < (l0.length : Int) then ((impl_Post_at_1_n93.f ((rd_T58 l0 (ji5)).f0) ((rd_T58 l0 (ji5)).f1) ((rd_T58 l0 (ji5)).f2) ((rd_T58 l0 (ji5)).f3) a1).bind fun t335 => (if t335 < 0 then (impl_Box_string_v2.l0 k1 l0 a1 (l0.length : Int) (wrap64 ((ji5) + 1)) x10_1) else (impl_Box_string_v2.l0 k1 l0 a1 (l0.length : Int) x9_1 ji5))) else (none)) else (none)) = some (r1, r2) := by first | (rw [hji5] at H; exact H) | (simp only [hji5] at H ⊢; exact H)
 have hji5w : (IntKind.i64.wrap ((IntKind.u64.wrap (wrap64 (x9_1 + x10_1))) / 2)) = ji5 := (i64_w _).trans hji5
 by_cases c6 : 0 ≤ (ji5)
 {
 rw [if_pos c6] at H
 have c6b0 : decide (0 ≤ (ji5)) = true := decide_eq_true c6
 clear c6
 by_cases c7 : (ji5) < (l0.length : Int)
 {
 rw [if_pos c7] at H
 have c7b0 : decide ((ji5) < (l0.length : Int)) = true := decide_eq_true c7
 clear c7
 replace H := Option.bind_eq_some_iff.mp H
 obtain ⟨t335, A80, H⟩ := H
 replace H : (if t335 < 0 then (impl_Box_string_v2.l0 k1 l0 a1 (l0.length : Int) (wrap64 ((ji5) + 1)) x10_1) else (impl_Box_string_v2.l0 k1 l0 a1 (l0.length : Int) x9_1 ji5)) = some (r1, r2) := H
 have A8 := Aside0.mk A80
 clear A80
 by_cases c9 : t335 < 0
 {
 rw [if_pos c9] at H
 have c9b0 : decide (t335 < 0) = true := decide_eq_true c9
 clear c9
 have H' := Aside0.mk H
 clear H
 have p334 : 0 ≤ ((ji5) : Int) := of_decide_eq_true (by first | (with_reducible assumption) | assumption)
 have q334 : (ji5) < (l0.length : Int) := of_decide_eq_true (by first | (with_reducible assumption) | assumption)
 obtain ⟨ad334, A334_3, c334_3, e334, hx334_0, hx334_1, hx334_2, hx334_3, hl334_3, hi334_3⟩ := at_T58 HR0.out (ji5) p334 q334
 cases e334
 replace hx334_0 := (HB.out.cell (World.block_lt_of_cell? w _ hx334_0)).trans hx334_0
 replace hx334_1 := (HB.out.cell (World.block_lt_of_cell? w _ hx334_1)).trans hx334_1
 replace hx334_2 := (HB.out.cell (World.block_lt_of_cell? w _ hx334_2)).trans hx334_2
 replace hx334_3 := (HB.out.cell (World.block_lt_of_cell? w _ hx334_3)).trans hx334_3
 have HR334_3 := Aside0.mk hi334_3
 have HC334_3 := Aside0.mk hl334_3
 clear hi334_3 hl334_3
 replace p334 := eq_true p334
 replace q334 := eq_true q334
 go_wp2_with (first | (go_at_call 93; (with_reducible refine (impl_Post_at_1_n93.calls ((rd_T58 l0 (ji5)).f0) ((rd_T58 l0 (ji5)).f1) ((rd_T58 l0 (ji5)).f2) _ _ ((rd_T58 l0 (ji5)).f3) a1 t335 _ ?side1 ?side2 A8.out).mono ?_); (case side1 => exact y2_ (Kd.C_below HR334_3.out HB.out)); (case side2 => exact HC334_3.out); rintro e w10 ⟨rfl, hb⟩; replace HB := Aside0.mk (below_step (y1_ HB.out) hb); (try clear hb); (try clear hb2); (try clear hk); (try clear hi)))
 go_roundg k1
 case measure => have := HK1.out; omega
 case rel => exact ⟨(wrap64 ((ji5) + 1)), (x10_1), (by first | rfl | (simp; done) | (simp only [← hji5] <;> (first | rfl | simp)) | (simp [*]; done)), s1_, H', ⟨by have := HK1.out; omega⟩, ⟨by repeat (first | (with_reducible first | exact HB.out | apply below_alloc | apply pw_below_drewN | apply below_drew1) | exact HB.out)⟩⟩}
 {
 rw [if_neg c9] at H
 have c9b0 : decide (t335 < 0) = false := decide_eq_false c9
 clear c9
 have H' := Aside0.mk H
 clear H
 have p334 : 0 ≤ ((ji5) : Int) := of_decide_eq_true (by first | (with_reducible assumption) | assumption)
 have q334 : (ji5) < (l0.length : Int) := of_decide_eq_true (by first | (with_reducible assumption) | assumption)
 obtain ⟨ad334, A334_3, c334_3, e334, hx334_0, hx334_1, hx334_2, hx334_3, hl334_3, hi334_3⟩ := at_T58 HR0.out (ji5) p334 q334
 cases e334
 replace hx334_0 := (HB.out.cell (World.block_lt_of_cell? w _ hx334_0)).trans hx334_0
 replace hx334_1 := (HB.out.cell (World.block_lt_of_cell? w _ hx334_1)).trans hx334_1
 replace hx334_2 := (HB.out.cell (World.block_lt_of_cell? w _ hx334_2)).trans hx334_2
 replace hx334_3 := (HB.out.cell (World.block_lt_of_cell? w _ hx334_3)).trans hx334_3
 have HR334_3 := Aside0.mk hi334_3
 have HC334_3 := Aside0.mk hl334_3
 clear hi334_3 hl334_3
 replace p334 := eq_true p334
 replace q334 := eq_true q334
 go_wp2_with (first | (go_at_call 93; (with_reducible refine (impl_Post_at_1_n93.calls ((rd_T58 l0 (ji5)).f0) ((rd_T58 l0 (ji5)).f1) ((rd_T58 l0 (ji5)).f2) _ _ ((rd_T58 l0 (ji5)).f3) a1 t335 _ ?side1 ?side2 A8.out).mono ?_); (case side1 => exact y2_ (Kd.C_below HR334_3.out HB.out)); (case side2 => exact HC334_3.out); rintro e w11 ⟨rfl, hb⟩; replace HB := Aside0.mk (below_step (y1_ HB.out) hb); (try clear hb); (try clear hb2); (try clear hk); (try clear hi)))
 go_roundg k1
 case measure => have := HK1.out; omega
 case rel => exact ⟨(x9_1), (ji5), s1_, (by first | rfl | (simp; done) | (simp only [← hji5] <;> (first | rfl | simp)) | (simp [*]; done)), H', ⟨by have := HK1.out; omega⟩, ⟨by repeat (first | (with_reducible first | exact HB.out | apply below_alloc | apply pw_below_drewN | apply below_drew1) | exact HB.out)⟩⟩}}
 {
 rw [if_neg c7] at H
 exact absurd H (by simp)}}
 {
 rw [if_neg c6] at H
 exact absurd H (by simp)}}
 {
 rw [if_neg c4] at H
 have c4b0 : decide (x9_1 < x10_1) = false := decide_eq_false c4
 clear c4
 by_cases c12 : x9_1 < (l0.length : Int)
 {
 rw [if_pos c12] at H
 have c12b0 : decide (x9_1 < (l0.length : Int)) = true := decide_eq_true c12
 clear c12
 by_cases c13 : 0 ≤ x9_1
 {
 rw [if_pos c13] at H
 have c13b0 : decide (0 ≤ x9_1) = true := decide_eq_true c13
 clear c13
 by_cases c14 : x9_1 < (l0.length : Int)
 {
 rw [if_pos c14] at H
 have c14b0 : decide (x9_1 < (l0.length : Int)) = true := decide_eq_true c14
 clear c14
 replace H := Option.bind_eq_some_iff.mp H
 obtain ⟨t337, A150, H⟩ := H
 replace H : (some (x9_1, (t337 == 0))) = some (r1, r2) := H
 have A15 := Aside0.mk A150
 clear A150
 simp only [Option.some.injEq, Prod.mk.injEq] at H
 obtain ⟨rfl, rfl⟩ := H
 have p336 : 0 ≤ (x9_1 : Int) := of_decide_eq_true (by first | (with_reducible assumption) | assumption)
 have q336 : x9_1 < (l0.length : Int) := of_decide_eq_true (by first | (with_reducible assumption) | assumption)
 obtain ⟨ad336, A336_3, c336_3, e336, hx336_0, hx336_1, hx336_2, hx336_3, hl336_3, hi336_3⟩ := at_T58 HR0.out x9_1 p336 q336
 cases e336
 replace hx336_0 := (HB.out.cell (World.block_lt_of_cell? w _ hx336_0)).trans hx336_0
 replace hx336_1 := (HB.out.cell (World.block_lt_of_cell? w _ hx336_1)).trans hx336_1
 replace hx336_2 := (HB.out.cell (World.block_lt_of_cell? w _ hx336_2)).trans hx336_2
 replace hx336_3 := (HB.out.cell (World.block_lt_of_cell? w _ hx336_3)).trans hx336_3
 have HR336_3 := Aside0.mk hi336_3
 have HC336_3 := Aside0.mk hl336_3
 clear hi336_3 hl336_3
 replace p336 := eq_true p336
 replace q336 := eq_true q336
 go_wp2_with (first | (go_at_call 93; (with_reducible refine (impl_Post_at_1_n93.calls ((rd_T58 l0 x9_1).f0) ((rd_T58 l0 x9_1).f1) ((rd_T58 l0 x9_1).f2) _ _ ((rd_T58 l0 x9_1).f3) a1 t337 _ ?side1 ?side2 A15.out).mono ?_); (case side1 => exact y2_ (Kd.C_below HR336_3.out HB.out)); (case side2 => exact HC336_3.out); rintro e w16 ⟨rfl, hb⟩; replace HB := Aside0.mk (below_step (y1_ HB.out) hb); (try clear hb); (try clear hb2); (try clear hk); (try clear hi)))
 go_ret2
 exact ⟨by first | rfl | (simp [errW_none, errW_some] <;> rfl) | (simp [*, errW_none, errW_some] <;> rfl), by repeat (first | (with_reducible first | exact HB.out | apply below_alloc | apply pw_below_drewN | apply below_drew1) | exact HB.out)⟩}
 {
 rw [if_neg c14] at H
 exact absurd H (by simp)}}
 {
 rw [if_neg c13] at H
 exact absurd H (by simp)}}
 {
 rw [if_neg c12] at H
 have c12b0 : decide (x9_1 < (l0.length : Int)) = false := decide_eq_false c12
 clear c12
 simp only [Option.some.injEq, Prod.mk.injEq] at H
 obtain ⟨rfl, rfl⟩ := H
 go_wp2
 go_ret2
 exact ⟨by first | rfl | (simp [errW_none, errW_some] <;> rfl) | (simp [*, errW_none, errW_some] <;> rfl), by repeat (first | (with_reducible first | exact HB.out | apply below_alloc | apply pw_below_drewN | apply below_drew1) | exact HB.out)⟩}}}}

/-! ### impl_Post_at_n64: function 64 -/
def impl_Post_at_n64.f (k : Nat) (a0_0 : Int) (l0_1 : List (S58)) (a1 : ByteArray) : Option (Int × Bool) := (impl_Box_string_v2.f k l0_1 a1).bind fun bt338 => (some (bt338.1, bt338.2))
theorem impl_Post_at_n64.mono : ∀ a0 a1 a2 k, LeO (impl_Post_at_n64.f k a0 a1 a2) (impl_Post_at_n64.f (k + 1) a0 a1 a2) := by
  intro a0 a1 a2 k
  unfold impl_Post_at_n64.f
  repeat' first
      | (with_reducible exact impl_Box_string_v2.mono _ _ _)
      | (with_reducible exact LeO.refl _)
      | (with_reducible exact LeO.none _)
      | (with_reducible refine LeO.ite ?_ ?_)
      | (with_reducible refine LeO.bind ?_ (fun _ => ?_))
      | exact impl_Box_string_v2.mono _ _ _
      | exact LeO.none _
      | refine LeO.ite ?_ ?_
      | refine LeO.bind ?_ (fun _ => ?_)
set_option maxHeartbeats 8000000 in
set_option maxRecDepth 100000 in
theorem impl_Post_at_n64.calls (k : Nat) (g0_ : Nat) (a0_0 : Int) (A0_1 : Option Addr) (c0_1 : Nat) (l0_1 : List (S58)) (a1 : ByteArray) (r1 : Int) (r2 : Bool) (w : World) (hbk0 : w.heap[g0_]? = some (.cells #[.int .i64 a0_0, .slice A0_1 l0_1.length c0_1] 54 (0, 0))) (hr0_1 : Kd.C k58 w A0_1 l0_1.length l0_1) (hc0_1 : l0_1.length ≤ c0_1) (h : impl_Post_at_n64.f k a0_0 l0_1 a1 = some (r1, r2)) :
    Calls Try.prog 64 #[.pointer (some ⟨g0_, 0, none⟩), .string a1] w fun e w' => e = .returned (.tuple #[.int .i64 r1, .bool r2]) ∧ Below w.heap.size w w' := by
  have HR0_1 := Aside0.mk hr0_1
  have HC0_1 := Aside0.mk hc0_1
  clear hr0_1 hc0_1
  have BK0 := Aside0.mk hbk0
  clear hbk0
  have HB := Aside0.mk (Below.refl w.heap.size w)
  have H : ((impl_Box_string_v2.f k l0_1 a1).bind fun bt338 => (some (bt338.1, bt338.2))) = some (r1, r2) := h
  clear h
  replace H := Option.bind_eq_some_iff.mp H
  obtain ⟨⟨t338, t339⟩, A30, H⟩ := H
  replace H : (some (t338, t339)) = some (r1, r2) := H
  have A3 := Aside0.mk A30
  clear A30
  simp only [Option.some.injEq, Prod.mk.injEq] at H
  obtain ⟨rfl, rfl⟩ := H
  have hcz4_0 : w.cell? ⟨g0_, 0, none⟩ = some (.int .i64 a0_0) := (blk_cell BK0.out 0).trans rfl
  have hcz4_1 : w.cell? ⟨g0_, 1, none⟩ = some (.slice A0_1 l0_1.length c0_1) := (blk_cell BK0.out 1).trans rfl
  have hfz4_0 := blk_frozen BK0.out 0
  have hfz4_1 := blk_frozen BK0.out 1
  go_enter Try.func64, Try.ntmps64
  go_wp2_with (first | ((with_reducible refine gate_callee (f := 92) rfl ?_); refine goesL_ (some 11) rfl rfl Try.func92 (by kernel_rfl) rfl #[.slice A0_1 l0_1.length c0_1, .string a1, .func (.func 93) #[] #[]] rfl (by (try simp only [List.map_toArray, List.map_cons, List.map_nil]); first | done | rfl | (simp only [List.length_drop, List.length_take]; rfl)) ?_; (with_reducible refine (impl_Box_string_v2.calls k _ _ l0_1 a1  t338 t339 _ ?side1 ?side2 A3.out).mono ?_); (case side1 => repeat (first | exact HR0_1.out | (with_reducible refine Kd.C_alloc ?_ _) | (with_reducible refine Kd.C_drewN ?_ _) | (with_reducible refine Kd.C_drew ?_))); (case side2 => exact HC0_1.out); rintro e w5 ⟨rfl, hb⟩; refine ⟨_, rfl, ?_⟩; replace BK0 := Aside0.mk (blk_below (g := g0_) (o := .cells #[.int .i64 a0_0, .slice A0_1 l0_1.length c0_1] 54 (0, 0)) (by (with_reducible repeat (first | refine blk_drewN ?_ _ | refine blk_drew ?_ | refine blk_alloc ?_ _)); exact BK0.out) hb); replace HB := Aside0.mk (below_step (by repeat (first | (with_reducible first | exact HB.out | apply below_alloc | apply pw_below_drewN | apply below_drew1) | exact HB.out)) hb); (try clear hb); (try clear hb2); (try clear hk); (try clear hi)))
  go_ret2
  exact ⟨by first | rfl | (simp [errW_none, errW_some] <;> rfl) | (simp [*, errW_none, errW_some] <;> rfl), by repeat (first | (with_reducible first | exact HB.out | apply below_alloc | apply pw_below_drewN | apply below_drew1) | exact HB.out)⟩

/-! ### laws_r8Parcels: function 27 -/
def laws_r8Parcels.l0 : Nat → List (S97) → List (S97) → Int → Option (Bool)
  | 0, _, _, _ => none
  | k + 1, x0, x1, x5 => if x5 < (x0.length : Int) then (if 0 ≤ x5 then (if x5 < (x1.length : Int) then (if (!(((rd_T97 x0 x5).f0) == ((rd_T97 x1 x5).f0)) || (!(((rd_T97 x0 x5).f1) == ((rd_T97 x1 x5).f1)))) = true then (some false) else (laws_r8Parcels.l0 k x0 x1 (wrap64 (x5 + 1)))) else (none)) else (none)) else (some true)
def laws_r8Parcels.f (k : Nat) (l0 : List (S97)) (l1 : List (S97)) : Option (Bool) := if (l0.length : Int) = (l1.length : Int) then (laws_r8Parcels.l0 k l0 l1 0) else (some false)
theorem laws_r8Parcels.mono_l : ∀ k, (∀ y0 y1 y2, LeO (laws_r8Parcels.l0 k y0 y1 y2) (laws_r8Parcels.l0 (k + 1) y0 y1 y2))
  | 0 => fun _ _ _ r h => by simp [laws_r8Parcels.l0] at h
  | k + 1 => by
    have ih0 := laws_r8Parcels.mono_l k
    · intro y0 y1 y2
      unfold laws_r8Parcels.l0
      repeat' first
      | (with_reducible exact ih0 _ _ _)
      | (with_reducible exact LeO.refl _)
      | (with_reducible exact LeO.none _)
      | (with_reducible refine LeO.ite ?_ ?_)
      | (with_reducible refine LeO.bind ?_ (fun _ => ?_))
      | exact ih0 _ _ _
      | exact LeO.none _
      | refine LeO.ite ?_ ?_
      | refine LeO.bind ?_ (fun _ => ?_)
theorem laws_r8Parcels.mono : ∀ a0 a1 k, LeO (laws_r8Parcels.f k a0 a1) (laws_r8Parcels.f (k + 1) a0 a1) := by
  intro a0 a1 k
  have ih0 := laws_r8Parcels.mono_l k
  unfold laws_r8Parcels.f
  repeat' first
      | (with_reducible exact ih0 _ _ _)
      | (with_reducible exact LeO.refl _)
      | (with_reducible exact LeO.none _)
      | (with_reducible refine LeO.ite ?_ ?_)
      | (with_reducible refine LeO.bind ?_ (fun _ => ?_))
      | exact ih0 _ _ _
      | exact LeO.none _
      | refine LeO.ite ?_ ?_
      | refine LeO.bind ?_ (fun _ => ?_)
set_option maxHeartbeats 8000000 in
set_option maxRecDepth 100000 in
theorem laws_r8Parcels.calls (k : Nat) (A0 : Option Addr) (c0 : Nat) (l0 : List (S97)) (A1 : Option Addr) (c1 : Nat) (l1 : List (S97)) (r : Bool) (w : World) (hr0 : Kd.C k97 w A0 l0.length l0) (hc0 : l0.length ≤ c0) (hr1 : Kd.C k97 w A1 l1.length l1) (hc1 : l1.length ≤ c1) (h : laws_r8Parcels.f k l0 l1 = some r) :
    Calls Try.prog 27 #[.slice A0 l0.length c0, .slice A1 l1.length c1] w fun e w' => e = .returned (.bool r) ∧ Drawn0 w w' := by
  have hu97 := Try.underlying97
  have HR0 := Aside0.mk hr0
  have HC0 := Aside0.mk hc0
  clear hr0 hc0
  have HR1 := Aside0.mk hr1
  have HC1 := Aside0.mk hc1
  clear hr1 hc1
  have H : (if (l0.length : Int) = (l1.length : Int) then (laws_r8Parcels.l0 k l0 l1 0) else (some false)) = some r := h
  clear h
  by_cases c3 : (l0.length : Int) = (l1.length : Int)
  · rw [if_pos c3] at H
    have c3b0 : ((l0.length : Int) == (l1.length : Int)) = true := beq_iff_eq.mpr c3
    have c3b1 : ((l0.length : Int) != (l1.length : Int)) = false := bne_eq_false_iff_eq.mpr c3
    have c3b2 : (l0.length == l1.length) = true := by first | simpa using c3 | (simp at c3 ⊢; omega)
    clear c3
    have H' := Aside0.mk H
    clear H
    go_enter Try.func27, Try.ntmps27
    go_wp2
    repeat (go_quiet (fail); try go_wp2)
    go_loopg [5] k (fun kq v5 w' => ∃ (x5_1 : Int), v5 = .int .i64 x5_1 ∧ Aside0 (laws_r8Parcels.l0 kq l0 l1 x5_1 = some r) ∧ Aside0 (kq ≤ k) ∧ Drawn0 w w')
    case atStart => exact ⟨(0), (by first | rfl | (simp; done) | (simp [*]; done)), H', ⟨Nat.le_refl _⟩, by repeat (first | exact Drawn0.refl _ | apply Drawn0.step)⟩
    case round =>
      clear H'
      try clear c1
      try clear c2
      try clear p2
      try clear c3
      try clear c3b0
      try clear c3b1
      try clear c3b2
      obtain ⟨x5_1, rfl, HA, HK1, ⟨m1, rfl⟩⟩ := hrel
      cases gk with
      | zero => exact absurd HA.out (by simp [laws_r8Parcels.l0])
      | succ k1 =>
        have H := HA.out
        clear HA
        simp only [laws_r8Parcels.l0] at H
        by_cases c4 : x5_1 < (l0.length : Int)
        · rw [if_pos c4] at H
          have c4b0 : decide (x5_1 < (l0.length : Int)) = true := decide_eq_true c4
          clear c4
          by_cases c5 : 0 ≤ x5_1
          · rw [if_pos c5] at H
            have c5b0 : decide (0 ≤ x5_1) = true := decide_eq_true c5
            clear c5
            by_cases c6 : x5_1 < (l1.length : Int)
            · rw [if_pos c6] at H
              have c6b0 : decide (x5_1 < (l1.length : Int)) = true := decide_eq_true c6
              clear c6
              by_cases c7 : (!(((rd_T97 l0 x5_1).f0) == ((rd_T97 l1 x5_1).f0)) || (!(((rd_T97 l0 x5_1).f1) == ((rd_T97 l1 x5_1).f1)))) = true
              · rw [if_pos c7] at H
                have c7b0 : (!(((rd_T97 l0 x5_1).f0) == ((rd_T97 l1 x5_1).f0)) || (!(((rd_T97 l0 x5_1).f1) == ((rd_T97 l1 x5_1).f1)))) = true := c7
                clear c7
                obtain rfl := Option.some.inj H
                have p343 : 0 ≤ (x5_1 : Int) := of_decide_eq_true (by first | (with_reducible assumption) | assumption)
                have q343 : x5_1 < (l0.length : Int) := of_decide_eq_true (by first | (with_reducible assumption) | assumption)
                obtain ⟨ad343, e343, hx343_0, hx343_1⟩ := at_T97 HR0.out x5_1 p343 q343
                cases e343
                replace p343 := eq_true p343
                replace q343 := eq_true q343
                have p344 : 0 ≤ (x5_1 : Int) := of_decide_eq_true (by first | (with_reducible assumption) | assumption)
                have q344 : x5_1 < (l1.length : Int) := of_decide_eq_true (by first | (with_reducible assumption) | assumption)
                obtain ⟨ad344, e344, hx344_0, hx344_1⟩ := at_T97 HR1.out x5_1 p344 q344
                cases e344
                replace p344 := eq_true p344
                replace q344 := eq_true q344
                go_wp2
                repeat (go_quiet (fail); try go_wp2)
                go_ret
                exact ⟨by first | rfl | (simp; done) | (simp [*]; done), by repeat (first | exact Drawn0.refl _ | apply Drawn0.step)⟩
              · rw [if_neg c7] at H
                have c7b0 : (!(((rd_T97 l0 x5_1).f0) == ((rd_T97 l1 x5_1).f0)) || (!(((rd_T97 l0 x5_1).f1) == ((rd_T97 l1 x5_1).f1)))) = false := by simpa using c7
                clear c7
                have H' := Aside0.mk H
                clear H
                have p343 : 0 ≤ (x5_1 : Int) := of_decide_eq_true (by first | (with_reducible assumption) | assumption)
                have q343 : x5_1 < (l0.length : Int) := of_decide_eq_true (by first | (with_reducible assumption) | assumption)
                obtain ⟨ad343, e343, hx343_0, hx343_1⟩ := at_T97 HR0.out x5_1 p343 q343
                cases e343
                replace p343 := eq_true p343
                replace q343 := eq_true q343
                have p344 : 0 ≤ (x5_1 : Int) := of_decide_eq_true (by first | (with_reducible assumption) | assumption)
                have q344 : x5_1 < (l1.length : Int) := of_decide_eq_true (by first | (with_reducible assumption) | assumption)
                obtain ⟨ad344, e344, hx344_0, hx344_1⟩ := at_T97 HR1.out x5_1 p344 q344
                cases e344
                replace p344 := eq_true p344
                replace q344 := eq_true q344
                go_wp2
                repeat (go_quiet (fail); try go_wp2)
                go_roundg k1
                case measure => have := HK1.out; omega
                case rel => exact ⟨(wrap64 (x5_1 + 1)), (by first | rfl | (simp; done) | (simp [*]; done)), H', ⟨by have := HK1.out; omega⟩, by repeat (first | exact Drawn0.refl _ | apply Drawn0.step)⟩
            · rw [if_neg c6] at H
              exact absurd H (by simp)
          · rw [if_neg c5] at H
            exact absurd H (by simp)
        · rw [if_neg c4] at H
          have c4b0 : decide (x5_1 < (l0.length : Int)) = false := decide_eq_false c4
          clear c4
          obtain rfl := Option.some.inj H
          go_wp2
          repeat (go_quiet (fail); try go_wp2)
          go_ret
          exact ⟨by first | rfl | (simp; done) | (simp [*]; done), by repeat (first | exact Drawn0.refl _ | apply Drawn0.step)⟩
  · rw [if_neg c3] at H
    have c3b0 : ((l0.length : Int) == (l1.length : Int)) = false := beq_eq_false_iff_ne.mpr c3
    have c3b1 : ((l0.length : Int) != (l1.length : Int)) = true := bne_iff_ne.mpr c3
    have c3b2 : (l0.length == l1.length) = false := by first | simpa using c3 | (simp at c3 ⊢; omega)
    obtain rfl := Option.some.inj H
    go_enter Try.func27, Try.ntmps27
    go_wp2
    repeat (go_quiet (fail); try go_wp2)
    go_ret
    exact ⟨by first | rfl | (simp; done) | (simp [*]; done), by repeat (first | exact Drawn0.refl _ | apply Drawn0.step)⟩


end Go.Proofs.Ytdanachjdfiegaa.QFnTaken
