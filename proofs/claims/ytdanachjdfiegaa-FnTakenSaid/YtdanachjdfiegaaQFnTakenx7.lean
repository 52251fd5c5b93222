-- written by a program of this session, on the lines of the kit's print
import Derived.Test.YtdanachjdfiegaaQFnTakenx0
import Derived.Test.YtdanachjdfiegaaQFnTakenx6
namespace Go.Proofs.Ytdanachjdfiegaa.QFnTaken
open Go.RowKit Go.Proofs.YtdanachjdfiegaaW.PrintWords Go.Proofs.YtdanachjdfiegaaW.PrintLast Go.Proofs.YtdanachjdfiegaaW.PrintMore
attribute [local go_sem] max2_int min2_int max_two min_two max_three min_three max_four min_four   -- for this text's walks alone
set_option linter.unusedVariables false
set_option linter.unusedSimpArgs false

/-! ### impl_ValidPost: function 28 -/
abbrev impl_ValidPost.T : Bool := true
abbrev impl_ValidPost.F : Bool := false
theorem impl_ValidPost.s1_ {P : Prop} (h : P := by first | rfl | (simp; done) | (simp [*]; done)) : P := h
theorem impl_ValidPost.b1_ {P Q : Prop} (q : Q) (h : Q → P := by intro q_; (with_reducible repeat (first | refine blk_drewN ?_ _ | refine blk_drew ?_ | refine blk_alloc ?_ _)); exact q_) : P := h q
theorem impl_ValidPost.y1_ {P Q : Prop} (q : Q) (h : Q → P := by intro q_; repeat (first | (with_reducible first | exact q_ | apply below_alloc | apply pw_below_drewN | apply below_drew1) | exact q_)) : P := h q
theorem impl_ValidPost.b3_ {w w1 W : World} {g : Nat} {o : Obj} (q : Aside0 (w.heap[g]? = some o)) (hb : Below W.heap.size W w1) (h : w.heap[g]? = some o → W.heap[g]? = some o := by intro q_; (with_reducible repeat (first | refine blk_drewN ?_ _ | refine blk_drew ?_ | refine blk_alloc ?_ _)); exact q_) : Aside0 (w1.heap[g]? = some o) := ⟨blk_below (h q.out) hb⟩
theorem impl_ValidPost.b4_ {w W : World} {g k : Nat} {o : Obj} (hg : k = W.heap.size) (q : Aside0 (w.heap[g]? = some o)) (h : w.heap[g]? = some o → W.heap[g]? = some o := by intro q_; (with_reducible repeat (first | refine blk_drewN ?_ _ | refine blk_drew ?_ | refine blk_alloc ?_ _)); exact q_) : Aside0 (g ≠ k) := ⟨by rw [hg]; exact Nat.ne_of_lt (blk_lt (h q.out))⟩
theorem impl_ValidPost.b5_ {w W : World} {g k : Nat} {o : Obj} (hg : k = W.heap.size) (q : Aside0 (w.heap[g]? = some o)) (h : w.heap[g]? = some o → W.heap[g]? = some o := by intro q_; (with_reducible repeat (first | refine blk_drewN ?_ _ | refine blk_drew ?_ | refine blk_alloc ?_ _)); exact q_) : Aside0 (k ≠ g) := ⟨by rw [hg]; exact Nat.ne_of_gt (blk_lt (h q.out))⟩
theorem impl_ValidPost.b6_ {w w' W : World} {k : Nat} (hg : k = W.heap.size) (q : Aside0 (Below w.heap.size w w')) (h : Below w.heap.size w w' → Below w.heap.size w W := by intro q_; repeat (first | (with_reducible first | exact q_ | apply below_alloc | apply pw_below_drewN | apply below_drew1) | exact q_)) : Aside0 (w.heap.size ≤ k) := ⟨by rw [hg]; exact below_size (h q.out)⟩
theorem impl_ValidPost.bx_ {P : Program} {ops : Array Oper} {rest : List Oper} {o : Oper} {a : Act} {Q : Exit → Act → World → Prop} {W : World} (N : Tmp) (cs : Array Value) (t : TypeId) (h : ∀ g, g = W.heap.size → ∀ w1, w1.heap[g]? = some (.cells cs t (0, 0)) → Below W.heap.size W w1 → wpList P ops Q rest (a.put o.dst (.pointer (some ⟨g, 0, none⟩))) w1) (hgd : o.guard = none := by rfl) (hd : o.dst = some N := by rfl) (hrun : (execOp a.eval o).run P W = .ok (.value (.pointer (some ⟨W.heap.size, 0, none⟩))) (W.alloc (.cells cs t (0, 0))) := by first | (go_simp; done) | (go_simp; rfl)) : wpList P ops Q (o :: rest) a W := box_event hgd hd hrun h
theorem impl_ValidPost.c1_ {w : World} {g : Nat} {t : TypeId} {cs : Array Value} (q : Aside0 (w.heap[g]? = some (.cells cs t (0, 0)))) (i : Nat) (v : Value) (h : cs[i]? = some v := by rfl) : w.cell? ⟨g, i, none⟩ = some v := (blk_cell q.out i).trans h
theorem impl_ValidPost.f1_ {w : World} {g : Nat} {t : TypeId} {cs : Array Value} (q : Aside0 (w.heap[g]? = some (.cells cs t (0, 0)))) (i : Nat) : w.frozen? ⟨g, i, none⟩ = false := blk_frozen q.out i
mutual
def impl_ValidPost.j0 : Nat → Bool → Int → List (S58) → Option (Bool)
  | 0, _, _, _ => none
  | k + 1, x14, x289000, x289001 => if x14 = true then (some false) else (impl_ValidPost.l0 k x289001 (x289001.length : Int) 0 x289000 x289001)
def impl_ValidPost.l0 : Nat → List (S58) → Int → Int → Int → List (S58) → Option (Bool)
  | 0, _, _, _, _, _ => none
  | k + 1, x16, x17, x18, x289000, x289001 => if x18 < x17 then (if 0 ≤ x18 then (if x18 < (x16.length : Int) then ((impl_IsToken.f ((rd_T58 x16 x18).f0)).bind fun t292 => (if t292 = true then ((impl_isMember.f ((rd_T58 x16 x18).f1)).bind fun t293 => (if t293 = true then ((impl_in.f ((rd_T58 x16 x18).f2) 0 1000000000).bind fun t294 => (if t294 = true then (if (((rd_T58 x16 x18).f3).length : Int) > x289000 then (impl_ValidPost.j2 k x18 x16 x17 x18 true x289000 x289001 ((rd_T58 x16 x18).f0) ((rd_T58 x16 x18).f1) ((rd_T58 x16 x18).f2) ((rd_T58 x16 x18).f3)) else ((impl_parcelsOk.f k ((rd_T58 x16 x18).f3)).bind fun t295 => (impl_ValidPost.j2 k x18 x16 x17 x18 (!t295) x289000 x289001 ((rd_T58 x16 x18).f0) ((rd_T58 x16 x18).f1) ((rd_T58 x16 x18).f2) ((rd_T58 x16 x18).f3)))) else (impl_ValidPost.j2 k x18 x16 x17 x18 true x289000 x289001 ((rd_T58 x16 x18).f0) ((rd_T58 x16 x18).f1) ((rd_T58 x16 x18).f2) ((rd_T58 x16 x18).f3)))) else (impl_ValidPost.j2 k x18 x16 x17 x18 true x289000 x289001 ((rd_T58 x16 x18).f0) ((rd_T58 x16 x18).f1) ((rd_T58 x16 x18).f2) ((rd_T58 x16 x18).f3)))) else (impl_ValidPost.j2 k x18 x16 x17 x18 true x289000 x289001 ((rd_T58 x16 x18).f0) ((rd_T58 x16 x18).f1) ((rd_T58 x16 x18).f2) ((rd_T58 x16 x18).f3)))) else (none)) else (none)) else (some true)
def impl_ValidPost.j2 : Nat → Int → List (S58) → Int → Int → Bool → Int → List (S58) → ByteArray → Int → Int → List (S97) → Option (Bool)
  | 0, _, _, _, _, _, _, _, _, _, _, _ => none
  | k + 1, x3, x16, x17, x18, x52, x289000, x289001, x292000, x292001, x292002, x292003 => if x52 = true then (some false) else (if x3 > 0 then (if 0 ≤ (wrap64 (x3 - 1)) then (if (wrap64 (x3 - 1)) < (x289001.length : Int) then (if ((Op.bytesLess (((rd_T58 x289001 (wrap64 (x3 - 1))).f0).toList) x292000.toList) = true) then (impl_ValidPost.l0 k x16 x17 (wrap64 (x18 + 1)) x289000 x289001) else (some false)) else (none)) else (none)) else (impl_ValidPost.l0 k x16 x17 (wrap64 (x18 + 1)) x289000 x289001))
end
def impl_ValidPost.f (k : Nat) (a0_0 : Int) (l0_1 : List (S58)) : Option (Bool) := (impl_in.f a0_0 1 64).bind fun t289 => (if t289 = true then (impl_ValidPost.j0 k (decide ((l0_1.length : Int) > 32)) a0_0 l0_1) else (impl_ValidPost.j0 k true a0_0 l0_1))
theorem impl_ValidPost.mono_l : ∀ k, (∀ y0 y1 y2, LeO (impl_ValidPost.j0 k y0 y1 y2) (impl_ValidPost.j0 (k + 1) y0 y1 y2)) ∧ (∀ y0 y1 y2 y3 y4, LeO (impl_ValidPost.l0 k y0 y1 y2 y3 y4) (impl_ValidPost.l0 (k + 1) y0 y1 y2 y3 y4)) ∧ (∀ y0 y1 y2 y3 y4 y5 y6 y7 y8 y9 y10, LeO (impl_ValidPost.j2 k y0 y1 y2 y3 y4 y5 y6 y7 y8 y9 y10) (impl_ValidPost.j2 (k + 1) y0 y1 y2 y3 y4 y5 y6 y7 y8 y9 y10))
  | 0 => ⟨fun _ _ _ r h => by simp [impl_ValidPost.j0] at h, fun _ _ _ _ _ r h => by simp [impl_ValidPost.l0] at h, fun _ _ _ _ _ _ _ _ _ _ _ r h => by simp [impl_ValidPost.j2] at h⟩
  | k + 1 => by
    obtain ⟨ih0, ih1, ih2⟩ := impl_ValidPost.mono_l k
    refine ⟨?_, ?_, ?_⟩
    · intro y0 y1 y2
      unfold impl_ValidPost.j0
      repeat' first
      | (with_reducible exact ih0 _ _ _)
      | (with_reducible exact ih1 _ _ _ _ _)
      | (with_reducible exact ih2 _ _ _ _ _ _ _ _ _ _ _)
      | (with_reducible exact impl_parcelsOk.mono _ _)
      | (with_reducible exact LeO.refl _)
      | (with_reducible exact LeO.none _)
      | (with_reducible refine LeO.ite ?_ ?_)
      | (with_reducible refine LeO.bind ?_ (fun _ => ?_))
      | exact ih0 _ _ _
      | exact ih1 _ _ _ _ _
      | exact ih2 _ _ _ _ _ _ _ _ _ _ _
      | exact impl_parcelsOk.mono _ _
      | exact LeO.none _
      | refine LeO.ite ?_ ?_
      | refine LeO.bind ?_ (fun _ => ?_)
    · intro y0 y1 y2 y3 y4
      unfold impl_ValidPost.l0
      repeat' first
      | (with_reducible exact ih0 _ _ _)
      | (with_reducible exact ih1 _ _ _ _ _)
      | (with_reducible exact ih2 _ _ _ _ _ _ _ _ _ _ _)
      | (with_reducible exact impl_parcelsOk.mono _ _)
      | (with_reducible exact LeO.refl _)
      | (with_reducible exact LeO.none _)
      | (with_reducible refine LeO.ite ?_ ?_)
      | (with_reducible refine LeO.bind ?_ (fun _ => ?_))
      | exact ih0 _ _ _
      | exact ih1 _ _ _ _ _
      | exact ih2 _ _ _ _ _ _ _ _ _ _ _
      | exact impl_parcelsOk.mono _ _
      | exact LeO.none _
      | refine LeO.ite ?_ ?_
      | refine LeO.bind ?_ (fun _ => ?_)
    · intro y0 y1 y2 y3 y4 y5 y6 y7 y8 y9 y10
      unfold impl_ValidPost.j2
      repeat' first
      | (with_reducible exact ih0 _ _ _)
      | (with_reducible exact ih1 _ _ _ _ _)
      | (with_reducible exact ih2 _ _ _ _ _ _ _ _ _ _ _)
      | (with_reducible exact impl_parcelsOk.mono _ _)
      | (with_reducible exact LeO.refl _)
      | (with_reducible exact LeO.none _)
      | (with_reducible refine LeO.ite ?_ ?_)
      | (with_reducible refine LeO.bind ?_ (fun _ => ?_))
      | exact ih0 _ _ _
      | exact ih1 _ _ _ _ _
      | exact ih2 _ _ _ _ _ _ _ _ _ _ _
      | exact impl_parcelsOk.mono _ _
      | exact LeO.none _
      | refine LeO.ite ?_ ?_
      | refine LeO.bind ?_ (fun _ => ?_)
theorem impl_ValidPost.mono : ∀ a0 a1 k, LeO (impl_ValidPost.f k a0 a1) (impl_ValidPost.f (k + 1) a0 a1) := by
  intro a0 a1 k
  obtain ⟨ih0, ih1, ih2⟩ := impl_ValidPost.mono_l k
  unfold impl_ValidPost.f
  repeat' first
      | (with_reducible exact ih0 _ _ _)
      | (with_reducible exact ih1 _ _ _ _ _)
      | (with_reducible exact ih2 _ _ _ _ _ _ _ _ _ _ _)
      | (with_reducible exact impl_parcelsOk.mono _ _)
      | (with_reducible exact LeO.refl _)
      | (with_reducible exact LeO.none _)
      | (with_reducible refine LeO.ite ?_ ?_)
      | (with_reducible refine LeO.bind ?_ (fun _ => ?_))
      | exact ih0 _ _ _
      | exact ih1 _ _ _ _ _
      | exact ih2 _ _ _ _ _ _ _ _ _ _ _
      | exact impl_parcelsOk.mono _ _
      | exact LeO.none _
      | refine LeO.ite ?_ ?_
      | refine LeO.bind ?_ (fun _ => ?_)
set_option maxHeartbeats 8000000 in
set_option maxRecDepth 100000 in
theorem impl_ValidPost.calls (k : Nat) (a0_0 : Int) (A0_1 : Option Addr) (c0_1 : Nat) (l0_1 : List (S58)) (r : Bool) (w : World) (hr0_1 : Kd.C k58 w A0_1 l0_1.length l0_1) (hc0_1 : l0_1.length ≤ c0_1) (h : impl_ValidPost.f k a0_0 l0_1 = some r) :
    Calls Try.prog 28 #[.agg #[.int .i64 a0_0, .slice A0_1 l0_1.length c0_1]] w fun e w' => e = .returned (.bool r) ∧ Below w.heap.size w w' := by
 have hu54 := Try.underlying54
 have hu58 := Try.underlying58
 have HR0_1 := Aside0.mk hr0_1
 have HC0_1 := Aside0.mk hc0_1
 clear hr0_1 hc0_1
 have HB := Aside0.mk (Below.refl w.heap.size w)
 have H : ((impl_in.f a0_0 1 64).bind fun t289 => (if t289 = true then (impl_ValidPost.j0 k (decide ((l0_1.length : Int) > 32)) a0_0 l0_1) else (impl_ValidPost.j0 k true a0_0 l0_1))) = some r := h
 clear h
 have HC2 := Aside0.mk H
 clear H
 go_enter Try.func28, Try.ntmps28
 go_upto_region 1 with (first | ((with_reducible refine gate_dst (N := 1) rfl ?_); (try (refine gate_guard (by rfl) ?_; dsimp only)); refine bx_ 1 #[.int .i64 a0_0, .slice A0_1 l0_1.length c0_1] 54 ?_; intro gb288 hg w3 hbox hb; have GW288 := b6_ hg HB; have GE288 := b6_ hg HB; replace HB := Aside0.mk (below_step (y1_ HB.out) hb); have BK288 := Aside0.mk (hbox); clear hb hbox hg))
 repeat (go_quiet (first | ((with_reducible refine gate_dst (N := 1) rfl ?_); (try (refine gate_guard (by rfl) ?_; dsimp only)); refine bx_ 1 #[.int .i64 a0_0, .slice A0_1 l0_1.length c0_1] 54 ?_; intro gb288 hg w3 hbox hb; have GW288 := b6_ hg HB; have GE288 := b6_ hg HB; replace HB := Aside0.mk (below_step (y1_ HB.out) hb); have BK288 := Aside0.mk (hbox); clear hb hbox hg)); go_upto_region 1 with (first | ((with_reducible refine gate_dst (N := 1) rfl ?_); (try (refine gate_guard (by rfl) ?_; dsimp only)); refine bx_ 1 #[.int .i64 a0_0, .slice A0_1 l0_1.length c0_1] 54 ?_; intro gb288 hg w3 hbox hb; have GW288 := b6_ hg HB; have GE288 := b6_ hg HB; replace HB := Aside0.mk (below_step (y1_ HB.out) hb); have BK288 := Aside0.mk (hbox); clear hb hbox hg)))
 (try simp only [Act.put, List.setIfInBounds_toArray, List.set_cons_zero, List.set_cons_succ])
 go_cut [14] (fun v14 wc => ∃ (kq : Nat) (x14_1 : Bool), v14 = .bool x14_1 ∧ Aside0 (impl_ValidPost.j0 kq x14_1 a0_0 l0_1 = some r) ∧ Aside0 (kq ≤ k) ∧ Aside0 (wc.heap[gb288]? = some (.cells #[.int .i64 a0_0, (.slice A0_1 l0_1.length c0_1)] 54 (0, 0))) ∧ Aside0 (Below w.heap.size w wc))
 case first =>
  skip
  {
 have H := HC2.out
 clear HC2
 replace H := Option.bind_eq_some_iff.mp H
 obtain ⟨t289, A40, H⟩ := H
 replace H : (if t289 = true then (impl_ValidPost.j0 k (decide ((l0_1.length : Int) > 32)) a0_0 l0_1) else (impl_ValidPost.j0 k true a0_0 l0_1)) = some r := H
 have A4 := Aside0.mk A40
 clear A40
 by_cases c5 : t289 = true
 {
 subst c5
 have H1 : (impl_ValidPost.j0 k (decide ((l0_1.length : Int) > 32)) a0_0 l0_1) = some r := by rw [if_pos rfl] at H; exact H
 clear H
 have H := H1
 clear H1
 have H' := Aside0.mk H
 clear H
 have hcz6_0 := c1_ BK288 0 (.int .i64 a0_0)
 have hcz6_1 := c1_ BK288 1 (.slice A0_1 l0_1.length c0_1)
 have hfz6_0 := f1_ BK288 0
 have hfz6_1 := f1_ BK288 1
 go_wp2_with (first | (go_at_call 31; (with_reducible refine (impl_in.calls a0_0 1 64 true _ A4.out).mono ?_); rintro e w' ⟨rfl, ⟨nd, rfl⟩⟩; (try first | exact ⟨rfl, _, World.drewN_drewN _ _ _⟩ | exact ⟨rfl, _, Eq.trans (World.drewN_drewN _ _ _) (congrArg (World.drewN _) (Nat.add_assoc _ _ _))⟩)))
 repeat (go_quiet (first | (go_at_call 31; (with_reducible refine (impl_in.calls a0_0 1 64 true _ A4.out).mono ?_); rintro e w' ⟨rfl, ⟨nd, rfl⟩⟩; (try first | exact ⟨rfl, _, World.drewN_drewN _ _ _⟩ | exact ⟨rfl, _, Eq.trans (World.drewN_drewN _ _ _) (congrArg (World.drewN _) (Nat.add_assoc _ _ _))⟩))); try go_wp2_with (first | (go_at_call 31; (with_reducible refine (impl_in.calls a0_0 1 64 true _ A4.out).mono ?_); rintro e w' ⟨rfl, ⟨nd, rfl⟩⟩; (try first | exact ⟨rfl, _, World.drewN_drewN _ _ _⟩ | exact ⟨rfl, _, Eq.trans (World.drewN_drewN _ _ _) (congrArg (World.drewN _) (Nat.add_assoc _ _ _))⟩))))
 go_meet
 case rel => exact ⟨_, (decide ((l0_1.length : Int) > 32)), s1_, H', ⟨by first | omega | exact Nat.le_refl _⟩, ⟨b1_ BK288.out⟩, ⟨by repeat (first | (with_reducible first | exact HB.out | apply below_alloc | apply pw_below_drewN | apply below_drew1) | exact HB.out)⟩⟩}
 {
 replace c5 := Bool.eq_false_iff.mpr c5
 subst c5
 have H1 : (impl_ValidPost.j0 k true a0_0 l0_1) = some r := by rw [if_neg (show ¬ (false = true) by decide)] at H; exact H
 clear H
 have H := H1
 clear H1
 have H' := Aside0.mk H
 clear H
 have hcz7_0 := c1_ BK288 0 (.int .i64 a0_0)
 have hcz7_1 := c1_ BK288 1 (.slice A0_1 l0_1.length c0_1)
 have hfz7_0 := f1_ BK288 0
 have hfz7_1 := f1_ BK288 1
 go_wp2_with (first | (go_at_call 31; (with_reducible refine (impl_in.calls a0_0 1 64 false _ A4.out).mono ?_); rintro e w' ⟨rfl, ⟨nd, rfl⟩⟩; (try first | exact ⟨rfl, _, World.drewN_drewN _ _ _⟩ | exact ⟨rfl, _, Eq.trans (World.drewN_drewN _ _ _) (congrArg (World.drewN _) (Nat.add_assoc _ _ _))⟩)))
 repeat (go_quiet (first | (go_at_call 31; (with_reducible refine (impl_in.calls a0_0 1 64 false _ A4.out).mono ?_); rintro e w' ⟨rfl, ⟨nd, rfl⟩⟩; (try first | exact ⟨rfl, _, World.drewN_drewN _ _ _⟩ | exact ⟨rfl, _, Eq.trans (World.drewN_drewN _ _ _) (congrArg (World.drewN _) (Nat.add_assoc _ _ _))⟩))); try go_wp2_with (first | (go_at_call 31; (with_reducible refine (impl_in.calls a0_0 1 64 false _ A4.out).mono ?_); rintro e w' ⟨rfl, ⟨nd, rfl⟩⟩; (try first | exact ⟨rfl, _, World.drewN_drewN _ _ _⟩ | exact ⟨rfl, _, Eq.trans (World.drewN_drewN _ _ _) (congrArg (World.drewN _) (Nat.add_assoc _ _ _))⟩))))
 go_meet
 case rel => exact ⟨_, (true), s1_, H', ⟨by first | omega | exact Nat.le_refl _⟩, ⟨b1_ BK288.out⟩, ⟨by repeat (first | (with_reducible first | exact HB.out | apply below_alloc | apply pw_below_drewN | apply below_drew1) | exact HB.out)⟩⟩}}
 case rest =>
  skip
  {
 clear HC2
 try clear c2
 try clear p2
 try clear c5
 try clear hcz6_0
 try clear hcz6_1
 try clear hcz7_0
 try clear hcz7_1
 try clear hfz6_0
 try clear hfz6_1
 try clear hfz7_0
 try clear hfz7_1
 obtain ⟨kq, x14_1, rfl, HA, HJ1, BK288, HB⟩ := hcut
 cases kq with
 | zero => exact absurd HA.out (by simp [impl_ValidPost.j0])
 | succ kj1 =>
  skip
  {
 have H := HA.out
 clear HA
 simp only [impl_ValidPost.j0] at H
 by_cases c8 : x14_1 = true
 {
 subst c8
 have H1 : (some false) = some r := by rw [if_pos rfl] at H; exact H
 clear H
 have H := H1
 clear H1
 obtain rfl := Option.some.inj H
 go_wp2
 repeat (go_quiet (fail); try go_wp2)
 go_ret
 exact ⟨by first | rfl | (simp [errW_none, errW_some] <;> rfl) | (simp [*, errW_none, errW_some] <;> rfl), by repeat (first | (with_reducible first | exact HB.out | apply below_alloc | apply pw_below_drewN | apply below_drew1) | exact HB.out)⟩}
 {
 replace c8 := Bool.eq_false_iff.mpr c8
 subst c8
 have H1 : (impl_ValidPost.l0 kj1 l0_1 (l0_1.length : Int) 0 a0_0 l0_1) = some r := by rw [if_neg (show ¬ (false = true) by decide)] at H; exact H
 clear H
 have H := H1
 clear H1
 have H' := Aside0.mk H
 clear H
 have hcz9_0 := c1_ BK288 0 (.int .i64 a0_0)
 have hcz9_1 := c1_ BK288 1 (.slice A0_1 l0_1.length c0_1)
 have hfz9_0 := f1_ BK288 0
 have hfz9_1 := f1_ BK288 1
 go_wp2
 repeat (go_quiet (fail); try go_wp2)
 go_loopg [18] kj1 (fun kq v18 w' => ∃ (x18_2 : Int), v18 = .int .i64 x18_2 ∧ Aside0 (impl_ValidPost.l0 kq l0_1 (l0_1.length : Int) x18_2 a0_0 l0_1 = some r) ∧ Aside0 (kq ≤ kj1) ∧ Aside0 (w'.heap[gb288]? = some (.cells #[.int .i64 a0_0, (.slice A0_1 l0_1.length c0_1)] 54 (0, 0))) ∧ Aside0 (Below w.heap.size w w'))
 case atStart => exact ⟨(0), s1_, H', ⟨Nat.le_refl _⟩, ⟨b1_ BK288.out⟩, ⟨by repeat (first | (with_reducible first | exact HB.out | apply below_alloc | apply pw_below_drewN | apply below_drew1) | exact HB.out)⟩⟩
 case round =>
  skip
  {
 clear H'
 try clear c2
 try clear p2
 try clear c5
 try clear c8
 try clear hcz6_0
 try clear hcz6_1
 try clear hcz7_0
 try clear hcz7_1
 try clear hcz9_0
 try clear hcz9_1
 try clear hfz6_0
 try clear hfz6_1
 try clear hfz7_0
 try clear hfz7_1
 try clear hfz9_0
 try clear hfz9_1
 try clear p2
 obtain ⟨x18_2, rfl, HA, HK2, BK288, HB⟩ := hrel
 cases gk with
 | zero => exact absurd HA.out (by simp [impl_ValidPost.l0])
 | succ k2 =>
  skip
  {
 have H := HA.out
 clear HA
 simp only [impl_ValidPost.l0] at H
 by_cases c10 : x18_2 < (l0_1.length : Int)
 {
 rw [if_pos c10] at H
 have c10b0 : decide (x18_2 < (l0_1.length : Int)) = true := decide_eq_true c10
 clear c10
 by_cases c11 : 0 ≤ x18_2
 {
 rw [if_pos c11] at H
 have c11b0 : decide (0 ≤ x18_2) = true := decide_eq_true c11
 clear c11
 by_cases c12 : x18_2 < (l0_1.length : Int)
 {
 rw [if_pos c12] at H
 have c12b0 : decide (x18_2 < (l0_1.length : Int)) = true := decide_eq_true c12
 clear c12
 have HC13 := Aside0.mk H
 clear H
 have p290 : 0 ≤ (x18_2 : Int) := of_decide_eq_true (by first | (with_reducible assumption) | assumption)
 have q290 : x18_2 < (l0_1.length : Int) := of_decide_eq_true (by first | (with_reducible assumption) | assumption)
 have hbd290 := Aside0.mk (And.intro p290 q290)
 obtain ⟨ad290, A290_3, c290_3, e290, hx290_0, hx290_1, hx290_2, hx290_3, hl290_3, hi290_3⟩ := at_T58 HR0_1.out x18_2 p290 q290
 cases e290
 replace hx290_0 := (HB.out.cell (World.block_lt_of_cell? w _ hx290_0)).trans hx290_0
 replace hx290_1 := (HB.out.cell (World.block_lt_of_cell? w _ hx290_1)).trans hx290_1
 replace hx290_2 := (HB.out.cell (World.block_lt_of_cell? w _ hx290_2)).trans hx290_2
 replace hx290_3 := (HB.out.cell (World.block_lt_of_cell? w _ hx290_3)).trans hx290_3
 have HR290_3 := Aside0.mk hi290_3
 have HC290_3 := Aside0.mk hl290_3
 clear hi290_3 hl290_3
 replace p290 := eq_true p290
 replace q290 := eq_true q290
 go_upto_region 6 with (first | ((with_reducible refine gate_dst (N := 4) rfl ?_); (try (refine gate_guard (by rfl) ?_; dsimp only)); refine bx_ 4 #[.string (⟨#[]⟩ : ByteArray), .int .i64 0, .int .i64 0, .slice none 0 0] 58 ?_; intro gb291 hg w14 hbox hb; have GW291 := b6_ hg HB; have GE291 := b6_ hg HB; have NB288_291 := b4_ hg BK288; have NB291_288 := b5_ hg BK288; replace BK288 := b3_ BK288 hb; replace HB := Aside0.mk (below_step (y1_ HB.out) hb); have BK291 := Aside0.mk (hbox); clear hb hbox hg; have hnb15 := NB291_288.out; have hnc15 := NB288_291.out; have hcz16_0 := c1_ BK291 0 (.string (⟨#[]⟩ : ByteArray)); have hcz16_1 := c1_ BK291 1 (.int .i64 0); have hcz16_2 := c1_ BK291 2 (.int .i64 0); have hcz16_3 := c1_ BK291 3 (.slice none 0 0); have hfz16_0 := f1_ BK291 0; have hfz16_1 := f1_ BK291 1; have hfz16_2 := f1_ BK291 2; have hfz16_3 := f1_ BK291 3))
 repeat (go_quiet (first | ((with_reducible refine gate_dst (N := 4) rfl ?_); (try (refine gate_guard (by rfl) ?_; dsimp only)); refine bx_ 4 #[.string (⟨#[]⟩ : ByteArray), .int .i64 0, .int .i64 0, .slice none 0 0] 58 ?_; intro gb291 hg w14 hbox hb; have GW291 := b6_ hg HB; have GE291 := b6_ hg HB; have NB288_291 := b4_ hg BK288; have NB291_288 := b5_ hg BK288; replace BK288 := b3_ BK288 hb; replace HB := Aside0.mk (below_step (y1_ HB.out) hb); have BK291 := Aside0.mk (hbox); clear hb hbox hg; have hnb15 := NB291_288.out; have hnc15 := NB288_291.out; have hcz16_0 := c1_ BK291 0 (.string (⟨#[]⟩ : ByteArray)); have hcz16_1 := c1_ BK291 1 (.int .i64 0); have hcz16_2 := c1_ BK291 2 (.int .i64 0); have hcz16_3 := c1_ BK291 3 (.slice none 0 0); have hfz16_0 := f1_ BK291 0; have hfz16_1 := f1_ BK291 1; have hfz16_2 := f1_ BK291 2; have hfz16_3 := f1_ BK291 3)); go_upto_region 6 with (first | ((with_reducible refine gate_dst (N := 4) rfl ?_); (try (refine gate_guard (by rfl) ?_; dsimp only)); refine bx_ 4 #[.string (⟨#[]⟩ : ByteArray), .int .i64 0, .int .i64 0, .slice none 0 0] 58 ?_; intro gb291 hg w14 hbox hb; have GW291 := b6_ hg HB; have GE291 := b6_ hg HB; have NB288_291 := b4_ hg BK288; have NB291_288 := b5_ hg BK288; replace BK288 := b3_ BK288 hb; replace HB := Aside0.mk (below_step (y1_ HB.out) hb); have BK291 := Aside0.mk (hbox); clear hb hbox hg; have hnb15 := NB291_288.out; have hnc15 := NB288_291.out; have hcz16_0 := c1_ BK291 0 (.string (⟨#[]⟩ : ByteArray)); have hcz16_1 := c1_ BK291 1 (.int .i64 0); have hcz16_2 := c1_ BK291 2 (.int .i64 0); have hcz16_3 := c1_ BK291 3 (.slice none 0 0); have hfz16_0 := f1_ BK291 0; have hfz16_1 := f1_ BK291 1; have hfz16_2 := f1_ BK291 2; have hfz16_3 := f1_ BK291 3)))
 (try simp only [Act.put, List.setIfInBounds_toArray, List.set_cons_zero, List.set_cons_succ])
 go_cut [52] (fun v52 wc => ∃ (kq : Nat) (x52_12 : Bool), v52 = .bool x52_12 ∧ Aside0 (impl_ValidPost.j2 kq x18_2 l0_1 (l0_1.length : Int) x18_2 x52_12 a0_0 l0_1 ((rd_T58 l0_1 x18_2).f0) ((rd_T58 l0_1 x18_2).f1) ((rd_T58 l0_1 x18_2).f2) ((rd_T58 l0_1 x18_2).f3) = some r) ∧ Aside0 (kq ≤ k2) ∧ Aside0 (wc.heap[gb288]? = some (.cells #[.int .i64 a0_0, (.slice (some ad290) l0_1.length c0_1)] 54 (0, 0))) ∧ Aside0 (wc.heap[gb291]? = some (.cells #[.string ((rd_T58 l0_1 x18_2).f0), .int .i64 ((rd_T58 l0_1 x18_2).f1), .int .i64 ((rd_T58 l0_1 x18_2).f2), (.slice A290_3 ((rd_T58 l0_1 x18_2).f3).length c290_3)] 58 (0, 0))) ∧ Aside0 (Below w.heap.size w wc))
 case first =>
  skip
  {
 have H := HC13.out
 clear HC13
 replace H := Option.bind_eq_some_iff.mp H
 obtain ⟨t292, A170, H⟩ := H
 replace H : (if t292 = true then ((impl_isMember.f ((rd_T58 l0_1 x18_2).f1)).bind fun t293 => (if t293 = true then ((impl_in.f ((rd_T58 l0_1 x18_2).f2) 0 1000000000).bind fun t294 => (if t294 = true then (if (((rd_T58 l0_1 x18_2).f3).length : Int) > a0_0 then (impl_ValidPost.j2 k2 x18_2 l0_1 (l0_1.length : Int) x18_2 true a0_0 l0_1 ((rd_T58 l0_1 x18_2).f0) ((rd_T58 l0_1 x18_2).f1) ((rd_T58 l0_1 x18_2).f2) ((rd_T58 l0_1 x18_2).f3)) else ((impl_parcelsOk.f k2 ((rd_T58 l0_1 x18_2).f3)).bind fun t295 => (impl_ValidPost.j2 k2 x18_2 l0_1 (l0_1.length : Int) x18_2 (!t295) a0_0 l0_1 ((rd_T58 l0_1 x18_2).f0) ((rd_T58 l0_1 x18_2).f1) ((rd_T58 l0_1 x18_2).f2) ((rd_T58 l0_1 x18_2).f3)))) else (impl_ValidPost.j2 k2 x18_2 l0_1 (l0_1.length : Int) x18_2 true a0_0 l0_1 ((rd_T58 l0_1 x18_2).f0) ((rd_T58 l0_1 x18_2).f1) ((rd_T58 l0_1 x18_2).f2) ((rd_T58 l0_1 x18_2).f3)))) else (impl_ValidPost.j2 k2 x18_2 l0_1 (l0_1.length : Int) x18_2 true a0_0 l0_1 ((rd_T58 l0_1 x18_2).f0) ((rd_T58 l0_1 x18_2).f1) ((rd_T58 l0_1 x18_2).f2) ((rd_T58 l0_1 x18_2).f3)))) else (impl_ValidPost.j2 k2 x18_2 l0_1 (l0_1.length : Int) x18_2 true a0_0 l0_1 ((rd_T58 l0_1 x18_2).f0) ((rd_T58 l0_1 x18_2).f1) ((rd_T58 l0_1 x18_2).f2) ((rd_T58 l0_1 x18_2).f3))) = some r := H
 have A17 := Aside0.mk A170
 clear A170
 by_cases c18 : t292 = true
 {
 subst c18
 have H1 : ((impl_isMember.f ((rd_T58 l0_1 x18_2).f1)).bind fun t293 => (if t293 = true then ((impl_in.f ((rd_T58 l0_1 x18_2).f2) 0 1000000000).bind fun t294 => (if t294 = true then (if (((rd_T58 l0_1 x18_2).f3).length : Int) > a0_0 then (impl_ValidPost.j2 k2 x18_2 l0_1 (l0_1.length : Int) x18_2 true a0_0 l0_1 ((rd_T58 l0_1 x18_2).f0) ((rd_T58 l0_1 x18_2).f1) ((rd_T58 l0_1 x18_2).f2) ((rd_T58 l0_1 x18_2).f3)) else ((impl_parcelsOk.f k2 ((rd_T58 l0_1 x18_2).f3)).bind fun t295 => (impl_ValidPost.j2 k2 x18_2 l0_1 (l0_1.length : Int) x18_2 (!t295) a0_0 l0_1 ((rd_T58 l0_1 x18_2).f0) ((rd_T58 l0_1 x18_2).f1) ((rd_T58 l0_1 x18_2).f2) ((rd_T58 l0_1 x18_2).f3)))) else (impl_ValidPost.j2 k2 x18_2 l0_1 (l0_1.length : Int) x18_2 true a0_0 l0_1 ((rd_T58 l0_1 x18_2).f0) ((rd_T58 l0_1 x18_2).f1) ((rd_T58 l0_1 x18_2).f2) ((rd_T58 l0_1 x18_2).f3)))) else (impl_ValidPost.j2 k2 x18_2 l0_1 (l0_1.length : Int) x18_2 true a0_0 l0_1 ((rd_T58 l0_1 x18_2).f0) ((rd_T58 l0_1 x18_2).f1) ((rd_T58 l0_1 x18_2).f2) ((rd_T58 l0_1 x18_2).f3)))) = some r := by rw [if_pos rfl] at H; exact H
 clear H
 have H := H1
 clear H1
 replace H := Option.bind_eq_some_iff.mp H
 obtain ⟨t293, A190, H⟩ := H
 replace H : (if t293 = true then ((impl_in.f ((rd_T58 l0_1 x18_2).f2) 0 1000000000).bind fun t294 => (if t294 = true then (if (((rd_T58 l0_1 x18_2).f3).length : Int) > a0_0 then (impl_ValidPost.j2 k2 x18_2 l0_1 (l0_1.length : Int) x18_2 true a0_0 l0_1 ((rd_T58 l0_1 x18_2).f0) ((rd_T58 l0_1 x18_2).f1) ((rd_T58 l0_1 x18_2).f2) ((rd_T58 l0_1 x18_2).f3)) else ((impl_parcelsOk.f k2 ((rd_T58 l0_1 x18_2).f3)).bind fun t295 => (impl_ValidPost.j2 k2 x18_2 l0_1 (l0_1.length : Int) x18_2 (!t295) a0_0 l0_1 ((rd_T58 l0_1 x18_2).f0) ((rd_T58 l0_1 x18_2).f1) ((rd_T58 l0_1 x18_2).f2) ((rd_T58 l0_1 x18_2).f3)))) else (impl_ValidPost.j2 k2 x18_2 l0_1 (l0_1.length : Int) x18_2 true a0_0 l0_1 ((rd_T58 l0_1 x18_2).f0) ((rd_T58 l0_1 x18_2).f1) ((rd_T58 l0_1 x18_2).f2) ((rd_T58 l0_1 x18_2).f3)))) else (impl_ValidPost.j2 k2 x18_2 l0_1 (l0_1.length : Int) x18_2 true a0_0 l0_1 ((rd_T58 l0_1 x18_2).f0) ((rd_T58 l0_1 x18_2).f1) ((rd_T58 l0_1 x18_2).f2) ((rd_T58 l0_1 x18_2).f3))) = some r := H
 have A19 := Aside0.mk A190
 clear A190
 by_cases c20 : t293 = true
 {
 subst c20
 have H1 : ((impl_in.f ((rd_T58 l0_1 x18_2).f2) 0 1000000000).bind fun t294 => (if t294 = true then (if (((rd_T58 l0_1 x18_2).f3).length : Int) > a0_0 then (impl_ValidPost.j2 k2 x18_2 l0_1 (l0_1.length : Int) x18_2 true a0_0 l0_1 ((rd_T58 l0_1 x18_2).f0) ((rd_T58 l0_1 x18_2).f1) ((rd_T58 l0_1 x18_2).f2) ((rd_T58 l0_1 x18_2).f3)) else ((impl_parcelsOk.f k2 ((rd_T58 l0_1 x18_2).f3)).bind fun t295 => (impl_ValidPost.j2 k2 x18_2 l0_1 (l0_1.length : Int) x18_2 (!t295) a0_0 l0_1 ((rd_T58 l0_1 x18_2).f0) ((rd_T58 l0_1 x18_2).f1) ((rd_T58 l0_1 x18_2).f2) ((rd_T58 l0_1 x18_2).f3)))) else (impl_ValidPost.j2 k2 x18_2 l0_1 (l0_1.length : Int) x18_2 true a0_0 l0_1 ((rd_T58 l0_1 x18_2).f0) ((rd_T58 l0_1 x18_2).f1) ((rd_T58 l0_1 x18_2).f2) ((rd_T58 l0_1 x18_2).f3)))) = some r := by rw [if_pos rfl] at H; exact H
 clear H
 have H := H1
 clear H1
 replace H := Option.bind_eq_some_iff.mp H
 obtain ⟨t294, A210, H⟩ := H
 replace H : (if t294 = true then (if (((rd_T58 l0_1 x18_2).f3).length : Int) > a0_0 then (impl_ValidPost.j2 k2 x18_2 l0_1 (l0_1.length : Int) x18_2 true a0_0 l0_1 ((rd_T58 l0_1 x18_2).f0) ((rd_T58 l0_1 x18_2).f1) ((rd_T58 l0_1 x18_2).f2) ((rd_T58 l0_1 x18_2).f3)) else ((impl_parcelsOk.f k2 ((rd_T58 l0_1 x18_2).f3)).bind fun t295 => (impl_ValidPost.j2 k2 x18_2 l0_1 (l0_1.length : Int) x18_2 (!t295) a0_0 l0_1 ((rd_T58 l0_1 x18_2).f0) ((rd_T58 l0_1 x18_2).f1) ((rd_T58 l0_1 x18_2).f2) ((rd_T58 l0_1 x18_2).f3)))) else (impl_ValidPost.j2 k2 x18_2 l0_1 (l0_1.length : Int) x18_2 true a0_0 l0_1 ((rd_T58 l0_1 x18_2).f0) ((rd_T58 l0_1 x18_2).f1) ((rd_T58 l0_1 x18_2).f2) ((rd_T58 l0_1 x18_2).f3))) = some r := H
 have A21 := Aside0.mk A210
 clear A210
 by_cases c22 : t294 = true
 {
 subst c22
 have H1 : (if (((rd_T58 l0_1 x18_2).f3).length : Int) > a0_0 then (impl_ValidPost.j2 k2 x18_2 l0_1 (l0_1.length : Int) x18_2 true a0_0 l0_1 ((rd_T58 l0_1 x18_2).f0) ((rd_T58 l0_1 x18_2).f1) ((rd_T58 l0_1 x18_2).f2) ((rd_T58 l0_1 x18_2).f3)) else ((impl_parcelsOk.f k2 ((rd_T58 l0_1 x18_2).f3)).bind fun t295 => (impl_ValidPost.j2 k2 x18_2 l0_1 (l0_1.length : Int) x18_2 (!t295) a0_0 l0_1 ((rd_T58 l0_1 x18_2).f0) ((rd_T58 l0_1 x18_2).f1) ((rd_T58 l0_1 x18_2).f2) ((rd_T58 l0_1 x18_2).f3)))) = some r := by rw [if_pos rfl] at H; exact H
 clear H
 have H := H1
 clear H1
 by_cases c23 : (((rd_T58 l0_1 x18_2).f3).length : Int) > a0_0
 {
 rw [if_pos c23] at H
 have c23b0 : decide (a0_0 < (((rd_T58 l0_1 x18_2).f3).length : Int)) = true := decide_eq_true c23
 clear c23
 (first | rw [c23b0] | (simp only [i64_w, i32_w]; rw [c23b0]) | skip)
 have H' := Aside0.mk H
 clear H
 have hnb24 := NB291_288.out
 have hnc24 := NB288_291.out
 have hcz25_0 := c1_ BK291 0 (.string (⟨#[]⟩ : ByteArray))
 have hcz25_1 := c1_ BK291 1 (.int .i64 0)
 have hcz25_2 := c1_ BK291 2 (.int .i64 0)
 have hcz25_3 := c1_ BK291 3 (.slice none 0 0)
 have hfz25_0 := f1_ BK291 0
 have hfz25_1 := f1_ BK291 1
 have hfz25_2 := f1_ BK291 2
 have hfz25_3 := f1_ BK291 3
 have hcz26_0 := c1_ BK288 0 (.int .i64 a0_0)
 have hcz26_1 := c1_ BK288 1 (.slice (some ad290) l0_1.length c0_1)
 have hfz26_0 := f1_ BK288 0
 have hfz26_1 := f1_ BK288 1
 go_wp2_with (first | (go_at_call 70; (with_reducible refine (impl_IsToken.calls ((rd_T58 l0_1 x18_2).f0) true _ A17.out).mono ?_); rintro e w' ⟨rfl, ⟨nd, rfl⟩⟩; (try first | exact ⟨rfl, _, World.drewN_drewN _ _ _⟩ | exact ⟨rfl, _, Eq.trans (World.drewN_drewN _ _ _) (congrArg (World.drewN _) (Nat.add_assoc _ _ _))⟩)) | (go_at_call 32; (with_reducible refine (impl_isMember.calls ((rd_T58 l0_1 x18_2).f1) true _ A19.out).mono ?_); rintro e w' ⟨rfl, ⟨nd, rfl⟩⟩; (try first | exact ⟨rfl, _, World.drewN_drewN _ _ _⟩ | exact ⟨rfl, _, Eq.trans (World.drewN_drewN _ _ _) (congrArg (World.drewN _) (Nat.add_assoc _ _ _))⟩)) | (go_at_call 31; (with_reducible refine (impl_in.calls ((rd_T58 l0_1 x18_2).f2) 0 1000000000 true _ A21.out).mono ?_); rintro e w' ⟨rfl, ⟨nd, rfl⟩⟩; (try first | exact ⟨rfl, _, World.drewN_drewN _ _ _⟩ | exact ⟨rfl, _, Eq.trans (World.drewN_drewN _ _ _) (congrArg (World.drewN _) (Nat.add_assoc _ _ _))⟩)))
 repeat (go_quiet (first | (go_at_call 70; (with_reducible refine (impl_IsToken.calls ((rd_T58 l0_1 x18_2).f0) true _ A17.out).mono ?_); rintro e w' ⟨rfl, ⟨nd, rfl⟩⟩; (try first | exact ⟨rfl, _, World.drewN_drewN _ _ _⟩ | exact ⟨rfl, _, Eq.trans (World.drewN_drewN _ _ _) (congrArg (World.drewN _) (Nat.add_assoc _ _ _))⟩)) | (go_at_call 32; (with_reducible refine (impl_isMember.calls ((rd_T58 l0_1 x18_2).f1) true _ A19.out).mono ?_); rintro e w' ⟨rfl, ⟨nd, rfl⟩⟩; (try first | exact ⟨rfl, _, World.drewN_drewN _ _ _⟩ | exact ⟨rfl, _, Eq.trans (World.drewN_drewN _ _ _) (congrArg (World.drewN _) (Nat.add_assoc _ _ _))⟩)) | (go_at_call 31; (with_reducible refine (impl_in.calls ((rd_T58 l0_1 x18_2).f2) 0 1000000000 true _ A21.out).mono ?_); rintro e w' ⟨rfl, ⟨nd, rfl⟩⟩; (try first | exact ⟨rfl, _, World.drewN_drewN _ _ _⟩ | exact ⟨rfl, _, Eq.trans (World.drewN_drewN _ _ _) (congrArg (World.drewN _) (Nat.add_assoc _ _ _))⟩))); try go_wp2_with (first | (go_at_call 70; (with_reducible refine (impl_IsToken.calls ((rd_T58 l0_1 x18_2).f0) true _ A17.out).mono ?_); rintro e w' ⟨rfl, ⟨nd, rfl⟩⟩; (try first | exact ⟨rfl, _, World.drewN_drewN _ _ _⟩ | exact ⟨rfl, _, Eq.trans (World.drewN_drewN _ _ _) (congrArg (World.drewN _) (Nat.add_assoc _ _ _))⟩)) | (go_at_call 32; (with_reducible refine (impl_isMember.calls ((rd_T58 l0_1 x18_2).f1) true _ A19.out).mono ?_); rintro e w' ⟨rfl, ⟨nd, rfl⟩⟩; (try first | exact ⟨rfl, _, World.drewN_drewN _ _ _⟩ | exact ⟨rfl, _, Eq.trans (World.drewN_drewN _ _ _) (congrArg (World.drewN _) (Nat.add_assoc _ _ _))⟩)) | (go_at_call 31; (with_reducible refine (impl_in.calls ((rd_T58 l0_1 x18_2).f2) 0 1000000000 true _ A21.out).mono ?_); rintro e w' ⟨rfl, ⟨nd, rfl⟩⟩; (try first | exact ⟨rfl, _, World.drewN_drewN _ _ _⟩ | exact ⟨rfl, _, Eq.trans (World.drewN_drewN _ _ _) (congrArg (World.drewN _) (Nat.add_assoc _ _ _))⟩))))
 go_meet
 case rel => exact ⟨_, (true), s1_, H', ⟨by have := HJ1.out; have := HK2.out; first | omega | exact Nat.le_refl _⟩, ⟨by (with_reducible repeat (first | refine blk_drewN ?_ _ | refine blk_drew ?_ | refine blk_alloc ?_ _)); refine blk_far3 ?_ NB288_291.out; (with_reducible repeat (first | refine blk_drewN ?_ _ | refine blk_drew ?_ | refine blk_alloc ?_ _)); refine blk_far ?_ NB288_291.out _; (with_reducible repeat (first | refine blk_drewN ?_ _ | refine blk_drew ?_ | refine blk_alloc ?_ _)); exact BK288.out⟩, ⟨by (with_reducible repeat (first | refine blk_drewN ?_ _ | refine blk_drew ?_ | refine blk_alloc ?_ _)); refine blk_put3 (cs := #[.string ((rd_T58 l0_1 x18_2).f0), .int .i64 0, .int .i64 0, .slice none 0 0]) ?_ rfl; (with_reducible repeat (first | refine blk_drewN ?_ _ | refine blk_drew ?_ | refine blk_alloc ?_ _)); refine blk_put (cs := #[.string (⟨#[]⟩ : ByteArray), .int .i64 0, .int .i64 0, .slice none 0 0]) ?_ 0 _ rfl; (with_reducible repeat (first | refine blk_drewN ?_ _ | refine blk_drew ?_ | refine blk_alloc ?_ _)); exact BK291.out⟩, ⟨by repeat (first | (with_reducible first | exact HB.out | apply below_alloc | apply pw_below_drewN | apply below_drew1 | refine below_set ?_ GE291.out) | exact HB.out)⟩⟩}
 {
 rw [if_neg c23] at H
 have c23b0 : decide (a0_0 < (((rd_T58 l0_1 x18_2).f3).length : Int)) = false := decide_eq_false c23
 clear c23
 (first | rw [c23b0] | (simp only [i64_w, i32_w]; rw [c23b0]) | skip)
 replace H := Option.bind_eq_some_iff.mp H
 obtain ⟨t295, A270, H⟩ := H
 replace H : (impl_ValidPost.j2 k2 x18_2 l0_1 (l0_1.length : Int) x18_2 (!t295) a0_0 l0_1 ((rd_T58 l0_1 x18_2).f0) ((rd_T58 l0_1 x18_2).f1) ((rd_T58 l0_1 x18_2).f2) ((rd_T58 l0_1 x18_2).f3)) = some r := H
 have A27 := Aside0.mk A270
 clear A270
 have H' := Aside0.mk H
 clear H
 have hnb28 := NB291_288.out
 have hnc28 := NB288_291.out
 have hcz29_0 := c1_ BK291 0 (.string (⟨#[]⟩ : ByteArray))
 have hcz29_1 := c1_ BK291 1 (.int .i64 0)
 have hcz29_2 := c1_ BK291 2 (.int .i64 0)
 have hcz29_3 := c1_ BK291 3 (.slice none 0 0)
 have hfz29_0 := f1_ BK291 0
 have hfz29_1 := f1_ BK291 1
 have hfz29_2 := f1_ BK291 2
 have hfz29_3 := f1_ BK291 3
 have hcz30_0 := c1_ BK288 0 (.int .i64 a0_0)
 have hcz30_1 := c1_ BK288 1 (.slice (some ad290) l0_1.length c0_1)
 have hfz30_0 := f1_ BK288 0
 have hfz30_1 := f1_ BK288 1
 go_wp2_with (first | (go_at_call 70; (with_reducible refine (impl_IsToken.calls ((rd_T58 l0_1 x18_2).f0) true _ A17.out).mono ?_); rintro e w' ⟨rfl, ⟨nd, rfl⟩⟩; (try first | exact ⟨rfl, _, World.drewN_drewN _ _ _⟩ | exact ⟨rfl, _, Eq.trans (World.drewN_drewN _ _ _) (congrArg (World.drewN _) (Nat.add_assoc _ _ _))⟩)) | (go_at_call 32; (with_reducible refine (impl_isMember.calls ((rd_T58 l0_1 x18_2).f1) true _ A19.out).mono ?_); rintro e w' ⟨rfl, ⟨nd, rfl⟩⟩; (try first | exact ⟨rfl, _, World.drewN_drewN _ _ _⟩ | exact ⟨rfl, _, Eq.trans (World.drewN_drewN _ _ _) (congrArg (World.drewN _) (Nat.add_assoc _ _ _))⟩)) | (go_at_call 31; (with_reducible refine (impl_in.calls ((rd_T58 l0_1 x18_2).f2) 0 1000000000 true _ A21.out).mono ?_); rintro e w' ⟨rfl, ⟨nd, rfl⟩⟩; (try first | exact ⟨rfl, _, World.drewN_drewN _ _ _⟩ | exact ⟨rfl, _, Eq.trans (World.drewN_drewN _ _ _) (congrArg (World.drewN _) (Nat.add_assoc _ _ _))⟩)) | (go_at_call 67; (with_reducible refine (impl_parcelsOk.calls k2 _ _ ((rd_T58 l0_1 x18_2).f3) t295 _ ?side1 ?side2 A27.out).mono ?_); (case side1 => exact Kd.C_below HR290_3.out (by repeat (first | (with_reducible first | exact HB.out | apply below_alloc | apply pw_below_drewN | apply below_drew1 | refine below_set ?_ GE291.out) | exact HB.out))); (case side2 => exact HC290_3.out); rintro e w31 ⟨rfl, hb⟩; replace BK288 := Aside0.mk (blk_below (g := gb288) (o := .cells #[.int .i64 a0_0, .slice (some ad290) l0_1.length c0_1] 54 (0, 0)) (by (with_reducible repeat (first | refine blk_drewN ?_ _ | refine blk_drew ?_ | refine blk_alloc ?_ _)); refine blk_far3 ?_ NB288_291.out; (with_reducible repeat (first | refine blk_drewN ?_ _ | refine blk_drew ?_ | refine blk_alloc ?_ _)); refine blk_far ?_ NB288_291.out _; (with_reducible repeat (first | refine blk_drewN ?_ _ | refine blk_drew ?_ | refine blk_alloc ?_ _)); exact BK288.out) hb); replace BK291 := Aside0.mk (blk_below (g := gb291) (o := .cells #[.string ((rd_T58 l0_1 x18_2).f0), .int .i64 ((rd_T58 l0_1 x18_2).f1), .int .i64 ((rd_T58 l0_1 x18_2).f2), .slice A290_3 ((rd_T58 l0_1 x18_2).f3).length c290_3] 58 (0, 0)) (by (with_reducible repeat (first | refine blk_drewN ?_ _ | refine blk_drew ?_ | refine blk_alloc ?_ _)); refine blk_put3 (cs := #[.string ((rd_T58 l0_1 x18_2).f0), .int .i64 0, .int .i64 0, .slice none 0 0]) ?_ rfl; (with_reducible repeat (first | refine blk_drewN ?_ _ | refine blk_drew ?_ | refine blk_alloc ?_ _)); refine blk_put (cs := #[.string (⟨#[]⟩ : ByteArray), .int .i64 0, .int .i64 0, .slice none 0 0]) ?_ 0 _ rfl; (with_reducible repeat (first | refine blk_drewN ?_ _ | refine blk_drew ?_ | refine blk_alloc ?_ _)); exact BK291.out) hb); replace HB := Aside0.mk (below_step (by repeat (first | (with_reducible first | exact HB.out | apply below_alloc | apply pw_below_drewN | apply below_drew1 | refine below_set ?_ GE291.out) | exact HB.out)) hb); (try clear hb); (try clear hb2); (try clear hk); (try clear hi)))
 repeat (go_quiet (first | (go_at_call 70; (with_reducible refine (impl_IsToken.calls ((rd_T58 l0_1 x18_2).f0) true _ A17.out).mono ?_); rintro e w' ⟨rfl, ⟨nd, rfl⟩⟩; (try first | exact ⟨rfl, _, World.drewN_drewN _ _ _⟩ | exact ⟨rfl, _, Eq.trans (World.drewN_drewN _ _ _) (congrArg (World.drewN _) (Nat.add_assoc _ _ _))⟩)) | (go_at_call 32; (with_reducible refine (impl_isMember.calls ((rd_T58 l0_1 x18_2).f1) true _ A19.out).mono ?_); rintro e w' ⟨rfl, ⟨nd, rfl⟩⟩; (try first | exact ⟨rfl, _, World.drewN_drewN _ _ _⟩ | exact ⟨rfl, _, Eq.trans (World.drewN_drewN _ _ _) (congrArg (World.drewN _) (Nat.add_assoc _ _ _))⟩)) | (go_at_call 31; (with_reducible refine (impl_in.calls ((rd_T58 l0_1 x18_2).f2) 0 1000000000 true _ A21.out).mono ?_); rintro e w' ⟨rfl, ⟨nd, rfl⟩⟩; (try first | exact ⟨rfl, _, World.drewN_drewN _ _ _⟩ | exact ⟨rfl, _, Eq.trans (World.drewN_drewN _ _ _) (congrArg (World.drewN _) (Nat.add_assoc _ _ _))⟩)) | (go_at_call 67; (with_reducible refine (impl_parcelsOk.calls k2 _ _ ((rd_T58 l0_1 x18_2).f3) t295 _ ?side1 ?side2 A27.out).mono ?_); (case side1 => exact Kd.C_below HR290_3.out (by repeat (first | (with_reducible first | exact HB.out | apply below_alloc | apply pw_below_drewN | apply below_drew1 | refine below_set ?_ GE291.out) | exact HB.out))); (case side2 => exact HC290_3.out); rintro e w31 ⟨rfl, hb⟩; replace BK288 := Aside0.mk (blk_below (g := gb288) (o := .cells #[.int .i64 a0_0, .slice (some ad290) l0_1.length c0_1] 54 (0, 0)) (by (with_reducible repeat (first | refine blk_drewN ?_ _ | refine blk_drew ?_ | refine blk_alloc ?_ _)); refine blk_far3 ?_ NB288_291.out; (with_reducible repeat (first | refine blk_drewN ?_ _ | refine blk_drew ?_ | refine blk_alloc ?_ _)); refine blk_far ?_ NB288_291.out _; (with_reducible repeat (first | refine blk_drewN ?_ _ | refine blk_drew ?_ | refine blk_alloc ?_ _)); exact BK288.out) hb); replace BK291 := Aside0.mk (blk_below (g := gb291) (o := .cells #[.string ((rd_T58 l0_1 x18_2).f0), .int .i64 ((rd_T58 l0_1 x18_2).f1), .int .i64 ((rd_T58 l0_1 x18_2).f2), .slice A290_3 ((rd_T58 l0_1 x18_2).f3).length c290_3] 58 (0, 0)) (by (with_reducible repeat (first | refine blk_drewN ?_ _ | refine blk_drew ?_ | refine blk_alloc ?_ _)); refine blk_put3 (cs := #[.string ((rd_T58 l0_1 x18_2).f0), .int .i64 0, .int .i64 0, .slice none 0 0]) ?_ rfl; (with_reducible repeat (first | refine blk_drewN ?_ _ | refine blk_drew ?_ | refine blk_alloc ?_ _)); refine blk_put (cs := #[.string (⟨#[]⟩ : ByteArray), .int .i64 0, .int .i64 0, .slice none 0 0]) ?_ 0 _ rfl; (with_reducible repeat (first | refine blk_drewN ?_ _ | refine blk_drew ?_ | refine blk_alloc ?_ _)); exact BK291.out) hb); replace HB := Aside0.mk (below_step (by repeat (first | (with_reducible first | exact HB.out | apply below_alloc | apply pw_below_drewN | apply below_drew1 | refine below_set ?_ GE291.out) | exact HB.out)) hb); (try clear hb); (try clear hb2); (try clear hk); (try clear hi))); try go_wp2_with (first | (go_at_call 70; (with_reducible refine (impl_IsToken.calls ((rd_T58 l0_1 x18_2).f0) true _ A17.out).mono ?_); rintro e w' ⟨rfl, ⟨nd, rfl⟩⟩; (try first | exact ⟨rfl, _, World.drewN_drewN _ _ _⟩ | exact ⟨rfl, _, Eq.trans (World.drewN_drewN _ _ _) (congrArg (World.drewN _) (Nat.add_assoc _ _ _))⟩)) | (go_at_call 32; (with_reducible refine (impl_isMember.calls ((rd_T58 l0_1 x18_2).f1) true _ A19.out).mono ?_); rintro e w' ⟨rfl, ⟨nd, rfl⟩⟩; (try first | exact ⟨rfl, _, World.drewN_drewN _ _ _⟩ | exact ⟨rfl, _, Eq.trans (World.drewN_drewN _ _ _) (congrArg (World.drewN _) (Nat.add_assoc _ _ _))⟩)) | (go_at_call 31; (with_reducible refine (impl_in.calls ((rd_T58 l0_1 x18_2).f2) 0 1000000000 true _ A21.out).mono ?_); rintro e w' ⟨rfl, ⟨nd, rfl⟩⟩; (try first | exact ⟨rfl, _, World.drewN_drewN _ _ _⟩ | exact ⟨rfl, _, Eq.trans (World.drewN_drewN _ _ _) (congrArg (World.drewN _) (Nat.add_assoc _ _ _))⟩)) | (go_at_call 67; (with_reducible refine (impl_parcelsOk.calls k2 _ _ ((rd_T58 l0_1 x18_2).f3) t295 _ ?side1 ?side2 A27.out).mono ?_); (case side1 => exact Kd.C_below HR290_3.out (by repeat (first | (with_reducible first | exact HB.out | apply below_alloc | apply pw_below_drewN | apply below_drew1 | refine below_set ?_ GE291.out) | exact HB.out))); (case side2 => exact HC290_3.out); rintro e w31 ⟨rfl, hb⟩; replace BK288 := Aside0.mk (blk_below (g := gb288) (o := .cells #[.int .i64 a0_0, .slice (some ad290) l0_1.length c0_1] 54 (0, 0)) (by (with_reducible repeat (first | refine blk_drewN ?_ _ | refine blk_drew ?_ | refine blk_alloc ?_ _)); refine blk_far3 ?_ NB288_291.out; (with_reducible repeat (first | refine blk_drewN ?_ _ | refine blk_drew ?_ | refine blk_alloc ?_ _)); refine blk_far ?_ NB288_291.out _; (with_reducible repeat (first | refine blk_drewN ?_ _ | refine blk_drew ?_ | refine blk_alloc ?_ _)); exact BK288.out) hb); replace BK291 := Aside0.mk (blk_below (g := gb291) (o := .cells #[.string ((rd_T58 l0_1 x18_2).f0), .int .i64 ((rd_T58 l0_1 x18_2).f1), .int .i64 ((rd_T58 l0_1 x18_2).f2), .slice A290_3 ((rd_T58 l0_1 x18_2).f3).length c290_3] 58 (0, 0)) (by (with_reducible repeat (first | refine blk_drewN ?_ _ | refine blk_drew ?_ | refine blk_alloc ?_ _)); refine blk_put3 (cs := #[.string ((rd_T58 l0_1 x18_2).f0), .int .i64 0, .int .i64 0, .slice none 0 0]) ?_ rfl; (with_reducible repeat (first | refine blk_drewN ?_ _ | refine blk_drew ?_ | refine blk_alloc ?_ _)); refine blk_put (cs := #[.string (⟨#[]⟩ : ByteArray), .int .i64 0, .int .i64 0, .slice none 0 0]) ?_ 0 _ rfl; (with_reducible repeat (first | refine blk_drewN ?_ _ | refine blk_drew ?_ | refine blk_alloc ?_ _)); exact BK291.out) hb); replace HB := Aside0.mk (below_step (by repeat (first | (with_reducible first | exact HB.out | apply below_alloc | apply pw_below_drewN | apply below_drew1 | refine below_set ?_ GE291.out) | exact HB.out)) hb); (try clear hb); (try clear hb2); (try clear hk); (try clear hi))))
 go_meet
 case rel => exact ⟨_, (!t295), s1_, H', ⟨by have := HJ1.out; have := HK2.out; first | omega | exact Nat.le_refl _⟩, ⟨b1_ BK288.out⟩, ⟨b1_ BK291.out⟩, ⟨by repeat (first | (with_reducible first | exact HB.out | apply below_alloc | apply pw_below_drewN | apply below_drew1) | exact HB.out)⟩⟩}}
 {
 replace c22 := Bool.eq_false_iff.mpr c22
 subst c22
 have H1 : (impl_ValidPost.j2 k2 x18_2 l0_1 (l0_1.length : Int) x18_2 true a0_0 l0_1 ((rd_T58 l0_1 x18_2).f0) ((rd_T58 l0_1 x18_2).f1) ((rd_T58 l0_1 x18_2).f2) ((rd_T58 l0_1 x18_2).f3)) = some r := by rw [if_neg (show ¬ (false = true) by decide)] at H; exact H
 clear H
 have H := H1
 clear H1
 have H' := Aside0.mk H
 clear H
 have hnb32 := NB291_288.out
 have hnc32 := NB288_291.out
 have hcz33_0 := c1_ BK291 0 (.string (⟨#[]⟩ : ByteArray))
 have hcz33_1 := c1_ BK291 1 (.int .i64 0)
 have hcz33_2 := c1_ BK291 2 (.int .i64 0)
 have hcz33_3 := c1_ BK291 3 (.slice none 0 0)
 have hfz33_0 := f1_ BK291 0
 have hfz33_1 := f1_ BK291 1
 have hfz33_2 := f1_ BK291 2
 have hfz33_3 := f1_ BK291 3
 go_wp2_with (first | (go_at_call 70; (with_reducible refine (impl_IsToken.calls ((rd_T58 l0_1 x18_2).f0) true _ A17.out).mono ?_); rintro e w' ⟨rfl, ⟨nd, rfl⟩⟩; (try first | exact ⟨rfl, _, World.drewN_drewN _ _ _⟩ | exact ⟨rfl, _, Eq.trans (World.drewN_drewN _ _ _) (congrArg (World.drewN _) (Nat.add_assoc _ _ _))⟩)) | (go_at_call 32; (with_reducible refine (impl_isMember.calls ((rd_T58 l0_1 x18_2).f1) true _ A19.out).mono ?_); rintro e w' ⟨rfl, ⟨nd, rfl⟩⟩; (try first | exact ⟨rfl, _, World.drewN_drewN _ _ _⟩ | exact ⟨rfl, _, Eq.trans (World.drewN_drewN _ _ _) (congrArg (World.drewN _) (Nat.add_assoc _ _ _))⟩)) | (go_at_call 31; (with_reducible refine (impl_in.calls ((rd_T58 l0_1 x18_2).f2) 0 1000000000 false _ A21.out).mono ?_); rintro e w' ⟨rfl, ⟨nd, rfl⟩⟩; (try first | exact ⟨rfl, _, World.drewN_drewN _ _ _⟩ | exact ⟨rfl, _, Eq.trans (World.drewN_drewN _ _ _) (congrArg (World.drewN _) (Nat.add_assoc _ _ _))⟩)))
 repeat (go_quiet (first | (go_at_call 70; (with_reducible refine (impl_IsToken.calls ((rd_T58 l0_1 x18_2).f0) true _ A17.out).mono ?_); rintro e w' ⟨rfl, ⟨nd, rfl⟩⟩; (try first | exact ⟨rfl, _, World.drewN_drewN _ _ _⟩ | exact ⟨rfl, _, Eq.trans (World.drewN_drewN _ _ _) (congrArg (World.drewN _) (Nat.add_assoc _ _ _))⟩)) | (go_at_call 32; (with_reducible refine (impl_isMember.calls ((rd_T58 l0_1 x18_2).f1) true _ A19.out).mono ?_); rintro e w' ⟨rfl, ⟨nd, rfl⟩⟩; (try first | exact ⟨rfl, _, World.drewN_drewN _ _ _⟩ | exact ⟨rfl, _, Eq.trans (World.drewN_drewN _ _ _) (congrArg (World.drewN _) (Nat.add_assoc _ _ _))⟩)) | (go_at_call 31; (with_reducible refine (impl_in.calls ((rd_T58 l0_1 x18_2).f2) 0 1000000000 false _ A21.out).mono ?_); rintro e w' ⟨rfl, ⟨nd, rfl⟩⟩; (try first | exact ⟨rfl, _, World.drewN_drewN _ _ _⟩ | exact ⟨rfl, _, Eq.trans (World.drewN_drewN _ _ _) (congrArg (World.drewN _) (Nat.add_assoc _ _ _))⟩))); try go_wp2_with (first | (go_at_call 70; (with_reducible refine (impl_IsToken.calls ((rd_T58 l0_1 x18_2).f0) true _ A17.out).mono ?_); rintro e w' ⟨rfl, ⟨nd, rfl⟩⟩; (try first | exact ⟨rfl, _, World.drewN_drewN _ _ _⟩ | exact ⟨rfl, _, Eq.trans (World.drewN_drewN _ _ _) (congrArg (World.drewN _) (Nat.add_assoc _ _ _))⟩)) | (go_at_call 32; (with_reducible refine (impl_isMember.calls ((rd_T58 l0_1 x18_2).f1) true _ A19.out).mono ?_); rintro e w' ⟨rfl, ⟨nd, rfl⟩⟩; (try first | exact ⟨rfl, _, World.drewN_drewN _ _ _⟩ | exact ⟨rfl, _, Eq.trans (World.drewN_drewN _ _ _) (congrArg (World.drewN _) (Nat.add_assoc _ _ _))⟩)) | (go_at_call 31; (with_reducible refine (impl_in.calls ((rd_T58 l0_1 x18_2).f2) 0 1000000000 false _ A21.out).mono ?_); rintro e w' ⟨rfl, ⟨nd, rfl⟩⟩; (try first | exact ⟨rfl, _, World.drewN_drewN _ _ _⟩ | exact ⟨rfl, _, Eq.trans (World.drewN_drewN _ _ _) (congrArg (World.drewN _) (Nat.add_assoc _ _ _))⟩))))
 go_meet
 case rel => exact ⟨_, (true), s1_, H', ⟨by have := HJ1.out; have := HK2.out; first | omega | exact Nat.le_refl _⟩, ⟨by (with_reducible repeat (first | refine blk_drewN ?_ _ | refine blk_drew ?_ | refine blk_alloc ?_ _)); refine blk_far3 ?_ NB288_291.out; (with_reducible repeat (first | refine blk_drewN ?_ _ | refine blk_drew ?_ | refine blk_alloc ?_ _)); refine blk_far ?_ NB288_291.out _; (with_reducible repeat (first | refine blk_drewN ?_ _ | refine blk_drew ?_ | refine blk_alloc ?_ _)); exact BK288.out⟩, ⟨by (with_reducible repeat (first | refine blk_drewN ?_ _ | refine blk_drew ?_ | refine blk_alloc ?_ _)); refine blk_put3 (cs := #[.string ((rd_T58 l0_1 x18_2).f0), .int .i64 0, .int .i64 0, .slice none 0 0]) ?_ rfl; (with_reducible repeat (first | refine blk_drewN ?_ _ | refine blk_drew ?_ | refine blk_alloc ?_ _)); refine blk_put (cs := #[.string (⟨#[]⟩ : ByteArray), .int .i64 0, .int .i64 0, .slice none 0 0]) ?_ 0 _ rfl; (with_reducible repeat (first | refine blk_drewN ?_ _ | refine blk_drew ?_ | refine blk_alloc ?_ _)); exact BK291.out⟩, ⟨by repeat (first | (with_reducible first | exact HB.out | apply below_alloc | apply pw_below_drewN | apply below_drew1 | refine below_set ?_ GE291.out) | exact HB.out)⟩⟩}}
 {
 replace c20 := Bool.eq_false_iff.mpr c20
 subst c20
 have H1 : (impl_ValidPost.j2 k2 x18_2 l0_1 (l0_1.length : Int) x18_2 true a0_0 l0_1 ((rd_T58 l0_1 x18_2).f0) ((rd_T58 l0_1 x18_2).f1) ((rd_T58 l0_1 x18_2).f2) ((rd_T58 l0_1 x18_2).f3)) = some r := by rw [if_neg (show ¬ (false = true) by decide)] at H; exact H
 clear H
 have H := H1
 clear H1
 have H' := Aside0.mk H
 clear H
 have hnb34 := NB291_288.out
 have hnc34 := NB288_291.out
 have hcz35_0 := c1_ BK291 0 (.string (⟨#[]⟩ : ByteArray))
 have hcz35_1 := c1_ BK291 1 (.int .i64 0)
 have hcz35_2 := c1_ BK291 2 (.int .i64 0)
 have hcz35_3 := c1_ BK291 3 (.slice none 0 0)
 have hfz35_0 := f1_ BK291 0
 have hfz35_1 := f1_ BK291 1
 have hfz35_2 := f1_ BK291 2
 have hfz35_3 := f1_ BK291 3
 go_wp2_with (first | (go_at_call 70; (with_reducible refine (impl_IsToken.calls ((rd_T58 l0_1 x18_2).f0) true _ A17.out).mono ?_); rintro e w' ⟨rfl, ⟨nd, rfl⟩⟩; (try first | exact ⟨rfl, _, World.drewN_drewN _ _ _⟩ | exact ⟨rfl, _, Eq.trans (World.drewN_drewN _ _ _) (congrArg (World.drewN _) (Nat.add_assoc _ _ _))⟩)) | (go_at_call 32; (with_reducible refine (impl_isMember.calls ((rd_T58 l0_1 x18_2).f1) false _ A19.out).mono ?_); rintro e w' ⟨rfl, ⟨nd, rfl⟩⟩; (try first | exact ⟨rfl, _, World.drewN_drewN _ _ _⟩ | exact ⟨rfl, _, Eq.trans (World.drewN_drewN _ _ _) (congrArg (World.drewN _) (Nat.add_assoc _ _ _))⟩)))
 repeat (go_quiet (first | (go_at_call 70; (with_reducible refine (impl_IsToken.calls ((rd_T58 l0_1 x18_2).f0) true _ A17.out).mono ?_); rintro e w' ⟨rfl, ⟨nd, rfl⟩⟩; (try first | exact ⟨rfl, _, World.drewN_drewN _ _ _⟩ | exact ⟨rfl, _, Eq.trans (World.drewN_drewN _ _ _) (congrArg (World.drewN _) (Nat.add_assoc _ _ _))⟩)) | (go_at_call 32; (with_reducible refine (impl_isMember.calls ((rd_T58 l0_1 x18_2).f1) false _ A19.out).mono ?_); rintro e w' ⟨rfl, ⟨nd, rfl⟩⟩; (try first | exact ⟨rfl, _, World.drewN_drewN _ _ _⟩ | exact ⟨rfl, _, Eq.trans (World.drewN_drewN _ _ _) (congrArg (World.drewN _) (Nat.add_assoc _ _ _))⟩))); try go_wp2_with (first | (go_at_call 70; (with_reducible refine (impl_IsToken.calls ((rd_T58 l0_1 x18_2).f0) true _ A17.out).mono ?_); rintro e w' ⟨rfl, ⟨nd, rfl⟩⟩; (try first | exact ⟨rfl, _, World.drewN_drewN _ _ _⟩ | exact ⟨rfl, _, Eq.trans (World.drewN_drewN _ _ _) (congrArg (World.drewN _) (Nat.add_assoc _ _ _))⟩)) | (go_at_call 32; (with_reducible refine (impl_isMember.calls ((rd_T58 l0_1 x18_2).f1) false _ A19.out).mono ?_); rintro e w' ⟨rfl, ⟨nd, rfl⟩⟩; (try first | exact ⟨rfl, _, World.drewN_drewN _ _ _⟩ | exact ⟨rfl, _, Eq.trans (World.drewN_drewN _ _ _) (congrArg (World.drewN _) (Nat.add_assoc _ _ _))⟩))))
 go_meet
 case rel => exact ⟨_, (true), s1_, H', ⟨by have := HJ1.out; have := HK2.out; first | omega | exact Nat.le_refl _⟩, ⟨by (with_reducible repeat (first | refine blk_drewN ?_ _ | refine blk_drew ?_ | refine blk_alloc ?_ _)); refine blk_far3 ?_ NB288_291.out; (with_reducible repeat (first | refine blk_drewN ?_ _ | refine blk_drew ?_ | refine blk_alloc ?_ _)); refine blk_far ?_ NB288_291.out _; (with_reducible repeat (first | refine blk_drewN ?_ _ | refine blk_drew ?_ | refine blk_alloc ?_ _)); exact BK288.out⟩, ⟨by (with_reducible repeat (first | refine blk_drewN ?_ _ | refine blk_drew ?_ | refine blk_alloc ?_ _)); refine blk_put3 (cs := #[.string ((rd_T58 l0_1 x18_2).f0), .int .i64 0, .int .i64 0, .slice none 0 0]) ?_ rfl; (with_reducible repeat (first | refine blk_drewN ?_ _ | refine blk_drew ?_ | refine blk_alloc ?_ _)); refine blk_put (cs := #[.string (⟨#[]⟩ : ByteArray), .int .i64 0, .int .i64 0, .slice none 0 0]) ?_ 0 _ rfl; (with_reducible repeat (first | refine blk_drewN ?_ _ | refine blk_drew ?_ | refine blk_alloc ?_ _)); exact BK291.out⟩, ⟨by repeat (first | (with_reducible first | exact HB.out | apply below_alloc | apply pw_below_drewN | apply below_drew1 | refine below_set ?_ GE291.out) | exact HB.out)⟩⟩}}
 {
 replace c18 := Bool.eq_false_iff.mpr c18
 subst c18
 have H1 : (impl_ValidPost.j2 k2 x18_2 l0_1 (l0_1.length : Int) x18_2 true a0_0 l0_1 ((rd_T58 l0_1 x18_2).f0) ((rd_T58 l0_1 x18_2).f1) ((rd_T58 l0_1 x18_2).f2) ((rd_T58 l0_1 x18_2).f3)) = some r := by rw [if_neg (show ¬ (false = true) by decide)] at H; exact H
 clear H
 have H := H1
 clear H1
 have H' := Aside0.mk H
 clear H
 have hnb36 := NB291_288.out
 have hnc36 := NB288_291.out
 have hcz37_0 := c1_ BK291 0 (.string (⟨#[]⟩ : ByteArray))
 have hcz37_1 := c1_ BK291 1 (.int .i64 0)
 have hcz37_2 := c1_ BK291 2 (.int .i64 0)
 have hcz37_3 := c1_ BK291 3 (.slice none 0 0)
 have hfz37_0 := f1_ BK291 0
 have hfz37_1 := f1_ BK291 1
 have hfz37_2 := f1_ BK291 2
 have hfz37_3 := f1_ BK291 3
 go_wp2_with (first | (go_at_call 70; (with_reducible refine (impl_IsToken.calls ((rd_T58 l0_1 x18_2).f0) false _ A17.out).mono ?_); rintro e w' ⟨rfl, ⟨nd, rfl⟩⟩; (try first | exact ⟨rfl, _, World.drewN_drewN _ _ _⟩ | exact ⟨rfl, _, Eq.trans (World.drewN_drewN _ _ _) (congrArg (World.drewN _) (Nat.add_assoc _ _ _))⟩)))
 repeat (go_quiet (first | (go_at_call 70; (with_reducible refine (impl_IsToken.calls ((rd_T58 l0_1 x18_2).f0) false _ A17.out).mono ?_); rintro e w' ⟨rfl, ⟨nd, rfl⟩⟩; (try first | exact ⟨rfl, _, World.drewN_drewN _ _ _⟩ | exact ⟨rfl, _, Eq.trans (World.drewN_drewN _ _ _) (congrArg (World.drewN _) (Nat.add_assoc _ _ _))⟩))); try go_wp2_with (first | (go_at_call 70; (with_reducible refine (impl_IsToken.calls ((rd_T58 l0_1 x18_2).f0) false _ A17.out).mono ?_); rintro e w' ⟨rfl, ⟨nd, rfl⟩⟩; (try first | exact ⟨rfl, _, World.drewN_drewN _ _ _⟩ | exact ⟨rfl, _, Eq.trans (World.drewN_drewN _ _ _) (congrArg (World.drewN _) (Nat.add_assoc _ _ _))⟩))))
 go_meet
 case rel => exact ⟨_, (true), s1_, H', ⟨by have := HJ1.out; have := HK2.out; first | omega | exact Nat.le_refl _⟩, ⟨by (with_reducible repeat (first | refine blk_drewN ?_ _ | refine blk_drew ?_ | refine blk_alloc ?_ _)); refine blk_far3 ?_ NB288_291.out; (with_reducible repeat (first | refine blk_drewN ?_ _ | refine blk_drew ?_ | refine blk_alloc ?_ _)); refine blk_far ?_ NB288_291.out _; (with_reducible repeat (first | refine blk_drewN ?_ _ | refine blk_drew ?_ | refine blk_alloc ?_ _)); exact BK288.out⟩, ⟨by (with_reducible repeat (first | refine blk_drewN ?_ _ | refine blk_drew ?_ | refine blk_alloc ?_ _)); refine blk_put3 (cs := #[.string ((rd_T58 l0_1 x18_2).f0), .int .i64 0, .int .i64 0, .slice none 0 0]) ?_ rfl; (with_reducible repeat (first | refine blk_drewN ?_ _ | refine blk_drew ?_ | refine blk_alloc ?_ _)); refine blk_put (cs := #[.string (⟨#[]⟩ : ByteArray), .int .i64 0, .int .i64 0, .slice none 0 0]) ?_ 0 _ rfl; (with_reducible repeat (first | refine blk_drewN ?_ _ | refine blk_drew ?_ | refine blk_alloc ?_ _)); exact BK291.out⟩, ⟨by repeat (first | (with_reducible first | exact HB.out | apply below_alloc | apply pw_below_drewN | apply below_drew1 | refine below_set ?_ GE291.out) | exact HB.out)⟩⟩}}
 case rest =>
  skip
  {
 clear HC13
 try clear c1
 try clear c2
 try clear p2
 try clear q2
 try clear hx2
 try clear c3
 try clear c5
 try clear c8
 try clear c10
 try clear c10b0
 try clear c11
 try clear c11b0
 try clear c12
 try clear c12b0
 try clear c15
 try clear c18
 try clear c20
 try clear c22
 try clear c23
 try clear c23b0
 try clear c24
 try clear c28
 try clear c29
 try clear p29
 try clear q29
 try clear hx29
 try clear c32
 try clear c34
 try clear c36
 try clear hcz16_0
 try clear hcz16_1
 try clear hcz16_2
 try clear hcz16_3
 try clear hcz25_0
 try clear hcz25_1
 try clear hcz25_2
 try clear hcz25_3
 try clear hcz26_0
 try clear hcz26_1
 try clear hcz29_0
 try clear hcz29_1
 try clear hcz29_2
 try clear hcz29_3
 try clear hcz30_0
 try clear hcz30_1
 try clear hcz33_0
 try clear hcz33_1
 try clear hcz33_2
 try clear hcz33_3
 try clear hcz35_0
 try clear hcz35_1
 try clear hcz35_2
 try clear hcz35_3
 try clear hcz37_0
 try clear hcz37_1
 try clear hcz37_2
 try clear hcz37_3
 try clear hcz6_0
 try clear hcz6_1
 try clear hcz7_0
 try clear hcz7_1
 try clear hcz9_0
 try clear hcz9_1
 try clear hfz16_0
 try clear hfz16_1
 try clear hfz16_2
 try clear hfz16_3
 try clear hfz25_0
 try clear hfz25_1
 try clear hfz25_2
 try clear hfz25_3
 try clear hfz26_0
 try clear hfz26_1
 try clear hfz29_0
 try clear hfz29_1
 try clear hfz29_2
 try clear hfz29_3
 try clear hfz30_0
 try clear hfz30_1
 try clear hfz33_0
 try clear hfz33_1
 try clear hfz33_2
 try clear hfz33_3
 try clear hfz35_0
 try clear hfz35_1
 try clear hfz35_2
 try clear hfz35_3
 try clear hfz37_0
 try clear hfz37_1
 try clear hfz37_2
 try clear hfz37_3
 try clear hfz6_0
 try clear hfz6_1
 try clear hfz7_0
 try clear hfz7_1
 try clear hfz9_0
 try clear hfz9_1
 try clear hx290_0
 try clear hx290_1
 try clear hx290_2
 try clear hx290_3
 try clear p2
 try clear p290
 try clear q290
 obtain ⟨kq, x52_12, rfl, HA, HJ12, BK288, BK291, HB⟩ := hcut
 cases kq with
 | zero => exact absurd HA.out (by simp [impl_ValidPost.j2])
 | succ kj12 =>
  skip
  {
 have H := HA.out
 clear HA
 simp only [impl_ValidPost.j2] at H
 by_cases c38 : x52_12 = true
 {
 subst c38
 have H1 : (some false) = some r := by rw [if_pos rfl] at H; exact H
 clear H
 have H := H1
 clear H1
 obtain rfl := Option.some.inj H
 go_wp2
 repeat (go_quiet (fail); try go_wp2)
 go_ret
 exact ⟨by first | rfl | (simp [errW_none, errW_some] <;> rfl) | (simp [*, errW_none, errW_some] <;> rfl), by repeat (first | (with_reducible first | exact HB.out | apply below_alloc | apply pw_below_drewN | apply below_drew1) | exact HB.out)⟩}
 {
 replace c38 := Bool.eq_false_iff.mpr c38
 subst c38
 have H1 : (if x18_2 > 0 then (if 0 ≤ (wrap64 (x18_2 - 1)) then (if (wrap64 (x18_2 - 1)) < (l0_1.length : Int) then (if ((Op.bytesLess (((rd_T58 l0_1 (wrap64 (x18_2 - 1))).f0).toList) ((rd_T58 l0_1 x18_2).f0).toList) = true) then (impl_ValidPost.l0 kj12 l0_1 (l0_1.length : Int) (wrap64 (x18_2 + 1)) a0_0 l0_1) else (some false)) else (none)) else (none)) else (impl_ValidPost.l0 kj12 l0_1 (l0_1.length : Int) (wrap64 (x18_2 + 1)) a0_0 l0_1)) = some r := by rw [if_neg (show ¬ (false = true) by decide)] at H; exact H
 clear H
 have H := H1
 clear H1
 by_cases c39 : x18_2 > 0
 {
 rw [if_pos c39] at H
 have c39b0 : decide (0 < x18_2) = true := decide_eq_true c39
 clear c39
 obtain ⟨ji40, hji40⟩ : ∃ j_ : Int, (wrap64 (x18_2 - 1)) = j_ := ⟨_, rfl⟩
 replace H : (if 0 ≤ (ji40) then (if (ji40) < (l0_1.length : Int) then (if ((Op.bytesLess (((rd_T58 l0_1 (ji40)).f0).toList) ((rd_T58 l0_1 x18_2).f0).toList) = true) then (impl_ValidPost.l0 kj12 l0_1 (l0_1.length : Int) (wrap64 (x18_2 + 1)) a0_0 l0_1) else (some false)) else (none)) else (none)) = some r := by first | (rw [hji40] at H; exact H) | (simp only [hji40] at H ⊢; exact H)
 have hji40w : (IntKind.i64.wrap (x18_2 - 1)) = ji40 := (i64_w _).trans hji40
 by_cases c41 : 0 ≤ (ji40)
 {
 rw [if_pos c41] at H
 have c41b0 : decide (0 ≤ (ji40)) = true := decide_eq_true c41
 clear c41
 by_cases c42 : (ji40) < (l0_1.length : Int)
 {
 rw [if_pos c42] at H
 have c42b0 : decide ((ji40) < (l0_1.length : Int)) = true := decide_eq_true c42
 clear c42
 by_cases c43 : ((Op.bytesLess (((rd_T58 l0_1 (ji40)).f0).toList) ((rd_T58 l0_1 x18_2).f0).toList) = true)
 {
 rw [if_pos c43] at H
 have c43b0 : (Op.bytesLess (((rd_T58 l0_1 (ji40)).f0).toList) ((rd_T58 l0_1 x18_2).f0).toList) = true := c43
 clear c43
 have H' := Aside0.mk H
 clear H
 have hnb44 := NB288_291.out
 have hnc44 := NB291_288.out
 have hcz45_0 := c1_ BK288 0 (.int .i64 a0_0)
 have hcz45_1 := c1_ BK288 1 (.slice (some ad290) l0_1.length c0_1)
 have hfz45_0 := f1_ BK288 0
 have hfz45_1 := f1_ BK288 1
 have p296 : 0 ≤ ((ji40) : Int) := of_decide_eq_true (by first | (with_reducible assumption) | assumption)
 have q296 : (ji40) < (l0_1.length : Int) := of_decide_eq_true (by first | (with_reducible assumption) | assumption)
 obtain ⟨ad296, A296_3, c296_3, e296, hx296_0, hx296_1, hx296_2, hx296_3, hl296_3, hi296_3⟩ := at_T58 HR0_1.out (ji40) p296 q296
 obtain rfl : ad290 = ad296 := (by injection e296)
 replace hx296_0 := (HB.out.cell (World.block_lt_of_cell? w _ hx296_0)).trans hx296_0
 replace hx296_1 := (HB.out.cell (World.block_lt_of_cell? w _ hx296_1)).trans hx296_1
 replace hx296_2 := (HB.out.cell (World.block_lt_of_cell? w _ hx296_2)).trans hx296_2
 replace hx296_3 := (HB.out.cell (World.block_lt_of_cell? w _ hx296_3)).trans hx296_3
 have HR296_3 := Aside0.mk hi296_3
 have HC296_3 := Aside0.mk hl296_3
 clear hi296_3 hl296_3
 replace p296 := eq_true p296
 replace q296 := eq_true q296
 have hcz46_0 := c1_ BK291 0 (.string ((rd_T58 l0_1 x18_2).f0))
 have hcz46_1 := c1_ BK291 1 (.int .i64 ((rd_T58 l0_1 x18_2).f1))
 have hcz46_2 := c1_ BK291 2 (.int .i64 ((rd_T58 l0_1 x18_2).f2))
 have hcz46_3 := c1_ BK291 3 (.slice A290_3 ((rd_T58 l0_1 x18_2).f3).length c290_3)
 have hfz46_0 := f1_ BK291 0
 have hfz46_1 := f1_ BK291 1
 have hfz46_2 := f1_ BK291 2
 have hfz46_3 := f1_ BK291 3
 go_wp2
 repeat (go_quiet (fail); try go_wp2)
 go_roundg kj12
 case measure => have := HJ1.out; have := HK2.out; have := HJ12.out; omega
 case rel => exact ⟨(wrap64 (x18_2 + 1)), s1_, H', ⟨by have := HJ1.out; have := HK2.out; have := HJ12.out; omega⟩, ⟨b1_ BK288.out⟩, ⟨by repeat (first | (with_reducible first | exact HB.out | apply below_alloc | apply pw_below_drewN | apply below_drew1) | exact HB.out)⟩⟩}
 {
 rw [if_neg c43] at H
 have c43b0 : (Op.bytesLess (((rd_T58 l0_1 (ji40)).f0).toList) ((rd_T58 l0_1 x18_2).f0).toList) = false := by simpa using c43
 clear c43
 obtain rfl := Option.some.inj H
 have hnb47 := NB288_291.out
 have hnc47 := NB291_288.out
 have hcz48_0 := c1_ BK288 0 (.int .i64 a0_0)
 have hcz48_1 := c1_ BK288 1 (.slice (some ad290) l0_1.length c0_1)
 have hfz48_0 := f1_ BK288 0
 have hfz48_1 := f1_ BK288 1
 have p296 : 0 ≤ ((ji40) : Int) := of_decide_eq_true (by first | (with_reducible assumption) | assumption)
 have q296 : (ji40) < (l0_1.length : Int) := of_decide_eq_true (by first | (with_reducible assumption) | assumption)
 obtain ⟨ad296, A296_3, c296_3, e296, hx296_0, hx296_1, hx296_2, hx296_3, hl296_3, hi296_3⟩ := at_T58 HR0_1.out (ji40) p296 q296
 obtain rfl : ad290 = ad296 := (by injection e296)
 replace hx296_0 := (HB.out.cell (World.block_lt_of_cell? w _ hx296_0)).trans hx296_0
 replace hx296_1 := (HB.out.cell (World.block_lt_of_cell? w _ hx296_1)).trans hx296_1
 replace hx296_2 := (HB.out.cell (World.block_lt_of_cell? w _ hx296_2)).trans hx296_2
 replace hx296_3 := (HB.out.cell (World.block_lt_of_cell? w _ hx296_3)).trans hx296_3
 have HR296_3 := Aside0.mk hi296_3
 have HC296_3 := Aside0.mk hl296_3
 clear hi296_3 hl296_3
 replace p296 := eq_true p296
 replace q296 := eq_true q296
 have hcz49_0 := c1_ BK291 0 (.string ((rd_T58 l0_1 x18_2).f0))
 have hcz49_1 := c1_ BK291 1 (.int .i64 ((rd_T58 l0_1 x18_2).f1))
 have hcz49_2 := c1_ BK291 2 (.int .i64 ((rd_T58 l0_1 x18_2).f2))
 have hcz49_3 := c1_ BK291 3 (.slice A290_3 ((rd_T58 l0_1 x18_2).f3).length c290_3)
 have hfz49_0 := f1_ BK291 0
 have hfz49_1 := f1_ BK291 1
 have hfz49_2 := f1_ BK291 2
 have hfz49_3 := f1_ BK291 3
 go_wp2
 repeat (go_quiet (fail); try go_wp2)
 go_ret
 exact ⟨by first | rfl | (simp [errW_none, errW_some] <;> rfl) | (simp only [← hji40]; first | rfl | (simp [errW_none, errW_some] <;> rfl)) | (simp [*, errW_none, errW_some] <;> rfl), by repeat (first | (with_reducible first | exact HB.out | apply below_alloc | apply pw_below_drewN | apply below_drew1) | exact HB.out)⟩}}
 {
 rw [if_neg c42] at H
 exact absurd H (by simp)}}
 {
 rw [if_neg c41] at H
 exact absurd H (by simp)}}
 {
 rw [if_neg c39] at H
 have c39b0 : decide (0 < x18_2) = false := decide_eq_false c39
 clear c39
 have H' := Aside0.mk H
 clear H
 go_wp2
 repeat (go_quiet (fail); try go_wp2)
 go_roundg kj12
 case measure => have := HJ1.out; have := HK2.out; have := HJ12.out; omega
 case rel => exact ⟨(wrap64 (x18_2 + 1)), s1_, H', ⟨by have := HJ1.out; have := HK2.out; have := HJ12.out; omega⟩, ⟨b1_ BK288.out⟩, ⟨by repeat (first | (with_reducible first | exact HB.out | apply below_alloc | apply pw_below_drewN | apply below_drew1) | exact HB.out)⟩⟩}}}}}
 {
 rw [if_neg c12] at H
 exact absurd H (by simp)}}
 {
 rw [if_neg c11] at H
 exact absurd H (by simp)}}
 {
 rw [if_neg c10] at H
 have c10b0 : decide (x18_2 < (l0_1.length : Int)) = false := decide_eq_false c10
 clear c10
 obtain rfl := Option.some.inj H
 go_wp2
 repeat (go_quiet (fail); try go_wp2)
 go_ret
 exact ⟨by first | rfl | (simp [errW_none, errW_some] <;> rfl) | (simp [*, errW_none, errW_some] <;> rfl), by repeat (first | (with_reducible first | exact HB.out | apply below_alloc | apply pw_below_drewN | apply below_drew1) | exact HB.out)⟩}}}}}}

/-! ### impl_Parcel_95: function 95 -/
def impl_Parcel_95.f (l0 : List (S97)) : Option (List (S97)) := if l0.length < 8796093022208 then some l0 else none
set_option maxHeartbeats 8000000 in
set_option maxRecDepth 100000 in
theorem impl_Parcel_95.calls (A0 : Option Addr) (c0 : Nat) (l0 : List (S97)) (r : List (S97)) (w : World) (hr0 : Kd.C k97 w A0 l0.length l0) (hc0 : l0.length ≤ c0) (h : impl_Parcel_95.f l0 = some r) :
    Calls Try.prog 95 #[.slice A0 l0.length c0] w fun e w' => ∃ v0_ : Value, e = .returned (v0_) ∧ Kd.R k97 97 w' w.heap.size (fun _ => True) v0_ r ∧ Below w.heap.size w w' := by
  have hl : l0.length < 8796093022208 := by
    unfold impl_Parcel_95.f at h
    split at h
    · assumption
    · cases h
  obtain rfl : l0 = r := by
    unfold impl_Parcel_95.f at h
    rw [if_pos hl] at h
    exact Option.some.inj h
  clear h
  have HR0 := Aside0.mk hr0
  have HC0 := Aside0.mk hc0
  have LM := Aside0.mk hl
  clear hr0 hc0 hl
  have HB := Aside0.mk (Below.refl w.heap.size w)
  cases A0 with
  | none =>
    have hn : l0 = [] := by
      have h1 := HR0.out.1
      have h2 := HR0.out.2.2
      rcases Nat.eq_zero_or_pos l0.length with h3 | h3
      · exact List.eq_nil_of_length_eq_zero h3
      · obtain ⟨ad, e, _⟩ := h2 h3
        cases e
    subst hn
    have hnil : ∀ W : World, (binOp .eql 56 (.slice none 0 c0) (.slice none 0 0)).run Try.prog W = .ok (.bool true) W := fun W => Lib.run_eql_slice_nil (P := Try.prog) W 56 97 none 0 c0 0 0 Try.underlying56
    simp only [List.length_nil]
    go_enter Try.func95, Try.ntmps95
    go_wp2
    go_ret
    exact ⟨_, rfl, Kd.R_nil _ _ _ _ _, HB.out⟩
  | some ad =>
    have hnil : ∀ W : World, (binOp .eql 56 (.slice (some ad) l0.length c0) (.slice none 0 0)).run Try.prog W = .ok (.bool false) W := fun W => Lib.run_eql_slice_nil (P := Try.prog) W 56 97 (some ad) l0.length c0 0 0 Try.underlying56
    go_enter Try.func95, Try.ntmps95
    go_wp2_with (first
      | ((with_reducible refine gate_dst (N := 5) rfl ?_); refine Kd.R_lit k97 (w0 := w) w.heap.size 97 ?hg (N := 5) ?hd (xs := ([] : List (S97))) (inner := []) (ok := fun _ => True) (okp := fun _ => True) ?hr ?hp (fun _ hk => hk) trivial (Below.refl _ _) (Nat.le_refl _) (by simp) ?_; (case hd => rfl); (case hg => rfl); (case hr => first | (go_simp; done) | (go_simp; rfl)); (case hp => exact (Reps.none _ _)); intro v1 w1 ho hb hg_ hnew_; have HO1 := Aside0.mk ho; have HB1 := Aside0.mk hb; have HR1 := Aside0.mk (Kd.C_below HR0.out hb); clear ho hb hg_ hnew_)
      | ((with_reducible refine gate_builtin (b := .append) (xs := #[.tmp 5, .tmp 6]) rfl ?_); at_builtin; refine Kd.R_append_rows k97 (w0 := w) w.heap.size rfl (.tmp 5) (.tmp 6) 56 97 (.agg #[(.int .i64 0), (.int .i64 0)]) 16 rfl Try.underlying56 info97 rfl (by decide) (by omega) v1 ([] : List (S97)) l0 _ _ _ (fun _ => True) (fun _ => False) rfl rfl ?aO ?aR (fun _ _ h => h) (fun _ h => h.elim) ?aF ?aB ?aS ?aL ?_; (case aO => exact HO1.out); (case aR => exact HR1.out); (case aF => exact fun _ _ => trivial); (case aB => exact HB1.out); (case aS => exact HB1.out.size); (case aL => have := LM.out; simp; omega); intro v2 w2 ho hb hg hat; have HO2 := Aside0.mk ho; have HB2 := Aside0.mk hb; clear ho hb hg hat; clear HO1 HB1 HR1))
    go_ret
    exact ⟨_, rfl, HO2.out, HB2.out⟩

end Go.Proofs.Ytdanachjdfiegaa.QFnTaken
