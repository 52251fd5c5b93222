-- written by a program of this session, on the lines of the kit's print
import Derived.Test.YtcnhepjdibbkgaaQFnMarkedx0
import Derived.Test.YtcnhepjdibbkgaaQFnMarkedx2
namespace Go.Proofs.Ytcnhepjdibbkgaa.QFnMarked
open Go.RowKit Go.Proofs.YtcnhepjdibbkgaaW.PrintWords Go.Proofs.YtcnhepjdibbkgaaW.PrintLast Go.Proofs.YtcnhepjdibbkgaaW.PrintMore
attribute [local go_sem] max2_int min2_int max_two min_two max_three min_three max_four min_four   -- for this text's walks alone
set_option linter.unusedVariables false
set_option linter.unusedSimpArgs false

/-! ### impl_runsOf: function 60 -/
abbrev impl_runsOf.T : Bool := true
abbrev impl_runsOf.F : Bool := false
theorem impl_runsOf.s1_ {P : Prop} (h : P := by first | rfl | (simp; done) | (simp [*]; done)) : P := h
theorem impl_runsOf.s2_ {P : Prop} (h : P := by kernel_rfl) : P := h
theorem impl_runsOf.s3_ {P : Prop} (h : P := by (try simp only [List.map_toArray, List.map_cons, List.map_nil]); first | done | rfl | (simp only [List.length_drop, List.length_take]; rfl)) : P := h
theorem impl_runsOf.p1_ {P : Prop} (h : P := by simp only [Act.put, List.setIfInBounds_toArray, List.set_cons_zero, List.set_cons_succ, i64_w, i32_w]; rfl) : P := h
theorem impl_runsOf.b1_ {P Q : Prop} (q : Q) (h : Q → P := by intro q_; (with_reducible repeat (first | refine blk_drewN ?_ _ | refine blk_drew ?_ | refine blk_alloc ?_ _)); exact q_) : P := h q
theorem impl_runsOf.b2_ {P Q : Prop} (q : Q) (h : Q → P := by intro q_; (with_reducible repeat (first | apply Kd.R_alloc | apply Kd.R_drewN | apply Kd.R_drew)); exact q_) : P := h q
theorem impl_runsOf.y1_ {P Q : Prop} (q : Q) (h : Q → P := by intro q_; repeat (first | (with_reducible first | exact q_ | apply below_alloc | apply pw_below_drewN | apply below_drew1) | exact q_)) : P := h q
theorem impl_runsOf.b6_ {w w' W : World} {k : Nat} (hg : k = W.heap.size) (q : Aside0 (Below w.heap.size w w')) (h : Below w.heap.size w w' → Below w.heap.size w W := by intro q_; repeat (first | (with_reducible first | exact q_ | apply below_alloc | apply pw_below_drewN | apply below_drew1) | exact q_)) : Aside0 (w.heap.size ≤ k) := ⟨by rw [hg]; exact below_size (h q.out)⟩
theorem impl_runsOf.c1_ {w : World} {g : Nat} {t : TypeId} {cs : Array Value} (q : Aside0 (w.heap[g]? = some (.cells cs t (0, 0)))) (i : Nat) (v : Value) (h : cs[i]? = some v := by rfl) : w.cell? ⟨g, i, none⟩ = some v := (blk_cell q.out i).trans h
theorem impl_runsOf.f1_ {w : World} {g : Nat} {t : TypeId} {cs : Array Value} (q : Aside0 (w.heap[g]? = some (.cells cs t (0, 0)))) (i : Nat) : w.frozen? ⟨g, i, none⟩ = false := blk_frozen q.out i
theorem impl_runsOf.pu_ {P : Program} {md : Region.Mode} {ops : Array Oper} {Q : Exit → Act → World → Prop} {S : World → Prop} {ds : List Nat} {fuel : Nat} {l : Array Bool} {a : Act} {w : World} {oi : Oper} {a' : Act} {v : Value} (i N : Nat) (l' : Array Bool) (hc : anyB md ops l l' i = true) (h : wpAnyLast P md ops Q S ds fuel l' a' w) (hi : ops[i]? = some oi := by rfl) (hN : oi.dst = some N := by rfl) (hQ : ∀ c a w, Q (.panic c) (a.put oi.dst v) w → Q (.panic c) a w := by exact fun _ _ _ h => h) (hy : Yields P ops oi v a := by exact Or.inl ⟨by rfl, by intro w'; go_simp; with_reducible rfl⟩) (ha : a.put (some N) v = a' := by simp only [Act.put, List.setIfInBounds_toArray, List.set_cons_zero, List.set_cons_succ, i64_w, i32_w]; rfl) : wpAnyLast P md ops Q S ds (fuel + 1) l a w := pure_ l' hi hN hc hQ hy ha h
mutual
def impl_runsOf.l0 : Nat → ByteArray → List (S84) → Int → Option ((List (S84)))
  | 0, _, _, _ => none
  | k + 1, x0, x3, x4 => if x4 < (x0.size : Int) then (if 0 ≤ x4 then ((impl_lower.f (bt x0 x4)).bind fun t183 => ((impl_wordByte.f t183).bind fun t184 => (if t184 = true then (impl_runsOf.l1 k x0 x3 x4 x4 0 (⟨#[]⟩ : ByteArray)) else (impl_runsOf.l0 k x0 x3 (wrap64 (x4 + 1)))))) else (none)) else (some x3)
def impl_runsOf.l1 : Nat → ByteArray → List (S84) → Int → Int → Int → ByteArray → Option ((List (S84)))
  | 0, _, _, _, _, _, _ => none
  | k + 1, x0, x3, x4, x186000, x186001, x186002 => if x4 < (x0.size : Int) then (if 0 ≤ x4 then ((impl_lower.f (bt x0 x4)).bind fun t186 => ((impl_wordByte.f t186).bind fun t187 => (if t187 = true then ((impl_lower.f (bt x0 x4)).bind fun t188 => (if x186002.size + (Utf8.encode t188).size ≤ 9223372036854775807 then (impl_runsOf.l1 k x0 x3 (wrap64 (x4 + 1)) x186000 x186001 (x186002 ++ (Utf8.encode t188))) else (none))) else (if x3.length < 4398046511104 then (impl_runsOf.l0 k x0 (x3 ++ [(⟨x186000, x4, x186002⟩ : S84)]) (wrap64 (x4 + 1))) else (none))))) else (none)) else (if x3.length < 4398046511104 then (impl_runsOf.l0 k x0 (x3 ++ [(⟨x186000, x4, x186002⟩ : S84)]) (wrap64 (x4 + 1))) else (none))
end
def impl_runsOf.f (k : Nat) (a0 : ByteArray) : Option ((List (S84))) := impl_runsOf.l0 k a0 (([] : List (S84))) 0
theorem impl_runsOf.mono_l : ∀ k, (∀ y0 y1 y2, LeO (impl_runsOf.l0 k y0 y1 y2) (impl_runsOf.l0 (k + 1) y0 y1 y2)) ∧ (∀ y0 y1 y2 y3 y4 y5, LeO (impl_runsOf.l1 k y0 y1 y2 y3 y4 y5) (impl_runsOf.l1 (k + 1) y0 y1 y2 y3 y4 y5))
  | 0 => ⟨fun _ _ _ r h => by simp [impl_runsOf.l0] at h, fun _ _ _ _ _ _ r h => by simp [impl_runsOf.l1] at h⟩
  | k + 1 => by
    obtain ⟨ih0, ih1⟩ := impl_runsOf.mono_l k
    refine ⟨?_, ?_⟩
    · intro y0 y1 y2
      unfold impl_runsOf.l0
      repeat' first
      | (with_reducible exact ih0 _ _ _)
      | (with_reducible exact ih1 _ _ _ _ _ _)
      | (with_reducible exact LeO.refl _)
      | (with_reducible exact LeO.none _)
      | (with_reducible refine LeO.ite ?_ ?_)
      | (with_reducible refine LeO.bind ?_ (fun _ => ?_))
      | exact ih0 _ _ _
      | exact ih1 _ _ _ _ _ _
      | exact LeO.none _
      | refine LeO.ite ?_ ?_
      | refine LeO.bind ?_ (fun _ => ?_)
    · intro y0 y1 y2 y3 y4 y5
      unfold impl_runsOf.l1
      repeat' first
      | (with_reducible exact ih0 _ _ _)
      | (with_reducible exact ih1 _ _ _ _ _ _)
      | (with_reducible exact LeO.refl _)
      | (with_reducible exact LeO.none _)
      | (with_reducible refine LeO.ite ?_ ?_)
      | (with_reducible refine LeO.bind ?_ (fun _ => ?_))
      | exact ih0 _ _ _
      | exact ih1 _ _ _ _ _ _
      | exact LeO.none _
      | refine LeO.ite ?_ ?_
      | refine LeO.bind ?_ (fun _ => ?_)
theorem impl_runsOf.mono : ∀ a0 k, LeO (impl_runsOf.f k a0) (impl_runsOf.f (k + 1) a0) := by
  intro a0 k
  obtain ⟨ih0, ih1⟩ := impl_runsOf.mono_l k
  unfold impl_runsOf.f
  repeat' first
      | (with_reducible exact ih0 _ _ _)
      | (with_reducible exact ih1 _ _ _ _ _ _)
      | (with_reducible exact LeO.refl _)
      | (with_reducible exact LeO.none _)
      | (with_reducible refine LeO.ite ?_ ?_)
      | (with_reducible refine LeO.bind ?_ (fun _ => ?_))
      | exact ih0 _ _ _
      | exact ih1 _ _ _ _ _ _
      | exact LeO.none _
      | refine LeO.ite ?_ ?_
      | refine LeO.bind ?_ (fun _ => ?_)
def impl_runsOf.T8 : Bool × List (List Nat × List Nat) := (true, [([], []), ([0], [0]), ([], []), ([], []), ([2, 3], [2, 3]), ([4], [4]), ([5], [5]), ([1, 6], [1, 6]), ([0, 1, 2, 3, 4, 5, 6, 7], []), ([8, 7, 5, 0, 1, 2, 3, 4, 5, 6, 7], [7, 8])])
def impl_runsOf.B8 : List Nat := [0, 1, 0, 0, 12, 28, 60, 127, 255, 511]
theorem impl_runsOf.tab8 : rtab .any (opsOf Try.f60 8) = impl_runsOf.T8 := by kernel_rfl
theorem impl_runsOf.bits8 : waitsOk impl_runsOf.T8.2 impl_runsOf.B8 = true := by kernel_rfl
set_option maxHeartbeats 8000000 in
set_option maxRecDepth 100000 in
theorem impl_runsOf.calls (k : Nat) (a0 : ByteArray) (r : List (S84)) (w : World) (h : impl_runsOf.f k a0 = some r) :
    Calls Try.prog 60 #[.string a0] w fun e w' => ∃ v0_ : Value, e = .returned (v0_) ∧ Kd.R k84 84 w' w.heap.size (fun _ => True) v0_ r ∧ Below w.heap.size w w' := by
 have hu84 := Try.underlying84
 have HB := Aside0.mk (Below.refl w.heap.size w)
 have H : (impl_runsOf.l0 k a0 (([] : List (S84))) 0) = some r := h
 clear h
 obtain ⟨y180, hy180⟩ : ∃ y_ : List (S84), y_ = (([] : List (S84))) := ⟨_, rfl⟩
 replace H : (impl_runsOf.l0 k a0 y180 0) = some r := by first | (rw [hy180]; with_reducible exact H) | (have H2_ := (Option.bind_some _ _).symm.trans H; rw [hy180]; with_reducible exact H2_) | (have H2_ := (Option.bind_some _ _).symm.trans H; with_reducible exact H2_) | with_reducible exact H | (rw [hy180]; exact H) | exact H
 have Ny180 := Aside0.mk hy180
 clear hy180
 have H' := Aside0.mk H
 clear H
 go_enter Try.func60, Try.ntmps60
 go_wp2_with (first | ((with_reducible refine gate_dst (N := 6) rfl ?_); refine Kd.R_lit k84 _ 84 ?hg (N := 6) ?hd (xs := ([] : List (S84))) (inner := []) (ok := fun _ => True) (okp := fun _ => True) ?hr ?hp (fun _ hk => hk) trivial (Below.refl _ _) (Nat.le_refl _) (by simp) ?_; (case hd => rfl); (case hg => rfl); (case hr => first | (go_simp; done) | (go_simp; rfl)); (case hp => exact (Reps.none _ _)); intro v181 w2 ho3 hb hg_ hnew_; clear hg_ hnew_; (first | rw [← Ny180.out] at ho3 | (simp only [Int.reduceToNat] at ho3; rw [← Ny180.out] at ho3)); have HO182 := Aside0.mk (Kd.R_lower ho3 (below_size (y1_ HB.out))); replace HB := Aside0.mk (below_step (y1_ HB.out) hb); clear hb ho3))
 go_loopg [3, 4] k (fun kq v3 v4 w' => ∃ (x3_1 : List (S84)) (x4_1 : Int), v4 = .int .i64 x4_1 ∧ Aside0 (impl_runsOf.l0 kq a0 x3_1 x4_1 = some r) ∧ Aside0 (kq ≤ k) ∧ Aside0 (Kd.R k84 84 w' w.heap.size (fun _ => True) v3 x3_1) ∧ Aside0 (Below w.heap.size w w'))
 case atStart => exact ⟨(y180), (0), s1_, H', ⟨Nat.le_refl _⟩, ⟨b2_ HO182.out⟩, ⟨by repeat (first | (with_reducible first | exact HB.out | apply below_alloc | apply pw_below_drewN | apply below_drew1) | exact HB.out)⟩⟩
 case round =>
  skip
  {
 clear H'
 try clear p2
 obtain ⟨x3_1, x4_1, rfl, HA, HK1, HO_3, HB⟩ := hrel
 cases gk with
 | zero => exact absurd HA.out (by simp [impl_runsOf.l0])
 | succ k1 =>
  skip
  {
 have H := HA.out
 clear HA
 simp only [impl_runsOf.l0] at H
 by_cases c4 : x4_1 < (a0.size : Int)
 {
 rw [if_pos c4] at H
 have c4b0 : decide (x4_1 < (a0.size : Int)) = true := decide_eq_true c4
 clear c4
 by_cases c5 : 0 ≤ x4_1
 {
 rw [if_pos c5] at H
 have c5b0 : decide (0 ≤ x4_1) = true := decide_eq_true c5
 clear c5
 replace H := Option.bind_eq_some_iff.mp H
 obtain ⟨t183, A70, H⟩ := H
 replace H : ((impl_wordByte.f t183).bind fun t184 => (if t184 = true then (impl_runsOf.l1 k1 a0 x3_1 x4_1 x4_1 0 (⟨#[]⟩ : ByteArray)) else (impl_runsOf.l0 k1 a0 x3_1 (wrap64 (x4_1 + 1))))) = some r := H
 have A7 := Aside0.mk A70
 clear A70
 replace H := Option.bind_eq_some_iff.mp H
 obtain ⟨t184, A80, H⟩ := H
 replace H : (if t184 = true then (impl_runsOf.l1 k1 a0 x3_1 x4_1 x4_1 0 (⟨#[]⟩ : ByteArray)) else (impl_runsOf.l0 k1 a0 x3_1 (wrap64 (x4_1 + 1)))) = some r := H
 have A8 := Aside0.mk A80
 clear A80
 by_cases c9 : t184 = true
 {
 subst c9
 have H1 : (impl_runsOf.l1 k1 a0 x3_1 x4_1 x4_1 0 (⟨#[]⟩ : ByteArray)) = some r := by rw [if_pos rfl] at H; exact H
 clear H
 have H := H1
 clear H1
 have H' := Aside0.mk H
 clear H
 have p6 : 0 ≤ (x4_1 : Int) := of_decide_eq_true (by first | (with_reducible assumption) | assumption)
 have q6 : x4_1 < (a0.size : Int) := of_decide_eq_true (by first | (with_reducible assumption) | assumption)
 have hx6 := bt_at a0 x4_1
 replace p6 := eq_true p6
 replace q6 := eq_true q6
 go_wp2_with (first | ((with_reducible refine gate_callee (f := 95) rfl ?_); refine goesL_ (some 16) rfl rfl Try.func95 s2_ rfl #[.int .u8 (bt a0 x4_1)] rfl s3_ ?_; (with_reducible refine (impl_lower.calls (bt a0 x4_1) t183 _ A7.out).mono ?_); rintro e w' ⟨rfl, ⟨nd, rfl⟩⟩; refine ⟨_, rfl, ?_⟩; (try (rw [drewN_self wr]; generalize hq_ : World.drewN wr _ = wr; have n0_ : Aside0 (Kd.R k84 84 wr w.heap.size (fun _ => True) u3 x3_1) := ⟨by rw [← hq_]; exact (b2_ HO_3.out)⟩; have n1_ : Aside0 (Below w.heap.size w wr) := ⟨by rw [← hq_]; exact (y1_ HB.out)⟩; clear HO_3 HB hq_; have HO_3 := n0_; have HB := n1_; clear n0_ n1_))) | ((with_reducible refine gate_callee (f := 91) rfl ?_); refine goesL_ (some 17) rfl rfl Try.func91 s2_ rfl #[.int .u8 t183] rfl s3_ ?_; (with_reducible refine (impl_wordByte.calls t183 true _ A8.out).mono ?_); rintro e w' ⟨rfl, ⟨nd, rfl⟩⟩; refine ⟨_, rfl, ?_⟩; (try (rw [drewN_self wr]; generalize hq_ : World.drewN wr _ = wr; have n0_ : Aside0 (Kd.R k84 84 wr w.heap.size (fun _ => True) u3 x3_1) := ⟨by rw [← hq_]; exact (b2_ HO_3.out)⟩; have n1_ : Aside0 (Below w.heap.size w wr) := ⟨by rw [← hq_]; exact (y1_ HB.out)⟩; clear HO_3 HB hq_; have HO_3 := n0_; have HB := n1_; clear n0_ n1_))) | ((with_reducible refine gate_dst (N := 5) rfl ?_); refine box_event ?hg (N := 5) ?hd (cs := #[.int .i64 0, .int .i64 0, .string (⟨#[]⟩ : ByteArray)]) (t := 84) ?hr ?_; (case hd => rfl); (case hg => rfl); (case hr => first | (go_simp; done) | (go_simp; rfl)); intro gb185 hg w10 hbox hb; have GW185 := b6_ hg HB; have GE185 := b6_ hg HB; replace HO_3 := Aside0.mk (Kd.R_below (Kd.R_elderB (b2_ HO_3.out) gb185 (Nat.le_of_eq hg.symm)) hb); replace HB := Aside0.mk (below_step (y1_ HB.out) hb); have BK185 := Aside0.mk (hbox); clear hb hbox hg; have hcz11_0 := c1_ BK185 0 (.int .i64 0); have hcz11_1 := c1_ BK185 1 (.int .i64 0); have hcz11_2 := c1_ BK185 2 (.string (⟨#[]⟩ : ByteArray)); have hfz11_0 := f1_ BK185 0; have hfz11_1 := f1_ BK185 1; have hfz11_2 := f1_ BK185 2))
 go_loopg [4] k1 (fun kq v4 w' => ∃ (x4_2 : Int) (x186002_2 : ByteArray), v4 = .int .i64 x4_2 ∧ Aside0 (impl_runsOf.l1 kq a0 x3_1 x4_2 x4_1 0 x186002_2 = some r) ∧ Aside0 (kq ≤ k1) ∧ Aside0 (Kd.R k84 84 w' w.heap.size (fun k_ => k_ ≠ gb185) u3 x3_1) ∧ Aside0 (w'.heap[gb185]? = some (.cells #[.int .i64 x4_1, .int .i64 0, .string x186002_2] 84 (0, 0))) ∧ Aside0 (Below w.heap.size w w'))
 case atStart => exact ⟨(x4_1), ((⟨#[]⟩ : ByteArray)), s1_, H', ⟨Nat.le_refl _⟩, ⟨by (with_reducible repeat (first | apply Kd.R_alloc | apply Kd.R_drewN | apply Kd.R_drew)); exact Kd.R_mono (Kd.R_far3 (g := gb185) (Kd.R_mono HO_3.out (fun k_ hk => (⟨hk, hk.2⟩ : _ ∧ k_ ≠ gb185))) (fun _ hk => hk.2)) (fun _ hk => hk.1.2)⟩, ⟨by (with_reducible repeat (first | refine blk_drewN ?_ _ | refine blk_drew ?_ | refine blk_alloc ?_ _)); refine blk_put3 (cs := #[.int .i64 0, .int .i64 0, .string (⟨#[]⟩ : ByteArray)]) ?_ rfl; (with_reducible repeat (first | refine blk_drewN ?_ _ | refine blk_drew ?_ | refine blk_alloc ?_ _)); exact BK185.out⟩, ⟨by repeat (first | (with_reducible first | exact HB.out | apply below_alloc | apply pw_below_drewN | apply below_drew1 | refine below_set ?_ GE185.out) | exact HB.out)⟩⟩
 case round =>
  skip
  {
 clear H'
 try clear p2
 try clear c4
 try clear c4b0
 try clear c5
 try clear c5b0
 try clear c6
 try clear p6
 try clear q6
 try clear hx6
 try clear c9
 try clear hcz11_0
 try clear hcz11_1
 try clear hcz11_2
 try clear hfz11_0
 try clear hfz11_1
 try clear hfz11_2
 try clear p2
 try clear p6
 try clear q6
 obtain ⟨x4_2, x186002_2, rfl, HA, HK2, HO_3, BK185, HB⟩ := hrel
 cases gk with
 | zero => exact absurd HA.out (by simp [impl_runsOf.l1])
 | succ k2 =>
  skip
  {
 have H := HA.out
 clear HA
 simp only [impl_runsOf.l1] at H
 by_cases c12 : x4_2 < (a0.size : Int)
 {
 rw [if_pos c12] at H
 have c12b0 : decide (x4_2 < (a0.size : Int)) = true := decide_eq_true c12
 clear c12
 by_cases c13 : 0 ≤ x4_2
 {
 rw [if_pos c13] at H
 have c13b0 : decide (0 ≤ x4_2) = true := decide_eq_true c13
 clear c13
 replace H := Option.bind_eq_some_iff.mp H
 obtain ⟨t186, A150, H⟩ := H
 replace H : ((impl_wordByte.f t186).bind fun t187 => (if t187 = true then ((impl_lower.f (bt a0 x4_2)).bind fun t188 => (if x186002_2.size + (Utf8.encode t188).size ≤ 9223372036854775807 then (impl_runsOf.l1 k2 a0 x3_1 (wrap64 (x4_2 + 1)) x4_1 0 (x186002_2 ++ (Utf8.encode t188))) else (none))) else (if x3_1.length < 4398046511104 then (impl_runsOf.l0 k2 a0 (x3_1 ++ [(⟨x4_1, x4_2, x186002_2⟩ : S84)]) (wrap64 (x4_2 + 1))) else (none)))) = some r := H
 have A15 := Aside0.mk A150
 clear A150
 replace H := Option.bind_eq_some_iff.mp H
 obtain ⟨t187, A160, H⟩ := H
 replace H : (if t187 = true then ((impl_lower.f (bt a0 x4_2)).bind fun t188 => (if x186002_2.size + (Utf8.encode t188).size ≤ 9223372036854775807 then (impl_runsOf.l1 k2 a0 x3_1 (wrap64 (x4_2 + 1)) x4_1 0 (x186002_2 ++ (Utf8.encode t188))) else (none))) else (if x3_1.length < 4398046511104 then (impl_runsOf.l0 k2 a0 (x3_1 ++ [(⟨x4_1, x4_2, x186002_2⟩ : S84)]) (wrap64 (x4_2 + 1))) else (none))) = some r := H
 have A16 := Aside0.mk A160
 clear A160
 by_cases c17 : t187 = true
 {
 subst c17
 have H1 : ((impl_lower.f (bt a0 x4_2)).bind fun t188 => (if x186002_2.size + (Utf8.encode t188).size ≤ 9223372036854775807 then (impl_runsOf.l1 k2 a0 x3_1 (wrap64 (x4_2 + 1)) x4_1 0 (x186002_2 ++ (Utf8.encode t188))) else (none))) = some r := by rw [if_pos rfl] at H; exact H
 clear H
 have H := H1
 clear H1
 replace H := Option.bind_eq_some_iff.mp H
 obtain ⟨t188, A190, H⟩ := H
 replace H : (if x186002_2.size + (Utf8.encode t188).size ≤ 9223372036854775807 then (impl_runsOf.l1 k2 a0 x3_1 (wrap64 (x4_2 + 1)) x4_1 0 (x186002_2 ++ (Utf8.encode t188))) else (none)) = some r := H
 have A19 := Aside0.mk A190
 clear A190
 by_cases c20 : x186002_2.size + (Utf8.encode t188).size ≤ 9223372036854775807
 {
 rw [if_pos c20] at H
 have c20b0 := eq_true c20
 have c20b1 : decide (x186002_2.size + (Utf8.encode t188).size ≤ 9223372036854775807) = true := decide_eq_true c20
 try have c20b2 : (9223372036854775807 < x186002_2.size + (Utf8.encode t188).size) = False := eq_false (Nat.not_lt.2 c20)
 have H' := Aside0.mk H
 clear H
 have p14 : 0 ≤ (x4_2 : Int) := of_decide_eq_true (by first | (with_reducible assumption) | assumption)
 have q14 : x4_2 < (a0.size : Int) := of_decide_eq_true (by first | (with_reducible assumption) | assumption)
 have hx14 := bt_at a0 x4_2
 replace p14 := eq_true p14
 replace q14 := eq_true q14
 try go_wp2_with (first | (go_at_call 95; (with_reducible refine (impl_lower.calls (bt a0 x4_2) t186 _ A15.out).mono ?_); rintro e w' ⟨rfl, ⟨nd, rfl⟩⟩; (try (rw [drewN_self wr]; generalize hq_ : World.drewN wr _ = wr; have n0_ : Aside0 (Kd.R k84 84 wr w.heap.size (fun k_ => k_ ≠ gb185) u3 x3_1) := ⟨by rw [← hq_]; exact (b2_ HO_3.out)⟩; have n1_ : Aside0 (wr.heap[gb185]? = some (.cells #[.int .i64 x4_1, .int .i64 0, .string x186002_2] 84 (0, 0))) := ⟨by rw [← hq_]; exact (b1_ BK185.out)⟩; have n2_ : Aside0 (Below w.heap.size w wr) := ⟨by rw [← hq_]; exact (y1_ HB.out)⟩; clear HO_3 BK185 HB hq_; have HO_3 := n0_; have BK185 := n1_; have HB := n2_; clear n0_ n1_ n2_))) | (go_at_call 91; (with_reducible refine (impl_wordByte.calls t186 true _ A16.out).mono ?_); rintro e w' ⟨rfl, ⟨nd, rfl⟩⟩; (try (rw [drewN_self wr]; generalize hq_ : World.drewN wr _ = wr; have n0_ : Aside0 (Kd.R k84 84 wr w.heap.size (fun k_ => k_ ≠ gb185) u3 x3_1) := ⟨by rw [← hq_]; exact (b2_ HO_3.out)⟩; have n1_ : Aside0 (wr.heap[gb185]? = some (.cells #[.int .i64 x4_1, .int .i64 0, .string x186002_2] 84 (0, 0))) := ⟨by rw [← hq_]; exact (b1_ BK185.out)⟩; have n2_ : Aside0 (Below w.heap.size w wr) := ⟨by rw [← hq_]; exact (y1_ HB.out)⟩; clear HO_3 BK185 HB hq_; have HO_3 := n0_; have BK185 := n1_; have HB := n2_; clear n0_ n1_ n2_))))
 replace HO_3 := Aside0.mk (Kd.R_drew HO_3.out)
 replace BK185 := Aside0.mk (blk_drew BK185.out)
 replace HB := Aside0.mk (below_drew1 HB.out)
 have p18 : 0 ≤ (x4_2 : Int) := of_decide_eq_true (by first | (with_reducible assumption) | assumption)
 have q18 : x4_2 < (a0.size : Int) := of_decide_eq_true (by first | (with_reducible assumption) | assumption)
 have hx18 := bt_at a0 x4_2
 replace p18 := eq_true p18
 replace q18 := eq_true q18
 refine start_ (n := 10) (S := fun w' => w'.cell? ⟨gb185, 0, none⟩ = some (.int .i64 x4_1) ∧ w'.cell? ⟨gb185, 1, none⟩ = some (.int .i64 0) ∧ w'.cell? ⟨gb185, 2, none⟩ = some (.string x186002_2)) (ds := [9]) #[F,F,F,F,F,F,F,F,F,F] s2_ rfl rfl ⟨(blk_cell BK185.out 0).trans rfl, (blk_cell BK185.out 1).trans rfl, (blk_cell BK185.out 2).trans rfl⟩ (fun hHeld => ?_); refine with_tabW impl_runsOf.tab8 impl_runsOf.bits8 (fun HT_ HW_ => ?_)
 generalize wr.drew = w21 at HO_3 BK185 HB hHeld ⊢
 refine pu_ 0 32 #[T,F,F,F,F,F,F,F,F,F] (any_of HT_.out s2_) ?_
 refine pu_ 2 34 #[T,F,T,F,F,F,F,F,F,F] (any_of HT_.out s2_) ?_
 refine pu_ 3 35 #[T,F,T,T,F,F,F,F,F,F] (any_of HT_.out s2_) ?_
 refine take_ (i := 1) (N := some 33) (v := ?_) (a' := ?_) #[T,T,T,T,F,F,F,F,F,F] rfl rfl (take_ofW HT_.out HW_.out s2_) (fun _ _ _ h => h) (Or.inl ⟨by rfl, ?_⟩) hHeld ?_ ?_
 rotate_left
 {
 rintro w' ⟨s0, s1, s2⟩
 go_simp
 with_reducible rfl}
 rotate_left
 · exact p1_
 refine take_ (i := 4) (N := some 36) (v := ?_) (a' := ?_) #[T,T,T,T,T,F,F,F,F,F] rfl rfl (take_ofW HT_.out HW_.out s2_) (fun _ _ _ h => h) (Or.inl ⟨by rfl, ?_⟩) hHeld ?_ ?_
 rotate_left
 {
 rintro w' ⟨s0, s1, s2⟩
 go_simp
 with_reducible rfl}
 rotate_left
 · exact p1_
 refine one_ (i := 5) (N := some 37) #[T,T,T,T,T,T,F,F,F,F] rfl rfl (one_of HT_.out s2_) (by decide) (fun K hK => ?_)
 refine goes_ Try.func95 s2_ rfl #[.int .u8 (bt a0 x4_2)] (by rfl) rfl rfl s3_ ?_
 with_reducible refine (impl_lower.calls (bt a0 x4_2) t188 _ A19.out).mono ?_
 rintro e w' ⟨rfl, ⟨nd, rfl⟩⟩
 refine ⟨_, rfl, ?_⟩
 refine hK.out _ _ ⟨(blk_cell BK185.out 0).trans rfl, (blk_cell BK185.out 1).trans rfl, (blk_cell BK185.out 2).trans rfl⟩ (fun hHeld => ?_)
 clear hK K
 refine norm_ (a' := ?_) ?_ ?_
 rotate_left
 {
 show Act.put _ (some 37) _ = _
 simp only [Act.put, List.setIfInBounds_toArray, List.set_cons_zero, List.set_cons_succ, i64_w, i32_w]
 rfl}
 refine pu_ 6 38 #[T,T,T,T,T,T,T,F,F,F] (any_of HT_.out s2_) ?_
 refine pu_ 7 39 #[T,T,T,T,T,T,T,T,F,F] (any_of HT_.out s2_) ?_
 refine pu_ 8 40 #[T,T,T,T,T,T,T,T,T,F] (any_of HT_.out s2_) ?_
 refine last_ (i := 9) (N := none) #[T,T,T,T,T,T,T,T,T,T] rfl rfl (one_of HT_.out s2_) (by decide) (fun K hK => ?_)
 have hs22 : w21.cell? ⟨gb185, 2, none⟩ = some (.string x186002_2) := (blk_cell BK185.out 2).trans rfl
 have hfs22 := blk_frozen BK185.out 2
 refine skip_ (w1 := ?_) (by rfl) rfl ?_ ?_
 rotate_left
 {
 go_simp
 rfl}
 refine hK.out _ _ ?_
 clear hK K
 refine done_ (done_of HT_.out s2_) ?_
 try go_wp2
 go_roundg k2
 case measure => have := HK1.out; have := HK2.out; omega
 case rel => exact ⟨(wrap64 (x4_2 + 1)), (x186002_2 ++ (Utf8.encode t188)), s1_, H', ⟨by have := HK1.out; have := HK2.out; omega⟩, ⟨by (with_reducible repeat (first | apply Kd.R_alloc | apply Kd.R_drewN | apply Kd.R_drew)); exact Kd.R_mono (Kd.R_far (p := ⟨gb185, 2, none⟩) (Kd.R_mono HO_3.out (fun k_ hk => (⟨hk, hk⟩ : _ ∧ k_ ≠ gb185))) (fun _ hk => hk.2) (.string (x186002_2 ++ (Utf8.encode t188)))) (fun _ hk => hk.1)⟩, ⟨by (with_reducible repeat (first | refine blk_drewN ?_ _ | refine blk_drew ?_ | refine blk_alloc ?_ _)); refine blk_put (cs := #[.int .i64 x4_1, .int .i64 0, .string x186002_2]) ?_ 2 _ rfl; (with_reducible repeat (first | refine blk_drewN ?_ _ | refine blk_drew ?_ | refine blk_alloc ?_ _)); exact BK185.out⟩, ⟨by repeat (first | (with_reducible first | exact HB.out | apply below_alloc | apply pw_below_drewN | apply below_drew1 | refine below_set ?_ GE185.out) | exact HB.out)⟩⟩}
 {
 rw [if_neg c20] at H
 exact absurd H (by simp)}}
 {
 replace c17 := Bool.eq_false_iff.mpr c17
 subst c17
 have H1 : (if x3_1.length < 4398046511104 then (impl_runsOf.l0 k2 a0 (x3_1 ++ [(⟨x4_1, x4_2, x186002_2⟩ : S84)]) (wrap64 (x4_2 + 1))) else (none)) = some r := by rw [if_neg (show ¬ (false = true) by decide)] at H; exact H
 clear H
 have H := H1
 clear H1
 by_cases c23 : x3_1.length < 4398046511104
 {
 rw [if_pos c23] at H
 have LMc23 := Aside0.mk c23
 clear c23
 obtain ⟨y189, hy189⟩ : ∃ y_ : List (S84), y_ = (x3_1 ++ [(⟨x4_1, x4_2, x186002_2⟩ : S84)]) := ⟨_, rfl⟩
 replace H : (impl_runsOf.l0 k2 a0 y189 (wrap64 (x4_2 + 1))) = some r := by first | (rw [hy189]; with_reducible exact H) | (have H2_ := (Option.bind_some _ _).symm.trans H; rw [hy189]; with_reducible exact H2_) | (have H2_ := (Option.bind_some _ _).symm.trans H; with_reducible exact H2_) | with_reducible exact H | (rw [hy189]; exact H) | exact H
 have Ny189 := Aside0.mk hy189
 clear hy189
 have H' := Aside0.mk H
 clear H
 have p14 : 0 ≤ (x4_2 : Int) := of_decide_eq_true (by first | (with_reducible assumption) | assumption)
 have q14 : x4_2 < (a0.size : Int) := of_decide_eq_true (by first | (with_reducible assumption) | assumption)
 have hx14 := bt_at a0 x4_2
 replace p14 := eq_true p14
 replace q14 := eq_true q14
 go_wp2_with (first | (go_at_call 95; (with_reducible refine (impl_lower.calls (bt a0 x4_2) t186 _ A15.out).mono ?_); rintro e w' ⟨rfl, ⟨nd, rfl⟩⟩; (try (rw [drewN_self wr]; generalize hq_ : World.drewN wr _ = wr; have n0_ : Aside0 (Kd.R k84 84 wr w.heap.size (fun k_ => k_ ≠ gb185) u3 x3_1) := ⟨by rw [← hq_]; exact (b2_ HO_3.out)⟩; have n1_ : Aside0 (wr.heap[gb185]? = some (.cells #[.int .i64 x4_1, .int .i64 0, .string x186002_2] 84 (0, 0))) := ⟨by rw [← hq_]; exact (b1_ BK185.out)⟩; have n2_ : Aside0 (Below w.heap.size w wr) := ⟨by rw [← hq_]; exact (y1_ HB.out)⟩; clear HO_3 BK185 HB hq_; have HO_3 := n0_; have BK185 := n1_; have HB := n2_; clear n0_ n1_ n2_))) | (go_at_call 91; (with_reducible refine (impl_wordByte.calls t186 false _ A16.out).mono ?_); rintro e w' ⟨rfl, ⟨nd, rfl⟩⟩; (try (rw [drewN_self wr]; generalize hq_ : World.drewN wr _ = wr; have n0_ : Aside0 (Kd.R k84 84 wr w.heap.size (fun k_ => k_ ≠ gb185) u3 x3_1) := ⟨by rw [← hq_]; exact (b2_ HO_3.out)⟩; have n1_ : Aside0 (wr.heap[gb185]? = some (.cells #[.int .i64 x4_1, .int .i64 0, .string x186002_2] 84 (0, 0))) := ⟨by rw [← hq_]; exact (b1_ BK185.out)⟩; have n2_ : Aside0 (Below w.heap.size w wr) := ⟨by rw [← hq_]; exact (y1_ HB.out)⟩; clear HO_3 BK185 HB hq_; have HO_3 := n0_; have BK185 := n1_; have HB := n2_; clear n0_ n1_ n2_)); have hcz24_0 := c1_ BK185 0 (.int .i64 x4_1); have hcz24_1 := c1_ BK185 1 (.int .i64 0); have hcz24_2 := c1_ BK185 2 (.string x186002_2); have hfz24_0 := f1_ BK185 0; have hfz24_1 := f1_ BK185 1; have hfz24_2 := f1_ BK185 2) | ((with_reducible refine gate_builtin (b := .append) (xs := #[.tmp 45, .tmp 47]) rfl ?_); at_builtin; refine Kd.R_append k84 (w0 := w) w.heap.size rfl (.tmp 45) (.tmp 47) 81 84 (.agg #[(.int .i64 0), (.int .i64 0), (.string ⟨#[]⟩)]) 32 rfl Try.underlying81 info84 rfl (by decide) (by omega) u3 x3_1 (⟨x4_1, x4_2, x186002_2⟩ : S84) [.int .i64 x4_1, .int .i64 x4_2, .string x186002_2] (fun k_ => k_ ≠ gb185) (fun _ => False) rfl (by first | (go_simp; done) | (go_simp; rfl)) ?aP (fun _ hk => hk.elim) ?aF ?aO ?aB ?aS ?aL ?_; (case aP => exact k84_mkM _ _ _ (⟨x4_1, x4_2, x186002_2⟩ : S84)); (case aB => exact (by repeat (first | (with_reducible first | exact HB.out | apply below_alloc | apply pw_below_drewN | apply below_drew1 | refine below_set ?_ GE185.out) | exact HB.out))); (case aF => exact (fun k_ hk => Kd.freshB (g := gb185) (o := .cells #[.int .i64 x4_1, .int .i64 x4_2, .string x186002_2] 84 (0, 0)) (by (with_reducible repeat (first | refine blk_drewN ?_ _ | refine blk_drew ?_ | refine blk_alloc ?_ _)); refine blk_put (cs := #[.int .i64 x4_1, .int .i64 0, .string x186002_2]) ?_ 1 _ rfl; (with_reducible repeat (first | refine blk_drewN ?_ _ | refine blk_drew ?_ | refine blk_alloc ?_ _)); exact BK185.out) k_ hk)); (case aO => exact (by (with_reducible repeat (first | apply Kd.R_alloc | apply Kd.R_drewN | apply Kd.R_drew)); exact Kd.R_mono (Kd.R_far (p := ⟨gb185, 1, none⟩) (Kd.R_mono HO_3.out (fun k_ hk => (⟨hk, hk⟩ : _ ∧ k_ ≠ gb185))) (fun _ hk => hk.2) (.int .i64 x4_2)) (fun _ hk => hk.1))); (case aS => exact (below_size (by repeat (first | (with_reducible first | exact HB.out | apply below_alloc | apply pw_below_drewN | apply below_drew1 | refine below_set ?_ GE185.out) | exact HB.out)))); (case aL => have := LMc23.out; omega); intro v190 w25 ho hb hg hat; rw [← Ny189.out] at ho; replace BK185 := Aside0.mk (blk_grown (g := gb185) (o := .cells #[.int .i64 x4_1, .int .i64 x4_2, .string x186002_2] 84 (0, 0)) (by (with_reducible repeat (first | refine blk_drewN ?_ _ | refine blk_drew ?_ | refine blk_alloc ?_ _)); refine blk_put (cs := #[.int .i64 x4_1, .int .i64 0, .string x186002_2]) ?_ 1 _ rfl; (with_reducible repeat (first | refine blk_drewN ?_ _ | refine blk_drew ?_ | refine blk_alloc ?_ _)); exact BK185.out) hg (Kd.R_away HO_3.out (fun _ hk => hk))); replace HB := Aside0.mk (hb); have HO191 := Aside0.mk (ho); clear HO_3; clear ho hb hg hat))
 go_roundg k2
 case measure => have := HK1.out; have := HK2.out; omega
 case rel => exact ⟨(y189), (wrap64 (x4_2 + 1)), s1_, H', ⟨by have := HK1.out; have := HK2.out; omega⟩, ⟨by (with_reducible repeat (first | apply Kd.R_alloc | apply Kd.R_drewN | apply Kd.R_drew)); exact Kd.R_mono HO191.out (fun _ hk => trivial)⟩, ⟨by repeat (first | (with_reducible first | exact HB.out | apply below_alloc | apply pw_below_drewN | apply below_drew1) | exact HB.out)⟩⟩}
 {
 rw [if_neg c23] at H
 exact absurd H (by simp)}}}
 {
 rw [if_neg c13] at H
 exact absurd H (by simp)}}
 {
 rw [if_neg c12] at H
 have c12b0 : decide (x4_2 < (a0.size : Int)) = false := decide_eq_false c12
 clear c12
 by_cases c26 : x3_1.length < 4398046511104
 {
 rw [if_pos c26] at H
 have LMc26 := Aside0.mk c26
 clear c26
 obtain ⟨y192, hy192⟩ : ∃ y_ : List (S84), y_ = (x3_1 ++ [(⟨x4_1, x4_2, x186002_2⟩ : S84)]) := ⟨_, rfl⟩
 replace H : (impl_runsOf.l0 k2 a0 y192 (wrap64 (x4_2 + 1))) = some r := by first | (rw [hy192]; with_reducible exact H) | (have H2_ := (Option.bind_some _ _).symm.trans H; rw [hy192]; with_reducible exact H2_) | (have H2_ := (Option.bind_some _ _).symm.trans H; with_reducible exact H2_) | with_reducible exact H | (rw [hy192]; exact H) | exact H
 have Ny192 := Aside0.mk hy192
 clear hy192
 have H' := Aside0.mk H
 clear H
 have hcz27_0 := c1_ BK185 0 (.int .i64 x4_1)
 have hcz27_1 := c1_ BK185 1 (.int .i64 0)
 have hcz27_2 := c1_ BK185 2 (.string x186002_2)
 have hfz27_0 := f1_ BK185 0
 have hfz27_1 := f1_ BK185 1
 have hfz27_2 := f1_ BK185 2
 go_wp2_with (first | ((with_reducible refine gate_builtin (b := .append) (xs := #[.tmp 45, .tmp 47]) rfl ?_); at_builtin; refine Kd.R_append k84 (w0 := w) w.heap.size rfl (.tmp 45) (.tmp 47) 81 84 (.agg #[(.int .i64 0), (.int .i64 0), (.string ⟨#[]⟩)]) 32 rfl Try.underlying81 info84 rfl (by decide) (by omega) u3 x3_1 (⟨x4_1, x4_2, x186002_2⟩ : S84) [.int .i64 x4_1, .int .i64 x4_2, .string x186002_2] (fun k_ => k_ ≠ gb185) (fun _ => False) rfl (by first | (go_simp; done) | (go_simp; rfl)) ?aP (fun _ hk => hk.elim) ?aF ?aO ?aB ?aS ?aL ?_; (case aP => exact k84_mkM _ _ _ (⟨x4_1, x4_2, x186002_2⟩ : S84)); (case aB => exact (by repeat (first | (with_reducible first | exact HB.out | apply below_alloc | apply pw_below_drewN | apply below_drew1 | refine below_set ?_ GE185.out) | exact HB.out))); (case aF => exact (fun k_ hk => Kd.freshB (g := gb185) (o := .cells #[.int .i64 x4_1, .int .i64 x4_2, .string x186002_2] 84 (0, 0)) (by (with_reducible repeat (first | refine blk_drewN ?_ _ | refine blk_drew ?_ | refine blk_alloc ?_ _)); refine blk_put (cs := #[.int .i64 x4_1, .int .i64 0, .string x186002_2]) ?_ 1 _ rfl; (with_reducible repeat (first | refine blk_drewN ?_ _ | refine blk_drew ?_ | refine blk_alloc ?_ _)); exact BK185.out) k_ hk)); (case aO => exact (by (with_reducible repeat (first | apply Kd.R_alloc | apply Kd.R_drewN | apply Kd.R_drew)); exact Kd.R_mono (Kd.R_far (p := ⟨gb185, 1, none⟩) (Kd.R_mono HO_3.out (fun k_ hk => (⟨hk, hk⟩ : _ ∧ k_ ≠ gb185))) (fun _ hk => hk.2) (.int .i64 x4_2)) (fun _ hk => hk.1))); (case aS => exact (below_size (by repeat (first | (with_reducible first | exact HB.out | apply below_alloc | apply pw_below_drewN | apply below_drew1 | refine below_set ?_ GE185.out) | exact HB.out)))); (case aL => have := LMc26.out; omega); intro v193 w28 ho hb hg hat; rw [← Ny192.out] at ho; replace BK185 := Aside0.mk (blk_grown (g := gb185) (o := .cells #[.int .i64 x4_1, .int .i64 x4_2, .string x186002_2] 84 (0, 0)) (by (with_reducible repeat (first | refine blk_drewN ?_ _ | refine blk_drew ?_ | refine blk_alloc ?_ _)); refine blk_put (cs := #[.int .i64 x4_1, .int .i64 0, .string x186002_2]) ?_ 1 _ rfl; (with_reducible repeat (first | refine blk_drewN ?_ _ | refine blk_drew ?_ | refine blk_alloc ?_ _)); exact BK185.out) hg (Kd.R_away HO_3.out (fun _ hk => hk))); replace HB := Aside0.mk (hb); have HO194 := Aside0.mk (ho); clear HO_3; clear ho hb hg hat))
 go_roundg k2
 case measure => have := HK1.out; have := HK2.out; omega
 case rel => exact ⟨(y192), (wrap64 (x4_2 + 1)), s1_, H', ⟨by have := HK1.out; have := HK2.out; omega⟩, ⟨by (with_reducible repeat (first | apply Kd.R_alloc | apply Kd.R_drewN | apply Kd.R_drew)); exact Kd.R_mono HO194.out (fun _ hk => trivial)⟩, ⟨by repeat (first | (with_reducible first | exact HB.out | apply below_alloc | apply pw_below_drewN | apply below_drew1) | exact HB.out)⟩⟩}
 {
 rw [if_neg c26] at H
 exact absurd H (by simp)}}}}}
 {
 replace c9 := Bool.eq_false_iff.mpr c9
 subst c9
 have H1 : (impl_runsOf.l0 k1 a0 x3_1 (wrap64 (x4_1 + 1))) = some r := by rw [if_neg (show ¬ (false = true) by decide)] at H; exact H
 clear H
 have H := H1
 clear H1
 have H' := Aside0.mk H
 clear H
 have p6 : 0 ≤ (x4_1 : Int) := of_decide_eq_true (by first | (with_reducible assumption) | assumption)
 have q6 : x4_1 < (a0.size : Int) := of_decide_eq_true (by first | (with_reducible assumption) | assumption)
 have hx6 := bt_at a0 x4_1
 replace p6 := eq_true p6
 replace q6 := eq_true q6
 go_wp2_with (first | ((with_reducible refine gate_callee (f := 95) rfl ?_); refine goesL_ (some 16) rfl rfl Try.func95 s2_ rfl #[.int .u8 (bt a0 x4_1)] rfl s3_ ?_; (with_reducible refine (impl_lower.calls (bt a0 x4_1) t183 _ A7.out).mono ?_); rintro e w' ⟨rfl, ⟨nd, rfl⟩⟩; refine ⟨_, rfl, ?_⟩) | ((with_reducible refine gate_callee (f := 91) rfl ?_); refine goesL_ (some 17) rfl rfl Try.func91 s2_ rfl #[.int .u8 t183] rfl s3_ ?_; (with_reducible refine (impl_wordByte.calls t183 false _ A8.out).mono ?_); rintro e w' ⟨rfl, ⟨nd, rfl⟩⟩; refine ⟨_, rfl, ?_⟩))
 go_roundg k1
 case measure => have := HK1.out; omega
 case rel => exact ⟨(x3_1), (wrap64 (x4_1 + 1)), s1_, H', ⟨by have := HK1.out; omega⟩, ⟨b2_ HO_3.out⟩, ⟨by repeat (first | (with_reducible first | exact HB.out | apply below_alloc | apply pw_below_drewN | apply below_drew1) | exact HB.out)⟩⟩}}
 {
 rw [if_neg c5] at H
 exact absurd H (by simp)}}
 {
 rw [if_neg c4] at H
 have c4b0 : decide (x4_1 < (a0.size : Int)) = false := decide_eq_false c4
 clear c4
 obtain rfl := Option.some.inj H
 go_wp2
 go_ret
 exact ⟨_, by first | rfl | (simp [errW_none, errW_some] <;> rfl) | (simp [*, errW_none, errW_some] <;> rfl), by (with_reducible repeat (first | apply Kd.R_alloc | apply Kd.R_drewN | apply Kd.R_drew)); exact HO_3.out, by repeat (first | (with_reducible first | exact HB.out | apply below_alloc | apply pw_below_drewN | apply below_drew1) | exact HB.out)⟩}}}

/-! ### slices_Index_string_string: function 96 -/
def slices_Index_string_string.l0 : Nat → List ByteArray → ByteArray → Int → Int → Option (Int)
  | 0, _, _, _, _ => none
  | k + 1, x0, x1, x7, x8 => if x8 < x7 then (if 0 ≤ x8 then (if x8 < (x0.length : Int) then (if x1.toList = (rdOf ByteArray.empty x0 x8).toList then (some x8) else (slices_Index_string_string.l0 k x0 x1 x7 (wrap64 (x8 + 1)))) else (none)) else (none)) else (some (-1))
def slices_Index_string_string.f (k : Nat) (l0 : List ByteArray) (a1 : ByteArray) : Option (Int) := slices_Index_string_string.l0 k l0 a1 (l0.length : Int) 0
theorem slices_Index_string_string.mono_l : ∀ k, (∀ y0 y1 y2 y3, LeO (slices_Index_string_string.l0 k y0 y1 y2 y3) (slices_Index_string_string.l0 (k + 1) y0 y1 y2 y3))
  | 0 => fun _ _ _ _ r h => by simp [slices_Index_string_string.l0] at h
  | k + 1 => by
    have ih0 := slices_Index_string_string.mono_l k
    · intro y0 y1 y2 y3
      unfold slices_Index_string_string.l0
      repeat' first
      | (with_reducible exact ih0 _ _ _ _)
      | (with_reducible exact LeO.refl _)
      | (with_reducible exact LeO.none _)
      | (with_reducible refine LeO.ite ?_ ?_)
      | (with_reducible refine LeO.bind ?_ (fun _ => ?_))
      | exact ih0 _ _ _ _
      | exact LeO.none _
      | refine LeO.ite ?_ ?_
      | refine LeO.bind ?_ (fun _ => ?_)
theorem slices_Index_string_string.mono : ∀ a0 a1 k, LeO (slices_Index_string_string.f k a0 a1) (slices_Index_string_string.f (k + 1) a0 a1) := by
  intro a0 a1 k
  have ih0 := slices_Index_string_string.mono_l k
  unfold slices_Index_string_string.f
  repeat' first
      | (with_reducible exact ih0 _ _ _ _)
      | (with_reducible exact LeO.refl _)
      | (with_reducible exact LeO.none _)
      | (with_reducible refine LeO.ite ?_ ?_)
      | (with_reducible refine LeO.bind ?_ (fun _ => ?_))
      | exact ih0 _ _ _ _
      | exact LeO.none _
      | refine LeO.ite ?_ ?_
      | refine LeO.bind ?_ (fun _ => ?_)
set_option maxHeartbeats 8000000 in
set_option maxRecDepth 100000 in
theorem slices_Index_string_string.calls (k : Nat) (A0 : Option Addr) (c0 : Nat) (l0 : List ByteArray) (a1 : ByteArray) (r : Int) (w : World) (hr0 : Kd.C Kd.string w A0 l0.length l0) (hc0 : l0.length ≤ c0) (h : slices_Index_string_string.f k l0 a1 = some r) :
    Calls Try.prog 96 #[.slice A0 l0.length c0, .string a1] w fun e w' => e = .returned (.int .i64 r) ∧ Drawn0 w w' := by
  have HR0 := Aside0.mk hr0
  have HC0 := Aside0.mk hc0
  clear hr0 hc0
  have H : (slices_Index_string_string.l0 k l0 a1 (l0.length : Int) 0) = some r := h
  clear h
  have H' := Aside0.mk H
  clear H
  go_enter Try.func96, Try.ntmps96
  go_wp2
  go_loopg [8] k (fun kq v8 w' => ∃ (x8_1 : Int), v8 = .int .i64 x8_1 ∧ Aside0 (slices_Index_string_string.l0 kq l0 a1 (l0.length : Int) x8_1 = some r) ∧ Aside0 (kq ≤ k) ∧ Drawn0 w w')
  case atStart => exact ⟨(0), (by first | rfl | (simp; done) | (simp [*]; done)), H', ⟨Nat.le_refl _⟩, by repeat (first | exact Drawn0.refl _ | apply Drawn0.step)⟩
  case round =>
    clear H'
    try clear p2
    obtain ⟨x8_1, rfl, HA, HK1, ⟨m1, rfl⟩⟩ := hrel
    cases gk with
    | zero => exact absurd HA.out (by simp [slices_Index_string_string.l0])
    | succ k1 =>
      have H := HA.out
      clear HA
      simp only [slices_Index_string_string.l0] at H
      by_cases c3 : x8_1 < (l0.length : Int)
      · rw [if_pos c3] at H
        have c3b0 : decide (x8_1 < (l0.length : Int)) = true := decide_eq_true c3
        clear c3
        by_cases c4 : 0 ≤ x8_1
        · rw [if_pos c4] at H
          have c4b0 : decide (0 ≤ x8_1) = true := decide_eq_true c4
          clear c4
          by_cases c5 : x8_1 < (l0.length : Int)
          · rw [if_pos c5] at H
            have c5b0 : decide (x8_1 < (l0.length : Int)) = true := decide_eq_true c5
            clear c5
            by_cases c6 : a1.toList = (rdOf ByteArray.empty l0 x8_1).toList
            · rw [if_pos c6] at H
              have c6b0 : (a1.toList == (rdOf ByteArray.empty l0 x8_1).toList) = true := beq_iff_eq.mpr c6
              have c6b1 : (a1.toList != (rdOf ByteArray.empty l0 x8_1).toList) = false := bne_eq_false_iff_eq.mpr c6
              clear c6
              obtain rfl := Option.some.inj H
              have p195 : 0 ≤ (x8_1 : Int) := of_decide_eq_true (by first | (with_reducible assumption) | assumption)
              have q195 : x8_1 < (l0.length : Int) := of_decide_eq_true (by first | (with_reducible assumption) | assumption)
              obtain ⟨ad195, e195, hx195_0⟩ := Kd.at_string HR0.out x8_1 p195 q195
              cases e195
              replace p195 := eq_true p195
              replace q195 := eq_true q195
              go_wp2
              go_ret
              exact ⟨by first | rfl | (simp; done) | (simp [*]; done), by repeat (first | exact Drawn0.refl _ | apply Drawn0.step)⟩
            · rw [if_neg c6] at H
              have c6b0 : (a1.toList == (rdOf ByteArray.empty l0 x8_1).toList) = false := beq_eq_false_iff_ne.mpr c6
              have c6b1 : (a1.toList != (rdOf ByteArray.empty l0 x8_1).toList) = true := bne_iff_ne.mpr c6
              have H' := Aside0.mk H
              clear H
              have p195 : 0 ≤ (x8_1 : Int) := of_decide_eq_true (by first | (with_reducible assumption) | assumption)
              have q195 : x8_1 < (l0.length : Int) := of_decide_eq_true (by first | (with_reducible assumption) | assumption)
              obtain ⟨ad195, e195, hx195_0⟩ := Kd.at_string HR0.out x8_1 p195 q195
              cases e195
              replace p195 := eq_true p195
              replace q195 := eq_true q195
              go_wp2
              go_roundg k1
              case measure => have := HK1.out; omega
              case rel => exact ⟨(wrap64 (x8_1 + 1)), (by first | rfl | (simp; done) | (simp [*]; done)), H', ⟨by have := HK1.out; omega⟩, by repeat (first | exact Drawn0.refl _ | apply Drawn0.step)⟩
          · rw [if_neg c5] at H
            exact absurd H (by simp)
        · rw [if_neg c4] at H
          exact absurd H (by simp)
      · rw [if_neg c3] at H
        have c3b0 : decide (x8_1 < (l0.length : Int)) = false := decide_eq_false c3
        clear c3
        obtain rfl := Option.some.inj H
        go_wp2
        go_ret
        exact ⟨by first | rfl | (simp; done) | (simp [*]; done), by repeat (first | exact Drawn0.refl _ | apply Drawn0.step)⟩

/-! ### slices_Contains_string_string: function 61 -/
def slices_Contains_string_string.f (k : Nat) (l0 : List ByteArray) (a1 : ByteArray) : Option (Bool) := (slices_Index_string_string.f k l0 a1).bind fun t196 => (some (decide (t196 ≥ 0)))
theorem slices_Contains_string_string.mono : ∀ a0 a1 k, LeO (slices_Contains_string_string.f k a0 a1) (slices_Contains_string_string.f (k + 1) a0 a1) := by
  intro a0 a1 k
  unfold slices_Contains_string_string.f
  repeat' first
      | (with_reducible exact slices_Index_string_string.mono _ _ _)
      | (with_reducible exact LeO.refl _)
      | (with_reducible exact LeO.none _)
      | (with_reducible refine LeO.ite ?_ ?_)
      | (with_reducible refine LeO.bind ?_ (fun _ => ?_))
      | exact slices_Index_string_string.mono _ _ _
      | exact LeO.none _
      | refine LeO.ite ?_ ?_
      | refine LeO.bind ?_ (fun _ => ?_)
set_option maxHeartbeats 8000000 in
set_option maxRecDepth 100000 in
theorem slices_Contains_string_string.calls (k : Nat) (A0 : Option Addr) (c0 : Nat) (l0 : List ByteArray) (a1 : ByteArray) (r : Bool) (w : World) (hr0 : Kd.C Kd.string w A0 l0.length l0) (hc0 : l0.length ≤ c0) (h : slices_Contains_string_string.f k l0 a1 = some r) :
    Calls Try.prog 61 #[.slice A0 l0.length c0, .string a1] w fun e w' => e = .returned (.bool r) ∧ Drawn0 w w' := by
  have HR0 := Aside0.mk hr0
  have HC0 := Aside0.mk hc0
  clear hr0 hc0
  have H : ((slices_Index_string_string.f k l0 a1).bind fun t196 => (some (decide (t196 ≥ 0)))) = some r := h
  clear h
  replace H := Option.bind_eq_some_iff.mp H
  obtain ⟨t196, A30, H⟩ := H
  replace H : (some (decide (t196 ≥ 0))) = some r := H
  have A3 := Aside0.mk A30
  clear A30
  obtain rfl := Option.some.inj H
  go_enter Try.func61, Try.ntmps61
  go_wp2_with (first | ((with_reducible refine gate_callee (f := 96) rfl ?_); refine goesL_ (some 7) rfl rfl Try.func96 (by kernel_rfl) rfl #[.slice A0 l0.length c0, .string a1] rfl (by (try simp only [List.map_toArray, List.map_cons, List.map_nil]); first | done | rfl | (simp only [List.length_drop, List.length_take]; rfl)) ?_; (with_reducible refine (slices_Index_string_string.calls k _ _ l0 a1 t196 _ ?side1 ?side2 A3.out).mono ?_); (case side1 => repeat (first | exact HR0.out | (with_reducible refine Kd.C_alloc ?_ _) | (with_reducible refine Kd.C_drewN ?_ _) | (with_reducible refine Kd.C_drew ?_))); (case side2 => exact HC0.out); rintro e w' ⟨rfl, ⟨nd, rfl⟩⟩; refine ⟨_, rfl, ?_⟩))
  go_ret
  exact ⟨by first | rfl | (simp; done) | (simp [*]; done), by repeat (first | exact Drawn0.refl _ | apply Drawn0.step)⟩

-- NOT PRINTED: function 109 (abi_NoEscape)

-- NOT PRINTED: function 97 (strings_Builder_copyCheck)

-- NOT PRINTED: function 62 (strings_Builder_WriteString)

-- NOT PRINTED: function 63 (strings_Builder_String)

end Go.Proofs.Ytcnhepjdibbkgaa.QFnMarked
