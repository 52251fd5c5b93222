-- written by a program of this session, on the lines of the kit's print
import Derived.Test.YtjfaepolmllejaaQFnStrikesx0
import Derived.Test.YtjfaepolmllejaaQFnStrikesx1
namespace Go.Proofs.Ytjfaepolmllejaa.QFnStrikes
open Go.RowKit Go.Proofs.YtjfaepolmllejaaW.PrintWords Go.Proofs.YtjfaepolmllejaaW.PrintLast Go.Proofs.YtjfaepolmllejaaW.PrintMore
attribute [local go_sem] max2_int min2_int max_two min_two max_three min_three max_four min_four   -- for this text's walks alone
set_option linter.unusedVariables false
set_option linter.unusedSimpArgs false

/-! ### impl_AreStrikes: function 42 -/
abbrev impl_AreStrikes.T : Bool := true
abbrev impl_AreStrikes.F : Bool := false
theorem impl_AreStrikes.s1_ {P : Prop} (h : P := by first | rfl | (simp; done) | (simp [*]; done)) : P := h
theorem impl_AreStrikes.s2_ {P : Prop} (h : P := by kernel_rfl) : P := h
theorem impl_AreStrikes.s3_ {P : Prop} (h : P := by (try simp only [List.map_toArray, List.map_cons, List.map_nil]); first | done | rfl | (simp only [List.length_drop, List.length_take]; rfl)) : P := h
abbrev impl_AreStrikes.m0_ : Array Bool := #[F,F,F,F,F,F,F,F,F,F,F,F,F,F,F,F,F,F,F,F,F,F,F,F,F,F,F,F,F,F,F]
abbrev impl_AreStrikes.m1_ : Array Bool := #[T,F,F,F,F,F,F,F,F,F,F,F,F,F,F,F,F,F,F,F,F,F,F,F,F,F,F,F,F,F,F]
abbrev impl_AreStrikes.m2_ : Array Bool := #[T,T,F,F,F,F,F,F,F,F,F,F,F,F,F,F,F,F,F,F,F,F,F,F,F,F,F,F,F,F,F]
abbrev impl_AreStrikes.m3_ : Array Bool := #[T,T,T,F,F,F,F,F,F,F,F,F,F,F,F,F,F,F,F,F,F,F,F,F,F,F,F,F,F,F,F]
abbrev impl_AreStrikes.m4_ : Array Bool := #[T,T,T,T,F,F,F,F,F,F,F,F,F,F,F,F,F,F,F,F,F,F,F,F,F,F,F,F,F,F,F]
abbrev impl_AreStrikes.m5_ : Array Bool := #[T,T,T,T,T,F,F,F,F,F,F,F,F,F,F,F,F,F,F,F,F,F,F,F,F,F,F,F,F,F,F]
abbrev impl_AreStrikes.m6_ : Array Bool := #[T,T,T,T,T,T,F,F,F,F,F,F,F,F,F,F,F,F,F,F,F,F,F,F,F,F,F,F,F,F,F]
abbrev impl_AreStrikes.m7_ : Array Bool := #[T,T,T,T,T,T,T,F,F,F,F,F,F,F,F,F,F,F,F,F,F,F,F,F,F,F,F,F,F,F,F]
abbrev impl_AreStrikes.m8_ : Array Bool := #[T,T,T,T,T,T,T,T,F,F,F,F,F,F,F,F,F,F,F,F,F,F,F,F,F,F,F,F,F,F,F]
abbrev impl_AreStrikes.m9_ : Array Bool := #[T,T,T,T,T,T,T,T,T,F,F,F,F,F,F,F,F,F,F,F,F,F,F,F,F,F,F,F,F,F,F]
abbrev impl_AreStrikes.m10_ : Array Bool := #[T,T,T,T,T,T,T,T,T,T,F,F,F,F,F,F,F,F,F,F,F,F,F,F,F,F,F,F,F,F,F]
abbrev impl_AreStrikes.m11_ : Array Bool := #[T,T,T,T,T,T,T,T,T,T,T,F,F,F,F,F,F,F,F,F,F,F,F,F,F,F,F,F,F,F,F]
abbrev impl_AreStrikes.m12_ : Array Bool := #[T,T,T,T,T,T,T,T,T,T,T,T,F,F,F,F,F,F,F,F,F,F,F,F,F,F,F,F,F,F,F]
abbrev impl_AreStrikes.m13_ : Array Bool := #[T,T,T,T,T,T,T,T,T,T,T,T,T,F,F,F,F,F,F,F,F,F,F,F,F,F,F,F,F,F,F]
abbrev impl_AreStrikes.m14_ : Array Bool := #[T,T,T,T,T,T,T,T,T,T,T,T,T,T,F,F,F,F,F,F,F,F,F,F,F,F,F,F,F,F,F]
abbrev impl_AreStrikes.m15_ : Array Bool := #[T,T,T,T,T,T,T,T,T,T,T,T,T,T,T,F,F,F,F,F,F,F,F,F,F,F,F,F,F,F,F]
abbrev impl_AreStrikes.m16_ : Array Bool := #[T,T,T,T,T,T,T,T,T,T,T,T,T,T,T,T,F,F,F,F,F,F,F,F,F,F,F,F,F,F,F]
abbrev impl_AreStrikes.m17_ : Array Bool := #[T,T,T,T,T,T,T,T,T,T,T,T,T,T,T,T,T,F,F,F,F,F,F,F,F,F,F,F,F,F,F]
abbrev impl_AreStrikes.m18_ : Array Bool := #[T,T,T,T,T,T,T,T,T,T,T,T,T,T,T,T,T,T,F,F,F,F,F,F,F,F,F,F,F,F,F]
abbrev impl_AreStrikes.m19_ : Array Bool := #[T,T,T,T,T,T,T,T,T,T,T,T,T,T,T,T,T,T,T,F,F,F,F,F,F,F,F,F,F,F,F]
abbrev impl_AreStrikes.m20_ : Array Bool := #[T,T,T,T,T,T,T,T,T,T,T,T,T,T,T,T,T,T,T,T,F,F,F,F,F,F,F,F,F,F,F]
abbrev impl_AreStrikes.m21_ : Array Bool := #[T,T,T,T,T,T,T,T,T,T,T,T,T,T,T,T,T,T,T,T,T,F,F,F,F,F,F,F,F,F,F]
abbrev impl_AreStrikes.m22_ : Array Bool := #[T,T,T,T,T,T,T,T,T,T,T,T,T,T,T,T,T,T,T,T,T,T,F,F,F,F,F,F,F,F,F]
abbrev impl_AreStrikes.m23_ : Array Bool := #[T,T,T,T,T,T,T,T,T,T,T,T,T,T,T,T,T,T,T,T,T,T,T,F,F,F,F,F,F,F,F]
abbrev impl_AreStrikes.m24_ : Array Bool := #[T,T,T,T,T,T,T,T,T,T,T,T,T,T,T,T,T,T,T,T,T,T,T,T,F,F,F,F,F,F,F]
abbrev impl_AreStrikes.m25_ : Array Bool := #[T,T,T,T,T,T,T,T,T,T,T,T,T,T,T,T,T,T,T,T,T,T,T,T,T,F,F,F,F,F,F]
abbrev impl_AreStrikes.m26_ : Array Bool := #[T,T,T,T,T,T,T,T,T,T,T,T,T,T,T,T,T,T,T,T,T,T,T,T,T,F,T,F,F,F,F]
abbrev impl_AreStrikes.m27_ : Array Bool := #[T,T,T,T,T,T,T,T,T,T,T,T,T,T,T,T,T,T,T,T,T,T,T,T,T,T,T,F,F,F,F]
abbrev impl_AreStrikes.m28_ : Array Bool := #[T,T,T,T,T,T,T,T,T,T,T,T,T,T,T,T,T,T,T,T,T,T,T,T,T,T,T,T,F,F,F]
abbrev impl_AreStrikes.m29_ : Array Bool := #[T,T,T,T,T,T,T,T,T,T,T,T,T,T,T,T,T,T,T,T,T,T,T,T,T,T,T,T,T,F,F]
abbrev impl_AreStrikes.m30_ : Array Bool := #[T,T,T,T,T,T,T,T,T,T,T,T,T,T,T,T,T,T,T,T,T,T,T,T,T,T,T,T,T,T,F]
abbrev impl_AreStrikes.m31_ : Array Bool := #[T,T,T,T,T,T,T,T,T,T,T,T,T,T,T,T,T,T,T,T,T,T,T,T,T,T,T,T,T,T,T]
abbrev impl_AreStrikes.m32_ : Array Bool := #[T,T,T,T,T,T,T,T,T,T,T,T,T,T,T,T,T,T,T,T,T,T,T,T,T,T,F,F,F,F,F]
theorem impl_AreStrikes.p1_ {P : Prop} (h : P := by simp only [Act.put, List.setIfInBounds_toArray, List.set_cons_zero, List.set_cons_succ, i64_w, i32_w]; rfl) : P := h
theorem impl_AreStrikes.y1_ {P Q : Prop} (q : Q) (h : Q → P := by intro q_; repeat (first | (with_reducible first | exact q_ | apply below_alloc | apply pw_below_drewN | apply below_drew1) | exact q_)) : P := h q
theorem impl_AreStrikes.b6_ {w w' W : World} {k : Nat} (hg : k = W.heap.size) (q : Aside0 (Below w.heap.size w w')) (h : Below w.heap.size w w' → Below w.heap.size w W := by intro q_; repeat (first | (with_reducible first | exact q_ | apply below_alloc | apply pw_below_drewN | apply below_drew1) | exact q_)) : Aside0 (w.heap.size ≤ k) := ⟨by rw [hg]; exact below_size (h q.out)⟩
theorem impl_AreStrikes.bx_ {P : Program} {ops : Array Oper} {rest : List Oper} {o : Oper} {a : Act} {Q : Exit → Act → World → Prop} {W : World} (N : Tmp) (cs : Array Value) (t : TypeId) (h : ∀ g, g = W.heap.size → ∀ w1, w1.heap[g]? = some (.cells cs t (0, 0)) → Below W.heap.size W w1 → wpList P ops Q rest (a.put o.dst (.pointer (some ⟨g, 0, none⟩))) w1) (hgd : o.guard = none := by rfl) (hd : o.dst = some N := by rfl) (hrun : (execOp a.eval o).run P W = .ok (.value (.pointer (some ⟨W.heap.size, 0, none⟩))) (W.alloc (.cells cs t (0, 0))) := by first | (go_simp; done) | (go_simp; rfl)) : wpList P ops Q (o :: rest) a W := box_event hgd hd hrun h
theorem impl_AreStrikes.c1_ {w : World} {g : Nat} {t : TypeId} {cs : Array Value} (q : Aside0 (w.heap[g]? = some (.cells cs t (0, 0)))) (i : Nat) (v : Value) (h : cs[i]? = some v := by rfl) : w.cell? ⟨g, i, none⟩ = some v := (blk_cell q.out i).trans h
theorem impl_AreStrikes.f1_ {w : World} {g : Nat} {t : TypeId} {cs : Array Value} (q : Aside0 (w.heap[g]? = some (.cells cs t (0, 0)))) (i : Nat) : w.frozen? ⟨g, i, none⟩ = false := blk_frozen q.out i
theorem impl_AreStrikes.pu_ {P : Program} {md : Region.Mode} {ops : Array Oper} {Q : Exit → Act → World → Prop} {S : World → Prop} {ds : List Nat} {fuel : Nat} {l : Array Bool} {a : Act} {w : World} {oi : Oper} {a' : Act} {v : Value} (i N : Nat) (l' : Array Bool) (hc : anyB md ops l l' i = true) (h : wpAnyLast P md ops Q S ds fuel l' a' w) (hi : ops[i]? = some oi := by rfl) (hN : oi.dst = some N := by rfl) (hQ : ∀ c a w, Q (.panic c) (a.put oi.dst v) w → Q (.panic c) a w := by exact fun _ _ _ h => h) (hy : Yields P ops oi v a := by exact Or.inl ⟨by rfl, by intro w'; go_simp; with_reducible rfl⟩) (ha : a.put (some N) v = a' := by simp only [Act.put, List.setIfInBounds_toArray, List.set_cons_zero, List.set_cons_succ, i64_w, i32_w]; rfl) : wpAnyLast P md ops Q S ds (fuel + 1) l a w := pure_ l' hi hN hc hQ hy ha h
theorem impl_AreStrikes.pn_ {P : Program} {md : Region.Mode} {ops : Array Oper} {Q : Exit → Act → World → Prop} {S : World → Prop} {ds : List Nat} {fuel : Nat} {l : Array Bool} {a : Act} {w : World} {oi : Oper} {a' : Act} (i N : Nat) (l' : Array Bool) (hc : anyB md ops l l' i = true) (h : wpAnyLast P md ops Q S ds fuel l' a' w) (hi : ops[i]? = some oi := by rfl) (hN : oi.dst = some N := by rfl) (hQ : ∀ c a w, Q (.panic c) (a.put oi.dst undef) w → Q (.panic c) a w := by exact fun _ _ _ h => h) (hy : Yields P ops oi undef a := by exact Or.inr ⟨by rfl, rfl⟩) (ha : a.put (some N) undef = a' := by simp only [Act.put, List.setIfInBounds_toArray, List.set_cons_zero, List.set_cons_succ, i64_w, i32_w]; rfl) : wpAnyLast P md ops Q S ds (fuel + 1) l a w := pure_ l' hi hN hc hQ hy ha h
def impl_AreStrikes.l0 : Nat → List (S45) → List (S45) → Int → Int → Option (Bool)
  | 0, _, _, _, _ => none
  | k + 1, x0, x5, x6, x7 => if x7 < x6 then (if 0 ≤ x7 then (if x7 < (x5.length : Int) then ((impl_isMember.f ((rd_T45 x5 x7).f0)).bind fun t105 => (if t105 = true then ((impl_in.f ((rd_T45 x5 x7).f1) 0 2).bind fun t106 => (if t106 = true then ((impl_isTick.f ((rd_T45 x5 x7).f2)).bind fun t107 => (if t107 = true then (if x7 > 0 then (if 0 ≤ (wrap64 (x7 - 1)) then (if (wrap64 (x7 - 1)) < (x0.length : Int) then (if ((rd_T45 x0 (wrap64 (x7 - 1))).f2) > ((rd_T45 x5 x7).f2) then (some false) else (impl_AreStrikes.l0 k x0 x5 x6 (wrap64 (x7 + 1)))) else (none)) else (none)) else (impl_AreStrikes.l0 k x0 x5 x6 (wrap64 (x7 + 1)))) else (some false))) else (some false))) else (some false))) else (none)) else (none)) else (some (decide ((x0.length : Int) ≤ 64)))
def impl_AreStrikes.f (k : Nat) (l0 : List (S45)) : Option (Bool) := impl_AreStrikes.l0 k l0 l0 (l0.length : Int) 0
theorem impl_AreStrikes.mono_l : ∀ k, (∀ y0 y1 y2 y3, LeO (impl_AreStrikes.l0 k y0 y1 y2 y3) (impl_AreStrikes.l0 (k + 1) y0 y1 y2 y3))
  | 0 => fun _ _ _ _ r h => by simp [impl_AreStrikes.l0] at h
  | k + 1 => by
    have ih0 := impl_AreStrikes.mono_l k
    · intro y0 y1 y2 y3
      unfold impl_AreStrikes.l0
      repeat' first
      | (with_reducible exact ih0 _ _ _ _)
      | (with_reducible exact LeO.refl _)
      | (with_reducible exact LeO.none _)
      | (with_reducible refine LeO.ite ?_ ?_)
      | (with_reducible refine LeO.bind ?_ (fun _ => ?_))
      | exact ih0 _ _ _ _
      | exact LeO.none _
      | refine LeO.ite ?_ ?_
      | refine LeO.bind ?_ (fun _ => ?_)
theorem impl_AreStrikes.mono : ∀ a0 k, LeO (impl_AreStrikes.f k a0) (impl_AreStrikes.f (k + 1) a0) := by
  intro a0 k
  have ih0 := impl_AreStrikes.mono_l k
  unfold impl_AreStrikes.f
  repeat' first
      | (with_reducible exact ih0 _ _ _ _)
      | (with_reducible exact LeO.refl _)
      | (with_reducible exact LeO.none _)
      | (with_reducible refine LeO.ite ?_ ?_)
      | (with_reducible refine LeO.bind ?_ (fun _ => ?_))
      | exact ih0 _ _ _ _
      | exact LeO.none _
      | refine LeO.ite ?_ ?_
      | refine LeO.bind ?_ (fun _ => ?_)
def impl_AreStrikes.T4 : Bool × List (List Nat × List Nat) := (true, [([], []), ([0], [0]), ([1], [1]), ([2], [2]), ([3, 2], [3]), ([4], [4]), ([5, 4], [4, 5]), ([6, 4, 4], [4, 6]), ([7, 4], [4, 7]), ([4, 8], [4, 8]), ([9, 7], [9]), ([10], [10]), ([11, 10], [10, 11]), ([12, 10, 10], [10, 12]), ([13, 10], [10, 13]), ([10, 14], [10, 14]), ([15, 13], [15]), ([16], [16]), ([17, 16], [16, 17]), ([18, 16, 16], [16, 18]), ([19], [19]), ([19], [19]), ([21, 19], [19, 21]), ([20, 22, 19], [19, 20, 22]), ([23, 19], [19, 23]), ([24, 19], [19, 24]), ([19], [19]), ([26, 19], [19, 26]), ([25, 27, 19], [19, 25, 27]), ([19, 28, 16], [16, 19, 28]), ([16, 29], [16, 29])])
def impl_AreStrikes.B4 : List Nat := [0, 1, 3, 7, 15, 31, 63, 127, 255, 511, 1023, 2047, 4095, 8191, 16383, 32767, 65535, 131071, 262143, 524287, 1048575, 1048575, 3145727, 8388607, 16777215, 33554431, 1048575, 68157439, 268435455, 536870911, 1073741823]
theorem impl_AreStrikes.tab4 : rtab .any (opsOf Try.f42 4) = impl_AreStrikes.T4 := by kernel_rfl
theorem impl_AreStrikes.bits4 : waitsOk impl_AreStrikes.T4.2 impl_AreStrikes.B4 = true := by kernel_rfl
set_option maxHeartbeats 8000000 in
set_option maxRecDepth 100000 in
theorem impl_AreStrikes.calls (k : Nat) (A0 : Option Addr) (c0 : Nat) (l0 : List (S45)) (r : Bool) (w : World) (hr0 : Kd.C k45 w A0 l0.length l0) (hc0 : l0.length ≤ c0) (h : impl_AreStrikes.f k l0 = some r) :
    Calls Try.prog 42 #[.slice A0 l0.length c0] w fun e w' => e = .returned (.bool r) ∧ Below w.heap.size w w' := by
 have hu45 := Try.underlying45
 have HR0 := Aside0.mk hr0
 have HC0 := Aside0.mk hc0
 clear hr0 hc0
 have HB := Aside0.mk (Below.refl w.heap.size w)
 have H : (impl_AreStrikes.l0 k l0 l0 (l0.length : Int) 0) = some r := h
 clear h
 have H' := Aside0.mk H
 clear H
 go_enter Try.func42, Try.ntmps42
 go_wp2
 go_loopg [7] k (fun kq v7 w' => ∃ (x7_1 : Int), v7 = .int .i64 x7_1 ∧ Aside0 (impl_AreStrikes.l0 kq l0 l0 (l0.length : Int) x7_1 = some r) ∧ Aside0 (kq ≤ k) ∧ Aside0 (Below w.heap.size w w'))
 case atStart => exact ⟨(0), s1_, H', ⟨Nat.le_refl _⟩, ⟨by repeat (first | (with_reducible first | exact HB.out | apply below_alloc | apply pw_below_drewN | apply below_drew1) | exact HB.out)⟩⟩
 case round =>
  skip
  {
 clear H'
 obtain ⟨x7_1, rfl, HA, HK1, HB⟩ := hrel
 cases gk with
 | zero => exact absurd HA.out (by simp [impl_AreStrikes.l0])
 | succ k1 =>
  skip
  {
 have H := HA.out
 clear HA
 simp only [impl_AreStrikes.l0] at H
 by_cases c2 : x7_1 < (l0.length : Int)
 {
 rw [if_pos c2] at H
 have c2b0 : decide (x7_1 < (l0.length : Int)) = true := decide_eq_true c2
 clear c2
 by_cases c3 : 0 ≤ x7_1
 {
 rw [if_pos c3] at H
 have c3b0 : decide (0 ≤ x7_1) = true := decide_eq_true c3
 clear c3
 by_cases c4 : x7_1 < (l0.length : Int)
 {
 rw [if_pos c4] at H
 have c4b0 : decide (x7_1 < (l0.length : Int)) = true := decide_eq_true c4
 clear c4
 replace H := Option.bind_eq_some_iff.mp H
 obtain ⟨t105, A50, H⟩ := H
 replace H : (if t105 = true then ((impl_in.f ((rd_T45 l0 x7_1).f1) 0 2).bind fun t106 => (if t106 = true then ((impl_isTick.f ((rd_T45 l0 x7_1).f2)).bind fun t107 => (if t107 = true then (if x7_1 > 0 then (if 0 ≤ (wrap64 (x7_1 - 1)) then (if (wrap64 (x7_1 - 1)) < (l0.length : Int) then (if ((rd_T45 l0 (wrap64 (x7_1 - 1))).f2) > ((rd_T45 l0 x7_1).f2) then (some false) else (impl_AreStrikes.l0 k1 l0 l0 (l0.length : Int) (wrap64 (x7_1 + 1)))) else (none)) else (none)) else (impl_AreStrikes.l0 k1 l0 l0 (l0.length : Int) (wrap64 (x7_1 + 1)))) else (some false))) else (some false))) else (some false)) = some r := H
 have A5 := Aside0.mk A50
 clear A50
 by_cases c6 : t105 = true
 {
 subst c6
 have H1 : ((impl_in.f ((rd_T45 l0 x7_1).f1) 0 2).bind fun t106 => (if t106 = true then ((impl_isTick.f ((rd_T45 l0 x7_1).f2)).bind fun t107 => (if t107 = true then (if x7_1 > 0 then (if 0 ≤ (wrap64 (x7_1 - 1)) then (if (wrap64 (x7_1 - 1)) < (l0.length : Int) then (if ((rd_T45 l0 (wrap64 (x7_1 - 1))).f2) > ((rd_T45 l0 x7_1).f2) then (some false) else (impl_AreStrikes.l0 k1 l0 l0 (l0.length : Int) (wrap64 (x7_1 + 1)))) else (none)) else (none)) else (impl_AreStrikes.l0 k1 l0 l0 (l0.length : Int) (wrap64 (x7_1 + 1)))) else (some false))) else (some false))) = some r := by rw [if_pos rfl] at H; exact H
 clear H
 have H := H1
 clear H1
 replace H := Option.bind_eq_some_iff.mp H
 obtain ⟨t106, A70, H⟩ := H
 replace H : (if t106 = true then ((impl_isTick.f ((rd_T45 l0 x7_1).f2)).bind fun t107 => (if t107 = true then (if x7_1 > 0 then (if 0 ≤ (wrap64 (x7_1 - 1)) then (if (wrap64 (x7_1 - 1)) < (l0.length : Int) then (if ((rd_T45 l0 (wrap64 (x7_1 - 1))).f2) > ((rd_T45 l0 x7_1).f2) then (some false) else (impl_AreStrikes.l0 k1 l0 l0 (l0.length : Int) (wrap64 (x7_1 + 1)))) else (none)) else (none)) else (impl_AreStrikes.l0 k1 l0 l0 (l0.length : Int) (wrap64 (x7_1 + 1)))) else (some false))) else (some false)) = some r := H
 have A7 := Aside0.mk A70
 clear A70
 by_cases c8 : t106 = true
 {
 subst c8
 have H1 : ((impl_isTick.f ((rd_T45 l0 x7_1).f2)).bind fun t107 => (if t107 = true then (if x7_1 > 0 then (if 0 ≤ (wrap64 (x7_1 - 1)) then (if (wrap64 (x7_1 - 1)) < (l0.length : Int) then (if ((rd_T45 l0 (wrap64 (x7_1 - 1))).f2) > ((rd_T45 l0 x7_1).f2) then (some false) else (impl_AreStrikes.l0 k1 l0 l0 (l0.length : Int) (wrap64 (x7_1 + 1)))) else (none)) else (none)) else (impl_AreStrikes.l0 k1 l0 l0 (l0.length : Int) (wrap64 (x7_1 + 1)))) else (some false))) = some r := by rw [if_pos rfl] at H; exact H
 clear H
 have H := H1
 clear H1
 replace H := Option.bind_eq_some_iff.mp H
 obtain ⟨t107, A90, H⟩ := H
 replace H : (if t107 = true then (if x7_1 > 0 then (if 0 ≤ (wrap64 (x7_1 - 1)) then (if (wrap64 (x7_1 - 1)) < (l0.length : Int) then (if ((rd_T45 l0 (wrap64 (x7_1 - 1))).f2) > ((rd_T45 l0 x7_1).f2) then (some false) else (impl_AreStrikes.l0 k1 l0 l0 (l0.length : Int) (wrap64 (x7_1 + 1)))) else (none)) else (none)) else (impl_AreStrikes.l0 k1 l0 l0 (l0.length : Int) (wrap64 (x7_1 + 1)))) else (some false)) = some r := H
 have A9 := Aside0.mk A90
 clear A90
 by_cases c10 : t107 = true
 {
 subst c10
 have H1 : (if x7_1 > 0 then (if 0 ≤ (wrap64 (x7_1 - 1)) then (if (wrap64 (x7_1 - 1)) < (l0.length : Int) then (if ((rd_T45 l0 (wrap64 (x7_1 - 1))).f2) > ((rd_T45 l0 x7_1).f2) then (some false) else (impl_AreStrikes.l0 k1 l0 l0 (l0.length : Int) (wrap64 (x7_1 + 1)))) else (none)) else (none)) else (impl_AreStrikes.l0 k1 l0 l0 (l0.length : Int) (wrap64 (x7_1 + 1)))) = some r := by rw [if_pos rfl] at H; exact H
 clear H
 have H := H1
 clear H1
 by_cases c11 : x7_1 > 0
 {
 rw [if_pos c11] at H
 have c11b0 : decide (0 < x7_1) = true := decide_eq_true c11
 clear c11
 obtain ⟨ji12, hji12⟩ : ∃ j_ : Int, (wrap64 (x7_1 - 1)) = j_ := ⟨_, rfl⟩
 replace H : (if 0 ≤ (ji12) then (if (ji12) < (l0.length : Int) then (if ((rd_T45 l0 (ji12)).f2) > ((rd_T45 l0 x7_1).f2) then (some false) else (impl_AreStrikes.l0 k1 l0 l0 (l0.length : Int) (wrap64 (x7_1 + 1)))) else (none)) else (none)) = some r := by first | (rw [hji12] at H; exact H) | (simp only [hji12] at H ⊢; exact H)
 (try rw [hji12] at A5)
 (try rw [hji12] at A7)
 (try rw [hji12] at A9)
 have hji12w : (IntKind.i64.wrap (x7_1 - 1)) = ji12 := (i64_w _).trans hji12
 by_cases c13 : 0 ≤ (ji12)
 {
 rw [if_pos c13] at H
 have c13b0 : decide (0 ≤ (ji12)) = true := decide_eq_true c13
 clear c13
 by_cases c14 : (ji12) < (l0.length : Int)
 {
 rw [if_pos c14] at H
 have c14b0 : decide ((ji12) < (l0.length : Int)) = true := decide_eq_true c14
 clear c14
 by_cases c15 : ((rd_T45 l0 (ji12)).f2) > ((rd_T45 l0 x7_1).f2)
 {
 rw [if_pos c15] at H
 have c15b0 : decide (((rd_T45 l0 x7_1).f2) < ((rd_T45 l0 (ji12)).f2)) = true := decide_eq_true c15
 clear c15
 obtain rfl := Option.some.inj H
 have p103 : 0 ≤ (x7_1 : Int) := of_decide_eq_true (by first | (with_reducible assumption) | assumption)
 have q103 : x7_1 < (l0.length : Int) := of_decide_eq_true (by first | (with_reducible assumption) | assumption)
 obtain ⟨ad103, e103, hx103_0, hx103_1, hx103_2⟩ := at_T45 HR0.out x7_1 p103 q103
 cases e103
 replace hx103_0 := (HB.out.cell (World.block_lt_of_cell? w _ hx103_0)).trans hx103_0
 replace hx103_1 := (HB.out.cell (World.block_lt_of_cell? w _ hx103_1)).trans hx103_1
 replace hx103_2 := (HB.out.cell (World.block_lt_of_cell? w _ hx103_2)).trans hx103_2
 replace p103 := eq_true p103
 replace q103 := eq_true q103
 try go_wp2_with (first | ((with_reducible refine gate_dst (N := 4) rfl ?_); refine bx_ 4 #[.int .i64 0, .int .i64 0, .int .i64 0] 45 ?_; intro gb104 hg w16 hbox hb; have GW104 := b6_ hg HB; have GE104 := b6_ hg HB; replace HB := Aside0.mk (below_step (y1_ HB.out) hb); have BK104 := Aside0.mk (hbox); clear hb hbox hg; have hcz17_0 := c1_ BK104 0 (.int .i64 0); have hcz17_1 := c1_ BK104 1 (.int .i64 0); have hcz17_2 := c1_ BK104 2 (.int .i64 0); have hfz17_0 := f1_ BK104 0; have hfz17_1 := f1_ BK104 1; have hfz17_2 := f1_ BK104 2))
 have n0_ : Aside0 ((((w16.setCell ⟨gb104, 0, none⟩ (.int .i64 ((rd_T45 l0 x7_1).f0))).setCell ⟨gb104, 1, none⟩ (.int .i64 ((rd_T45 l0 x7_1).f1))).setCell ⟨gb104, 2, none⟩ (.int .i64 ((rd_T45 l0 x7_1).f2))).heap[gb104]? = some (.cells #[.int .i64 ((rd_T45 l0 x7_1).f0), .int .i64 ((rd_T45 l0 x7_1).f1), .int .i64 ((rd_T45 l0 x7_1).f2)] 45 (0, 0))) := ⟨by (with_reducible repeat (first | refine blk_drewN ?_ _ | refine blk_drew ?_ | refine blk_alloc ?_ _)); refine blk_put3 (cs := #[.int .i64 0, .int .i64 0, .int .i64 0]) ?_ rfl; (with_reducible repeat (first | refine blk_drewN ?_ _ | refine blk_drew ?_ | refine blk_alloc ?_ _)); exact BK104.out⟩
 have n1_ : Aside0 (Below w.heap.size w (((w16.setCell ⟨gb104, 0, none⟩ (.int .i64 ((rd_T45 l0 x7_1).f0))).setCell ⟨gb104, 1, none⟩ (.int .i64 ((rd_T45 l0 x7_1).f1))).setCell ⟨gb104, 2, none⟩ (.int .i64 ((rd_T45 l0 x7_1).f2)))) := ⟨by repeat (first | (with_reducible first | exact HB.out | apply below_alloc | apply pw_below_drewN | apply below_drew1 | refine below_set ?_ GE104.out) | exact HB.out)⟩
 (try clear BK104)
 (try clear HB)
 generalize (((w16.setCell ⟨gb104, 0, none⟩ (.int .i64 ((rd_T45 l0 x7_1).f0))).setCell ⟨gb104, 1, none⟩ (.int .i64 ((rd_T45 l0 x7_1).f1))).setCell ⟨gb104, 2, none⟩ (.int .i64 ((rd_T45 l0 x7_1).f2))) = w18 at n0_ n1_ ⊢
 have BK104 := n0_
 have HB := n1_
 clear n0_ n1_
 replace BK104 := Aside0.mk (blk_drew BK104.out)
 replace HB := Aside0.mk (below_drew1 HB.out)
 have p108 : 0 ≤ ((ji12) : Int) := of_decide_eq_true (by first | (with_reducible assumption) | assumption)
 have q108 : (ji12) < (l0.length : Int) := of_decide_eq_true (by first | (with_reducible assumption) | assumption)
 obtain ⟨ad108, e108, hx108_0, hx108_1, hx108_2⟩ := at_T45 HR0.out (ji12) p108 q108
 have hw108_2 := hx108_2
 have hw108_1 := hx108_1
 have hw108_0 := hx108_0
 obtain rfl : ad103 = ad108 := (by injection e108)
 replace hx108_0 := (HB.out.cell (World.block_lt_of_cell? w _ hx108_0)).trans hx108_0
 replace hx108_1 := (HB.out.cell (World.block_lt_of_cell? w _ hx108_1)).trans hx108_1
 replace hx108_2 := (HB.out.cell (World.block_lt_of_cell? w _ hx108_2)).trans hx108_2
 replace p108 := eq_true p108
 replace q108 := eq_true q108
 refine start_ (n := 31) (S := fun w' => w'.cell? ⟨gb104, 0, none⟩ = some (.int .i64 ((rd_T45 l0 x7_1).f0)) ∧ w'.cell? ⟨gb104, 1, none⟩ = some (.int .i64 ((rd_T45 l0 x7_1).f1)) ∧ w'.cell? ⟨gb104, 2, none⟩ = some (.int .i64 ((rd_T45 l0 x7_1).f2)) ∧ w'.cell? (ad103.add (((ji12)).toNat * 3)) = some (.int .i64 ((rd_T45 l0 (ji12)).f0)) ∧ w'.cell? ⟨(ad103.add (((ji12)).toNat * 3)).block, (ad103.add (((ji12)).toNat * 3)).off + 1, none⟩ = some (.int .i64 ((rd_T45 l0 (ji12)).f1)) ∧ w'.cell? ⟨(ad103.add (((ji12)).toNat * 3)).block, (ad103.add (((ji12)).toNat * 3)).off + 2, none⟩ = some (.int .i64 ((rd_T45 l0 (ji12)).f2))) (ds := []) m0_ s2_ rfl rfl ⟨(blk_cell BK104.out 0).trans rfl, (blk_cell BK104.out 1).trans rfl, (blk_cell BK104.out 2).trans rfl, ((HB.out.cell (World.block_lt_of_cell? w _ hw108_0)).trans hw108_0), ((HB.out.cell (World.block_lt_of_cell? w _ hw108_1)).trans hw108_1), ((HB.out.cell (World.block_lt_of_cell? w _ hw108_2)).trans hw108_2)⟩ (fun hHeld => ?_); refine with_tabW impl_AreStrikes.tab4 impl_AreStrikes.bits4 (fun HT_ HW_ => ?_)
 generalize w18.drew = w19 at BK104 HB hx108_0 hx108_1 hx108_2 hHeld ⊢
 refine pu_ 0 12 m1_ (any_of HT_.out s2_) ?_
 refine take_ (i := 1) (N := some 13) (v := ?_) (a' := ?_) m2_ rfl rfl (take_ofW HT_.out HW_.out s2_) (fun _ _ _ h => h) (Or.inl ⟨by rfl, ?_⟩) hHeld ?_ ?_
 rotate_left
 {
 rintro w' ⟨s0, s1, s2, s3, s4, s5⟩
 go_simp
 with_reducible rfl}
 rotate_left
 · exact p1_
 refine one_ (i := 2) (N := some 14) m3_ rfl rfl (one_of HT_.out s2_) (by decide) (fun K hK => ?_)
 refine goes_ Try.func84 s2_ rfl #[.int .i64 ((rd_T45 l0 x7_1).f0)] (by rfl) rfl rfl s3_ ?_
 with_reducible refine (impl_isMember.calls ((rd_T45 l0 x7_1).f0) true _ A5.out).mono ?_
 rintro e w' ⟨rfl, ⟨nd, rfl⟩⟩
 refine ⟨_, rfl, ?_⟩
 refine hK.out _ _ ⟨(blk_cell BK104.out 0).trans rfl, (blk_cell BK104.out 1).trans rfl, (blk_cell BK104.out 2).trans rfl, ((HB.out.cell (World.block_lt_of_cell? w _ hw108_0)).trans hw108_0), ((HB.out.cell (World.block_lt_of_cell? w _ hw108_1)).trans hw108_1), ((HB.out.cell (World.block_lt_of_cell? w _ hw108_2)).trans hw108_2)⟩ (fun hHeld => ?_)
 clear hK K
 refine norm_ (a' := ?_) ?_ ?_
 rotate_left
 {
 show Act.put _ (some 14) _ = _
 simp only [Act.put, List.setIfInBounds_toArray, List.set_cons_zero, List.set_cons_succ, i64_w, i32_w]
 rfl}
 refine pu_ 3 15 m4_ (any_of HT_.out s2_) ?_
 refine pu_ 4 16 m5_ (any_of HT_.out s2_) ?_
 refine pu_ 5 17 m6_ (any_of HT_.out s2_) ?_
 refine take_ (i := 6) (N := some 18) (v := ?_) (a' := ?_) m7_ rfl rfl (take_ofW HT_.out HW_.out s2_) (fun _ _ _ h => h) (Or.inl ⟨by rfl, ?_⟩) hHeld ?_ ?_
 rotate_left
 {
 rintro w' ⟨s0, s1, s2, s3, s4, s5⟩
 go_simp
 with_reducible rfl}
 rotate_left
 · exact p1_
 refine one_ (i := 7) (N := some 19) m8_ rfl rfl (one_of HT_.out s2_) (by decide) (fun K hK => ?_)
 refine goes_ Try.func61 s2_ rfl #[.int .i64 ((rd_T45 l0 x7_1).f1), .int .i64 0, .int .i64 2] (by rfl) rfl rfl s3_ ?_
 with_reducible refine (impl_in.calls ((rd_T45 l0 x7_1).f1) 0 2 true _ A7.out).mono ?_
 rintro e w' ⟨rfl, ⟨nd, rfl⟩⟩
 refine ⟨_, rfl, ?_⟩
 refine hK.out _ _ ⟨(blk_cell BK104.out 0).trans rfl, (blk_cell BK104.out 1).trans rfl, (blk_cell BK104.out 2).trans rfl, ((HB.out.cell (World.block_lt_of_cell? w _ hw108_0)).trans hw108_0), ((HB.out.cell (World.block_lt_of_cell? w _ hw108_1)).trans hw108_1), ((HB.out.cell (World.block_lt_of_cell? w _ hw108_2)).trans hw108_2)⟩ (fun hHeld => ?_)
 clear hK K
 refine norm_ (a' := ?_) ?_ ?_
 rotate_left
 {
 show Act.put _ (some 19) _ = _
 simp only [Act.put, List.setIfInBounds_toArray, List.set_cons_zero, List.set_cons_succ, i64_w, i32_w]
 rfl}
 refine pu_ 8 20 m9_ (any_of HT_.out s2_) ?_
 refine pu_ 9 21 m10_ (any_of HT_.out s2_) ?_
 refine pu_ 10 22 m11_ (any_of HT_.out s2_) ?_
 refine pu_ 11 23 m12_ (any_of HT_.out s2_) ?_
 refine take_ (i := 12) (N := some 24) (v := ?_) (a' := ?_) m13_ rfl rfl (take_ofW HT_.out HW_.out s2_) (fun _ _ _ h => h) (Or.inl ⟨by rfl, ?_⟩) hHeld ?_ ?_
 rotate_left
 {
 rintro w' ⟨s0, s1, s2, s3, s4, s5⟩
 go_simp
 with_reducible rfl}
 rotate_left
 · exact p1_
 refine one_ (i := 13) (N := some 25) m14_ rfl rfl (one_of HT_.out s2_) (by decide) (fun K hK => ?_)
 refine goes_ Try.func67 s2_ rfl #[.int .i64 ((rd_T45 l0 x7_1).f2)] (by rfl) rfl rfl s3_ ?_
 with_reducible refine (impl_isTick.calls ((rd_T45 l0 x7_1).f2) true _ A9.out).mono ?_
 rintro e w' ⟨rfl, ⟨nd, rfl⟩⟩
 refine ⟨_, rfl, ?_⟩
 refine hK.out _ _ ⟨(blk_cell BK104.out 0).trans rfl, (blk_cell BK104.out 1).trans rfl, (blk_cell BK104.out 2).trans rfl, ((HB.out.cell (World.block_lt_of_cell? w _ hw108_0)).trans hw108_0), ((HB.out.cell (World.block_lt_of_cell? w _ hw108_1)).trans hw108_1), ((HB.out.cell (World.block_lt_of_cell? w _ hw108_2)).trans hw108_2)⟩ (fun hHeld => ?_)
 clear hK K
 refine norm_ (a' := ?_) ?_ ?_
 rotate_left
 {
 show Act.put _ (some 25) _ = _
 simp only [Act.put, List.setIfInBounds_toArray, List.set_cons_zero, List.set_cons_succ, i64_w, i32_w]
 rfl}
 refine pu_ 14 26 m15_ (any_of HT_.out s2_) ?_
 refine pu_ 15 27 m16_ (any_of HT_.out s2_) ?_
 refine pu_ 16 28 m17_ (any_of HT_.out s2_) ?_
 refine pu_ 17 29 m18_ (any_of HT_.out s2_) ?_
 refine pu_ 18 30 m19_ (any_of HT_.out s2_) ?_
 refine pu_ 19 31 m20_ (any_of HT_.out s2_) ?_
 refine pu_ 20 32 m21_ (any_of HT_.out s2_) ?_
 refine pu_ 21 33 m22_ (any_of HT_.out s2_) ?_
 refine pu_ 22 34 m23_ (any_of HT_.out s2_) ?_
 refine pu_ 23 35 m24_ (any_of HT_.out s2_) ?_
 refine pu_ 24 36 m25_ (any_of HT_.out s2_) ?_
 refine pu_ 26 38 m26_ (any_of HT_.out s2_) ?_
 refine take_ (i := 25) (N := some 37) (v := ?_) (a' := ?_) m27_ rfl rfl (take_ofW HT_.out HW_.out s2_) (fun _ _ _ h => h) (Or.inl ⟨by rfl, ?_⟩) hHeld ?_ ?_
 rotate_left
 {
 rintro w' ⟨s0, s1, s2, s3, s4, s5⟩
 go_simp
 with_reducible rfl}
 rotate_left
 · exact p1_
 refine take_ (i := 27) (N := some 39) (v := ?_) (a' := ?_) m28_ rfl rfl (take_ofW HT_.out HW_.out s2_) (fun _ _ _ h => h) (Or.inl ⟨by rfl, ?_⟩) hHeld ?_ ?_
 rotate_left
 {
 rintro w' ⟨s0, s1, s2, s3, s4, s5⟩
 go_simp
 with_reducible rfl}
 rotate_left
 · exact p1_
 refine pu_ 28 40 m29_ (any_of HT_.out s2_) ?_
 refine pu_ 29 41 m30_ (any_of HT_.out s2_) ?_
 refine pu_ 30 42 m31_ (any_of HT_.out s2_) ?_
 refine done_ (done_of HT_.out s2_) ?_
 try go_wp2
 go_ret
 exact ⟨by first | rfl | (simp [errW_none, errW_some] <;> rfl) | (simp only [← hji12]; first | rfl | (simp [errW_none, errW_some] <;> rfl)) | (simp [*, errW_none, errW_some] <;> rfl), by repeat (first | (with_reducible first | exact HB.out | apply below_alloc | apply pw_below_drewN | apply below_drew1) | exact HB.out)⟩}
 {
 rw [if_neg c15] at H
 have c15b0 : decide (((rd_T45 l0 x7_1).f2) < ((rd_T45 l0 (ji12)).f2)) = false := decide_eq_false c15
 clear c15
 have H' := Aside0.mk H
 clear H
 have p103 : 0 ≤ (x7_1 : Int) := of_decide_eq_true (by first | (with_reducible assumption) | assumption)
 have q103 : x7_1 < (l0.length : Int) := of_decide_eq_true (by first | (with_reducible assumption) | assumption)
 obtain ⟨ad103, e103, hx103_0, hx103_1, hx103_2⟩ := at_T45 HR0.out x7_1 p103 q103
 cases e103
 replace hx103_0 := (HB.out.cell (World.block_lt_of_cell? w _ hx103_0)).trans hx103_0
 replace hx103_1 := (HB.out.cell (World.block_lt_of_cell? w _ hx103_1)).trans hx103_1
 replace hx103_2 := (HB.out.cell (World.block_lt_of_cell? w _ hx103_2)).trans hx103_2
 replace p103 := eq_true p103
 replace q103 := eq_true q103
 try go_wp2_with (first | ((with_reducible refine gate_dst (N := 4) rfl ?_); refine bx_ 4 #[.int .i64 0, .int .i64 0, .int .i64 0] 45 ?_; intro gb104 hg w20 hbox hb; have GW104 := b6_ hg HB; have GE104 := b6_ hg HB; replace HB := Aside0.mk (below_step (y1_ HB.out) hb); have BK104 := Aside0.mk (hbox); clear hb hbox hg; have hcz21_0 := c1_ BK104 0 (.int .i64 0); have hcz21_1 := c1_ BK104 1 (.int .i64 0); have hcz21_2 := c1_ BK104 2 (.int .i64 0); have hfz21_0 := f1_ BK104 0; have hfz21_1 := f1_ BK104 1; have hfz21_2 := f1_ BK104 2))
 have n0_ : Aside0 ((((w20.setCell ⟨gb104, 0, none⟩ (.int .i64 ((rd_T45 l0 x7_1).f0))).setCell ⟨gb104, 1, none⟩ (.int .i64 ((rd_T45 l0 x7_1).f1))).setCell ⟨gb104, 2, none⟩ (.int .i64 ((rd_T45 l0 x7_1).f2))).heap[gb104]? = some (.cells #[.int .i64 ((rd_T45 l0 x7_1).f0), .int .i64 ((rd_T45 l0 x7_1).f1), .int .i64 ((rd_T45 l0 x7_1).f2)] 45 (0, 0))) := ⟨by (with_reducible repeat (first | refine blk_drewN ?_ _ | refine blk_drew ?_ | refine blk_alloc ?_ _)); refine blk_put3 (cs := #[.int .i64 0, .int .i64 0, .int .i64 0]) ?_ rfl; (with_reducible repeat (first | refine blk_drewN ?_ _ | refine blk_drew ?_ | refine blk_alloc ?_ _)); exact BK104.out⟩
 have n1_ : Aside0 (Below w.heap.size w (((w20.setCell ⟨gb104, 0, none⟩ (.int .i64 ((rd_T45 l0 x7_1).f0))).setCell ⟨gb104, 1, none⟩ (.int .i64 ((rd_T45 l0 x7_1).f1))).setCell ⟨gb104, 2, none⟩ (.int .i64 ((rd_T45 l0 x7_1).f2)))) := ⟨by repeat (first | (with_reducible first | exact HB.out | apply below_alloc | apply pw_below_drewN | apply below_drew1 | refine below_set ?_ GE104.out) | exact HB.out)⟩
 (try clear BK104)
 (try clear HB)
 generalize (((w20.setCell ⟨gb104, 0, none⟩ (.int .i64 ((rd_T45 l0 x7_1).f0))).setCell ⟨gb104, 1, none⟩ (.int .i64 ((rd_T45 l0 x7_1).f1))).setCell ⟨gb104, 2, none⟩ (.int .i64 ((rd_T45 l0 x7_1).f2))) = w22 at n0_ n1_ ⊢
 have BK104 := n0_
 have HB := n1_
 clear n0_ n1_
 replace BK104 := Aside0.mk (blk_drew BK104.out)
 replace HB := Aside0.mk (below_drew1 HB.out)
 have p108 : 0 ≤ ((ji12) : Int) := of_decide_eq_true (by first | (with_reducible assumption) | assumption)
 have q108 : (ji12) < (l0.length : Int) := of_decide_eq_true (by first | (with_reducible assumption) | assumption)
 obtain ⟨ad108, e108, hx108_0, hx108_1, hx108_2⟩ := at_T45 HR0.out (ji12) p108 q108
 have hw108_2 := hx108_2
 have hw108_1 := hx108_1
 have hw108_0 := hx108_0
 obtain rfl : ad103 = ad108 := (by injection e108)
 replace hx108_0 := (HB.out.cell (World.block_lt_of_cell? w _ hx108_0)).trans hx108_0
 replace hx108_1 := (HB.out.cell (World.block_lt_of_cell? w _ hx108_1)).trans hx108_1
 replace hx108_2 := (HB.out.cell (World.block_lt_of_cell? w _ hx108_2)).trans hx108_2
 replace p108 := eq_true p108
 replace q108 := eq_true q108
 refine start_ (n := 31) (S := fun w' => w'.cell? ⟨gb104, 0, none⟩ = some (.int .i64 ((rd_T45 l0 x7_1).f0)) ∧ w'.cell? ⟨gb104, 1, none⟩ = some (.int .i64 ((rd_T45 l0 x7_1).f1)) ∧ w'.cell? ⟨gb104, 2, none⟩ = some (.int .i64 ((rd_T45 l0 x7_1).f2)) ∧ w'.cell? (ad103.add (((ji12)).toNat * 3)) = some (.int .i64 ((rd_T45 l0 (ji12)).f0)) ∧ w'.cell? ⟨(ad103.add (((ji12)).toNat * 3)).block, (ad103.add (((ji12)).toNat * 3)).off + 1, none⟩ = some (.int .i64 ((rd_T45 l0 (ji12)).f1)) ∧ w'.cell? ⟨(ad103.add (((ji12)).toNat * 3)).block, (ad103.add (((ji12)).toNat * 3)).off + 2, none⟩ = some (.int .i64 ((rd_T45 l0 (ji12)).f2))) (ds := []) m0_ s2_ rfl rfl ⟨(blk_cell BK104.out 0).trans rfl, (blk_cell BK104.out 1).trans rfl, (blk_cell BK104.out 2).trans rfl, ((HB.out.cell (World.block_lt_of_cell? w _ hw108_0)).trans hw108_0), ((HB.out.cell (World.block_lt_of_cell? w _ hw108_1)).trans hw108_1), ((HB.out.cell (World.block_lt_of_cell? w _ hw108_2)).trans hw108_2)⟩ (fun hHeld => ?_); refine with_tabW impl_AreStrikes.tab4 impl_AreStrikes.bits4 (fun HT_ HW_ => ?_)
 generalize w22.drew = w23 at BK104 HB hx108_0 hx108_1 hx108_2 hHeld ⊢
 refine pu_ 0 12 m1_ (any_of HT_.out s2_) ?_
 refine take_ (i := 1) (N := some 13) (v := ?_) (a' := ?_) m2_ rfl rfl (take_ofW HT_.out HW_.out s2_) (fun _ _ _ h => h) (Or.inl ⟨by rfl, ?_⟩) hHeld ?_ ?_
 rotate_left
 {
 rintro w' ⟨s0, s1, s2, s3, s4, s5⟩
 go_simp
 with_reducible rfl}
 rotate_left
 · exact p1_
 refine one_ (i := 2) (N := some 14) m3_ rfl rfl (one_of HT_.out s2_) (by decide) (fun K hK => ?_)
 refine goes_ Try.func84 s2_ rfl #[.int .i64 ((rd_T45 l0 x7_1).f0)] (by rfl) rfl rfl s3_ ?_
 with_reducible refine (impl_isMember.calls ((rd_T45 l0 x7_1).f0) true _ A5.out).mono ?_
 rintro e w' ⟨rfl, ⟨nd, rfl⟩⟩
 refine ⟨_, rfl, ?_⟩
 refine hK.out _ _ ⟨(blk_cell BK104.out 0).trans rfl, (blk_cell BK104.out 1).trans rfl, (blk_cell BK104.out 2).trans rfl, ((HB.out.cell (World.block_lt_of_cell? w _ hw108_0)).trans hw108_0), ((HB.out.cell (World.block_lt_of_cell? w _ hw108_1)).trans hw108_1), ((HB.out.cell (World.block_lt_of_cell? w _ hw108_2)).trans hw108_2)⟩ (fun hHeld => ?_)
 clear hK K
 refine norm_ (a' := ?_) ?_ ?_
 rotate_left
 {
 show Act.put _ (some 14) _ = _
 simp only [Act.put, List.setIfInBounds_toArray, List.set_cons_zero, List.set_cons_succ, i64_w, i32_w]
 rfl}
 refine pu_ 3 15 m4_ (any_of HT_.out s2_) ?_
 refine pu_ 4 16 m5_ (any_of HT_.out s2_) ?_
 refine pu_ 5 17 m6_ (any_of HT_.out s2_) ?_
 refine take_ (i := 6) (N := some 18) (v := ?_) (a' := ?_) m7_ rfl rfl (take_ofW HT_.out HW_.out s2_) (fun _ _ _ h => h) (Or.inl ⟨by rfl, ?_⟩) hHeld ?_ ?_
 rotate_left
 {
 rintro w' ⟨s0, s1, s2, s3, s4, s5⟩
 go_simp
 with_reducible rfl}
 rotate_left
 · exact p1_
 refine one_ (i := 7) (N := some 19) m8_ rfl rfl (one_of HT_.out s2_) (by decide) (fun K hK => ?_)
 refine goes_ Try.func61 s2_ rfl #[.int .i64 ((rd_T45 l0 x7_1).f1), .int .i64 0, .int .i64 2] (by rfl) rfl rfl s3_ ?_
 with_reducible refine (impl_in.calls ((rd_T45 l0 x7_1).f1) 0 2 true _ A7.out).mono ?_
 rintro e w' ⟨rfl, ⟨nd, rfl⟩⟩
 refine ⟨_, rfl, ?_⟩
 refine hK.out _ _ ⟨(blk_cell BK104.out 0).trans rfl, (blk_cell BK104.out 1).trans rfl, (blk_cell BK104.out 2).trans rfl, ((HB.out.cell (World.block_lt_of_cell? w _ hw108_0)).trans hw108_0), ((HB.out.cell (World.block_lt_of_cell? w _ hw108_1)).trans hw108_1), ((HB.out.cell (World.block_lt_of_cell? w _ hw108_2)).trans hw108_2)⟩ (fun hHeld => ?_)
 clear hK K
 refine norm_ (a' := ?_) ?_ ?_
 rotate_left
 {
 show Act.put _ (some 19) _ = _
 simp only [Act.put, List.setIfInBounds_toArray, List.set_cons_zero, List.set_cons_succ, i64_w, i32_w]
 rfl}
 refine pu_ 8 20 m9_ (any_of HT_.out s2_) ?_
 refine pu_ 9 21 m10_ (any_of HT_.out s2_) ?_
 refine pu_ 10 22 m11_ (any_of HT_.out s2_) ?_
 refine pu_ 11 23 m12_ (any_of HT_.out s2_) ?_
 refine take_ (i := 12) (N := some 24) (v := ?_) (a' := ?_) m13_ rfl rfl (take_ofW HT_.out HW_.out s2_) (fun _ _ _ h => h) (Or.inl ⟨by rfl, ?_⟩) hHeld ?_ ?_
 rotate_left
 {
 rintro w' ⟨s0, s1, s2, s3, s4, s5⟩
 go_simp
 with_reducible rfl}
 rotate_left
 · exact p1_
 refine one_ (i := 13) (N := some 25) m14_ rfl rfl (one_of HT_.out s2_) (by decide) (fun K hK => ?_)
 refine goes_ Try.func67 s2_ rfl #[.int .i64 ((rd_T45 l0 x7_1).f2)] (by rfl) rfl rfl s3_ ?_
 with_reducible refine (impl_isTick.calls ((rd_T45 l0 x7_1).f2) true _ A9.out).mono ?_
 rintro e w' ⟨rfl, ⟨nd, rfl⟩⟩
 refine ⟨_, rfl, ?_⟩
 refine hK.out _ _ ⟨(blk_cell BK104.out 0).trans rfl, (blk_cell BK104.out 1).trans rfl, (blk_cell BK104.out 2).trans rfl, ((HB.out.cell (World.block_lt_of_cell? w _ hw108_0)).trans hw108_0), ((HB.out.cell (World.block_lt_of_cell? w _ hw108_1)).trans hw108_1), ((HB.out.cell (World.block_lt_of_cell? w _ hw108_2)).trans hw108_2)⟩ (fun hHeld => ?_)
 clear hK K
 refine norm_ (a' := ?_) ?_ ?_
 rotate_left
 {
 show Act.put _ (some 25) _ = _
 simp only [Act.put, List.setIfInBounds_toArray, List.set_cons_zero, List.set_cons_succ, i64_w, i32_w]
 rfl}
 refine pu_ 14 26 m15_ (any_of HT_.out s2_) ?_
 refine pu_ 15 27 m16_ (any_of HT_.out s2_) ?_
 refine pu_ 16 28 m17_ (any_of HT_.out s2_) ?_
 refine pu_ 17 29 m18_ (any_of HT_.out s2_) ?_
 refine pu_ 18 30 m19_ (any_of HT_.out s2_) ?_
 refine pu_ 19 31 m20_ (any_of HT_.out s2_) ?_
 refine pu_ 20 32 m21_ (any_of HT_.out s2_) ?_
 refine pu_ 21 33 m22_ (any_of HT_.out s2_) ?_
 refine pu_ 22 34 m23_ (any_of HT_.out s2_) ?_
 refine pu_ 23 35 m24_ (any_of HT_.out s2_) ?_
 refine pu_ 24 36 m25_ (any_of HT_.out s2_) ?_
 refine pu_ 26 38 m26_ (any_of HT_.out s2_) ?_
 refine take_ (i := 25) (N := some 37) (v := ?_) (a' := ?_) m27_ rfl rfl (take_ofW HT_.out HW_.out s2_) (fun _ _ _ h => h) (Or.inl ⟨by rfl, ?_⟩) hHeld ?_ ?_
 rotate_left
 {
 rintro w' ⟨s0, s1, s2, s3, s4, s5⟩
 go_simp
 with_reducible rfl}
 rotate_left
 · exact p1_
 refine take_ (i := 27) (N := some 39) (v := ?_) (a' := ?_) m28_ rfl rfl (take_ofW HT_.out HW_.out s2_) (fun _ _ _ h => h) (Or.inl ⟨by rfl, ?_⟩) hHeld ?_ ?_
 rotate_left
 {
 rintro w' ⟨s0, s1, s2, s3, s4, s5⟩
 go_simp
 with_reducible rfl}
 rotate_left
 · exact p1_
 refine pu_ 28 40 m29_ (any_of HT_.out s2_) ?_
 refine pu_ 29 41 m30_ (any_of HT_.out s2_) ?_
 refine pu_ 30 42 m31_ (any_of HT_.out s2_) ?_
 refine done_ (done_of HT_.out s2_) ?_
 try go_wp2
 go_roundg k1
 case measure => have := HK1.out; omega
 case rel => exact ⟨(wrap64 (x7_1 + 1)), s1_, H', ⟨by have := HK1.out; omega⟩, ⟨by repeat (first | (with_reducible first | exact HB.out | apply below_alloc | apply pw_below_drewN | apply below_drew1) | exact HB.out)⟩⟩}}
 {
 rw [if_neg c14] at H
 exact absurd H (by simp)}}
 {
 rw [if_neg c13] at H
 exact absurd H (by simp)}}
 {
 rw [if_neg c11] at H
 have c11b0 : decide (0 < x7_1) = false := decide_eq_false c11
 clear c11
 have H' := Aside0.mk H
 clear H
 have p103 : 0 ≤ (x7_1 : Int) := of_decide_eq_true (by first | (with_reducible assumption) | assumption)
 have q103 : x7_1 < (l0.length : Int) := of_decide_eq_true (by first | (with_reducible assumption) | assumption)
 obtain ⟨ad103, e103, hx103_0, hx103_1, hx103_2⟩ := at_T45 HR0.out x7_1 p103 q103
 cases e103
 replace hx103_0 := (HB.out.cell (World.block_lt_of_cell? w _ hx103_0)).trans hx103_0
 replace hx103_1 := (HB.out.cell (World.block_lt_of_cell? w _ hx103_1)).trans hx103_1
 replace hx103_2 := (HB.out.cell (World.block_lt_of_cell? w _ hx103_2)).trans hx103_2
 replace p103 := eq_true p103
 replace q103 := eq_true q103
 try go_wp2_with (first | ((with_reducible refine gate_dst (N := 4) rfl ?_); refine bx_ 4 #[.int .i64 0, .int .i64 0, .int .i64 0] 45 ?_; intro gb104 hg w24 hbox hb; have GW104 := b6_ hg HB; have GE104 := b6_ hg HB; replace HB := Aside0.mk (below_step (y1_ HB.out) hb); have BK104 := Aside0.mk (hbox); clear hb hbox hg; have hcz25_0 := c1_ BK104 0 (.int .i64 0); have hcz25_1 := c1_ BK104 1 (.int .i64 0); have hcz25_2 := c1_ BK104 2 (.int .i64 0); have hfz25_0 := f1_ BK104 0; have hfz25_1 := f1_ BK104 1; have hfz25_2 := f1_ BK104 2))
 have n0_ : Aside0 ((((w24.setCell ⟨gb104, 0, none⟩ (.int .i64 ((rd_T45 l0 x7_1).f0))).setCell ⟨gb104, 1, none⟩ (.int .i64 ((rd_T45 l0 x7_1).f1))).setCell ⟨gb104, 2, none⟩ (.int .i64 ((rd_T45 l0 x7_1).f2))).heap[gb104]? = some (.cells #[.int .i64 ((rd_T45 l0 x7_1).f0), .int .i64 ((rd_T45 l0 x7_1).f1), .int .i64 ((rd_T45 l0 x7_1).f2)] 45 (0, 0))) := ⟨by (with_reducible repeat (first | refine blk_drewN ?_ _ | refine blk_drew ?_ | refine blk_alloc ?_ _)); refine blk_put3 (cs := #[.int .i64 0, .int .i64 0, .int .i64 0]) ?_ rfl; (with_reducible repeat (first | refine blk_drewN ?_ _ | refine blk_drew ?_ | refine blk_alloc ?_ _)); exact BK104.out⟩
 have n1_ : Aside0 (Below w.heap.size w (((w24.setCell ⟨gb104, 0, none⟩ (.int .i64 ((rd_T45 l0 x7_1).f0))).setCell ⟨gb104, 1, none⟩ (.int .i64 ((rd_T45 l0 x7_1).f1))).setCell ⟨gb104, 2, none⟩ (.int .i64 ((rd_T45 l0 x7_1).f2)))) := ⟨by repeat (first | (with_reducible first | exact HB.out | apply below_alloc | apply pw_below_drewN | apply below_drew1 | refine below_set ?_ GE104.out) | exact HB.out)⟩
 (try clear BK104)
 (try clear HB)
 generalize (((w24.setCell ⟨gb104, 0, none⟩ (.int .i64 ((rd_T45 l0 x7_1).f0))).setCell ⟨gb104, 1, none⟩ (.int .i64 ((rd_T45 l0 x7_1).f1))).setCell ⟨gb104, 2, none⟩ (.int .i64 ((rd_T45 l0 x7_1).f2))) = w26 at n0_ n1_ ⊢
 have BK104 := n0_
 have HB := n1_
 clear n0_ n1_
 replace BK104 := Aside0.mk (blk_drew BK104.out)
 replace HB := Aside0.mk (below_drew1 HB.out)
 refine start_ (n := 31) (S := fun w' => w'.cell? ⟨gb104, 0, none⟩ = some (.int .i64 ((rd_T45 l0 x7_1).f0)) ∧ w'.cell? ⟨gb104, 1, none⟩ = some (.int .i64 ((rd_T45 l0 x7_1).f1)) ∧ w'.cell? ⟨gb104, 2, none⟩ = some (.int .i64 ((rd_T45 l0 x7_1).f2))) (ds := []) m0_ s2_ rfl rfl ⟨(blk_cell BK104.out 0).trans rfl, (blk_cell BK104.out 1).trans rfl, (blk_cell BK104.out 2).trans rfl⟩ (fun hHeld => ?_); refine with_tabW impl_AreStrikes.tab4 impl_AreStrikes.bits4 (fun HT_ HW_ => ?_)
 generalize w26.drew = w27 at BK104 HB hHeld ⊢
 refine pu_ 0 12 m1_ (any_of HT_.out s2_) ?_
 refine take_ (i := 1) (N := some 13) (v := ?_) (a' := ?_) m2_ rfl rfl (take_ofW HT_.out HW_.out s2_) (fun _ _ _ h => h) (Or.inl ⟨by rfl, ?_⟩) hHeld ?_ ?_
 rotate_left
 {
 rintro w' ⟨s0, s1, s2⟩
 go_simp
 with_reducible rfl}
 rotate_left
 · exact p1_
 refine one_ (i := 2) (N := some 14) m3_ rfl rfl (one_of HT_.out s2_) (by decide) (fun K hK => ?_)
 refine goes_ Try.func84 s2_ rfl #[.int .i64 ((rd_T45 l0 x7_1).f0)] (by rfl) rfl rfl s3_ ?_
 with_reducible refine (impl_isMember.calls ((rd_T45 l0 x7_1).f0) true _ A5.out).mono ?_
 rintro e w' ⟨rfl, ⟨nd, rfl⟩⟩
 refine ⟨_, rfl, ?_⟩
 refine hK.out _ _ ⟨(blk_cell BK104.out 0).trans rfl, (blk_cell BK104.out 1).trans rfl, (blk_cell BK104.out 2).trans rfl⟩ (fun hHeld => ?_)
 clear hK K
 refine norm_ (a' := ?_) ?_ ?_
 rotate_left
 {
 show Act.put _ (some 14) _ = _
 simp only [Act.put, List.setIfInBounds_toArray, List.set_cons_zero, List.set_cons_succ, i64_w, i32_w]
 rfl}
 refine pu_ 3 15 m4_ (any_of HT_.out s2_) ?_
 refine pu_ 4 16 m5_ (any_of HT_.out s2_) ?_
 refine pu_ 5 17 m6_ (any_of HT_.out s2_) ?_
 refine take_ (i := 6) (N := some 18) (v := ?_) (a' := ?_) m7_ rfl rfl (take_ofW HT_.out HW_.out s2_) (fun _ _ _ h => h) (Or.inl ⟨by rfl, ?_⟩) hHeld ?_ ?_
 rotate_left
 {
 rintro w' ⟨s0, s1, s2⟩
 go_simp
 with_reducible rfl}
 rotate_left
 · exact p1_
 refine one_ (i := 7) (N := some 19) m8_ rfl rfl (one_of HT_.out s2_) (by decide) (fun K hK => ?_)
 refine goes_ Try.func61 s2_ rfl #[.int .i64 ((rd_T45 l0 x7_1).f1), .int .i64 0, .int .i64 2] (by rfl) rfl rfl s3_ ?_
 with_reducible refine (impl_in.calls ((rd_T45 l0 x7_1).f1) 0 2 true _ A7.out).mono ?_
 rintro e w' ⟨rfl, ⟨nd, rfl⟩⟩
 refine ⟨_, rfl, ?_⟩
 refine hK.out _ _ ⟨(blk_cell BK104.out 0).trans rfl, (blk_cell BK104.out 1).trans rfl, (blk_cell BK104.out 2).trans rfl⟩ (fun hHeld => ?_)
 clear hK K
 refine norm_ (a' := ?_) ?_ ?_
 rotate_left
 {
 show Act.put _ (some 19) _ = _
 simp only [Act.put, List.setIfInBounds_toArray, List.set_cons_zero, List.set_cons_succ, i64_w, i32_w]
 rfl}
 refine pu_ 8 20 m9_ (any_of HT_.out s2_) ?_
 refine pu_ 9 21 m10_ (any_of HT_.out s2_) ?_
 refine pu_ 10 22 m11_ (any_of HT_.out s2_) ?_
 refine pu_ 11 23 m12_ (any_of HT_.out s2_) ?_
 refine take_ (i := 12) (N := some 24) (v := ?_) (a' := ?_) m13_ rfl rfl (take_ofW HT_.out HW_.out s2_) (fun _ _ _ h => h) (Or.inl ⟨by rfl, ?_⟩) hHeld ?_ ?_
 rotate_left
 {
 rintro w' ⟨s0, s1, s2⟩
 go_simp
 with_reducible rfl}
 rotate_left
 · exact p1_
 refine one_ (i := 13) (N := some 25) m14_ rfl rfl (one_of HT_.out s2_) (by decide) (fun K hK => ?_)
 refine goes_ Try.func67 s2_ rfl #[.int .i64 ((rd_T45 l0 x7_1).f2)] (by rfl) rfl rfl s3_ ?_
 with_reducible refine (impl_isTick.calls ((rd_T45 l0 x7_1).f2) true _ A9.out).mono ?_
 rintro e w' ⟨rfl, ⟨nd, rfl⟩⟩
 refine ⟨_, rfl, ?_⟩
 refine hK.out _ _ ⟨(blk_cell BK104.out 0).trans rfl, (blk_cell BK104.out 1).trans rfl, (blk_cell BK104.out 2).trans rfl⟩ (fun hHeld => ?_)
 clear hK K
 refine norm_ (a' := ?_) ?_ ?_
 rotate_left
 {
 show Act.put _ (some 25) _ = _
 simp only [Act.put, List.setIfInBounds_toArray, List.set_cons_zero, List.set_cons_succ, i64_w, i32_w]
 rfl}
 refine pu_ 14 26 m15_ (any_of HT_.out s2_) ?_
 refine pu_ 15 27 m16_ (any_of HT_.out s2_) ?_
 refine pu_ 16 28 m17_ (any_of HT_.out s2_) ?_
 refine pu_ 17 29 m18_ (any_of HT_.out s2_) ?_
 refine pu_ 18 30 m19_ (any_of HT_.out s2_) ?_
 refine pu_ 19 31 m20_ (any_of HT_.out s2_) ?_
 refine pn_ 20 32 m21_ (any_of HT_.out s2_) ?_
 refine pn_ 21 33 m22_ (any_of HT_.out s2_) ?_
 refine pn_ 22 34 m23_ (any_of HT_.out s2_) ?_
 refine pn_ 23 35 m24_ (any_of HT_.out s2_) ?_
 refine pn_ 24 36 m25_ (any_of HT_.out s2_) ?_
 refine pn_ 25 37 m32_ (any_of HT_.out s2_) ?_
 refine pn_ 26 38 m27_ (any_of HT_.out s2_) ?_
 refine pn_ 27 39 m28_ (any_of HT_.out s2_) ?_
 refine pn_ 28 40 m29_ (any_of HT_.out s2_) ?_
 refine pu_ 29 41 m30_ (any_of HT_.out s2_) ?_
 refine pu_ 30 42 m31_ (any_of HT_.out s2_) ?_
 refine done_ (done_of HT_.out s2_) ?_
 try go_wp2
 go_roundg k1
 case measure => have := HK1.out; omega
 case rel => exact ⟨(wrap64 (x7_1 + 1)), s1_, H', ⟨by have := HK1.out; omega⟩, ⟨by repeat (first | (with_reducible first | exact HB.out | apply below_alloc | apply pw_below_drewN | apply below_drew1) | exact HB.out)⟩⟩}}
 {
 replace c10 := Bool.eq_false_iff.mpr c10
 subst c10
 have H1 : (some false) = some r := by rw [if_neg (show ¬ (false = true) by decide)] at H; exact H
 clear H
 have H := H1
 clear H1
 obtain rfl := Option.some.inj H
 have p103 : 0 ≤ (x7_1 : Int) := of_decide_eq_true (by first | (with_reducible assumption) | assumption)
 have q103 : x7_1 < (l0.length : Int) := of_decide_eq_true (by first | (with_reducible assumption) | assumption)
 obtain ⟨ad103, e103, hx103_0, hx103_1, hx103_2⟩ := at_T45 HR0.out x7_1 p103 q103
 cases e103
 replace hx103_0 := (HB.out.cell (World.block_lt_of_cell? w _ hx103_0)).trans hx103_0
 replace hx103_1 := (HB.out.cell (World.block_lt_of_cell? w _ hx103_1)).trans hx103_1
 replace hx103_2 := (HB.out.cell (World.block_lt_of_cell? w _ hx103_2)).trans hx103_2
 replace p103 := eq_true p103
 replace q103 := eq_true q103
 try go_wp2_with (first | ((with_reducible refine gate_dst (N := 4) rfl ?_); refine bx_ 4 #[.int .i64 0, .int .i64 0, .int .i64 0] 45 ?_; intro gb104 hg w28 hbox hb; have GW104 := b6_ hg HB; have GE104 := b6_ hg HB; replace HB := Aside0.mk (below_step (y1_ HB.out) hb); have BK104 := Aside0.mk (hbox); clear hb hbox hg; have hcz29_0 := c1_ BK104 0 (.int .i64 0); have hcz29_1 := c1_ BK104 1 (.int .i64 0); have hcz29_2 := c1_ BK104 2 (.int .i64 0); have hfz29_0 := f1_ BK104 0; have hfz29_1 := f1_ BK104 1; have hfz29_2 := f1_ BK104 2))
 have n0_ : Aside0 ((((w28.setCell ⟨gb104, 0, none⟩ (.int .i64 ((rd_T45 l0 x7_1).f0))).setCell ⟨gb104, 1, none⟩ (.int .i64 ((rd_T45 l0 x7_1).f1))).setCell ⟨gb104, 2, none⟩ (.int .i64 ((rd_T45 l0 x7_1).f2))).heap[gb104]? = some (.cells #[.int .i64 ((rd_T45 l0 x7_1).f0), .int .i64 ((rd_T45 l0 x7_1).f1), .int .i64 ((rd_T45 l0 x7_1).f2)] 45 (0, 0))) := ⟨by (with_reducible repeat (first | refine blk_drewN ?_ _ | refine blk_drew ?_ | refine blk_alloc ?_ _)); refine blk_put3 (cs := #[.int .i64 0, .int .i64 0, .int .i64 0]) ?_ rfl; (with_reducible repeat (first | refine blk_drewN ?_ _ | refine blk_drew ?_ | refine blk_alloc ?_ _)); exact BK104.out⟩
 have n1_ : Aside0 (Below w.heap.size w (((w28.setCell ⟨gb104, 0, none⟩ (.int .i64 ((rd_T45 l0 x7_1).f0))).setCell ⟨gb104, 1, none⟩ (.int .i64 ((rd_T45 l0 x7_1).f1))).setCell ⟨gb104, 2, none⟩ (.int .i64 ((rd_T45 l0 x7_1).f2)))) := ⟨by repeat (first | (with_reducible first | exact HB.out | apply below_alloc | apply pw_below_drewN | apply below_drew1 | refine below_set ?_ GE104.out) | exact HB.out)⟩
 (try clear BK104)
 (try clear HB)
 generalize (((w28.setCell ⟨gb104, 0, none⟩ (.int .i64 ((rd_T45 l0 x7_1).f0))).setCell ⟨gb104, 1, none⟩ (.int .i64 ((rd_T45 l0 x7_1).f1))).setCell ⟨gb104, 2, none⟩ (.int .i64 ((rd_T45 l0 x7_1).f2))) = w30 at n0_ n1_ ⊢
 have BK104 := n0_
 have HB := n1_
 clear n0_ n1_
 replace BK104 := Aside0.mk (blk_drew BK104.out)
 replace HB := Aside0.mk (below_drew1 HB.out)
 refine start_ (n := 31) (S := fun w' => w'.cell? ⟨gb104, 0, none⟩ = some (.int .i64 ((rd_T45 l0 x7_1).f0)) ∧ w'.cell? ⟨gb104, 1, none⟩ = some (.int .i64 ((rd_T45 l0 x7_1).f1)) ∧ w'.cell? ⟨gb104, 2, none⟩ = some (.int .i64 ((rd_T45 l0 x7_1).f2))) (ds := []) m0_ s2_ rfl rfl ⟨(blk_cell BK104.out 0).trans rfl, (blk_cell BK104.out 1).trans rfl, (blk_cell BK104.out 2).trans rfl⟩ (fun hHeld => ?_); refine with_tabW impl_AreStrikes.tab4 impl_AreStrikes.bits4 (fun HT_ HW_ => ?_)
 generalize w30.drew = w31 at BK104 HB hHeld ⊢
 refine pu_ 0 12 m1_ (any_of HT_.out s2_) ?_
 refine take_ (i := 1) (N := some 13) (v := ?_) (a' := ?_) m2_ rfl rfl (take_ofW HT_.out HW_.out s2_) (fun _ _ _ h => h) (Or.inl ⟨by rfl, ?_⟩) hHeld ?_ ?_
 rotate_left
 {
 rintro w' ⟨s0, s1, s2⟩
 go_simp
 with_reducible rfl}
 rotate_left
 · exact p1_
 refine one_ (i := 2) (N := some 14) m3_ rfl rfl (one_of HT_.out s2_) (by decide) (fun K hK => ?_)
 refine goes_ Try.func84 s2_ rfl #[.int .i64 ((rd_T45 l0 x7_1).f0)] (by rfl) rfl rfl s3_ ?_
 with_reducible refine (impl_isMember.calls ((rd_T45 l0 x7_1).f0) true _ A5.out).mono ?_
 rintro e w' ⟨rfl, ⟨nd, rfl⟩⟩
 refine ⟨_, rfl, ?_⟩
 refine hK.out _ _ ⟨(blk_cell BK104.out 0).trans rfl, (blk_cell BK104.out 1).trans rfl, (blk_cell BK104.out 2).trans rfl⟩ (fun hHeld => ?_)
 clear hK K
 refine norm_ (a' := ?_) ?_ ?_
 rotate_left
 {
 show Act.put _ (some 14) _ = _
 simp only [Act.put, List.setIfInBounds_toArray, List.set_cons_zero, List.set_cons_succ, i64_w, i32_w]
 rfl}
 refine pu_ 3 15 m4_ (any_of HT_.out s2_) ?_
 refine pu_ 4 16 m5_ (any_of HT_.out s2_) ?_
 refine pu_ 5 17 m6_ (any_of HT_.out s2_) ?_
 refine take_ (i := 6) (N := some 18) (v := ?_) (a' := ?_) m7_ rfl rfl (take_ofW HT_.out HW_.out s2_) (fun _ _ _ h => h) (Or.inl ⟨by rfl, ?_⟩) hHeld ?_ ?_
 rotate_left
 {
 rintro w' ⟨s0, s1, s2⟩
 go_simp
 with_reducible rfl}
 rotate_left
 · exact p1_
 refine one_ (i := 7) (N := some 19) m8_ rfl rfl (one_of HT_.out s2_) (by decide) (fun K hK => ?_)
 refine goes_ Try.func61 s2_ rfl #[.int .i64 ((rd_T45 l0 x7_1).f1), .int .i64 0, .int .i64 2] (by rfl) rfl rfl s3_ ?_
 with_reducible refine (impl_in.calls ((rd_T45 l0 x7_1).f1) 0 2 true _ A7.out).mono ?_
 rintro e w' ⟨rfl, ⟨nd, rfl⟩⟩
 refine ⟨_, rfl, ?_⟩
 refine hK.out _ _ ⟨(blk_cell BK104.out 0).trans rfl, (blk_cell BK104.out 1).trans rfl, (blk_cell BK104.out 2).trans rfl⟩ (fun hHeld => ?_)
 clear hK K
 refine norm_ (a' := ?_) ?_ ?_
 rotate_left
 {
 show Act.put _ (some 19) _ = _
 simp only [Act.put, List.setIfInBounds_toArray, List.set_cons_zero, List.set_cons_succ, i64_w, i32_w]
 rfl}
 refine pu_ 8 20 m9_ (any_of HT_.out s2_) ?_
 refine pu_ 9 21 m10_ (any_of HT_.out s2_) ?_
 refine pu_ 10 22 m11_ (any_of HT_.out s2_) ?_
 refine pu_ 11 23 m12_ (any_of HT_.out s2_) ?_
 refine take_ (i := 12) (N := some 24) (v := ?_) (a' := ?_) m13_ rfl rfl (take_ofW HT_.out HW_.out s2_) (fun _ _ _ h => h) (Or.inl ⟨by rfl, ?_⟩) hHeld ?_ ?_
 rotate_left
 {
 rintro w' ⟨s0, s1, s2⟩
 go_simp
 with_reducible rfl}
 rotate_left
 · exact p1_
 refine one_ (i := 13) (N := some 25) m14_ rfl rfl (one_of HT_.out s2_) (by decide) (fun K hK => ?_)
 refine goes_ Try.func67 s2_ rfl #[.int .i64 ((rd_T45 l0 x7_1).f2)] (by rfl) rfl rfl s3_ ?_
 with_reducible refine (impl_isTick.calls ((rd_T45 l0 x7_1).f2) false _ A9.out).mono ?_
 rintro e w' ⟨rfl, ⟨nd, rfl⟩⟩
 refine ⟨_, rfl, ?_⟩
 refine hK.out _ _ ⟨(blk_cell BK104.out 0).trans rfl, (blk_cell BK104.out 1).trans rfl, (blk_cell BK104.out 2).trans rfl⟩ (fun hHeld => ?_)
 clear hK K
 refine norm_ (a' := ?_) ?_ ?_
 rotate_left
 {
 show Act.put _ (some 25) _ = _
 simp only [Act.put, List.setIfInBounds_toArray, List.set_cons_zero, List.set_cons_succ, i64_w, i32_w]
 rfl}
 refine pu_ 14 26 m15_ (any_of HT_.out s2_) ?_
 refine pu_ 15 27 m16_ (any_of HT_.out s2_) ?_
 refine pu_ 16 28 m17_ (any_of HT_.out s2_) ?_
 refine pn_ 17 29 m18_ (any_of HT_.out s2_) ?_
 refine pn_ 18 30 m19_ (any_of HT_.out s2_) ?_
 refine pn_ 19 31 m20_ (any_of HT_.out s2_) ?_
 refine pn_ 20 32 m21_ (any_of HT_.out s2_) ?_
 refine pn_ 21 33 m22_ (any_of HT_.out s2_) ?_
 refine pn_ 22 34 m23_ (any_of HT_.out s2_) ?_
 refine pn_ 23 35 m24_ (any_of HT_.out s2_) ?_
 refine pn_ 24 36 m25_ (any_of HT_.out s2_) ?_
 refine pn_ 25 37 m32_ (any_of HT_.out s2_) ?_
 refine pn_ 26 38 m27_ (any_of HT_.out s2_) ?_
 refine pn_ 27 39 m28_ (any_of HT_.out s2_) ?_
 refine pn_ 28 40 m29_ (any_of HT_.out s2_) ?_
 refine pn_ 29 41 m30_ (any_of HT_.out s2_) ?_
 refine pu_ 30 42 m31_ (any_of HT_.out s2_) ?_
 refine done_ (done_of HT_.out s2_) ?_
 try go_wp2
 go_ret
 exact ⟨by first | rfl | (simp [errW_none, errW_some] <;> rfl) | (simp [*, errW_none, errW_some] <;> rfl), by repeat (first | (with_reducible first | exact HB.out | apply below_alloc | apply pw_below_drewN | apply below_drew1) | exact HB.out)⟩}}
 {
 replace c8 := Bool.eq_false_iff.mpr c8
 subst c8
 have H1 : (some false) = some r := by rw [if_neg (show ¬ (false = true) by decide)] at H; exact H
 clear H
 have H := H1
 clear H1
 obtain rfl := Option.some.inj H
 have p103 : 0 ≤ (x7_1 : Int) := of_decide_eq_true (by first | (with_reducible assumption) | assumption)
 have q103 : x7_1 < (l0.length : Int) := of_decide_eq_true (by first | (with_reducible assumption) | assumption)
 obtain ⟨ad103, e103, hx103_0, hx103_1, hx103_2⟩ := at_T45 HR0.out x7_1 p103 q103
 cases e103
 replace hx103_0 := (HB.out.cell (World.block_lt_of_cell? w _ hx103_0)).trans hx103_0
 replace hx103_1 := (HB.out.cell (World.block_lt_of_cell? w _ hx103_1)).trans hx103_1
 replace hx103_2 := (HB.out.cell (World.block_lt_of_cell? w _ hx103_2)).trans hx103_2
 replace p103 := eq_true p103
 replace q103 := eq_true q103
 try go_wp2_with (first | ((with_reducible refine gate_dst (N := 4) rfl ?_); refine bx_ 4 #[.int .i64 0, .int .i64 0, .int .i64 0] 45 ?_; intro gb104 hg w32 hbox hb; have GW104 := b6_ hg HB; have GE104 := b6_ hg HB; replace HB := Aside0.mk (below_step (y1_ HB.out) hb); have BK104 := Aside0.mk (hbox); clear hb hbox hg; have hcz33_0 := c1_ BK104 0 (.int .i64 0); have hcz33_1 := c1_ BK104 1 (.int .i64 0); have hcz33_2 := c1_ BK104 2 (.int .i64 0); have hfz33_0 := f1_ BK104 0; have hfz33_1 := f1_ BK104 1; have hfz33_2 := f1_ BK104 2))
 have n0_ : Aside0 ((((w32.setCell ⟨gb104, 0, none⟩ (.int .i64 ((rd_T45 l0 x7_1).f0))).setCell ⟨gb104, 1, none⟩ (.int .i64 ((rd_T45 l0 x7_1).f1))).setCell ⟨gb104, 2, none⟩ (.int .i64 ((rd_T45 l0 x7_1).f2))).heap[gb104]? = some (.cells #[.int .i64 ((rd_T45 l0 x7_1).f0), .int .i64 ((rd_T45 l0 x7_1).f1), .int .i64 ((rd_T45 l0 x7_1).f2)] 45 (0, 0))) := ⟨by (with_reducible repeat (first | refine blk_drewN ?_ _ | refine blk_drew ?_ | refine blk_alloc ?_ _)); refine blk_put3 (cs := #[.int .i64 0, .int .i64 0, .int .i64 0]) ?_ rfl; (with_reducible repeat (first | refine blk_drewN ?_ _ | refine blk_drew ?_ | refine blk_alloc ?_ _)); exact BK104.out⟩
 have n1_ : Aside0 (Below w.heap.size w (((w32.setCell ⟨gb104, 0, none⟩ (.int .i64 ((rd_T45 l0 x7_1).f0))).setCell ⟨gb104, 1, none⟩ (.int .i64 ((rd_T45 l0 x7_1).f1))).setCell ⟨gb104, 2, none⟩ (.int .i64 ((rd_T45 l0 x7_1).f2)))) := ⟨by repeat (first | (with_reducible first | exact HB.out | apply below_alloc | apply pw_below_drewN | apply below_drew1 | refine below_set ?_ GE104.out) | exact HB.out)⟩
 (try clear BK104)
 (try clear HB)
 generalize (((w32.setCell ⟨gb104, 0, none⟩ (.int .i64 ((rd_T45 l0 x7_1).f0))).setCell ⟨gb104, 1, none⟩ (.int .i64 ((rd_T45 l0 x7_1).f1))).setCell ⟨gb104, 2, none⟩ (.int .i64 ((rd_T45 l0 x7_1).f2))) = w34 at n0_ n1_ ⊢
 have BK104 := n0_
 have HB := n1_
 clear n0_ n1_
 replace BK104 := Aside0.mk (blk_drew BK104.out)
 replace HB := Aside0.mk (below_drew1 HB.out)
 refine start_ (n := 31) (S := fun w' => w'.cell? ⟨gb104, 0, none⟩ = some (.int .i64 ((rd_T45 l0 x7_1).f0)) ∧ w'.cell? ⟨gb104, 1, none⟩ = some (.int .i64 ((rd_T45 l0 x7_1).f1)) ∧ w'.cell? ⟨gb104, 2, none⟩ = some (.int .i64 ((rd_T45 l0 x7_1).f2))) (ds := []) m0_ s2_ rfl rfl ⟨(blk_cell BK104.out 0).trans rfl, (blk_cell BK104.out 1).trans rfl, (blk_cell BK104.out 2).trans rfl⟩ (fun hHeld => ?_); refine with_tabW impl_AreStrikes.tab4 impl_AreStrikes.bits4 (fun HT_ HW_ => ?_)
 generalize w34.drew = w35 at BK104 HB hHeld ⊢
 refine pu_ 0 12 m1_ (any_of HT_.out s2_) ?_
 refine take_ (i := 1) (N := some 13) (v := ?_) (a' := ?_) m2_ rfl rfl (take_ofW HT_.out HW_.out s2_) (fun _ _ _ h => h) (Or.inl ⟨by rfl, ?_⟩) hHeld ?_ ?_
 rotate_left
 {
 rintro w' ⟨s0, s1, s2⟩
 go_simp
 with_reducible rfl}
 rotate_left
 · exact p1_
 refine one_ (i := 2) (N := some 14) m3_ rfl rfl (one_of HT_.out s2_) (by decide) (fun K hK => ?_)
 refine goes_ Try.func84 s2_ rfl #[.int .i64 ((rd_T45 l0 x7_1).f0)] (by rfl) rfl rfl s3_ ?_
 with_reducible refine (impl_isMember.calls ((rd_T45 l0 x7_1).f0) true _ A5.out).mono ?_
 rintro e w' ⟨rfl, ⟨nd, rfl⟩⟩
 refine ⟨_, rfl, ?_⟩
 refine hK.out _ _ ⟨(blk_cell BK104.out 0).trans rfl, (blk_cell BK104.out 1).trans rfl, (blk_cell BK104.out 2).trans rfl⟩ (fun hHeld => ?_)
 clear hK K
 refine norm_ (a' := ?_) ?_ ?_
 rotate_left
 {
 show Act.put _ (some 14) _ = _
 simp only [Act.put, List.setIfInBounds_toArray, List.set_cons_zero, List.set_cons_succ, i64_w, i32_w]
 rfl}
 refine pu_ 3 15 m4_ (any_of HT_.out s2_) ?_
 refine pu_ 4 16 m5_ (any_of HT_.out s2_) ?_
 refine pu_ 5 17 m6_ (any_of HT_.out s2_) ?_
 refine take_ (i := 6) (N := some 18) (v := ?_) (a' := ?_) m7_ rfl rfl (take_ofW HT_.out HW_.out s2_) (fun _ _ _ h => h) (Or.inl ⟨by rfl, ?_⟩) hHeld ?_ ?_
 rotate_left
 {
 rintro w' ⟨s0, s1, s2⟩
 go_simp
 with_reducible rfl}
 rotate_left
 · exact p1_
 refine one_ (i := 7) (N := some 19) m8_ rfl rfl (one_of HT_.out s2_) (by decide) (fun K hK => ?_)
 refine goes_ Try.func61 s2_ rfl #[.int .i64 ((rd_T45 l0 x7_1).f1), .int .i64 0, .int .i64 2] (by rfl) rfl rfl s3_ ?_
 with_reducible refine (impl_in.calls ((rd_T45 l0 x7_1).f1) 0 2 false _ A7.out).mono ?_
 rintro e w' ⟨rfl, ⟨nd, rfl⟩⟩
 refine ⟨_, rfl, ?_⟩
 refine hK.out _ _ ⟨(blk_cell BK104.out 0).trans rfl, (blk_cell BK104.out 1).trans rfl, (blk_cell BK104.out 2).trans rfl⟩ (fun hHeld => ?_)
 clear hK K
 refine norm_ (a' := ?_) ?_ ?_
 rotate_left
 {
 show Act.put _ (some 19) _ = _
 simp only [Act.put, List.setIfInBounds_toArray, List.set_cons_zero, List.set_cons_succ, i64_w, i32_w]
 rfl}
 refine pu_ 8 20 m9_ (any_of HT_.out s2_) ?_
 refine pu_ 9 21 m10_ (any_of HT_.out s2_) ?_
 refine pu_ 10 22 m11_ (any_of HT_.out s2_) ?_
 refine pn_ 11 23 m12_ (any_of HT_.out s2_) ?_
 refine pn_ 12 24 m13_ (any_of HT_.out s2_) ?_
 refine pn_ 13 25 m14_ (any_of HT_.out s2_) ?_
 refine pn_ 14 26 m15_ (any_of HT_.out s2_) ?_
 refine pu_ 15 27 m16_ (any_of HT_.out s2_) ?_
 refine pu_ 16 28 m17_ (any_of HT_.out s2_) ?_
 refine pn_ 17 29 m18_ (any_of HT_.out s2_) ?_
 refine pn_ 18 30 m19_ (any_of HT_.out s2_) ?_
 refine pn_ 19 31 m20_ (any_of HT_.out s2_) ?_
 refine pn_ 20 32 m21_ (any_of HT_.out s2_) ?_
 refine pn_ 21 33 m22_ (any_of HT_.out s2_) ?_
 refine pn_ 22 34 m23_ (any_of HT_.out s2_) ?_
 refine pn_ 23 35 m24_ (any_of HT_.out s2_) ?_
 refine pn_ 24 36 m25_ (any_of HT_.out s2_) ?_
 refine pn_ 25 37 m32_ (any_of HT_.out s2_) ?_
 refine pn_ 26 38 m27_ (any_of HT_.out s2_) ?_
 refine pn_ 27 39 m28_ (any_of HT_.out s2_) ?_
 refine pn_ 28 40 m29_ (any_of HT_.out s2_) ?_
 refine pn_ 29 41 m30_ (any_of HT_.out s2_) ?_
 refine pu_ 30 42 m31_ (any_of HT_.out s2_) ?_
 refine done_ (done_of HT_.out s2_) ?_
 try go_wp2
 go_ret
 exact ⟨by first | rfl | (simp [errW_none, errW_some] <;> rfl) | (simp [*, errW_none, errW_some] <;> rfl), by repeat (first | (with_reducible first | exact HB.out | apply below_alloc | apply pw_below_drewN | apply below_drew1) | exact HB.out)⟩}}
 {
 replace c6 := Bool.eq_false_iff.mpr c6
 subst c6
 have H1 : (some false) = some r := by rw [if_neg (show ¬ (false = true) by decide)] at H; exact H
 clear H
 have H := H1
 clear H1
 obtain rfl := Option.some.inj H
 have p103 : 0 ≤ (x7_1 : Int) := of_decide_eq_true (by first | (with_reducible assumption) | assumption)
 have q103 : x7_1 < (l0.length : Int) := of_decide_eq_true (by first | (with_reducible assumption) | assumption)
 obtain ⟨ad103, e103, hx103_0, hx103_1, hx103_2⟩ := at_T45 HR0.out x7_1 p103 q103
 cases e103
 replace hx103_0 := (HB.out.cell (World.block_lt_of_cell? w _ hx103_0)).trans hx103_0
 replace hx103_1 := (HB.out.cell (World.block_lt_of_cell? w _ hx103_1)).trans hx103_1
 replace hx103_2 := (HB.out.cell (World.block_lt_of_cell? w _ hx103_2)).trans hx103_2
 replace p103 := eq_true p103
 replace q103 := eq_true q103
 try go_wp2_with (first | ((with_reducible refine gate_dst (N := 4) rfl ?_); refine bx_ 4 #[.int .i64 0, .int .i64 0, .int .i64 0] 45 ?_; intro gb104 hg w36 hbox hb; have GW104 := b6_ hg HB; have GE104 := b6_ hg HB; replace HB := Aside0.mk (below_step (y1_ HB.out) hb); have BK104 := Aside0.mk (hbox); clear hb hbox hg; have hcz37_0 := c1_ BK104 0 (.int .i64 0); have hcz37_1 := c1_ BK104 1 (.int .i64 0); have hcz37_2 := c1_ BK104 2 (.int .i64 0); have hfz37_0 := f1_ BK104 0; have hfz37_1 := f1_ BK104 1; have hfz37_2 := f1_ BK104 2))
 have n0_ : Aside0 ((((w36.setCell ⟨gb104, 0, none⟩ (.int .i64 ((rd_T45 l0 x7_1).f0))).setCell ⟨gb104, 1, none⟩ (.int .i64 ((rd_T45 l0 x7_1).f1))).setCell ⟨gb104, 2, none⟩ (.int .i64 ((rd_T45 l0 x7_1).f2))).heap[gb104]? = some (.cells #[.int .i64 ((rd_T45 l0 x7_1).f0), .int .i64 ((rd_T45 l0 x7_1).f1), .int .i64 ((rd_T45 l0 x7_1).f2)] 45 (0, 0))) := ⟨by (with_reducible repeat (first | refine blk_drewN ?_ _ | refine blk_drew ?_ | refine blk_alloc ?_ _)); refine blk_put3 (cs := #[.int .i64 0, .int .i64 0, .int .i64 0]) ?_ rfl; (with_reducible repeat (first | refine blk_drewN ?_ _ | refine blk_drew ?_ | refine blk_alloc ?_ _)); exact BK104.out⟩
 have n1_ : Aside0 (Below w.heap.size w (((w36.setCell ⟨gb104, 0, none⟩ (.int .i64 ((rd_T45 l0 x7_1).f0))).setCell ⟨gb104, 1, none⟩ (.int .i64 ((rd_T45 l0 x7_1).f1))).setCell ⟨gb104, 2, none⟩ (.int .i64 ((rd_T45 l0 x7_1).f2)))) := ⟨by repeat (first | (with_reducible first | exact HB.out | apply below_alloc | apply pw_below_drewN | apply below_drew1 | refine below_set ?_ GE104.out) | exact HB.out)⟩
 (try clear BK104)
 (try clear HB)
 generalize (((w36.setCell ⟨gb104, 0, none⟩ (.int .i64 ((rd_T45 l0 x7_1).f0))).setCell ⟨gb104, 1, none⟩ (.int .i64 ((rd_T45 l0 x7_1).f1))).setCell ⟨gb104, 2, none⟩ (.int .i64 ((rd_T45 l0 x7_1).f2))) = w38 at n0_ n1_ ⊢
 have BK104 := n0_
 have HB := n1_
 clear n0_ n1_
 replace BK104 := Aside0.mk (blk_drew BK104.out)
 replace HB := Aside0.mk (below_drew1 HB.out)
 refine start_ (n := 31) (S := fun w' => w'.cell? ⟨gb104, 0, none⟩ = some (.int .i64 ((rd_T45 l0 x7_1).f0)) ∧ w'.cell? ⟨gb104, 1, none⟩ = some (.int .i64 ((rd_T45 l0 x7_1).f1)) ∧ w'.cell? ⟨gb104, 2, none⟩ = some (.int .i64 ((rd_T45 l0 x7_1).f2))) (ds := []) m0_ s2_ rfl rfl ⟨(blk_cell BK104.out 0).trans rfl, (blk_cell BK104.out 1).trans rfl, (blk_cell BK104.out 2).trans rfl⟩ (fun hHeld => ?_); refine with_tabW impl_AreStrikes.tab4 impl_AreStrikes.bits4 (fun HT_ HW_ => ?_)
 generalize w38.drew = w39 at BK104 HB hHeld ⊢
 refine pu_ 0 12 m1_ (any_of HT_.out s2_) ?_
 refine take_ (i := 1) (N := some 13) (v := ?_) (a' := ?_) m2_ rfl rfl (take_ofW HT_.out HW_.out s2_) (fun _ _ _ h => h) (Or.inl ⟨by rfl, ?_⟩) hHeld ?_ ?_
 rotate_left
 {
 rintro w' ⟨s0, s1, s2⟩
 go_simp
 with_reducible rfl}
 rotate_left
 · exact p1_
 refine one_ (i := 2) (N := some 14) m3_ rfl rfl (one_of HT_.out s2_) (by decide) (fun K hK => ?_)
 refine goes_ Try.func84 s2_ rfl #[.int .i64 ((rd_T45 l0 x7_1).f0)] (by rfl) rfl rfl s3_ ?_
 with_reducible refine (impl_isMember.calls ((rd_T45 l0 x7_1).f0) false _ A5.out).mono ?_
 rintro e w' ⟨rfl, ⟨nd, rfl⟩⟩
 refine ⟨_, rfl, ?_⟩
 refine hK.out _ _ ⟨(blk_cell BK104.out 0).trans rfl, (blk_cell BK104.out 1).trans rfl, (blk_cell BK104.out 2).trans rfl⟩ (fun hHeld => ?_)
 clear hK K
 refine norm_ (a' := ?_) ?_ ?_
 rotate_left
 {
 show Act.put _ (some 14) _ = _
 simp only [Act.put, List.setIfInBounds_toArray, List.set_cons_zero, List.set_cons_succ, i64_w, i32_w]
 rfl}
 refine pu_ 3 15 m4_ (any_of HT_.out s2_) ?_
 refine pu_ 4 16 m5_ (any_of HT_.out s2_) ?_
 refine pn_ 5 17 m6_ (any_of HT_.out s2_) ?_
 refine pn_ 6 18 m7_ (any_of HT_.out s2_) ?_
 refine pn_ 7 19 m8_ (any_of HT_.out s2_) ?_
 refine pn_ 8 20 m9_ (any_of HT_.out s2_) ?_
 refine pu_ 9 21 m10_ (any_of HT_.out s2_) ?_
 refine pu_ 10 22 m11_ (any_of HT_.out s2_) ?_
 refine pn_ 11 23 m12_ (any_of HT_.out s2_) ?_
 refine pn_ 12 24 m13_ (any_of HT_.out s2_) ?_
 refine pn_ 13 25 m14_ (any_of HT_.out s2_) ?_
 refine pn_ 14 26 m15_ (any_of HT_.out s2_) ?_
 refine pu_ 15 27 m16_ (any_of HT_.out s2_) ?_
 refine pu_ 16 28 m17_ (any_of HT_.out s2_) ?_
 refine pn_ 17 29 m18_ (any_of HT_.out s2_) ?_
 refine pn_ 18 30 m19_ (any_of HT_.out s2_) ?_
 refine pn_ 19 31 m20_ (any_of HT_.out s2_) ?_
 refine pn_ 20 32 m21_ (any_of HT_.out s2_) ?_
 refine pn_ 21 33 m22_ (any_of HT_.out s2_) ?_
 refine pn_ 22 34 m23_ (any_of HT_.out s2_) ?_
 refine pn_ 23 35 m24_ (any_of HT_.out s2_) ?_
 refine pn_ 24 36 m25_ (any_of HT_.out s2_) ?_
 refine pn_ 25 37 m32_ (any_of HT_.out s2_) ?_
 refine pn_ 26 38 m27_ (any_of HT_.out s2_) ?_
 refine pn_ 27 39 m28_ (any_of HT_.out s2_) ?_
 refine pn_ 28 40 m29_ (any_of HT_.out s2_) ?_
 refine pn_ 29 41 m30_ (any_of HT_.out s2_) ?_
 refine pu_ 30 42 m31_ (any_of HT_.out s2_) ?_
 refine done_ (done_of HT_.out s2_) ?_
 try go_wp2
 go_ret
 exact ⟨by first | rfl | (simp [errW_none, errW_some] <;> rfl) | (simp [*, errW_none, errW_some] <;> rfl), by repeat (first | (with_reducible first | exact HB.out | apply below_alloc | apply pw_below_drewN | apply below_drew1) | exact HB.out)⟩}}
 {
 rw [if_neg c4] at H
 exact absurd H (by simp)}}
 {
 rw [if_neg c3] at H
 exact absurd H (by simp)}}
 {
 rw [if_neg c2] at H
 have c2b0 : decide (x7_1 < (l0.length : Int)) = false := decide_eq_false c2
 clear c2
 obtain rfl := Option.some.inj H
 go_wp2
 go_ret
 exact ⟨by first | rfl | (simp [errW_none, errW_some] <;> rfl) | (simp [*, errW_none, errW_some] <;> rfl), by repeat (first | (with_reducible first | exact HB.out | apply below_alloc | apply pw_below_drewN | apply below_drew1) | exact HB.out)⟩}}}

end Go.Proofs.Ytjfaepolmllejaa.QFnStrikes
