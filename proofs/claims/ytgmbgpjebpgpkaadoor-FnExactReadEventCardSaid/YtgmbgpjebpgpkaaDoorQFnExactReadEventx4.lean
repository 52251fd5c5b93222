-- written by a program of this session, on the lines of the kit's print
import Derived.Test.YtgmbgpjebpgpkaaDoorQFnExactReadEventx0
import Derived.Test.YtgmbgpjebpgpkaaDoorQFnExactReadEventx1
import Derived.Test.YtgmbgpjebpgpkaaDoorQFnExactReadEventx3
namespace Go.Proofs.YtgmbgpjebpgpkaaDoor.QFnExactReadEvent
open Go.RowKit Go.Proofs.YtgmbgpjebpgpkaaDoorW.PrintWords Go.Proofs.YtgmbgpjebpgpkaaDoorW.PrintLast Go.Proofs.YtgmbgpjebpgpkaaDoorW.PrintMore
attribute [local go_sem] max2_int min2_int max_two min_two max_three min_three max_four min_four   -- for this text's walks alone
set_option linter.unusedVariables false
set_option linter.unusedSimpArgs false

/-! ### spec_l07Read: function 16 -/
abbrev spec_l07Read.T : Bool := true
abbrev spec_l07Read.F : Bool := false
theorem spec_l07Read.s1_ {P : Prop} (h : P := by first | rfl | (simp; done) | (simp [*]; done)) : P := h
theorem spec_l07Read.s2_ {P : Prop} (h : P := by kernel_rfl) : P := h
theorem spec_l07Read.s3_ {P : Prop} (h : P := by (try simp only [List.map_toArray, List.map_cons, List.map_nil]); first | done | rfl | (simp only [List.length_drop, List.length_take]; rfl)) : P := h
abbrev spec_l07Read.m0_ : Array Bool := #[F,F,F,F,F,F,F,F,F,F,F,F,F,F,F,F,F,F,F,F,F,F]
abbrev spec_l07Read.m1_ : Array Bool := #[T,F,F,F,F,F,F,F,F,F,F,F,F,F,F,F,F,F,F,F,F,F]
abbrev spec_l07Read.m2_ : Array Bool := #[T,T,F,F,F,F,F,F,F,F,F,F,F,F,F,F,F,F,F,F,F,F]
abbrev spec_l07Read.m3_ : Array Bool := #[T,T,F,T,F,F,F,F,F,F,F,F,F,F,F,F,F,F,F,F,F,F]
abbrev spec_l07Read.m4_ : Array Bool := #[T,T,F,T,T,F,F,F,F,F,F,F,F,F,F,F,F,F,F,F,F,F]
abbrev spec_l07Read.m5_ : Array Bool := #[T,T,F,T,T,F,T,F,F,F,F,F,F,F,F,F,F,F,F,F,F,F]
abbrev spec_l07Read.m6_ : Array Bool := #[T,T,F,T,T,F,T,T,F,F,F,F,F,F,F,F,F,F,F,F,F,F]
abbrev spec_l07Read.m7_ : Array Bool := #[T,T,F,T,T,F,T,T,F,T,F,F,F,F,F,F,F,F,F,F,F,F]
abbrev spec_l07Read.m8_ : Array Bool := #[T,T,F,T,T,F,T,T,F,T,T,F,F,F,F,F,F,F,F,F,F,F]
abbrev spec_l07Read.m9_ : Array Bool := #[T,T,F,T,T,F,T,T,F,T,T,F,T,F,F,F,F,F,F,F,F,F]
abbrev spec_l07Read.m10_ : Array Bool := #[T,T,F,T,T,F,T,T,F,T,T,F,T,T,F,F,F,F,F,F,F,F]
abbrev spec_l07Read.m11_ : Array Bool := #[T,T,F,T,T,F,T,T,F,T,T,F,T,T,F,T,F,F,F,F,F,F]
abbrev spec_l07Read.m12_ : Array Bool := #[T,T,F,T,T,F,T,T,F,T,T,F,T,T,F,T,T,F,F,F,F,F]
abbrev spec_l07Read.m13_ : Array Bool := #[T,T,F,T,T,F,T,T,F,T,T,F,T,T,F,T,T,T,F,F,F,F]
abbrev spec_l07Read.m14_ : Array Bool := #[T,T,F,T,T,F,T,T,F,T,T,F,T,T,F,T,T,T,T,F,F,F]
abbrev spec_l07Read.m15_ : Array Bool := #[T,T,T,T,T,F,T,T,F,T,T,F,T,T,F,T,T,T,T,F,F,F]
abbrev spec_l07Read.m16_ : Array Bool := #[T,T,T,T,T,T,T,T,F,T,T,F,T,T,F,T,T,T,T,F,F,F]
abbrev spec_l07Read.m17_ : Array Bool := #[T,T,T,T,T,T,T,T,T,T,T,F,T,T,F,T,T,T,T,F,F,F]
abbrev spec_l07Read.m18_ : Array Bool := #[T,T,T,T,T,T,T,T,T,T,T,T,T,T,F,T,T,T,T,F,F,F]
abbrev spec_l07Read.m19_ : Array Bool := #[T,T,T,T,T,T,T,T,T,T,T,T,T,T,T,T,T,T,T,F,F,F]
abbrev spec_l07Read.m20_ : Array Bool := #[T,T,T,T,T,T,T,T,T,T,T,T,T,T,T,T,T,T,T,T,F,F]
abbrev spec_l07Read.m21_ : Array Bool := #[T,T,T,T,T,T,T,T,T,T,T,T,T,T,T,T,T,T,T,T,T,F]
abbrev spec_l07Read.m22_ : Array Bool := #[T,T,T,T,T,T,T,T,T,T,T,T,T,T,T,T,T,T,T,T,T,T]
theorem spec_l07Read.p1_ {P : Prop} (h : P := by simp only [Act.put, List.setIfInBounds_toArray, List.set_cons_zero, List.set_cons_succ, i64_w, i32_w]; rfl) : P := h
theorem spec_l07Read.b1_ {P Q : Prop} (q : Q) (h : Q → P := by intro q_; (with_reducible repeat (first | refine blk_drewN ?_ _ | refine blk_drew ?_ | refine blk_alloc ?_ _)); exact q_) : P := h q
theorem spec_l07Read.b2_ {P Q : Prop} (q : Q) (h : Q → P := by intro q_; (with_reducible repeat (first | apply Kd.R_alloc | apply Kd.R_drewN | apply Kd.R_drew)); exact q_) : P := h q
theorem spec_l07Read.y1_ {P Q : Prop} (q : Q) (h : Q → P := by intro q_; repeat (first | (with_reducible first | exact q_ | apply below_alloc | apply pw_below_drewN | apply below_drew1) | exact q_)) : P := h q
theorem spec_l07Read.b3_ {w w1 W : World} {g : Nat} {o : Obj} (q : Aside0 (w.heap[g]? = some o)) (hb : Below W.heap.size W w1) (h : w.heap[g]? = some o → W.heap[g]? = some o := by intro q_; (with_reducible repeat (first | refine blk_drewN ?_ _ | refine blk_drew ?_ | refine blk_alloc ?_ _)); exact q_) : Aside0 (w1.heap[g]? = some o) := ⟨blk_below (h q.out) hb⟩
theorem spec_l07Read.b4_ {w W : World} {g k : Nat} {o : Obj} (hg : k = W.heap.size) (q : Aside0 (w.heap[g]? = some o)) (h : w.heap[g]? = some o → W.heap[g]? = some o := by intro q_; (with_reducible repeat (first | refine blk_drewN ?_ _ | refine blk_drew ?_ | refine blk_alloc ?_ _)); exact q_) : Aside0 (g ≠ k) := ⟨by rw [hg]; exact Nat.ne_of_lt (blk_lt (h q.out))⟩
theorem spec_l07Read.b5_ {w W : World} {g k : Nat} {o : Obj} (hg : k = W.heap.size) (q : Aside0 (w.heap[g]? = some o)) (h : w.heap[g]? = some o → W.heap[g]? = some o := by intro q_; (with_reducible repeat (first | refine blk_drewN ?_ _ | refine blk_drew ?_ | refine blk_alloc ?_ _)); exact q_) : Aside0 (k ≠ g) := ⟨by rw [hg]; exact Nat.ne_of_gt (blk_lt (h q.out))⟩
theorem spec_l07Read.b6_ {w w' W : World} {k : Nat} (hg : k = W.heap.size) (q : Aside0 (Below w.heap.size w w')) (h : Below w.heap.size w w' → Below w.heap.size w W := by intro q_; repeat (first | (with_reducible first | exact q_ | apply below_alloc | apply pw_below_drewN | apply below_drew1) | exact q_)) : Aside0 (w.heap.size ≤ k) := ⟨by rw [hg]; exact below_size (h q.out)⟩
theorem spec_l07Read.c1_ {w : World} {g : Nat} {t : TypeId} {cs : Array Value} (q : Aside0 (w.heap[g]? = some (.cells cs t (0, 0)))) (i : Nat) (v : Value) (h : cs[i]? = some v := by rfl) : w.cell? ⟨g, i, none⟩ = some v := (blk_cell q.out i).trans h
theorem spec_l07Read.f1_ {w : World} {g : Nat} {t : TypeId} {cs : Array Value} (q : Aside0 (w.heap[g]? = some (.cells cs t (0, 0)))) (i : Nat) : w.frozen? ⟨g, i, none⟩ = false := blk_frozen q.out i
theorem spec_l07Read.pu_ {P : Program} {md : Region.Mode} {ops : Array Oper} {Q : Exit → Act → World → Prop} {S : World → Prop} {ds : List Nat} {fuel : Nat} {l : Array Bool} {a : Act} {w : World} {oi : Oper} {a' : Act} {v : Value} (i N : Nat) (l' : Array Bool) (hc : anyB md ops l l' i = true) (h : wpAnyLast P md ops Q S ds fuel l' a' w) (hi : ops[i]? = some oi := by rfl) (hN : oi.dst = some N := by rfl) (hQ : ∀ c a w, Q (.panic c) (a.put oi.dst v) w → Q (.panic c) a w := by exact fun _ _ _ h => h) (hy : Yields P ops oi v a := by exact Or.inl ⟨by rfl, by intro w'; go_simp; with_reducible rfl⟩) (ha : a.put (some N) v = a' := by simp only [Act.put, List.setIfInBounds_toArray, List.set_cons_zero, List.set_cons_succ, i64_w, i32_w]; rfl) : wpAnyLast P md ops Q S ds (fuel + 1) l a w := pure_ l' hi hN hc hQ hy ha h
mutual
def spec_l07Read.j1 : Nat → ByteArray → Int → Option (Int × Int × Int × Int × ByteArray × Int × Bool)
  | 0, _, _ => none
  | k + 1, x0, x4 => if x4 = (x0.size : Int) then (some (0, 0, 0, 0, (⟨#[]⟩ : ByteArray), 0, false)) else (if 0 ≤ x4 then (if x4 ≤ (x0.size : Int) then ((spec_l01Numbers.f k (x0.extract 0 (x4 : Int).toNat)).bind fun bt154 => (if bt154.2 = true then (spec_l07Read.j2 k x0 x4 bt154.1 ((bt154.1.length : Int) != 5)) else (spec_l07Read.j2 k x0 x4 bt154.1 true))) else (none)) else (none))
def spec_l07Read.j2 : Nat → ByteArray → Int → List Int → Bool → Option (Int × Int × Int × Int × ByteArray × Int × Bool)
  | 0, _, _, _, _ => none
  | k + 1, x0, x4, x5, x38 => if x38 = true then (some (0, 0, 0, 0, (⟨#[]⟩ : ByteArray), 0, false)) else (if 0 < (x5.length : Int) then (if 1 < (x5.length : Int) then (if 2 < (x5.length : Int) then (if 3 < (x5.length : Int) then (if 4 < (x5.length : Int) then (if 0 ≤ (wrap64 (x4 + 1)) then (if (wrap64 (x4 + 1)) ≤ (x0.size : Int) then ((spec_l07Event.f k (rd x5 0) (rd x5 1) (rd x5 2) (rd x5 3) (x0.extract ((wrap64 (x4 + 1)) : Int).toNat x0.size) (rd x5 4)).bind fun t164 => (if t164 = true then (some (rd x5 0, rd x5 1, rd x5 2, rd x5 3, x0.extract ((wrap64 (x4 + 1)) : Int).toNat x0.size, rd x5 4, true)) else (some (0, 0, 0, 0, (⟨#[]⟩ : ByteArray), 0, false)))) else (none)) else (none)) else (none)) else (none)) else (none)) else (none)) else (none))
def spec_l07Read.l0 : Nat → ByteArray → Int → Option (Int × Int × Int × Int × ByteArray × Int × Bool)
  | 0, _, _ => none
  | k + 1, x0, x4 => if x4 < (x0.size : Int) then (if 0 ≤ x4 then (if (bt x0 x4) = 32 then (spec_l07Read.j1 k x0 x4) else (spec_l07Read.l0 k x0 (wrap64 (x4 + 1)))) else (none)) else (spec_l07Read.j1 k x0 x4)
end
def spec_l07Read.f (k : Nat) (a0 : ByteArray) : Option (Int × Int × Int × Int × ByteArray × Int × Bool) := spec_l07Read.l0 k a0 0
theorem spec_l07Read.mono_l : ∀ k, (∀ y0 y1, LeO (spec_l07Read.j1 k y0 y1) (spec_l07Read.j1 (k + 1) y0 y1)) ∧ (∀ y0 y1 y2 y3, LeO (spec_l07Read.j2 k y0 y1 y2 y3) (spec_l07Read.j2 (k + 1) y0 y1 y2 y3)) ∧ (∀ y0 y1, LeO (spec_l07Read.l0 k y0 y1) (spec_l07Read.l0 (k + 1) y0 y1))
  | 0 => ⟨fun _ _ r h => by simp [spec_l07Read.j1] at h, fun _ _ _ _ r h => by simp [spec_l07Read.j2] at h, fun _ _ r h => by simp [spec_l07Read.l0] at h⟩
  | k + 1 => by
    obtain ⟨ih0, ih1, ih2⟩ := spec_l07Read.mono_l k
    refine ⟨?_, ?_, ?_⟩
    · intro y0 y1
      unfold spec_l07Read.j1
      repeat' first
      | (with_reducible exact ih0 _ _)
      | (with_reducible exact ih1 _ _ _ _)
      | (with_reducible exact ih2 _ _)
      | (with_reducible exact spec_l01Numbers.mono _ _)
      | (with_reducible exact spec_l07Event.mono _ _ _ _ _ _ _)
      | (with_reducible exact LeO.refl _)
      | (with_reducible exact LeO.none _)
      | (with_reducible refine LeO.ite ?_ ?_)
      | (with_reducible refine LeO.bind ?_ (fun _ => ?_))
      | exact ih0 _ _
      | exact ih1 _ _ _ _
      | exact ih2 _ _
      | exact spec_l01Numbers.mono _ _
      | exact spec_l07Event.mono _ _ _ _ _ _ _
      | exact LeO.none _
      | refine LeO.ite ?_ ?_
      | refine LeO.bind ?_ (fun _ => ?_)
    · intro y0 y1 y2 y3
      unfold spec_l07Read.j2
      repeat' first
      | (with_reducible exact ih0 _ _)
      | (with_reducible exact ih1 _ _ _ _)
      | (with_reducible exact ih2 _ _)
      | (with_reducible exact spec_l01Numbers.mono _ _)
      | (with_reducible exact spec_l07Event.mono _ _ _ _ _ _ _)
      | (with_reducible exact LeO.refl _)
      | (with_reducible exact LeO.none _)
      | (with_reducible refine LeO.ite ?_ ?_)
      | (with_reducible refine LeO.bind ?_ (fun _ => ?_))
      | exact ih0 _ _
      | exact ih1 _ _ _ _
      | exact ih2 _ _
      | exact spec_l01Numbers.mono _ _
      | exact spec_l07Event.mono _ _ _ _ _ _ _
      | exact LeO.none _
      | refine LeO.ite ?_ ?_
      | refine LeO.bind ?_ (fun _ => ?_)
    · intro y0 y1
      unfold spec_l07Read.l0
      repeat' first
      | (with_reducible exact ih0 _ _)
      | (with_reducible exact ih1 _ _ _ _)
      | (with_reducible exact ih2 _ _)
      | (with_reducible exact spec_l01Numbers.mono _ _)
      | (with_reducible exact spec_l07Event.mono _ _ _ _ _ _ _)
      | (with_reducible exact LeO.refl _)
      | (with_reducible exact LeO.none _)
      | (with_reducible refine LeO.ite ?_ ?_)
      | (with_reducible refine LeO.bind ?_ (fun _ => ?_))
      | exact ih0 _ _
      | exact ih1 _ _ _ _
      | exact ih2 _ _
      | exact spec_l01Numbers.mono _ _
      | exact spec_l07Event.mono _ _ _ _ _ _ _
      | exact LeO.none _
      | refine LeO.ite ?_ ?_
      | refine LeO.bind ?_ (fun _ => ?_)
theorem spec_l07Read.mono : ∀ a0 k, LeO (spec_l07Read.f k a0) (spec_l07Read.f (k + 1) a0) := by
  intro a0 k
  obtain ⟨ih0, ih1, ih2⟩ := spec_l07Read.mono_l k
  unfold spec_l07Read.f
  repeat' first
      | (with_reducible exact ih0 _ _)
      | (with_reducible exact ih1 _ _ _ _)
      | (with_reducible exact ih2 _ _)
      | (with_reducible exact spec_l01Numbers.mono _ _)
      | (with_reducible exact spec_l07Event.mono _ _ _ _ _ _ _)
      | (with_reducible exact LeO.refl _)
      | (with_reducible exact LeO.none _)
      | (with_reducible refine LeO.ite ?_ ?_)
      | (with_reducible refine LeO.bind ?_ (fun _ => ?_))
      | exact ih0 _ _
      | exact ih1 _ _ _ _
      | exact ih2 _ _
      | exact spec_l01Numbers.mono _ _
      | exact spec_l07Event.mono _ _ _ _ _ _ _
      | exact LeO.none _
      | refine LeO.ite ?_ ?_
      | refine LeO.bind ?_ (fun _ => ?_)
def spec_l07Read.T9 : Bool × List (List Nat × List Nat) := (true, [([], []), ([0], [0]), ([1], [1]), ([], []), ([3], [3]), ([4], [4]), ([], []), ([6], [6]), ([7], [7]), ([], []), ([9], [9]), ([10], [10]), ([], []), ([12], [12]), ([13], [13]), ([], []), ([], []), ([16], [16]), ([15, 17], [15, 17]), ([2, 5, 8, 11, 14, 18], [2, 5, 8, 11, 14, 18]), ([], []), ([20, 19, 0, 1, 2, 3, 4, 5, 6, 7, 8, 9, 10, 11, 12, 13, 14, 15, 16, 17, 18, 19, 20], [19, 20])])
def spec_l07Read.B9 : List Nat := [0, 1, 3, 0, 8, 24, 0, 64, 192, 0, 512, 1536, 0, 4096, 12288, 0, 0, 65536, 229376, 524287, 0, 2097151]
theorem spec_l07Read.tab9 : rtab .any (opsOf Tryd.f16 9) = spec_l07Read.T9 := by kernel_rfl
theorem spec_l07Read.bits9 : waitsOk spec_l07Read.T9.2 spec_l07Read.B9 = true := by kernel_rfl
set_option maxHeartbeats 8000000 in
set_option maxRecDepth 100000 in
theorem spec_l07Read.calls (k : Nat) (a0 : ByteArray) (r1 : Int) (r2 : Int) (r3 : Int) (r4 : Int) (r5 : ByteArray) (r6 : Int) (r7 : Bool) (w : World) (h : spec_l07Read.f k a0 = some (r1, r2, r3, r4, r5, r6, r7)) :
    Calls Tryd.prog 16 #[.string a0] w fun e w' => e = .returned (.tuple #[.agg #[.int .i64 r1, .int .i64 r2, .int .i64 r3, .int .i64 r4, .string r5, .int .i64 r6], .bool r7]) ∧ Below w.heap.size w w' := by
 have hu27 := Tryd.underlying27
 have HB := Aside0.mk (Below.refl w.heap.size w)
 have H : (spec_l07Read.l0 k a0 0) = some (r1, r2, r3, r4, r5, r6, r7) := h
 clear h
 have HC2 := Aside0.mk H
 clear H
 go_enter Tryd.func16, Tryd.ntmps16
 go_upto_block 0 with (first | ((with_reducible refine gate_dst (N := 2) rfl ?_); (try (refine gate_guard (by rfl) ?_; dsimp only)); refine box_event ?hg (N := 2) ?hd (cs := #[.int .i64 0, .int .i64 0, .int .i64 0, .int .i64 0, .string (⟨#[]⟩ : ByteArray), .int .i64 0]) (t := 27) ?hr ?_; (case hd => rfl); (case hg => rfl); (case hr => first | (go_simp; done) | (go_simp; rfl)); intro gb153 hg w3 hbox hb; have GW153 := b6_ hg HB; have GE153 := b6_ hg HB; replace HB := Aside0.mk (below_step (y1_ HB.out) hb); have BK153 := Aside0.mk (hbox); clear hb hbox hg))
 (try simp only [Act.put, List.setIfInBounds_toArray, List.set_cons_zero, List.set_cons_succ])
 go_cut [4] (fun v4 wc => ∃ (kq : Nat) (x4_1 : Int), v4 = .int .i64 x4_1 ∧ Aside0 (spec_l07Read.j1 kq a0 x4_1 = some (r1, r2, r3, r4, r5, r6, r7)) ∧ Aside0 (kq ≤ k) ∧ Aside0 (wc.heap[gb153]? = some (.cells #[.int .i64 0, .int .i64 0, .int .i64 0, .int .i64 0, .string (⟨#[]⟩ : ByteArray), .int .i64 0] 27 (0, 0))) ∧ Aside0 (Below w.heap.size w wc))
 case first =>
  skip
  {
 have H := HC2.out
 clear HC2
 have H' := Aside0.mk H
 clear H
 go_wp2
 go_loopg [4] k (fun kq v4 w' => ∃ (x4_1 : Int), v4 = .int .i64 x4_1 ∧ Aside0 (spec_l07Read.l0 kq a0 x4_1 = some (r1, r2, r3, r4, r5, r6, r7)) ∧ Aside0 (kq ≤ k) ∧ Aside0 (w'.heap[gb153]? = some (.cells #[.int .i64 0, .int .i64 0, .int .i64 0, .int .i64 0, .string (⟨#[]⟩ : ByteArray), .int .i64 0] 27 (0, 0))) ∧ Aside0 (Below w.heap.size w w'))
 case atStart => exact ⟨(0), s1_, H', ⟨Nat.le_refl _⟩, ⟨b1_ BK153.out⟩, ⟨by repeat (first | (with_reducible first | exact HB.out | apply below_alloc | apply pw_below_drewN | apply below_drew1) | exact HB.out)⟩⟩
 case round =>
  skip
  {
 clear H'
 try clear c1
 try clear p2
 obtain ⟨x4_1, rfl, HA, HK1, BK153, HB⟩ := hrel
 cases gk with
 | zero => exact absurd HA.out (by simp [spec_l07Read.l0])
 | succ k1 =>
  skip
  {
 have H := HA.out
 clear HA
 simp only [spec_l07Read.l0] at H
 by_cases c4 : x4_1 < (a0.size : Int)
 {
 rw [if_pos c4] at H
 have c4b0 : decide (x4_1 < (a0.size : Int)) = true := decide_eq_true c4
 clear c4
 (first | rw [c4b0] | (simp only [i64_w, i32_w]; rw [c4b0]) | skip)
 by_cases c5 : 0 ≤ x4_1
 {
 rw [if_pos c5] at H
 have c5b0 : decide (0 ≤ x4_1) = true := decide_eq_true c5
 clear c5
 by_cases c7 : (bt a0 x4_1) = 32
 {
 rw [if_pos c7] at H
 have c7b0 : ((bt a0 x4_1) == 32) = true := beq_iff_eq.mpr c7
 have c7b1 : ((bt a0 x4_1) != 32) = false := bne_eq_false_iff_eq.mpr c7
 clear c7
 have H' := Aside0.mk H
 clear H
 have p6 : 0 ≤ (x4_1 : Int) := of_decide_eq_true (by first | (with_reducible assumption) | assumption)
 have q6 : x4_1 < (a0.size : Int) := of_decide_eq_true (by first | (with_reducible assumption) | assumption)
 have hx6 := bt_at a0 x4_1
 replace p6 := eq_true p6
 replace q6 := eq_true q6
 go_wp2
 go_meet
 case rel => exact ⟨_, (x4_1), s1_, H', ⟨by have := HK1.out; first | omega | exact Nat.le_refl _⟩, ⟨b1_ BK153.out⟩, ⟨by repeat (first | (with_reducible first | exact HB.out | apply below_alloc | apply pw_below_drewN | apply below_drew1) | exact HB.out)⟩⟩}
 {
 rw [if_neg c7] at H
 have c7b0 : ((bt a0 x4_1) == 32) = false := beq_eq_false_iff_ne.mpr c7
 have c7b1 : ((bt a0 x4_1) != 32) = true := bne_iff_ne.mpr c7
 have H' := Aside0.mk H
 clear H
 have p6 : 0 ≤ (x4_1 : Int) := of_decide_eq_true (by first | (with_reducible assumption) | assumption)
 have q6 : x4_1 < (a0.size : Int) := of_decide_eq_true (by first | (with_reducible assumption) | assumption)
 have hx6 := bt_at a0 x4_1
 replace p6 := eq_true p6
 replace q6 := eq_true q6
 go_wp2
 go_roundg k1
 case measure => have := HK1.out; omega
 case rel => exact ⟨(wrap64 (x4_1 + 1)), s1_, H', ⟨by have := HK1.out; omega⟩, ⟨b1_ BK153.out⟩, ⟨by repeat (first | (with_reducible first | exact HB.out | apply below_alloc | apply pw_below_drewN | apply below_drew1) | exact HB.out)⟩⟩}}
 {
 rw [if_neg c5] at H
 exact absurd H (by simp)}}
 {
 rw [if_neg c4] at H
 have c4b0 : decide (x4_1 < (a0.size : Int)) = false := decide_eq_false c4
 clear c4
 (first | rw [c4b0] | (simp only [i64_w, i32_w]; rw [c4b0]) | skip)
 have H' := Aside0.mk H
 clear H
 go_wp2
 go_meet
 case rel => exact ⟨_, (x4_1), s1_, H', ⟨by have := HK1.out; first | omega | exact Nat.le_refl _⟩, ⟨b1_ BK153.out⟩, ⟨by repeat (first | (with_reducible first | exact HB.out | apply below_alloc | apply pw_below_drewN | apply below_drew1) | exact HB.out)⟩⟩}}}}
 case rest =>
  skip
  {
 clear HC2
 try clear c1
 try clear p2
 try clear c4
 try clear c4b0
 try clear c5
 try clear c5b0
 try clear p6
 try clear q6
 try clear hx6
 try clear c7
 try clear c7b0
 try clear c7b1
 try clear p2
 try clear p6
 try clear q6
 obtain ⟨kq, x4_1, rfl, HA, HJ1, BK153, HB⟩ := hcut
 cases kq with
 | zero => exact absurd HA.out (by simp [spec_l07Read.j1])
 | succ kj1 =>
  skip
  {
 have H := HA.out
 clear HA
 simp only [spec_l07Read.j1] at H
 by_cases c8 : x4_1 = (a0.size : Int)
 {
 rw [if_pos c8] at H
 have c8b0 : (x4_1 == (a0.size : Int)) = true := beq_iff_eq.mpr c8
 have c8b1 : (x4_1 != (a0.size : Int)) = false := bne_eq_false_iff_eq.mpr c8
 clear c8
 simp only [Option.some.injEq, Prod.mk.injEq] at H
 obtain ⟨rfl, rfl, rfl, rfl, rfl, rfl, rfl⟩ := H
 have hcz9_0 := c1_ BK153 0 (.int .i64 0)
 have hcz9_1 := c1_ BK153 1 (.int .i64 0)
 have hcz9_2 := c1_ BK153 2 (.int .i64 0)
 have hcz9_3 := c1_ BK153 3 (.int .i64 0)
 have hcz9_4 := c1_ BK153 4 (.string (⟨#[]⟩ : ByteArray))
 have hcz9_5 := c1_ BK153 5 (.int .i64 0)
 have hfz9_0 := f1_ BK153 0
 have hfz9_1 := f1_ BK153 1
 have hfz9_2 := f1_ BK153 2
 have hfz9_3 := f1_ BK153 3
 have hfz9_4 := f1_ BK153 4
 have hfz9_5 := f1_ BK153 5
 go_wp2
 refine bodyPost_ret (results_ct rfl _ _ gb153 27 #[.int .i64 0, .int .i64 0, .int .i64 0, .int .i64 0, .string (⟨#[]⟩ : ByteArray), .int .i64 0] (0, 0) _ rfl (by (with_reducible repeat (first | refine blk_drewN ?_ _ | refine blk_drew ?_ | refine blk_alloc ?_ _)); refine blk_put3 (cs := #[.int .i64 0, .int .i64 0, .int .i64 0, .int .i64 0, .string (⟨#[]⟩ : ByteArray), .int .i64 0]) ?_ rfl; (with_reducible repeat (first | refine blk_drewN ?_ _ | refine blk_drew ?_ | refine blk_alloc ?_ _)); refine blk_put3 (cs := #[.int .i64 0, .int .i64 0, .int .i64 0, .int .i64 0, .string (⟨#[]⟩ : ByteArray), .int .i64 0]) ?_ rfl; (with_reducible repeat (first | refine blk_drewN ?_ _ | refine blk_drew ?_ | refine blk_alloc ?_ _)); exact BK153.out) Tryd.underlying27 rfl s2_) rfl ?_
 exact ⟨by first | rfl | (simp [errW_none, errW_some] <;> rfl) | (simp [*, errW_none, errW_some] <;> rfl), by repeat (first | (with_reducible first | exact HB.out | apply below_alloc | apply pw_below_drewN | apply below_drew1 | refine below_set ?_ GE153.out) | exact HB.out)⟩}
 {
 rw [if_neg c8] at H
 have c8b0 : (x4_1 == (a0.size : Int)) = false := beq_eq_false_iff_ne.mpr c8
 have c8b1 : (x4_1 != (a0.size : Int)) = true := bne_iff_ne.mpr c8
 by_cases c10 : 0 ≤ x4_1
 {
 rw [if_pos c10] at H
 have c10b0 := eq_true c10
 have c10b1 : decide (0 ≤ x4_1) = true := decide_eq_true c10
 clear c10
 by_cases c11 : x4_1 ≤ (a0.size : Int)
 {
 rw [if_pos c11] at H
 have c11b0 := eq_true c11
 have c11b1 : decide (x4_1 ≤ (a0.size : Int)) = true := decide_eq_true c11
 clear c11
 replace H := Option.bind_eq_some_iff.mp H
 obtain ⟨⟨t154, t155⟩, A120, H⟩ := H
 replace H : (if t155 = true then (spec_l07Read.j2 kj1 a0 x4_1 t154 ((t154.length : Int) != 5)) else (spec_l07Read.j2 kj1 a0 x4_1 t154 true)) = some (r1, r2, r3, r4, r5, r6, r7) := H
 have A12 := Aside0.mk A120
 clear A120
 have HC13 := Aside0.mk H
 clear H
 go_upto_region 7 with (first | ((with_reducible refine gate_callee (f := 29) rfl ?_); refine goesL_ (some 29) rfl rfl Tryd.func29 s2_ rfl #[.string (a0.extract 0 (x4_1 : Int).toNat)] rfl s3_ ?_; (with_reducible refine (spec_l01Numbers.calls kj1 (a0.extract 0 (x4_1 : Int).toNat) t154 t155 _ A12.out).mono ?_); rintro e w14 ⟨v156, rfl, ho0, hb⟩; refine ⟨_, rfl, ?_⟩; have HO157 := Aside0.mk (Kd.R_lower ho0 (below_size (y1_ HB.out))); replace BK153 := b3_ BK153 hb; replace HB := Aside0.mk (below_step (y1_ HB.out) hb); (try clear hb); (try clear hb2); (try clear hk); (try clear hi); (try clear ho0)))
 (try simp only [Act.put, List.setIfInBounds_toArray, List.set_cons_zero, List.set_cons_succ])
 go_cut [38] (fun v38 wc => ∃ (kq : Nat) (x38_12 : Bool), v38 = .bool x38_12 ∧ Aside0 (spec_l07Read.j2 kq a0 x4_1 t154 x38_12 = some (r1, r2, r3, r4, r5, r6, r7)) ∧ Aside0 (kq ≤ kj1) ∧ Aside0 (Kd.R (Kd.int .i64) 2 wc w.heap.size (fun _ => True) v156 t154) ∧ Aside0 (wc.heap[gb153]? = some (.cells #[.int .i64 0, .int .i64 0, .int .i64 0, .int .i64 0, .string (⟨#[]⟩ : ByteArray), .int .i64 0] 27 (0, 0))) ∧ Aside0 (Below w.heap.size w wc))
 case first =>
  skip
  {
 have H := HC13.out
 clear HC13
 by_cases c15 : t155 = true
 {
 subst c15
 have H1 : (spec_l07Read.j2 kj1 a0 x4_1 t154 ((t154.length : Int) != 5)) = some (r1, r2, r3, r4, r5, r6, r7) := by rw [if_pos rfl] at H; exact H
 clear H
 have H := H1
 clear H1
 have H' := Aside0.mk H
 clear H
 obtain ⟨Ao16, co16, eo16⟩ := Kd.R_slice HO157.out
 subst eo16
 go_wp2
 go_meet
 case rel => exact ⟨_, (((t154.length : Int) != 5)), s1_, H', ⟨by have := HJ1.out; first | omega | exact Nat.le_refl _⟩, ⟨b2_ HO157.out⟩, ⟨b1_ BK153.out⟩, ⟨by repeat (first | (with_reducible first | exact HB.out | apply below_alloc | apply pw_below_drewN | apply below_drew1) | exact HB.out)⟩⟩}
 {
 replace c15 := Bool.eq_false_iff.mpr c15
 subst c15
 have H1 : (spec_l07Read.j2 kj1 a0 x4_1 t154 true) = some (r1, r2, r3, r4, r5, r6, r7) := by rw [if_neg (show ¬ (false = true) by decide)] at H; exact H
 clear H
 have H := H1
 clear H1
 have H' := Aside0.mk H
 clear H
 go_wp2
 go_meet
 case rel => exact ⟨_, (true), s1_, H', ⟨by have := HJ1.out; first | omega | exact Nat.le_refl _⟩, ⟨b2_ HO157.out⟩, ⟨b1_ BK153.out⟩, ⟨by repeat (first | (with_reducible first | exact HB.out | apply below_alloc | apply pw_below_drewN | apply below_drew1) | exact HB.out)⟩⟩}}
 case rest =>
  skip
  {
 clear HC13
 try clear c1
 try clear c2
 try clear p2
 try clear c4
 try clear c4b0
 try clear c5
 try clear c5b0
 try clear p6
 try clear q6
 try clear hx6
 try clear c7
 try clear c7b0
 try clear c7b1
 try clear c8
 try clear c8b0
 try clear c8b1
 try clear c10
 try clear c10b0
 try clear c10b1
 try clear c11
 try clear c11b0
 try clear c11b1
 try clear c15
 try clear c16
 try clear hcz9_0
 try clear hcz9_1
 try clear hcz9_2
 try clear hcz9_3
 try clear hcz9_4
 try clear hcz9_5
 try clear hfz9_0
 try clear hfz9_1
 try clear hfz9_2
 try clear hfz9_3
 try clear hfz9_4
 try clear hfz9_5
 try clear p2
 try clear p6
 try clear q6
 obtain ⟨kq, x38_12, rfl, HA, HJ12, HO_5, BK153, HB⟩ := hcut
 cases kq with
 | zero => exact absurd HA.out (by simp [spec_l07Read.j2])
 | succ kj12 =>
  skip
  {
 have H := HA.out
 clear HA
 simp only [spec_l07Read.j2] at H
 by_cases c17 : x38_12 = true
 {
 subst c17
 have H1 : (some (0, 0, 0, 0, (⟨#[]⟩ : ByteArray), 0, false)) = some (r1, r2, r3, r4, r5, r6, r7) := by rw [if_pos rfl] at H; exact H
 clear H
 have H := H1
 clear H1
 simp only [Option.some.injEq, Prod.mk.injEq] at H
 obtain ⟨rfl, rfl, rfl, rfl, rfl, rfl, rfl⟩ := H
 have hcz18_0 := c1_ BK153 0 (.int .i64 0)
 have hcz18_1 := c1_ BK153 1 (.int .i64 0)
 have hcz18_2 := c1_ BK153 2 (.int .i64 0)
 have hcz18_3 := c1_ BK153 3 (.int .i64 0)
 have hcz18_4 := c1_ BK153 4 (.string (⟨#[]⟩ : ByteArray))
 have hcz18_5 := c1_ BK153 5 (.int .i64 0)
 have hfz18_0 := f1_ BK153 0
 have hfz18_1 := f1_ BK153 1
 have hfz18_2 := f1_ BK153 2
 have hfz18_3 := f1_ BK153 3
 have hfz18_4 := f1_ BK153 4
 have hfz18_5 := f1_ BK153 5
 go_wp2
 refine bodyPost_ret (results_ct rfl _ _ gb153 27 #[.int .i64 0, .int .i64 0, .int .i64 0, .int .i64 0, .string (⟨#[]⟩ : ByteArray), .int .i64 0] (0, 0) _ rfl (by (with_reducible repeat (first | refine blk_drewN ?_ _ | refine blk_drew ?_ | refine blk_alloc ?_ _)); refine blk_put3 (cs := #[.int .i64 0, .int .i64 0, .int .i64 0, .int .i64 0, .string (⟨#[]⟩ : ByteArray), .int .i64 0]) ?_ rfl; (with_reducible repeat (first | refine blk_drewN ?_ _ | refine blk_drew ?_ | refine blk_alloc ?_ _)); refine blk_put3 (cs := #[.int .i64 0, .int .i64 0, .int .i64 0, .int .i64 0, .string (⟨#[]⟩ : ByteArray), .int .i64 0]) ?_ rfl; (with_reducible repeat (first | refine blk_drewN ?_ _ | refine blk_drew ?_ | refine blk_alloc ?_ _)); exact BK153.out) Tryd.underlying27 rfl s2_) rfl ?_
 exact ⟨by first | rfl | (simp [errW_none, errW_some] <;> rfl) | (simp [*, errW_none, errW_some] <;> rfl), by repeat (first | (with_reducible first | exact HB.out | apply below_alloc | apply pw_below_drewN | apply below_drew1 | refine below_set ?_ GE153.out) | exact HB.out)⟩}
 {
 replace c17 := Bool.eq_false_iff.mpr c17
 subst c17
 have H1 : (if 0 < (t154.length : Int) then (if 1 < (t154.length : Int) then (if 2 < (t154.length : Int) then (if 3 < (t154.length : Int) then (if 4 < (t154.length : Int) then (if 0 ≤ (wrap64 (x4_1 + 1)) then (if (wrap64 (x4_1 + 1)) ≤ (a0.size : Int) then ((spec_l07Event.f kj12 (rd t154 0) (rd t154 1) (rd t154 2) (rd t154 3) (a0.extract ((wrap64 (x4_1 + 1)) : Int).toNat a0.size) (rd t154 4)).bind fun t164 => (if t164 = true then (some (rd t154 0, rd t154 1, rd t154 2, rd t154 3, a0.extract ((wrap64 (x4_1 + 1)) : Int).toNat a0.size, rd t154 4, true)) else (some (0, 0, 0, 0, (⟨#[]⟩ : ByteArray), 0, false)))) else (none)) else (none)) else (none)) else (none)) else (none)) else (none)) else (none)) = some (r1, r2, r3, r4, r5, r6, r7) := by rw [if_neg (show ¬ (false = true) by decide)] at H; exact H
 clear H
 have H := H1
 clear H1
 by_cases c19 : 0 < (t154.length : Int)
 {
 rw [if_pos c19] at H
 have c19b0 : decide (0 < (t154.length : Int)) = true := decide_eq_true c19
 have c19b1 : decide (0 < t154.length) = true := decide_eq_true (by omega)
 clear c19
 by_cases c20 : 1 < (t154.length : Int)
 {
 rw [if_pos c20] at H
 have c20b0 : decide (1 < (t154.length : Int)) = true := decide_eq_true c20
 have c20b1 : decide (1 < t154.length) = true := decide_eq_true (by omega)
 clear c20
 by_cases c21 : 2 < (t154.length : Int)
 {
 rw [if_pos c21] at H
 have c21b0 : decide (2 < (t154.length : Int)) = true := decide_eq_true c21
 have c21b1 : decide (2 < t154.length) = true := decide_eq_true (by omega)
 clear c21
 by_cases c22 : 3 < (t154.length : Int)
 {
 rw [if_pos c22] at H
 have c22b0 : decide (3 < (t154.length : Int)) = true := decide_eq_true c22
 have c22b1 : decide (3 < t154.length) = true := decide_eq_true (by omega)
 clear c22
 by_cases c23 : 4 < (t154.length : Int)
 {
 rw [if_pos c23] at H
 have c23b0 : decide (4 < (t154.length : Int)) = true := decide_eq_true c23
 have c23b1 : decide (4 < t154.length) = true := decide_eq_true (by omega)
 clear c23
 obtain ⟨ji24, hji24⟩ : ∃ j_ : Int, (wrap64 (x4_1 + 1)) = j_ := ⟨_, rfl⟩
 replace H : (if 0 ≤ (ji24) then (if (ji24) ≤ (a0.size : Int) then ((spec_l07Event.f kj12 (rd t154 0) (rd t154 1) (rd t154 2) (rd t154 3) (a0.extract ((ji24) : Int).toNat a0.size) (rd t154 4)).bind fun t164 => (if t164 = true then (some (rd t154 0, rd t154 1, rd t154 2, rd t154 3, a0.extract ((ji24) : Int).toNat a0.size, rd t154 4, true)) else (some (0, 0, 0, 0, (⟨#[]⟩ : ByteArray), 0, false)))) else (none)) else (none)) = some (r1, r2, r3, r4, r5, r6, r7) := by first | (rw [hji24] at H; exact H) | (simp only [hji24] at H ⊢; exact H)
 have hji24w : (IntKind.i64.wrap (x4_1 + 1)) = ji24 := (i64_w _).trans hji24
 by_cases c25 : 0 ≤ (ji24)
 {
 rw [if_pos c25] at H
 have c25b0 := eq_true c25
 have c25b1 : decide (0 ≤ (ji24)) = true := decide_eq_true c25
 clear c25
 by_cases c26 : (ji24) ≤ (a0.size : Int)
 {
 rw [if_pos c26] at H
 have c26b0 := eq_true c26
 have c26b1 : decide ((ji24) ≤ (a0.size : Int)) = true := decide_eq_true c26
 clear c26
 replace H := Option.bind_eq_some_iff.mp H
 obtain ⟨t164, A270, H⟩ := H
 replace H : (if t164 = true then (some (rd t154 0, rd t154 1, rd t154 2, rd t154 3, a0.extract ((ji24) : Int).toNat a0.size, rd t154 4, true)) else (some (0, 0, 0, 0, (⟨#[]⟩ : ByteArray), 0, false))) = some (r1, r2, r3, r4, r5, r6, r7) := H
 have A27 := Aside0.mk A270
 clear A270
 by_cases c28 : t164 = true
 {
 subst c28
 have H1 : (some (rd t154 0, rd t154 1, rd t154 2, rd t154 3, a0.extract ((ji24) : Int).toNat a0.size, rd t154 4, true)) = some (r1, r2, r3, r4, r5, r6, r7) := by rw [if_pos rfl] at H; exact H
 clear H
 have H := H1
 clear H1
 simp only [Option.some.injEq, Prod.mk.injEq] at H
 obtain ⟨rfl, rfl, rfl, rfl, rfl, rfl, rfl⟩ := H
 try go_wp2
 replace HO_5 := Aside0.mk (Kd.R_drew HO_5.out)
 replace BK153 := Aside0.mk (blk_drew BK153.out)
 replace HB := Aside0.mk (below_drew1 HB.out)
 obtain ⟨Ao30, co30, eo30⟩ := Kd.R_slice HO_5.out
 (first | subst eo30 | (injection eo30 with f1_ f2_ f3_; have f4_ := f1_.symm; have f5_ := f3_.symm; clear f1_ f2_ f3_; subst f4_; subst f5_))
 have p158 : 0 ≤ (0 : Int) := (by omega)
 have q158 : 0 < (t154.length : Int) := of_decide_eq_true (by first | (with_reducible assumption) | assumption)
 obtain ⟨ad158, e158, hx158_0⟩ := Kd.at_int (Kd.R_reads' HO_5.out).2.2 0 p158 q158
 cases e158
 have qi158 : (0 < t154.length) = True := eq_true (by omega)
 (try rw [show ((0 : Int)).toNat = 0 from rfl] at hx158_0)
 (try rw [Addr.add_zero'] at hx158_0)
 replace p158 := eq_true p158
 replace q158 := eq_true q158
 have p159 : 0 ≤ (1 : Int) := (by omega)
 have q159 : 1 < (t154.length : Int) := of_decide_eq_true (by first | (with_reducible assumption) | assumption)
 obtain ⟨ad159, e159, hx159_0⟩ := Kd.at_int (Kd.R_reads' HO_5.out).2.2 1 p159 q159
 obtain rfl : ad158 = ad159 := (by injection e159)
 (try simp only [show (1 : Int).toNat = 1 from rfl, Nat.reduceMul, Nat.reduceEqDiff, Go.Addr.add, ↓reduceIte] at hx159_0)
 have qi159 : (1 < t154.length) = True := eq_true (by omega)
 (try rw [show ((1 : Int)).toNat = 1 from rfl] at hx159_0)
 replace p159 := eq_true p159
 replace q159 := eq_true q159
 have p160 : 0 ≤ (2 : Int) := (by omega)
 have q160 : 2 < (t154.length : Int) := of_decide_eq_true (by first | (with_reducible assumption) | assumption)
 obtain ⟨ad160, e160, hx160_0⟩ := Kd.at_int (Kd.R_reads' HO_5.out).2.2 2 p160 q160
 obtain rfl : ad158 = ad160 := (by injection e160)
 (try simp only [show (2 : Int).toNat = 2 from rfl, Nat.reduceMul, Nat.reduceEqDiff, Go.Addr.add, ↓reduceIte] at hx160_0)
 have qi160 : (2 < t154.length) = True := eq_true (by omega)
 (try rw [show ((2 : Int)).toNat = 2 from rfl] at hx160_0)
 replace p160 := eq_true p160
 replace q160 := eq_true q160
 have p161 : 0 ≤ (3 : Int) := (by omega)
 have q161 : 3 < (t154.length : Int) := of_decide_eq_true (by first | (with_reducible assumption) | assumption)
 obtain ⟨ad161, e161, hx161_0⟩ := Kd.at_int (Kd.R_reads' HO_5.out).2.2 3 p161 q161
 obtain rfl : ad158 = ad161 := (by injection e161)
 (try simp only [show (3 : Int).toNat = 3 from rfl, Nat.reduceMul, Nat.reduceEqDiff, Go.Addr.add, ↓reduceIte] at hx161_0)
 have qi161 : (3 < t154.length) = True := eq_true (by omega)
 (try rw [show ((3 : Int)).toNat = 3 from rfl] at hx161_0)
 replace p161 := eq_true p161
 replace q161 := eq_true q161
 have p162 : 0 ≤ (4 : Int) := (by omega)
 have q162 : 4 < (t154.length : Int) := of_decide_eq_true (by first | (with_reducible assumption) | assumption)
 obtain ⟨ad162, e162, hx162_0⟩ := Kd.at_int (Kd.R_reads' HO_5.out).2.2 4 p162 q162
 obtain rfl : ad158 = ad162 := (by injection e162)
 (try simp only [show (4 : Int).toNat = 4 from rfl, Nat.reduceMul, Nat.reduceEqDiff, Go.Addr.add, ↓reduceIte] at hx162_0)
 have qi162 : (4 < t154.length) = True := eq_true (by omega)
 (try rw [show ((4 : Int)).toNat = 4 from rfl] at hx162_0)
 replace p162 := eq_true p162
 replace q162 := eq_true q162
 refine start_ (n := 22) (S := fun w' => w'.cell? ad158 = some (.int .i64 (rd t154 0)) ∧ w'.cell? ⟨ad158.block, ad158.off + 1, none⟩ = some (.int .i64 (rd t154 1)) ∧ w'.cell? ⟨ad158.block, ad158.off + 2, none⟩ = some (.int .i64 (rd t154 2)) ∧ w'.cell? ⟨ad158.block, ad158.off + 3, none⟩ = some (.int .i64 (rd t154 3)) ∧ w'.cell? ⟨ad158.block, ad158.off + 4, none⟩ = some (.int .i64 (rd t154 4))) (ds := []) m0_ s2_ rfl rfl ⟨hx158_0, hx159_0, hx160_0, hx161_0, hx162_0⟩ (fun hHeld => ?_); refine with_tabW spec_l07Read.tab9 spec_l07Read.bits9 (fun HT_ HW_ => ?_)
 generalize wc.drew = w29 at HO_5 BK153 HB hx158_0 hx159_0 hx160_0 hx161_0 hx162_0 hHeld ⊢
 refine pu_ 0 40 m1_ (any_of HT_.out s2_) ?_
 refine pu_ 1 41 m2_ (any_of HT_.out s2_) ?_
 refine pu_ 3 43 m3_ (any_of HT_.out s2_) ?_
 refine pu_ 4 44 m4_ (any_of HT_.out s2_) ?_
 refine pu_ 6 46 m5_ (any_of HT_.out s2_) ?_
 refine pu_ 7 47 m6_ (any_of HT_.out s2_) ?_
 refine pu_ 9 49 m7_ (any_of HT_.out s2_) ?_
 refine pu_ 10 50 m8_ (any_of HT_.out s2_) ?_
 refine pu_ 12 52 m9_ (any_of HT_.out s2_) ?_
 refine pu_ 13 53 m10_ (any_of HT_.out s2_) ?_
 refine pu_ 15 55 m11_ (any_of HT_.out s2_) ?_
 refine pu_ 16 56 m12_ (any_of HT_.out s2_) ?_
 refine pu_ 17 57 m13_ (any_of HT_.out s2_) ?_
 refine pu_ 18 58 m14_ (any_of HT_.out s2_) ?_
 refine take_ (i := 2) (N := some 42) (v := ?_) (a' := ?_) m15_ rfl rfl (take_ofW HT_.out HW_.out s2_) (fun _ _ _ h => h) (Or.inl ⟨by rfl, ?_⟩) hHeld ?_ ?_
 rotate_left
 {
 rintro w' ⟨s0, s1, s2, s3, s4⟩
 go_simp
 with_reducible rfl}
 rotate_left
 · exact p1_
 refine take_ (i := 5) (N := some 45) (v := ?_) (a' := ?_) m16_ rfl rfl (take_ofW HT_.out HW_.out s2_) (fun _ _ _ h => h) (Or.inl ⟨by rfl, ?_⟩) hHeld ?_ ?_
 rotate_left
 {
 rintro w' ⟨s0, s1, s2, s3, s4⟩
 go_simp
 with_reducible rfl}
 rotate_left
 · exact p1_
 refine take_ (i := 8) (N := some 48) (v := ?_) (a' := ?_) m17_ rfl rfl (take_ofW HT_.out HW_.out s2_) (fun _ _ _ h => h) (Or.inl ⟨by rfl, ?_⟩) hHeld ?_ ?_
 rotate_left
 {
 rintro w' ⟨s0, s1, s2, s3, s4⟩
 go_simp
 with_reducible rfl}
 rotate_left
 · exact p1_
 refine take_ (i := 11) (N := some 51) (v := ?_) (a' := ?_) m18_ rfl rfl (take_ofW HT_.out HW_.out s2_) (fun _ _ _ h => h) (Or.inl ⟨by rfl, ?_⟩) hHeld ?_ ?_
 rotate_left
 {
 rintro w' ⟨s0, s1, s2, s3, s4⟩
 go_simp
 with_reducible rfl}
 rotate_left
 · exact p1_
 refine take_ (i := 14) (N := some 54) (v := ?_) (a' := ?_) m19_ rfl rfl (take_ofW HT_.out HW_.out s2_) (fun _ _ _ h => h) (Or.inl ⟨by rfl, ?_⟩) hHeld ?_ ?_
 rotate_left
 {
 rintro w' ⟨s0, s1, s2, s3, s4⟩
 go_simp
 with_reducible rfl}
 rotate_left
 · exact p1_
 refine pu_ 19 59 m20_ (any_of HT_.out s2_) ?_
 refine one_ (i := 20) (N := some 7) m21_ rfl rfl (one_of HT_.out s2_) (by decide) (fun K hK => ?_)
 refine box_step ?hg (N := 7) ?hd (cs := #[.int .i64 0, .int .i64 0, .int .i64 0, .int .i64 0, .string (⟨#[]⟩ : ByteArray), .int .i64 0]) (t := 27) ?hr ?_; (case hd => rfl); (case hg => rfl); (case hr => first | (go_simp; done) | (go_simp; rfl))
 intro gb163 hg w31 hbox hb
 have HS0_ := (hb.cell (World.block_lt_of_cell? _ _ (hHeld.1))).trans (hHeld.1)
 have HS1_ := (hb.cell (World.block_lt_of_cell? _ _ (hHeld.2.1))).trans (hHeld.2.1)
 have HS2_ := (hb.cell (World.block_lt_of_cell? _ _ (hHeld.2.2.1))).trans (hHeld.2.2.1)
 have HS3_ := (hb.cell (World.block_lt_of_cell? _ _ (hHeld.2.2.2.1))).trans (hHeld.2.2.2.1)
 have HS4_ := (hb.cell (World.block_lt_of_cell? _ _ (hHeld.2.2.2.2))).trans (hHeld.2.2.2.2)
 have GW163 := b6_ hg HB
 have GE163 := b6_ hg HB
 have NB153_163 := b4_ hg BK153
 have NB163_153 := b5_ hg BK153
 replace HO_5 := Aside0.mk (Kd.R_below (b2_ HO_5.out) hb)
 replace BK153 := b3_ BK153 hb
 replace HB := Aside0.mk (below_step (y1_ HB.out) hb)
 have BK163 := Aside0.mk (hbox)
 clear hb hbox hg
 refine hK.out _ _ ⟨HS0_, HS1_, HS2_, HS3_, HS4_⟩ (fun hHeld => ?_)
 clear hK K
 refine norm_ (a' := ?_) ?_ ?_
 rotate_left
 {
 show Act.put _ (some 7) _ = _
 simp only [Act.put, List.setIfInBounds_toArray, List.set_cons_zero, List.set_cons_succ, i64_w, i32_w]
 rfl}
 refine one_ (i := 21) (N := none) m22_ rfl rfl (one_of HT_.out s2_) (by decide) (fun K hK => ?_)
 have hs32 : w31.cell? ⟨gb163, 0, none⟩ = some (.int .i64 0) := (blk_cell BK163.out 0).trans rfl
 have hfs32 := blk_frozen BK163.out 0
 have hns32_0 := NB153_163.out
 have hms32_0 := NB163_153.out
 have hs33 : w31.cell? ⟨gb163, 1, none⟩ = some (.int .i64 0) := (blk_cell BK163.out 1).trans rfl
 have hfs33 := blk_frozen BK163.out 1
 have hns33_0 := NB153_163.out
 have hms33_0 := NB163_153.out
 have hs34 : w31.cell? ⟨gb163, 2, none⟩ = some (.int .i64 0) := (blk_cell BK163.out 2).trans rfl
 have hfs34 := blk_frozen BK163.out 2
 have hns34_0 := NB153_163.out
 have hms34_0 := NB163_153.out
 have hs35 : w31.cell? ⟨gb163, 3, none⟩ = some (.int .i64 0) := (blk_cell BK163.out 3).trans rfl
 have hfs35 := blk_frozen BK163.out 3
 have hns35_0 := NB153_163.out
 have hms35_0 := NB163_153.out
 have hs36 : w31.cell? ⟨gb163, 4, none⟩ = some (.string (⟨#[]⟩ : ByteArray)) := (blk_cell BK163.out 4).trans rfl
 have hfs36 := blk_frozen BK163.out 4
 have hns36_0 := NB153_163.out
 have hms36_0 := NB163_153.out
 have hs37 : w31.cell? ⟨gb163, 5, none⟩ = some (.int .i64 0) := (blk_cell BK163.out 5).trans rfl
 have hfs37 := blk_frozen BK163.out 5
 have hns37_0 := NB153_163.out
 have hms37_0 := NB163_153.out
 refine skip_ (w1 := ?_) (by rfl) rfl ?_ ?_
 rotate_left
 {
 go_simp
 rfl}
 have hne_ : ad158.block ≠ gb163 := Kd.own_blk (Kd.R_ne HO_5.out BK163.out (by decide))
 have st_ : ∀ (w_ : World) (i_ : Nat) (v_ : Value) (a_ : Addr) (u_ : Value), a_.block = ad158.block → w_.cell? a_ = some u_ → (w_.setCell ⟨gb163, i_, none⟩ v_).cell? a_ = some u_ := fun w_ i_ v_ a_ u_ ha_ h_ => (cell_far (p := ⟨gb163, i_, none⟩) (by rw [ha_]; exact hne_) v_).trans h_
 refine hK.out _ _ ⟨(st_ _ _ _ _ _ rfl (st_ _ _ _ _ _ rfl (st_ _ _ _ _ _ rfl (st_ _ _ _ _ _ rfl (st_ _ _ _ _ _ rfl (st_ _ _ _ _ _ rfl hHeld.1)))))), (st_ _ _ _ _ _ rfl (st_ _ _ _ _ _ rfl (st_ _ _ _ _ _ rfl (st_ _ _ _ _ _ rfl (st_ _ _ _ _ _ rfl (st_ _ _ _ _ _ rfl hHeld.2.1)))))), (st_ _ _ _ _ _ rfl (st_ _ _ _ _ _ rfl (st_ _ _ _ _ _ rfl (st_ _ _ _ _ _ rfl (st_ _ _ _ _ _ rfl (st_ _ _ _ _ _ rfl hHeld.2.2.1)))))), (st_ _ _ _ _ _ rfl (st_ _ _ _ _ _ rfl (st_ _ _ _ _ _ rfl (st_ _ _ _ _ _ rfl (st_ _ _ _ _ _ rfl (st_ _ _ _ _ _ rfl hHeld.2.2.2.1)))))), (st_ _ _ _ _ _ rfl (st_ _ _ _ _ _ rfl (st_ _ _ _ _ _ rfl (st_ _ _ _ _ _ rfl (st_ _ _ _ _ _ rfl (st_ _ _ _ _ _ rfl hHeld.2.2.2.2))))))⟩ (fun hHeld => ?_)
 clear hK K
 refine done_ (done_of HT_.out s2_) ?_
 try go_wp2_with (first | ((with_reducible refine gate_callee (f := 12) rfl ?_); refine goesL_ (some 60) rfl rfl Tryd.func12 s2_ rfl #[.pointer (some ⟨gb163, 0, none⟩)] rfl s3_ ?_; (with_reducible refine (spec_l07Event.calls kj12 gb163 (rd t154 0) (rd t154 1) (rd t154 2) (rd t154 3) (a0.extract ((ji24) : Int).toNat a0.size) (rd t154 4) true _ ?side1 A27.out).mono ?_); (case side1 => exact (by (with_reducible repeat (first | refine blk_drewN ?_ _ | refine blk_drew ?_ | refine blk_alloc ?_ _)); refine blk_put3 (cs := #[.int .i64 (rd t154 0), .int .i64 (rd t154 1), .int .i64 (rd t154 2), .int .i64 0, .string (⟨#[]⟩ : ByteArray), .int .i64 0]) ?_ rfl; (with_reducible repeat (first | refine blk_drewN ?_ _ | refine blk_drew ?_ | refine blk_alloc ?_ _)); refine blk_put3 (cs := #[.int .i64 0, .int .i64 0, .int .i64 0, .int .i64 0, .string (⟨#[]⟩ : ByteArray), .int .i64 0]) ?_ rfl; (with_reducible repeat (first | refine blk_drewN ?_ _ | refine blk_drew ?_ | refine blk_alloc ?_ _)); exact BK163.out)); rintro e w38 ⟨rfl, hb⟩; refine ⟨_, rfl, ?_⟩; replace HO_5 := Aside0.mk (Kd.R_below (by (with_reducible repeat (first | apply Kd.R_alloc | apply Kd.R_drewN | apply Kd.R_drew)); exact (Kd.R_mono (Kd.R_far3 (g := gb163) (Kd.R_far3 (g := gb163) (Kd.R_types HO_5.out BK163.out (by decide)) (fun _ hk => hk.2)) (fun _ hk => hk.2)) (fun _ h_ => h_.1))) hb); replace BK153 := Aside0.mk (blk_below (g := gb153) (o := .cells #[.int .i64 0, .int .i64 0, .int .i64 0, .int .i64 0, .string (⟨#[]⟩ : ByteArray), .int .i64 0] 27 (0, 0)) (by (with_reducible repeat (first | refine blk_drewN ?_ _ | refine blk_drew ?_ | refine blk_alloc ?_ _)); refine blk_far3 ?_ NB153_163.out; (with_reducible repeat (first | refine blk_drewN ?_ _ | refine blk_drew ?_ | refine blk_alloc ?_ _)); refine blk_far3 ?_ NB153_163.out; (with_reducible repeat (first | refine blk_drewN ?_ _ | refine blk_drew ?_ | refine blk_alloc ?_ _)); exact BK153.out) hb); replace BK163 := Aside0.mk (blk_below (g := gb163) (o := .cells #[.int .i64 (rd t154 0), .int .i64 (rd t154 1), .int .i64 (rd t154 2), .int .i64 (rd t154 3), .string (a0.extract ((ji24) : Int).toNat a0.size), .int .i64 (rd t154 4)] 27 (0, 0)) (by (with_reducible repeat (first | refine blk_drewN ?_ _ | refine blk_drew ?_ | refine blk_alloc ?_ _)); refine blk_put3 (cs := #[.int .i64 (rd t154 0), .int .i64 (rd t154 1), .int .i64 (rd t154 2), .int .i64 0, .string (⟨#[]⟩ : ByteArray), .int .i64 0]) ?_ rfl; (with_reducible repeat (first | refine blk_drewN ?_ _ | refine blk_drew ?_ | refine blk_alloc ?_ _)); refine blk_put3 (cs := #[.int .i64 0, .int .i64 0, .int .i64 0, .int .i64 0, .string (⟨#[]⟩ : ByteArray), .int .i64 0]) ?_ rfl; (with_reducible repeat (first | refine blk_drewN ?_ _ | refine blk_drew ?_ | refine blk_alloc ?_ _)); exact BK163.out) hb); replace HB := Aside0.mk (below_step (by repeat (first | (with_reducible first | exact HB.out | apply below_alloc | apply pw_below_drewN | apply below_drew1 | refine below_set ?_ GE163.out) | exact HB.out)) hb); (try clear hb); (try clear hb2); (try clear hk); (try clear hi); have hnb39 := NB163_153.out; have hnc39 := NB153_163.out; have hcz40_0 := c1_ BK163 0 (.int .i64 (rd t154 0)); have hcz40_1 := c1_ BK163 1 (.int .i64 (rd t154 1)); have hcz40_2 := c1_ BK163 2 (.int .i64 (rd t154 2)); have hcz40_3 := c1_ BK163 3 (.int .i64 (rd t154 3)); have hcz40_4 := c1_ BK163 4 (.string (a0.extract ((ji24) : Int).toNat a0.size)); have hcz40_5 := c1_ BK163 5 (.int .i64 (rd t154 4)); have hfz40_0 := f1_ BK163 0; have hfz40_1 := f1_ BK163 1; have hfz40_2 := f1_ BK163 2; have hfz40_3 := f1_ BK163 3; have hfz40_4 := f1_ BK163 4; have hfz40_5 := f1_ BK163 5; have hcz41_0 := c1_ BK153 0 (.int .i64 0); have hcz41_1 := c1_ BK153 1 (.int .i64 0); have hcz41_2 := c1_ BK153 2 (.int .i64 0); have hcz41_3 := c1_ BK153 3 (.int .i64 0); have hcz41_4 := c1_ BK153 4 (.string (⟨#[]⟩ : ByteArray)); have hcz41_5 := c1_ BK153 5 (.int .i64 0); have hfz41_0 := f1_ BK153 0; have hfz41_1 := f1_ BK153 1; have hfz41_2 := f1_ BK153 2; have hfz41_3 := f1_ BK153 3; have hfz41_4 := f1_ BK153 4; have hfz41_5 := f1_ BK153 5))
 refine bodyPost_ret (results_ct rfl _ _ gb153 27 #[.int .i64 (rd t154 0), .int .i64 (rd t154 1), .int .i64 (rd t154 2), .int .i64 (rd t154 3), .string (a0.extract ((ji24) : Int).toNat a0.size), .int .i64 (rd t154 4)] (0, 0) _ rfl (by (with_reducible repeat (first | refine blk_drewN ?_ _ | refine blk_drew ?_ | refine blk_alloc ?_ _)); refine blk_put3 (cs := #[.int .i64 (rd t154 0), .int .i64 (rd t154 1), .int .i64 (rd t154 2), .int .i64 0, .string (⟨#[]⟩ : ByteArray), .int .i64 0]) ?_ rfl; (with_reducible repeat (first | refine blk_drewN ?_ _ | refine blk_drew ?_ | refine blk_alloc ?_ _)); refine blk_put3 (cs := #[.int .i64 0, .int .i64 0, .int .i64 0, .int .i64 0, .string (⟨#[]⟩ : ByteArray), .int .i64 0]) ?_ rfl; (with_reducible repeat (first | refine blk_drewN ?_ _ | refine blk_drew ?_ | refine blk_alloc ?_ _)); exact BK153.out) Tryd.underlying27 rfl s2_) rfl ?_
 exact ⟨by first | rfl | (simp [errW_none, errW_some] <;> rfl) | (simp only [← hji24]; first | rfl | (simp [errW_none, errW_some] <;> rfl)) | (simp [*, errW_none, errW_some] <;> rfl), by repeat (first | (with_reducible first | exact HB.out | apply below_alloc | apply pw_below_drewN | apply below_drew1 | refine below_set ?_ GE153.out) | exact HB.out)⟩}
 {
 replace c28 := Bool.eq_false_iff.mpr c28
 subst c28
 have H1 : (some (0, 0, 0, 0, (⟨#[]⟩ : ByteArray), 0, false)) = some (r1, r2, r3, r4, r5, r6, r7) := by rw [if_neg (show ¬ (false = true) by decide)] at H; exact H
 clear H
 have H := H1
 clear H1
 simp only [Option.some.injEq, Prod.mk.injEq] at H
 obtain ⟨rfl, rfl, rfl, rfl, rfl, rfl, rfl⟩ := H
 try go_wp2
 replace HO_5 := Aside0.mk (Kd.R_drew HO_5.out)
 replace BK153 := Aside0.mk (blk_drew BK153.out)
 replace HB := Aside0.mk (below_drew1 HB.out)
 obtain ⟨Ao43, co43, eo43⟩ := Kd.R_slice HO_5.out
 (first | subst eo43 | (injection eo43 with f1_ f2_ f3_; have f4_ := f1_.symm; have f5_ := f3_.symm; clear f1_ f2_ f3_; subst f4_; subst f5_))
 have p158 : 0 ≤ (0 : Int) := (by omega)
 have q158 : 0 < (t154.length : Int) := of_decide_eq_true (by first | (with_reducible assumption) | assumption)
 obtain ⟨ad158, e158, hx158_0⟩ := Kd.at_int (Kd.R_reads' HO_5.out).2.2 0 p158 q158
 cases e158
 have qi158 : (0 < t154.length) = True := eq_true (by omega)
 (try rw [show ((0 : Int)).toNat = 0 from rfl] at hx158_0)
 (try rw [Addr.add_zero'] at hx158_0)
 replace p158 := eq_true p158
 replace q158 := eq_true q158
 have p159 : 0 ≤ (1 : Int) := (by omega)
 have q159 : 1 < (t154.length : Int) := of_decide_eq_true (by first | (with_reducible assumption) | assumption)
 obtain ⟨ad159, e159, hx159_0⟩ := Kd.at_int (Kd.R_reads' HO_5.out).2.2 1 p159 q159
 obtain rfl : ad158 = ad159 := (by injection e159)
 (try simp only [show (1 : Int).toNat = 1 from rfl, Nat.reduceMul, Nat.reduceEqDiff, Go.Addr.add, ↓reduceIte] at hx159_0)
 have qi159 : (1 < t154.length) = True := eq_true (by omega)
 (try rw [show ((1 : Int)).toNat = 1 from rfl] at hx159_0)
 replace p159 := eq_true p159
 replace q159 := eq_true q159
 have p160 : 0 ≤ (2 : Int) := (by omega)
 have q160 : 2 < (t154.length : Int) := of_decide_eq_true (by first | (with_reducible assumption) | assumption)
 obtain ⟨ad160, e160, hx160_0⟩ := Kd.at_int (Kd.R_reads' HO_5.out).2.2 2 p160 q160
 obtain rfl : ad158 = ad160 := (by injection e160)
 (try simp only [show (2 : Int).toNat = 2 from rfl, Nat.reduceMul, Nat.reduceEqDiff, Go.Addr.add, ↓reduceIte] at hx160_0)
 have qi160 : (2 < t154.length) = True := eq_true (by omega)
 (try rw [show ((2 : Int)).toNat = 2 from rfl] at hx160_0)
 replace p160 := eq_true p160
 replace q160 := eq_true q160
 have p161 : 0 ≤ (3 : Int) := (by omega)
 have q161 : 3 < (t154.length : Int) := of_decide_eq_true (by first | (with_reducible assumption) | assumption)
 obtain ⟨ad161, e161, hx161_0⟩ := Kd.at_int (Kd.R_reads' HO_5.out).2.2 3 p161 q161
 obtain rfl : ad158 = ad161 := (by injection e161)
 (try simp only [show (3 : Int).toNat = 3 from rfl, Nat.reduceMul, Nat.reduceEqDiff, Go.Addr.add, ↓reduceIte] at hx161_0)
 have qi161 : (3 < t154.length) = True := eq_true (by omega)
 (try rw [show ((3 : Int)).toNat = 3 from rfl] at hx161_0)
 replace p161 := eq_true p161
 replace q161 := eq_true q161
 have p162 : 0 ≤ (4 : Int) := (by omega)
 have q162 : 4 < (t154.length : Int) := of_decide_eq_true (by first | (with_reducible assumption) | assumption)
 obtain ⟨ad162, e162, hx162_0⟩ := Kd.at_int (Kd.R_reads' HO_5.out).2.2 4 p162 q162
 obtain rfl : ad158 = ad162 := (by injection e162)
 (try simp only [show (4 : Int).toNat = 4 from rfl, Nat.reduceMul, Nat.reduceEqDiff, Go.Addr.add, ↓reduceIte] at hx162_0)
 have qi162 : (4 < t154.length) = True := eq_true (by omega)
 (try rw [show ((4 : Int)).toNat = 4 from rfl] at hx162_0)
 replace p162 := eq_true p162
 replace q162 := eq_true q162
 refine start_ (n := 22) (S := fun w' => w'.cell? ad158 = some (.int .i64 (rd t154 0)) ∧ w'.cell? ⟨ad158.block, ad158.off + 1, none⟩ = some (.int .i64 (rd t154 1)) ∧ w'.cell? ⟨ad158.block, ad158.off + 2, none⟩ = some (.int .i64 (rd t154 2)) ∧ w'.cell? ⟨ad158.block, ad158.off + 3, none⟩ = some (.int .i64 (rd t154 3)) ∧ w'.cell? ⟨ad158.block, ad158.off + 4, none⟩ = some (.int .i64 (rd t154 4))) (ds := []) m0_ s2_ rfl rfl ⟨hx158_0, hx159_0, hx160_0, hx161_0, hx162_0⟩ (fun hHeld => ?_); refine with_tabW spec_l07Read.tab9 spec_l07Read.bits9 (fun HT_ HW_ => ?_)
 generalize wc.drew = w42 at HO_5 BK153 HB hx158_0 hx159_0 hx160_0 hx161_0 hx162_0 hHeld ⊢
 refine pu_ 0 40 m1_ (any_of HT_.out s2_) ?_
 refine pu_ 1 41 m2_ (any_of HT_.out s2_) ?_
 refine pu_ 3 43 m3_ (any_of HT_.out s2_) ?_
 refine pu_ 4 44 m4_ (any_of HT_.out s2_) ?_
 refine pu_ 6 46 m5_ (any_of HT_.out s2_) ?_
 refine pu_ 7 47 m6_ (any_of HT_.out s2_) ?_
 refine pu_ 9 49 m7_ (any_of HT_.out s2_) ?_
 refine pu_ 10 50 m8_ (any_of HT_.out s2_) ?_
 refine pu_ 12 52 m9_ (any_of HT_.out s2_) ?_
 refine pu_ 13 53 m10_ (any_of HT_.out s2_) ?_
 refine pu_ 15 55 m11_ (any_of HT_.out s2_) ?_
 refine pu_ 16 56 m12_ (any_of HT_.out s2_) ?_
 refine pu_ 17 57 m13_ (any_of HT_.out s2_) ?_
 refine pu_ 18 58 m14_ (any_of HT_.out s2_) ?_
 refine take_ (i := 2) (N := some 42) (v := ?_) (a' := ?_) m15_ rfl rfl (take_ofW HT_.out HW_.out s2_) (fun _ _ _ h => h) (Or.inl ⟨by rfl, ?_⟩) hHeld ?_ ?_
 rotate_left
 {
 rintro w' ⟨s0, s1, s2, s3, s4⟩
 go_simp
 with_reducible rfl}
 rotate_left
 · exact p1_
 refine take_ (i := 5) (N := some 45) (v := ?_) (a' := ?_) m16_ rfl rfl (take_ofW HT_.out HW_.out s2_) (fun _ _ _ h => h) (Or.inl ⟨by rfl, ?_⟩) hHeld ?_ ?_
 rotate_left
 {
 rintro w' ⟨s0, s1, s2, s3, s4⟩
 go_simp
 with_reducible rfl}
 rotate_left
 · exact p1_
 refine take_ (i := 8) (N := some 48) (v := ?_) (a' := ?_) m17_ rfl rfl (take_ofW HT_.out HW_.out s2_) (fun _ _ _ h => h) (Or.inl ⟨by rfl, ?_⟩) hHeld ?_ ?_
 rotate_left
 {
 rintro w' ⟨s0, s1, s2, s3, s4⟩
 go_simp
 with_reducible rfl}
 rotate_left
 · exact p1_
 refine take_ (i := 11) (N := some 51) (v := ?_) (a' := ?_) m18_ rfl rfl (take_ofW HT_.out HW_.out s2_) (fun _ _ _ h => h) (Or.inl ⟨by rfl, ?_⟩) hHeld ?_ ?_
 rotate_left
 {
 rintro w' ⟨s0, s1, s2, s3, s4⟩
 go_simp
 with_reducible rfl}
 rotate_left
 · exact p1_
 refine take_ (i := 14) (N := some 54) (v := ?_) (a' := ?_) m19_ rfl rfl (take_ofW HT_.out HW_.out s2_) (fun _ _ _ h => h) (Or.inl ⟨by rfl, ?_⟩) hHeld ?_ ?_
 rotate_left
 {
 rintro w' ⟨s0, s1, s2, s3, s4⟩
 go_simp
 with_reducible rfl}
 rotate_left
 · exact p1_
 refine pu_ 19 59 m20_ (any_of HT_.out s2_) ?_
 refine one_ (i := 20) (N := some 7) m21_ rfl rfl (one_of HT_.out s2_) (by decide) (fun K hK => ?_)
 refine box_step ?hg (N := 7) ?hd (cs := #[.int .i64 0, .int .i64 0, .int .i64 0, .int .i64 0, .string (⟨#[]⟩ : ByteArray), .int .i64 0]) (t := 27) ?hr ?_; (case hd => rfl); (case hg => rfl); (case hr => first | (go_simp; done) | (go_simp; rfl))
 intro gb163 hg w44 hbox hb
 have HS0_ := (hb.cell (World.block_lt_of_cell? _ _ (hHeld.1))).trans (hHeld.1)
 have HS1_ := (hb.cell (World.block_lt_of_cell? _ _ (hHeld.2.1))).trans (hHeld.2.1)
 have HS2_ := (hb.cell (World.block_lt_of_cell? _ _ (hHeld.2.2.1))).trans (hHeld.2.2.1)
 have HS3_ := (hb.cell (World.block_lt_of_cell? _ _ (hHeld.2.2.2.1))).trans (hHeld.2.2.2.1)
 have HS4_ := (hb.cell (World.block_lt_of_cell? _ _ (hHeld.2.2.2.2))).trans (hHeld.2.2.2.2)
 have GW163 := b6_ hg HB
 have GE163 := b6_ hg HB
 have NB153_163 := b4_ hg BK153
 have NB163_153 := b5_ hg BK153
 replace HO_5 := Aside0.mk (Kd.R_below (b2_ HO_5.out) hb)
 replace BK153 := b3_ BK153 hb
 replace HB := Aside0.mk (below_step (y1_ HB.out) hb)
 have BK163 := Aside0.mk (hbox)
 clear hb hbox hg
 refine hK.out _ _ ⟨HS0_, HS1_, HS2_, HS3_, HS4_⟩ (fun hHeld => ?_)
 clear hK K
 refine norm_ (a' := ?_) ?_ ?_
 rotate_left
 {
 show Act.put _ (some 7) _ = _
 simp only [Act.put, List.setIfInBounds_toArray, List.set_cons_zero, List.set_cons_succ, i64_w, i32_w]
 rfl}
 refine one_ (i := 21) (N := none) m22_ rfl rfl (one_of HT_.out s2_) (by decide) (fun K hK => ?_)
 have hs45 : w44.cell? ⟨gb163, 0, none⟩ = some (.int .i64 0) := (blk_cell BK163.out 0).trans rfl
 have hfs45 := blk_frozen BK163.out 0
 have hns45_0 := NB153_163.out
 have hms45_0 := NB163_153.out
 have hs46 : w44.cell? ⟨gb163, 1, none⟩ = some (.int .i64 0) := (blk_cell BK163.out 1).trans rfl
 have hfs46 := blk_frozen BK163.out 1
 have hns46_0 := NB153_163.out
 have hms46_0 := NB163_153.out
 have hs47 : w44.cell? ⟨gb163, 2, none⟩ = some (.int .i64 0) := (blk_cell BK163.out 2).trans rfl
 have hfs47 := blk_frozen BK163.out 2
 have hns47_0 := NB153_163.out
 have hms47_0 := NB163_153.out
 have hs48 : w44.cell? ⟨gb163, 3, none⟩ = some (.int .i64 0) := (blk_cell BK163.out 3).trans rfl
 have hfs48 := blk_frozen BK163.out 3
 have hns48_0 := NB153_163.out
 have hms48_0 := NB163_153.out
 have hs49 : w44.cell? ⟨gb163, 4, none⟩ = some (.string (⟨#[]⟩ : ByteArray)) := (blk_cell BK163.out 4).trans rfl
 have hfs49 := blk_frozen BK163.out 4
 have hns49_0 := NB153_163.out
 have hms49_0 := NB163_153.out
 have hs50 : w44.cell? ⟨gb163, 5, none⟩ = some (.int .i64 0) := (blk_cell BK163.out 5).trans rfl
 have hfs50 := blk_frozen BK163.out 5
 have hns50_0 := NB153_163.out
 have hms50_0 := NB163_153.out
 refine skip_ (w1 := ?_) (by rfl) rfl ?_ ?_
 rotate_left
 {
 go_simp
 rfl}
 have hne_ : ad158.block ≠ gb163 := Kd.own_blk (Kd.R_ne HO_5.out BK163.out (by decide))
 have st_ : ∀ (w_ : World) (i_ : Nat) (v_ : Value) (a_ : Addr) (u_ : Value), a_.block = ad158.block → w_.cell? a_ = some u_ → (w_.setCell ⟨gb163, i_, none⟩ v_).cell? a_ = some u_ := fun w_ i_ v_ a_ u_ ha_ h_ => (cell_far (p := ⟨gb163, i_, none⟩) (by rw [ha_]; exact hne_) v_).trans h_
 refine hK.out _ _ ⟨(st_ _ _ _ _ _ rfl (st_ _ _ _ _ _ rfl (st_ _ _ _ _ _ rfl (st_ _ _ _ _ _ rfl (st_ _ _ _ _ _ rfl (st_ _ _ _ _ _ rfl hHeld.1)))))), (st_ _ _ _ _ _ rfl (st_ _ _ _ _ _ rfl (st_ _ _ _ _ _ rfl (st_ _ _ _ _ _ rfl (st_ _ _ _ _ _ rfl (st_ _ _ _ _ _ rfl hHeld.2.1)))))), (st_ _ _ _ _ _ rfl (st_ _ _ _ _ _ rfl (st_ _ _ _ _ _ rfl (st_ _ _ _ _ _ rfl (st_ _ _ _ _ _ rfl (st_ _ _ _ _ _ rfl hHeld.2.2.1)))))), (st_ _ _ _ _ _ rfl (st_ _ _ _ _ _ rfl (st_ _ _ _ _ _ rfl (st_ _ _ _ _ _ rfl (st_ _ _ _ _ _ rfl (st_ _ _ _ _ _ rfl hHeld.2.2.2.1)))))), (st_ _ _ _ _ _ rfl (st_ _ _ _ _ _ rfl (st_ _ _ _ _ _ rfl (st_ _ _ _ _ _ rfl (st_ _ _ _ _ _ rfl (st_ _ _ _ _ _ rfl hHeld.2.2.2.2))))))⟩ (fun hHeld => ?_)
 clear hK K
 refine done_ (done_of HT_.out s2_) ?_
 try go_wp2_with (first | ((with_reducible refine gate_callee (f := 12) rfl ?_); refine goesL_ (some 60) rfl rfl Tryd.func12 s2_ rfl #[.pointer (some ⟨gb163, 0, none⟩)] rfl s3_ ?_; (with_reducible refine (spec_l07Event.calls kj12 gb163 (rd t154 0) (rd t154 1) (rd t154 2) (rd t154 3) (a0.extract ((ji24) : Int).toNat a0.size) (rd t154 4) false _ ?side1 A27.out).mono ?_); (case side1 => exact (by (with_reducible repeat (first | refine blk_drewN ?_ _ | refine blk_drew ?_ | refine blk_alloc ?_ _)); refine blk_put3 (cs := #[.int .i64 (rd t154 0), .int .i64 (rd t154 1), .int .i64 (rd t154 2), .int .i64 0, .string (⟨#[]⟩ : ByteArray), .int .i64 0]) ?_ rfl; (with_reducible repeat (first | refine blk_drewN ?_ _ | refine blk_drew ?_ | refine blk_alloc ?_ _)); refine blk_put3 (cs := #[.int .i64 0, .int .i64 0, .int .i64 0, .int .i64 0, .string (⟨#[]⟩ : ByteArray), .int .i64 0]) ?_ rfl; (with_reducible repeat (first | refine blk_drewN ?_ _ | refine blk_drew ?_ | refine blk_alloc ?_ _)); exact BK163.out)); rintro e w51 ⟨rfl, hb⟩; refine ⟨_, rfl, ?_⟩; replace HO_5 := Aside0.mk (Kd.R_below (by (with_reducible repeat (first | apply Kd.R_alloc | apply Kd.R_drewN | apply Kd.R_drew)); exact (Kd.R_mono (Kd.R_far3 (g := gb163) (Kd.R_far3 (g := gb163) (Kd.R_types HO_5.out BK163.out (by decide)) (fun _ hk => hk.2)) (fun _ hk => hk.2)) (fun _ h_ => h_.1))) hb); replace BK153 := Aside0.mk (blk_below (g := gb153) (o := .cells #[.int .i64 0, .int .i64 0, .int .i64 0, .int .i64 0, .string (⟨#[]⟩ : ByteArray), .int .i64 0] 27 (0, 0)) (by (with_reducible repeat (first | refine blk_drewN ?_ _ | refine blk_drew ?_ | refine blk_alloc ?_ _)); refine blk_far3 ?_ NB153_163.out; (with_reducible repeat (first | refine blk_drewN ?_ _ | refine blk_drew ?_ | refine blk_alloc ?_ _)); refine blk_far3 ?_ NB153_163.out; (with_reducible repeat (first | refine blk_drewN ?_ _ | refine blk_drew ?_ | refine blk_alloc ?_ _)); exact BK153.out) hb); replace BK163 := Aside0.mk (blk_below (g := gb163) (o := .cells #[.int .i64 (rd t154 0), .int .i64 (rd t154 1), .int .i64 (rd t154 2), .int .i64 (rd t154 3), .string (a0.extract ((ji24) : Int).toNat a0.size), .int .i64 (rd t154 4)] 27 (0, 0)) (by (with_reducible repeat (first | refine blk_drewN ?_ _ | refine blk_drew ?_ | refine blk_alloc ?_ _)); refine blk_put3 (cs := #[.int .i64 (rd t154 0), .int .i64 (rd t154 1), .int .i64 (rd t154 2), .int .i64 0, .string (⟨#[]⟩ : ByteArray), .int .i64 0]) ?_ rfl; (with_reducible repeat (first | refine blk_drewN ?_ _ | refine blk_drew ?_ | refine blk_alloc ?_ _)); refine blk_put3 (cs := #[.int .i64 0, .int .i64 0, .int .i64 0, .int .i64 0, .string (⟨#[]⟩ : ByteArray), .int .i64 0]) ?_ rfl; (with_reducible repeat (first | refine blk_drewN ?_ _ | refine blk_drew ?_ | refine blk_alloc ?_ _)); exact BK163.out) hb); replace HB := Aside0.mk (below_step (by repeat (first | (with_reducible first | exact HB.out | apply below_alloc | apply pw_below_drewN | apply below_drew1 | refine below_set ?_ GE163.out) | exact HB.out)) hb); (try clear hb); (try clear hb2); (try clear hk); (try clear hi); have hnb52 := NB153_163.out; have hnc52 := NB163_153.out; have hcz53_0 := c1_ BK153 0 (.int .i64 0); have hcz53_1 := c1_ BK153 1 (.int .i64 0); have hcz53_2 := c1_ BK153 2 (.int .i64 0); have hcz53_3 := c1_ BK153 3 (.int .i64 0); have hcz53_4 := c1_ BK153 4 (.string (⟨#[]⟩ : ByteArray)); have hcz53_5 := c1_ BK153 5 (.int .i64 0); have hfz53_0 := f1_ BK153 0; have hfz53_1 := f1_ BK153 1; have hfz53_2 := f1_ BK153 2; have hfz53_3 := f1_ BK153 3; have hfz53_4 := f1_ BK153 4; have hfz53_5 := f1_ BK153 5))
 refine bodyPost_ret (results_ct rfl _ _ gb153 27 #[.int .i64 0, .int .i64 0, .int .i64 0, .int .i64 0, .string (⟨#[]⟩ : ByteArray), .int .i64 0] (0, 0) _ rfl (by (with_reducible repeat (first | refine blk_drewN ?_ _ | refine blk_drew ?_ | refine blk_alloc ?_ _)); refine blk_put3 (cs := #[.int .i64 0, .int .i64 0, .int .i64 0, .int .i64 0, .string (⟨#[]⟩ : ByteArray), .int .i64 0]) ?_ rfl; (with_reducible repeat (first | refine blk_drewN ?_ _ | refine blk_drew ?_ | refine blk_alloc ?_ _)); refine blk_put3 (cs := #[.int .i64 0, .int .i64 0, .int .i64 0, .int .i64 0, .string (⟨#[]⟩ : ByteArray), .int .i64 0]) ?_ rfl; (with_reducible repeat (first | refine blk_drewN ?_ _ | refine blk_drew ?_ | refine blk_alloc ?_ _)); exact BK153.out) Tryd.underlying27 rfl s2_) rfl ?_
 exact ⟨by first | rfl | (simp [errW_none, errW_some] <;> rfl) | (simp only [← hji24]; first | rfl | (simp [errW_none, errW_some] <;> rfl)) | (simp [*, errW_none, errW_some] <;> rfl), by repeat (first | (with_reducible first | exact HB.out | apply below_alloc | apply pw_below_drewN | apply below_drew1 | refine below_set ?_ GE153.out) | exact HB.out)⟩}}
 {
 rw [if_neg c26] at H
 exact absurd H (by simp)}}
 {
 rw [if_neg c25] at H
 exact absurd H (by simp)}}
 {
 rw [if_neg c23] at H
 exact absurd H (by simp)}}
 {
 rw [if_neg c22] at H
 exact absurd H (by simp)}}
 {
 rw [if_neg c21] at H
 exact absurd H (by simp)}}
 {
 rw [if_neg c20] at H
 exact absurd H (by simp)}}
 {
 rw [if_neg c19] at H
 exact absurd H (by simp)}}}}}
 {
 rw [if_neg c11] at H
 exact absurd H (by simp)}}
 {
 rw [if_neg c10] at H
 exact absurd H (by simp)}}}}

/-! ### spec_ReadEvent: function 9 -/
def spec_ReadEvent.f (k : Nat) (a0 : ByteArray) : Option (Int × Int × Int × Int × ByteArray × Int × Bool) := (spec_l07Read.f k a0).bind fun bt166 => (some (bt166.1, bt166.2.1, bt166.2.2.1, bt166.2.2.2.1, bt166.2.2.2.2.1, bt166.2.2.2.2.2.1, bt166.2.2.2.2.2.2))
theorem spec_ReadEvent.mono : ∀ a0 k, LeO (spec_ReadEvent.f k a0) (spec_ReadEvent.f (k + 1) a0) := by
  intro a0 k
  unfold spec_ReadEvent.f
  repeat' first
      | (with_reducible exact spec_l07Read.mono _ _)
      | (with_reducible exact LeO.refl _)
      | (with_reducible exact LeO.none _)
      | (with_reducible refine LeO.ite ?_ ?_)
      | (with_reducible refine LeO.bind ?_ (fun _ => ?_))
      | exact spec_l07Read.mono _ _
      | exact LeO.none _
      | refine LeO.ite ?_ ?_
      | refine LeO.bind ?_ (fun _ => ?_)
set_option maxHeartbeats 8000000 in
set_option maxRecDepth 100000 in
theorem spec_ReadEvent.calls (k : Nat) (a0 : ByteArray) (r1 : Int) (r2 : Int) (r3 : Int) (r4 : Int) (r5 : ByteArray) (r6 : Int) (r7 : Bool) (w : World) (h : spec_ReadEvent.f k a0 = some (r1, r2, r3, r4, r5, r6, r7)) :
    Calls Tryd.prog 9 #[.string a0] w fun e w' => e = .returned (.tuple #[.agg #[.int .i64 r1, .int .i64 r2, .int .i64 r3, .int .i64 r4, .string r5, .int .i64 r6], .bool r7]) ∧ Below w.heap.size w w' := by
  have hu27 := Tryd.underlying27
  have HB := Aside0.mk (Below.refl w.heap.size w)
  have H : ((spec_l07Read.f k a0).bind fun bt166 => (some (bt166.1, bt166.2.1, bt166.2.2.1, bt166.2.2.2.1, bt166.2.2.2.2.1, bt166.2.2.2.2.2.1, bt166.2.2.2.2.2.2))) = some (r1, r2, r3, r4, r5, r6, r7) := h
  clear h
  replace H := Option.bind_eq_some_iff.mp H
  obtain ⟨⟨t166, t167, t168, t169, t170, t171, t172⟩, A20, H⟩ := H
  replace H : (some (t166, t167, t168, t169, t170, t171, t172)) = some (r1, r2, r3, r4, r5, r6, r7) := H
  have A2 := Aside0.mk A20
  clear A20
  simp only [Option.some.injEq, Prod.mk.injEq] at H
  obtain ⟨rfl, rfl, rfl, rfl, rfl, rfl, rfl⟩ := H
  go_enter Tryd.func9, Tryd.ntmps9
  go_wp2_with (first | ((with_reducible refine gate_dst (N := 2) rfl ?_); refine box_event ?hg (N := 2) ?hd (cs := #[.int .i64 0, .int .i64 0, .int .i64 0, .int .i64 0, .string (⟨#[]⟩ : ByteArray), .int .i64 0]) (t := 27) ?hr ?_; (case hd => rfl); (case hg => rfl); (case hr => first | (go_simp; done) | (go_simp; rfl)); intro gb165 hg w3 hbox hb; have GW165 := Aside0.mk ((by rw [hg]; exact (below_size (by repeat (first | (with_reducible first | exact HB.out | apply below_alloc | apply pw_below_drewN | apply below_drew1) | exact HB.out))) : w.heap.size ≤ gb165)); have GE165 := Aside0.mk ((by rw [hg]; exact (below_size (by repeat (first | (with_reducible first | exact HB.out | apply below_alloc | apply pw_below_drewN | apply below_drew1) | exact HB.out))) : w.heap.size ≤ gb165)); replace HB := Aside0.mk (below_step (by repeat (first | (with_reducible first | exact HB.out | apply below_alloc | apply pw_below_drewN | apply below_drew1) | exact HB.out)) hb); have BK165 := Aside0.mk (hbox); clear hb hbox hg) | ((with_reducible refine gate_callee (f := 16) rfl ?_); refine goesL_ (some 5) rfl rfl Tryd.func16 (by kernel_rfl) rfl #[.string a0] rfl (by (try simp only [List.map_toArray, List.map_cons, List.map_nil]); first | done | rfl | (simp only [List.length_drop, List.length_take]; rfl)) ?_; (with_reducible refine (spec_l07Read.calls k a0 t166 t167 t168 t169 t170 t171 t172 _ A2.out).mono ?_); rintro e w4 ⟨rfl, hb⟩; refine ⟨_, rfl, ?_⟩; replace BK165 := Aside0.mk (blk_below (g := gb165) (o := .cells #[.int .i64 0, .int .i64 0, .int .i64 0, .int .i64 0, .string (⟨#[]⟩ : ByteArray), .int .i64 0] 27 (0, 0)) (by (with_reducible repeat (first | refine blk_drewN ?_ _ | refine blk_drew ?_ | refine blk_alloc ?_ _)); exact BK165.out) hb); replace HB := Aside0.mk (below_step (by repeat (first | (with_reducible first | exact HB.out | apply below_alloc | apply pw_below_drewN | apply below_drew1) | exact HB.out)) hb); (try clear hb); (try clear hb2); (try clear hk); (try clear hi); have hcz5_0 : w4.cell? ⟨gb165, 0, none⟩ = some (.int .i64 0) := (blk_cell BK165.out 0).trans rfl; have hcz5_1 : w4.cell? ⟨gb165, 1, none⟩ = some (.int .i64 0) := (blk_cell BK165.out 1).trans rfl; have hcz5_2 : w4.cell? ⟨gb165, 2, none⟩ = some (.int .i64 0) := (blk_cell BK165.out 2).trans rfl; have hcz5_3 : w4.cell? ⟨gb165, 3, none⟩ = some (.int .i64 0) := (blk_cell BK165.out 3).trans rfl; have hcz5_4 : w4.cell? ⟨gb165, 4, none⟩ = some (.string (⟨#[]⟩ : ByteArray)) := (blk_cell BK165.out 4).trans rfl; have hcz5_5 : w4.cell? ⟨gb165, 5, none⟩ = some (.int .i64 0) := (blk_cell BK165.out 5).trans rfl; have hfz5_0 := blk_frozen BK165.out 0; have hfz5_1 := blk_frozen BK165.out 1; have hfz5_2 := blk_frozen BK165.out 2; have hfz5_3 := blk_frozen BK165.out 3; have hfz5_4 := blk_frozen BK165.out 4; have hfz5_5 := blk_frozen BK165.out 5))
  refine bodyPost_ret (results_ct rfl _ _ gb165 27 #[.int .i64 t166, .int .i64 t167, .int .i64 t168, .int .i64 t169, .string t170, .int .i64 t171] (0, 0) _ rfl (by (with_reducible repeat (first | refine blk_drewN ?_ _ | refine blk_drew ?_ | refine blk_alloc ?_ _)); refine blk_put3 (cs := #[.int .i64 t166, .int .i64 t167, .int .i64 t168, .int .i64 0, .string (⟨#[]⟩ : ByteArray), .int .i64 0]) ?_ rfl; (with_reducible repeat (first | refine blk_drewN ?_ _ | refine blk_drew ?_ | refine blk_alloc ?_ _)); refine blk_put3 (cs := #[.int .i64 0, .int .i64 0, .int .i64 0, .int .i64 0, .string (⟨#[]⟩ : ByteArray), .int .i64 0]) ?_ rfl; (with_reducible repeat (first | refine blk_drewN ?_ _ | refine blk_drew ?_ | refine blk_alloc ?_ _)); exact BK165.out) Tryd.underlying27 rfl (by kernel_rfl)) rfl ?_
  exact ⟨by first | rfl | (simp [errW_none, errW_some] <;> rfl) | (simp [*, errW_none, errW_some] <;> rfl), by repeat (first | (with_reducible first | exact HB.out | apply below_alloc | apply pw_below_drewN | apply below_drew1 | refine below_set ?_ GE165.out) | exact HB.out)⟩

end Go.Proofs.YtgmbgpjebpgpkaaDoor.QFnExactReadEvent
