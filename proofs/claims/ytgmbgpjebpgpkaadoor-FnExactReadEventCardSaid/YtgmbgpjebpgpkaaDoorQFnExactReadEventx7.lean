-- written by a program of this session, on the lines of the kit's print
import Derived.Test.YtgmbgpjebpgpkaaDoorQFnExactReadEventx0
import Derived.Test.YtgmbgpjebpgpkaaDoorQFnExactReadEventx4
import Derived.Test.YtgmbgpjebpgpkaaDoorQFnExactReadEventx5
import Derived.Test.YtgmbgpjebpgpkaaDoorQFnExactReadEventx6
namespace Go.Proofs.YtgmbgpjebpgpkaaDoor.QFnExactReadEvent
open Go.RowKit Go.Proofs.YtgmbgpjebpgpkaaDoorW.PrintWords Go.Proofs.YtgmbgpjebpgpkaaDoorW.PrintLast Go.Proofs.YtgmbgpjebpgpkaaDoorW.PrintMore
attribute [local go_sem] max2_int min2_int max_two min_two max_three min_three max_four min_four   -- for this text's walks alone
set_option linter.unusedVariables false
set_option linter.unusedSimpArgs false

/-! ### impl_ReadEvent: function 10 -/
abbrev impl_ReadEvent.T : Bool := true
abbrev impl_ReadEvent.F : Bool := false
theorem impl_ReadEvent.s1_ {P : Prop} (h : P := by first | rfl | (simp; done) | (simp [*]; done)) : P := h
theorem impl_ReadEvent.s2_ {P : Prop} (h : P := by kernel_rfl) : P := h
theorem impl_ReadEvent.s3_ {P : Prop} (h : P := by (try simp only [List.map_toArray, List.map_cons, List.map_nil]); first | done | rfl | (simp only [List.length_drop, List.length_take]; rfl)) : P := h
abbrev impl_ReadEvent.m0_ : Array Bool := #[F,F,F,F,F,F,F,F,F,F,F,F,F,F,F,F,F,F,F]
abbrev impl_ReadEvent.m1_ : Array Bool := #[T,F,F,F,F,F,F,F,F,F,F,F,F,F,F,F,F,F,F]
abbrev impl_ReadEvent.m2_ : Array Bool := #[T,T,F,F,F,F,F,F,F,F,F,F,F,F,F,F,F,F,F]
abbrev impl_ReadEvent.m3_ : Array Bool := #[T,T,F,T,F,F,F,F,F,F,F,F,F,F,F,F,F,F,F]
abbrev impl_ReadEvent.m4_ : Array Bool := #[T,T,F,T,T,F,F,F,F,F,F,F,F,F,F,F,F,F,F]
abbrev impl_ReadEvent.m5_ : Array Bool := #[T,T,F,T,T,F,T,F,F,F,F,F,F,F,F,F,F,F,F]
abbrev impl_ReadEvent.m6_ : Array Bool := #[T,T,F,T,T,F,T,T,F,F,F,F,F,F,F,F,F,F,F]
abbrev impl_ReadEvent.m7_ : Array Bool := #[T,T,F,T,T,F,T,T,F,T,F,F,F,F,F,F,F,F,F]
abbrev impl_ReadEvent.m8_ : Array Bool := #[T,T,F,T,T,F,T,T,F,T,T,F,F,F,F,F,F,F,F]
abbrev impl_ReadEvent.m9_ : Array Bool := #[T,T,F,T,T,F,T,T,F,T,T,F,T,F,F,F,F,F,F]
abbrev impl_ReadEvent.m10_ : Array Bool := #[T,T,F,T,T,F,T,T,F,T,T,F,T,T,F,F,F,F,F]
abbrev impl_ReadEvent.m11_ : Array Bool := #[T,T,F,T,T,F,T,T,F,T,T,F,T,T,T,F,F,F,F]
abbrev impl_ReadEvent.m12_ : Array Bool := #[T,T,T,T,T,F,T,T,F,T,T,F,T,T,T,F,F,F,F]
abbrev impl_ReadEvent.m13_ : Array Bool := #[T,T,T,T,T,T,T,T,F,T,T,F,T,T,T,F,F,F,F]
abbrev impl_ReadEvent.m14_ : Array Bool := #[T,T,T,T,T,T,T,T,T,T,T,F,T,T,T,F,F,F,F]
abbrev impl_ReadEvent.m15_ : Array Bool := #[T,T,T,T,T,T,T,T,T,T,T,T,T,T,T,F,F,F,F]
abbrev impl_ReadEvent.m16_ : Array Bool := #[T,T,T,T,T,T,T,T,T,T,T,T,T,T,T,T,F,F,F]
abbrev impl_ReadEvent.m17_ : Array Bool := #[T,T,T,T,T,T,T,T,T,T,T,T,T,T,T,T,T,F,F]
abbrev impl_ReadEvent.m18_ : Array Bool := #[T,T,T,T,T,T,T,T,T,T,T,T,T,T,T,T,T,T,F]
abbrev impl_ReadEvent.m19_ : Array Bool := #[T,T,T,T,T,T,T,T,T,T,T,T,T,T,T,T,T,T,T]
theorem impl_ReadEvent.p1_ {P : Prop} (h : P := by simp only [Act.put, List.setIfInBounds_toArray, List.set_cons_zero, List.set_cons_succ, i64_w, i32_w]; rfl) : P := h
theorem impl_ReadEvent.b1_ {P Q : Prop} (q : Q) (h : Q → P := by intro q_; (with_reducible repeat (first | refine blk_drewN ?_ _ | refine blk_drew ?_ | refine blk_alloc ?_ _)); exact q_) : P := h q
theorem impl_ReadEvent.b2_ {P Q : Prop} (q : Q) (h : Q → P := by intro q_; (with_reducible repeat (first | apply Kd.R_alloc | apply Kd.R_drewN | apply Kd.R_drew)); exact q_) : P := h q
theorem impl_ReadEvent.y1_ {P Q : Prop} (q : Q) (h : Q → P := by intro q_; repeat (first | (with_reducible first | exact q_ | apply below_alloc | apply pw_below_drewN | apply below_drew1) | exact q_)) : P := h q
theorem impl_ReadEvent.b3_ {w w1 W : World} {g : Nat} {o : Obj} (q : Aside0 (w.heap[g]? = some o)) (hb : Below W.heap.size W w1) (h : w.heap[g]? = some o → W.heap[g]? = some o := by intro q_; (with_reducible repeat (first | refine blk_drewN ?_ _ | refine blk_drew ?_ | refine blk_alloc ?_ _)); exact q_) : Aside0 (w1.heap[g]? = some o) := ⟨blk_below (h q.out) hb⟩
theorem impl_ReadEvent.b4_ {w W : World} {g k : Nat} {o : Obj} (hg : k = W.heap.size) (q : Aside0 (w.heap[g]? = some o)) (h : w.heap[g]? = some o → W.heap[g]? = some o := by intro q_; (with_reducible repeat (first | refine blk_drewN ?_ _ | refine blk_drew ?_ | refine blk_alloc ?_ _)); exact q_) : Aside0 (g ≠ k) := ⟨by rw [hg]; exact Nat.ne_of_lt (blk_lt (h q.out))⟩
theorem impl_ReadEvent.b5_ {w W : World} {g k : Nat} {o : Obj} (hg : k = W.heap.size) (q : Aside0 (w.heap[g]? = some o)) (h : w.heap[g]? = some o → W.heap[g]? = some o := by intro q_; (with_reducible repeat (first | refine blk_drewN ?_ _ | refine blk_drew ?_ | refine blk_alloc ?_ _)); exact q_) : Aside0 (k ≠ g) := ⟨by rw [hg]; exact Nat.ne_of_gt (blk_lt (h q.out))⟩
theorem impl_ReadEvent.b6_ {w w' W : World} {k : Nat} (hg : k = W.heap.size) (q : Aside0 (Below w.heap.size w w')) (h : Below w.heap.size w w' → Below w.heap.size w W := by intro q_; repeat (first | (with_reducible first | exact q_ | apply below_alloc | apply pw_below_drewN | apply below_drew1) | exact q_)) : Aside0 (w.heap.size ≤ k) := ⟨by rw [hg]; exact below_size (h q.out)⟩
theorem impl_ReadEvent.c1_ {w : World} {g : Nat} {t : TypeId} {cs : Array Value} (q : Aside0 (w.heap[g]? = some (.cells cs t (0, 0)))) (i : Nat) (v : Value) (h : cs[i]? = some v := by rfl) : w.cell? ⟨g, i, none⟩ = some v := (blk_cell q.out i).trans h
theorem impl_ReadEvent.f1_ {w : World} {g : Nat} {t : TypeId} {cs : Array Value} (q : Aside0 (w.heap[g]? = some (.cells cs t (0, 0)))) (i : Nat) : w.frozen? ⟨g, i, none⟩ = false := blk_frozen q.out i
theorem impl_ReadEvent.pu_ {P : Program} {md : Region.Mode} {ops : Array Oper} {Q : Exit → Act → World → Prop} {S : World → Prop} {ds : List Nat} {fuel : Nat} {l : Array Bool} {a : Act} {w : World} {oi : Oper} {a' : Act} {v : Value} (i N : Nat) (l' : Array Bool) (hc : anyB md ops l l' i = true) (h : wpAnyLast P md ops Q S ds fuel l' a' w) (hi : ops[i]? = some oi := by rfl) (hN : oi.dst = some N := by rfl) (hQ : ∀ c a w, Q (.panic c) (a.put oi.dst v) w → Q (.panic c) a w := by exact fun _ _ _ h => h) (hy : Yields P ops oi v a := by exact Or.inl ⟨by rfl, by intro w'; go_simp; with_reducible rfl⟩) (ha : a.put (some N) v = a' := by simp only [Act.put, List.setIfInBounds_toArray, List.set_cons_zero, List.set_cons_succ, i64_w, i32_w]; rfl) : wpAnyLast P md ops Q S ds (fuel + 1) l a w := pure_ l' hi hN hc hQ hy ha h
def impl_ReadEvent.j0 : Nat → ByteArray → List Int → Bool → Option (Int × Int × Int × Int × ByteArray × Int × Bool)
  | 0, _, _, _ => none
  | k + 1, x5, x7, x31 => if x31 = true then (some (0, 0, 0, 0, (⟨#[]⟩ : ByteArray), 0, false)) else (if 0 < (x7.length : Int) then (if 1 < (x7.length : Int) then (if 2 < (x7.length : Int) then (if 3 < (x7.length : Int) then (if 4 < (x7.length : Int) then ((impl_ValidEvent.f k (rd x7 0) (rd x7 1) (rd x7 2) (rd x7 3) x5 (rd x7 4)).bind fun t278 => (if t278 = true then (some (rd x7 0, rd x7 1, rd x7 2, rd x7 3, x5, rd x7 4, true)) else (some (0, 0, 0, 0, (⟨#[]⟩ : ByteArray), 0, false)))) else (none)) else (none)) else (none)) else (none)) else (none))
def impl_ReadEvent.f (k : Nat) (a0 : ByteArray) : Option (Int × Int × Int × Int × ByteArray × Int × Bool) := (strings_Cut.f a0 (⟨#[32]⟩ : ByteArray)).bind fun bt265 => ((impl_ReadList.f k bt265.1).bind fun bt268 => (if bt265.2.2 = true then (if bt268.2 = true then (impl_ReadEvent.j0 k bt265.2.1 bt268.1 ((bt268.1.length : Int) != 5)) else (impl_ReadEvent.j0 k bt265.2.1 bt268.1 true)) else (impl_ReadEvent.j0 k bt265.2.1 bt268.1 true)))
theorem impl_ReadEvent.mono_l : ∀ k, (∀ y0 y1 y2, LeO (impl_ReadEvent.j0 k y0 y1 y2) (impl_ReadEvent.j0 (k + 1) y0 y1 y2))
  | 0 => fun _ _ _ r h => by simp [impl_ReadEvent.j0] at h
  | k + 1 => by
    have ih0 := impl_ReadEvent.mono_l k
    · intro y0 y1 y2
      unfold impl_ReadEvent.j0
      repeat' first
      | (with_reducible exact ih0 _ _ _)
      | (with_reducible exact impl_ReadList.mono _ _)
      | (with_reducible exact impl_ValidEvent.mono _ _ _ _ _ _ _)
      | (with_reducible exact LeO.refl _)
      | (with_reducible exact LeO.none _)
      | (with_reducible refine LeO.ite ?_ ?_)
      | (with_reducible refine LeO.bind ?_ (fun _ => ?_))
      | exact ih0 _ _ _
      | exact impl_ReadList.mono _ _
      | exact impl_ValidEvent.mono _ _ _ _ _ _ _
      | exact LeO.none _
      | refine LeO.ite ?_ ?_
      | refine LeO.bind ?_ (fun _ => ?_)
theorem impl_ReadEvent.mono : ∀ a0 k, LeO (impl_ReadEvent.f k a0) (impl_ReadEvent.f (k + 1) a0) := by
  intro a0 k
  have ih0 := impl_ReadEvent.mono_l k
  unfold impl_ReadEvent.f
  repeat' first
      | (with_reducible exact ih0 _ _ _)
      | (with_reducible exact impl_ReadList.mono _ _)
      | (with_reducible exact impl_ValidEvent.mono _ _ _ _ _ _ _)
      | (with_reducible exact LeO.refl _)
      | (with_reducible exact LeO.none _)
      | (with_reducible refine LeO.ite ?_ ?_)
      | (with_reducible refine LeO.bind ?_ (fun _ => ?_))
      | exact ih0 _ _ _
      | exact impl_ReadList.mono _ _
      | exact impl_ValidEvent.mono _ _ _ _ _ _ _
      | exact LeO.none _
      | refine LeO.ite ?_ ?_
      | refine LeO.bind ?_ (fun _ => ?_)
def impl_ReadEvent.T5 : Bool × List (List Nat × List Nat) := (true, [([], []), ([0], [0]), ([1], [1]), ([], []), ([3], [3]), ([4], [4]), ([], []), ([6], [6]), ([7], [7]), ([], []), ([9], [9]), ([10], [10]), ([], []), ([], []), ([13], [13]), ([14], [14]), ([2, 5, 8, 11, 12, 15], [2, 5, 8, 11, 12, 15]), ([], []), ([17, 16, 0, 1, 2, 3, 4, 5, 6, 7, 8, 9, 10, 11, 12, 13, 14, 15, 16, 17], [16, 17])])
def impl_ReadEvent.B5 : List Nat := [0, 1, 3, 0, 8, 24, 0, 64, 192, 0, 512, 1536, 0, 0, 8192, 24576, 65535, 0, 262143]
theorem impl_ReadEvent.tab5 : rtab .any (opsOf Tryd.f10 5) = impl_ReadEvent.T5 := by kernel_rfl
theorem impl_ReadEvent.bits5 : waitsOk impl_ReadEvent.T5.2 impl_ReadEvent.B5 = true := by kernel_rfl
set_option maxHeartbeats 8000000 in
set_option maxRecDepth 100000 in
theorem impl_ReadEvent.calls (k : Nat) (a0 : ByteArray) (r1 : Int) (r2 : Int) (r3 : Int) (r4 : Int) (r5 : ByteArray) (r6 : Int) (r7 : Bool) (w : World) (h : impl_ReadEvent.f k a0 = some (r1, r2, r3, r4, r5, r6, r7)) (hG : TG w) :
    Calls Tryd.prog 10 #[.string a0] w fun e w' => e = .returned (.tuple #[.agg #[.int .i64 r1, .int .i64 r2, .int .i64 r3, .int .i64 r4, .string r5, .int .i64 r6], .bool r7]) ∧ Below w.heap.size w w' := by
 have hu27 := Tryd.underlying27
 have HB := Aside0.mk (Below.refl w.heap.size w)
 have HTG := Aside0.mk hG
 clear hG
 have H : ((strings_Cut.f a0 (⟨#[32]⟩ : ByteArray)).bind fun bt265 => ((impl_ReadList.f k bt265.1).bind fun bt268 => (if bt265.2.2 = true then (if bt268.2 = true then (impl_ReadEvent.j0 k bt265.2.1 bt268.1 ((bt268.1.length : Int) != 5)) else (impl_ReadEvent.j0 k bt265.2.1 bt268.1 true)) else (impl_ReadEvent.j0 k bt265.2.1 bt268.1 true)))) = some (r1, r2, r3, r4, r5, r6, r7) := h
 clear h
 replace H := Option.bind_eq_some_iff.mp H
 obtain ⟨⟨t265, t266, t267⟩, A20, H⟩ := H
 replace H : ((impl_ReadList.f k t265).bind fun bt268 => (if t267 = true then (if bt268.2 = true then (impl_ReadEvent.j0 k t266 bt268.1 ((bt268.1.length : Int) != 5)) else (impl_ReadEvent.j0 k t266 bt268.1 true)) else (impl_ReadEvent.j0 k t266 bt268.1 true))) = some (r1, r2, r3, r4, r5, r6, r7) := H
 have A2 := Aside0.mk A20
 clear A20
 replace H := Option.bind_eq_some_iff.mp H
 obtain ⟨⟨t268, t269⟩, A30, H⟩ := H
 replace H : (if t267 = true then (if t269 = true then (impl_ReadEvent.j0 k t266 t268 ((t268.length : Int) != 5)) else (impl_ReadEvent.j0 k t266 t268 true)) else (impl_ReadEvent.j0 k t266 t268 true)) = some (r1, r2, r3, r4, r5, r6, r7) := H
 have A3 := Aside0.mk A30
 clear A30
 have HC4 := Aside0.mk H
 clear H
 go_enter Tryd.func10, Tryd.ntmps10
 go_upto_region 3 with (first | ((with_reducible refine gate_dst (N := 2) rfl ?_); (try (refine gate_guard (by rfl) ?_; dsimp only)); refine box_event ?hg (N := 2) ?hd (cs := #[.int .i64 0, .int .i64 0, .int .i64 0, .int .i64 0, .string (⟨#[]⟩ : ByteArray), .int .i64 0]) (t := 27) ?hr ?_; (case hd => rfl); (case hg => rfl); (case hr => first | (go_simp; done) | (go_simp; rfl)); intro gb264 hg w5 hbox hb; have GW264 := b6_ hg HB; have GE264 := b6_ hg HB; replace HB := Aside0.mk (below_step (y1_ HB.out) hb); have BK264 := Aside0.mk (hbox); clear hb hbox hg) | ((with_reducible refine gate_callee (f := 17) rfl ?_); refine goesL_ (some 12) rfl rfl Tryd.func17 s2_ rfl #[.string a0, .string (⟨#[32]⟩ : ByteArray)] rfl s3_ ?_; (with_reducible refine (strings_Cut.calls a0 (⟨#[32]⟩ : ByteArray) t265 t266 t267 _ A2.out (HTG.out.on (y1_ HB.out))).mono ?_); rintro e w6 ⟨rfl, hb⟩; refine ⟨_, rfl, ?_⟩; replace BK264 := b3_ BK264 hb; replace HB := Aside0.mk (below_step (y1_ HB.out) hb); (try clear hb); (try clear hb2); (try clear hk); (try clear hi)) | ((with_reducible refine gate_callee (f := 18) rfl ?_); refine goesL_ (some 18) rfl rfl Tryd.func18 s2_ rfl #[.string t265] rfl s3_ ?_; (with_reducible refine (impl_ReadList.calls k t265 t268 t269 _ A3.out (HTG.out.on (y1_ HB.out))).mono ?_); rintro e w7 ⟨v270, rfl, ho0, hb⟩; refine ⟨_, rfl, ?_⟩; have HO271 := Aside0.mk (Kd.R_lower ho0 (below_size (y1_ HB.out))); replace BK264 := b3_ BK264 hb; replace HB := Aside0.mk (below_step (y1_ HB.out) hb); (try clear hb); (try clear hb2); (try clear hk); (try clear hi); (try clear ho0)))
 (try simp only [Act.put, List.setIfInBounds_toArray, List.set_cons_zero, List.set_cons_succ])
 go_cut [31] (fun v31 wc => ∃ (kq : Nat) (x31_3 : Bool), v31 = .bool x31_3 ∧ Aside0 (impl_ReadEvent.j0 kq t266 t268 x31_3 = some (r1, r2, r3, r4, r5, r6, r7)) ∧ Aside0 (kq ≤ k) ∧ Aside0 (Kd.R (Kd.int .i64) 2 wc w.heap.size (fun _ => True) v270 t268) ∧ Aside0 (wc.heap[gb264]? = some (.cells #[.int .i64 0, .int .i64 0, .int .i64 0, .int .i64 0, .string (⟨#[]⟩ : ByteArray), .int .i64 0] 27 (0, 0))) ∧ Aside0 (Below w.heap.size w wc))
 case first =>
  skip
  {
 have H := HC4.out
 clear HC4
 by_cases c8 : t267 = true
 {
 subst c8
 have H1 : (if t269 = true then (impl_ReadEvent.j0 k t266 t268 ((t268.length : Int) != 5)) else (impl_ReadEvent.j0 k t266 t268 true)) = some (r1, r2, r3, r4, r5, r6, r7) := by rw [if_pos rfl] at H; exact H
 clear H
 have H := H1
 clear H1
 by_cases c9 : t269 = true
 {
 subst c9
 have H1 : (impl_ReadEvent.j0 k t266 t268 ((t268.length : Int) != 5)) = some (r1, r2, r3, r4, r5, r6, r7) := by rw [if_pos rfl] at H; exact H
 clear H
 have H := H1
 clear H1
 have H' := Aside0.mk H
 clear H
 obtain ⟨Ao10, co10, eo10⟩ := Kd.R_slice HO271.out
 subst eo10
 go_wp2
 go_meet
 case rel => exact ⟨_, (((t268.length : Int) != 5)), s1_, H', ⟨by first | omega | exact Nat.le_refl _⟩, ⟨b2_ HO271.out⟩, ⟨b1_ BK264.out⟩, ⟨by repeat (first | (with_reducible first | exact HB.out | apply below_alloc | apply pw_below_drewN | apply below_drew1) | exact HB.out)⟩⟩}
 {
 replace c9 := Bool.eq_false_iff.mpr c9
 subst c9
 have H1 : (impl_ReadEvent.j0 k t266 t268 true) = some (r1, r2, r3, r4, r5, r6, r7) := by rw [if_neg (show ¬ (false = true) by decide)] at H; exact H
 clear H
 have H := H1
 clear H1
 have H' := Aside0.mk H
 clear H
 go_wp2
 go_meet
 case rel => exact ⟨_, (true), s1_, H', ⟨by first | omega | exact Nat.le_refl _⟩, ⟨b2_ HO271.out⟩, ⟨b1_ BK264.out⟩, ⟨by repeat (first | (with_reducible first | exact HB.out | apply below_alloc | apply pw_below_drewN | apply below_drew1) | exact HB.out)⟩⟩}}
 {
 replace c8 := Bool.eq_false_iff.mpr c8
 subst c8
 have H1 : (impl_ReadEvent.j0 k t266 t268 true) = some (r1, r2, r3, r4, r5, r6, r7) := by rw [if_neg (show ¬ (false = true) by decide)] at H; exact H
 clear H
 have H := H1
 clear H1
 have H' := Aside0.mk H
 clear H
 go_wp2
 go_meet
 case rel => exact ⟨_, (true), s1_, H', ⟨by first | omega | exact Nat.le_refl _⟩, ⟨b2_ HO271.out⟩, ⟨b1_ BK264.out⟩, ⟨by repeat (first | (with_reducible first | exact HB.out | apply below_alloc | apply pw_below_drewN | apply below_drew1) | exact HB.out)⟩⟩}}
 case rest =>
  skip
  {
 clear HC4
 try clear c1
 try clear p2
 try clear c8
 try clear c9
 try clear c10
 obtain ⟨kq, x31_3, rfl, HA, HJ3, HO_7, BK264, HB⟩ := hcut
 cases kq with
 | zero => exact absurd HA.out (by simp [impl_ReadEvent.j0])
 | succ kj3 =>
  skip
  {
 have H := HA.out
 clear HA
 simp only [impl_ReadEvent.j0] at H
 by_cases c11 : x31_3 = true
 {
 subst c11
 have H1 : (some (0, 0, 0, 0, (⟨#[]⟩ : ByteArray), 0, false)) = some (r1, r2, r3, r4, r5, r6, r7) := by rw [if_pos rfl] at H; exact H
 clear H
 have H := H1
 clear H1
 simp only [Option.some.injEq, Prod.mk.injEq] at H
 obtain ⟨rfl, rfl, rfl, rfl, rfl, rfl, rfl⟩ := H
 have hcz12_0 := c1_ BK264 0 (.int .i64 0)
 have hcz12_1 := c1_ BK264 1 (.int .i64 0)
 have hcz12_2 := c1_ BK264 2 (.int .i64 0)
 have hcz12_3 := c1_ BK264 3 (.int .i64 0)
 have hcz12_4 := c1_ BK264 4 (.string (⟨#[]⟩ : ByteArray))
 have hcz12_5 := c1_ BK264 5 (.int .i64 0)
 have hfz12_0 := f1_ BK264 0
 have hfz12_1 := f1_ BK264 1
 have hfz12_2 := f1_ BK264 2
 have hfz12_3 := f1_ BK264 3
 have hfz12_4 := f1_ BK264 4
 have hfz12_5 := f1_ BK264 5
 go_wp2
 refine bodyPost_ret (results_ct rfl _ _ gb264 27 #[.int .i64 0, .int .i64 0, .int .i64 0, .int .i64 0, .string (⟨#[]⟩ : ByteArray), .int .i64 0] (0, 0) _ rfl (by (with_reducible repeat (first | refine blk_drewN ?_ _ | refine blk_drew ?_ | refine blk_alloc ?_ _)); refine blk_put3 (cs := #[.int .i64 0, .int .i64 0, .int .i64 0, .int .i64 0, .string (⟨#[]⟩ : ByteArray), .int .i64 0]) ?_ rfl; (with_reducible repeat (first | refine blk_drewN ?_ _ | refine blk_drew ?_ | refine blk_alloc ?_ _)); refine blk_put3 (cs := #[.int .i64 0, .int .i64 0, .int .i64 0, .int .i64 0, .string (⟨#[]⟩ : ByteArray), .int .i64 0]) ?_ rfl; (with_reducible repeat (first | refine blk_drewN ?_ _ | refine blk_drew ?_ | refine blk_alloc ?_ _)); exact BK264.out) Tryd.underlying27 rfl s2_) rfl ?_
 exact ⟨by first | rfl | (simp [errW_none, errW_some] <;> rfl) | (simp [*, errW_none, errW_some] <;> rfl), by repeat (first | (with_reducible first | exact HB.out | apply below_alloc | apply pw_below_drewN | apply below_drew1 | refine below_set ?_ GE264.out) | exact HB.out)⟩}
 {
 replace c11 := Bool.eq_false_iff.mpr c11
 subst c11
 have H1 : (if 0 < (t268.length : Int) then (if 1 < (t268.length : Int) then (if 2 < (t268.length : Int) then (if 3 < (t268.length : Int) then (if 4 < (t268.length : Int) then ((impl_ValidEvent.f kj3 (rd t268 0) (rd t268 1) (rd t268 2) (rd t268 3) t266 (rd t268 4)).bind fun t278 => (if t278 = true then (some (rd t268 0, rd t268 1, rd t268 2, rd t268 3, t266, rd t268 4, true)) else (some (0, 0, 0, 0, (⟨#[]⟩ : ByteArray), 0, false)))) else (none)) else (none)) else (none)) else (none)) else (none)) = some (r1, r2, r3, r4, r5, r6, r7) := by rw [if_neg (show ¬ (false = true) by decide)] at H; exact H
 clear H
 have H := H1
 clear H1
 by_cases c13 : 0 < (t268.length : Int)
 {
 rw [if_pos c13] at H
 have c13b0 : decide (0 < (t268.length : Int)) = true := decide_eq_true c13
 have c13b1 : decide (0 < t268.length) = true := decide_eq_true (by omega)
 clear c13
 by_cases c14 : 1 < (t268.length : Int)
 {
 rw [if_pos c14] at H
 have c14b0 : decide (1 < (t268.length : Int)) = true := decide_eq_true c14
 have c14b1 : decide (1 < t268.length) = true := decide_eq_true (by omega)
 clear c14
 by_cases c15 : 2 < (t268.length : Int)
 {
 rw [if_pos c15] at H
 have c15b0 : decide (2 < (t268.length : Int)) = true := decide_eq_true c15
 have c15b1 : decide (2 < t268.length) = true := decide_eq_true (by omega)
 clear c15
 by_cases c16 : 3 < (t268.length : Int)
 {
 rw [if_pos c16] at H
 have c16b0 : decide (3 < (t268.length : Int)) = true := decide_eq_true c16
 have c16b1 : decide (3 < t268.length) = true := decide_eq_true (by omega)
 clear c16
 by_cases c17 : 4 < (t268.length : Int)
 {
 rw [if_pos c17] at H
 have c17b0 : decide (4 < (t268.length : Int)) = true := decide_eq_true c17
 have c17b1 : decide (4 < t268.length) = true := decide_eq_true (by omega)
 clear c17
 replace H := Option.bind_eq_some_iff.mp H
 obtain ⟨t278, A180, H⟩ := H
 replace H : (if t278 = true then (some (rd t268 0, rd t268 1, rd t268 2, rd t268 3, t266, rd t268 4, true)) else (some (0, 0, 0, 0, (⟨#[]⟩ : ByteArray), 0, false))) = some (r1, r2, r3, r4, r5, r6, r7) := H
 have A18 := Aside0.mk A180
 clear A180
 by_cases c19 : t278 = true
 {
 subst c19
 have H1 : (some (rd t268 0, rd t268 1, rd t268 2, rd t268 3, t266, rd t268 4, true)) = some (r1, r2, r3, r4, r5, r6, r7) := by rw [if_pos rfl] at H; exact H
 clear H
 have H := H1
 clear H1
 simp only [Option.some.injEq, Prod.mk.injEq] at H
 obtain ⟨rfl, rfl, rfl, rfl, rfl, rfl, rfl⟩ := H
 try go_wp2
 replace HO_7 := Aside0.mk (Kd.R_drew HO_7.out)
 replace BK264 := Aside0.mk (blk_drew BK264.out)
 replace HB := Aside0.mk (below_drew1 HB.out)
 obtain ⟨Ao21, co21, eo21⟩ := Kd.R_slice HO_7.out
 (first | subst eo21 | (injection eo21 with f1_ f2_ f3_; have f4_ := f1_.symm; have f5_ := f3_.symm; clear f1_ f2_ f3_; subst f4_; subst f5_))
 have p272 : 0 ≤ (0 : Int) := (by omega)
 have q272 : 0 < (t268.length : Int) := of_decide_eq_true (by first | (with_reducible assumption) | assumption)
 obtain ⟨ad272, e272, hx272_0⟩ := Kd.at_int (Kd.R_reads' HO_7.out).2.2 0 p272 q272
 cases e272
 have qi272 : (0 < t268.length) = True := eq_true (by omega)
 (try rw [show ((0 : Int)).toNat = 0 from rfl] at hx272_0)
 (try rw [Addr.add_zero'] at hx272_0)
 replace p272 := eq_true p272
 replace q272 := eq_true q272
 have p273 : 0 ≤ (1 : Int) := (by omega)
 have q273 : 1 < (t268.length : Int) := of_decide_eq_true (by first | (with_reducible assumption) | assumption)
 obtain ⟨ad273, e273, hx273_0⟩ := Kd.at_int (Kd.R_reads' HO_7.out).2.2 1 p273 q273
 obtain rfl : ad272 = ad273 := (by injection e273)
 (try simp only [show (1 : Int).toNat = 1 from rfl, Nat.reduceMul, Nat.reduceEqDiff, Go.Addr.add, ↓reduceIte] at hx273_0)
 have qi273 : (1 < t268.length) = True := eq_true (by omega)
 (try rw [show ((1 : Int)).toNat = 1 from rfl] at hx273_0)
 replace p273 := eq_true p273
 replace q273 := eq_true q273
 have p274 : 0 ≤ (2 : Int) := (by omega)
 have q274 : 2 < (t268.length : Int) := of_decide_eq_true (by first | (with_reducible assumption) | assumption)
 obtain ⟨ad274, e274, hx274_0⟩ := Kd.at_int (Kd.R_reads' HO_7.out).2.2 2 p274 q274
 obtain rfl : ad272 = ad274 := (by injection e274)
 (try simp only [show (2 : Int).toNat = 2 from rfl, Nat.reduceMul, Nat.reduceEqDiff, Go.Addr.add, ↓reduceIte] at hx274_0)
 have qi274 : (2 < t268.length) = True := eq_true (by omega)
 (try rw [show ((2 : Int)).toNat = 2 from rfl] at hx274_0)
 replace p274 := eq_true p274
 replace q274 := eq_true q274
 have p275 : 0 ≤ (3 : Int) := (by omega)
 have q275 : 3 < (t268.length : Int) := of_decide_eq_true (by first | (with_reducible assumption) | assumption)
 obtain ⟨ad275, e275, hx275_0⟩ := Kd.at_int (Kd.R_reads' HO_7.out).2.2 3 p275 q275
 obtain rfl : ad272 = ad275 := (by injection e275)
 (try simp only [show (3 : Int).toNat = 3 from rfl, Nat.reduceMul, Nat.reduceEqDiff, Go.Addr.add, ↓reduceIte] at hx275_0)
 have qi275 : (3 < t268.length) = True := eq_true (by omega)
 (try rw [show ((3 : Int)).toNat = 3 from rfl] at hx275_0)
 replace p275 := eq_true p275
 replace q275 := eq_true q275
 have p276 : 0 ≤ (4 : Int) := (by omega)
 have q276 : 4 < (t268.length : Int) := of_decide_eq_true (by first | (with_reducible assumption) | assumption)
 obtain ⟨ad276, e276, hx276_0⟩ := Kd.at_int (Kd.R_reads' HO_7.out).2.2 4 p276 q276
 obtain rfl : ad272 = ad276 := (by injection e276)
 (try simp only [show (4 : Int).toNat = 4 from rfl, Nat.reduceMul, Nat.reduceEqDiff, Go.Addr.add, ↓reduceIte] at hx276_0)
 have qi276 : (4 < t268.length) = True := eq_true (by omega)
 (try rw [show ((4 : Int)).toNat = 4 from rfl] at hx276_0)
 replace p276 := eq_true p276
 replace q276 := eq_true q276
 refine start_ (n := 19) (S := fun w' => w'.cell? ad272 = some (.int .i64 (rd t268 0)) ∧ w'.cell? ⟨ad272.block, ad272.off + 1, none⟩ = some (.int .i64 (rd t268 1)) ∧ w'.cell? ⟨ad272.block, ad272.off + 2, none⟩ = some (.int .i64 (rd t268 2)) ∧ w'.cell? ⟨ad272.block, ad272.off + 3, none⟩ = some (.int .i64 (rd t268 3)) ∧ w'.cell? ⟨ad272.block, ad272.off + 4, none⟩ = some (.int .i64 (rd t268 4))) (ds := []) m0_ s2_ rfl rfl ⟨hx272_0, hx273_0, hx274_0, hx275_0, hx276_0⟩ (fun hHeld => ?_); refine with_tabW impl_ReadEvent.tab5 impl_ReadEvent.bits5 (fun HT_ HW_ => ?_)
 generalize wc.drew = w20 at HO_7 BK264 HB hx272_0 hx273_0 hx274_0 hx275_0 hx276_0 hHeld ⊢
 refine pu_ 0 33 m1_ (any_of HT_.out s2_) ?_
 refine pu_ 1 34 m2_ (any_of HT_.out s2_) ?_
 refine pu_ 3 36 m3_ (any_of HT_.out s2_) ?_
 refine pu_ 4 37 m4_ (any_of HT_.out s2_) ?_
 refine pu_ 6 39 m5_ (any_of HT_.out s2_) ?_
 refine pu_ 7 40 m6_ (any_of HT_.out s2_) ?_
 refine pu_ 9 42 m7_ (any_of HT_.out s2_) ?_
 refine pu_ 10 43 m8_ (any_of HT_.out s2_) ?_
 refine pu_ 12 45 m9_ (any_of HT_.out s2_) ?_
 refine pu_ 13 46 m10_ (any_of HT_.out s2_) ?_
 refine pu_ 14 47 m11_ (any_of HT_.out s2_) ?_
 refine take_ (i := 2) (N := some 35) (v := ?_) (a' := ?_) m12_ rfl rfl (take_ofW HT_.out HW_.out s2_) (fun _ _ _ h => h) (Or.inl ⟨by rfl, ?_⟩) hHeld ?_ ?_
 rotate_left
 {
 rintro w' ⟨s0, s1, s2, s3, s4⟩
 go_simp
 with_reducible rfl}
 rotate_left
 · exact p1_
 refine take_ (i := 5) (N := some 38) (v := ?_) (a' := ?_) m13_ rfl rfl (take_ofW HT_.out HW_.out s2_) (fun _ _ _ h => h) (Or.inl ⟨by rfl, ?_⟩) hHeld ?_ ?_
 rotate_left
 {
 rintro w' ⟨s0, s1, s2, s3, s4⟩
 go_simp
 with_reducible rfl}
 rotate_left
 · exact p1_
 refine take_ (i := 8) (N := some 41) (v := ?_) (a' := ?_) m14_ rfl rfl (take_ofW HT_.out HW_.out s2_) (fun _ _ _ h => h) (Or.inl ⟨by rfl, ?_⟩) hHeld ?_ ?_
 rotate_left
 {
 rintro w' ⟨s0, s1, s2, s3, s4⟩
 go_simp
 with_reducible rfl}
 rotate_left
 · exact p1_
 refine take_ (i := 11) (N := some 44) (v := ?_) (a' := ?_) m15_ rfl rfl (take_ofW HT_.out HW_.out s2_) (fun _ _ _ h => h) (Or.inl ⟨by rfl, ?_⟩) hHeld ?_ ?_
 rotate_left
 {
 rintro w' ⟨s0, s1, s2, s3, s4⟩
 go_simp
 with_reducible rfl}
 rotate_left
 · exact p1_
 refine take_ (i := 15) (N := some 48) (v := ?_) (a' := ?_) m16_ rfl rfl (take_ofW HT_.out HW_.out s2_) (fun _ _ _ h => h) (Or.inl ⟨by rfl, ?_⟩) hHeld ?_ ?_
 rotate_left
 {
 rintro w' ⟨s0, s1, s2, s3, s4⟩
 go_simp
 with_reducible rfl}
 rotate_left
 · exact p1_
 refine pu_ 16 49 m17_ (any_of HT_.out s2_) ?_
 refine one_ (i := 17) (N := some 9) m18_ rfl rfl (one_of HT_.out s2_) (by decide) (fun K hK => ?_)
 refine box_step ?hg (N := 9) ?hd (cs := #[.int .i64 0, .int .i64 0, .int .i64 0, .int .i64 0, .string (⟨#[]⟩ : ByteArray), .int .i64 0]) (t := 27) ?hr ?_; (case hd => rfl); (case hg => rfl); (case hr => first | (go_simp; done) | (go_simp; rfl))
 intro gb277 hg w22 hbox hb
 have HS0_ := (hb.cell (World.block_lt_of_cell? _ _ (hHeld.1))).trans (hHeld.1)
 have HS1_ := (hb.cell (World.block_lt_of_cell? _ _ (hHeld.2.1))).trans (hHeld.2.1)
 have HS2_ := (hb.cell (World.block_lt_of_cell? _ _ (hHeld.2.2.1))).trans (hHeld.2.2.1)
 have HS3_ := (hb.cell (World.block_lt_of_cell? _ _ (hHeld.2.2.2.1))).trans (hHeld.2.2.2.1)
 have HS4_ := (hb.cell (World.block_lt_of_cell? _ _ (hHeld.2.2.2.2))).trans (hHeld.2.2.2.2)
 have GW277 := b6_ hg HB
 have GE277 := b6_ hg HB
 have NB264_277 := b4_ hg BK264
 have NB277_264 := b5_ hg BK264
 replace HO_7 := Aside0.mk (Kd.R_below (b2_ HO_7.out) hb)
 replace BK264 := b3_ BK264 hb
 replace HB := Aside0.mk (below_step (y1_ HB.out) hb)
 have BK277 := Aside0.mk (hbox)
 clear hb hbox hg
 refine hK.out _ _ ⟨HS0_, HS1_, HS2_, HS3_, HS4_⟩ (fun hHeld => ?_)
 clear hK K
 refine norm_ (a' := ?_) ?_ ?_
 rotate_left
 {
 show Act.put _ (some 9) _ = _
 simp only [Act.put, List.setIfInBounds_toArray, List.set_cons_zero, List.set_cons_succ, i64_w, i32_w]
 rfl}
 refine one_ (i := 18) (N := none) m19_ rfl rfl (one_of HT_.out s2_) (by decide) (fun K hK => ?_)
 have hs23 : w22.cell? ⟨gb277, 0, none⟩ = some (.int .i64 0) := (blk_cell BK277.out 0).trans rfl
 have hfs23 := blk_frozen BK277.out 0
 have hns23_0 := NB264_277.out
 have hms23_0 := NB277_264.out
 have hs24 : w22.cell? ⟨gb277, 1, none⟩ = some (.int .i64 0) := (blk_cell BK277.out 1).trans rfl
 have hfs24 := blk_frozen BK277.out 1
 have hns24_0 := NB264_277.out
 have hms24_0 := NB277_264.out
 have hs25 : w22.cell? ⟨gb277, 2, none⟩ = some (.int .i64 0) := (blk_cell BK277.out 2).trans rfl
 have hfs25 := blk_frozen BK277.out 2
 have hns25_0 := NB264_277.out
 have hms25_0 := NB277_264.out
 have hs26 : w22.cell? ⟨gb277, 3, none⟩ = some (.int .i64 0) := (blk_cell BK277.out 3).trans rfl
 have hfs26 := blk_frozen BK277.out 3
 have hns26_0 := NB264_277.out
 have hms26_0 := NB277_264.out
 have hs27 : w22.cell? ⟨gb277, 4, none⟩ = some (.string (⟨#[]⟩ : ByteArray)) := (blk_cell BK277.out 4).trans rfl
 have hfs27 := blk_frozen BK277.out 4
 have hns27_0 := NB264_277.out
 have hms27_0 := NB277_264.out
 have hs28 : w22.cell? ⟨gb277, 5, none⟩ = some (.int .i64 0) := (blk_cell BK277.out 5).trans rfl
 have hfs28 := blk_frozen BK277.out 5
 have hns28_0 := NB264_277.out
 have hms28_0 := NB277_264.out
 refine skip_ (w1 := ?_) (by rfl) rfl ?_ ?_
 rotate_left
 {
 go_simp
 rfl}
 have hne_ : ad272.block ≠ gb277 := Kd.own_blk (Kd.R_ne HO_7.out BK277.out (by decide))
 have st_ : ∀ (w_ : World) (i_ : Nat) (v_ : Value) (a_ : Addr) (u_ : Value), a_.block = ad272.block → w_.cell? a_ = some u_ → (w_.setCell ⟨gb277, i_, none⟩ v_).cell? a_ = some u_ := fun w_ i_ v_ a_ u_ ha_ h_ => (cell_far (p := ⟨gb277, i_, none⟩) (by rw [ha_]; exact hne_) v_).trans h_
 refine hK.out _ _ ⟨(st_ _ _ _ _ _ rfl (st_ _ _ _ _ _ rfl (st_ _ _ _ _ _ rfl (st_ _ _ _ _ _ rfl (st_ _ _ _ _ _ rfl (st_ _ _ _ _ _ rfl hHeld.1)))))), (st_ _ _ _ _ _ rfl (st_ _ _ _ _ _ rfl (st_ _ _ _ _ _ rfl (st_ _ _ _ _ _ rfl (st_ _ _ _ _ _ rfl (st_ _ _ _ _ _ rfl hHeld.2.1)))))), (st_ _ _ _ _ _ rfl (st_ _ _ _ _ _ rfl (st_ _ _ _ _ _ rfl (st_ _ _ _ _ _ rfl (st_ _ _ _ _ _ rfl (st_ _ _ _ _ _ rfl hHeld.2.2.1)))))), (st_ _ _ _ _ _ rfl (st_ _ _ _ _ _ rfl (st_ _ _ _ _ _ rfl (st_ _ _ _ _ _ rfl (st_ _ _ _ _ _ rfl (st_ _ _ _ _ _ rfl hHeld.2.2.2.1)))))), (st_ _ _ _ _ _ rfl (st_ _ _ _ _ _ rfl (st_ _ _ _ _ _ rfl (st_ _ _ _ _ _ rfl (st_ _ _ _ _ _ rfl (st_ _ _ _ _ _ rfl hHeld.2.2.2.2))))))⟩ (fun hHeld => ?_)
 clear hK K
 refine done_ (done_of HT_.out s2_) ?_
 have hnb29 := NB277_264.out
 have hnc29 := NB264_277.out
 have hcz30_0 := c1_ BK277 0 (.int .i64 0)
 have hcz30_1 := c1_ BK277 1 (.int .i64 0)
 have hcz30_2 := c1_ BK277 2 (.int .i64 0)
 have hcz30_3 := c1_ BK277 3 (.int .i64 0)
 have hcz30_4 := c1_ BK277 4 (.string (⟨#[]⟩ : ByteArray))
 have hcz30_5 := c1_ BK277 5 (.int .i64 0)
 have hfz30_0 := f1_ BK277 0
 have hfz30_1 := f1_ BK277 1
 have hfz30_2 := f1_ BK277 2
 have hfz30_3 := f1_ BK277 3
 have hfz30_4 := f1_ BK277 4
 have hfz30_5 := f1_ BK277 5
 try go_wp2_with (first | ((with_reducible refine gate_callee (f := 14) rfl ?_); refine goesL_ (some 51) rfl rfl Tryd.func14 s2_ rfl #[.agg #[.int .i64 (rd t268 0), .int .i64 (rd t268 1), .int .i64 (rd t268 2), .int .i64 (rd t268 3), .string t266, .int .i64 (rd t268 4)]] rfl s3_ ?_; (with_reducible refine (impl_ValidEvent.calls kj3 (rd t268 0) (rd t268 1) (rd t268 2) (rd t268 3) t266 (rd t268 4) true _ A18.out).mono ?_); rintro e w31 ⟨rfl, hb⟩; refine ⟨_, rfl, ?_⟩; replace HO_7 := Aside0.mk (Kd.R_below (by (with_reducible repeat (first | apply Kd.R_alloc | apply Kd.R_drewN | apply Kd.R_drew)); exact (Kd.R_mono (Kd.R_far3 (g := gb277) (Kd.R_far3 (g := gb277) (Kd.R_types HO_7.out BK277.out (by decide)) (fun _ hk => hk.2)) (fun _ hk => hk.2)) (fun _ h_ => h_.1))) hb); replace BK264 := Aside0.mk (blk_below (g := gb264) (o := .cells #[.int .i64 0, .int .i64 0, .int .i64 0, .int .i64 0, .string (⟨#[]⟩ : ByteArray), .int .i64 0] 27 (0, 0)) (by (with_reducible repeat (first | refine blk_drewN ?_ _ | refine blk_drew ?_ | refine blk_alloc ?_ _)); refine blk_far3 ?_ NB264_277.out; (with_reducible repeat (first | refine blk_drewN ?_ _ | refine blk_drew ?_ | refine blk_alloc ?_ _)); refine blk_far3 ?_ NB264_277.out; (with_reducible repeat (first | refine blk_drewN ?_ _ | refine blk_drew ?_ | refine blk_alloc ?_ _)); exact BK264.out) hb); replace BK277 := Aside0.mk (blk_below (g := gb277) (o := .cells #[.int .i64 (rd t268 0), .int .i64 (rd t268 1), .int .i64 (rd t268 2), .int .i64 (rd t268 3), .string t266, .int .i64 (rd t268 4)] 27 (0, 0)) (by (with_reducible repeat (first | refine blk_drewN ?_ _ | refine blk_drew ?_ | refine blk_alloc ?_ _)); refine blk_put3 (cs := #[.int .i64 (rd t268 0), .int .i64 (rd t268 1), .int .i64 (rd t268 2), .int .i64 0, .string (⟨#[]⟩ : ByteArray), .int .i64 0]) ?_ rfl; (with_reducible repeat (first | refine blk_drewN ?_ _ | refine blk_drew ?_ | refine blk_alloc ?_ _)); refine blk_put3 (cs := #[.int .i64 0, .int .i64 0, .int .i64 0, .int .i64 0, .string (⟨#[]⟩ : ByteArray), .int .i64 0]) ?_ rfl; (with_reducible repeat (first | refine blk_drewN ?_ _ | refine blk_drew ?_ | refine blk_alloc ?_ _)); exact BK277.out) hb); replace HB := Aside0.mk (below_step (by repeat (first | (with_reducible first | exact HB.out | apply below_alloc | apply pw_below_drewN | apply below_drew1 | refine below_set ?_ GE277.out) | exact HB.out)) hb); (try clear hb); (try clear hb2); (try clear hk); (try clear hi); have hcz32_0 := c1_ BK277 0 (.int .i64 (rd t268 0)); have hcz32_1 := c1_ BK277 1 (.int .i64 (rd t268 1)); have hcz32_2 := c1_ BK277 2 (.int .i64 (rd t268 2)); have hcz32_3 := c1_ BK277 3 (.int .i64 (rd t268 3)); have hcz32_4 := c1_ BK277 4 (.string t266); have hcz32_5 := c1_ BK277 5 (.int .i64 (rd t268 4)); have hfz32_0 := f1_ BK277 0; have hfz32_1 := f1_ BK277 1; have hfz32_2 := f1_ BK277 2; have hfz32_3 := f1_ BK277 3; have hfz32_4 := f1_ BK277 4; have hfz32_5 := f1_ BK277 5; have hcz33_0 := c1_ BK264 0 (.int .i64 0); have hcz33_1 := c1_ BK264 1 (.int .i64 0); have hcz33_2 := c1_ BK264 2 (.int .i64 0); have hcz33_3 := c1_ BK264 3 (.int .i64 0); have hcz33_4 := c1_ BK264 4 (.string (⟨#[]⟩ : ByteArray)); have hcz33_5 := c1_ BK264 5 (.int .i64 0); have hfz33_0 := f1_ BK264 0; have hfz33_1 := f1_ BK264 1; have hfz33_2 := f1_ BK264 2; have hfz33_3 := f1_ BK264 3; have hfz33_4 := f1_ BK264 4; have hfz33_5 := f1_ BK264 5))
 refine bodyPost_ret (results_ct rfl _ _ gb264 27 #[.int .i64 (rd t268 0), .int .i64 (rd t268 1), .int .i64 (rd t268 2), .int .i64 (rd t268 3), .string t266, .int .i64 (rd t268 4)] (0, 0) _ rfl (by (with_reducible repeat (first | refine blk_drewN ?_ _ | refine blk_drew ?_ | refine blk_alloc ?_ _)); refine blk_put3 (cs := #[.int .i64 (rd t268 0), .int .i64 (rd t268 1), .int .i64 (rd t268 2), .int .i64 0, .string (⟨#[]⟩ : ByteArray), .int .i64 0]) ?_ rfl; (with_reducible repeat (first | refine blk_drewN ?_ _ | refine blk_drew ?_ | refine blk_alloc ?_ _)); refine blk_put3 (cs := #[.int .i64 0, .int .i64 0, .int .i64 0, .int .i64 0, .string (⟨#[]⟩ : ByteArray), .int .i64 0]) ?_ rfl; (with_reducible repeat (first | refine blk_drewN ?_ _ | refine blk_drew ?_ | refine blk_alloc ?_ _)); exact BK264.out) Tryd.underlying27 rfl s2_) rfl ?_
 exact ⟨by first | rfl | (simp [errW_none, errW_some] <;> rfl) | (simp [*, errW_none, errW_some] <;> rfl), by repeat (first | (with_reducible first | exact HB.out | apply below_alloc | apply pw_below_drewN | apply below_drew1 | refine below_set ?_ GE264.out) | exact HB.out)⟩}
 {
 replace c19 := Bool.eq_false_iff.mpr c19
 subst c19
 have H1 : (some (0, 0, 0, 0, (⟨#[]⟩ : ByteArray), 0, false)) = some (r1, r2, r3, r4, r5, r6, r7) := by rw [if_neg (show ¬ (false = true) by decide)] at H; exact H
 clear H
 have H := H1
 clear H1
 simp only [Option.some.injEq, Prod.mk.injEq] at H
 obtain ⟨rfl, rfl, rfl, rfl, rfl, rfl, rfl⟩ := H
 try go_wp2
 replace HO_7 := Aside0.mk (Kd.R_drew HO_7.out)
 replace BK264 := Aside0.mk (blk_drew BK264.out)
 replace HB := Aside0.mk (below_drew1 HB.out)
 obtain ⟨Ao35, co35, eo35⟩ := Kd.R_slice HO_7.out
 (first | subst eo35 | (injection eo35 with f1_ f2_ f3_; have f4_ := f1_.symm; have f5_ := f3_.symm; clear f1_ f2_ f3_; subst f4_; subst f5_))
 have p272 : 0 ≤ (0 : Int) := (by omega)
 have q272 : 0 < (t268.length : Int) := of_decide_eq_true (by first | (with_reducible assumption) | assumption)
 obtain ⟨ad272, e272, hx272_0⟩ := Kd.at_int (Kd.R_reads' HO_7.out).2.2 0 p272 q272
 cases e272
 have qi272 : (0 < t268.length) = True := eq_true (by omega)
 (try rw [show ((0 : Int)).toNat = 0 from rfl] at hx272_0)
 (try rw [Addr.add_zero'] at hx272_0)
 replace p272 := eq_true p272
 replace q272 := eq_true q272
 have p273 : 0 ≤ (1 : Int) := (by omega)
 have q273 : 1 < (t268.length : Int) := of_decide_eq_true (by first | (with_reducible assumption) | assumption)
 obtain ⟨ad273, e273, hx273_0⟩ := Kd.at_int (Kd.R_reads' HO_7.out).2.2 1 p273 q273
 obtain rfl : ad272 = ad273 := (by injection e273)
 (try simp only [show (1 : Int).toNat = 1 from rfl, Nat.reduceMul, Nat.reduceEqDiff, Go.Addr.add, ↓reduceIte] at hx273_0)
 have qi273 : (1 < t268.length) = True := eq_true (by omega)
 (try rw [show ((1 : Int)).toNat = 1 from rfl] at hx273_0)
 replace p273 := eq_true p273
 replace q273 := eq_true q273
 have p274 : 0 ≤ (2 : Int) := (by omega)
 have q274 : 2 < (t268.length : Int) := of_decide_eq_true (by first | (with_reducible assumption) | assumption)
 obtain ⟨ad274, e274, hx274_0⟩ := Kd.at_int (Kd.R_reads' HO_7.out).2.2 2 p274 q274
 obtain rfl : ad272 = ad274 := (by injection e274)
 (try simp only [show (2 : Int).toNat = 2 from rfl, Nat.reduceMul, Nat.reduceEqDiff, Go.Addr.add, ↓reduceIte] at hx274_0)
 have qi274 : (2 < t268.length) = True := eq_true (by omega)
 (try rw [show ((2 : Int)).toNat = 2 from rfl] at hx274_0)
 replace p274 := eq_true p274
 replace q274 := eq_true q274
 have p275 : 0 ≤ (3 : Int) := (by omega)
 have q275 : 3 < (t268.length : Int) := of_decide_eq_true (by first | (with_reducible assumption) | assumption)
 obtain ⟨ad275, e275, hx275_0⟩ := Kd.at_int (Kd.R_reads' HO_7.out).2.2 3 p275 q275
 obtain rfl : ad272 = ad275 := (by injection e275)
 (try simp only [show (3 : Int).toNat = 3 from rfl, Nat.reduceMul, Nat.reduceEqDiff, Go.Addr.add, ↓reduceIte] at hx275_0)
 have qi275 : (3 < t268.length) = True := eq_true (by omega)
 (try rw [show ((3 : Int)).toNat = 3 from rfl] at hx275_0)
 replace p275 := eq_true p275
 replace q275 := eq_true q275
 have p276 : 0 ≤ (4 : Int) := (by omega)
 have q276 : 4 < (t268.length : Int) := of_decide_eq_true (by first | (with_reducible assumption) | assumption)
 obtain ⟨ad276, e276, hx276_0⟩ := Kd.at_int (Kd.R_reads' HO_7.out).2.2 4 p276 q276
 obtain rfl : ad272 = ad276 := (by injection e276)
 (try simp only [show (4 : Int).toNat = 4 from rfl, Nat.reduceMul, Nat.reduceEqDiff, Go.Addr.add, ↓reduceIte] at hx276_0)
 have qi276 : (4 < t268.length) = True := eq_true (by omega)
 (try rw [show ((4 : Int)).toNat = 4 from rfl] at hx276_0)
 replace p276 := eq_true p276
 replace q276 := eq_true q276
 refine start_ (n := 19) (S := fun w' => w'.cell? ad272 = some (.int .i64 (rd t268 0)) ∧ w'.cell? ⟨ad272.block, ad272.off + 1, none⟩ = some (.int .i64 (rd t268 1)) ∧ w'.cell? ⟨ad272.block, ad272.off + 2, none⟩ = some (.int .i64 (rd t268 2)) ∧ w'.cell? ⟨ad272.block, ad272.off + 3, none⟩ = some (.int .i64 (rd t268 3)) ∧ w'.cell? ⟨ad272.block, ad272.off + 4, none⟩ = some (.int .i64 (rd t268 4))) (ds := []) m0_ s2_ rfl rfl ⟨hx272_0, hx273_0, hx274_0, hx275_0, hx276_0⟩ (fun hHeld => ?_); refine with_tabW impl_ReadEvent.tab5 impl_ReadEvent.bits5 (fun HT_ HW_ => ?_)
 generalize wc.drew = w34 at HO_7 BK264 HB hx272_0 hx273_0 hx274_0 hx275_0 hx276_0 hHeld ⊢
 refine pu_ 0 33 m1_ (any_of HT_.out s2_) ?_
 refine pu_ 1 34 m2_ (any_of HT_.out s2_) ?_
 refine pu_ 3 36 m3_ (any_of HT_.out s2_) ?_
 refine pu_ 4 37 m4_ (any_of HT_.out s2_) ?_
 refine pu_ 6 39 m5_ (any_of HT_.out s2_) ?_
 refine pu_ 7 40 m6_ (any_of HT_.out s2_) ?_
 refine pu_ 9 42 m7_ (any_of HT_.out s2_) ?_
 refine pu_ 10 43 m8_ (any_of HT_.out s2_) ?_
 refine pu_ 12 45 m9_ (any_of HT_.out s2_) ?_
 refine pu_ 13 46 m10_ (any_of HT_.out s2_) ?_
 refine pu_ 14 47 m11_ (any_of HT_.out s2_) ?_
 refine take_ (i := 2) (N := some 35) (v := ?_) (a' := ?_) m12_ rfl rfl (take_ofW HT_.out HW_.out s2_) (fun _ _ _ h => h) (Or.inl ⟨by rfl, ?_⟩) hHeld ?_ ?_
 rotate_left
 {
 rintro w' ⟨s0, s1, s2, s3, s4⟩
 go_simp
 with_reducible rfl}
 rotate_left
 · exact p1_
 refine take_ (i := 5) (N := some 38) (v := ?_) (a' := ?_) m13_ rfl rfl (take_ofW HT_.out HW_.out s2_) (fun _ _ _ h => h) (Or.inl ⟨by rfl, ?_⟩) hHeld ?_ ?_
 rotate_left
 {
 rintro w' ⟨s0, s1, s2, s3, s4⟩
 go_simp
 with_reducible rfl}
 rotate_left
 · exact p1_
 refine take_ (i := 8) (N := some 41) (v := ?_) (a' := ?_) m14_ rfl rfl (take_ofW HT_.out HW_.out s2_) (fun _ _ _ h => h) (Or.inl ⟨by rfl, ?_⟩) hHeld ?_ ?_
 rotate_left
 {
 rintro w' ⟨s0, s1, s2, s3, s4⟩
 go_simp
 with_reducible rfl}
 rotate_left
 · exact p1_
 refine take_ (i := 11) (N := some 44) (v := ?_) (a' := ?_) m15_ rfl rfl (take_ofW HT_.out HW_.out s2_) (fun _ _ _ h => h) (Or.inl ⟨by rfl, ?_⟩) hHeld ?_ ?_
 rotate_left
 {
 rintro w' ⟨s0, s1, s2, s3, s4⟩
 go_simp
 with_reducible rfl}
 rotate_left
 · exact p1_
 refine take_ (i := 15) (N := some 48) (v := ?_) (a' := ?_) m16_ rfl rfl (take_ofW HT_.out HW_.out s2_) (fun _ _ _ h => h) (Or.inl ⟨by rfl, ?_⟩) hHeld ?_ ?_
 rotate_left
 {
 rintro w' ⟨s0, s1, s2, s3, s4⟩
 go_simp
 with_reducible rfl}
 rotate_left
 · exact p1_
 refine pu_ 16 49 m17_ (any_of HT_.out s2_) ?_
 refine one_ (i := 17) (N := some 9) m18_ rfl rfl (one_of HT_.out s2_) (by decide) (fun K hK => ?_)
 refine box_step ?hg (N := 9) ?hd (cs := #[.int .i64 0, .int .i64 0, .int .i64 0, .int .i64 0, .string (⟨#[]⟩ : ByteArray), .int .i64 0]) (t := 27) ?hr ?_; (case hd => rfl); (case hg => rfl); (case hr => first | (go_simp; done) | (go_simp; rfl))
 intro gb277 hg w36 hbox hb
 have HS0_ := (hb.cell (World.block_lt_of_cell? _ _ (hHeld.1))).trans (hHeld.1)
 have HS1_ := (hb.cell (World.block_lt_of_cell? _ _ (hHeld.2.1))).trans (hHeld.2.1)
 have HS2_ := (hb.cell (World.block_lt_of_cell? _ _ (hHeld.2.2.1))).trans (hHeld.2.2.1)
 have HS3_ := (hb.cell (World.block_lt_of_cell? _ _ (hHeld.2.2.2.1))).trans (hHeld.2.2.2.1)
 have HS4_ := (hb.cell (World.block_lt_of_cell? _ _ (hHeld.2.2.2.2))).trans (hHeld.2.2.2.2)
 have GW277 := b6_ hg HB
 have GE277 := b6_ hg HB
 have NB264_277 := b4_ hg BK264
 have NB277_264 := b5_ hg BK264
 replace HO_7 := Aside0.mk (Kd.R_below (b2_ HO_7.out) hb)
 replace BK264 := b3_ BK264 hb
 replace HB := Aside0.mk (below_step (y1_ HB.out) hb)
 have BK277 := Aside0.mk (hbox)
 clear hb hbox hg
 refine hK.out _ _ ⟨HS0_, HS1_, HS2_, HS3_, HS4_⟩ (fun hHeld => ?_)
 clear hK K
 refine norm_ (a' := ?_) ?_ ?_
 rotate_left
 {
 show Act.put _ (some 9) _ = _
 simp only [Act.put, List.setIfInBounds_toArray, List.set_cons_zero, List.set_cons_succ, i64_w, i32_w]
 rfl}
 refine one_ (i := 18) (N := none) m19_ rfl rfl (one_of HT_.out s2_) (by decide) (fun K hK => ?_)
 have hs37 : w36.cell? ⟨gb277, 0, none⟩ = some (.int .i64 0) := (blk_cell BK277.out 0).trans rfl
 have hfs37 := blk_frozen BK277.out 0
 have hns37_0 := NB264_277.out
 have hms37_0 := NB277_264.out
 have hs38 : w36.cell? ⟨gb277, 1, none⟩ = some (.int .i64 0) := (blk_cell BK277.out 1).trans rfl
 have hfs38 := blk_frozen BK277.out 1
 have hns38_0 := NB264_277.out
 have hms38_0 := NB277_264.out
 have hs39 : w36.cell? ⟨gb277, 2, none⟩ = some (.int .i64 0) := (blk_cell BK277.out 2).trans rfl
 have hfs39 := blk_frozen BK277.out 2
 have hns39_0 := NB264_277.out
 have hms39_0 := NB277_264.out
 have hs40 : w36.cell? ⟨gb277, 3, none⟩ = some (.int .i64 0) := (blk_cell BK277.out 3).trans rfl
 have hfs40 := blk_frozen BK277.out 3
 have hns40_0 := NB264_277.out
 have hms40_0 := NB277_264.out
 have hs41 : w36.cell? ⟨gb277, 4, none⟩ = some (.string (⟨#[]⟩ : ByteArray)) := (blk_cell BK277.out 4).trans rfl
 have hfs41 := blk_frozen BK277.out 4
 have hns41_0 := NB264_277.out
 have hms41_0 := NB277_264.out
 have hs42 : w36.cell? ⟨gb277, 5, none⟩ = some (.int .i64 0) := (blk_cell BK277.out 5).trans rfl
 have hfs42 := blk_frozen BK277.out 5
 have hns42_0 := NB264_277.out
 have hms42_0 := NB277_264.out
 refine skip_ (w1 := ?_) (by rfl) rfl ?_ ?_
 rotate_left
 {
 go_simp
 rfl}
 have hne_ : ad272.block ≠ gb277 := Kd.own_blk (Kd.R_ne HO_7.out BK277.out (by decide))
 have st_ : ∀ (w_ : World) (i_ : Nat) (v_ : Value) (a_ : Addr) (u_ : Value), a_.block = ad272.block → w_.cell? a_ = some u_ → (w_.setCell ⟨gb277, i_, none⟩ v_).cell? a_ = some u_ := fun w_ i_ v_ a_ u_ ha_ h_ => (cell_far (p := ⟨gb277, i_, none⟩) (by rw [ha_]; exact hne_) v_).trans h_
 refine hK.out _ _ ⟨(st_ _ _ _ _ _ rfl (st_ _ _ _ _ _ rfl (st_ _ _ _ _ _ rfl (st_ _ _ _ _ _ rfl (st_ _ _ _ _ _ rfl (st_ _ _ _ _ _ rfl hHeld.1)))))), (st_ _ _ _ _ _ rfl (st_ _ _ _ _ _ rfl (st_ _ _ _ _ _ rfl (st_ _ _ _ _ _ rfl (st_ _ _ _ _ _ rfl (st_ _ _ _ _ _ rfl hHeld.2.1)))))), (st_ _ _ _ _ _ rfl (st_ _ _ _ _ _ rfl (st_ _ _ _ _ _ rfl (st_ _ _ _ _ _ rfl (st_ _ _ _ _ _ rfl (st_ _ _ _ _ _ rfl hHeld.2.2.1)))))), (st_ _ _ _ _ _ rfl (st_ _ _ _ _ _ rfl (st_ _ _ _ _ _ rfl (st_ _ _ _ _ _ rfl (st_ _ _ _ _ _ rfl (st_ _ _ _ _ _ rfl hHeld.2.2.2.1)))))), (st_ _ _ _ _ _ rfl (st_ _ _ _ _ _ rfl (st_ _ _ _ _ _ rfl (st_ _ _ _ _ _ rfl (st_ _ _ _ _ _ rfl (st_ _ _ _ _ _ rfl hHeld.2.2.2.2))))))⟩ (fun hHeld => ?_)
 clear hK K
 refine done_ (done_of HT_.out s2_) ?_
 have hnb43 := NB277_264.out
 have hnc43 := NB264_277.out
 have hcz44_0 := c1_ BK277 0 (.int .i64 0)
 have hcz44_1 := c1_ BK277 1 (.int .i64 0)
 have hcz44_2 := c1_ BK277 2 (.int .i64 0)
 have hcz44_3 := c1_ BK277 3 (.int .i64 0)
 have hcz44_4 := c1_ BK277 4 (.string (⟨#[]⟩ : ByteArray))
 have hcz44_5 := c1_ BK277 5 (.int .i64 0)
 have hfz44_0 := f1_ BK277 0
 have hfz44_1 := f1_ BK277 1
 have hfz44_2 := f1_ BK277 2
 have hfz44_3 := f1_ BK277 3
 have hfz44_4 := f1_ BK277 4
 have hfz44_5 := f1_ BK277 5
 try go_wp2_with (first | ((with_reducible refine gate_callee (f := 14) rfl ?_); refine goesL_ (some 51) rfl rfl Tryd.func14 s2_ rfl #[.agg #[.int .i64 (rd t268 0), .int .i64 (rd t268 1), .int .i64 (rd t268 2), .int .i64 (rd t268 3), .string t266, .int .i64 (rd t268 4)]] rfl s3_ ?_; (with_reducible refine (impl_ValidEvent.calls kj3 (rd t268 0) (rd t268 1) (rd t268 2) (rd t268 3) t266 (rd t268 4) false _ A18.out).mono ?_); rintro e w45 ⟨rfl, hb⟩; refine ⟨_, rfl, ?_⟩; replace HO_7 := Aside0.mk (Kd.R_below (by (with_reducible repeat (first | apply Kd.R_alloc | apply Kd.R_drewN | apply Kd.R_drew)); exact (Kd.R_mono (Kd.R_far3 (g := gb277) (Kd.R_far3 (g := gb277) (Kd.R_types HO_7.out BK277.out (by decide)) (fun _ hk => hk.2)) (fun _ hk => hk.2)) (fun _ h_ => h_.1))) hb); replace BK264 := Aside0.mk (blk_below (g := gb264) (o := .cells #[.int .i64 0, .int .i64 0, .int .i64 0, .int .i64 0, .string (⟨#[]⟩ : ByteArray), .int .i64 0] 27 (0, 0)) (by (with_reducible repeat (first | refine blk_drewN ?_ _ | refine blk_drew ?_ | refine blk_alloc ?_ _)); refine blk_far3 ?_ NB264_277.out; (with_reducible repeat (first | refine blk_drewN ?_ _ | refine blk_drew ?_ | refine blk_alloc ?_ _)); refine blk_far3 ?_ NB264_277.out; (with_reducible repeat (first | refine blk_drewN ?_ _ | refine blk_drew ?_ | refine blk_alloc ?_ _)); exact BK264.out) hb); replace BK277 := Aside0.mk (blk_below (g := gb277) (o := .cells #[.int .i64 (rd t268 0), .int .i64 (rd t268 1), .int .i64 (rd t268 2), .int .i64 (rd t268 3), .string t266, .int .i64 (rd t268 4)] 27 (0, 0)) (by (with_reducible repeat (first | refine blk_drewN ?_ _ | refine blk_drew ?_ | refine blk_alloc ?_ _)); refine blk_put3 (cs := #[.int .i64 (rd t268 0), .int .i64 (rd t268 1), .int .i64 (rd t268 2), .int .i64 0, .string (⟨#[]⟩ : ByteArray), .int .i64 0]) ?_ rfl; (with_reducible repeat (first | refine blk_drewN ?_ _ | refine blk_drew ?_ | refine blk_alloc ?_ _)); refine blk_put3 (cs := #[.int .i64 0, .int .i64 0, .int .i64 0, .int .i64 0, .string (⟨#[]⟩ : ByteArray), .int .i64 0]) ?_ rfl; (with_reducible repeat (first | refine blk_drewN ?_ _ | refine blk_drew ?_ | refine blk_alloc ?_ _)); exact BK277.out) hb); replace HB := Aside0.mk (below_step (by repeat (first | (with_reducible first | exact HB.out | apply below_alloc | apply pw_below_drewN | apply below_drew1 | refine below_set ?_ GE277.out) | exact HB.out)) hb); (try clear hb); (try clear hb2); (try clear hk); (try clear hi); have hcz46_0 := c1_ BK264 0 (.int .i64 0); have hcz46_1 := c1_ BK264 1 (.int .i64 0); have hcz46_2 := c1_ BK264 2 (.int .i64 0); have hcz46_3 := c1_ BK264 3 (.int .i64 0); have hcz46_4 := c1_ BK264 4 (.string (⟨#[]⟩ : ByteArray)); have hcz46_5 := c1_ BK264 5 (.int .i64 0); have hfz46_0 := f1_ BK264 0; have hfz46_1 := f1_ BK264 1; have hfz46_2 := f1_ BK264 2; have hfz46_3 := f1_ BK264 3; have hfz46_4 := f1_ BK264 4; have hfz46_5 := f1_ BK264 5))
 refine bodyPost_ret (results_ct rfl _ _ gb264 27 #[.int .i64 0, .int .i64 0, .int .i64 0, .int .i64 0, .string (⟨#[]⟩ : ByteArray), .int .i64 0] (0, 0) _ rfl (by (with_reducible repeat (first | refine blk_drewN ?_ _ | refine blk_drew ?_ | refine blk_alloc ?_ _)); refine blk_put3 (cs := #[.int .i64 0, .int .i64 0, .int .i64 0, .int .i64 0, .string (⟨#[]⟩ : ByteArray), .int .i64 0]) ?_ rfl; (with_reducible repeat (first | refine blk_drewN ?_ _ | refine blk_drew ?_ | refine blk_alloc ?_ _)); refine blk_put3 (cs := #[.int .i64 0, .int .i64 0, .int .i64 0, .int .i64 0, .string (⟨#[]⟩ : ByteArray), .int .i64 0]) ?_ rfl; (with_reducible repeat (first | refine blk_drewN ?_ _ | refine blk_drew ?_ | refine blk_alloc ?_ _)); exact BK264.out) Tryd.underlying27 rfl s2_) rfl ?_
 exact ⟨by first | rfl | (simp [errW_none, errW_some] <;> rfl) | (simp [*, errW_none, errW_some] <;> rfl), by repeat (first | (with_reducible first | exact HB.out | apply below_alloc | apply pw_below_drewN | apply below_drew1 | refine below_set ?_ GE264.out) | exact HB.out)⟩}}
 {
 rw [if_neg c17] at H
 exact absurd H (by simp)}}
 {
 rw [if_neg c16] at H
 exact absurd H (by simp)}}
 {
 rw [if_neg c15] at H
 exact absurd H (by simp)}}
 {
 rw [if_neg c14] at H
 exact absurd H (by simp)}}
 {
 rw [if_neg c13] at H
 exact absurd H (by simp)}}}}

/-! ### laws_eqEvent: function 11 -/
abbrev laws_eqEvent.T : Bool := true
abbrev laws_eqEvent.F : Bool := false
theorem laws_eqEvent.b1_ {P Q : Prop} (q : Q) (h : Q → P := by intro q_; (with_reducible repeat (first | refine blk_drewN ?_ _ | refine blk_drew ?_ | refine blk_alloc ?_ _)); exact q_) : P := h q
theorem laws_eqEvent.y1_ {P Q : Prop} (q : Q) (h : Q → P := by intro q_; repeat (first | (with_reducible first | exact q_ | apply below_alloc | apply pw_below_drewN | apply below_drew1) | exact q_)) : P := h q
theorem laws_eqEvent.b3_ {w w1 W : World} {g : Nat} {o : Obj} (q : Aside0 (w.heap[g]? = some o)) (hb : Below W.heap.size W w1) (h : w.heap[g]? = some o → W.heap[g]? = some o := by intro q_; (with_reducible repeat (first | refine blk_drewN ?_ _ | refine blk_drew ?_ | refine blk_alloc ?_ _)); exact q_) : Aside0 (w1.heap[g]? = some o) := ⟨blk_below (h q.out) hb⟩
theorem laws_eqEvent.b4_ {w W : World} {g k : Nat} {o : Obj} (hg : k = W.heap.size) (q : Aside0 (w.heap[g]? = some o)) (h : w.heap[g]? = some o → W.heap[g]? = some o := by intro q_; (with_reducible repeat (first | refine blk_drewN ?_ _ | refine blk_drew ?_ | refine blk_alloc ?_ _)); exact q_) : Aside0 (g ≠ k) := ⟨by rw [hg]; exact Nat.ne_of_lt (blk_lt (h q.out))⟩
theorem laws_eqEvent.b5_ {w W : World} {g k : Nat} {o : Obj} (hg : k = W.heap.size) (q : Aside0 (w.heap[g]? = some o)) (h : w.heap[g]? = some o → W.heap[g]? = some o := by intro q_; (with_reducible repeat (first | refine blk_drewN ?_ _ | refine blk_drew ?_ | refine blk_alloc ?_ _)); exact q_) : Aside0 (k ≠ g) := ⟨by rw [hg]; exact Nat.ne_of_gt (blk_lt (h q.out))⟩
theorem laws_eqEvent.b6_ {w w' W : World} {k : Nat} (hg : k = W.heap.size) (q : Aside0 (Below w.heap.size w w')) (h : Below w.heap.size w w' → Below w.heap.size w W := by intro q_; repeat (first | (with_reducible first | exact q_ | apply below_alloc | apply pw_below_drewN | apply below_drew1) | exact q_)) : Aside0 (w.heap.size ≤ k) := ⟨by rw [hg]; exact below_size (h q.out)⟩
theorem laws_eqEvent.bx_ {P : Program} {ops : Array Oper} {rest : List Oper} {o : Oper} {a : Act} {Q : Exit → Act → World → Prop} {W : World} (N : Tmp) (cs : Array Value) (t : TypeId) (h : ∀ g, g = W.heap.size → ∀ w1, w1.heap[g]? = some (.cells cs t (0, 0)) → Below W.heap.size W w1 → wpList P ops Q rest (a.put o.dst (.pointer (some ⟨g, 0, none⟩))) w1) (hgd : o.guard = none := by rfl) (hd : o.dst = some N := by rfl) (hrun : (execOp a.eval o).run P W = .ok (.value (.pointer (some ⟨W.heap.size, 0, none⟩))) (W.alloc (.cells cs t (0, 0))) := by first | (go_simp; done) | (go_simp; rfl)) : wpList P ops Q (o :: rest) a W := box_event hgd hd hrun h
theorem laws_eqEvent.c1_ {w : World} {g : Nat} {t : TypeId} {cs : Array Value} (q : Aside0 (w.heap[g]? = some (.cells cs t (0, 0)))) (i : Nat) (v : Value) (h : cs[i]? = some v := by rfl) : w.cell? ⟨g, i, none⟩ = some v := (blk_cell q.out i).trans h
theorem laws_eqEvent.f1_ {w : World} {g : Nat} {t : TypeId} {cs : Array Value} (q : Aside0 (w.heap[g]? = some (.cells cs t (0, 0)))) (i : Nat) : w.frozen? ⟨g, i, none⟩ = false := blk_frozen q.out i
def laws_eqEvent.f (a0_0 : Int) (a0_1 : Int) (a0_2 : Int) (a0_3 : Int) (a0_4 : ByteArray) (a0_5 : Int) (a1_0 : Int) (a1_1 : Int) (a1_2 : Int) (a1_3 : Int) (a1_4 : ByteArray) (a1_5 : Int) : Option (Bool) := if a0_0 = a1_0 then (if a0_1 = a1_1 then (if a0_2 = a1_2 then (if a0_3 = a1_3 then (if a0_4.toList = a1_4.toList then (if a0_5 = a1_5 then (some true) else (some false)) else (some false)) else (some false)) else (some false)) else (some false)) else (some false)
set_option maxHeartbeats 8000000 in
set_option maxRecDepth 100000 in
theorem laws_eqEvent.calls (a0_0 : Int) (a0_1 : Int) (a0_2 : Int) (a0_3 : Int) (a0_4 : ByteArray) (a0_5 : Int) (a1_0 : Int) (a1_1 : Int) (a1_2 : Int) (a1_3 : Int) (a1_4 : ByteArray) (a1_5 : Int) (r : Bool) (w : World) (h : laws_eqEvent.f a0_0 a0_1 a0_2 a0_3 a0_4 a0_5 a1_0 a1_1 a1_2 a1_3 a1_4 a1_5 = some r) :
    Calls Tryd.prog 11 #[.agg #[.int .i64 a0_0, .int .i64 a0_1, .int .i64 a0_2, .int .i64 a0_3, .string a0_4, .int .i64 a0_5], .agg #[.int .i64 a1_0, .int .i64 a1_1, .int .i64 a1_2, .int .i64 a1_3, .string a1_4, .int .i64 a1_5]] w fun e w' => e = .returned (.bool r) ∧ Below w.heap.size w w' := by
 have hu27 := Tryd.underlying27
 have HB := Aside0.mk (Below.refl w.heap.size w)
 have H : (if a0_0 = a1_0 then (if a0_1 = a1_1 then (if a0_2 = a1_2 then (if a0_3 = a1_3 then (if a0_4.toList = a1_4.toList then (if a0_5 = a1_5 then (some true) else (some false)) else (some false)) else (some false)) else (some false)) else (some false)) else (some false)) = some r := h
 clear h
 by_cases c3 : a0_0 = a1_0
 {
 rw [if_pos c3] at H
 have c3b0 : (a0_0 == a1_0) = true := beq_iff_eq.mpr c3
 have c3b1 : (a0_0 != a1_0) = false := bne_eq_false_iff_eq.mpr c3
 clear c3
 by_cases c4 : a0_1 = a1_1
 {
 rw [if_pos c4] at H
 have c4b0 : (a0_1 == a1_1) = true := beq_iff_eq.mpr c4
 have c4b1 : (a0_1 != a1_1) = false := bne_eq_false_iff_eq.mpr c4
 clear c4
 by_cases c5 : a0_2 = a1_2
 {
 rw [if_pos c5] at H
 have c5b0 : (a0_2 == a1_2) = true := beq_iff_eq.mpr c5
 have c5b1 : (a0_2 != a1_2) = false := bne_eq_false_iff_eq.mpr c5
 clear c5
 by_cases c6 : a0_3 = a1_3
 {
 rw [if_pos c6] at H
 have c6b0 : (a0_3 == a1_3) = true := beq_iff_eq.mpr c6
 have c6b1 : (a0_3 != a1_3) = false := bne_eq_false_iff_eq.mpr c6
 clear c6
 by_cases c7 : a0_4.toList = a1_4.toList
 {
 rw [if_pos c7] at H
 have c7b0 : (a0_4.toList == a1_4.toList) = true := beq_iff_eq.mpr c7
 have c7b1 : (a0_4.toList != a1_4.toList) = false := bne_eq_false_iff_eq.mpr c7
 clear c7
 by_cases c8 : a0_5 = a1_5
 {
 rw [if_pos c8] at H
 have c8b0 : (a0_5 == a1_5) = true := beq_iff_eq.mpr c8
 have c8b1 : (a0_5 != a1_5) = false := bne_eq_false_iff_eq.mpr c8
 clear c8
 obtain rfl := Option.some.inj H
 go_enter Tryd.func11, Tryd.ntmps11
 go_wp2_with (first | ((with_reducible refine gate_dst (N := 2) rfl ?_); refine bx_ 2 #[.int .i64 a0_0, .int .i64 a0_1, .int .i64 a0_2, .int .i64 a0_3, .string a0_4, .int .i64 a0_5] 27 ?_; intro gb279 hg w9 hbox hb; have GW279 := b6_ hg HB; have GE279 := b6_ hg HB; replace HB := Aside0.mk (below_step (y1_ HB.out) hb); have BK279 := Aside0.mk (hbox); clear hb hbox hg) | ((with_reducible refine gate_dst (N := 3) rfl ?_); refine bx_ 3 #[.int .i64 a1_0, .int .i64 a1_1, .int .i64 a1_2, .int .i64 a1_3, .string a1_4, .int .i64 a1_5] 27 ?_; intro gb280 hg w10 hbox hb; have GW280 := b6_ hg HB; have GE280 := b6_ hg HB; have NB279_280 := b4_ hg BK279; have NB280_279 := b5_ hg BK279; replace BK279 := b3_ BK279 hb; replace HB := Aside0.mk (below_step (y1_ HB.out) hb); have BK280 := Aside0.mk (hbox); clear hb hbox hg; have hnb11 := NB279_280.out; have hnc11 := NB280_279.out; have hcz12_0 := c1_ BK279 0 (.int .i64 a0_0); have hcz12_1 := c1_ BK279 1 (.int .i64 a0_1); have hcz12_2 := c1_ BK279 2 (.int .i64 a0_2); have hcz12_3 := c1_ BK279 3 (.int .i64 a0_3); have hcz12_4 := c1_ BK279 4 (.string a0_4); have hcz12_5 := c1_ BK279 5 (.int .i64 a0_5); have hfz12_0 := f1_ BK279 0; have hfz12_1 := f1_ BK279 1; have hfz12_2 := f1_ BK279 2; have hfz12_3 := f1_ BK279 3; have hfz12_4 := f1_ BK279 4; have hfz12_5 := f1_ BK279 5; have hcz13_0 := c1_ BK280 0 (.int .i64 a1_0); have hcz13_1 := c1_ BK280 1 (.int .i64 a1_1); have hcz13_2 := c1_ BK280 2 (.int .i64 a1_2); have hcz13_3 := c1_ BK280 3 (.int .i64 a1_3); have hcz13_4 := c1_ BK280 4 (.string a1_4); have hcz13_5 := c1_ BK280 5 (.int .i64 a1_5); have hfz13_0 := f1_ BK280 0; have hfz13_1 := f1_ BK280 1; have hfz13_2 := f1_ BK280 2; have hfz13_3 := f1_ BK280 3; have hfz13_4 := f1_ BK280 4; have hfz13_5 := f1_ BK280 5))
 go_ret
 exact ⟨by first | rfl | (simp [errW_none, errW_some] <;> rfl) | (simp [*, errW_none, errW_some] <;> rfl), by repeat (first | (with_reducible first | exact HB.out | apply below_alloc | apply pw_below_drewN | apply below_drew1) | exact HB.out)⟩}
 {
 rw [if_neg c8] at H
 have c8b0 : (a0_5 == a1_5) = false := beq_eq_false_iff_ne.mpr c8
 have c8b1 : (a0_5 != a1_5) = true := bne_iff_ne.mpr c8
 obtain rfl := Option.some.inj H
 go_enter Tryd.func11, Tryd.ntmps11
 go_wp2_with (first | ((with_reducible refine gate_dst (N := 2) rfl ?_); refine bx_ 2 #[.int .i64 a0_0, .int .i64 a0_1, .int .i64 a0_2, .int .i64 a0_3, .string a0_4, .int .i64 a0_5] 27 ?_; intro gb279 hg w14 hbox hb; have GW279 := b6_ hg HB; have GE279 := b6_ hg HB; replace HB := Aside0.mk (below_step (y1_ HB.out) hb); have BK279 := Aside0.mk (hbox); clear hb hbox hg) | ((with_reducible refine gate_dst (N := 3) rfl ?_); refine bx_ 3 #[.int .i64 a1_0, .int .i64 a1_1, .int .i64 a1_2, .int .i64 a1_3, .string a1_4, .int .i64 a1_5] 27 ?_; intro gb280 hg w15 hbox hb; have GW280 := b6_ hg HB; have GE280 := b6_ hg HB; have NB279_280 := b4_ hg BK279; have NB280_279 := b5_ hg BK279; replace BK279 := b3_ BK279 hb; replace HB := Aside0.mk (below_step (y1_ HB.out) hb); have BK280 := Aside0.mk (hbox); clear hb hbox hg; have hnb16 := NB279_280.out; have hnc16 := NB280_279.out; have hcz17_0 := c1_ BK279 0 (.int .i64 a0_0); have hcz17_1 := c1_ BK279 1 (.int .i64 a0_1); have hcz17_2 := c1_ BK279 2 (.int .i64 a0_2); have hcz17_3 := c1_ BK279 3 (.int .i64 a0_3); have hcz17_4 := c1_ BK279 4 (.string a0_4); have hcz17_5 := c1_ BK279 5 (.int .i64 a0_5); have hfz17_0 := f1_ BK279 0; have hfz17_1 := f1_ BK279 1; have hfz17_2 := f1_ BK279 2; have hfz17_3 := f1_ BK279 3; have hfz17_4 := f1_ BK279 4; have hfz17_5 := f1_ BK279 5; have hcz18_0 := c1_ BK280 0 (.int .i64 a1_0); have hcz18_1 := c1_ BK280 1 (.int .i64 a1_1); have hcz18_2 := c1_ BK280 2 (.int .i64 a1_2); have hcz18_3 := c1_ BK280 3 (.int .i64 a1_3); have hcz18_4 := c1_ BK280 4 (.string a1_4); have hcz18_5 := c1_ BK280 5 (.int .i64 a1_5); have hfz18_0 := f1_ BK280 0; have hfz18_1 := f1_ BK280 1; have hfz18_2 := f1_ BK280 2; have hfz18_3 := f1_ BK280 3; have hfz18_4 := f1_ BK280 4; have hfz18_5 := f1_ BK280 5))
 go_ret
 exact ⟨by first | rfl | (simp [errW_none, errW_some] <;> rfl) | (simp [*, errW_none, errW_some] <;> rfl), by repeat (first | (with_reducible first | exact HB.out | apply below_alloc | apply pw_below_drewN | apply below_drew1) | exact HB.out)⟩}}
 {
 rw [if_neg c7] at H
 have c7b0 : (a0_4.toList == a1_4.toList) = false := beq_eq_false_iff_ne.mpr c7
 have c7b1 : (a0_4.toList != a1_4.toList) = true := bne_iff_ne.mpr c7
 obtain rfl := Option.some.inj H
 go_enter Tryd.func11, Tryd.ntmps11
 go_wp2_with (first | ((with_reducible refine gate_dst (N := 2) rfl ?_); refine bx_ 2 #[.int .i64 a0_0, .int .i64 a0_1, .int .i64 a0_2, .int .i64 a0_3, .string a0_4, .int .i64 a0_5] 27 ?_; intro gb279 hg w19 hbox hb; have GW279 := b6_ hg HB; have GE279 := b6_ hg HB; replace HB := Aside0.mk (below_step (y1_ HB.out) hb); have BK279 := Aside0.mk (hbox); clear hb hbox hg) | ((with_reducible refine gate_dst (N := 3) rfl ?_); refine bx_ 3 #[.int .i64 a1_0, .int .i64 a1_1, .int .i64 a1_2, .int .i64 a1_3, .string a1_4, .int .i64 a1_5] 27 ?_; intro gb280 hg w20 hbox hb; have GW280 := b6_ hg HB; have GE280 := b6_ hg HB; have NB279_280 := b4_ hg BK279; have NB280_279 := b5_ hg BK279; replace BK279 := b3_ BK279 hb; replace HB := Aside0.mk (below_step (y1_ HB.out) hb); have BK280 := Aside0.mk (hbox); clear hb hbox hg; have hnb21 := NB279_280.out; have hnc21 := NB280_279.out; have hcz22_0 := c1_ BK279 0 (.int .i64 a0_0); have hcz22_1 := c1_ BK279 1 (.int .i64 a0_1); have hcz22_2 := c1_ BK279 2 (.int .i64 a0_2); have hcz22_3 := c1_ BK279 3 (.int .i64 a0_3); have hcz22_4 := c1_ BK279 4 (.string a0_4); have hcz22_5 := c1_ BK279 5 (.int .i64 a0_5); have hfz22_0 := f1_ BK279 0; have hfz22_1 := f1_ BK279 1; have hfz22_2 := f1_ BK279 2; have hfz22_3 := f1_ BK279 3; have hfz22_4 := f1_ BK279 4; have hfz22_5 := f1_ BK279 5; have hcz23_0 := c1_ BK280 0 (.int .i64 a1_0); have hcz23_1 := c1_ BK280 1 (.int .i64 a1_1); have hcz23_2 := c1_ BK280 2 (.int .i64 a1_2); have hcz23_3 := c1_ BK280 3 (.int .i64 a1_3); have hcz23_4 := c1_ BK280 4 (.string a1_4); have hcz23_5 := c1_ BK280 5 (.int .i64 a1_5); have hfz23_0 := f1_ BK280 0; have hfz23_1 := f1_ BK280 1; have hfz23_2 := f1_ BK280 2; have hfz23_3 := f1_ BK280 3; have hfz23_4 := f1_ BK280 4; have hfz23_5 := f1_ BK280 5))
 go_ret
 exact ⟨by first | rfl | (simp [errW_none, errW_some] <;> rfl) | (simp [*, errW_none, errW_some] <;> rfl), by repeat (first | (with_reducible first | exact HB.out | apply below_alloc | apply pw_below_drewN | apply below_drew1) | exact HB.out)⟩}}
 {
 rw [if_neg c6] at H
 have c6b0 : (a0_3 == a1_3) = false := beq_eq_false_iff_ne.mpr c6
 have c6b1 : (a0_3 != a1_3) = true := bne_iff_ne.mpr c6
 obtain rfl := Option.some.inj H
 go_enter Tryd.func11, Tryd.ntmps11
 go_wp2_with (first | ((with_reducible refine gate_dst (N := 2) rfl ?_); refine bx_ 2 #[.int .i64 a0_0, .int .i64 a0_1, .int .i64 a0_2, .int .i64 a0_3, .string a0_4, .int .i64 a0_5] 27 ?_; intro gb279 hg w24 hbox hb; have GW279 := b6_ hg HB; have GE279 := b6_ hg HB; replace HB := Aside0.mk (below_step (y1_ HB.out) hb); have BK279 := Aside0.mk (hbox); clear hb hbox hg) | ((with_reducible refine gate_dst (N := 3) rfl ?_); refine bx_ 3 #[.int .i64 a1_0, .int .i64 a1_1, .int .i64 a1_2, .int .i64 a1_3, .string a1_4, .int .i64 a1_5] 27 ?_; intro gb280 hg w25 hbox hb; have GW280 := b6_ hg HB; have GE280 := b6_ hg HB; have NB279_280 := b4_ hg BK279; have NB280_279 := b5_ hg BK279; replace BK279 := b3_ BK279 hb; replace HB := Aside0.mk (below_step (y1_ HB.out) hb); have BK280 := Aside0.mk (hbox); clear hb hbox hg; have hnb26 := NB279_280.out; have hnc26 := NB280_279.out; have hcz27_0 := c1_ BK279 0 (.int .i64 a0_0); have hcz27_1 := c1_ BK279 1 (.int .i64 a0_1); have hcz27_2 := c1_ BK279 2 (.int .i64 a0_2); have hcz27_3 := c1_ BK279 3 (.int .i64 a0_3); have hcz27_4 := c1_ BK279 4 (.string a0_4); have hcz27_5 := c1_ BK279 5 (.int .i64 a0_5); have hfz27_0 := f1_ BK279 0; have hfz27_1 := f1_ BK279 1; have hfz27_2 := f1_ BK279 2; have hfz27_3 := f1_ BK279 3; have hfz27_4 := f1_ BK279 4; have hfz27_5 := f1_ BK279 5; have hcz28_0 := c1_ BK280 0 (.int .i64 a1_0); have hcz28_1 := c1_ BK280 1 (.int .i64 a1_1); have hcz28_2 := c1_ BK280 2 (.int .i64 a1_2); have hcz28_3 := c1_ BK280 3 (.int .i64 a1_3); have hcz28_4 := c1_ BK280 4 (.string a1_4); have hcz28_5 := c1_ BK280 5 (.int .i64 a1_5); have hfz28_0 := f1_ BK280 0; have hfz28_1 := f1_ BK280 1; have hfz28_2 := f1_ BK280 2; have hfz28_3 := f1_ BK280 3; have hfz28_4 := f1_ BK280 4; have hfz28_5 := f1_ BK280 5))
 go_ret
 exact ⟨by first | rfl | (simp [errW_none, errW_some] <;> rfl) | (simp [*, errW_none, errW_some] <;> rfl), by repeat (first | (with_reducible first | exact HB.out | apply below_alloc | apply pw_below_drewN | apply below_drew1) | exact HB.out)⟩}}
 {
 rw [if_neg c5] at H
 have c5b0 : (a0_2 == a1_2) = false := beq_eq_false_iff_ne.mpr c5
 have c5b1 : (a0_2 != a1_2) = true := bne_iff_ne.mpr c5
 obtain rfl := Option.some.inj H
 go_enter Tryd.func11, Tryd.ntmps11
 go_wp2_with (first | ((with_reducible refine gate_dst (N := 2) rfl ?_); refine bx_ 2 #[.int .i64 a0_0, .int .i64 a0_1, .int .i64 a0_2, .int .i64 a0_3, .string a0_4, .int .i64 a0_5] 27 ?_; intro gb279 hg w29 hbox hb; have GW279 := b6_ hg HB; have GE279 := b6_ hg HB; replace HB := Aside0.mk (below_step (y1_ HB.out) hb); have BK279 := Aside0.mk (hbox); clear hb hbox hg) | ((with_reducible refine gate_dst (N := 3) rfl ?_); refine bx_ 3 #[.int .i64 a1_0, .int .i64 a1_1, .int .i64 a1_2, .int .i64 a1_3, .string a1_4, .int .i64 a1_5] 27 ?_; intro gb280 hg w30 hbox hb; have GW280 := b6_ hg HB; have GE280 := b6_ hg HB; have NB279_280 := b4_ hg BK279; have NB280_279 := b5_ hg BK279; replace BK279 := b3_ BK279 hb; replace HB := Aside0.mk (below_step (y1_ HB.out) hb); have BK280 := Aside0.mk (hbox); clear hb hbox hg; have hnb31 := NB279_280.out; have hnc31 := NB280_279.out; have hcz32_0 := c1_ BK279 0 (.int .i64 a0_0); have hcz32_1 := c1_ BK279 1 (.int .i64 a0_1); have hcz32_2 := c1_ BK279 2 (.int .i64 a0_2); have hcz32_3 := c1_ BK279 3 (.int .i64 a0_3); have hcz32_4 := c1_ BK279 4 (.string a0_4); have hcz32_5 := c1_ BK279 5 (.int .i64 a0_5); have hfz32_0 := f1_ BK279 0; have hfz32_1 := f1_ BK279 1; have hfz32_2 := f1_ BK279 2; have hfz32_3 := f1_ BK279 3; have hfz32_4 := f1_ BK279 4; have hfz32_5 := f1_ BK279 5; have hcz33_0 := c1_ BK280 0 (.int .i64 a1_0); have hcz33_1 := c1_ BK280 1 (.int .i64 a1_1); have hcz33_2 := c1_ BK280 2 (.int .i64 a1_2); have hcz33_3 := c1_ BK280 3 (.int .i64 a1_3); have hcz33_4 := c1_ BK280 4 (.string a1_4); have hcz33_5 := c1_ BK280 5 (.int .i64 a1_5); have hfz33_0 := f1_ BK280 0; have hfz33_1 := f1_ BK280 1; have hfz33_2 := f1_ BK280 2; have hfz33_3 := f1_ BK280 3; have hfz33_4 := f1_ BK280 4; have hfz33_5 := f1_ BK280 5))
 go_ret
 exact ⟨by first | rfl | (simp [errW_none, errW_some] <;> rfl) | (simp [*, errW_none, errW_some] <;> rfl), by repeat (first | (with_reducible first | exact HB.out | apply below_alloc | apply pw_below_drewN | apply below_drew1) | exact HB.out)⟩}}
 {
 rw [if_neg c4] at H
 have c4b0 : (a0_1 == a1_1) = false := beq_eq_false_iff_ne.mpr c4
 have c4b1 : (a0_1 != a1_1) = true := bne_iff_ne.mpr c4
 obtain rfl := Option.some.inj H
 go_enter Tryd.func11, Tryd.ntmps11
 go_wp2_with (first | ((with_reducible refine gate_dst (N := 2) rfl ?_); refine bx_ 2 #[.int .i64 a0_0, .int .i64 a0_1, .int .i64 a0_2, .int .i64 a0_3, .string a0_4, .int .i64 a0_5] 27 ?_; intro gb279 hg w34 hbox hb; have GW279 := b6_ hg HB; have GE279 := b6_ hg HB; replace HB := Aside0.mk (below_step (y1_ HB.out) hb); have BK279 := Aside0.mk (hbox); clear hb hbox hg) | ((with_reducible refine gate_dst (N := 3) rfl ?_); refine bx_ 3 #[.int .i64 a1_0, .int .i64 a1_1, .int .i64 a1_2, .int .i64 a1_3, .string a1_4, .int .i64 a1_5] 27 ?_; intro gb280 hg w35 hbox hb; have GW280 := b6_ hg HB; have GE280 := b6_ hg HB; have NB279_280 := b4_ hg BK279; have NB280_279 := b5_ hg BK279; replace BK279 := b3_ BK279 hb; replace HB := Aside0.mk (below_step (y1_ HB.out) hb); have BK280 := Aside0.mk (hbox); clear hb hbox hg; have hnb36 := NB279_280.out; have hnc36 := NB280_279.out; have hcz37_0 := c1_ BK279 0 (.int .i64 a0_0); have hcz37_1 := c1_ BK279 1 (.int .i64 a0_1); have hcz37_2 := c1_ BK279 2 (.int .i64 a0_2); have hcz37_3 := c1_ BK279 3 (.int .i64 a0_3); have hcz37_4 := c1_ BK279 4 (.string a0_4); have hcz37_5 := c1_ BK279 5 (.int .i64 a0_5); have hfz37_0 := f1_ BK279 0; have hfz37_1 := f1_ BK279 1; have hfz37_2 := f1_ BK279 2; have hfz37_3 := f1_ BK279 3; have hfz37_4 := f1_ BK279 4; have hfz37_5 := f1_ BK279 5; have hcz38_0 := c1_ BK280 0 (.int .i64 a1_0); have hcz38_1 := c1_ BK280 1 (.int .i64 a1_1); have hcz38_2 := c1_ BK280 2 (.int .i64 a1_2); have hcz38_3 := c1_ BK280 3 (.int .i64 a1_3); have hcz38_4 := c1_ BK280 4 (.string a1_4); have hcz38_5 := c1_ BK280 5 (.int .i64 a1_5); have hfz38_0 := f1_ BK280 0; have hfz38_1 := f1_ BK280 1; have hfz38_2 := f1_ BK280 2; have hfz38_3 := f1_ BK280 3; have hfz38_4 := f1_ BK280 4; have hfz38_5 := f1_ BK280 5))
 go_ret
 exact ⟨by first | rfl | (simp [errW_none, errW_some] <;> rfl) | (simp [*, errW_none, errW_some] <;> rfl), by repeat (first | (with_reducible first | exact HB.out | apply below_alloc | apply pw_below_drewN | apply below_drew1) | exact HB.out)⟩}}
 {
 rw [if_neg c3] at H
 have c3b0 : (a0_0 == a1_0) = false := beq_eq_false_iff_ne.mpr c3
 have c3b1 : (a0_0 != a1_0) = true := bne_iff_ne.mpr c3
 obtain rfl := Option.some.inj H
 go_enter Tryd.func11, Tryd.ntmps11
 go_wp2_with (first | ((with_reducible refine gate_dst (N := 2) rfl ?_); refine bx_ 2 #[.int .i64 a0_0, .int .i64 a0_1, .int .i64 a0_2, .int .i64 a0_3, .string a0_4, .int .i64 a0_5] 27 ?_; intro gb279 hg w39 hbox hb; have GW279 := b6_ hg HB; have GE279 := b6_ hg HB; replace HB := Aside0.mk (below_step (y1_ HB.out) hb); have BK279 := Aside0.mk (hbox); clear hb hbox hg) | ((with_reducible refine gate_dst (N := 3) rfl ?_); refine bx_ 3 #[.int .i64 a1_0, .int .i64 a1_1, .int .i64 a1_2, .int .i64 a1_3, .string a1_4, .int .i64 a1_5] 27 ?_; intro gb280 hg w40 hbox hb; have GW280 := b6_ hg HB; have GE280 := b6_ hg HB; have NB279_280 := b4_ hg BK279; have NB280_279 := b5_ hg BK279; replace BK279 := b3_ BK279 hb; replace HB := Aside0.mk (below_step (y1_ HB.out) hb); have BK280 := Aside0.mk (hbox); clear hb hbox hg; have hnb41 := NB279_280.out; have hnc41 := NB280_279.out; have hcz42_0 := c1_ BK279 0 (.int .i64 a0_0); have hcz42_1 := c1_ BK279 1 (.int .i64 a0_1); have hcz42_2 := c1_ BK279 2 (.int .i64 a0_2); have hcz42_3 := c1_ BK279 3 (.int .i64 a0_3); have hcz42_4 := c1_ BK279 4 (.string a0_4); have hcz42_5 := c1_ BK279 5 (.int .i64 a0_5); have hfz42_0 := f1_ BK279 0; have hfz42_1 := f1_ BK279 1; have hfz42_2 := f1_ BK279 2; have hfz42_3 := f1_ BK279 3; have hfz42_4 := f1_ BK279 4; have hfz42_5 := f1_ BK279 5; have hcz43_0 := c1_ BK280 0 (.int .i64 a1_0); have hcz43_1 := c1_ BK280 1 (.int .i64 a1_1); have hcz43_2 := c1_ BK280 2 (.int .i64 a1_2); have hcz43_3 := c1_ BK280 3 (.int .i64 a1_3); have hcz43_4 := c1_ BK280 4 (.string a1_4); have hcz43_5 := c1_ BK280 5 (.int .i64 a1_5); have hfz43_0 := f1_ BK280 0; have hfz43_1 := f1_ BK280 1; have hfz43_2 := f1_ BK280 2; have hfz43_3 := f1_ BK280 3; have hfz43_4 := f1_ BK280 4; have hfz43_5 := f1_ BK280 5))
 go_ret
 exact ⟨by first | rfl | (simp [errW_none, errW_some] <;> rfl) | (simp [*, errW_none, errW_some] <;> rfl), by repeat (first | (with_reducible first | exact HB.out | apply below_alloc | apply pw_below_drewN | apply below_drew1) | exact HB.out)⟩}

/-! ### laws_FnExactReadEvent: function 4 -/
abbrev laws_FnExactReadEvent.T : Bool := true
abbrev laws_FnExactReadEvent.F : Bool := false
theorem laws_FnExactReadEvent.s2_ {P : Prop} (h : P := by kernel_rfl) : P := h
theorem laws_FnExactReadEvent.s3_ {P : Prop} (h : P := by (try simp only [List.map_toArray, List.map_cons, List.map_nil]); first | done | rfl | (simp only [List.length_drop, List.length_take]; rfl)) : P := h
theorem laws_FnExactReadEvent.b1_ {P Q : Prop} (q : Q) (h : Q → P := by intro q_; (with_reducible repeat (first | refine blk_drewN ?_ _ | refine blk_drew ?_ | refine blk_alloc ?_ _)); exact q_) : P := h q
theorem laws_FnExactReadEvent.y1_ {P Q : Prop} (q : Q) (h : Q → P := by intro q_; repeat (first | (with_reducible first | exact q_ | apply below_alloc | apply pw_below_drewN | apply below_drew1) | exact q_)) : P := h q
theorem laws_FnExactReadEvent.b3_ {w w1 W : World} {g : Nat} {o : Obj} (q : Aside0 (w.heap[g]? = some o)) (hb : Below W.heap.size W w1) (h : w.heap[g]? = some o → W.heap[g]? = some o := by intro q_; (with_reducible repeat (first | refine blk_drewN ?_ _ | refine blk_drew ?_ | refine blk_alloc ?_ _)); exact q_) : Aside0 (w1.heap[g]? = some o) := ⟨blk_below (h q.out) hb⟩
theorem laws_FnExactReadEvent.b4_ {w W : World} {g k : Nat} {o : Obj} (hg : k = W.heap.size) (q : Aside0 (w.heap[g]? = some o)) (h : w.heap[g]? = some o → W.heap[g]? = some o := by intro q_; (with_reducible repeat (first | refine blk_drewN ?_ _ | refine blk_drew ?_ | refine blk_alloc ?_ _)); exact q_) : Aside0 (g ≠ k) := ⟨by rw [hg]; exact Nat.ne_of_lt (blk_lt (h q.out))⟩
theorem laws_FnExactReadEvent.b5_ {w W : World} {g k : Nat} {o : Obj} (hg : k = W.heap.size) (q : Aside0 (w.heap[g]? = some o)) (h : w.heap[g]? = some o → W.heap[g]? = some o := by intro q_; (with_reducible repeat (first | refine blk_drewN ?_ _ | refine blk_drew ?_ | refine blk_alloc ?_ _)); exact q_) : Aside0 (k ≠ g) := ⟨by rw [hg]; exact Nat.ne_of_gt (blk_lt (h q.out))⟩
theorem laws_FnExactReadEvent.b6_ {w w' W : World} {k : Nat} (hg : k = W.heap.size) (q : Aside0 (Below w.heap.size w w')) (h : Below w.heap.size w w' → Below w.heap.size w W := by intro q_; repeat (first | (with_reducible first | exact q_ | apply below_alloc | apply pw_below_drewN | apply below_drew1) | exact q_)) : Aside0 (w.heap.size ≤ k) := ⟨by rw [hg]; exact below_size (h q.out)⟩
theorem laws_FnExactReadEvent.bx_ {P : Program} {ops : Array Oper} {rest : List Oper} {o : Oper} {a : Act} {Q : Exit → Act → World → Prop} {W : World} (N : Tmp) (cs : Array Value) (t : TypeId) (h : ∀ g, g = W.heap.size → ∀ w1, w1.heap[g]? = some (.cells cs t (0, 0)) → Below W.heap.size W w1 → wpList P ops Q rest (a.put o.dst (.pointer (some ⟨g, 0, none⟩))) w1) (hgd : o.guard = none := by rfl) (hd : o.dst = some N := by rfl) (hrun : (execOp a.eval o).run P W = .ok (.value (.pointer (some ⟨W.heap.size, 0, none⟩))) (W.alloc (.cells cs t (0, 0))) := by first | (go_simp; done) | (go_simp; rfl)) : wpList P ops Q (o :: rest) a W := box_event hgd hd hrun h
theorem laws_FnExactReadEvent.c1_ {w : World} {g : Nat} {t : TypeId} {cs : Array Value} (q : Aside0 (w.heap[g]? = some (.cells cs t (0, 0)))) (i : Nat) (v : Value) (h : cs[i]? = some v := by rfl) : w.cell? ⟨g, i, none⟩ = some v := (blk_cell q.out i).trans h
theorem laws_FnExactReadEvent.f1_ {w : World} {g : Nat} {t : TypeId} {cs : Array Value} (q : Aside0 (w.heap[g]? = some (.cells cs t (0, 0)))) (i : Nat) : w.frozen? ⟨g, i, none⟩ = false := blk_frozen q.out i
def laws_FnExactReadEvent.f (k : Nat) (a0 : ByteArray) : Option (Bool) := if (a0.size : Int) > 1048576 then (some true) else ((spec_ReadEvent.f k a0).bind fun bt281 => ((impl_ReadEvent.f k a0).bind fun bt289 => ((laws_eqEvent.f bt289.1 bt289.2.1 bt289.2.2.1 bt289.2.2.2.1 bt289.2.2.2.2.1 bt289.2.2.2.2.2.1 bt281.1 bt281.2.1 bt281.2.2.1 bt281.2.2.2.1 bt281.2.2.2.2.1 bt281.2.2.2.2.2.1).bind fun t297 => (if t297 = true then (if (bt289.2.2.2.2.2.2 != bt281.2.2.2.2.2.2) = true then (some false) else (some true)) else (some false)))))
theorem laws_FnExactReadEvent.mono : ∀ a0 k, LeO (laws_FnExactReadEvent.f k a0) (laws_FnExactReadEvent.f (k + 1) a0) := by
  intro a0 k
  unfold laws_FnExactReadEvent.f
  repeat' first
      | (with_reducible exact impl_ReadEvent.mono _ _)
      | (with_reducible exact spec_ReadEvent.mono _ _)
      | (with_reducible exact LeO.refl _)
      | (with_reducible exact LeO.none _)
      | (with_reducible refine LeO.ite ?_ ?_)
      | (with_reducible refine LeO.bind ?_ (fun _ => ?_))
      | exact impl_ReadEvent.mono _ _
      | exact spec_ReadEvent.mono _ _
      | exact LeO.none _
      | refine LeO.ite ?_ ?_
      | refine LeO.bind ?_ (fun _ => ?_)
set_option maxHeartbeats 8000000 in
set_option maxRecDepth 100000 in
theorem laws_FnExactReadEvent.calls (k : Nat) (a0 : ByteArray) (r : Bool) (w : World) (h : laws_FnExactReadEvent.f k a0 = some r) (hG : TG w) :
    Calls Tryd.prog 4 #[.string a0] w fun e w' => e = .returned (.bool r) ∧ Below w.heap.size w w' := by
 have hu27 := Tryd.underlying27
 have HB := Aside0.mk (Below.refl w.heap.size w)
 have HTG := Aside0.mk hG
 clear hG
 have H : (if (a0.size : Int) > 1048576 then (some true) else ((spec_ReadEvent.f k a0).bind fun bt281 => ((impl_ReadEvent.f k a0).bind fun bt289 => ((laws_eqEvent.f bt289.1 bt289.2.1 bt289.2.2.1 bt289.2.2.2.1 bt289.2.2.2.2.1 bt289.2.2.2.2.2.1 bt281.1 bt281.2.1 bt281.2.2.1 bt281.2.2.2.1 bt281.2.2.2.2.1 bt281.2.2.2.2.2.1).bind fun t297 => (if t297 = true then (if (bt289.2.2.2.2.2.2 != bt281.2.2.2.2.2.2) = true then (some false) else (some true)) else (some false)))))) = some r := h
 clear h
 by_cases c2 : (a0.size : Int) > 1048576
 {
 rw [if_pos c2] at H
 have c2b0 : decide (1048576 < (a0.size : Int)) = true := decide_eq_true c2
 have c2b1 : decide (1048576 < a0.size) = true := decide_eq_true (by omega)
 clear c2
 obtain rfl := Option.some.inj H
 go_enter Tryd.func4, Tryd.ntmps4
 go_wp2
 go_ret
 exact ⟨by first | rfl | (simp [errW_none, errW_some] <;> rfl) | (simp [*, errW_none, errW_some] <;> rfl), by repeat (first | (with_reducible first | exact HB.out | apply below_alloc | apply pw_below_drewN | apply below_drew1) | exact HB.out)⟩}
 {
 rw [if_neg c2] at H
 have c2b0 : decide (1048576 < (a0.size : Int)) = false := decide_eq_false c2
 have c2b1 : decide (1048576 < a0.size) = false := decide_eq_false (by omega)
 clear c2
 replace H := Option.bind_eq_some_iff.mp H
 obtain ⟨⟨t281, t282, t283, t284, t285, t286, t287⟩, A30, H⟩ := H
 replace H : ((impl_ReadEvent.f k a0).bind fun bt289 => ((laws_eqEvent.f bt289.1 bt289.2.1 bt289.2.2.1 bt289.2.2.2.1 bt289.2.2.2.2.1 bt289.2.2.2.2.2.1 t281 t282 t283 t284 t285 t286).bind fun t297 => (if t297 = true then (if (bt289.2.2.2.2.2.2 != t287) = true then (some false) else (some true)) else (some false)))) = some r := H
 have A3 := Aside0.mk A30
 clear A30
 replace H := Option.bind_eq_some_iff.mp H
 obtain ⟨⟨t289, t290, t291, t292, t293, t294, t295⟩, A40, H⟩ := H
 replace H : ((laws_eqEvent.f t289 t290 t291 t292 t293 t294 t281 t282 t283 t284 t285 t286).bind fun t297 => (if t297 = true then (if (t295 != t287) = true then (some false) else (some true)) else (some false))) = some r := H
 have A4 := Aside0.mk A40
 clear A40
 replace H := Option.bind_eq_some_iff.mp H
 obtain ⟨t297, A50, H⟩ := H
 replace H : (if t297 = true then (if (t295 != t287) = true then (some false) else (some true)) else (some false)) = some r := H
 have A5 := Aside0.mk A50
 clear A50
 by_cases c6 : t297 = true
 {
 subst c6
 have H1 : (if (t295 != t287) = true then (some false) else (some true)) = some r := by rw [if_pos rfl] at H; exact H
 clear H
 have H := H1
 clear H1
 by_cases c7 : (t295 != t287) = true
 {
 rw [if_pos c7] at H
 have c7b0 : (t295 != t287) = true := c7
 (try (have c7b1 : decide (t295 = t287) = false := by simpa using c7))
 (try (have c7b2 : (t295 == t287) = false := by simpa using c7))
 (try (have c7b3 : ¬ (t295 = t287) := by simpa using c7))
 clear c7
 obtain rfl := Option.some.inj H
 go_enter Tryd.func4, Tryd.ntmps4
 go_wp2_with (first | ((with_reducible refine gate_callee (f := 9) rfl ?_); refine goesL_ (some 12) rfl rfl Tryd.func9 s2_ rfl #[.string a0] rfl s3_ ?_; (with_reducible refine (spec_ReadEvent.calls k a0 t281 t282 t283 t284 t285 t286 t287 _ A3.out).mono ?_); rintro e w8 ⟨rfl, hb⟩; refine ⟨_, rfl, ?_⟩; replace HB := Aside0.mk (below_step (y1_ HB.out) hb); (try clear hb); (try clear hb2); (try clear hk); (try clear hi)) | ((with_reducible refine gate_dst (N := 3) rfl ?_); refine bx_ 3 #[.int .i64 0, .int .i64 0, .int .i64 0, .int .i64 0, .string (⟨#[]⟩ : ByteArray), .int .i64 0] 27 ?_; intro gb288 hg w9 hbox hb; have GW288 := b6_ hg HB; have GE288 := b6_ hg HB; replace HB := Aside0.mk (below_step (y1_ HB.out) hb); have BK288 := Aside0.mk (hbox); clear hb hbox hg; have hcz10_0 := c1_ BK288 0 (.int .i64 0); have hcz10_1 := c1_ BK288 1 (.int .i64 0); have hcz10_2 := c1_ BK288 2 (.int .i64 0); have hcz10_3 := c1_ BK288 3 (.int .i64 0); have hcz10_4 := c1_ BK288 4 (.string (⟨#[]⟩ : ByteArray)); have hcz10_5 := c1_ BK288 5 (.int .i64 0); have hfz10_0 := f1_ BK288 0; have hfz10_1 := f1_ BK288 1; have hfz10_2 := f1_ BK288 2; have hfz10_3 := f1_ BK288 3; have hfz10_4 := f1_ BK288 4; have hfz10_5 := f1_ BK288 5) | ((with_reducible refine gate_callee (f := 10) rfl ?_); refine goesL_ (some 17) rfl rfl Tryd.func10 s2_ rfl #[.string a0] rfl s3_ ?_; (with_reducible refine (impl_ReadEvent.calls k a0 t289 t290 t291 t292 t293 t294 t295 _ A4.out (HTG.out.on (by repeat (first | (with_reducible first | exact HB.out | apply below_alloc | apply pw_below_drewN | apply below_drew1 | refine below_set ?_ GE288.out) | exact HB.out)))).mono ?_); rintro e w11 ⟨rfl, hb⟩; refine ⟨_, rfl, ?_⟩; replace BK288 := Aside0.mk (blk_below (g := gb288) (o := .cells #[.int .i64 t281, .int .i64 t282, .int .i64 t283, .int .i64 t284, .string t285, .int .i64 t286] 27 (0, 0)) (by (with_reducible repeat (first | refine blk_drewN ?_ _ | refine blk_drew ?_ | refine blk_alloc ?_ _)); refine blk_put3 (cs := #[.int .i64 t281, .int .i64 t282, .int .i64 t283, .int .i64 0, .string (⟨#[]⟩ : ByteArray), .int .i64 0]) ?_ rfl; (with_reducible repeat (first | refine blk_drewN ?_ _ | refine blk_drew ?_ | refine blk_alloc ?_ _)); refine blk_put3 (cs := #[.int .i64 0, .int .i64 0, .int .i64 0, .int .i64 0, .string (⟨#[]⟩ : ByteArray), .int .i64 0]) ?_ rfl; (with_reducible repeat (first | refine blk_drewN ?_ _ | refine blk_drew ?_ | refine blk_alloc ?_ _)); exact BK288.out) hb); replace HB := Aside0.mk (below_step (by repeat (first | (with_reducible first | exact HB.out | apply below_alloc | apply pw_below_drewN | apply below_drew1 | refine below_set ?_ GE288.out) | exact HB.out)) hb); (try clear hb); (try clear hb2); (try clear hk); (try clear hi)) | ((with_reducible refine gate_dst (N := 5) rfl ?_); refine bx_ 5 #[.int .i64 0, .int .i64 0, .int .i64 0, .int .i64 0, .string (⟨#[]⟩ : ByteArray), .int .i64 0] 27 ?_; intro gb296 hg w12 hbox hb; have GW296 := b6_ hg HB; have GE296 := b6_ hg HB; have NB288_296 := b4_ hg BK288; have NB296_288 := b5_ hg BK288; replace BK288 := b3_ BK288 hb; replace HB := Aside0.mk (below_step (y1_ HB.out) hb); have BK296 := Aside0.mk (hbox); clear hb hbox hg; have hnb13 := NB296_288.out; have hnc13 := NB288_296.out; have hcz14_0 := c1_ BK296 0 (.int .i64 0); have hcz14_1 := c1_ BK296 1 (.int .i64 0); have hcz14_2 := c1_ BK296 2 (.int .i64 0); have hcz14_3 := c1_ BK296 3 (.int .i64 0); have hcz14_4 := c1_ BK296 4 (.string (⟨#[]⟩ : ByteArray)); have hcz14_5 := c1_ BK296 5 (.int .i64 0); have hfz14_0 := f1_ BK296 0; have hfz14_1 := f1_ BK296 1; have hfz14_2 := f1_ BK296 2; have hfz14_3 := f1_ BK296 3; have hfz14_4 := f1_ BK296 4; have hfz14_5 := f1_ BK296 5; have hcz15_0 := c1_ BK288 0 (.int .i64 t281); have hcz15_1 := c1_ BK288 1 (.int .i64 t282); have hcz15_2 := c1_ BK288 2 (.int .i64 t283); have hcz15_3 := c1_ BK288 3 (.int .i64 t284); have hcz15_4 := c1_ BK288 4 (.string t285); have hcz15_5 := c1_ BK288 5 (.int .i64 t286); have hfz15_0 := f1_ BK288 0; have hfz15_1 := f1_ BK288 1; have hfz15_2 := f1_ BK288 2; have hfz15_3 := f1_ BK288 3; have hfz15_4 := f1_ BK288 4; have hfz15_5 := f1_ BK288 5) | ((with_reducible refine gate_callee (f := 11) rfl ?_); refine goesL_ (some 22) rfl rfl Tryd.func11 s2_ rfl #[.agg #[.int .i64 t289, .int .i64 t290, .int .i64 t291, .int .i64 t292, .string t293, .int .i64 t294], .agg #[.int .i64 t281, .int .i64 t282, .int .i64 t283, .int .i64 t284, .string t285, .int .i64 t286]] rfl s3_ ?_; (with_reducible refine (laws_eqEvent.calls t289 t290 t291 t292 t293 t294 t281 t282 t283 t284 t285 t286 true _ A5.out).mono ?_); rintro e w16 ⟨rfl, hb⟩; refine ⟨_, rfl, ?_⟩; replace BK288 := Aside0.mk (blk_below (g := gb288) (o := .cells #[.int .i64 t281, .int .i64 t282, .int .i64 t283, .int .i64 t284, .string t285, .int .i64 t286] 27 (0, 0)) (by (with_reducible repeat (first | refine blk_drewN ?_ _ | refine blk_drew ?_ | refine blk_alloc ?_ _)); refine blk_far3 ?_ NB288_296.out; (with_reducible repeat (first | refine blk_drewN ?_ _ | refine blk_drew ?_ | refine blk_alloc ?_ _)); refine blk_far3 ?_ NB288_296.out; (with_reducible repeat (first | refine blk_drewN ?_ _ | refine blk_drew ?_ | refine blk_alloc ?_ _)); exact BK288.out) hb); replace BK296 := Aside0.mk (blk_below (g := gb296) (o := .cells #[.int .i64 t289, .int .i64 t290, .int .i64 t291, .int .i64 t292, .string t293, .int .i64 t294] 27 (0, 0)) (by (with_reducible repeat (first | refine blk_drewN ?_ _ | refine blk_drew ?_ | refine blk_alloc ?_ _)); refine blk_put3 (cs := #[.int .i64 t289, .int .i64 t290, .int .i64 t291, .int .i64 0, .string (⟨#[]⟩ : ByteArray), .int .i64 0]) ?_ rfl; (with_reducible repeat (first | refine blk_drewN ?_ _ | refine blk_drew ?_ | refine blk_alloc ?_ _)); refine blk_put3 (cs := #[.int .i64 0, .int .i64 0, .int .i64 0, .int .i64 0, .string (⟨#[]⟩ : ByteArray), .int .i64 0]) ?_ rfl; (with_reducible repeat (first | refine blk_drewN ?_ _ | refine blk_drew ?_ | refine blk_alloc ?_ _)); exact BK296.out) hb); replace HB := Aside0.mk (below_step (by repeat (first | (with_reducible first | exact HB.out | apply below_alloc | apply pw_below_drewN | apply below_drew1 | refine below_set ?_ GE296.out) | exact HB.out)) hb); (try clear hb); (try clear hb2); (try clear hk); (try clear hi)))
 go_ret
 exact ⟨by first | rfl | (simp [errW_none, errW_some] <;> rfl) | (simp [*, errW_none, errW_some] <;> rfl), by repeat (first | (with_reducible first | exact HB.out | apply below_alloc | apply pw_below_drewN | apply below_drew1) | exact HB.out)⟩}
 {
 rw [if_neg c7] at H
 have c7b0 : (t295 != t287) = false := by simpa using c7
 (try (have c7b1 : decide (t295 = t287) = true := by simpa using c7))
 (try (have c7b2 : (t295 == t287) = true := by simpa using c7))
 clear c7
 obtain rfl := Option.some.inj H
 go_enter Tryd.func4, Tryd.ntmps4
 go_wp2_with (first | ((with_reducible refine gate_callee (f := 9) rfl ?_); refine goesL_ (some 12) rfl rfl Tryd.func9 s2_ rfl #[.string a0] rfl s3_ ?_; (with_reducible refine (spec_ReadEvent.calls k a0 t281 t282 t283 t284 t285 t286 t287 _ A3.out).mono ?_); rintro e w17 ⟨rfl, hb⟩; refine ⟨_, rfl, ?_⟩; replace HB := Aside0.mk (below_step (y1_ HB.out) hb); (try clear hb); (try clear hb2); (try clear hk); (try clear hi)) | ((with_reducible refine gate_dst (N := 3) rfl ?_); refine bx_ 3 #[.int .i64 0, .int .i64 0, .int .i64 0, .int .i64 0, .string (⟨#[]⟩ : ByteArray), .int .i64 0] 27 ?_; intro gb288 hg w18 hbox hb; have GW288 := b6_ hg HB; have GE288 := b6_ hg HB; replace HB := Aside0.mk (below_step (y1_ HB.out) hb); have BK288 := Aside0.mk (hbox); clear hb hbox hg; have hcz19_0 := c1_ BK288 0 (.int .i64 0); have hcz19_1 := c1_ BK288 1 (.int .i64 0); have hcz19_2 := c1_ BK288 2 (.int .i64 0); have hcz19_3 := c1_ BK288 3 (.int .i64 0); have hcz19_4 := c1_ BK288 4 (.string (⟨#[]⟩ : ByteArray)); have hcz19_5 := c1_ BK288 5 (.int .i64 0); have hfz19_0 := f1_ BK288 0; have hfz19_1 := f1_ BK288 1; have hfz19_2 := f1_ BK288 2; have hfz19_3 := f1_ BK288 3; have hfz19_4 := f1_ BK288 4; have hfz19_5 := f1_ BK288 5) | ((with_reducible refine gate_callee (f := 10) rfl ?_); refine goesL_ (some 17) rfl rfl Tryd.func10 s2_ rfl #[.string a0] rfl s3_ ?_; (with_reducible refine (impl_ReadEvent.calls k a0 t289 t290 t291 t292 t293 t294 t295 _ A4.out (HTG.out.on (by repeat (first | (with_reducible first | exact HB.out | apply below_alloc | apply pw_below_drewN | apply below_drew1 | refine below_set ?_ GE288.out) | exact HB.out)))).mono ?_); rintro e w20 ⟨rfl, hb⟩; refine ⟨_, rfl, ?_⟩; replace BK288 := Aside0.mk (blk_below (g := gb288) (o := .cells #[.int .i64 t281, .int .i64 t282, .int .i64 t283, .int .i64 t284, .string t285, .int .i64 t286] 27 (0, 0)) (by (with_reducible repeat (first | refine blk_drewN ?_ _ | refine blk_drew ?_ | refine blk_alloc ?_ _)); refine blk_put3 (cs := #[.int .i64 t281, .int .i64 t282, .int .i64 t283, .int .i64 0, .string (⟨#[]⟩ : ByteArray), .int .i64 0]) ?_ rfl; (with_reducible repeat (first | refine blk_drewN ?_ _ | refine blk_drew ?_ | refine blk_alloc ?_ _)); refine blk_put3 (cs := #[.int .i64 0, .int .i64 0, .int .i64 0, .int .i64 0, .string (⟨#[]⟩ : ByteArray), .int .i64 0]) ?_ rfl; (with_reducible repeat (first | refine blk_drewN ?_ _ | refine blk_drew ?_ | refine blk_alloc ?_ _)); exact BK288.out) hb); replace HB := Aside0.mk (below_step (by repeat (first | (with_reducible first | exact HB.out | apply below_alloc | apply pw_below_drewN | apply below_drew1 | refine below_set ?_ GE288.out) | exact HB.out)) hb); (try clear hb); (try clear hb2); (try clear hk); (try clear hi)) | ((with_reducible refine gate_dst (N := 5) rfl ?_); refine bx_ 5 #[.int .i64 0, .int .i64 0, .int .i64 0, .int .i64 0, .string (⟨#[]⟩ : ByteArray), .int .i64 0] 27 ?_; intro gb296 hg w21 hbox hb; have GW296 := b6_ hg HB; have GE296 := b6_ hg HB; have NB288_296 := b4_ hg BK288; have NB296_288 := b5_ hg BK288; replace BK288 := b3_ BK288 hb; replace HB := Aside0.mk (below_step (y1_ HB.out) hb); have BK296 := Aside0.mk (hbox); clear hb hbox hg; have hnb22 := NB296_288.out; have hnc22 := NB288_296.out; have hcz23_0 := c1_ BK296 0 (.int .i64 0); have hcz23_1 := c1_ BK296 1 (.int .i64 0); have hcz23_2 := c1_ BK296 2 (.int .i64 0); have hcz23_3 := c1_ BK296 3 (.int .i64 0); have hcz23_4 := c1_ BK296 4 (.string (⟨#[]⟩ : ByteArray)); have hcz23_5 := c1_ BK296 5 (.int .i64 0); have hfz23_0 := f1_ BK296 0; have hfz23_1 := f1_ BK296 1; have hfz23_2 := f1_ BK296 2; have hfz23_3 := f1_ BK296 3; have hfz23_4 := f1_ BK296 4; have hfz23_5 := f1_ BK296 5; have hcz24_0 := c1_ BK288 0 (.int .i64 t281); have hcz24_1 := c1_ BK288 1 (.int .i64 t282); have hcz24_2 := c1_ BK288 2 (.int .i64 t283); have hcz24_3 := c1_ BK288 3 (.int .i64 t284); have hcz24_4 := c1_ BK288 4 (.string t285); have hcz24_5 := c1_ BK288 5 (.int .i64 t286); have hfz24_0 := f1_ BK288 0; have hfz24_1 := f1_ BK288 1; have hfz24_2 := f1_ BK288 2; have hfz24_3 := f1_ BK288 3; have hfz24_4 := f1_ BK288 4; have hfz24_5 := f1_ BK288 5) | ((with_reducible refine gate_callee (f := 11) rfl ?_); refine goesL_ (some 22) rfl rfl Tryd.func11 s2_ rfl #[.agg #[.int .i64 t289, .int .i64 t290, .int .i64 t291, .int .i64 t292, .string t293, .int .i64 t294], .agg #[.int .i64 t281, .int .i64 t282, .int .i64 t283, .int .i64 t284, .string t285, .int .i64 t286]] rfl s3_ ?_; (with_reducible refine (laws_eqEvent.calls t289 t290 t291 t292 t293 t294 t281 t282 t283 t284 t285 t286 true _ A5.out).mono ?_); rintro e w25 ⟨rfl, hb⟩; refine ⟨_, rfl, ?_⟩; replace BK288 := Aside0.mk (blk_below (g := gb288) (o := .cells #[.int .i64 t281, .int .i64 t282, .int .i64 t283, .int .i64 t284, .string t285, .int .i64 t286] 27 (0, 0)) (by (with_reducible repeat (first | refine blk_drewN ?_ _ | refine blk_drew ?_ | refine blk_alloc ?_ _)); refine blk_far3 ?_ NB288_296.out; (with_reducible repeat (first | refine blk_drewN ?_ _ | refine blk_drew ?_ | refine blk_alloc ?_ _)); refine blk_far3 ?_ NB288_296.out; (with_reducible repeat (first | refine blk_drewN ?_ _ | refine blk_drew ?_ | refine blk_alloc ?_ _)); exact BK288.out) hb); replace BK296 := Aside0.mk (blk_below (g := gb296) (o := .cells #[.int .i64 t289, .int .i64 t290, .int .i64 t291, .int .i64 t292, .string t293, .int .i64 t294] 27 (0, 0)) (by (with_reducible repeat (first | refine blk_drewN ?_ _ | refine blk_drew ?_ | refine blk_alloc ?_ _)); refine blk_put3 (cs := #[.int .i64 t289, .int .i64 t290, .int .i64 t291, .int .i64 0, .string (⟨#[]⟩ : ByteArray), .int .i64 0]) ?_ rfl; (with_reducible repeat (first | refine blk_drewN ?_ _ | refine blk_drew ?_ | refine blk_alloc ?_ _)); refine blk_put3 (cs := #[.int .i64 0, .int .i64 0, .int .i64 0, .int .i64 0, .string (⟨#[]⟩ : ByteArray), .int .i64 0]) ?_ rfl; (with_reducible repeat (first | refine blk_drewN ?_ _ | refine blk_drew ?_ | refine blk_alloc ?_ _)); exact BK296.out) hb); replace HB := Aside0.mk (below_step (by repeat (first | (with_reducible first | exact HB.out | apply below_alloc | apply pw_below_drewN | apply below_drew1 | refine below_set ?_ GE296.out) | exact HB.out)) hb); (try clear hb); (try clear hb2); (try clear hk); (try clear hi)))
 go_ret
 exact ⟨by first | rfl | (simp [errW_none, errW_some] <;> rfl) | (simp [*, errW_none, errW_some] <;> rfl), by repeat (first | (with_reducible first | exact HB.out | apply below_alloc | apply pw_below_drewN | apply below_drew1) | exact HB.out)⟩}}
 {
 replace c6 := Bool.eq_false_iff.mpr c6
 subst c6
 have H1 : (some false) = some r := by rw [if_neg (show ¬ (false = true) by decide)] at H; exact H
 clear H
 have H := H1
 clear H1
 obtain rfl := Option.some.inj H
 go_enter Tryd.func4, Tryd.ntmps4
 go_wp2_with (first | ((with_reducible refine gate_callee (f := 9) rfl ?_); refine goesL_ (some 12) rfl rfl Tryd.func9 s2_ rfl #[.string a0] rfl s3_ ?_; (with_reducible refine (spec_ReadEvent.calls k a0 t281 t282 t283 t284 t285 t286 t287 _ A3.out).mono ?_); rintro e w26 ⟨rfl, hb⟩; refine ⟨_, rfl, ?_⟩; replace HB := Aside0.mk (below_step (y1_ HB.out) hb); (try clear hb); (try clear hb2); (try clear hk); (try clear hi)) | ((with_reducible refine gate_dst (N := 3) rfl ?_); refine bx_ 3 #[.int .i64 0, .int .i64 0, .int .i64 0, .int .i64 0, .string (⟨#[]⟩ : ByteArray), .int .i64 0] 27 ?_; intro gb288 hg w27 hbox hb; have GW288 := b6_ hg HB; have GE288 := b6_ hg HB; replace HB := Aside0.mk (below_step (y1_ HB.out) hb); have BK288 := Aside0.mk (hbox); clear hb hbox hg; have hcz28_0 := c1_ BK288 0 (.int .i64 0); have hcz28_1 := c1_ BK288 1 (.int .i64 0); have hcz28_2 := c1_ BK288 2 (.int .i64 0); have hcz28_3 := c1_ BK288 3 (.int .i64 0); have hcz28_4 := c1_ BK288 4 (.string (⟨#[]⟩ : ByteArray)); have hcz28_5 := c1_ BK288 5 (.int .i64 0); have hfz28_0 := f1_ BK288 0; have hfz28_1 := f1_ BK288 1; have hfz28_2 := f1_ BK288 2; have hfz28_3 := f1_ BK288 3; have hfz28_4 := f1_ BK288 4; have hfz28_5 := f1_ BK288 5) | ((with_reducible refine gate_callee (f := 10) rfl ?_); refine goesL_ (some 17) rfl rfl Tryd.func10 s2_ rfl #[.string a0] rfl s3_ ?_; (with_reducible refine (impl_ReadEvent.calls k a0 t289 t290 t291 t292 t293 t294 t295 _ A4.out (HTG.out.on (by repeat (first | (with_reducible first | exact HB.out | apply below_alloc | apply pw_below_drewN | apply below_drew1 | refine below_set ?_ GE288.out) | exact HB.out)))).mono ?_); rintro e w29 ⟨rfl, hb⟩; refine ⟨_, rfl, ?_⟩; replace BK288 := Aside0.mk (blk_below (g := gb288) (o := .cells #[.int .i64 t281, .int .i64 t282, .int .i64 t283, .int .i64 t284, .string t285, .int .i64 t286] 27 (0, 0)) (by (with_reducible repeat (first | refine blk_drewN ?_ _ | refine blk_drew ?_ | refine blk_alloc ?_ _)); refine blk_put3 (cs := #[.int .i64 t281, .int .i64 t282, .int .i64 t283, .int .i64 0, .string (⟨#[]⟩ : ByteArray), .int .i64 0]) ?_ rfl; (with_reducible repeat (first | refine blk_drewN ?_ _ | refine blk_drew ?_ | refine blk_alloc ?_ _)); refine blk_put3 (cs := #[.int .i64 0, .int .i64 0, .int .i64 0, .int .i64 0, .string (⟨#[]⟩ : ByteArray), .int .i64 0]) ?_ rfl; (with_reducible repeat (first | refine blk_drewN ?_ _ | refine blk_drew ?_ | refine blk_alloc ?_ _)); exact BK288.out) hb); replace HB := Aside0.mk (below_step (by repeat (first | (with_reducible first | exact HB.out | apply below_alloc | apply pw_below_drewN | apply below_drew1 | refine below_set ?_ GE288.out) | exact HB.out)) hb); (try clear hb); (try clear hb2); (try clear hk); (try clear hi)) | ((with_reducible refine gate_dst (N := 5) rfl ?_); refine bx_ 5 #[.int .i64 0, .int .i64 0, .int .i64 0, .int .i64 0, .string (⟨#[]⟩ : ByteArray), .int .i64 0] 27 ?_; intro gb296 hg w30 hbox hb; have GW296 := b6_ hg HB; have GE296 := b6_ hg HB; have NB288_296 := b4_ hg BK288; have NB296_288 := b5_ hg BK288; replace BK288 := b3_ BK288 hb; replace HB := Aside0.mk (below_step (y1_ HB.out) hb); have BK296 := Aside0.mk (hbox); clear hb hbox hg; have hnb31 := NB296_288.out; have hnc31 := NB288_296.out; have hcz32_0 := c1_ BK296 0 (.int .i64 0); have hcz32_1 := c1_ BK296 1 (.int .i64 0); have hcz32_2 := c1_ BK296 2 (.int .i64 0); have hcz32_3 := c1_ BK296 3 (.int .i64 0); have hcz32_4 := c1_ BK296 4 (.string (⟨#[]⟩ : ByteArray)); have hcz32_5 := c1_ BK296 5 (.int .i64 0); have hfz32_0 := f1_ BK296 0; have hfz32_1 := f1_ BK296 1; have hfz32_2 := f1_ BK296 2; have hfz32_3 := f1_ BK296 3; have hfz32_4 := f1_ BK296 4; have hfz32_5 := f1_ BK296 5; have hcz33_0 := c1_ BK288 0 (.int .i64 t281); have hcz33_1 := c1_ BK288 1 (.int .i64 t282); have hcz33_2 := c1_ BK288 2 (.int .i64 t283); have hcz33_3 := c1_ BK288 3 (.int .i64 t284); have hcz33_4 := c1_ BK288 4 (.string t285); have hcz33_5 := c1_ BK288 5 (.int .i64 t286); have hfz33_0 := f1_ BK288 0; have hfz33_1 := f1_ BK288 1; have hfz33_2 := f1_ BK288 2; have hfz33_3 := f1_ BK288 3; have hfz33_4 := f1_ BK288 4; have hfz33_5 := f1_ BK288 5) | ((with_reducible refine gate_callee (f := 11) rfl ?_); refine goesL_ (some 22) rfl rfl Tryd.func11 s2_ rfl #[.agg #[.int .i64 t289, .int .i64 t290, .int .i64 t291, .int .i64 t292, .string t293, .int .i64 t294], .agg #[.int .i64 t281, .int .i64 t282, .int .i64 t283, .int .i64 t284, .string t285, .int .i64 t286]] rfl s3_ ?_; (with_reducible refine (laws_eqEvent.calls t289 t290 t291 t292 t293 t294 t281 t282 t283 t284 t285 t286 false _ A5.out).mono ?_); rintro e w34 ⟨rfl, hb⟩; refine ⟨_, rfl, ?_⟩; replace BK288 := Aside0.mk (blk_below (g := gb288) (o := .cells #[.int .i64 t281, .int .i64 t282, .int .i64 t283, .int .i64 t284, .string t285, .int .i64 t286] 27 (0, 0)) (by (with_reducible repeat (first | refine blk_drewN ?_ _ | refine blk_drew ?_ | refine blk_alloc ?_ _)); refine blk_far3 ?_ NB288_296.out; (with_reducible repeat (first | refine blk_drewN ?_ _ | refine blk_drew ?_ | refine blk_alloc ?_ _)); refine blk_far3 ?_ NB288_296.out; (with_reducible repeat (first | refine blk_drewN ?_ _ | refine blk_drew ?_ | refine blk_alloc ?_ _)); exact BK288.out) hb); replace BK296 := Aside0.mk (blk_below (g := gb296) (o := .cells #[.int .i64 t289, .int .i64 t290, .int .i64 t291, .int .i64 t292, .string t293, .int .i64 t294] 27 (0, 0)) (by (with_reducible repeat (first | refine blk_drewN ?_ _ | refine blk_drew ?_ | refine blk_alloc ?_ _)); refine blk_put3 (cs := #[.int .i64 t289, .int .i64 t290, .int .i64 t291, .int .i64 0, .string (⟨#[]⟩ : ByteArray), .int .i64 0]) ?_ rfl; (with_reducible repeat (first | refine blk_drewN ?_ _ | refine blk_drew ?_ | refine blk_alloc ?_ _)); refine blk_put3 (cs := #[.int .i64 0, .int .i64 0, .int .i64 0, .int .i64 0, .string (⟨#[]⟩ : ByteArray), .int .i64 0]) ?_ rfl; (with_reducible repeat (first | refine blk_drewN ?_ _ | refine blk_drew ?_ | refine blk_alloc ?_ _)); exact BK296.out) hb); replace HB := Aside0.mk (below_step (by repeat (first | (with_reducible first | exact HB.out | apply below_alloc | apply pw_below_drewN | apply below_drew1 | refine below_set ?_ GE296.out) | exact HB.out)) hb); (try clear hb); (try clear hb2); (try clear hk); (try clear hi)))
 go_ret
 exact ⟨by first | rfl | (simp [errW_none, errW_some] <;> rfl) | (simp [*, errW_none, errW_some] <;> rfl), by repeat (first | (with_reducible first | exact HB.out | apply below_alloc | apply pw_below_drewN | apply below_drew1) | exact HB.out)⟩}}

/-- THE ONE PURE STATEMENT of laws_FnExactReadEvent: yours. -/
def laws_FnExactReadEvent.Pure : Prop := ∀ (a0 : ByteArray), a0.size ≤ 140737488351232 → ∃ k, laws_FnExactReadEvent.f k a0 = some true
theorem laws_FnExactReadEvent.walk (P : laws_FnExactReadEvent.Pure) (a0 : ByteArray) (w : World) (hG : TG w) (w0 : a0.size ≤ 140737488351232) :
    Calls Tryd.prog 4 #[.string a0] w fun e w' => e = .returned (.bool true) ∧ Below w.heap.size w w' := by
  obtain ⟨k, h⟩ := P a0 w0
  refine (laws_FnExactReadEvent.calls k a0 true w h hG).mono ?_
  rintro e w' ⟨rfl, hd⟩
  exact ⟨rfl, hd⟩

end Go.Proofs.YtgmbgpjebpgpkaaDoor.QFnExactReadEvent
