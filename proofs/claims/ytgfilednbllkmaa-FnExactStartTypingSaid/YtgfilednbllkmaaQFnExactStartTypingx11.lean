-- written by a program of this session, on the lines of the kit's print
import Derived.Test.YtgfilednbllkmaaQFnExactStartTypingx0
namespace Go.Proofs.Ytgfilednbllkmaa.QFnExactStartTyping
open Go.RowKit Go.Proofs.YtgfilednbllkmaaW.PrintWords Go.Proofs.YtgfilednbllkmaaW.PrintLast Go.Proofs.YtgfilednbllkmaaW.PrintMore
attribute [local go_sem] max2_int min2_int max_two min_two max_three min_three max_four min_four   -- for this text's walks alone
set_option linter.unusedVariables false
set_option linter.unusedSimpArgs false

/-! ### spec_l05Own: function 62 -/
abbrev spec_l05Own.T : Bool := true
abbrev spec_l05Own.F : Bool := false
theorem spec_l05Own.s2_ {P : Prop} (h : P := by kernel_rfl) : P := h
abbrev spec_l05Own.m0_ : Array Bool := #[T,T,T,T,T,T,T,T,T,T,T,T,T,T,T,T,T,F,F,F]
abbrev spec_l05Own.m1_ : Array Bool := #[T,T,T,T,T,T,T,T,T,T,T,T,F,T,T,T,T,F,F,F]
abbrev spec_l05Own.m2_ : Array Bool := #[T,T,T,T,T,T,T,T,T,T,T,F,T,T,T,T,T,F,F,F]
abbrev spec_l05Own.m3_ : Array Bool := #[T,T,T,T,T,T,T,T,T,T,T,F,F,T,T,T,T,F,F,F]
abbrev spec_l05Own.m4_ : Array Bool := #[T,T,T,T,T,T,F,T,T,T,T,F,T,T,T,T,T,F,F,F]
abbrev spec_l05Own.m5_ : Array Bool := #[T,T,T,T,T,F,T,T,T,T,T,F,T,T,T,T,T,F,F,F]
abbrev spec_l05Own.m6_ : Array Bool := #[T,T,T,T,T,T,F,T,T,T,T,F,F,T,T,T,T,F,F,F]
abbrev spec_l05Own.m7_ : Array Bool := #[T,T,T,T,T,F,T,T,T,T,T,F,F,T,T,T,T,F,F,F]
abbrev spec_l05Own.m8_ : Array Bool := #[T,T,T,T,T,F,F,T,T,T,T,F,T,T,T,T,T,F,F,F]
abbrev spec_l05Own.m9_ : Array Bool := #[F,T,T,T,T,F,T,T,T,T,T,F,T,T,T,T,T,F,F,F]
abbrev spec_l05Own.m10_ : Array Bool := #[T,T,T,T,T,F,F,T,T,T,T,F,F,T,T,T,T,F,F,F]
abbrev spec_l05Own.m11_ : Array Bool := #[F,T,T,T,T,F,T,T,T,T,T,F,F,T,T,T,T,F,F,F]
abbrev spec_l05Own.m12_ : Array Bool := #[F,T,T,T,T,F,F,T,T,T,T,F,T,T,T,T,T,F,F,F]
theorem spec_l05Own.p1_ {P : Prop} (h : P := by simp only [Act.put, List.setIfInBounds_toArray, List.set_cons_zero, List.set_cons_succ, i64_w, i32_w]; rfl) : P := h
theorem spec_l05Own.b1_ {P Q : Prop} (q : Q) (h : Q → P := by intro q_; (with_reducible repeat (first | refine blk_drewN ?_ _ | refine blk_drew ?_ | refine blk_alloc ?_ _)); exact q_) : P := h q
theorem spec_l05Own.b2_ {P Q : Prop} (q : Q) (h : Q → P := by intro q_; (with_reducible repeat (first | apply Kd.R_alloc | apply Kd.R_drewN | apply Kd.R_drew)); exact q_) : P := h q
theorem spec_l05Own.y1_ {P Q : Prop} (q : Q) (h : Q → P := by intro q_; repeat (first | (with_reducible first | exact q_ | apply below_alloc | apply pw_below_drewN | apply below_drew1) | exact q_)) : P := h q
theorem spec_l05Own.y2_ {P Q : Prop} (q : Q) (h : Q → P := by intro q_; repeat (first | exact q_ | (with_reducible refine Kd.C_alloc ?_ _) | (with_reducible refine Kd.C_drewN ?_ _) | (with_reducible refine Kd.C_drew ?_))) : P := h q
theorem spec_l05Own.b3_ {w w1 W : World} {g : Nat} {o : Obj} (q : Aside0 (w.heap[g]? = some o)) (hb : Below W.heap.size W w1) (h : w.heap[g]? = some o → W.heap[g]? = some o := by intro q_; (with_reducible repeat (first | refine blk_drewN ?_ _ | refine blk_drew ?_ | refine blk_alloc ?_ _)); exact q_) : Aside0 (w1.heap[g]? = some o) := ⟨blk_below (h q.out) hb⟩
theorem spec_l05Own.b4_ {w W : World} {g k : Nat} {o : Obj} (hg : k = W.heap.size) (q : Aside0 (w.heap[g]? = some o)) (h : w.heap[g]? = some o → W.heap[g]? = some o := by intro q_; (with_reducible repeat (first | refine blk_drewN ?_ _ | refine blk_drew ?_ | refine blk_alloc ?_ _)); exact q_) : Aside0 (g ≠ k) := ⟨by rw [hg]; exact Nat.ne_of_lt (blk_lt (h q.out))⟩
theorem spec_l05Own.b5_ {w W : World} {g k : Nat} {o : Obj} (hg : k = W.heap.size) (q : Aside0 (w.heap[g]? = some o)) (h : w.heap[g]? = some o → W.heap[g]? = some o := by intro q_; (with_reducible repeat (first | refine blk_drewN ?_ _ | refine blk_drew ?_ | refine blk_alloc ?_ _)); exact q_) : Aside0 (k ≠ g) := ⟨by rw [hg]; exact Nat.ne_of_gt (blk_lt (h q.out))⟩
theorem spec_l05Own.b6_ {w w' W : World} {k : Nat} (hg : k = W.heap.size) (q : Aside0 (Below w.heap.size w w')) (h : Below w.heap.size w w' → Below w.heap.size w W := by intro q_; repeat (first | (with_reducible first | exact q_ | apply below_alloc | apply pw_below_drewN | apply below_drew1) | exact q_)) : Aside0 (w.heap.size ≤ k) := ⟨by rw [hg]; exact below_size (h q.out)⟩
theorem spec_l05Own.r1_ {α : Type} {d : Kd α} {e base : Nat} {ok : Nat → Prop} {v : Value} {xs : List α} {w W w1 : World} (q : Aside0 (d.R e w base ok v xs)) (hb : Below W.heap.size W w1) (h : d.R e w base ok v xs → d.R e W base ok v xs := by intro q_; (with_reducible repeat (first | apply Kd.R_alloc | apply Kd.R_drewN | apply Kd.R_drew)); exact q_) : Aside0 (d.R e w1 base ok v xs) := ⟨Kd.R_below (h q.out) hb⟩
theorem spec_l05Own.pu_ {P : Program} {md : Region.Mode} {ops : Array Oper} {Q : Exit → Act → World → Prop} {S : World → Prop} {ds : List Nat} {fuel : Nat} {l : Array Bool} {a : Act} {w : World} {oi : Oper} {a' : Act} {v : Value} (i N : Nat) (l' : Array Bool) (hc : anyB md ops l l' i = true) (h : wpAnyLast P md ops Q S ds fuel l' a' w) (hi : ops[i]? = some oi := by rfl) (hN : oi.dst = some N := by rfl) (hQ : ∀ c a w, Q (.panic c) (a.put oi.dst v) w → Q (.panic c) a w := by exact fun _ _ _ h => h) (hy : Yields P ops oi v a := by exact Or.inl ⟨by rfl, by intro w'; go_simp; with_reducible rfl⟩) (ha : a.put (some N) v = a' := by simp only [Act.put, List.setIfInBounds_toArray, List.set_cons_zero, List.set_cons_succ, i64_w, i32_w]; rfl) : wpAnyLast P md ops Q S ds (fuel + 1) l a w := pure_ l' hi hN hc hQ hy ha h
def spec_l05Own.f (l0_0 : List (S63)) (l0_1 : List (S63)) (l0_2 : List (S73)) : Option ((List (S63)) × (List (S63)) × (List (S73))) := (some (([] : List (S63)) : List (S63))).bind fun y250 => (if y250.length + l0_0.length < 8796093022208 then ((some (([] : List (S63)) : List (S63))).bind fun y256 => (if y256.length + l0_1.length < 8796093022208 then ((some (([] : List (S73)) : List (S73))).bind fun y262 => (if y262.length + l0_2.length < 8796093022208 then (some ((y250 ++ l0_0), (y256 ++ l0_1), (y262 ++ l0_2))) else (none))) else (none))) else (none))
def spec_l05Own.T1 : Bool × List (List Nat × List Nat) := (true, [([], []), ([], []), ([1], [1]), ([2], [2]), ([3], [3]), ([0, 4], [0, 4]), ([], []), ([], []), ([7], [7]), ([8], [8]), ([9], [9]), ([6, 10, 5], [6, 10]), ([], []), ([], []), ([13], [13]), ([14], [14]), ([15], [15]), ([12, 16, 11], [12, 16]), ([5, 11, 17], [5, 11, 17]), ([18, 17, 0, 1, 2, 3, 4, 5, 6, 7, 8, 9, 10, 11, 12, 13, 14, 15, 16, 17, 18], [18])])
def spec_l05Own.B1 : List Nat := [0, 0, 2, 6, 14, 31, 0, 0, 128, 384, 896, 2047, 0, 0, 8192, 24576, 57344, 131071, 262143, 524287]
theorem spec_l05Own.tab1 : rtab .any (opsOf Try.f62 1) = spec_l05Own.T1 := by kernel_rfl
theorem spec_l05Own.bits1 : waitsOk spec_l05Own.T1.2 spec_l05Own.B1 = true := by kernel_rfl
set_option maxHeartbeats 8000000 in
set_option maxRecDepth 100000 in
theorem spec_l05Own.calls (g0_ : Nat) (A0_0 : Option Addr) (c0_0 : Nat) (l0_0 : List (S63)) (A0_1 : Option Addr) (c0_1 : Nat) (l0_1 : List (S63)) (A0_2 : Option Addr) (c0_2 : Nat) (l0_2 : List (S73)) (r1 : List (S63)) (r2 : List (S63)) (r3 : List (S73)) (w : World) (hbk0 : w.heap[g0_]? = some (.cells #[.slice A0_0 l0_0.length c0_0, .slice A0_1 l0_1.length c0_1, .slice A0_2 l0_2.length c0_2] 27 (0, 0))) (hr0_0 : Kd.C k63 w A0_0 l0_0.length l0_0) (hc0_0 : l0_0.length ≤ c0_0) (hr0_1 : Kd.C k63 w A0_1 l0_1.length l0_1) (hc0_1 : l0_1.length ≤ c0_1) (hr0_2 : Kd.C k73 w A0_2 l0_2.length l0_2) (hc0_2 : l0_2.length ≤ c0_2) (h : spec_l05Own.f l0_0 l0_1 l0_2 = some (r1, r2, r3)) :
    Calls Try.prog 62 #[.pointer (some ⟨g0_, 0, none⟩)] w fun e w' => ∃ v0_ v1_ v2_ : Value, e = .returned (.agg #[v0_, v1_, v2_]) ∧ Kd.R k63 63 w' w.heap.size (fun k_ => some k_ ≠ (v1_ : Value).ownBlock) v0_ r1 ∧ Kd.R k63 63 w' w.heap.size (fun k_ => some k_ ≠ (v0_ : Value).ownBlock) v1_ r2 ∧ Kd.R k73 73 w' w.heap.size (fun _ => True) v2_ r3 ∧ Below w.heap.size w w' := by
 have hu27 := Try.underlying27
 have HR0_0 := Aside0.mk hr0_0
 have HC0_0 := Aside0.mk hc0_0
 clear hr0_0 hc0_0
 have HR0_1 := Aside0.mk hr0_1
 have HC0_1 := Aside0.mk hc0_1
 clear hr0_1 hc0_1
 have HR0_2 := Aside0.mk hr0_2
 have HC0_2 := Aside0.mk hc0_2
 clear hr0_2 hc0_2
 have BK0 := Aside0.mk hbk0
 clear hbk0
 have HB := Aside0.mk (Below.refl w.heap.size w)
 have H : ((some (([] : List (S63)) : List (S63))).bind fun y250 => (if y250.length + l0_0.length < 8796093022208 then ((some (([] : List (S63)) : List (S63))).bind fun y256 => (if y256.length + l0_1.length < 8796093022208 then ((some (([] : List (S73)) : List (S73))).bind fun y262 => (if y262.length + l0_2.length < 8796093022208 then (some ((y250 ++ l0_0), (y256 ++ l0_1), (y262 ++ l0_2))) else (none))) else (none))) else (none))) = some (r1, r2, r3) := h
 clear h
 obtain ⟨y250, hy250⟩ : ∃ y_ : List (S63), y_ = (([] : List (S63))) := ⟨_, rfl⟩
 replace H : (if y250.length + l0_0.length < 8796093022208 then ((some (([] : List (S63)) : List (S63))).bind fun y256 => (if y256.length + l0_1.length < 8796093022208 then ((some (([] : List (S73)) : List (S73))).bind fun y262 => (if y262.length + l0_2.length < 8796093022208 then (some ((y250 ++ l0_0), (y256 ++ l0_1), (y262 ++ l0_2))) else (none))) else (none))) else (none)) = some (r1, r2, r3) := by first | (rw [hy250]; with_reducible exact H) | (have H2_ := (Option.bind_some _ _).symm.trans H; rw [hy250]; with_reducible exact H2_) | (have H2_ := (Option.bind_some _ _).symm.trans H; with_reducible exact H2_) | with_reducible exact H | (rw [hy250]; exact H) | exact H
 have Ny250 := Aside0.mk hy250
 clear hy250
 by_cases c2 : y250.length + l0_0.length < 8796093022208
 {
 rw [if_pos c2] at H
 have LMc2 := Aside0.mk c2
 clear c2
 obtain ⟨y253, hy253⟩ : ∃ y_ : List (S63), y_ = (y250 ++ l0_0) := ⟨_, rfl⟩
 replace H : ((some (([] : List (S63)) : List (S63))).bind fun y256 => (if y256.length + l0_1.length < 8796093022208 then ((some (([] : List (S73)) : List (S73))).bind fun y262 => (if y262.length + l0_2.length < 8796093022208 then (some (y253, (y256 ++ l0_1), (y262 ++ l0_2))) else (none))) else (none))) = some (r1, r2, r3) := by first | (rw [hy253]; with_reducible exact H) | (have H2_ := (Option.bind_some _ _).symm.trans H; rw [hy253]; with_reducible exact H2_) | (have H2_ := (Option.bind_some _ _).symm.trans H; with_reducible exact H2_) | with_reducible exact H | (rw [hy253]; exact H) | exact H
 have Ny253 := Aside0.mk hy253
 clear hy253
 obtain ⟨y256, hy256⟩ : ∃ y_ : List (S63), y_ = (([] : List (S63))) := ⟨_, rfl⟩
 replace H : (if y256.length + l0_1.length < 8796093022208 then ((some (([] : List (S73)) : List (S73))).bind fun y262 => (if y262.length + l0_2.length < 8796093022208 then (some (y253, (y256 ++ l0_1), (y262 ++ l0_2))) else (none))) else (none)) = some (r1, r2, r3) := by first | (rw [hy256]; with_reducible exact H) | (have H2_ := (Option.bind_some _ _).symm.trans H; rw [hy256]; with_reducible exact H2_) | (have H2_ := (Option.bind_some _ _).symm.trans H; with_reducible exact H2_) | with_reducible exact H | (rw [hy256]; exact H) | exact H
 have Ny256 := Aside0.mk hy256
 clear hy256
 by_cases c3 : y256.length + l0_1.length < 8796093022208
 {
 rw [if_pos c3] at H
 have LMc3 := Aside0.mk c3
 clear c3
 obtain ⟨y259, hy259⟩ : ∃ y_ : List (S63), y_ = (y256 ++ l0_1) := ⟨_, rfl⟩
 replace H : ((some (([] : List (S73)) : List (S73))).bind fun y262 => (if y262.length + l0_2.length < 8796093022208 then (some (y253, y259, (y262 ++ l0_2))) else (none))) = some (r1, r2, r3) := by first | (rw [hy259]; with_reducible exact H) | (have H2_ := (Option.bind_some _ _).symm.trans H; rw [hy259]; with_reducible exact H2_) | (have H2_ := (Option.bind_some _ _).symm.trans H; with_reducible exact H2_) | with_reducible exact H | (rw [hy259]; exact H) | exact H
 have Ny259 := Aside0.mk hy259
 clear hy259
 obtain ⟨y262, hy262⟩ : ∃ y_ : List (S73), y_ = (([] : List (S73))) := ⟨_, rfl⟩
 replace H : (if y262.length + l0_2.length < 8796093022208 then (some (y253, y259, (y262 ++ l0_2))) else (none)) = some (r1, r2, r3) := by first | (rw [hy262]; with_reducible exact H) | (have H2_ := (Option.bind_some _ _).symm.trans H; rw [hy262]; with_reducible exact H2_) | (have H2_ := (Option.bind_some _ _).symm.trans H; with_reducible exact H2_) | with_reducible exact H | (rw [hy262]; exact H) | exact H
 have Ny262 := Aside0.mk hy262
 clear hy262
 by_cases c4 : y262.length + l0_2.length < 8796093022208
 {
 rw [if_pos c4] at H
 have LMc4 := Aside0.mk c4
 clear c4
 obtain ⟨y265, hy265⟩ : ∃ y_ : List (S73), y_ = (y262 ++ l0_2) := ⟨_, rfl⟩
 replace H : (some (y253, y259, y265)) = some (r1, r2, r3) := by first | (rw [hy265]; with_reducible exact H) | (have H2_ := (Option.bind_some _ _).symm.trans H; rw [hy265]; with_reducible exact H2_) | (have H2_ := (Option.bind_some _ _).symm.trans H; with_reducible exact H2_) | with_reducible exact H | (rw [hy265]; exact H) | exact H
 have Ny265 := Aside0.mk hy265
 clear hy265
 simp only [Option.some.injEq, Prod.mk.injEq] at H
 obtain ⟨rfl, rfl, rfl⟩ := H
 go_enter Try.func62, Try.ntmps62
 try go_wp2_with (first | ((with_reducible refine gate_dst (N := 2) rfl ?_); refine box_event ?hg (N := 2) ?hd (cs := #[.slice none 0 0, .slice none 0 0, .slice none 0 0]) (t := 27) ?hr ?_; (case hd => rfl); (case hg => rfl); (case hr => first | (go_simp; done) | (go_simp; rfl)); intro gb249 hg w5 hbox hb; have GW249 := b6_ hg HB; have GE249 := b6_ hg HB; have NB0_249 := b4_ hg BK0; have NB249_0 := b5_ hg BK0; replace BK0 := b3_ BK0 hb; replace HB := Aside0.mk (below_step (y1_ HB.out) hb); have BK249 := Aside0.mk (hbox); clear hb hbox hg))
 replace BK0 := Aside0.mk (blk_drew BK0.out)
 replace BK249 := Aside0.mk (blk_drew BK249.out)
 replace HB := Aside0.mk (below_drew1 HB.out)
 refine start_ (n := 20) (S := fun w' => w'.cell? ⟨g0_, 0, none⟩ = some (.slice A0_0 l0_0.length c0_0) ∧ w'.cell? ⟨g0_, 1, none⟩ = some (.slice A0_1 l0_1.length c0_1) ∧ w'.cell? ⟨g0_, 2, none⟩ = some (.slice A0_2 l0_2.length c0_2)) (ds := []) #[F,F,F,F,F,F,F,F,F,F,F,F,F,F,F,F,F,F,F,F] s2_ rfl rfl ⟨(blk_cell BK0.out 0).trans rfl, (blk_cell BK0.out 1).trans rfl, (blk_cell BK0.out 2).trans rfl⟩ (fun hHeld => ?_); refine with_tabW spec_l05Own.tab1 spec_l05Own.bits1 (fun HT_ HW_ => ?_)
 generalize w5.drew = w6 at BK0 BK249 HB hHeld ⊢
 refine pu_ 1 4 #[F,T,F,F,F,F,F,F,F,F,F,F,F,F,F,F,F,F,F,F] (any_of HT_.out s2_) ?_
 refine pu_ 2 5 #[F,T,T,F,F,F,F,F,F,F,F,F,F,F,F,F,F,F,F,F] (any_of HT_.out s2_) ?_
 refine pu_ 3 6 #[F,T,T,T,F,F,F,F,F,F,F,F,F,F,F,F,F,F,F,F] (any_of HT_.out s2_) ?_
 refine pu_ 7 10 #[F,T,T,T,F,F,F,T,F,F,F,F,F,F,F,F,F,F,F,F] (any_of HT_.out s2_) ?_
 refine pu_ 8 11 #[F,T,T,T,F,F,F,T,T,F,F,F,F,F,F,F,F,F,F,F] (any_of HT_.out s2_) ?_
 refine pu_ 9 12 #[F,T,T,T,F,F,F,T,T,T,F,F,F,F,F,F,F,F,F,F] (any_of HT_.out s2_) ?_
 refine pu_ 13 16 #[F,T,T,T,F,F,F,T,T,T,F,F,F,T,F,F,F,F,F,F] (any_of HT_.out s2_) ?_
 refine pu_ 14 17 #[F,T,T,T,F,F,F,T,T,T,F,F,F,T,T,F,F,F,F,F] (any_of HT_.out s2_) ?_
 refine pu_ 15 18 #[F,T,T,T,F,F,F,T,T,T,F,F,F,T,T,T,F,F,F,F] (any_of HT_.out s2_) ?_
 refine take_ (i := 4) (N := some 7) (v := ?_) (a' := ?_) #[F,T,T,T,T,F,F,T,T,T,F,F,F,T,T,T,F,F,F,F] rfl rfl (take_ofW HT_.out HW_.out s2_) (fun _ _ _ h => h) (Or.inl ⟨by rfl, ?_⟩) hHeld ?_ ?_
 rotate_left
 {
 rintro w' ⟨s0, s1, s2⟩
 go_simp
 with_reducible rfl}
 rotate_left
 · exact p1_
 refine take_ (i := 10) (N := some 13) (v := ?_) (a' := ?_) #[F,T,T,T,T,F,F,T,T,T,T,F,F,T,T,T,F,F,F,F] rfl rfl (take_ofW HT_.out HW_.out s2_) (fun _ _ _ h => h) (Or.inl ⟨by rfl, ?_⟩) hHeld ?_ ?_
 rotate_left
 {
 rintro w' ⟨s0, s1, s2⟩
 go_simp
 with_reducible rfl}
 rotate_left
 · exact p1_
 refine take_ (i := 16) (N := some 19) (v := ?_) (a' := ?_) #[F,T,T,T,T,F,F,T,T,T,T,F,F,T,T,T,T,F,F,F] rfl rfl (take_ofW HT_.out HW_.out s2_) (fun _ _ _ h => h) (Or.inl ⟨by rfl, ?_⟩) hHeld ?_ ?_
 rotate_left
 {
 rintro w' ⟨s0, s1, s2⟩
 go_simp
 with_reducible rfl}
 rotate_left
 · exact p1_
 refine join_ (σ := Value × Value × Value × Value × Value) 3 m0_ (fun s_ => [(3, s_.1), (8, s_.2.1), (9, s_.2.2.1), (14, s_.2.2.2.1), (15, s_.2.2.2.2)]) (fun s_ w' => (w'.cell? ⟨g0_, 0, none⟩ = some (.slice A0_0 l0_0.length c0_0) ∧ w'.cell? ⟨g0_, 1, none⟩ = some (.slice A0_1 l0_1.length c0_1) ∧ w'.cell? ⟨g0_, 2, none⟩ = some (.slice A0_2 l0_2.length c0_2)) ∧ (Kd.R k63 63 w' w.heap.size (fun k_ => some k_ ≠ (s_.2.2.2.1 : Value).ownBlock) s_.2.1 y253) ∧ (Kd.R k63 63 w' w.heap.size (fun k_ => some k_ ≠ (s_.2.1 : Value).ownBlock) s_.2.2.2.1 y259) ∧ (Kd.R k73 73 w' w.heap.size (fun _ => True) s_.2.2.2.2 y262) ∧ (w'.heap[g0_]? = some (.cells #[.slice A0_0 l0_0.length c0_0, .slice A0_1 l0_1.length c0_1, .slice A0_2 l0_2.length c0_2] 27 (0, 0))) ∧ (w'.heap[gb249]? = some (.cells #[.slice none 0 0, .slice none 0 0, .slice none 0 0] 27 (0, 0))) ∧ (Below w.heap.size w w')) ?_ ?_
 rotate_left
 {
 intro hJ0_5_6_11_12
 refine join_ (σ := Value × Value × Value × Value) 4 m1_ (fun s_ => [(3, s_.1), (8, s_.2.1), (9, s_.2.2.1), (14, s_.2.2.2)]) (fun s_ w' => (w'.cell? ⟨g0_, 0, none⟩ = some (.slice A0_0 l0_0.length c0_0) ∧ w'.cell? ⟨g0_, 1, none⟩ = some (.slice A0_1 l0_1.length c0_1) ∧ w'.cell? ⟨g0_, 2, none⟩ = some (.slice A0_2 l0_2.length c0_2)) ∧ (Kd.R k63 63 w' w.heap.size (fun k_ => some k_ ≠ (s_.2.2.2 : Value).ownBlock) s_.2.1 y253) ∧ (Kd.R k63 63 w' w.heap.size (fun k_ => some k_ ≠ (s_.2.1 : Value).ownBlock) s_.2.2.2 y259) ∧ (w'.heap[g0_]? = some (.cells #[.slice A0_0 l0_0.length c0_0, .slice A0_1 l0_1.length c0_1, .slice A0_2 l0_2.length c0_2] 27 (0, 0))) ∧ (w'.heap[gb249]? = some (.cells #[.slice none 0 0, .slice none 0 0, .slice none 0 0] 27 (0, 0))) ∧ (Below w.heap.size w w')) ?_ ?_
 rotate_left
 {
 intro hJ0_5_6_11
 refine join_ (σ := Value × Value × Value × Value) 4 m2_ (fun s_ => [(3, s_.1), (8, s_.2.1), (9, s_.2.2.1), (15, s_.2.2.2)]) (fun s_ w' => (w'.cell? ⟨g0_, 0, none⟩ = some (.slice A0_0 l0_0.length c0_0) ∧ w'.cell? ⟨g0_, 1, none⟩ = some (.slice A0_1 l0_1.length c0_1) ∧ w'.cell? ⟨g0_, 2, none⟩ = some (.slice A0_2 l0_2.length c0_2)) ∧ (Kd.R k63 63 w' w.heap.size (fun k_ => some k_ ≠ (s_.2.2.1 : Value).ownBlock) s_.2.1 y253) ∧ (Kd.R k63 63 w' w.heap.size (fun k_ => some k_ ≠ (s_.2.1 : Value).ownBlock) s_.2.2.1 y256) ∧ (Kd.R k73 73 w' w.heap.size (fun _ => True) s_.2.2.2 y262) ∧ (w'.heap[g0_]? = some (.cells #[.slice A0_0 l0_0.length c0_0, .slice A0_1 l0_1.length c0_1, .slice A0_2 l0_2.length c0_2] 27 (0, 0))) ∧ (w'.heap[gb249]? = some (.cells #[.slice none 0 0, .slice none 0 0, .slice none 0 0] 27 (0, 0))) ∧ (Below w.heap.size w w')) ?_ ?_
 rotate_left
 {
 intro hJ0_5_6_12
 refine join_ (σ := Value × Value × Value) 5 m3_ (fun s_ => [(3, s_.1), (8, s_.2.1), (9, s_.2.2)]) (fun s_ w' => (w'.cell? ⟨g0_, 0, none⟩ = some (.slice A0_0 l0_0.length c0_0) ∧ w'.cell? ⟨g0_, 1, none⟩ = some (.slice A0_1 l0_1.length c0_1) ∧ w'.cell? ⟨g0_, 2, none⟩ = some (.slice A0_2 l0_2.length c0_2)) ∧ (Kd.R k63 63 w' w.heap.size (fun k_ => some k_ ≠ (s_.2.2 : Value).ownBlock) s_.2.1 y253) ∧ (Kd.R k63 63 w' w.heap.size (fun k_ => some k_ ≠ (s_.2.1 : Value).ownBlock) s_.2.2 y256) ∧ (w'.heap[g0_]? = some (.cells #[.slice A0_0 l0_0.length c0_0, .slice A0_1 l0_1.length c0_1, .slice A0_2 l0_2.length c0_2] 27 (0, 0))) ∧ (w'.heap[gb249]? = some (.cells #[.slice none 0 0, .slice none 0 0, .slice none 0 0] 27 (0, 0))) ∧ (Below w.heap.size w w')) ?_ ?_
 rotate_left
 {
 intro hJ0_5_6
 refine join_ (σ := Value × Value × Value) 5 m4_ (fun s_ => [(3, s_.1), (8, s_.2.1), (15, s_.2.2)]) (fun s_ w' => (w'.cell? ⟨g0_, 0, none⟩ = some (.slice A0_0 l0_0.length c0_0) ∧ w'.cell? ⟨g0_, 1, none⟩ = some (.slice A0_1 l0_1.length c0_1) ∧ w'.cell? ⟨g0_, 2, none⟩ = some (.slice A0_2 l0_2.length c0_2)) ∧ (Kd.R k63 63 w' w.heap.size (fun _ => True) s_.2.1 y253) ∧ (Kd.R k73 73 w' w.heap.size (fun _ => True) s_.2.2 y262) ∧ (w'.heap[g0_]? = some (.cells #[.slice A0_0 l0_0.length c0_0, .slice A0_1 l0_1.length c0_1, .slice A0_2 l0_2.length c0_2] 27 (0, 0))) ∧ (w'.heap[gb249]? = some (.cells #[.slice none 0 0, .slice none 0 0, .slice none 0 0] 27 (0, 0))) ∧ (Below w.heap.size w w')) ?_ ?_
 rotate_left
 {
 intro hJ0_5_12
 refine join_ (σ := Value × Value × Value) 5 m5_ (fun s_ => [(3, s_.1), (9, s_.2.1), (15, s_.2.2)]) (fun s_ w' => (w'.cell? ⟨g0_, 0, none⟩ = some (.slice A0_0 l0_0.length c0_0) ∧ w'.cell? ⟨g0_, 1, none⟩ = some (.slice A0_1 l0_1.length c0_1) ∧ w'.cell? ⟨g0_, 2, none⟩ = some (.slice A0_2 l0_2.length c0_2)) ∧ (Kd.R k63 63 w' w.heap.size (fun k_ => some k_ ≠ (s_.2.1 : Value).ownBlock) s_.1 y250) ∧ (Kd.R k63 63 w' w.heap.size (fun k_ => some k_ ≠ (s_.1 : Value).ownBlock) s_.2.1 y256) ∧ (Kd.R k73 73 w' w.heap.size (fun _ => True) s_.2.2 y262) ∧ (w'.heap[g0_]? = some (.cells #[.slice A0_0 l0_0.length c0_0, .slice A0_1 l0_1.length c0_1, .slice A0_2 l0_2.length c0_2] 27 (0, 0))) ∧ (w'.heap[gb249]? = some (.cells #[.slice none 0 0, .slice none 0 0, .slice none 0 0] 27 (0, 0))) ∧ (Below w.heap.size w w')) ?_ ?_
 rotate_left
 {
 intro hJ0_6_12
 refine join_ (σ := Value × Value) 6 m6_ (fun s_ => [(3, s_.1), (8, s_.2)]) (fun s_ w' => (w'.cell? ⟨g0_, 0, none⟩ = some (.slice A0_0 l0_0.length c0_0) ∧ w'.cell? ⟨g0_, 1, none⟩ = some (.slice A0_1 l0_1.length c0_1) ∧ w'.cell? ⟨g0_, 2, none⟩ = some (.slice A0_2 l0_2.length c0_2)) ∧ (Kd.R k63 63 w' w.heap.size (fun _ => True) s_.2 y253) ∧ (w'.heap[g0_]? = some (.cells #[.slice A0_0 l0_0.length c0_0, .slice A0_1 l0_1.length c0_1, .slice A0_2 l0_2.length c0_2] 27 (0, 0))) ∧ (w'.heap[gb249]? = some (.cells #[.slice none 0 0, .slice none 0 0, .slice none 0 0] 27 (0, 0))) ∧ (Below w.heap.size w w')) ?_ ?_
 rotate_left
 {
 intro hJ0_5
 refine join_ (σ := Value × Value) 6 m7_ (fun s_ => [(3, s_.1), (9, s_.2)]) (fun s_ w' => (w'.cell? ⟨g0_, 0, none⟩ = some (.slice A0_0 l0_0.length c0_0) ∧ w'.cell? ⟨g0_, 1, none⟩ = some (.slice A0_1 l0_1.length c0_1) ∧ w'.cell? ⟨g0_, 2, none⟩ = some (.slice A0_2 l0_2.length c0_2)) ∧ (Kd.R k63 63 w' w.heap.size (fun k_ => some k_ ≠ (s_.2 : Value).ownBlock) s_.1 y250) ∧ (Kd.R k63 63 w' w.heap.size (fun k_ => some k_ ≠ (s_.1 : Value).ownBlock) s_.2 y256) ∧ (w'.heap[g0_]? = some (.cells #[.slice A0_0 l0_0.length c0_0, .slice A0_1 l0_1.length c0_1, .slice A0_2 l0_2.length c0_2] 27 (0, 0))) ∧ (w'.heap[gb249]? = some (.cells #[.slice none 0 0, .slice none 0 0, .slice none 0 0] 27 (0, 0))) ∧ (Below w.heap.size w w')) ?_ ?_
 rotate_left
 {
 intro hJ0_6
 refine join_ (σ := Value × Value) 6 m8_ (fun s_ => [(3, s_.1), (15, s_.2)]) (fun s_ w' => (w'.cell? ⟨g0_, 0, none⟩ = some (.slice A0_0 l0_0.length c0_0) ∧ w'.cell? ⟨g0_, 1, none⟩ = some (.slice A0_1 l0_1.length c0_1) ∧ w'.cell? ⟨g0_, 2, none⟩ = some (.slice A0_2 l0_2.length c0_2)) ∧ (Kd.R k63 63 w' w.heap.size (fun _ => True) s_.1 y250) ∧ (Kd.R k73 73 w' w.heap.size (fun _ => True) s_.2 y262) ∧ (w'.heap[g0_]? = some (.cells #[.slice A0_0 l0_0.length c0_0, .slice A0_1 l0_1.length c0_1, .slice A0_2 l0_2.length c0_2] 27 (0, 0))) ∧ (w'.heap[gb249]? = some (.cells #[.slice none 0 0, .slice none 0 0, .slice none 0 0] 27 (0, 0))) ∧ (Below w.heap.size w w')) ?_ ?_
 rotate_left
 {
 intro hJ0_12
 refine join_ (σ := Value × Value) 6 m9_ (fun s_ => [(9, s_.1), (15, s_.2)]) (fun s_ w' => (w'.cell? ⟨g0_, 0, none⟩ = some (.slice A0_0 l0_0.length c0_0) ∧ w'.cell? ⟨g0_, 1, none⟩ = some (.slice A0_1 l0_1.length c0_1) ∧ w'.cell? ⟨g0_, 2, none⟩ = some (.slice A0_2 l0_2.length c0_2)) ∧ (Kd.R k63 63 w' w.heap.size (fun _ => True) s_.1 y256) ∧ (Kd.R k73 73 w' w.heap.size (fun _ => True) s_.2 y262) ∧ (w'.heap[g0_]? = some (.cells #[.slice A0_0 l0_0.length c0_0, .slice A0_1 l0_1.length c0_1, .slice A0_2 l0_2.length c0_2] 27 (0, 0))) ∧ (w'.heap[gb249]? = some (.cells #[.slice none 0 0, .slice none 0 0, .slice none 0 0] 27 (0, 0))) ∧ (Below w.heap.size w w')) ?_ ?_
 rotate_left
 {
 intro hJ6_12
 refine join_ (σ := Value) 7 m10_ (fun s_ => [(3, s_)]) (fun s_ w' => (w'.cell? ⟨g0_, 0, none⟩ = some (.slice A0_0 l0_0.length c0_0) ∧ w'.cell? ⟨g0_, 1, none⟩ = some (.slice A0_1 l0_1.length c0_1) ∧ w'.cell? ⟨g0_, 2, none⟩ = some (.slice A0_2 l0_2.length c0_2)) ∧ (Kd.R k63 63 w' w.heap.size (fun _ => True) s_ y250) ∧ (w'.heap[g0_]? = some (.cells #[.slice A0_0 l0_0.length c0_0, .slice A0_1 l0_1.length c0_1, .slice A0_2 l0_2.length c0_2] 27 (0, 0))) ∧ (w'.heap[gb249]? = some (.cells #[.slice none 0 0, .slice none 0 0, .slice none 0 0] 27 (0, 0))) ∧ (Below w.heap.size w w')) ?_ ?_
 rotate_left
 {
 intro hJ0
 refine join_ (σ := Value) 7 m11_ (fun s_ => [(9, s_)]) (fun s_ w' => (w'.cell? ⟨g0_, 0, none⟩ = some (.slice A0_0 l0_0.length c0_0) ∧ w'.cell? ⟨g0_, 1, none⟩ = some (.slice A0_1 l0_1.length c0_1) ∧ w'.cell? ⟨g0_, 2, none⟩ = some (.slice A0_2 l0_2.length c0_2)) ∧ (Kd.R k63 63 w' w.heap.size (fun _ => True) s_ y256) ∧ (w'.heap[g0_]? = some (.cells #[.slice A0_0 l0_0.length c0_0, .slice A0_1 l0_1.length c0_1, .slice A0_2 l0_2.length c0_2] 27 (0, 0))) ∧ (w'.heap[gb249]? = some (.cells #[.slice none 0 0, .slice none 0 0, .slice none 0 0] 27 (0, 0))) ∧ (Below w.heap.size w w')) ?_ ?_
 rotate_left
 {
 intro hJ6
 refine join_ (σ := Value) 7 m12_ (fun s_ => [(15, s_)]) (fun s_ w' => (w'.cell? ⟨g0_, 0, none⟩ = some (.slice A0_0 l0_0.length c0_0) ∧ w'.cell? ⟨g0_, 1, none⟩ = some (.slice A0_1 l0_1.length c0_1) ∧ w'.cell? ⟨g0_, 2, none⟩ = some (.slice A0_2 l0_2.length c0_2)) ∧ (Kd.R k73 73 w' w.heap.size (fun _ => True) s_ y262) ∧ (w'.heap[g0_]? = some (.cells #[.slice A0_0 l0_0.length c0_0, .slice A0_1 l0_1.length c0_1, .slice A0_2 l0_2.length c0_2] 27 (0, 0))) ∧ (w'.heap[gb249]? = some (.cells #[.slice none 0 0, .slice none 0 0, .slice none 0 0] 27 (0, 0))) ∧ (Below w.heap.size w w')) ?_ ?_
 rotate_left
 {
 intro hJ12
 refine three_ (i := 0) (j := 6) (k := 12) (Ni := some 3) (Nj := some 9) (Nk := some 15) m10_ m11_ m12_ rfl rfl rfl rfl rfl rfl (three_of HT_.out s2_) (by decide) (by decide) (by decide) (fun K hK => ?_) (fun K hK => ?_) (fun K hK => ?_)
 {
 skip
 refine Kd.R_lit_step k63 _ 63 ?hg (N := 3) ?hd (xs := ([] : List (S63))) (inner := []) (ok := fun _ => True) (okp := fun _ => True) ?hr ?hp (fun _ hk => hk) trivial (Below.refl _ _) (Nat.le_refl _) (by simp) ?_; (case hd => rfl); (case hg => rfl); (case hr => first | (go_simp; done) | (go_simp; rfl)); (case hp => exact (Reps.none _ _))
 intro v251 w7 ho8 hb hg_ hnew_
 clear hg_ hnew_
 (first | rw [← Ny250.out] at ho8 | (simp only [Int.reduceToNat] at ho8; rw [← Ny250.out] at ho8))
 have HO252 := Aside0.mk (Kd.R_lower ho8 (below_size (y1_ HB.out)))
 replace BK0 := b3_ BK0 hb
 replace BK249 := b3_ BK249 hb
 replace HB := Aside0.mk (below_step (y1_ HB.out) hb)
 clear hb ho8
 refine hK.out _ _ ⟨(blk_cell BK0.out 0).trans rfl, (blk_cell BK0.out 1).trans rfl, (blk_cell BK0.out 2).trans rfl⟩ (fun hHeld => ?_)
 clear hK K
 refine norm_ (a' := ?_) ?_ ?_
 rotate_left
 {
 show Act.put _ (some 3) _ = _
 simp only [Act.put, List.setIfInBounds_toArray, List.set_cons_zero, List.set_cons_succ, i64_w, i32_w]
 rfl}
 exact norm_ (by first | (simp only [putAll, Act.put, List.setIfInBounds_toArray, List.set_cons_zero, List.set_cons_succ]; done) | (simp only [putAll, Act.put, List.setIfInBounds_toArray, List.set_cons_zero, List.set_cons_succ]; rfl)) (hJ0 (v251) _ ⟨hHeld, (b2_ HO252.out), (b1_ BK0.out), (b1_ BK249.out), (y1_ HB.out)⟩)}
 {
 skip
 refine Kd.R_lit_step k63 _ 63 ?hg (N := 9) ?hd (xs := ([] : List (S63))) (inner := []) (ok := fun _ => True) (okp := fun _ => True) ?hr ?hp (fun _ hk => hk) trivial (Below.refl _ _) (Nat.le_refl _) (by simp) ?_; (case hd => rfl); (case hg => rfl); (case hr => first | (go_simp; done) | (go_simp; rfl)); (case hp => exact (Reps.none _ _))
 intro v257 w7 ho8 hb hg_ hnew_
 clear hg_ hnew_
 (first | rw [← Ny256.out] at ho8 | (simp only [Int.reduceToNat] at ho8; rw [← Ny256.out] at ho8))
 have HO258 := Aside0.mk (Kd.R_lower ho8 (below_size (y1_ HB.out)))
 replace BK0 := b3_ BK0 hb
 replace BK249 := b3_ BK249 hb
 replace HB := Aside0.mk (below_step (y1_ HB.out) hb)
 clear hb ho8
 refine hK.out _ _ ⟨(blk_cell BK0.out 0).trans rfl, (blk_cell BK0.out 1).trans rfl, (blk_cell BK0.out 2).trans rfl⟩ (fun hHeld => ?_)
 clear hK K
 refine norm_ (a' := ?_) ?_ ?_
 rotate_left
 {
 show Act.put _ (some 9) _ = _
 simp only [Act.put, List.setIfInBounds_toArray, List.set_cons_zero, List.set_cons_succ, i64_w, i32_w]
 rfl}
 exact norm_ (by first | (simp only [putAll, Act.put, List.setIfInBounds_toArray, List.set_cons_zero, List.set_cons_succ]; done) | (simp only [putAll, Act.put, List.setIfInBounds_toArray, List.set_cons_zero, List.set_cons_succ]; rfl)) (hJ6 (v257) _ ⟨hHeld, (b2_ HO258.out), (b1_ BK0.out), (b1_ BK249.out), (y1_ HB.out)⟩)}
 {
 skip
 refine Kd.R_lit_step k73 _ 73 ?hg (N := 15) ?hd (xs := ([] : List (S73))) (inner := []) (ok := fun _ => True) (okp := fun _ => True) ?hr ?hp (fun _ hk => hk) trivial (Below.refl _ _) (Nat.le_refl _) (by simp) ?_; (case hd => rfl); (case hg => rfl); (case hr => first | (go_simp; done) | (go_simp; rfl)); (case hp => exact (Reps.none _ _))
 intro v263 w7 ho8 hb hg_ hnew_
 clear hg_ hnew_
 (first | rw [← Ny262.out] at ho8 | (simp only [Int.reduceToNat] at ho8; rw [← Ny262.out] at ho8))
 have HO264 := Aside0.mk (Kd.R_lower ho8 (below_size (y1_ HB.out)))
 replace BK0 := b3_ BK0 hb
 replace BK249 := b3_ BK249 hb
 replace HB := Aside0.mk (below_step (y1_ HB.out) hb)
 clear hb ho8
 refine hK.out _ _ ⟨(blk_cell BK0.out 0).trans rfl, (blk_cell BK0.out 1).trans rfl, (blk_cell BK0.out 2).trans rfl⟩ (fun hHeld => ?_)
 clear hK K
 refine norm_ (a' := ?_) ?_ ?_
 rotate_left
 {
 show Act.put _ (some 15) _ = _
 simp only [Act.put, List.setIfInBounds_toArray, List.set_cons_zero, List.set_cons_succ, i64_w, i32_w]
 rfl}
 exact norm_ (by first | (simp only [putAll, Act.put, List.setIfInBounds_toArray, List.set_cons_zero, List.set_cons_succ]; done) | (simp only [putAll, Act.put, List.setIfInBounds_toArray, List.set_cons_zero, List.set_cons_succ]; rfl)) (hJ12 (v263) _ ⟨hHeld, (b2_ HO264.out), (b1_ BK0.out), (b1_ BK249.out), (y1_ HB.out)⟩)}}
 {
 skip
 rintro v263 w9 ⟨hS_, h0_, h1_, h2_, h3_⟩
 have n0_ : Aside0 (Kd.R k73 73 w9 w.heap.size (fun _ => True) v263 y262) := ⟨h0_⟩
 have n1_ : Aside0 (w9.heap[g0_]? = some (.cells #[.slice A0_0 l0_0.length c0_0, .slice A0_1 l0_1.length c0_1, .slice A0_2 l0_2.length c0_2] 27 (0, 0))) := ⟨h1_⟩
 have n2_ : Aside0 (w9.heap[gb249]? = some (.cells #[.slice none 0 0, .slice none 0 0, .slice none 0 0] 27 (0, 0))) := ⟨h2_⟩
 have n3_ : Aside0 (Below w.heap.size w w9) := ⟨h3_⟩
 clear BK0
 clear BK249
 clear HB
 clear h0_ h1_ h2_ h3_
 have HO264 := n0_
 have BK0 := n1_
 have BK249 := n2_
 have HB := n3_
 clear n0_ n1_ n2_ n3_
 have hHeld : w9.cell? ⟨g0_, 0, none⟩ = some (.slice A0_0 l0_0.length c0_0) ∧ w9.cell? ⟨g0_, 1, none⟩ = some (.slice A0_1 l0_1.length c0_1) ∧ w9.cell? ⟨g0_, 2, none⟩ = some (.slice A0_2 l0_2.length c0_2) := hS_
 refine norm_ (a' := ?_) ?_ ?_
 rotate_left
 {
 simp only [putAll, Act.put, List.setIfInBounds_toArray, List.set_cons_zero, List.set_cons_succ]
 rfl}
 refine two_ (i := 0) (j := 6) (Ni := some 3) (Nj := some 9) m8_ m9_ rfl rfl rfl rfl (two_of HT_.out s2_) (by decide) (by decide) (fun K hK => ?_) (fun K hK => ?_)
 {
 skip
 refine Kd.R_lit_step k63 _ 63 ?hg (N := 3) ?hd (xs := ([] : List (S63))) (inner := []) (ok := fun _ => True) (okp := fun _ => True) ?hr ?hp (fun _ hk => hk) trivial (Below.refl _ _) (Nat.le_refl _) (by simp) ?_; (case hd => rfl); (case hg => rfl); (case hr => first | (go_simp; done) | (go_simp; rfl)); (case hp => exact (Reps.none _ _))
 intro v251 w10 ho11 hb hg_ hnew_
 clear hg_ hnew_
 (first | rw [← Ny250.out] at ho11 | (simp only [Int.reduceToNat] at ho11; rw [← Ny250.out] at ho11))
 replace HO264 := r1_ HO264 hb
 have HO252 := Aside0.mk (Kd.R_lower ho11 (below_size (y1_ HB.out)))
 replace BK0 := b3_ BK0 hb
 replace BK249 := b3_ BK249 hb
 replace HB := Aside0.mk (below_step (y1_ HB.out) hb)
 clear hb ho11
 refine hK.out _ _ ⟨(blk_cell BK0.out 0).trans rfl, (blk_cell BK0.out 1).trans rfl, (blk_cell BK0.out 2).trans rfl⟩ (fun hHeld => ?_)
 clear hK K
 refine norm_ (a' := ?_) ?_ ?_
 rotate_left
 {
 show Act.put _ (some 3) _ = _
 simp only [Act.put, List.setIfInBounds_toArray, List.set_cons_zero, List.set_cons_succ, i64_w, i32_w]
 rfl}
 exact norm_ (by first | (simp only [putAll, Act.put, List.setIfInBounds_toArray, List.set_cons_zero, List.set_cons_succ]; done) | (simp only [putAll, Act.put, List.setIfInBounds_toArray, List.set_cons_zero, List.set_cons_succ]; rfl)) (hJ0_12 (v251, v263) _ ⟨hHeld, (b2_ HO252.out), (b2_ HO264.out), (b1_ BK0.out), (b1_ BK249.out), (y1_ HB.out)⟩)}
 {
 skip
 refine Kd.R_lit_step k63 _ 63 ?hg (N := 9) ?hd (xs := ([] : List (S63))) (inner := []) (ok := fun _ => True) (okp := fun _ => True) ?hr ?hp (fun _ hk => hk) trivial (Below.refl _ _) (Nat.le_refl _) (by simp) ?_; (case hd => rfl); (case hg => rfl); (case hr => first | (go_simp; done) | (go_simp; rfl)); (case hp => exact (Reps.none _ _))
 intro v257 w10 ho11 hb hg_ hnew_
 clear hg_ hnew_
 (first | rw [← Ny256.out] at ho11 | (simp only [Int.reduceToNat] at ho11; rw [← Ny256.out] at ho11))
 replace HO264 := r1_ HO264 hb
 have HO258 := Aside0.mk (Kd.R_lower ho11 (below_size (y1_ HB.out)))
 replace BK0 := b3_ BK0 hb
 replace BK249 := b3_ BK249 hb
 replace HB := Aside0.mk (below_step (y1_ HB.out) hb)
 clear hb ho11
 refine hK.out _ _ ⟨(blk_cell BK0.out 0).trans rfl, (blk_cell BK0.out 1).trans rfl, (blk_cell BK0.out 2).trans rfl⟩ (fun hHeld => ?_)
 clear hK K
 refine norm_ (a' := ?_) ?_ ?_
 rotate_left
 {
 show Act.put _ (some 9) _ = _
 simp only [Act.put, List.setIfInBounds_toArray, List.set_cons_zero, List.set_cons_succ, i64_w, i32_w]
 rfl}
 exact norm_ (by first | (simp only [putAll, Act.put, List.setIfInBounds_toArray, List.set_cons_zero, List.set_cons_succ]; done) | (simp only [putAll, Act.put, List.setIfInBounds_toArray, List.set_cons_zero, List.set_cons_succ]; rfl)) (hJ6_12 (v257, v263) _ ⟨hHeld, (b2_ HO258.out), (b2_ HO264.out), (b1_ BK0.out), (b1_ BK249.out), (y1_ HB.out)⟩)}}}
 {
 skip
 rintro v257 w9 ⟨hS_, h0_, h1_, h2_, h3_⟩
 have n0_ : Aside0 (Kd.R k63 63 w9 w.heap.size (fun _ => True) v257 y256) := ⟨h0_⟩
 have n1_ : Aside0 (w9.heap[g0_]? = some (.cells #[.slice A0_0 l0_0.length c0_0, .slice A0_1 l0_1.length c0_1, .slice A0_2 l0_2.length c0_2] 27 (0, 0))) := ⟨h1_⟩
 have n2_ : Aside0 (w9.heap[gb249]? = some (.cells #[.slice none 0 0, .slice none 0 0, .slice none 0 0] 27 (0, 0))) := ⟨h2_⟩
 have n3_ : Aside0 (Below w.heap.size w w9) := ⟨h3_⟩
 clear BK0
 clear BK249
 clear HB
 clear h0_ h1_ h2_ h3_
 have HO258 := n0_
 have BK0 := n1_
 have BK249 := n2_
 have HB := n3_
 clear n0_ n1_ n2_ n3_
 have hHeld : w9.cell? ⟨g0_, 0, none⟩ = some (.slice A0_0 l0_0.length c0_0) ∧ w9.cell? ⟨g0_, 1, none⟩ = some (.slice A0_1 l0_1.length c0_1) ∧ w9.cell? ⟨g0_, 2, none⟩ = some (.slice A0_2 l0_2.length c0_2) := hS_
 refine norm_ (a' := ?_) ?_ ?_
 rotate_left
 {
 simp only [putAll, Act.put, List.setIfInBounds_toArray, List.set_cons_zero, List.set_cons_succ]
 rfl}
 refine two_ (i := 0) (j := 12) (Ni := some 3) (Nj := some 15) m7_ m9_ rfl rfl rfl rfl (two_of HT_.out s2_) (by decide) (by decide) (fun K hK => ?_) (fun K hK => ?_)
 {
 skip
 refine Kd.R_lit_step k63 _ 63 ?hg (N := 3) ?hd (xs := ([] : List (S63))) (inner := []) (ok := fun _ => True) (okp := fun _ => True) ?hr ?hp (fun _ hk => hk) trivial (Below.refl _ _) (Nat.le_refl _) (by simp) ?_; (case hd => rfl); (case hg => rfl); (case hr => first | (go_simp; done) | (go_simp; rfl)); (case hp => exact (Reps.none _ _))
 intro v251 w10 ho11 hb hg_ hnew_
 clear hg_ hnew_
 (first | rw [← Ny250.out] at ho11 | (simp only [Int.reduceToNat] at ho11; rw [← Ny250.out] at ho11))
 have n0_ := Aside0.mk (Kd.R_elder' (b2_ HO258.out) (Kd.R_base ho11) hb)
 have n1_ := Aside0.mk (Kd.R_lower (Kd.R_new' ho11 (Kd.R_lt (b2_ HO258.out))) (below_size (y1_ HB.out)))
 have n2_ := b3_ BK0 hb
 have n3_ := b3_ BK249 hb
 have n4_ := Aside0.mk (below_step (y1_ HB.out) hb)
 clear HO258
 clear BK0
 clear BK249
 clear HB
 have HO258 := n0_
 have HO252 := n1_
 have BK0 := n2_
 have BK249 := n3_
 have HB := n4_
 clear n0_ n1_ n2_ n3_ n4_
 clear hb ho11
 refine hK.out _ _ ⟨(blk_cell BK0.out 0).trans rfl, (blk_cell BK0.out 1).trans rfl, (blk_cell BK0.out 2).trans rfl⟩ (fun hHeld => ?_)
 clear hK K
 refine norm_ (a' := ?_) ?_ ?_
 rotate_left
 {
 show Act.put _ (some 3) _ = _
 simp only [Act.put, List.setIfInBounds_toArray, List.set_cons_zero, List.set_cons_succ, i64_w, i32_w]
 rfl}
 exact norm_ (by first | (simp only [putAll, Act.put, List.setIfInBounds_toArray, List.set_cons_zero, List.set_cons_succ]; done) | (simp only [putAll, Act.put, List.setIfInBounds_toArray, List.set_cons_zero, List.set_cons_succ]; rfl)) (hJ0_6 (v251, v257) _ ⟨hHeld, (by (with_reducible repeat (first | apply Kd.R_alloc | apply Kd.R_drewN | apply Kd.R_drew)); exact Kd.R_mono HO252.out (fun _ hk => hk.2)), (by (with_reducible repeat (first | apply Kd.R_alloc | apply Kd.R_drewN | apply Kd.R_drew)); exact Kd.R_mono HO258.out (fun _ hk => hk.2)), (b1_ BK0.out), (b1_ BK249.out), (y1_ HB.out)⟩)}
 {
 skip
 refine Kd.R_lit_step k73 _ 73 ?hg (N := 15) ?hd (xs := ([] : List (S73))) (inner := []) (ok := fun _ => True) (okp := fun _ => True) ?hr ?hp (fun _ hk => hk) trivial (Below.refl _ _) (Nat.le_refl _) (by simp) ?_; (case hd => rfl); (case hg => rfl); (case hr => first | (go_simp; done) | (go_simp; rfl)); (case hp => exact (Reps.none _ _))
 intro v263 w10 ho11 hb hg_ hnew_
 clear hg_ hnew_
 (first | rw [← Ny262.out] at ho11 | (simp only [Int.reduceToNat] at ho11; rw [← Ny262.out] at ho11))
 replace HO258 := r1_ HO258 hb
 have HO264 := Aside0.mk (Kd.R_lower ho11 (below_size (y1_ HB.out)))
 replace BK0 := b3_ BK0 hb
 replace BK249 := b3_ BK249 hb
 replace HB := Aside0.mk (below_step (y1_ HB.out) hb)
 clear hb ho11
 refine hK.out _ _ ⟨(blk_cell BK0.out 0).trans rfl, (blk_cell BK0.out 1).trans rfl, (blk_cell BK0.out 2).trans rfl⟩ (fun hHeld => ?_)
 clear hK K
 refine norm_ (a' := ?_) ?_ ?_
 rotate_left
 {
 show Act.put _ (some 15) _ = _
 simp only [Act.put, List.setIfInBounds_toArray, List.set_cons_zero, List.set_cons_succ, i64_w, i32_w]
 rfl}
 exact norm_ (by first | (simp only [putAll, Act.put, List.setIfInBounds_toArray, List.set_cons_zero, List.set_cons_succ]; done) | (simp only [putAll, Act.put, List.setIfInBounds_toArray, List.set_cons_zero, List.set_cons_succ]; rfl)) (hJ6_12 (v257, v263) _ ⟨hHeld, (b2_ HO258.out), (b2_ HO264.out), (b1_ BK0.out), (b1_ BK249.out), (y1_ HB.out)⟩)}}}
 {
 skip
 rintro v251 w9 ⟨hS_, h0_, h1_, h2_, h3_⟩
 have n0_ : Aside0 (Kd.R k63 63 w9 w.heap.size (fun _ => True) v251 y250) := ⟨h0_⟩
 have n1_ : Aside0 (w9.heap[g0_]? = some (.cells #[.slice A0_0 l0_0.length c0_0, .slice A0_1 l0_1.length c0_1, .slice A0_2 l0_2.length c0_2] 27 (0, 0))) := ⟨h1_⟩
 have n2_ : Aside0 (w9.heap[gb249]? = some (.cells #[.slice none 0 0, .slice none 0 0, .slice none 0 0] 27 (0, 0))) := ⟨h2_⟩
 have n3_ : Aside0 (Below w.heap.size w w9) := ⟨h3_⟩
 clear BK0
 clear BK249
 clear HB
 clear h0_ h1_ h2_ h3_
 have HO252 := n0_
 have BK0 := n1_
 have BK249 := n2_
 have HB := n3_
 clear n0_ n1_ n2_ n3_
 have hHeld : w9.cell? ⟨g0_, 0, none⟩ = some (.slice A0_0 l0_0.length c0_0) ∧ w9.cell? ⟨g0_, 1, none⟩ = some (.slice A0_1 l0_1.length c0_1) ∧ w9.cell? ⟨g0_, 2, none⟩ = some (.slice A0_2 l0_2.length c0_2) := hS_
 refine norm_ (a' := ?_) ?_ ?_
 rotate_left
 {
 simp only [putAll, Act.put, List.setIfInBounds_toArray, List.set_cons_zero, List.set_cons_succ]
 rfl}
 refine three_ (i := 5) (j := 6) (k := 12) (Ni := some 8) (Nj := some 9) (Nk := some 15) m6_ m7_ m8_ rfl rfl rfl rfl rfl rfl (three_of HT_.out s2_) (by decide) (by decide) (by decide) (fun K hK => ?_) (fun K hK => ?_) (fun K hK => ?_)
 {
 skip
 refine Kd.R_append_rows_step k63 (w0 := w) w.heap.size (by rfl) (.tmp 3) (.tmp 7) 24 63 (.agg #[(.int .i64 0), (.int .i64 0)]) 16 rfl Try.underlying24 info63 rfl (by decide) (by omega) v251 y250 l0_0 _ _ _ (fun _ => True) (fun _ => False) rfl rfl ?aO ?aR (fun _ _ h => h) (fun _ h => h.elim) ?aF ?aB ?aS ?aL ?_
 (case aR => exact y2_ (Kd.C_below HR0_0.out HB.out))
 (case aB => exact (y1_ HB.out))
 (case aF => exact (fun _ _ => trivial))
 (case aO => exact (b2_ HO252.out))
 (case aS => exact (below_size (y1_ HB.out)))
 (case aL => have := LMc2.out; omega)
 intro v254 w10 ho hb hg hat
 rw [← Ny253.out] at ho
 replace BK0 := Aside0.mk (blk_grown (g := g0_) (o := .cells #[.slice A0_0 l0_0.length c0_0, .slice A0_1 l0_1.length c0_1, .slice A0_2 l0_2.length c0_2] 27 (0, 0)) (b1_ BK0.out) hg (Kd.R_ne HO252.out BK0.out (by decide)))
 replace BK249 := Aside0.mk (blk_grown (g := gb249) (o := .cells #[.slice none 0 0, .slice none 0 0, .slice none 0 0] 27 (0, 0)) (b1_ BK249.out) hg (Kd.R_ne HO252.out BK249.out (by decide)))
 replace HB := Aside0.mk (hb)
 have HO255 := Aside0.mk (ho)
 clear HO252
 clear ho hb hg hat
 refine hK.out _ _ ⟨(blk_cell BK0.out 0).trans rfl, (blk_cell BK0.out 1).trans rfl, (blk_cell BK0.out 2).trans rfl⟩ (fun hHeld => ?_)
 clear hK K
 refine norm_ (a' := ?_) ?_ ?_
 rotate_left
 {
 show Act.put _ (some 8) _ = _
 simp only [Act.put, List.setIfInBounds_toArray, List.set_cons_zero, List.set_cons_succ, i64_w, i32_w]
 rfl}
 exact norm_ (by first | (simp only [putAll, Act.put, List.setIfInBounds_toArray, List.set_cons_zero, List.set_cons_succ]; done) | (simp only [putAll, Act.put, List.setIfInBounds_toArray, List.set_cons_zero, List.set_cons_succ]; rfl)) (hJ0_5 (v251, v254) _ ⟨hHeld, (b2_ HO255.out), (b1_ BK0.out), (b1_ BK249.out), (y1_ HB.out)⟩)}
 {
 skip
 refine Kd.R_lit_step k63 _ 63 ?hg (N := 9) ?hd (xs := ([] : List (S63))) (inner := []) (ok := fun _ => True) (okp := fun _ => True) ?hr ?hp (fun _ hk => hk) trivial (Below.refl _ _) (Nat.le_refl _) (by simp) ?_; (case hd => rfl); (case hg => rfl); (case hr => first | (go_simp; done) | (go_simp; rfl)); (case hp => exact (Reps.none _ _))
 intro v257 w10 ho11 hb hg_ hnew_
 clear hg_ hnew_
 (first | rw [← Ny256.out] at ho11 | (simp only [Int.reduceToNat] at ho11; rw [← Ny256.out] at ho11))
 have n0_ := Aside0.mk (Kd.R_elder' (b2_ HO252.out) (Kd.R_base ho11) hb)
 have n1_ := Aside0.mk (Kd.R_lower (Kd.R_new' ho11 (Kd.R_lt (b2_ HO252.out))) (below_size (y1_ HB.out)))
 have n2_ := b3_ BK0 hb
 have n3_ := b3_ BK249 hb
 have n4_ := Aside0.mk (below_step (y1_ HB.out) hb)
 clear HO252
 clear BK0
 clear BK249
 clear HB
 have HO252 := n0_
 have HO258 := n1_
 have BK0 := n2_
 have BK249 := n3_
 have HB := n4_
 clear n0_ n1_ n2_ n3_ n4_
 clear hb ho11
 refine hK.out _ _ ⟨(blk_cell BK0.out 0).trans rfl, (blk_cell BK0.out 1).trans rfl, (blk_cell BK0.out 2).trans rfl⟩ (fun hHeld => ?_)
 clear hK K
 refine norm_ (a' := ?_) ?_ ?_
 rotate_left
 {
 show Act.put _ (some 9) _ = _
 simp only [Act.put, List.setIfInBounds_toArray, List.set_cons_zero, List.set_cons_succ, i64_w, i32_w]
 rfl}
 exact norm_ (by first | (simp only [putAll, Act.put, List.setIfInBounds_toArray, List.set_cons_zero, List.set_cons_succ]; done) | (simp only [putAll, Act.put, List.setIfInBounds_toArray, List.set_cons_zero, List.set_cons_succ]; rfl)) (hJ0_6 (v251, v257) _ ⟨hHeld, (by (with_reducible repeat (first | apply Kd.R_alloc | apply Kd.R_drewN | apply Kd.R_drew)); exact Kd.R_mono HO252.out (fun _ hk => hk.2)), (by (with_reducible repeat (first | apply Kd.R_alloc | apply Kd.R_drewN | apply Kd.R_drew)); exact Kd.R_mono HO258.out (fun _ hk => hk.2)), (b1_ BK0.out), (b1_ BK249.out), (y1_ HB.out)⟩)}
 {
 skip
 refine Kd.R_lit_step k73 _ 73 ?hg (N := 15) ?hd (xs := ([] : List (S73))) (inner := []) (ok := fun _ => True) (okp := fun _ => True) ?hr ?hp (fun _ hk => hk) trivial (Below.refl _ _) (Nat.le_refl _) (by simp) ?_; (case hd => rfl); (case hg => rfl); (case hr => first | (go_simp; done) | (go_simp; rfl)); (case hp => exact (Reps.none _ _))
 intro v263 w10 ho11 hb hg_ hnew_
 clear hg_ hnew_
 (first | rw [← Ny262.out] at ho11 | (simp only [Int.reduceToNat] at ho11; rw [← Ny262.out] at ho11))
 replace HO252 := r1_ HO252 hb
 have HO264 := Aside0.mk (Kd.R_lower ho11 (below_size (y1_ HB.out)))
 replace BK0 := b3_ BK0 hb
 replace BK249 := b3_ BK249 hb
 replace HB := Aside0.mk (below_step (y1_ HB.out) hb)
 clear hb ho11
 refine hK.out _ _ ⟨(blk_cell BK0.out 0).trans rfl, (blk_cell BK0.out 1).trans rfl, (blk_cell BK0.out 2).trans rfl⟩ (fun hHeld => ?_)
 clear hK K
 refine norm_ (a' := ?_) ?_ ?_
 rotate_left
 {
 show Act.put _ (some 15) _ = _
 simp only [Act.put, List.setIfInBounds_toArray, List.set_cons_zero, List.set_cons_succ, i64_w, i32_w]
 rfl}
 exact norm_ (by first | (simp only [putAll, Act.put, List.setIfInBounds_toArray, List.set_cons_zero, List.set_cons_succ]; done) | (simp only [putAll, Act.put, List.setIfInBounds_toArray, List.set_cons_zero, List.set_cons_succ]; rfl)) (hJ0_12 (v251, v263) _ ⟨hHeld, (b2_ HO252.out), (b2_ HO264.out), (b1_ BK0.out), (b1_ BK249.out), (y1_ HB.out)⟩)}}}
 {
 skip
 rintro ⟨v257, v263⟩ w11 ⟨hS_, h0_, h1_, h2_, h3_, h4_⟩
 have n0_ : Aside0 (Kd.R k63 63 w11 w.heap.size (fun _ => True) v257 y256) := ⟨h0_⟩
 have n1_ : Aside0 (Kd.R k73 73 w11 w.heap.size (fun _ => True) v263 y262) := ⟨h1_⟩
 have n2_ : Aside0 (w11.heap[g0_]? = some (.cells #[.slice A0_0 l0_0.length c0_0, .slice A0_1 l0_1.length c0_1, .slice A0_2 l0_2.length c0_2] 27 (0, 0))) := ⟨h2_⟩
 have n3_ : Aside0 (w11.heap[gb249]? = some (.cells #[.slice none 0 0, .slice none 0 0, .slice none 0 0] 27 (0, 0))) := ⟨h3_⟩
 have n4_ : Aside0 (Below w.heap.size w w11) := ⟨h4_⟩
 clear BK0
 clear BK249
 clear HB
 clear h0_ h1_ h2_ h3_ h4_
 have HO258 := n0_
 have HO264 := n1_
 have BK0 := n2_
 have BK249 := n3_
 have HB := n4_
 clear n0_ n1_ n2_ n3_ n4_
 have hHeld : w11.cell? ⟨g0_, 0, none⟩ = some (.slice A0_0 l0_0.length c0_0) ∧ w11.cell? ⟨g0_, 1, none⟩ = some (.slice A0_1 l0_1.length c0_1) ∧ w11.cell? ⟨g0_, 2, none⟩ = some (.slice A0_2 l0_2.length c0_2) := hS_
 refine norm_ (a' := ?_) ?_ ?_
 rotate_left
 {
 simp only [putAll, Act.put, List.setIfInBounds_toArray, List.set_cons_zero, List.set_cons_succ]
 rfl}
 refine one_ (i := 0) (N := some 3) m5_ rfl rfl (one_of HT_.out s2_) (by decide) (fun K hK => ?_)
 refine Kd.R_lit_step k63 _ 63 ?hg (N := 3) ?hd (xs := ([] : List (S63))) (inner := []) (ok := fun _ => True) (okp := fun _ => True) ?hr ?hp (fun _ hk => hk) trivial (Below.refl _ _) (Nat.le_refl _) (by simp) ?_; (case hd => rfl); (case hg => rfl); (case hr => first | (go_simp; done) | (go_simp; rfl)); (case hp => exact (Reps.none _ _))
 intro v251 w12 ho13 hb hg_ hnew_
 clear hg_ hnew_
 (first | rw [← Ny250.out] at ho13 | (simp only [Int.reduceToNat] at ho13; rw [← Ny250.out] at ho13))
 have n0_ := Aside0.mk (Kd.R_elder' (b2_ HO258.out) (Kd.R_base ho13) hb)
 have n1_ := r1_ HO264 hb
 have n2_ := Aside0.mk (Kd.R_lower (Kd.R_new' ho13 (Kd.R_lt (b2_ HO258.out))) (below_size (y1_ HB.out)))
 have n3_ := b3_ BK0 hb
 have n4_ := b3_ BK249 hb
 have n5_ := Aside0.mk (below_step (y1_ HB.out) hb)
 clear HO258
 clear HO264
 clear BK0
 clear BK249
 clear HB
 have HO258 := n0_
 have HO264 := n1_
 have HO252 := n2_
 have BK0 := n3_
 have BK249 := n4_
 have HB := n5_
 clear n0_ n1_ n2_ n3_ n4_ n5_
 clear hb ho13
 refine hK.out _ _ ⟨(blk_cell BK0.out 0).trans rfl, (blk_cell BK0.out 1).trans rfl, (blk_cell BK0.out 2).trans rfl⟩ (fun hHeld => ?_)
 clear hK K
 refine norm_ (a' := ?_) ?_ ?_
 rotate_left
 {
 show Act.put _ (some 3) _ = _
 simp only [Act.put, List.setIfInBounds_toArray, List.set_cons_zero, List.set_cons_succ, i64_w, i32_w]
 rfl}
 exact norm_ (by first | (simp only [putAll, Act.put, List.setIfInBounds_toArray, List.set_cons_zero, List.set_cons_succ]; done) | (simp only [putAll, Act.put, List.setIfInBounds_toArray, List.set_cons_zero, List.set_cons_succ]; rfl)) (hJ0_6_12 (v251, v257, v263) _ ⟨hHeld, (by (with_reducible repeat (first | apply Kd.R_alloc | apply Kd.R_drewN | apply Kd.R_drew)); exact Kd.R_mono HO252.out (fun _ hk => hk.2)), (by (with_reducible repeat (first | apply Kd.R_alloc | apply Kd.R_drewN | apply Kd.R_drew)); exact Kd.R_mono HO258.out (fun _ hk => hk.2)), (b2_ HO264.out), (b1_ BK0.out), (b1_ BK249.out), (y1_ HB.out)⟩)}}
 {
 skip
 rintro ⟨v251, v263⟩ w11 ⟨hS_, h0_, h1_, h2_, h3_, h4_⟩
 have n0_ : Aside0 (Kd.R k63 63 w11 w.heap.size (fun _ => True) v251 y250) := ⟨h0_⟩
 have n1_ : Aside0 (Kd.R k73 73 w11 w.heap.size (fun _ => True) v263 y262) := ⟨h1_⟩
 have n2_ : Aside0 (w11.heap[g0_]? = some (.cells #[.slice A0_0 l0_0.length c0_0, .slice A0_1 l0_1.length c0_1, .slice A0_2 l0_2.length c0_2] 27 (0, 0))) := ⟨h2_⟩
 have n3_ : Aside0 (w11.heap[gb249]? = some (.cells #[.slice none 0 0, .slice none 0 0, .slice none 0 0] 27 (0, 0))) := ⟨h3_⟩
 have n4_ : Aside0 (Below w.heap.size w w11) := ⟨h4_⟩
 clear BK0
 clear BK249
 clear HB
 clear h0_ h1_ h2_ h3_ h4_
 have HO252 := n0_
 have HO264 := n1_
 have BK0 := n2_
 have BK249 := n3_
 have HB := n4_
 clear n0_ n1_ n2_ n3_ n4_
 have hHeld : w11.cell? ⟨g0_, 0, none⟩ = some (.slice A0_0 l0_0.length c0_0) ∧ w11.cell? ⟨g0_, 1, none⟩ = some (.slice A0_1 l0_1.length c0_1) ∧ w11.cell? ⟨g0_, 2, none⟩ = some (.slice A0_2 l0_2.length c0_2) := hS_
 refine norm_ (a' := ?_) ?_ ?_
 rotate_left
 {
 simp only [putAll, Act.put, List.setIfInBounds_toArray, List.set_cons_zero, List.set_cons_succ]
 rfl}
 refine two_ (i := 5) (j := 6) (Ni := some 8) (Nj := some 9) m4_ m5_ rfl rfl rfl rfl (two_of HT_.out s2_) (by decide) (by decide) (fun K hK => ?_) (fun K hK => ?_)
 {
 skip
 refine Kd.R_append_rows_step k63 (w0 := w) w.heap.size (by rfl) (.tmp 3) (.tmp 7) 24 63 (.agg #[(.int .i64 0), (.int .i64 0)]) 16 rfl Try.underlying24 info63 rfl (by decide) (by omega) v251 y250 l0_0 _ _ _ (fun _ => True) (fun _ => False) rfl rfl ?aO ?aR (fun _ _ h => h) (fun _ h => h.elim) ?aF ?aB ?aS ?aL ?_
 (case aR => exact y2_ (Kd.C_below HR0_0.out HB.out))
 (case aB => exact (y1_ HB.out))
 (case aF => exact (fun _ _ => trivial))
 (case aO => exact (b2_ HO252.out))
 (case aS => exact (below_size (y1_ HB.out)))
 (case aL => have := LMc2.out; omega)
 intro v254 w12 ho hb hg hat
 rw [← Ny253.out] at ho
 replace BK0 := Aside0.mk (blk_grown (g := g0_) (o := .cells #[.slice A0_0 l0_0.length c0_0, .slice A0_1 l0_1.length c0_1, .slice A0_2 l0_2.length c0_2] 27 (0, 0)) (b1_ BK0.out) hg (Kd.R_ne HO252.out BK0.out (by decide)))
 replace BK249 := Aside0.mk (blk_grown (g := gb249) (o := .cells #[.slice none 0 0, .slice none 0 0, .slice none 0 0] 27 (0, 0)) (b1_ BK249.out) hg (Kd.R_ne HO252.out BK249.out (by decide)))
 replace HO264 := Aside0.mk (Kd.R_over' (b2_ HO264.out) (Kd.R_typed (b2_ HO252.out)) (by decide) hg)
 replace HB := Aside0.mk (hb)
 have HO255 := Aside0.mk (ho)
 clear HO252
 clear ho hb hg hat
 refine hK.out _ _ ⟨(blk_cell BK0.out 0).trans rfl, (blk_cell BK0.out 1).trans rfl, (blk_cell BK0.out 2).trans rfl⟩ (fun hHeld => ?_)
 clear hK K
 refine norm_ (a' := ?_) ?_ ?_
 rotate_left
 {
 show Act.put _ (some 8) _ = _
 simp only [Act.put, List.setIfInBounds_toArray, List.set_cons_zero, List.set_cons_succ, i64_w, i32_w]
 rfl}
 exact norm_ (by first | (simp only [putAll, Act.put, List.setIfInBounds_toArray, List.set_cons_zero, List.set_cons_succ]; done) | (simp only [putAll, Act.put, List.setIfInBounds_toArray, List.set_cons_zero, List.set_cons_succ]; rfl)) (hJ0_5_12 (v251, v254, v263) _ ⟨hHeld, (b2_ HO255.out), (b2_ HO264.out), (b1_ BK0.out), (b1_ BK249.out), (y1_ HB.out)⟩)}
 {
 skip
 refine Kd.R_lit_step k63 _ 63 ?hg (N := 9) ?hd (xs := ([] : List (S63))) (inner := []) (ok := fun _ => True) (okp := fun _ => True) ?hr ?hp (fun _ hk => hk) trivial (Below.refl _ _) (Nat.le_refl _) (by simp) ?_; (case hd => rfl); (case hg => rfl); (case hr => first | (go_simp; done) | (go_simp; rfl)); (case hp => exact (Reps.none _ _))
 intro v257 w12 ho13 hb hg_ hnew_
 clear hg_ hnew_
 (first | rw [← Ny256.out] at ho13 | (simp only [Int.reduceToNat] at ho13; rw [← Ny256.out] at ho13))
 have n0_ := Aside0.mk (Kd.R_elder' (b2_ HO252.out) (Kd.R_base ho13) hb)
 have n1_ := r1_ HO264 hb
 have n2_ := Aside0.mk (Kd.R_lower (Kd.R_new' ho13 (Kd.R_lt (b2_ HO252.out))) (below_size (y1_ HB.out)))
 have n3_ := b3_ BK0 hb
 have n4_ := b3_ BK249 hb
 have n5_ := Aside0.mk (below_step (y1_ HB.out) hb)
 clear HO252
 clear HO264
 clear BK0
 clear BK249
 clear HB
 have HO252 := n0_
 have HO264 := n1_
 have HO258 := n2_
 have BK0 := n3_
 have BK249 := n4_
 have HB := n5_
 clear n0_ n1_ n2_ n3_ n4_ n5_
 clear hb ho13
 refine hK.out _ _ ⟨(blk_cell BK0.out 0).trans rfl, (blk_cell BK0.out 1).trans rfl, (blk_cell BK0.out 2).trans rfl⟩ (fun hHeld => ?_)
 clear hK K
 refine norm_ (a' := ?_) ?_ ?_
 rotate_left
 {
 show Act.put _ (some 9) _ = _
 simp only [Act.put, List.setIfInBounds_toArray, List.set_cons_zero, List.set_cons_succ, i64_w, i32_w]
 rfl}
 exact norm_ (by first | (simp only [putAll, Act.put, List.setIfInBounds_toArray, List.set_cons_zero, List.set_cons_succ]; done) | (simp only [putAll, Act.put, List.setIfInBounds_toArray, List.set_cons_zero, List.set_cons_succ]; rfl)) (hJ0_6_12 (v251, v257, v263) _ ⟨hHeld, (by (with_reducible repeat (first | apply Kd.R_alloc | apply Kd.R_drewN | apply Kd.R_drew)); exact Kd.R_mono HO252.out (fun _ hk => hk.2)), (by (with_reducible repeat (first | apply Kd.R_alloc | apply Kd.R_drewN | apply Kd.R_drew)); exact Kd.R_mono HO258.out (fun _ hk => hk.2)), (b2_ HO264.out), (b1_ BK0.out), (b1_ BK249.out), (y1_ HB.out)⟩)}}}
 {
 skip
 rintro ⟨v251, v257⟩ w11 ⟨hS_, h0_, h1_, h2_, h3_, h4_⟩
 have n0_ : Aside0 (Kd.R k63 63 w11 w.heap.size (fun k_ => some k_ ≠ (v257 : Value).ownBlock) v251 y250) := ⟨h0_⟩
 have n1_ : Aside0 (Kd.R k63 63 w11 w.heap.size (fun k_ => some k_ ≠ (v251 : Value).ownBlock) v257 y256) := ⟨h1_⟩
 have n2_ : Aside0 (w11.heap[g0_]? = some (.cells #[.slice A0_0 l0_0.length c0_0, .slice A0_1 l0_1.length c0_1, .slice A0_2 l0_2.length c0_2] 27 (0, 0))) := ⟨h2_⟩
 have n3_ : Aside0 (w11.heap[gb249]? = some (.cells #[.slice none 0 0, .slice none 0 0, .slice none 0 0] 27 (0, 0))) := ⟨h3_⟩
 have n4_ : Aside0 (Below w.heap.size w w11) := ⟨h4_⟩
 clear BK0
 clear BK249
 clear HB
 clear h0_ h1_ h2_ h3_ h4_
 have HO252 := n0_
 have HO258 := n1_
 have BK0 := n2_
 have BK249 := n3_
 have HB := n4_
 clear n0_ n1_ n2_ n3_ n4_
 have hHeld : w11.cell? ⟨g0_, 0, none⟩ = some (.slice A0_0 l0_0.length c0_0) ∧ w11.cell? ⟨g0_, 1, none⟩ = some (.slice A0_1 l0_1.length c0_1) ∧ w11.cell? ⟨g0_, 2, none⟩ = some (.slice A0_2 l0_2.length c0_2) := hS_
 refine norm_ (a' := ?_) ?_ ?_
 rotate_left
 {
 simp only [putAll, Act.put, List.setIfInBounds_toArray, List.set_cons_zero, List.set_cons_succ]
 rfl}
 refine two_ (i := 5) (j := 12) (Ni := some 8) (Nj := some 15) m3_ m5_ rfl rfl rfl rfl (two_of HT_.out s2_) (by decide) (by decide) (fun K hK => ?_) (fun K hK => ?_)
 {
 skip
 refine Kd.R_append_rows_step k63 (w0 := w) w.heap.size (by rfl) (.tmp 3) (.tmp 7) 24 63 (.agg #[(.int .i64 0), (.int .i64 0)]) 16 rfl Try.underlying24 info63 rfl (by decide) (by omega) v251 y250 l0_0 _ _ _ (fun k_ => some k_ ≠ (v257 : Value).ownBlock) (fun _ => False) rfl rfl ?aO ?aR (fun _ _ h => h) (fun _ h => h.elim) ?aF ?aB ?aS ?aL ?_
 (case aR => exact y2_ (Kd.C_below HR0_0.out HB.out))
 (case aB => exact (y1_ HB.out))
 (case aF => exact (fun k_ hk => Kd.fresh' (Kd.R_lt (b2_ HO258.out)) k_ hk))
 (case aO => exact (b2_ HO252.out))
 (case aS => exact (below_size (y1_ HB.out)))
 (case aL => have := LMc2.out; omega)
 intro v254 w12 ho hb hg hat
 rw [← Ny253.out] at ho
 replace BK0 := Aside0.mk (blk_grown (g := g0_) (o := .cells #[.slice A0_0 l0_0.length c0_0, .slice A0_1 l0_1.length c0_1, .slice A0_2 l0_2.length c0_2] 27 (0, 0)) (b1_ BK0.out) hg (Kd.R_ne HO252.out BK0.out (by decide)))
 replace BK249 := Aside0.mk (blk_grown (g := gb249) (o := .cells #[.slice none 0 0, .slice none 0 0, .slice none 0 0] 27 (0, 0)) (b1_ BK249.out) hg (Kd.R_ne HO252.out BK249.out (by decide)))
 replace HO258 := Aside0.mk (Kd.R_after (ok := (fun _ => True)) (by (with_reducible repeat (first | apply Kd.R_alloc | apply Kd.R_drewN | apply Kd.R_drew)); exact Kd.R_mono HO258.out (fun _ hk => ⟨trivial, hk⟩)) hg hat)
 replace HB := Aside0.mk (hb)
 have HO255 := Aside0.mk (ho)
 clear HO252
 clear ho hb hg hat
 refine hK.out _ _ ⟨(blk_cell BK0.out 0).trans rfl, (blk_cell BK0.out 1).trans rfl, (blk_cell BK0.out 2).trans rfl⟩ (fun hHeld => ?_)
 clear hK K
 refine norm_ (a' := ?_) ?_ ?_
 rotate_left
 {
 show Act.put _ (some 8) _ = _
 simp only [Act.put, List.setIfInBounds_toArray, List.set_cons_zero, List.set_cons_succ, i64_w, i32_w]
 rfl}
 exact norm_ (by first | (simp only [putAll, Act.put, List.setIfInBounds_toArray, List.set_cons_zero, List.set_cons_succ]; done) | (simp only [putAll, Act.put, List.setIfInBounds_toArray, List.set_cons_zero, List.set_cons_succ]; rfl)) (hJ0_5_6 (v251, v254, v257) _ ⟨hHeld, (b2_ HO255.out), (by (with_reducible repeat (first | apply Kd.R_alloc | apply Kd.R_drewN | apply Kd.R_drew)); exact Kd.R_mono HO258.out (fun _ hk => hk.2)), (b1_ BK0.out), (b1_ BK249.out), (y1_ HB.out)⟩)}
 {
 skip
 refine Kd.R_lit_step k73 _ 73 ?hg (N := 15) ?hd (xs := ([] : List (S73))) (inner := []) (ok := fun _ => True) (okp := fun _ => True) ?hr ?hp (fun _ hk => hk) trivial (Below.refl _ _) (Nat.le_refl _) (by simp) ?_; (case hd => rfl); (case hg => rfl); (case hr => first | (go_simp; done) | (go_simp; rfl)); (case hp => exact (Reps.none _ _))
 intro v263 w12 ho13 hb hg_ hnew_
 clear hg_ hnew_
 (first | rw [← Ny262.out] at ho13 | (simp only [Int.reduceToNat] at ho13; rw [← Ny262.out] at ho13))
 replace HO252 := r1_ HO252 hb
 replace HO258 := r1_ HO258 hb
 have HO264 := Aside0.mk (Kd.R_lower ho13 (below_size (y1_ HB.out)))
 replace BK0 := b3_ BK0 hb
 replace BK249 := b3_ BK249 hb
 replace HB := Aside0.mk (below_step (y1_ HB.out) hb)
 clear hb ho13
 refine hK.out _ _ ⟨(blk_cell BK0.out 0).trans rfl, (blk_cell BK0.out 1).trans rfl, (blk_cell BK0.out 2).trans rfl⟩ (fun hHeld => ?_)
 clear hK K
 refine norm_ (a' := ?_) ?_ ?_
 rotate_left
 {
 show Act.put _ (some 15) _ = _
 simp only [Act.put, List.setIfInBounds_toArray, List.set_cons_zero, List.set_cons_succ, i64_w, i32_w]
 rfl}
 exact norm_ (by first | (simp only [putAll, Act.put, List.setIfInBounds_toArray, List.set_cons_zero, List.set_cons_succ]; done) | (simp only [putAll, Act.put, List.setIfInBounds_toArray, List.set_cons_zero, List.set_cons_succ]; rfl)) (hJ0_6_12 (v251, v257, v263) _ ⟨hHeld, (b2_ HO252.out), (b2_ HO258.out), (b2_ HO264.out), (b1_ BK0.out), (b1_ BK249.out), (y1_ HB.out)⟩)}}}
 {
 skip
 rintro ⟨v251, v254⟩ w10 ⟨hS_, h0_, h1_, h2_, h3_⟩
 have n0_ : Aside0 (Kd.R k63 63 w10 w.heap.size (fun _ => True) v254 y253) := ⟨h0_⟩
 have n1_ : Aside0 (w10.heap[g0_]? = some (.cells #[.slice A0_0 l0_0.length c0_0, .slice A0_1 l0_1.length c0_1, .slice A0_2 l0_2.length c0_2] 27 (0, 0))) := ⟨h1_⟩
 have n2_ : Aside0 (w10.heap[gb249]? = some (.cells #[.slice none 0 0, .slice none 0 0, .slice none 0 0] 27 (0, 0))) := ⟨h2_⟩
 have n3_ : Aside0 (Below w.heap.size w w10) := ⟨h3_⟩
 clear BK0
 clear BK249
 clear HB
 clear h0_ h1_ h2_ h3_
 have HO255 := n0_
 have BK0 := n1_
 have BK249 := n2_
 have HB := n3_
 clear n0_ n1_ n2_ n3_
 have hHeld : w10.cell? ⟨g0_, 0, none⟩ = some (.slice A0_0 l0_0.length c0_0) ∧ w10.cell? ⟨g0_, 1, none⟩ = some (.slice A0_1 l0_1.length c0_1) ∧ w10.cell? ⟨g0_, 2, none⟩ = some (.slice A0_2 l0_2.length c0_2) := hS_
 refine norm_ (a' := ?_) ?_ ?_
 rotate_left
 {
 simp only [putAll, Act.put, List.setIfInBounds_toArray, List.set_cons_zero, List.set_cons_succ]
 rfl}
 refine two_ (i := 6) (j := 12) (Ni := some 9) (Nj := some 15) m3_ m4_ rfl rfl rfl rfl (two_of HT_.out s2_) (by decide) (by decide) (fun K hK => ?_) (fun K hK => ?_)
 {
 skip
 refine Kd.R_lit_step k63 _ 63 ?hg (N := 9) ?hd (xs := ([] : List (S63))) (inner := []) (ok := fun _ => True) (okp := fun _ => True) ?hr ?hp (fun _ hk => hk) trivial (Below.refl _ _) (Nat.le_refl _) (by simp) ?_; (case hd => rfl); (case hg => rfl); (case hr => first | (go_simp; done) | (go_simp; rfl)); (case hp => exact (Reps.none _ _))
 intro v257 w11 ho12 hb hg_ hnew_
 clear hg_ hnew_
 (first | rw [← Ny256.out] at ho12 | (simp only [Int.reduceToNat] at ho12; rw [← Ny256.out] at ho12))
 have n0_ := Aside0.mk (Kd.R_elder' (b2_ HO255.out) (Kd.R_base ho12) hb)
 have n1_ := Aside0.mk (Kd.R_lower (Kd.R_new' ho12 (Kd.R_lt (b2_ HO255.out))) (below_size (y1_ HB.out)))
 have n2_ := b3_ BK0 hb
 have n3_ := b3_ BK249 hb
 have n4_ := Aside0.mk (below_step (y1_ HB.out) hb)
 clear HO255
 clear BK0
 clear BK249
 clear HB
 have HO255 := n0_
 have HO258 := n1_
 have BK0 := n2_
 have BK249 := n3_
 have HB := n4_
 clear n0_ n1_ n2_ n3_ n4_
 clear hb ho12
 refine hK.out _ _ ⟨(blk_cell BK0.out 0).trans rfl, (blk_cell BK0.out 1).trans rfl, (blk_cell BK0.out 2).trans rfl⟩ (fun hHeld => ?_)
 clear hK K
 refine norm_ (a' := ?_) ?_ ?_
 rotate_left
 {
 show Act.put _ (some 9) _ = _
 simp only [Act.put, List.setIfInBounds_toArray, List.set_cons_zero, List.set_cons_succ, i64_w, i32_w]
 rfl}
 exact norm_ (by first | (simp only [putAll, Act.put, List.setIfInBounds_toArray, List.set_cons_zero, List.set_cons_succ]; done) | (simp only [putAll, Act.put, List.setIfInBounds_toArray, List.set_cons_zero, List.set_cons_succ]; rfl)) (hJ0_5_6 (v251, v254, v257) _ ⟨hHeld, (by (with_reducible repeat (first | apply Kd.R_alloc | apply Kd.R_drewN | apply Kd.R_drew)); exact Kd.R_mono HO255.out (fun _ hk => hk.2)), (by (with_reducible repeat (first | apply Kd.R_alloc | apply Kd.R_drewN | apply Kd.R_drew)); exact Kd.R_mono HO258.out (fun _ hk => hk.2)), (b1_ BK0.out), (b1_ BK249.out), (y1_ HB.out)⟩)}
 {
 skip
 refine Kd.R_lit_step k73 _ 73 ?hg (N := 15) ?hd (xs := ([] : List (S73))) (inner := []) (ok := fun _ => True) (okp := fun _ => True) ?hr ?hp (fun _ hk => hk) trivial (Below.refl _ _) (Nat.le_refl _) (by simp) ?_; (case hd => rfl); (case hg => rfl); (case hr => first | (go_simp; done) | (go_simp; rfl)); (case hp => exact (Reps.none _ _))
 intro v263 w11 ho12 hb hg_ hnew_
 clear hg_ hnew_
 (first | rw [← Ny262.out] at ho12 | (simp only [Int.reduceToNat] at ho12; rw [← Ny262.out] at ho12))
 replace HO255 := r1_ HO255 hb
 have HO264 := Aside0.mk (Kd.R_lower ho12 (below_size (y1_ HB.out)))
 replace BK0 := b3_ BK0 hb
 replace BK249 := b3_ BK249 hb
 replace HB := Aside0.mk (below_step (y1_ HB.out) hb)
 clear hb ho12
 refine hK.out _ _ ⟨(blk_cell BK0.out 0).trans rfl, (blk_cell BK0.out 1).trans rfl, (blk_cell BK0.out 2).trans rfl⟩ (fun hHeld => ?_)
 clear hK K
 refine norm_ (a' := ?_) ?_ ?_
 rotate_left
 {
 show Act.put _ (some 15) _ = _
 simp only [Act.put, List.setIfInBounds_toArray, List.set_cons_zero, List.set_cons_succ, i64_w, i32_w]
 rfl}
 exact norm_ (by first | (simp only [putAll, Act.put, List.setIfInBounds_toArray, List.set_cons_zero, List.set_cons_succ]; done) | (simp only [putAll, Act.put, List.setIfInBounds_toArray, List.set_cons_zero, List.set_cons_succ]; rfl)) (hJ0_5_12 (v251, v254, v263) _ ⟨hHeld, (b2_ HO255.out), (b2_ HO264.out), (b1_ BK0.out), (b1_ BK249.out), (y1_ HB.out)⟩)}}}
 {
 skip
 rintro ⟨v251, v257, v263⟩ w13 ⟨hS_, h0_, h1_, h2_, h3_, h4_, h5_⟩
 have n0_ : Aside0 (Kd.R k63 63 w13 w.heap.size (fun k_ => some k_ ≠ (v257 : Value).ownBlock) v251 y250) := ⟨h0_⟩
 have n1_ : Aside0 (Kd.R k63 63 w13 w.heap.size (fun k_ => some k_ ≠ (v251 : Value).ownBlock) v257 y256) := ⟨h1_⟩
 have n2_ : Aside0 (Kd.R k73 73 w13 w.heap.size (fun _ => True) v263 y262) := ⟨h2_⟩
 have n3_ : Aside0 (w13.heap[g0_]? = some (.cells #[.slice A0_0 l0_0.length c0_0, .slice A0_1 l0_1.length c0_1, .slice A0_2 l0_2.length c0_2] 27 (0, 0))) := ⟨h3_⟩
 have n4_ : Aside0 (w13.heap[gb249]? = some (.cells #[.slice none 0 0, .slice none 0 0, .slice none 0 0] 27 (0, 0))) := ⟨h4_⟩
 have n5_ : Aside0 (Below w.heap.size w w13) := ⟨h5_⟩
 clear BK0
 clear BK249
 clear HB
 clear h0_ h1_ h2_ h3_ h4_ h5_
 have HO252 := n0_
 have HO258 := n1_
 have HO264 := n2_
 have BK0 := n3_
 have BK249 := n4_
 have HB := n5_
 clear n0_ n1_ n2_ n3_ n4_ n5_
 have hHeld : w13.cell? ⟨g0_, 0, none⟩ = some (.slice A0_0 l0_0.length c0_0) ∧ w13.cell? ⟨g0_, 1, none⟩ = some (.slice A0_1 l0_1.length c0_1) ∧ w13.cell? ⟨g0_, 2, none⟩ = some (.slice A0_2 l0_2.length c0_2) := hS_
 refine norm_ (a' := ?_) ?_ ?_
 rotate_left
 {
 simp only [putAll, Act.put, List.setIfInBounds_toArray, List.set_cons_zero, List.set_cons_succ]
 rfl}
 refine one_ (i := 5) (N := some 8) m2_ rfl rfl (one_of HT_.out s2_) (by decide) (fun K hK => ?_)
 refine Kd.R_append_rows_step k63 (w0 := w) w.heap.size (by rfl) (.tmp 3) (.tmp 7) 24 63 (.agg #[(.int .i64 0), (.int .i64 0)]) 16 rfl Try.underlying24 info63 rfl (by decide) (by omega) v251 y250 l0_0 _ _ _ (fun k_ => some k_ ≠ (v257 : Value).ownBlock) (fun _ => False) rfl rfl ?aO ?aR (fun _ _ h => h) (fun _ h => h.elim) ?aF ?aB ?aS ?aL ?_
 (case aR => exact y2_ (Kd.C_below HR0_0.out HB.out))
 (case aB => exact (y1_ HB.out))
 (case aF => exact (fun k_ hk => Kd.fresh' (Kd.R_lt (b2_ HO258.out)) k_ hk))
 (case aO => exact (b2_ HO252.out))
 (case aS => exact (below_size (y1_ HB.out)))
 (case aL => have := LMc2.out; omega)
 intro v254 w14 ho hb hg hat
 rw [← Ny253.out] at ho
 replace BK0 := Aside0.mk (blk_grown (g := g0_) (o := .cells #[.slice A0_0 l0_0.length c0_0, .slice A0_1 l0_1.length c0_1, .slice A0_2 l0_2.length c0_2] 27 (0, 0)) (b1_ BK0.out) hg (Kd.R_ne HO252.out BK0.out (by decide)))
 replace BK249 := Aside0.mk (blk_grown (g := gb249) (o := .cells #[.slice none 0 0, .slice none 0 0, .slice none 0 0] 27 (0, 0)) (b1_ BK249.out) hg (Kd.R_ne HO252.out BK249.out (by decide)))
 replace HO258 := Aside0.mk (Kd.R_after (ok := (fun _ => True)) (by (with_reducible repeat (first | apply Kd.R_alloc | apply Kd.R_drewN | apply Kd.R_drew)); exact Kd.R_mono HO258.out (fun _ hk => ⟨trivial, hk⟩)) hg hat)
 replace HO264 := Aside0.mk (Kd.R_over' (b2_ HO264.out) (Kd.R_typed (b2_ HO252.out)) (by decide) hg)
 replace HB := Aside0.mk (hb)
 have HO255 := Aside0.mk (ho)
 clear HO252
 clear ho hb hg hat
 refine hK.out _ _ ⟨(blk_cell BK0.out 0).trans rfl, (blk_cell BK0.out 1).trans rfl, (blk_cell BK0.out 2).trans rfl⟩ (fun hHeld => ?_)
 clear hK K
 refine norm_ (a' := ?_) ?_ ?_
 rotate_left
 {
 show Act.put _ (some 8) _ = _
 simp only [Act.put, List.setIfInBounds_toArray, List.set_cons_zero, List.set_cons_succ, i64_w, i32_w]
 rfl}
 exact norm_ (by first | (simp only [putAll, Act.put, List.setIfInBounds_toArray, List.set_cons_zero, List.set_cons_succ]; done) | (simp only [putAll, Act.put, List.setIfInBounds_toArray, List.set_cons_zero, List.set_cons_succ]; rfl)) (hJ0_5_6_12 (v251, v254, v257, v263) _ ⟨hHeld, (b2_ HO255.out), (by (with_reducible repeat (first | apply Kd.R_alloc | apply Kd.R_drewN | apply Kd.R_drew)); exact Kd.R_mono HO258.out (fun _ hk => hk.2)), (b2_ HO264.out), (b1_ BK0.out), (b1_ BK249.out), (y1_ HB.out)⟩)}}
 {
 skip
 rintro ⟨v251, v254, v263⟩ w12 ⟨hS_, h0_, h1_, h2_, h3_, h4_⟩
 have n0_ : Aside0 (Kd.R k63 63 w12 w.heap.size (fun _ => True) v254 y253) := ⟨h0_⟩
 have n1_ : Aside0 (Kd.R k73 73 w12 w.heap.size (fun _ => True) v263 y262) := ⟨h1_⟩
 have n2_ : Aside0 (w12.heap[g0_]? = some (.cells #[.slice A0_0 l0_0.length c0_0, .slice A0_1 l0_1.length c0_1, .slice A0_2 l0_2.length c0_2] 27 (0, 0))) := ⟨h2_⟩
 have n3_ : Aside0 (w12.heap[gb249]? = some (.cells #[.slice none 0 0, .slice none 0 0, .slice none 0 0] 27 (0, 0))) := ⟨h3_⟩
 have n4_ : Aside0 (Below w.heap.size w w12) := ⟨h4_⟩
 clear BK0
 clear BK249
 clear HB
 clear h0_ h1_ h2_ h3_ h4_
 have HO255 := n0_
 have HO264 := n1_
 have BK0 := n2_
 have BK249 := n3_
 have HB := n4_
 clear n0_ n1_ n2_ n3_ n4_
 have hHeld : w12.cell? ⟨g0_, 0, none⟩ = some (.slice A0_0 l0_0.length c0_0) ∧ w12.cell? ⟨g0_, 1, none⟩ = some (.slice A0_1 l0_1.length c0_1) ∧ w12.cell? ⟨g0_, 2, none⟩ = some (.slice A0_2 l0_2.length c0_2) := hS_
 refine norm_ (a' := ?_) ?_ ?_
 rotate_left
 {
 simp only [putAll, Act.put, List.setIfInBounds_toArray, List.set_cons_zero, List.set_cons_succ]
 rfl}
 refine one_ (i := 6) (N := some 9) m2_ rfl rfl (one_of HT_.out s2_) (by decide) (fun K hK => ?_)
 refine Kd.R_lit_step k63 _ 63 ?hg (N := 9) ?hd (xs := ([] : List (S63))) (inner := []) (ok := fun _ => True) (okp := fun _ => True) ?hr ?hp (fun _ hk => hk) trivial (Below.refl _ _) (Nat.le_refl _) (by simp) ?_; (case hd => rfl); (case hg => rfl); (case hr => first | (go_simp; done) | (go_simp; rfl)); (case hp => exact (Reps.none _ _))
 intro v257 w13 ho14 hb hg_ hnew_
 clear hg_ hnew_
 (first | rw [← Ny256.out] at ho14 | (simp only [Int.reduceToNat] at ho14; rw [← Ny256.out] at ho14))
 have n0_ := Aside0.mk (Kd.R_elder' (b2_ HO255.out) (Kd.R_base ho14) hb)
 have n1_ := r1_ HO264 hb
 have n2_ := Aside0.mk (Kd.R_lower (Kd.R_new' ho14 (Kd.R_lt (b2_ HO255.out))) (below_size (y1_ HB.out)))
 have n3_ := b3_ BK0 hb
 have n4_ := b3_ BK249 hb
 have n5_ := Aside0.mk (below_step (y1_ HB.out) hb)
 clear HO255
 clear HO264
 clear BK0
 clear BK249
 clear HB
 have HO255 := n0_
 have HO264 := n1_
 have HO258 := n2_
 have BK0 := n3_
 have BK249 := n4_
 have HB := n5_
 clear n0_ n1_ n2_ n3_ n4_ n5_
 clear hb ho14
 refine hK.out _ _ ⟨(blk_cell BK0.out 0).trans rfl, (blk_cell BK0.out 1).trans rfl, (blk_cell BK0.out 2).trans rfl⟩ (fun hHeld => ?_)
 clear hK K
 refine norm_ (a' := ?_) ?_ ?_
 rotate_left
 {
 show Act.put _ (some 9) _ = _
 simp only [Act.put, List.setIfInBounds_toArray, List.set_cons_zero, List.set_cons_succ, i64_w, i32_w]
 rfl}
 exact norm_ (by first | (simp only [putAll, Act.put, List.setIfInBounds_toArray, List.set_cons_zero, List.set_cons_succ]; done) | (simp only [putAll, Act.put, List.setIfInBounds_toArray, List.set_cons_zero, List.set_cons_succ]; rfl)) (hJ0_5_6_12 (v251, v254, v257, v263) _ ⟨hHeld, (by (with_reducible repeat (first | apply Kd.R_alloc | apply Kd.R_drewN | apply Kd.R_drew)); exact Kd.R_mono HO255.out (fun _ hk => hk.2)), (by (with_reducible repeat (first | apply Kd.R_alloc | apply Kd.R_drewN | apply Kd.R_drew)); exact Kd.R_mono HO258.out (fun _ hk => hk.2)), (b2_ HO264.out), (b1_ BK0.out), (b1_ BK249.out), (y1_ HB.out)⟩)}}
 {
 skip
 rintro ⟨v251, v254, v257⟩ w12 ⟨hS_, h0_, h1_, h2_, h3_, h4_⟩
 have n0_ : Aside0 (Kd.R k63 63 w12 w.heap.size (fun k_ => some k_ ≠ (v257 : Value).ownBlock) v254 y253) := ⟨h0_⟩
 have n1_ : Aside0 (Kd.R k63 63 w12 w.heap.size (fun k_ => some k_ ≠ (v254 : Value).ownBlock) v257 y256) := ⟨h1_⟩
 have n2_ : Aside0 (w12.heap[g0_]? = some (.cells #[.slice A0_0 l0_0.length c0_0, .slice A0_1 l0_1.length c0_1, .slice A0_2 l0_2.length c0_2] 27 (0, 0))) := ⟨h2_⟩
 have n3_ : Aside0 (w12.heap[gb249]? = some (.cells #[.slice none 0 0, .slice none 0 0, .slice none 0 0] 27 (0, 0))) := ⟨h3_⟩
 have n4_ : Aside0 (Below w.heap.size w w12) := ⟨h4_⟩
 clear BK0
 clear BK249
 clear HB
 clear h0_ h1_ h2_ h3_ h4_
 have HO255 := n0_
 have HO258 := n1_
 have BK0 := n2_
 have BK249 := n3_
 have HB := n4_
 clear n0_ n1_ n2_ n3_ n4_
 have hHeld : w12.cell? ⟨g0_, 0, none⟩ = some (.slice A0_0 l0_0.length c0_0) ∧ w12.cell? ⟨g0_, 1, none⟩ = some (.slice A0_1 l0_1.length c0_1) ∧ w12.cell? ⟨g0_, 2, none⟩ = some (.slice A0_2 l0_2.length c0_2) := hS_
 refine norm_ (a' := ?_) ?_ ?_
 rotate_left
 {
 simp only [putAll, Act.put, List.setIfInBounds_toArray, List.set_cons_zero, List.set_cons_succ]
 rfl}
 refine two_ (i := 11) (j := 12) (Ni := some 14) (Nj := some 15) m1_ m2_ rfl rfl rfl rfl (two_of HT_.out s2_) (by decide) (by decide) (fun K hK => ?_) (fun K hK => ?_)
 {
 skip
 refine Kd.R_append_rows_step k63 (w0 := w) w.heap.size (by rfl) (.tmp 9) (.tmp 13) 24 63 (.agg #[(.int .i64 0), (.int .i64 0)]) 16 rfl Try.underlying24 info63 rfl (by decide) (by omega) v257 y256 l0_1 _ _ _ (fun k_ => some k_ ≠ (v254 : Value).ownBlock) (fun _ => False) rfl rfl ?aO ?aR (fun _ _ h => h) (fun _ h => h.elim) ?aF ?aB ?aS ?aL ?_
 (case aR => exact y2_ (Kd.C_below HR0_1.out HB.out))
 (case aB => exact (y1_ HB.out))
 (case aF => exact (fun k_ hk => Kd.fresh' (Kd.R_lt (b2_ HO255.out)) k_ hk))
 (case aO => exact (b2_ HO258.out))
 (case aS => exact (below_size (y1_ HB.out)))
 (case aL => have := LMc3.out; omega)
 intro v260 w13 ho hb hg hat
 rw [← Ny259.out] at ho
 replace BK0 := Aside0.mk (blk_grown (g := g0_) (o := .cells #[.slice A0_0 l0_0.length c0_0, .slice A0_1 l0_1.length c0_1, .slice A0_2 l0_2.length c0_2] 27 (0, 0)) (b1_ BK0.out) hg (Kd.R_ne HO258.out BK0.out (by decide)))
 replace BK249 := Aside0.mk (blk_grown (g := gb249) (o := .cells #[.slice none 0 0, .slice none 0 0, .slice none 0 0] 27 (0, 0)) (b1_ BK249.out) hg (Kd.R_ne HO258.out BK249.out (by decide)))
 replace HO255 := Aside0.mk (Kd.R_after (ok := (fun _ => True)) (by (with_reducible repeat (first | apply Kd.R_alloc | apply Kd.R_drewN | apply Kd.R_drew)); exact Kd.R_mono HO255.out (fun _ hk => ⟨trivial, hk⟩)) hg hat)
 replace HB := Aside0.mk (hb)
 have HO261 := Aside0.mk (ho)
 clear HO258
 clear ho hb hg hat
 refine hK.out _ _ ⟨(blk_cell BK0.out 0).trans rfl, (blk_cell BK0.out 1).trans rfl, (blk_cell BK0.out 2).trans rfl⟩ (fun hHeld => ?_)
 clear hK K
 refine norm_ (a' := ?_) ?_ ?_
 rotate_left
 {
 show Act.put _ (some 14) _ = _
 simp only [Act.put, List.setIfInBounds_toArray, List.set_cons_zero, List.set_cons_succ, i64_w, i32_w]
 rfl}
 exact norm_ (by first | (simp only [putAll, Act.put, List.setIfInBounds_toArray, List.set_cons_zero, List.set_cons_succ]; done) | (simp only [putAll, Act.put, List.setIfInBounds_toArray, List.set_cons_zero, List.set_cons_succ]; rfl)) (hJ0_5_6_11 (v251, v254, v257, v260) _ ⟨hHeld, (by (with_reducible repeat (first | apply Kd.R_alloc | apply Kd.R_drewN | apply Kd.R_drew)); exact Kd.R_mono HO255.out (fun _ hk => hk.2)), (b2_ HO261.out), (b1_ BK0.out), (b1_ BK249.out), (y1_ HB.out)⟩)}
 {
 skip
 refine Kd.R_lit_step k73 _ 73 ?hg (N := 15) ?hd (xs := ([] : List (S73))) (inner := []) (ok := fun _ => True) (okp := fun _ => True) ?hr ?hp (fun _ hk => hk) trivial (Below.refl _ _) (Nat.le_refl _) (by simp) ?_; (case hd => rfl); (case hg => rfl); (case hr => first | (go_simp; done) | (go_simp; rfl)); (case hp => exact (Reps.none _ _))
 intro v263 w13 ho14 hb hg_ hnew_
 clear hg_ hnew_
 (first | rw [← Ny262.out] at ho14 | (simp only [Int.reduceToNat] at ho14; rw [← Ny262.out] at ho14))
 replace HO255 := r1_ HO255 hb
 replace HO258 := r1_ HO258 hb
 have HO264 := Aside0.mk (Kd.R_lower ho14 (below_size (y1_ HB.out)))
 replace BK0 := b3_ BK0 hb
 replace BK249 := b3_ BK249 hb
 replace HB := Aside0.mk (below_step (y1_ HB.out) hb)
 clear hb ho14
 refine hK.out _ _ ⟨(blk_cell BK0.out 0).trans rfl, (blk_cell BK0.out 1).trans rfl, (blk_cell BK0.out 2).trans rfl⟩ (fun hHeld => ?_)
 clear hK K
 refine norm_ (a' := ?_) ?_ ?_
 rotate_left
 {
 show Act.put _ (some 15) _ = _
 simp only [Act.put, List.setIfInBounds_toArray, List.set_cons_zero, List.set_cons_succ, i64_w, i32_w]
 rfl}
 exact norm_ (by first | (simp only [putAll, Act.put, List.setIfInBounds_toArray, List.set_cons_zero, List.set_cons_succ]; done) | (simp only [putAll, Act.put, List.setIfInBounds_toArray, List.set_cons_zero, List.set_cons_succ]; rfl)) (hJ0_5_6_12 (v251, v254, v257, v263) _ ⟨hHeld, (b2_ HO255.out), (b2_ HO258.out), (b2_ HO264.out), (b1_ BK0.out), (b1_ BK249.out), (y1_ HB.out)⟩)}}}
 {
 skip
 rintro ⟨v251, v254, v257, v263⟩ w14 ⟨hS_, h0_, h1_, h2_, h3_, h4_, h5_⟩
 have n0_ : Aside0 (Kd.R k63 63 w14 w.heap.size (fun k_ => some k_ ≠ (v257 : Value).ownBlock) v254 y253) := ⟨h0_⟩
 have n1_ : Aside0 (Kd.R k63 63 w14 w.heap.size (fun k_ => some k_ ≠ (v254 : Value).ownBlock) v257 y256) := ⟨h1_⟩
 have n2_ : Aside0 (Kd.R k73 73 w14 w.heap.size (fun _ => True) v263 y262) := ⟨h2_⟩
 have n3_ : Aside0 (w14.heap[g0_]? = some (.cells #[.slice A0_0 l0_0.length c0_0, .slice A0_1 l0_1.length c0_1, .slice A0_2 l0_2.length c0_2] 27 (0, 0))) := ⟨h3_⟩
 have n4_ : Aside0 (w14.heap[gb249]? = some (.cells #[.slice none 0 0, .slice none 0 0, .slice none 0 0] 27 (0, 0))) := ⟨h4_⟩
 have n5_ : Aside0 (Below w.heap.size w w14) := ⟨h5_⟩
 clear BK0
 clear BK249
 clear HB
 clear h0_ h1_ h2_ h3_ h4_ h5_
 have HO255 := n0_
 have HO258 := n1_
 have HO264 := n2_
 have BK0 := n3_
 have BK249 := n4_
 have HB := n5_
 clear n0_ n1_ n2_ n3_ n4_ n5_
 have hHeld : w14.cell? ⟨g0_, 0, none⟩ = some (.slice A0_0 l0_0.length c0_0) ∧ w14.cell? ⟨g0_, 1, none⟩ = some (.slice A0_1 l0_1.length c0_1) ∧ w14.cell? ⟨g0_, 2, none⟩ = some (.slice A0_2 l0_2.length c0_2) := hS_
 refine norm_ (a' := ?_) ?_ ?_
 rotate_left
 {
 simp only [putAll, Act.put, List.setIfInBounds_toArray, List.set_cons_zero, List.set_cons_succ]
 rfl}
 refine one_ (i := 11) (N := some 14) m0_ rfl rfl (one_of HT_.out s2_) (by decide) (fun K hK => ?_)
 refine Kd.R_append_rows_step k63 (w0 := w) w.heap.size (by rfl) (.tmp 9) (.tmp 13) 24 63 (.agg #[(.int .i64 0), (.int .i64 0)]) 16 rfl Try.underlying24 info63 rfl (by decide) (by omega) v257 y256 l0_1 _ _ _ (fun k_ => some k_ ≠ (v254 : Value).ownBlock) (fun _ => False) rfl rfl ?aO ?aR (fun _ _ h => h) (fun _ h => h.elim) ?aF ?aB ?aS ?aL ?_
 (case aR => exact y2_ (Kd.C_below HR0_1.out HB.out))
 (case aB => exact (y1_ HB.out))
 (case aF => exact (fun k_ hk => Kd.fresh' (Kd.R_lt (b2_ HO255.out)) k_ hk))
 (case aO => exact (b2_ HO258.out))
 (case aS => exact (below_size (y1_ HB.out)))
 (case aL => have := LMc3.out; omega)
 intro v260 w15 ho hb hg hat
 rw [← Ny259.out] at ho
 replace BK0 := Aside0.mk (blk_grown (g := g0_) (o := .cells #[.slice A0_0 l0_0.length c0_0, .slice A0_1 l0_1.length c0_1, .slice A0_2 l0_2.length c0_2] 27 (0, 0)) (b1_ BK0.out) hg (Kd.R_ne HO258.out BK0.out (by decide)))
 replace BK249 := Aside0.mk (blk_grown (g := gb249) (o := .cells #[.slice none 0 0, .slice none 0 0, .slice none 0 0] 27 (0, 0)) (b1_ BK249.out) hg (Kd.R_ne HO258.out BK249.out (by decide)))
 replace HO255 := Aside0.mk (Kd.R_after (ok := (fun _ => True)) (by (with_reducible repeat (first | apply Kd.R_alloc | apply Kd.R_drewN | apply Kd.R_drew)); exact Kd.R_mono HO255.out (fun _ hk => ⟨trivial, hk⟩)) hg hat)
 replace HO264 := Aside0.mk (Kd.R_over' (b2_ HO264.out) (Kd.R_typed (b2_ HO258.out)) (by decide) hg)
 replace HB := Aside0.mk (hb)
 have HO261 := Aside0.mk (ho)
 clear HO258
 clear ho hb hg hat
 refine hK.out _ _ ⟨(blk_cell BK0.out 0).trans rfl, (blk_cell BK0.out 1).trans rfl, (blk_cell BK0.out 2).trans rfl⟩ (fun hHeld => ?_)
 clear hK K
 refine norm_ (a' := ?_) ?_ ?_
 rotate_left
 {
 show Act.put _ (some 14) _ = _
 simp only [Act.put, List.setIfInBounds_toArray, List.set_cons_zero, List.set_cons_succ, i64_w, i32_w]
 rfl}
 exact norm_ (by first | (simp only [putAll, Act.put, List.setIfInBounds_toArray, List.set_cons_zero, List.set_cons_succ]; done) | (simp only [putAll, Act.put, List.setIfInBounds_toArray, List.set_cons_zero, List.set_cons_succ]; rfl)) (hJ0_5_6_11_12 (v251, v254, v257, v260, v263) _ ⟨hHeld, (by (with_reducible repeat (first | apply Kd.R_alloc | apply Kd.R_drewN | apply Kd.R_drew)); exact Kd.R_mono HO255.out (fun _ hk => hk.2)), (b2_ HO261.out), (b2_ HO264.out), (b1_ BK0.out), (b1_ BK249.out), (y1_ HB.out)⟩)}}
 {
 skip
 rintro ⟨v251, v254, v257, v260⟩ w13 ⟨hS_, h0_, h1_, h2_, h3_, h4_⟩
 have n0_ : Aside0 (Kd.R k63 63 w13 w.heap.size (fun k_ => some k_ ≠ (v260 : Value).ownBlock) v254 y253) := ⟨h0_⟩
 have n1_ : Aside0 (Kd.R k63 63 w13 w.heap.size (fun k_ => some k_ ≠ (v254 : Value).ownBlock) v260 y259) := ⟨h1_⟩
 have n2_ : Aside0 (w13.heap[g0_]? = some (.cells #[.slice A0_0 l0_0.length c0_0, .slice A0_1 l0_1.length c0_1, .slice A0_2 l0_2.length c0_2] 27 (0, 0))) := ⟨h2_⟩
 have n3_ : Aside0 (w13.heap[gb249]? = some (.cells #[.slice none 0 0, .slice none 0 0, .slice none 0 0] 27 (0, 0))) := ⟨h3_⟩
 have n4_ : Aside0 (Below w.heap.size w w13) := ⟨h4_⟩
 clear BK0
 clear BK249
 clear HB
 clear h0_ h1_ h2_ h3_ h4_
 have HO255 := n0_
 have HO261 := n1_
 have BK0 := n2_
 have BK249 := n3_
 have HB := n4_
 clear n0_ n1_ n2_ n3_ n4_
 have hHeld : w13.cell? ⟨g0_, 0, none⟩ = some (.slice A0_0 l0_0.length c0_0) ∧ w13.cell? ⟨g0_, 1, none⟩ = some (.slice A0_1 l0_1.length c0_1) ∧ w13.cell? ⟨g0_, 2, none⟩ = some (.slice A0_2 l0_2.length c0_2) := hS_
 refine norm_ (a' := ?_) ?_ ?_
 rotate_left
 {
 simp only [putAll, Act.put, List.setIfInBounds_toArray, List.set_cons_zero, List.set_cons_succ]
 rfl}
 refine one_ (i := 12) (N := some 15) m0_ rfl rfl (one_of HT_.out s2_) (by decide) (fun K hK => ?_)
 refine Kd.R_lit_step k73 _ 73 ?hg (N := 15) ?hd (xs := ([] : List (S73))) (inner := []) (ok := fun _ => True) (okp := fun _ => True) ?hr ?hp (fun _ hk => hk) trivial (Below.refl _ _) (Nat.le_refl _) (by simp) ?_; (case hd => rfl); (case hg => rfl); (case hr => first | (go_simp; done) | (go_simp; rfl)); (case hp => exact (Reps.none _ _))
 intro v263 w14 ho15 hb hg_ hnew_
 clear hg_ hnew_
 (first | rw [← Ny262.out] at ho15 | (simp only [Int.reduceToNat] at ho15; rw [← Ny262.out] at ho15))
 replace HO255 := r1_ HO255 hb
 replace HO261 := r1_ HO261 hb
 have HO264 := Aside0.mk (Kd.R_lower ho15 (below_size (y1_ HB.out)))
 replace BK0 := b3_ BK0 hb
 replace BK249 := b3_ BK249 hb
 replace HB := Aside0.mk (below_step (y1_ HB.out) hb)
 clear hb ho15
 refine hK.out _ _ ⟨(blk_cell BK0.out 0).trans rfl, (blk_cell BK0.out 1).trans rfl, (blk_cell BK0.out 2).trans rfl⟩ (fun hHeld => ?_)
 clear hK K
 refine norm_ (a' := ?_) ?_ ?_
 rotate_left
 {
 show Act.put _ (some 15) _ = _
 simp only [Act.put, List.setIfInBounds_toArray, List.set_cons_zero, List.set_cons_succ, i64_w, i32_w]
 rfl}
 exact norm_ (by first | (simp only [putAll, Act.put, List.setIfInBounds_toArray, List.set_cons_zero, List.set_cons_succ]; done) | (simp only [putAll, Act.put, List.setIfInBounds_toArray, List.set_cons_zero, List.set_cons_succ]; rfl)) (hJ0_5_6_11_12 (v251, v254, v257, v260, v263) _ ⟨hHeld, (b2_ HO255.out), (b2_ HO261.out), (b2_ HO264.out), (b1_ BK0.out), (b1_ BK249.out), (y1_ HB.out)⟩)}}
 rintro ⟨v251, v254, v257, v260, v263⟩ w15 ⟨hS_, h0_, h1_, h2_, h3_, h4_, h5_⟩
 have n0_ : Aside0 (Kd.R k63 63 w15 w.heap.size (fun k_ => some k_ ≠ (v260 : Value).ownBlock) v254 y253) := ⟨h0_⟩
 have n1_ : Aside0 (Kd.R k63 63 w15 w.heap.size (fun k_ => some k_ ≠ (v254 : Value).ownBlock) v260 y259) := ⟨h1_⟩
 have n2_ : Aside0 (Kd.R k73 73 w15 w.heap.size (fun _ => True) v263 y262) := ⟨h2_⟩
 have n3_ : Aside0 (w15.heap[g0_]? = some (.cells #[.slice A0_0 l0_0.length c0_0, .slice A0_1 l0_1.length c0_1, .slice A0_2 l0_2.length c0_2] 27 (0, 0))) := ⟨h3_⟩
 have n4_ : Aside0 (w15.heap[gb249]? = some (.cells #[.slice none 0 0, .slice none 0 0, .slice none 0 0] 27 (0, 0))) := ⟨h4_⟩
 have n5_ : Aside0 (Below w.heap.size w w15) := ⟨h5_⟩
 clear BK0
 clear BK249
 clear HB
 clear h0_ h1_ h2_ h3_ h4_ h5_
 have HO255 := n0_
 have HO261 := n1_
 have HO264 := n2_
 have BK0 := n3_
 have BK249 := n4_
 have HB := n5_
 clear n0_ n1_ n2_ n3_ n4_ n5_
 have hHeld : w15.cell? ⟨g0_, 0, none⟩ = some (.slice A0_0 l0_0.length c0_0) ∧ w15.cell? ⟨g0_, 1, none⟩ = some (.slice A0_1 l0_1.length c0_1) ∧ w15.cell? ⟨g0_, 2, none⟩ = some (.slice A0_2 l0_2.length c0_2) := hS_
 refine norm_ (a' := ?_) ?_ ?_
 rotate_left
 {
 simp only [putAll, Act.put, List.setIfInBounds_toArray, List.set_cons_zero, List.set_cons_succ]
 rfl}
 refine one_ (i := 17) (N := some 20) #[T,T,T,T,T,T,T,T,T,T,T,T,T,T,T,T,T,T,F,F] rfl rfl (one_of HT_.out s2_) (by decide) (fun K hK => ?_)
 refine Kd.R_append_rows_step k73 (w0 := w) w.heap.size (by rfl) (.tmp 15) (.tmp 19) 25 73 (.agg #[(.int .i64 0), (.int .i64 0)]) 16 rfl Try.underlying25 info73 rfl (by decide) (by omega) v263 y262 l0_2 _ _ _ (fun _ => True) (fun _ => False) rfl rfl ?aO ?aR (fun _ _ h => h) (fun _ h => h.elim) ?aF ?aB ?aS ?aL ?_
 (case aR => exact y2_ (Kd.C_below HR0_2.out HB.out))
 (case aB => exact (y1_ HB.out))
 (case aF => exact (fun _ _ => trivial))
 (case aO => exact (b2_ HO264.out))
 (case aS => exact (below_size (y1_ HB.out)))
 (case aL => have := LMc4.out; omega)
 intro v266 w16 ho hb hg hat
 rw [← Ny265.out] at ho
 replace BK0 := Aside0.mk (blk_grown (g := g0_) (o := .cells #[.slice A0_0 l0_0.length c0_0, .slice A0_1 l0_1.length c0_1, .slice A0_2 l0_2.length c0_2] 27 (0, 0)) (b1_ BK0.out) hg (Kd.R_ne HO264.out BK0.out (by decide)))
 replace BK249 := Aside0.mk (blk_grown (g := gb249) (o := .cells #[.slice none 0 0, .slice none 0 0, .slice none 0 0] 27 (0, 0)) (b1_ BK249.out) hg (Kd.R_ne HO264.out BK249.out (by decide)))
 replace HO255 := Aside0.mk (Kd.R_over' (b2_ HO255.out) (Kd.R_typed (b2_ HO264.out)) (by decide) hg)
 replace HO261 := Aside0.mk (Kd.R_over' (b2_ HO261.out) (Kd.R_typed (b2_ HO264.out)) (by decide) hg)
 replace HB := Aside0.mk (hb)
 have HO267 := Aside0.mk (ho)
 clear HO264
 clear ho hb hg hat
 obtain ⟨Ao17, co17, eo17⟩ := Kd.R_slice HO267.out
 (first | subst eo17 | (injection eo17 with f1_ f2_ f3_; have f4_ := f1_.symm; have f5_ := f3_.symm; clear f1_ f2_ f3_; subst f4_; subst f5_))
 obtain ⟨Ao18, co18, eo18⟩ := Kd.R_slice HO261.out
 (first | subst eo18 | (injection eo18 with f1_ f2_ f3_; have f4_ := f1_.symm; have f5_ := f3_.symm; clear f1_ f2_ f3_; subst f4_; subst f5_))
 obtain ⟨Ao19, co19, eo19⟩ := Kd.R_slice HO255.out
 (first | subst eo19 | (injection eo19 with f1_ f2_ f3_; have f4_ := f1_.symm; have f5_ := f3_.symm; clear f1_ f2_ f3_; subst f4_; subst f5_))
 refine hK.out _ _ ⟨(blk_cell BK0.out 0).trans rfl, (blk_cell BK0.out 1).trans rfl, (blk_cell BK0.out 2).trans rfl⟩ (fun hHeld => ?_)
 clear hK K
 refine norm_ (a' := ?_) ?_ ?_
 rotate_left
 {
 show Act.put _ (some 20) _ = _
 simp only [Act.put, List.setIfInBounds_toArray, List.set_cons_zero, List.set_cons_succ, i64_w, i32_w]
 rfl}
 refine pu_ 18 21 #[T,T,T,T,T,T,T,T,T,T,T,T,T,T,T,T,T,T,T,F] (any_of HT_.out s2_) ?_
 refine one_ (i := 19) (N := none) #[T,T,T,T,T,T,T,T,T,T,T,T,T,T,T,T,T,T,T,T] rfl rfl (one_of HT_.out s2_) (by decide) (fun K hK => ?_)
 have hs20 : w16.cell? ⟨gb249, 0, none⟩ = some (.slice none 0 0) := (blk_cell BK249.out 0).trans rfl
 have hfs20 := blk_frozen BK249.out 0
 have hns20_0 := NB0_249.out
 have hms20_0 := NB249_0.out
 have hs21 : w16.cell? ⟨gb249, 1, none⟩ = some (.slice none 0 0) := (blk_cell BK249.out 1).trans rfl
 have hfs21 := blk_frozen BK249.out 1
 have hns21_0 := NB0_249.out
 have hms21_0 := NB249_0.out
 have hs22 : w16.cell? ⟨gb249, 2, none⟩ = some (.slice none 0 0) := (blk_cell BK249.out 2).trans rfl
 have hfs22 := blk_frozen BK249.out 2
 have hns22_0 := NB0_249.out
 have hms22_0 := NB249_0.out
 refine skip_ (w1 := ?_) (by rfl) rfl ?_ ?_
 rotate_left
 {
 go_simp
 rfl}
 refine hK.out _ _ ⟨((cell_far (p := ⟨gb249, _, none⟩) NB0_249.out _).trans (((cell_far (p := ⟨gb249, _, none⟩) NB0_249.out _).trans (((cell_far (p := ⟨gb249, _, none⟩) NB0_249.out _).trans (hHeld.1)))))), ((cell_far (p := ⟨gb249, _, none⟩) NB0_249.out _).trans (((cell_far (p := ⟨gb249, _, none⟩) NB0_249.out _).trans (((cell_far (p := ⟨gb249, _, none⟩) NB0_249.out _).trans (hHeld.2.1)))))), ((cell_far (p := ⟨gb249, _, none⟩) NB0_249.out _).trans (((cell_far (p := ⟨gb249, _, none⟩) NB0_249.out _).trans (((cell_far (p := ⟨gb249, _, none⟩) NB0_249.out _).trans (hHeld.2.2))))))⟩ (fun hHeld => ?_)
 clear hK K
 refine done_ (done_of HT_.out s2_) ?_
 try go_wp2
 refine bodyPost_ret (results_cell_row rfl _ _ gb249 27 #[.slice Ao19 y253.length co19, .slice Ao18 y259.length co18, .slice Ao17 y265.length co17] (0, 0) _ rfl (by (with_reducible repeat (first | refine blk_drewN ?_ _ | refine blk_drew ?_ | refine blk_alloc ?_ _)); refine blk_put3 (cs := #[.slice none 0 0, .slice none 0 0, .slice none 0 0]) ?_ rfl; (with_reducible repeat (first | refine blk_drewN ?_ _ | refine blk_drew ?_ | refine blk_alloc ?_ _)); exact BK249.out) Try.underlying27 rfl s2_) rfl ?_
 exact ⟨_, _, _, by first | rfl | (simp [errW_none, errW_some] <;> rfl) | (simp [*, errW_none, errW_some] <;> rfl), by (with_reducible repeat (first | apply Kd.R_alloc | apply Kd.R_drewN | apply Kd.R_drew)); exact Kd.R_mono (Kd.R_far3 (g := gb249) (Kd.R_types HO255.out BK249.out (by decide)) (fun _ hk => hk.2)) (fun _ hk => hk.1), by (with_reducible repeat (first | apply Kd.R_alloc | apply Kd.R_drewN | apply Kd.R_drew)); exact Kd.R_mono (Kd.R_far3 (g := gb249) (Kd.R_types HO261.out BK249.out (by decide)) (fun _ hk => hk.2)) (fun _ hk => hk.1), by (with_reducible repeat (first | apply Kd.R_alloc | apply Kd.R_drewN | apply Kd.R_drew)); exact Kd.R_mono (Kd.R_far3 (g := gb249) (Kd.R_types HO267.out BK249.out (by decide)) (fun _ hk => hk.2)) (fun _ hk => trivial), by repeat (first | (with_reducible first | exact HB.out | apply below_alloc | apply pw_below_drewN | apply below_drew1 | refine below_set ?_ GE249.out) | exact HB.out)⟩}
 {
 rw [if_neg c4] at H
 exact absurd H (by simp)}}
 {
 rw [if_neg c3] at H
 exact absurd H (by simp)}}
 {
 rw [if_neg c2] at H
 exact absurd H (by simp)}

end Go.Proofs.Ytgfilednbllkmaa.QFnExactStartTyping
