-- written by a program of this session, on the lines of the kit's print
import Derived.Test.YtgfilednbllkmaaQFnJoinedPresencex0
namespace Go.Proofs.Ytgfilednbllkmaa.QFnJoinedPresence
open Go.RowKit Go.Proofs.YtgfilednbllkmaaW.PrintWords Go.Proofs.YtgfilednbllkmaaW.PrintLast Go.Proofs.YtgfilednbllkmaaW.PrintMore
attribute [local go_sem] max2_int min2_int max_two min_two max_three min_three max_four min_four   -- for this text's walks alone
set_option linter.unusedVariables false
set_option linter.unusedSimpArgs false

/-! ### spec_l05Own: function 62 -/
abbrev spec_l05Own.T : Bool := true
abbrev spec_l05Own.F : Bool := false
abbrev spec_l05Own.m0_ : Array Bool := #[T,T,T,T,T,T,T,T,T,T,T,T,T,T,T,T,T,F,F,F]
abbrev spec_l05Own.m1_ : Array Bool := #[T,T,T,T,T,T,T,T,T,T,T,T,F,T,T,T,T,F,F,F]
abbrev spec_l05Own.m2_ : Array Bool := #[T,T,T,T,T,T,T,T,T,T,T,F,T,T,T,T,T,F,F,F]
abbrev spec_l05Own.m3_ : Array Bool := #[T,T,T,T,T,T,T,T,T,T,T,F,F,T,T,T,T,F,F,F]
abbrev spec_l05Own.m4_ : Array Bool := #[T,T,T,T,T,T,F,T,T,T,T,F,T,T,T,T,T,F,F,F]
abbrev spec_l05Own.m5_ : Array Bool := #[T,T,T,T,T,F,T,T,T,T,T,F,T,T,T,T,T,F,F,F]
abbrev spec_l05Own.m6_ : Array Bool := #[T,T,T,T,T,T,F,T,T,T,T,F,F,T,T,T,T,F,F,F]
abbrev spec_l05Own.m7_ : Array Bool := #[T,T,T,T,T,F,T,T,T,T,T,F,F,T,T,T,T,F,F,F]
abbrev spec_l05Own.m8_ : Array Bool := #[T,T,T,T,T,F,F,T,T,T,T,F,T,T,T,T,T,F,F,F]
abbrev spec_l05Own.m9_ : Array Bool := #[F,T,T,T,T,F,T,T,T,T,T,F,T,T,T,T,T,F,F,F]
abbrev spec_l05Own.m10_ : Array Bool := #[T,T,T,T,T,F,F,T,T,T,T,F,F,T,T,T,T,F,F,F]
abbrev spec_l05Own.m11_ : Array Bool := #[F,T,T,T,T,F,T,T,T,T,T,F,F,T,T,T,T,F,F,F]
abbrev spec_l05Own.m12_ : Array Bool := #[F,T,T,T,T,F,F,T,T,T,T,F,T,T,T,T,T,F,F,F]
def spec_l05Own.f (l0_0 : List (S63)) (l0_1 : List (S63)) (l0_2 : List (S73)) : Option ((List (S63)) × (List (S63)) × (List (S73))) := (some (([] : List (S63)) : List (S63))).bind fun y104 => (if y104.length + l0_0.length < 8796093022208 then ((some (([] : List (S63)) : List (S63))).bind fun y110 => (if y110.length + l0_1.length < 8796093022208 then ((some (([] : List (S73)) : List (S73))).bind fun y116 => (if y116.length + l0_2.length < 8796093022208 then (some ((y104 ++ l0_0), (y110 ++ l0_1), (y116 ++ l0_2))) else (none))) else (none))) else (none))
def spec_l05Own.T1 : Bool × List (List Nat × List Nat) := (true, [([], []), ([], []), ([1], [1]), ([2], [2]), ([3], [3]), ([0, 4], [0, 4]), ([], []), ([], []), ([7], [7]), ([8], [8]), ([9], [9]), ([6, 10, 5], [6, 10]), ([], []), ([], []), ([13], [13]), ([14], [14]), ([15], [15]), ([12, 16, 11], [12, 16]), ([5, 11, 17], [5, 11, 17]), ([18, 17, 0, 1, 2, 3, 4, 5, 6, 7, 8, 9, 10, 11, 12, 13, 14, 15, 16, 17, 18], [18])])
def spec_l05Own.B1 : List Nat := [0, 0, 2, 6, 14, 31, 0, 0, 128, 384, 896, 2047, 0, 0, 8192, 24576, 57344, 131071, 262143, 524287]
theorem spec_l05Own.tab1 : rtab .any (opsOf Try.f62 1) = spec_l05Own.T1 := by kernel_rfl
theorem spec_l05Own.bits1 : waitsOk spec_l05Own.T1.2 spec_l05Own.B1 = true := by kernel_rfl
set_option maxHeartbeats 8000000 in
set_option maxRecDepth 100000 in
theorem spec_l05Own.calls (g0_ : Nat) (A0_0 : Option Addr) (c0_0 : Nat) (l0_0 : List (S63)) (A0_1 : Option Addr) (c0_1 : Nat) (l0_1 : List (S63)) (A0_2 : Option Addr) (c0_2 : Nat) (l0_2 : List (S73)) (r1 : List (S63)) (r2 : List (S63)) (r3 : List (S73)) (w : World) (hbk0 : w.heap[g0_]? = some (.cells #[.slice A0_0 l0_0.length c0_0, .slice A0_1 l0_1.length c0_1, .slice A0_2 l0_2.length c0_2] 27 (0, 0))) (hr0_0 : Kd.C k63 w A0_0 l0_0.length l0_0) (hc0_0 : l0_0.length ≤ c0_0) (hr0_1 : Kd.C k63 w A0_1 l0_1.length l0_1) (hc0_1 : l0_1.length ≤ c0_1) (hr0_2 : Kd.C k73 w A0_2 l0_2.length l0_2) (hc0_2 : l0_2.length ≤ c0_2) (h : spec_l05Own.f l0_0 l0_1 l0_2 = some (r1, r2, r3)) :
    Calls Try.prog 62 #[.pointer (some ⟨g0_, 0, none⟩)] w fun e w' => ∃ v0_ v1_ v2_ : Value, e = .returned (.agg #[v0_, v1_, v2_]) ∧ Kd.R k63 63 w' w.heap.size (fun k_ => some k_ ≠ (v1_ : Value).ownBlock) v0_ r1 ∧ Kd.R k63 63 w' w.heap.size (fun k_ => some k_ ≠ (v0_ : Value).ownBlock) v1_ r2 ∧ Kd.R k73 73 w' w.heap.size (fun _ => True) v2_ r3 ∧ Below w.heap.size w w' := by
 have hu27 := Try.underlying27
 have HR0_0 := A_ hr0_0
 have HC0_0 := A_ hc0_0
 clear hr0_0 hc0_0
 have HR0_1 := A_ hr0_1
 have HC0_1 := A_ hc0_1
 clear hr0_1 hc0_1
 have HR0_2 := A_ hr0_2
 have HC0_2 := A_ hc0_2
 clear hr0_2 hc0_2
 have BK0 := A_ hbk0
 clear hbk0
 have HB := A_ (Below.refl w.heap.size w)
 have H : ((some (([] : List (S63)) : List (S63))).bind fun y104 => (if y104.length + l0_0.length < 8796093022208 then ((some (([] : List (S63)) : List (S63))).bind fun y110 => (if y110.length + l0_1.length < 8796093022208 then ((some (([] : List (S73)) : List (S73))).bind fun y116 => (if y116.length + l0_2.length < 8796093022208 then (some ((y104 ++ l0_0), (y110 ++ l0_1), (y116 ++ l0_2))) else (none))) else (none))) else (none))) = some (r1, r2, r3) := h
 clear h
 obtain ⟨y104, hy104⟩ : ∃ y_ : List (S63), y_ = (([] : List (S63))) := ⟨_, rfl⟩
 replace H : (if y104.length + l0_0.length < 8796093022208 then ((some (([] : List (S63)) : List (S63))).bind fun y110 => (if y110.length + l0_1.length < 8796093022208 then ((some (([] : List (S73)) : List (S73))).bind fun y116 => (if y116.length + l0_2.length < 8796093022208 then (some ((y104 ++ l0_0), (y110 ++ l0_1), (y116 ++ l0_2))) else (none))) else (none))) else (none)) = some (r1, r2, r3) := by first | (rw [hy104]; with_reducible exact H) | (have H2_ := (Option.bind_some _ _).symm.trans H; rw [hy104]; with_reducible exact H2_) | (have H2_ := (Option.bind_some _ _).symm.trans H; with_reducible exact H2_) | with_reducible exact H | (rw [hy104]; exact H) | exact H
 have Ny104 := A_ hy104
 clear hy104
 by_cases c2 : y104.length + l0_0.length < 8796093022208
 {
 rw [if_pos c2] at H
 have LMc2 := A_ c2
 clear c2
 obtain ⟨y107, hy107⟩ : ∃ y_ : List (S63), y_ = (y104 ++ l0_0) := ⟨_, rfl⟩
 replace H : ((some (([] : List (S63)) : List (S63))).bind fun y110 => (if y110.length + l0_1.length < 8796093022208 then ((some (([] : List (S73)) : List (S73))).bind fun y116 => (if y116.length + l0_2.length < 8796093022208 then (some (y107, (y110 ++ l0_1), (y116 ++ l0_2))) else (none))) else (none))) = some (r1, r2, r3) := by first | (rw [hy107]; with_reducible exact H) | (have H2_ := (Option.bind_some _ _).symm.trans H; rw [hy107]; with_reducible exact H2_) | (have H2_ := (Option.bind_some _ _).symm.trans H; with_reducible exact H2_) | with_reducible exact H | (rw [hy107]; exact H) | exact H
 have Ny107 := A_ hy107
 clear hy107
 obtain ⟨y110, hy110⟩ : ∃ y_ : List (S63), y_ = (([] : List (S63))) := ⟨_, rfl⟩
 replace H : (if y110.length + l0_1.length < 8796093022208 then ((some (([] : List (S73)) : List (S73))).bind fun y116 => (if y116.length + l0_2.length < 8796093022208 then (some (y107, (y110 ++ l0_1), (y116 ++ l0_2))) else (none))) else (none)) = some (r1, r2, r3) := by first | (rw [hy110]; with_reducible exact H) | (have H2_ := (Option.bind_some _ _).symm.trans H; rw [hy110]; with_reducible exact H2_) | (have H2_ := (Option.bind_some _ _).symm.trans H; with_reducible exact H2_) | with_reducible exact H | (rw [hy110]; exact H) | exact H
 have Ny110 := A_ hy110
 clear hy110
 by_cases c3 : y110.length + l0_1.length < 8796093022208
 {
 rw [if_pos c3] at H
 have LMc3 := A_ c3
 clear c3
 obtain ⟨y113, hy113⟩ : ∃ y_ : List (S63), y_ = (y110 ++ l0_1) := ⟨_, rfl⟩
 replace H : ((some (([] : List (S73)) : List (S73))).bind fun y116 => (if y116.length + l0_2.length < 8796093022208 then (some (y107, y113, (y116 ++ l0_2))) else (none))) = some (r1, r2, r3) := by first | (rw [hy113]; with_reducible exact H) | (have H2_ := (Option.bind_some _ _).symm.trans H; rw [hy113]; with_reducible exact H2_) | (have H2_ := (Option.bind_some _ _).symm.trans H; with_reducible exact H2_) | with_reducible exact H | (rw [hy113]; exact H) | exact H
 have Ny113 := A_ hy113
 clear hy113
 obtain ⟨y116, hy116⟩ : ∃ y_ : List (S73), y_ = (([] : List (S73))) := ⟨_, rfl⟩
 replace H : (if y116.length + l0_2.length < 8796093022208 then (some (y107, y113, (y116 ++ l0_2))) else (none)) = some (r1, r2, r3) := by first | (rw [hy116]; with_reducible exact H) | (have H2_ := (Option.bind_some _ _).symm.trans H; rw [hy116]; with_reducible exact H2_) | (have H2_ := (Option.bind_some _ _).symm.trans H; with_reducible exact H2_) | with_reducible exact H | (rw [hy116]; exact H) | exact H
 have Ny116 := A_ hy116
 clear hy116
 by_cases c4 : y116.length + l0_2.length < 8796093022208
 {
 rw [if_pos c4] at H
 have LMc4 := A_ c4
 clear c4
 obtain ⟨y119, hy119⟩ : ∃ y_ : List (S73), y_ = (y116 ++ l0_2) := ⟨_, rfl⟩
 replace H : (some (y107, y113, y119)) = some (r1, r2, r3) := by first | (rw [hy119]; with_reducible exact H) | (have H2_ := (Option.bind_some _ _).symm.trans H; rw [hy119]; with_reducible exact H2_) | (have H2_ := (Option.bind_some _ _).symm.trans H; with_reducible exact H2_) | with_reducible exact H | (rw [hy119]; exact H) | exact H
 have Ny119 := A_ hy119
 clear hy119
 simp only [Option.some.injEq, Prod.mk.injEq] at H
 obtain ⟨rfl, rfl, rfl⟩ := H
 go_enter Try.func62, Try.ntmps62
 try go_wp2_with (first | ((with_reducible refine gate_dst (N := 2) rfl ?_); refine box_event ?hg (N := 2) ?hd (cs := #[.slice none 0 0, .slice none 0 0, .slice none 0 0]) (t := 27) ?hr ?_; (case hd => rfl); (case hg => rfl); (case hr => first | (go_simp; done) | (go_simp; rfl)); intro gb103 hg w5 hbox hb; have GW103 := b6_ hg HB; have GE103 := b6_ hg HB; have NB0_103 := b4_ hg BK0; have NB103_0 := b5_ hg BK0; replace BK0 := b3_ BK0 hb; replace HB := A_ (below_step (y1_ HB.out) hb); have BK103 := A_ (hbox); clear hb hbox hg))
 replace BK0 := A_ (blk_drew BK0.out)
 replace BK103 := A_ (blk_drew BK103.out)
 replace HB := A_ (below_drew1 HB.out)
 refine start_ (n := 20) (S := fun w' => w'.cell? ⟨g0_, 0, none⟩ = some (.slice A0_0 l0_0.length c0_0) ∧ w'.cell? ⟨g0_, 1, none⟩ = some (.slice A0_1 l0_1.length c0_1) ∧ w'.cell? ⟨g0_, 2, none⟩ = some (.slice A0_2 l0_2.length c0_2)) (ds := []) #[F,F,F,F,F,F,F,F,F,F,F,F,F,F,F,F,F,F,F,F] s2_ rfl rfl ⟨(blk_cell BK0.out 0).trans rfl, (blk_cell BK0.out 1).trans rfl, (blk_cell BK0.out 2).trans rfl⟩ (fun hHeld => ?_); refine with_tabW spec_l05Own.tab1 spec_l05Own.bits1 (fun HT_ HW_ => ?_)
 generalize w5.drew = w6 at BK0 BK103 HB hHeld ⊢
 refine pu_ 1 4 #[F,T,F,F,F,F,F,F,F,F,F,F,F,F,F,F,F,F,F,F] (any_of HT_.out s2_) ?_
 refine pu_ 2 5 #[F,T,T,F,F,F,F,F,F,F,F,F,F,F,F,F,F,F,F,F] (any_of HT_.out s2_) ?_
 refine pu_ 3 6 #[F,T,T,T,F,F,F,F,F,F,F,F,F,F,F,F,F,F,F,F] (any_of HT_.out s2_) ?_
 refine pu_ 7 10 #[F,T,T,T,F,F,F,T,F,F,F,F,F,F,F,F,F,F,F,F] (any_of HT_.out s2_) ?_
 refine pu_ 8 11 #[F,T,T,T,F,F,F,T,T,F,F,F,F,F,F,F,F,F,F,F] (any_of HT_.out s2_) ?_
 refine pu_ 9 12 #[F,T,T,T,F,F,F,T,T,T,F,F,F,F,F,F,F,F,F,F] (any_of HT_.out s2_) ?_
 refine pu_ 13 16 #[F,T,T,T,F,F,F,T,T,T,F,F,F,T,F,F,F,F,F,F] (any_of HT_.out s2_) ?_
 refine pu_ 14 17 #[F,T,T,T,F,F,F,T,T,T,F,F,F,T,T,F,F,F,F,F] (any_of HT_.out s2_) ?_
 refine pu_ 15 18 #[F,T,T,T,F,F,F,T,T,T,F,F,F,T,T,T,F,F,F,F] (any_of HT_.out s2_) ?_
 refine take_ (i := 4) (N := some 7) (v := ?_) (a' := ?_) #[F,T,T,T,T,F,F,T,T,T,F,F,F,T,T,T,F,F,F,F] rfl rfl (take_ofW HT_.out HW_.out s2_) (fun _ _ _ h => h) (Or.inl ⟨by rfl, ?_⟩) hHeld ?_ ?_
 rotate_left
 {
 rintro w' ⟨s0, s1, s2⟩
 go_simp
 with_reducible rfl}
 rotate_left
 · exact p1_
 refine take_ (i := 10) (N := some 13) (v := ?_) (a' := ?_) #[F,T,T,T,T,F,F,T,T,T,T,F,F,T,T,T,F,F,F,F] rfl rfl (take_ofW HT_.out HW_.out s2_) (fun _ _ _ h => h) (Or.inl ⟨by rfl, ?_⟩) hHeld ?_ ?_
 rotate_left
 {
 rintro w' ⟨s0, s1, s2⟩
 go_simp
 with_reducible rfl}
 rotate_left
 · exact p1_
 refine take_ (i := 16) (N := some 19) (v := ?_) (a' := ?_) #[F,T,T,T,T,F,F,T,T,T,T,F,F,T,T,T,T,F,F,F] rfl rfl (take_ofW HT_.out HW_.out s2_) (fun _ _ _ h => h) (Or.inl ⟨by rfl, ?_⟩) hHeld ?_ ?_
 rotate_left
 {
 rintro w' ⟨s0, s1, s2⟩
 go_simp
 with_reducible rfl}
 rotate_left
 · exact p1_
 refine join_ (σ := Value × Value × Value × Value × Value) 3 m0_ (fun s_ => [(3, s_.1), (8, s_.2.1), (9, s_.2.2.1), (14, s_.2.2.2.1), (15, s_.2.2.2.2)]) (fun s_ w' => (w'.cell? ⟨g0_, 0, none⟩ = some (.slice A0_0 l0_0.length c0_0) ∧ w'.cell? ⟨g0_, 1, none⟩ = some (.slice A0_1 l0_1.length c0_1) ∧ w'.cell? ⟨g0_, 2, none⟩ = some (.slice A0_2 l0_2.length c0_2)) ∧ (Kd.R k63 63 w' w.heap.size (fun k_ => some k_ ≠ (s_.2.2.2.1 : Value).ownBlock) s_.2.1 y107) ∧ (Kd.R k63 63 w' w.heap.size (fun k_ => some k_ ≠ (s_.2.1 : Value).ownBlock) s_.2.2.2.1 y113) ∧ (Kd.R k73 73 w' w.heap.size (fun _ => True) s_.2.2.2.2 y116) ∧ (w'.heap[g0_]? = some (.cells #[.slice A0_0 l0_0.length c0_0, .slice A0_1 l0_1.length c0_1, .slice A0_2 l0_2.length c0_2] 27 (0, 0))) ∧ (w'.heap[gb103]? = some (.cells #[.slice none 0 0, .slice none 0 0, .slice none 0 0] 27 (0, 0))) ∧ (Below w.heap.size w w')) ?_ ?_
 rotate_left
 {
 intro hJ0_5_6_11_12
 refine join_ (σ := Value × Value × Value × Value) 4 m1_ (fun s_ => [(3, s_.1), (8, s_.2.1), (9, s_.2.2.1), (14, s_.2.2.2)]) (fun s_ w' => (w'.cell? ⟨g0_, 0, none⟩ = some (.slice A0_0 l0_0.length c0_0) ∧ w'.cell? ⟨g0_, 1, none⟩ = some (.slice A0_1 l0_1.length c0_1) ∧ w'.cell? ⟨g0_, 2, none⟩ = some (.slice A0_2 l0_2.length c0_2)) ∧ (Kd.R k63 63 w' w.heap.size (fun k_ => some k_ ≠ (s_.2.2.2 : Value).ownBlock) s_.2.1 y107) ∧ (Kd.R k63 63 w' w.heap.size (fun k_ => some k_ ≠ (s_.2.1 : Value).ownBlock) s_.2.2.2 y113) ∧ (w'.heap[g0_]? = some (.cells #[.slice A0_0 l0_0.length c0_0, .slice A0_1 l0_1.length c0_1, .slice A0_2 l0_2.length c0_2] 27 (0, 0))) ∧ (w'.heap[gb103]? = some (.cells #[.slice none 0 0, .slice none 0 0, .slice none 0 0] 27 (0, 0))) ∧ (Below w.heap.size w w')) ?_ ?_
 rotate_left
 {
 intro hJ0_5_6_11
 refine join_ (σ := Value × Value × Value × Value) 4 m2_ (fun s_ => [(3, s_.1), (8, s_.2.1), (9, s_.2.2.1), (15, s_.2.2.2)]) (fun s_ w' => (w'.cell? ⟨g0_, 0, none⟩ = some (.slice A0_0 l0_0.length c0_0) ∧ w'.cell? ⟨g0_, 1, none⟩ = some (.slice A0_1 l0_1.length c0_1) ∧ w'.cell? ⟨g0_, 2, none⟩ = some (.slice A0_2 l0_2.length c0_2)) ∧ (Kd.R k63 63 w' w.heap.size (fun k_ => some k_ ≠ (s_.2.2.1 : Value).ownBlock) s_.2.1 y107) ∧ (Kd.R k63 63 w' w.heap.size (fun k_ => some k_ ≠ (s_.2.1 : Value).ownBlock) s_.2.2.1 y110) ∧ (Kd.R k73 73 w' w.heap.size (fun _ => True) s_.2.2.2 y116) ∧ (w'.heap[g0_]? = some (.cells #[.slice A0_0 l0_0.length c0_0, .slice A0_1 l0_1.length c0_1, .slice A0_2 l0_2.length c0_2] 27 (0, 0))) ∧ (w'.heap[gb103]? = some (.cells #[.slice none 0 0, .slice none 0 0, .slice none 0 0] 27 (0, 0))) ∧ (Below w.heap.size w w')) ?_ ?_
 rotate_left
 {
 intro hJ0_5_6_12
 refine join_ (σ := Value × Value × Value) 5 m3_ (fun s_ => [(3, s_.1), (8, s_.2.1), (9, s_.2.2)]) (fun s_ w' => (w'.cell? ⟨g0_, 0, none⟩ = some (.slice A0_0 l0_0.length c0_0) ∧ w'.cell? ⟨g0_, 1, none⟩ = some (.slice A0_1 l0_1.length c0_1) ∧ w'.cell? ⟨g0_, 2, none⟩ = some (.slice A0_2 l0_2.length c0_2)) ∧ (Kd.R k63 63 w' w.heap.size (fun k_ => some k_ ≠ (s_.2.2 : Value).ownBlock) s_.2.1 y107) ∧ (Kd.R k63 63 w' w.heap.size (fun k_ => some k_ ≠ (s_.2.1 : Value).ownBlock) s_.2.2 y110) ∧ (w'.heap[g0_]? = some (.cells #[.slice A0_0 l0_0.length c0_0, .slice A0_1 l0_1.length c0_1, .slice A0_2 l0_2.length c0_2] 27 (0, 0))) ∧ (w'.heap[gb103]? = some (.cells #[.slice none 0 0, .slice none 0 0, .slice none 0 0] 27 (0, 0))) ∧ (Below w.heap.size w w')) ?_ ?_
 rotate_left
 {
 intro hJ0_5_6
 refine join_ (σ := Value × Value × Value) 5 m4_ (fun s_ => [(3, s_.1), (8, s_.2.1), (15, s_.2.2)]) (fun s_ w' => (w'.cell? ⟨g0_, 0, none⟩ = some (.slice A0_0 l0_0.length c0_0) ∧ w'.cell? ⟨g0_, 1, none⟩ = some (.slice A0_1 l0_1.length c0_1) ∧ w'.cell? ⟨g0_, 2, none⟩ = some (.slice A0_2 l0_2.length c0_2)) ∧ (Kd.R k63 63 w' w.heap.size (fun _ => True) s_.2.1 y107) ∧ (Kd.R k73 73 w' w.heap.size (fun _ => True) s_.2.2 y116) ∧ (w'.heap[g0_]? = some (.cells #[.slice A0_0 l0_0.length c0_0, .slice A0_1 l0_1.length c0_1, .slice A0_2 l0_2.length c0_2] 27 (0, 0))) ∧ (w'.heap[gb103]? = some (.cells #[.slice none 0 0, .slice none 0 0, .slice none 0 0] 27 (0, 0))) ∧ (Below w.heap.size w w')) ?_ ?_
 rotate_left
 {
 intro hJ0_5_12
 refine join_ (σ := Value × Value × Value) 5 m5_ (fun s_ => [(3, s_.1), (9, s_.2.1), (15, s_.2.2)]) (fun s_ w' => (w'.cell? ⟨g0_, 0, none⟩ = some (.slice A0_0 l0_0.length c0_0) ∧ w'.cell? ⟨g0_, 1, none⟩ = some (.slice A0_1 l0_1.length c0_1) ∧ w'.cell? ⟨g0_, 2, none⟩ = some (.slice A0_2 l0_2.length c0_2)) ∧ (Kd.R k63 63 w' w.heap.size (fun k_ => some k_ ≠ (s_.2.1 : Value).ownBlock) s_.1 y104) ∧ (Kd.R k63 63 w' w.heap.size (fun k_ => some k_ ≠ (s_.1 : Value).ownBlock) s_.2.1 y110) ∧ (Kd.R k73 73 w' w.heap.size (fun _ => True) s_.2.2 y116) ∧ (w'.heap[g0_]? = some (.cells #[.slice A0_0 l0_0.length c0_0, .slice A0_1 l0_1.length c0_1, .slice A0_2 l0_2.length c0_2] 27 (0, 0))) ∧ (w'.heap[gb103]? = some (.cells #[.slice none 0 0, .slice none 0 0, .slice none 0 0] 27 (0, 0))) ∧ (Below w.heap.size w w')) ?_ ?_
 rotate_left
 {
 intro hJ0_6_12
 refine join_ (σ := Value × Value) 6 m6_ (fun s_ => [(3, s_.1), (8, s_.2)]) (fun s_ w' => (w'.cell? ⟨g0_, 0, none⟩ = some (.slice A0_0 l0_0.length c0_0) ∧ w'.cell? ⟨g0_, 1, none⟩ = some (.slice A0_1 l0_1.length c0_1) ∧ w'.cell? ⟨g0_, 2, none⟩ = some (.slice A0_2 l0_2.length c0_2)) ∧ (Kd.R k63 63 w' w.heap.size (fun _ => True) s_.2 y107) ∧ (w'.heap[g0_]? = some (.cells #[.slice A0_0 l0_0.length c0_0, .slice A0_1 l0_1.length c0_1, .slice A0_2 l0_2.length c0_2] 27 (0, 0))) ∧ (w'.heap[gb103]? = some (.cells #[.slice none 0 0, .slice none 0 0, .slice none 0 0] 27 (0, 0))) ∧ (Below w.heap.size w w')) ?_ ?_
 rotate_left
 {
 intro hJ0_5
 refine join_ (σ := Value × Value) 6 m7_ (fun s_ => [(3, s_.1), (9, s_.2)]) (fun s_ w' => (w'.cell? ⟨g0_, 0, none⟩ = some (.slice A0_0 l0_0.length c0_0) ∧ w'.cell? ⟨g0_, 1, none⟩ = some (.slice A0_1 l0_1.length c0_1) ∧ w'.cell? ⟨g0_, 2, none⟩ = some (.slice A0_2 l0_2.length c0_2)) ∧ (Kd.R k63 63 w' w.heap.size (fun k_ => some k_ ≠ (s_.2 : Value).ownBlock) s_.1 y104) ∧ (Kd.R k63 63 w' w.heap.size (fun k_ => some k_ ≠ (s_.1 : Value).ownBlock) s_.2 y110) ∧ (w'.heap[g0_]? = some (.cells #[.slice A0_0 l0_0.length c0_0, .slice A0_1 l0_1.length c0_1, .slice A0_2 l0_2.length c0_2] 27 (0, 0))) ∧ (w'.heap[gb103]? = some (.cells #[.slice none 0 0, .slice none 0 0, .slice none 0 0] 27 (0, 0))) ∧ (Below w.heap.size w w')) ?_ ?_
 rotate_left
 {
 intro hJ0_6
 refine join_ (σ := Value × Value) 6 m8_ (fun s_ => [(3, s_.1), (15, s_.2)]) (fun s_ w' => (w'.cell? ⟨g0_, 0, none⟩ = some (.slice A0_0 l0_0.length c0_0) ∧ w'.cell? ⟨g0_, 1, none⟩ = some (.slice A0_1 l0_1.length c0_1) ∧ w'.cell? ⟨g0_, 2, none⟩ = some (.slice A0_2 l0_2.length c0_2)) ∧ (Kd.R k63 63 w' w.heap.size (fun _ => True) s_.1 y104) ∧ (Kd.R k73 73 w' w.heap.size (fun _ => True) s_.2 y116) ∧ (w'.heap[g0_]? = some (.cells #[.slice A0_0 l0_0.length c0_0, .slice A0_1 l0_1.length c0_1, .slice A0_2 l0_2.length c0_2] 27 (0, 0))) ∧ (w'.heap[gb103]? = some (.cells #[.slice none 0 0, .slice none 0 0, .slice none 0 0] 27 (0, 0))) ∧ (Below w.heap.size w w')) ?_ ?_
 rotate_left
 {
 intro hJ0_12
 refine join_ (σ := Value × Value) 6 m9_ (fun s_ => [(9, s_.1), (15, s_.2)]) (fun s_ w' => (w'.cell? ⟨g0_, 0, none⟩ = some (.slice A0_0 l0_0.length c0_0) ∧ w'.cell? ⟨g0_, 1, none⟩ = some (.slice A0_1 l0_1.length c0_1) ∧ w'.cell? ⟨g0_, 2, none⟩ = some (.slice A0_2 l0_2.length c0_2)) ∧ (Kd.R k63 63 w' w.heap.size (fun _ => True) s_.1 y110) ∧ (Kd.R k73 73 w' w.heap.size (fun _ => True) s_.2 y116) ∧ (w'.heap[g0_]? = some (.cells #[.slice A0_0 l0_0.length c0_0, .slice A0_1 l0_1.length c0_1, .slice A0_2 l0_2.length c0_2] 27 (0, 0))) ∧ (w'.heap[gb103]? = some (.cells #[.slice none 0 0, .slice none 0 0, .slice none 0 0] 27 (0, 0))) ∧ (Below w.heap.size w w')) ?_ ?_
 rotate_left
 {
 intro hJ6_12
 refine join_ (σ := Value) 7 m10_ (fun s_ => [(3, s_)]) (fun s_ w' => (w'.cell? ⟨g0_, 0, none⟩ = some (.slice A0_0 l0_0.length c0_0) ∧ w'.cell? ⟨g0_, 1, none⟩ = some (.slice A0_1 l0_1.length c0_1) ∧ w'.cell? ⟨g0_, 2, none⟩ = some (.slice A0_2 l0_2.length c0_2)) ∧ (Kd.R k63 63 w' w.heap.size (fun _ => True) s_ y104) ∧ (w'.heap[g0_]? = some (.cells #[.slice A0_0 l0_0.length c0_0, .slice A0_1 l0_1.length c0_1, .slice A0_2 l0_2.length c0_2] 27 (0, 0))) ∧ (w'.heap[gb103]? = some (.cells #[.slice none 0 0, .slice none 0 0, .slice none 0 0] 27 (0, 0))) ∧ (Below w.heap.size w w')) ?_ ?_
 rotate_left
 {
 intro hJ0
 refine join_ (σ := Value) 7 m11_ (fun s_ => [(9, s_)]) (fun s_ w' => (w'.cell? ⟨g0_, 0, none⟩ = some (.slice A0_0 l0_0.length c0_0) ∧ w'.cell? ⟨g0_, 1, none⟩ = some (.slice A0_1 l0_1.length c0_1) ∧ w'.cell? ⟨g0_, 2, none⟩ = some (.slice A0_2 l0_2.length c0_2)) ∧ (Kd.R k63 63 w' w.heap.size (fun _ => True) s_ y110) ∧ (w'.heap[g0_]? = some (.cells #[.slice A0_0 l0_0.length c0_0, .slice A0_1 l0_1.length c0_1, .slice A0_2 l0_2.length c0_2] 27 (0, 0))) ∧ (w'.heap[gb103]? = some (.cells #[.slice none 0 0, .slice none 0 0, .slice none 0 0] 27 (0, 0))) ∧ (Below w.heap.size w w')) ?_ ?_
 rotate_left
 {
 intro hJ6
 refine join_ (σ := Value) 7 m12_ (fun s_ => [(15, s_)]) (fun s_ w' => (w'.cell? ⟨g0_, 0, none⟩ = some (.slice A0_0 l0_0.length c0_0) ∧ w'.cell? ⟨g0_, 1, none⟩ = some (.slice A0_1 l0_1.length c0_1) ∧ w'.cell? ⟨g0_, 2, none⟩ = some (.slice A0_2 l0_2.length c0_2)) ∧ (Kd.R k73 73 w' w.heap.size (fun _ => True) s_ y116) ∧ (w'.heap[g0_]? = some (.cells #[.slice A0_0 l0_0.length c0_0, .slice A0_1 l0_1.length c0_1, .slice A0_2 l0_2.length c0_2] 27 (0, 0))) ∧ (w'.heap[gb103]? = some (.cells #[.slice none 0 0, .slice none 0 0, .slice none 0 0] 27 (0, 0))) ∧ (Below w.heap.size w w')) ?_ ?_
 rotate_left
 {
 intro hJ12
 refine three_ (i := 0) (j := 6) (k := 12) (Ni := some 3) (Nj := some 9) (Nk := some 15) m10_ m11_ m12_ rfl rfl rfl rfl rfl rfl (three_of HT_.out s2_) (by decide) (by decide) (by decide) (fun K hK => ?_) (fun K hK => ?_) (fun K hK => ?_)
 {
 skip
 refine Kd.R_lit_step k63 _ 63 ?hg (N := 3) ?hd (xs := ([] : List (S63))) (inner := []) (ok := fun _ => True) (okp := fun _ => True) ?hr ?hp (fun _ hk => hk) trivial (Below.refl _ _) (Nat.le_refl _) (by simp) ?_; (case hd => rfl); (case hg => rfl); (case hr => first | (go_simp; done) | (go_simp; rfl)); (case hp => exact (Reps.none _ _))
 intro v105 w7 ho8 hb hg_ hnew_
 clear hg_ hnew_
 (first | rw [← Ny104.out] at ho8 | (simp only [Int.reduceToNat] at ho8; rw [← Ny104.out] at ho8))
 have HO106 := A_ (Kd.R_lower ho8 (below_size (y1_ HB.out)))
 replace BK0 := b3_ BK0 hb
 replace BK103 := b3_ BK103 hb
 replace HB := A_ (below_step (y1_ HB.out) hb)
 clear hb ho8
 refine hK.out _ _ ⟨(blk_cell BK0.out 0).trans rfl, (blk_cell BK0.out 1).trans rfl, (blk_cell BK0.out 2).trans rfl⟩ (fun hHeld => ?_)
 clear hK K
 refine norm_ (a' := ?_) ?_ ?_
 rotate_left
 {
 show Act.put _ (some 3) _ = _
 simp only [Act.put, List.setIfInBounds_toArray, List.set_cons_zero, List.set_cons_succ, i64_w, i32_w]
 rfl}
 exact norm_ (by first | (simp only [putAll, Act.put, List.setIfInBounds_toArray, List.set_cons_zero, List.set_cons_succ]; done) | (simp only [putAll, Act.put, List.setIfInBounds_toArray, List.set_cons_zero, List.set_cons_succ]; rfl)) (hJ0 (v105) _ ⟨hHeld, (b2_ HO106.out), (b1_ BK0.out), (b1_ BK103.out), (y1_ HB.out)⟩)}
 {
 skip
 refine Kd.R_lit_step k63 _ 63 ?hg (N := 9) ?hd (xs := ([] : List (S63))) (inner := []) (ok := fun _ => True) (okp := fun _ => True) ?hr ?hp (fun _ hk => hk) trivial (Below.refl _ _) (Nat.le_refl _) (by simp) ?_; (case hd => rfl); (case hg => rfl); (case hr => first | (go_simp; done) | (go_simp; rfl)); (case hp => exact (Reps.none _ _))
 intro v111 w7 ho8 hb hg_ hnew_
 clear hg_ hnew_
 (first | rw [← Ny110.out] at ho8 | (simp only [Int.reduceToNat] at ho8; rw [← Ny110.out] at ho8))
 have HO112 := A_ (Kd.R_lower ho8 (below_size (y1_ HB.out)))
 replace BK0 := b3_ BK0 hb
 replace BK103 := b3_ BK103 hb
 replace HB := A_ (below_step (y1_ HB.out) hb)
 clear hb ho8
 refine hK.out _ _ ⟨(blk_cell BK0.out 0).trans rfl, (blk_cell BK0.out 1).trans rfl, (blk_cell BK0.out 2).trans rfl⟩ (fun hHeld => ?_)
 clear hK K
 refine norm_ (a' := ?_) ?_ ?_
 rotate_left
 {
 show Act.put _ (some 9) _ = _
 simp only [Act.put, List.setIfInBounds_toArray, List.set_cons_zero, List.set_cons_succ, i64_w, i32_w]
 rfl}
 exact norm_ (by first | (simp only [putAll, Act.put, List.setIfInBounds_toArray, List.set_cons_zero, List.set_cons_succ]; done) | (simp only [putAll, Act.put, List.setIfInBounds_toArray, List.set_cons_zero, List.set_cons_succ]; rfl)) (hJ6 (v111) _ ⟨hHeld, (b2_ HO112.out), (b1_ BK0.out), (b1_ BK103.out), (y1_ HB.out)⟩)}
 {
 skip
 refine Kd.R_lit_step k73 _ 73 ?hg (N := 15) ?hd (xs := ([] : List (S73))) (inner := []) (ok := fun _ => True) (okp := fun _ => True) ?hr ?hp (fun _ hk => hk) trivial (Below.refl _ _) (Nat.le_refl _) (by simp) ?_; (case hd => rfl); (case hg => rfl); (case hr => first | (go_simp; done) | (go_simp; rfl)); (case hp => exact (Reps.none _ _))
 intro v117 w7 ho8 hb hg_ hnew_
 clear hg_ hnew_
 (first | rw [← Ny116.out] at ho8 | (simp only [Int.reduceToNat] at ho8; rw [← Ny116.out] at ho8))
 have HO118 := A_ (Kd.R_lower ho8 (below_size (y1_ HB.out)))
 replace BK0 := b3_ BK0 hb
 replace BK103 := b3_ BK103 hb
 replace HB := A_ (below_step (y1_ HB.out) hb)
 clear hb ho8
 refine hK.out _ _ ⟨(blk_cell BK0.out 0).trans rfl, (blk_cell BK0.out 1).trans rfl, (blk_cell BK0.out 2).trans rfl⟩ (fun hHeld => ?_)
 clear hK K
 refine norm_ (a' := ?_) ?_ ?_
 rotate_left
 {
 show Act.put _ (some 15) _ = _
 simp only [Act.put, List.setIfInBounds_toArray, List.set_cons_zero, List.set_cons_succ, i64_w, i32_w]
 rfl}
 exact norm_ (by first | (simp only [putAll, Act.put, List.setIfInBounds_toArray, List.set_cons_zero, List.set_cons_succ]; done) | (simp only [putAll, Act.put, List.setIfInBounds_toArray, List.set_cons_zero, List.set_cons_succ]; rfl)) (hJ12 (v117) _ ⟨hHeld, (b2_ HO118.out), (b1_ BK0.out), (b1_ BK103.out), (y1_ HB.out)⟩)}}
 {
 skip
 rintro v117 w9 ⟨hS_, h0_, h1_, h2_, h3_⟩
 have n0_ : Aside0 (Kd.R k73 73 w9 w.heap.size (fun _ => True) v117 y116) := ⟨h0_⟩
 have n1_ : Aside0 (w9.heap[g0_]? = some (.cells #[.slice A0_0 l0_0.length c0_0, .slice A0_1 l0_1.length c0_1, .slice A0_2 l0_2.length c0_2] 27 (0, 0))) := ⟨h1_⟩
 have n2_ : Aside0 (w9.heap[gb103]? = some (.cells #[.slice none 0 0, .slice none 0 0, .slice none 0 0] 27 (0, 0))) := ⟨h2_⟩
 have n3_ : Aside0 (Below w.heap.size w w9) := ⟨h3_⟩
 clear BK0
 clear BK103
 clear HB
 clear h0_ h1_ h2_ h3_
 have HO118 := n0_
 have BK0 := n1_
 have BK103 := n2_
 have HB := n3_
 clear n0_ n1_ n2_ n3_
 have hHeld : w9.cell? ⟨g0_, 0, none⟩ = some (.slice A0_0 l0_0.length c0_0) ∧ w9.cell? ⟨g0_, 1, none⟩ = some (.slice A0_1 l0_1.length c0_1) ∧ w9.cell? ⟨g0_, 2, none⟩ = some (.slice A0_2 l0_2.length c0_2) := hS_
 refine norm_ (a' := ?_) ?_ ?_
 rotate_left
 {
 simp only [putAll, Act.put, List.setIfInBounds_toArray, List.set_cons_zero, List.set_cons_succ]
 rfl}
 refine two_ (i := 0) (j := 6) (Ni := some 3) (Nj := some 9) m8_ m9_ rfl rfl rfl rfl (two_of HT_.out s2_) (by decide) (by decide) (fun K hK => ?_) (fun K hK => ?_)
 {
 skip
 refine Kd.R_lit_step k63 _ 63 ?hg (N := 3) ?hd (xs := ([] : List (S63))) (inner := []) (ok := fun _ => True) (okp := fun _ => True) ?hr ?hp (fun _ hk => hk) trivial (Below.refl _ _) (Nat.le_refl _) (by simp) ?_; (case hd => rfl); (case hg => rfl); (case hr => first | (go_simp; done) | (go_simp; rfl)); (case hp => exact (Reps.none _ _))
 intro v105 w10 ho11 hb hg_ hnew_
 clear hg_ hnew_
 (first | rw [← Ny104.out] at ho11 | (simp only [Int.reduceToNat] at ho11; rw [← Ny104.out] at ho11))
 replace HO118 := r1_ HO118 hb
 have HO106 := A_ (Kd.R_lower ho11 (below_size (y1_ HB.out)))
 replace BK0 := b3_ BK0 hb
 replace BK103 := b3_ BK103 hb
 replace HB := A_ (below_step (y1_ HB.out) hb)
 clear hb ho11
 refine hK.out _ _ ⟨(blk_cell BK0.out 0).trans rfl, (blk_cell BK0.out 1).trans rfl, (blk_cell BK0.out 2).trans rfl⟩ (fun hHeld => ?_)
 clear hK K
 refine norm_ (a' := ?_) ?_ ?_
 rotate_left
 {
 show Act.put _ (some 3) _ = _
 simp only [Act.put, List.setIfInBounds_toArray, List.set_cons_zero, List.set_cons_succ, i64_w, i32_w]
 rfl}
 exact norm_ (by first | (simp only [putAll, Act.put, List.setIfInBounds_toArray, List.set_cons_zero, List.set_cons_succ]; done) | (simp only [putAll, Act.put, List.setIfInBounds_toArray, List.set_cons_zero, List.set_cons_succ]; rfl)) (hJ0_12 (v105, v117) _ ⟨hHeld, (b2_ HO106.out), (b2_ HO118.out), (b1_ BK0.out), (b1_ BK103.out), (y1_ HB.out)⟩)}
 {
 skip
 refine Kd.R_lit_step k63 _ 63 ?hg (N := 9) ?hd (xs := ([] : List (S63))) (inner := []) (ok := fun _ => True) (okp := fun _ => True) ?hr ?hp (fun _ hk => hk) trivial (Below.refl _ _) (Nat.le_refl _) (by simp) ?_; (case hd => rfl); (case hg => rfl); (case hr => first | (go_simp; done) | (go_simp; rfl)); (case hp => exact (Reps.none _ _))
 intro v111 w10 ho11 hb hg_ hnew_
 clear hg_ hnew_
 (first | rw [← Ny110.out] at ho11 | (simp only [Int.reduceToNat] at ho11; rw [← Ny110.out] at ho11))
 replace HO118 := r1_ HO118 hb
 have HO112 := A_ (Kd.R_lower ho11 (below_size (y1_ HB.out)))
 replace BK0 := b3_ BK0 hb
 replace BK103 := b3_ BK103 hb
 replace HB := A_ (below_step (y1_ HB.out) hb)
 clear hb ho11
 refine hK.out _ _ ⟨(blk_cell BK0.out 0).trans rfl, (blk_cell BK0.out 1).trans rfl, (blk_cell BK0.out 2).trans rfl⟩ (fun hHeld => ?_)
 clear hK K
 refine norm_ (a' := ?_) ?_ ?_
 rotate_left
 {
 show Act.put _ (some 9) _ = _
 simp only [Act.put, List.setIfInBounds_toArray, List.set_cons_zero, List.set_cons_succ, i64_w, i32_w]
 rfl}
 exact norm_ (by first | (simp only [putAll, Act.put, List.setIfInBounds_toArray, List.set_cons_zero, List.set_cons_succ]; done) | (simp only [putAll, Act.put, List.setIfInBounds_toArray, List.set_cons_zero, List.set_cons_succ]; rfl)) (hJ6_12 (v111, v117) _ ⟨hHeld, (b2_ HO112.out), (b2_ HO118.out), (b1_ BK0.out), (b1_ BK103.out), (y1_ HB.out)⟩)}}}
 {
 skip
 rintro v111 w9 ⟨hS_, h0_, h1_, h2_, h3_⟩
 have n0_ : Aside0 (Kd.R k63 63 w9 w.heap.size (fun _ => True) v111 y110) := ⟨h0_⟩
 have n1_ : Aside0 (w9.heap[g0_]? = some (.cells #[.slice A0_0 l0_0.length c0_0, .slice A0_1 l0_1.length c0_1, .slice A0_2 l0_2.length c0_2] 27 (0, 0))) := ⟨h1_⟩
 have n2_ : Aside0 (w9.heap[gb103]? = some (.cells #[.slice none 0 0, .slice none 0 0, .slice none 0 0] 27 (0, 0))) := ⟨h2_⟩
 have n3_ : Aside0 (Below w.heap.size w w9) := ⟨h3_⟩
 clear BK0
 clear BK103
 clear HB
 clear h0_ h1_ h2_ h3_
 have HO112 := n0_
 have BK0 := n1_
 have BK103 := n2_
 have HB := n3_
 clear n0_ n1_ n2_ n3_
 have hHeld : w9.cell? ⟨g0_, 0, none⟩ = some (.slice A0_0 l0_0.length c0_0) ∧ w9.cell? ⟨g0_, 1, none⟩ = some (.slice A0_1 l0_1.length c0_1) ∧ w9.cell? ⟨g0_, 2, none⟩ = some (.slice A0_2 l0_2.length c0_2) := hS_
 refine norm_ (a' := ?_) ?_ ?_
 rotate_left
 {
 simp only [putAll, Act.put, List.setIfInBounds_toArray, List.set_cons_zero, List.set_cons_succ]
 rfl}
 refine two_ (i := 0) (j := 12) (Ni := some 3) (Nj := some 15) m7_ m9_ rfl rfl rfl rfl (two_of HT_.out s2_) (by decide) (by decide) (fun K hK => ?_) (fun K hK => ?_)
 {
 skip
 refine Kd.R_lit_step k63 _ 63 ?hg (N := 3) ?hd (xs := ([] : List (S63))) (inner := []) (ok := fun _ => True) (okp := fun _ => True) ?hr ?hp (fun _ hk => hk) trivial (Below.refl _ _) (Nat.le_refl _) (by simp) ?_; (case hd => rfl); (case hg => rfl); (case hr => first | (go_simp; done) | (go_simp; rfl)); (case hp => exact (Reps.none _ _))
 intro v105 w10 ho11 hb hg_ hnew_
 clear hg_ hnew_
 (first | rw [← Ny104.out] at ho11 | (simp only [Int.reduceToNat] at ho11; rw [← Ny104.out] at ho11))
 have n0_ := A_ (Kd.R_elder' (b2_ HO112.out) (Kd.R_base ho11) hb)
 have n1_ := A_ (Kd.R_lower (Kd.R_new' ho11 (Kd.R_lt (b2_ HO112.out))) (below_size (y1_ HB.out)))
 have n2_ := b3_ BK0 hb
 have n3_ := b3_ BK103 hb
 have n4_ := A_ (below_step (y1_ HB.out) hb)
 clear HO112
 clear BK0
 clear BK103
 clear HB
 have HO112 := n0_
 have HO106 := n1_
 have BK0 := n2_
 have BK103 := n3_
 have HB := n4_
 clear n0_ n1_ n2_ n3_ n4_
 clear hb ho11
 refine hK.out _ _ ⟨(blk_cell BK0.out 0).trans rfl, (blk_cell BK0.out 1).trans rfl, (blk_cell BK0.out 2).trans rfl⟩ (fun hHeld => ?_)
 clear hK K
 refine norm_ (a' := ?_) ?_ ?_
 rotate_left
 {
 show Act.put _ (some 3) _ = _
 simp only [Act.put, List.setIfInBounds_toArray, List.set_cons_zero, List.set_cons_succ, i64_w, i32_w]
 rfl}
 exact norm_ (by first | (simp only [putAll, Act.put, List.setIfInBounds_toArray, List.set_cons_zero, List.set_cons_succ]; done) | (simp only [putAll, Act.put, List.setIfInBounds_toArray, List.set_cons_zero, List.set_cons_succ]; rfl)) (hJ0_6 (v105, v111) _ ⟨hHeld, (by refine b2_ ?_; exact Kd.R_mono HO106.out (fun _ hk => hk.2)), (by refine b2_ ?_; exact Kd.R_mono HO112.out (fun _ hk => hk.2)), (b1_ BK0.out), (b1_ BK103.out), (y1_ HB.out)⟩)}
 {
 skip
 refine Kd.R_lit_step k73 _ 73 ?hg (N := 15) ?hd (xs := ([] : List (S73))) (inner := []) (ok := fun _ => True) (okp := fun _ => True) ?hr ?hp (fun _ hk => hk) trivial (Below.refl _ _) (Nat.le_refl _) (by simp) ?_; (case hd => rfl); (case hg => rfl); (case hr => first | (go_simp; done) | (go_simp; rfl)); (case hp => exact (Reps.none _ _))
 intro v117 w10 ho11 hb hg_ hnew_
 clear hg_ hnew_
 (first | rw [← Ny116.out] at ho11 | (simp only [Int.reduceToNat] at ho11; rw [← Ny116.out] at ho11))
 replace HO112 := r1_ HO112 hb
 have HO118 := A_ (Kd.R_lower ho11 (below_size (y1_ HB.out)))
 replace BK0 := b3_ BK0 hb
 replace BK103 := b3_ BK103 hb
 replace HB := A_ (below_step (y1_ HB.out) hb)
 clear hb ho11
 refine hK.out _ _ ⟨(blk_cell BK0.out 0).trans rfl, (blk_cell BK0.out 1).trans rfl, (blk_cell BK0.out 2).trans rfl⟩ (fun hHeld => ?_)
 clear hK K
 refine norm_ (a' := ?_) ?_ ?_
 rotate_left
 {
 show Act.put _ (some 15) _ = _
 simp only [Act.put, List.setIfInBounds_toArray, List.set_cons_zero, List.set_cons_succ, i64_w, i32_w]
 rfl}
 exact norm_ (by first | (simp only [putAll, Act.put, List.setIfInBounds_toArray, List.set_cons_zero, List.set_cons_succ]; done) | (simp only [putAll, Act.put, List.setIfInBounds_toArray, List.set_cons_zero, List.set_cons_succ]; rfl)) (hJ6_12 (v111, v117) _ ⟨hHeld, (b2_ HO112.out), (b2_ HO118.out), (b1_ BK0.out), (b1_ BK103.out), (y1_ HB.out)⟩)}}}
 {
 skip
 rintro v105 w9 ⟨hS_, h0_, h1_, h2_, h3_⟩
 have n0_ : Aside0 (Kd.R k63 63 w9 w.heap.size (fun _ => True) v105 y104) := ⟨h0_⟩
 have n1_ : Aside0 (w9.heap[g0_]? = some (.cells #[.slice A0_0 l0_0.length c0_0, .slice A0_1 l0_1.length c0_1, .slice A0_2 l0_2.length c0_2] 27 (0, 0))) := ⟨h1_⟩
 have n2_ : Aside0 (w9.heap[gb103]? = some (.cells #[.slice none 0 0, .slice none 0 0, .slice none 0 0] 27 (0, 0))) := ⟨h2_⟩
 have n3_ : Aside0 (Below w.heap.size w w9) := ⟨h3_⟩
 clear BK0
 clear BK103
 clear HB
 clear h0_ h1_ h2_ h3_
 have HO106 := n0_
 have BK0 := n1_
 have BK103 := n2_
 have HB := n3_
 clear n0_ n1_ n2_ n3_
 have hHeld : w9.cell? ⟨g0_, 0, none⟩ = some (.slice A0_0 l0_0.length c0_0) ∧ w9.cell? ⟨g0_, 1, none⟩ = some (.slice A0_1 l0_1.length c0_1) ∧ w9.cell? ⟨g0_, 2, none⟩ = some (.slice A0_2 l0_2.length c0_2) := hS_
 refine norm_ (a' := ?_) ?_ ?_
 rotate_left
 {
 simp only [putAll, Act.put, List.setIfInBounds_toArray, List.set_cons_zero, List.set_cons_succ]
 rfl}
 refine three_ (i := 5) (j := 6) (k := 12) (Ni := some 8) (Nj := some 9) (Nk := some 15) m6_ m7_ m8_ rfl rfl rfl rfl rfl rfl (three_of HT_.out s2_) (by decide) (by decide) (by decide) (fun K hK => ?_) (fun K hK => ?_) (fun K hK => ?_)
 {
 skip
 refine Kd.R_append_rows_step k63 (w0 := w) w.heap.size (by rfl) (.tmp 3) (.tmp 7) 24 63 (.agg #[(.int .i64 0), (.int .i64 0)]) 16 rfl Try.underlying24 info63 rfl (by decide) (by omega) v105 y104 l0_0 _ _ _ (fun _ => True) (fun _ => False) rfl rfl ?aO ?aR (fun _ _ h => h) (fun _ h => h.elim) ?aF ?aB ?aS ?aL ?_
 (case aR => exact y2_ (Kd.C_below HR0_0.out HB.out))
 (case aB => exact (y1_ HB.out))
 (case aF => exact (fun _ _ => trivial))
 (case aO => exact (b2_ HO106.out))
 (case aS => exact (below_size (y1_ HB.out)))
 (case aL => have := LMc2.out; omega)
 intro v108 w10 ho hb hg hat
 rw [← Ny107.out] at ho
 replace BK0 := A_ (blk_grown (g := g0_) (o := .cells #[.slice A0_0 l0_0.length c0_0, .slice A0_1 l0_1.length c0_1, .slice A0_2 l0_2.length c0_2] 27 (0, 0)) (b1_ BK0.out) hg (Kd.R_ne HO106.out BK0.out (by decide)))
 replace BK103 := A_ (blk_grown (g := gb103) (o := .cells #[.slice none 0 0, .slice none 0 0, .slice none 0 0] 27 (0, 0)) (b1_ BK103.out) hg (Kd.R_ne HO106.out BK103.out (by decide)))
 replace HB := A_ (hb)
 have HO109 := A_ (ho)
 clear HO106
 clear ho hb hg hat
 refine hK.out _ _ ⟨(blk_cell BK0.out 0).trans rfl, (blk_cell BK0.out 1).trans rfl, (blk_cell BK0.out 2).trans rfl⟩ (fun hHeld => ?_)
 clear hK K
 refine norm_ (a' := ?_) ?_ ?_
 rotate_left
 {
 show Act.put _ (some 8) _ = _
 simp only [Act.put, List.setIfInBounds_toArray, List.set_cons_zero, List.set_cons_succ, i64_w, i32_w]
 rfl}
 exact norm_ (by first | (simp only [putAll, Act.put, List.setIfInBounds_toArray, List.set_cons_zero, List.set_cons_succ]; done) | (simp only [putAll, Act.put, List.setIfInBounds_toArray, List.set_cons_zero, List.set_cons_succ]; rfl)) (hJ0_5 (v105, v108) _ ⟨hHeld, (b2_ HO109.out), (b1_ BK0.out), (b1_ BK103.out), (y1_ HB.out)⟩)}
 {
 skip
 refine Kd.R_lit_step k63 _ 63 ?hg (N := 9) ?hd (xs := ([] : List (S63))) (inner := []) (ok := fun _ => True) (okp := fun _ => True) ?hr ?hp (fun _ hk => hk) trivial (Below.refl _ _) (Nat.le_refl _) (by simp) ?_; (case hd => rfl); (case hg => rfl); (case hr => first | (go_simp; done) | (go_simp; rfl)); (case hp => exact (Reps.none _ _))
 intro v111 w10 ho11 hb hg_ hnew_
 clear hg_ hnew_
 (first | rw [← Ny110.out] at ho11 | (simp only [Int.reduceToNat] at ho11; rw [← Ny110.out] at ho11))
 have n0_ := A_ (Kd.R_elder' (b2_ HO106.out) (Kd.R_base ho11) hb)
 have n1_ := A_ (Kd.R_lower (Kd.R_new' ho11 (Kd.R_lt (b2_ HO106.out))) (below_size (y1_ HB.out)))
 have n2_ := b3_ BK0 hb
 have n3_ := b3_ BK103 hb
 have n4_ := A_ (below_step (y1_ HB.out) hb)
 clear HO106
 clear BK0
 clear BK103
 clear HB
 have HO106 := n0_
 have HO112 := n1_
 have BK0 := n2_
 have BK103 := n3_
 have HB := n4_
 clear n0_ n1_ n2_ n3_ n4_
 clear hb ho11
 refine hK.out _ _ ⟨(blk_cell BK0.out 0).trans rfl, (blk_cell BK0.out 1).trans rfl, (blk_cell BK0.out 2).trans rfl⟩ (fun hHeld => ?_)
 clear hK K
 refine norm_ (a' := ?_) ?_ ?_
 rotate_left
 {
 show Act.put _ (some 9) _ = _
 simp only [Act.put, List.setIfInBounds_toArray, List.set_cons_zero, List.set_cons_succ, i64_w, i32_w]
 rfl}
 exact norm_ (by first | (simp only [putAll, Act.put, List.setIfInBounds_toArray, List.set_cons_zero, List.set_cons_succ]; done) | (simp only [putAll, Act.put, List.setIfInBounds_toArray, List.set_cons_zero, List.set_cons_succ]; rfl)) (hJ0_6 (v105, v111) _ ⟨hHeld, (by refine b2_ ?_; exact Kd.R_mono HO106.out (fun _ hk => hk.2)), (by refine b2_ ?_; exact Kd.R_mono HO112.out (fun _ hk => hk.2)), (b1_ BK0.out), (b1_ BK103.out), (y1_ HB.out)⟩)}
 {
 skip
 refine Kd.R_lit_step k73 _ 73 ?hg (N := 15) ?hd (xs := ([] : List (S73))) (inner := []) (ok := fun _ => True) (okp := fun _ => True) ?hr ?hp (fun _ hk => hk) trivial (Below.refl _ _) (Nat.le_refl _) (by simp) ?_; (case hd => rfl); (case hg => rfl); (case hr => first | (go_simp; done) | (go_simp; rfl)); (case hp => exact (Reps.none _ _))
 intro v117 w10 ho11 hb hg_ hnew_
 clear hg_ hnew_
 (first | rw [← Ny116.out] at ho11 | (simp only [Int.reduceToNat] at ho11; rw [← Ny116.out] at ho11))
 replace HO106 := r1_ HO106 hb
 have HO118 := A_ (Kd.R_lower ho11 (below_size (y1_ HB.out)))
 replace BK0 := b3_ BK0 hb
 replace BK103 := b3_ BK103 hb
 replace HB := A_ (below_step (y1_ HB.out) hb)
 clear hb ho11
 refine hK.out _ _ ⟨(blk_cell BK0.out 0).trans rfl, (blk_cell BK0.out 1).trans rfl, (blk_cell BK0.out 2).trans rfl⟩ (fun hHeld => ?_)
 clear hK K
 refine norm_ (a' := ?_) ?_ ?_
 rotate_left
 {
 show Act.put _ (some 15) _ = _
 simp only [Act.put, List.setIfInBounds_toArray, List.set_cons_zero, List.set_cons_succ, i64_w, i32_w]
 rfl}
 exact norm_ (by first | (simp only [putAll, Act.put, List.setIfInBounds_toArray, List.set_cons_zero, List.set_cons_succ]; done) | (simp only [putAll, Act.put, List.setIfInBounds_toArray, List.set_cons_zero, List.set_cons_succ]; rfl)) (hJ0_12 (v105, v117) _ ⟨hHeld, (b2_ HO106.out), (b2_ HO118.out), (b1_ BK0.out), (b1_ BK103.out), (y1_ HB.out)⟩)}}}
 {
 skip
 rintro ⟨v111, v117⟩ w11 ⟨hS_, h0_, h1_, h2_, h3_, h4_⟩
 have n0_ : Aside0 (Kd.R k63 63 w11 w.heap.size (fun _ => True) v111 y110) := ⟨h0_⟩
 have n1_ : Aside0 (Kd.R k73 73 w11 w.heap.size (fun _ => True) v117 y116) := ⟨h1_⟩
 have n2_ : Aside0 (w11.heap[g0_]? = some (.cells #[.slice A0_0 l0_0.length c0_0, .slice A0_1 l0_1.length c0_1, .slice A0_2 l0_2.length c0_2] 27 (0, 0))) := ⟨h2_⟩
 have n3_ : Aside0 (w11.heap[gb103]? = some (.cells #[.slice none 0 0, .slice none 0 0, .slice none 0 0] 27 (0, 0))) := ⟨h3_⟩
 have n4_ : Aside0 (Below w.heap.size w w11) := ⟨h4_⟩
 clear BK0
 clear BK103
 clear HB
 clear h0_ h1_ h2_ h3_ h4_
 have HO112 := n0_
 have HO118 := n1_
 have BK0 := n2_
 have BK103 := n3_
 have HB := n4_
 clear n0_ n1_ n2_ n3_ n4_
 have hHeld : w11.cell? ⟨g0_, 0, none⟩ = some (.slice A0_0 l0_0.length c0_0) ∧ w11.cell? ⟨g0_, 1, none⟩ = some (.slice A0_1 l0_1.length c0_1) ∧ w11.cell? ⟨g0_, 2, none⟩ = some (.slice A0_2 l0_2.length c0_2) := hS_
 refine norm_ (a' := ?_) ?_ ?_
 rotate_left
 {
 simp only [putAll, Act.put, List.setIfInBounds_toArray, List.set_cons_zero, List.set_cons_succ]
 rfl}
 refine one_ (i := 0) (N := some 3) m5_ rfl rfl (one_of HT_.out s2_) (by decide) (fun K hK => ?_)
 refine Kd.R_lit_step k63 _ 63 ?hg (N := 3) ?hd (xs := ([] : List (S63))) (inner := []) (ok := fun _ => True) (okp := fun _ => True) ?hr ?hp (fun _ hk => hk) trivial (Below.refl _ _) (Nat.le_refl _) (by simp) ?_; (case hd => rfl); (case hg => rfl); (case hr => first | (go_simp; done) | (go_simp; rfl)); (case hp => exact (Reps.none _ _))
 intro v105 w12 ho13 hb hg_ hnew_
 clear hg_ hnew_
 (first | rw [← Ny104.out] at ho13 | (simp only [Int.reduceToNat] at ho13; rw [← Ny104.out] at ho13))
 have n0_ := A_ (Kd.R_elder' (b2_ HO112.out) (Kd.R_base ho13) hb)
 have n1_ := r1_ HO118 hb
 have n2_ := A_ (Kd.R_lower (Kd.R_new' ho13 (Kd.R_lt (b2_ HO112.out))) (below_size (y1_ HB.out)))
 have n3_ := b3_ BK0 hb
 have n4_ := b3_ BK103 hb
 have n5_ := A_ (below_step (y1_ HB.out) hb)
 clear HO112
 clear HO118
 clear BK0
 clear BK103
 clear HB
 have HO112 := n0_
 have HO118 := n1_
 have HO106 := n2_
 have BK0 := n3_
 have BK103 := n4_
 have HB := n5_
 clear n0_ n1_ n2_ n3_ n4_ n5_
 clear hb ho13
 refine hK.out _ _ ⟨(blk_cell BK0.out 0).trans rfl, (blk_cell BK0.out 1).trans rfl, (blk_cell BK0.out 2).trans rfl⟩ (fun hHeld => ?_)
 clear hK K
 refine norm_ (a' := ?_) ?_ ?_
 rotate_left
 {
 show Act.put _ (some 3) _ = _
 simp only [Act.put, List.setIfInBounds_toArray, List.set_cons_zero, List.set_cons_succ, i64_w, i32_w]
 rfl}
 exact norm_ (by first | (simp only [putAll, Act.put, List.setIfInBounds_toArray, List.set_cons_zero, List.set_cons_succ]; done) | (simp only [putAll, Act.put, List.setIfInBounds_toArray, List.set_cons_zero, List.set_cons_succ]; rfl)) (hJ0_6_12 (v105, v111, v117) _ ⟨hHeld, (by refine b2_ ?_; exact Kd.R_mono HO106.out (fun _ hk => hk.2)), (by refine b2_ ?_; exact Kd.R_mono HO112.out (fun _ hk => hk.2)), (b2_ HO118.out), (b1_ BK0.out), (b1_ BK103.out), (y1_ HB.out)⟩)}}
 {
 skip
 rintro ⟨v105, v117⟩ w11 ⟨hS_, h0_, h1_, h2_, h3_, h4_⟩
 have n0_ : Aside0 (Kd.R k63 63 w11 w.heap.size (fun _ => True) v105 y104) := ⟨h0_⟩
 have n1_ : Aside0 (Kd.R k73 73 w11 w.heap.size (fun _ => True) v117 y116) := ⟨h1_⟩
 have n2_ : Aside0 (w11.heap[g0_]? = some (.cells #[.slice A0_0 l0_0.length c0_0, .slice A0_1 l0_1.length c0_1, .slice A0_2 l0_2.length c0_2] 27 (0, 0))) := ⟨h2_⟩
 have n3_ : Aside0 (w11.heap[gb103]? = some (.cells #[.slice none 0 0, .slice none 0 0, .slice none 0 0] 27 (0, 0))) := ⟨h3_⟩
 have n4_ : Aside0 (Below w.heap.size w w11) := ⟨h4_⟩
 clear BK0
 clear BK103
 clear HB
 clear h0_ h1_ h2_ h3_ h4_
 have HO106 := n0_
 have HO118 := n1_
 have BK0 := n2_
 have BK103 := n3_
 have HB := n4_
 clear n0_ n1_ n2_ n3_ n4_
 have hHeld : w11.cell? ⟨g0_, 0, none⟩ = some (.slice A0_0 l0_0.length c0_0) ∧ w11.cell? ⟨g0_, 1, none⟩ = some (.slice A0_1 l0_1.length c0_1) ∧ w11.cell? ⟨g0_, 2, none⟩ = some (.slice A0_2 l0_2.length c0_2) := hS_
 refine norm_ (a' := ?_) ?_ ?_
 rotate_left
 {
 simp only [putAll, Act.put, List.setIfInBounds_toArray, List.set_cons_zero, List.set_cons_succ]
 rfl}
 refine two_ (i := 5) (j := 6) (Ni := some 8) (Nj := some 9) m4_ m5_ rfl rfl rfl rfl (two_of HT_.out s2_) (by decide) (by decide) (fun K hK => ?_) (fun K hK => ?_)
 {
 skip
 refine Kd.R_append_rows_step k63 (w0 := w) w.heap.size (by rfl) (.tmp 3) (.tmp 7) 24 63 (.agg #[(.int .i64 0), (.int .i64 0)]) 16 rfl Try.underlying24 info63 rfl (by decide) (by omega) v105 y104 l0_0 _ _ _ (fun _ => True) (fun _ => False) rfl rfl ?aO ?aR (fun _ _ h => h) (fun _ h => h.elim) ?aF ?aB ?aS ?aL ?_
 (case aR => exact y2_ (Kd.C_below HR0_0.out HB.out))
 (case aB => exact (y1_ HB.out))
 (case aF => exact (fun _ _ => trivial))
 (case aO => exact (b2_ HO106.out))
 (case aS => exact (below_size (y1_ HB.out)))
 (case aL => have := LMc2.out; omega)
 intro v108 w12 ho hb hg hat
 rw [← Ny107.out] at ho
 replace BK0 := A_ (blk_grown (g := g0_) (o := .cells #[.slice A0_0 l0_0.length c0_0, .slice A0_1 l0_1.length c0_1, .slice A0_2 l0_2.length c0_2] 27 (0, 0)) (b1_ BK0.out) hg (Kd.R_ne HO106.out BK0.out (by decide)))
 replace BK103 := A_ (blk_grown (g := gb103) (o := .cells #[.slice none 0 0, .slice none 0 0, .slice none 0 0] 27 (0, 0)) (b1_ BK103.out) hg (Kd.R_ne HO106.out BK103.out (by decide)))
 replace HO118 := A_ (Kd.R_over' (b2_ HO118.out) (Kd.R_typed (b2_ HO106.out)) (by decide) hg)
 replace HB := A_ (hb)
 have HO109 := A_ (ho)
 clear HO106
 clear ho hb hg hat
 refine hK.out _ _ ⟨(blk_cell BK0.out 0).trans rfl, (blk_cell BK0.out 1).trans rfl, (blk_cell BK0.out 2).trans rfl⟩ (fun hHeld => ?_)
 clear hK K
 refine norm_ (a' := ?_) ?_ ?_
 rotate_left
 {
 show Act.put _ (some 8) _ = _
 simp only [Act.put, List.setIfInBounds_toArray, List.set_cons_zero, List.set_cons_succ, i64_w, i32_w]
 rfl}
 exact norm_ (by first | (simp only [putAll, Act.put, List.setIfInBounds_toArray, List.set_cons_zero, List.set_cons_succ]; done) | (simp only [putAll, Act.put, List.setIfInBounds_toArray, List.set_cons_zero, List.set_cons_succ]; rfl)) (hJ0_5_12 (v105, v108, v117) _ ⟨hHeld, (b2_ HO109.out), (b2_ HO118.out), (b1_ BK0.out), (b1_ BK103.out), (y1_ HB.out)⟩)}
 {
 skip
 refine Kd.R_lit_step k63 _ 63 ?hg (N := 9) ?hd (xs := ([] : List (S63))) (inner := []) (ok := fun _ => True) (okp := fun _ => True) ?hr ?hp (fun _ hk => hk) trivial (Below.refl _ _) (Nat.le_refl _) (by simp) ?_; (case hd => rfl); (case hg => rfl); (case hr => first | (go_simp; done) | (go_simp; rfl)); (case hp => exact (Reps.none _ _))
 intro v111 w12 ho13 hb hg_ hnew_
 clear hg_ hnew_
 (first | rw [← Ny110.out] at ho13 | (simp only [Int.reduceToNat] at ho13; rw [← Ny110.out] at ho13))
 have n0_ := A_ (Kd.R_elder' (b2_ HO106.out) (Kd.R_base ho13) hb)
 have n1_ := r1_ HO118 hb
 have n2_ := A_ (Kd.R_lower (Kd.R_new' ho13 (Kd.R_lt (b2_ HO106.out))) (below_size (y1_ HB.out)))
 have n3_ := b3_ BK0 hb
 have n4_ := b3_ BK103 hb
 have n5_ := A_ (below_step (y1_ HB.out) hb)
 clear HO106
 clear HO118
 clear BK0
 clear BK103
 clear HB
 have HO106 := n0_
 have HO118 := n1_
 have HO112 := n2_
 have BK0 := n3_
 have BK103 := n4_
 have HB := n5_
 clear n0_ n1_ n2_ n3_ n4_ n5_
 clear hb ho13
 refine hK.out _ _ ⟨(blk_cell BK0.out 0).trans rfl, (blk_cell BK0.out 1).trans rfl, (blk_cell BK0.out 2).trans rfl⟩ (fun hHeld => ?_)
 clear hK K
 refine norm_ (a' := ?_) ?_ ?_
 rotate_left
 {
 show Act.put _ (some 9) _ = _
 simp only [Act.put, List.setIfInBounds_toArray, List.set_cons_zero, List.set_cons_succ, i64_w, i32_w]
 rfl}
 exact norm_ (by first | (simp only [putAll, Act.put, List.setIfInBounds_toArray, List.set_cons_zero, List.set_cons_succ]; done) | (simp only [putAll, Act.put, List.setIfInBounds_toArray, List.set_cons_zero, List.set_cons_succ]; rfl)) (hJ0_6_12 (v105, v111, v117) _ ⟨hHeld, (by refine b2_ ?_; exact Kd.R_mono HO106.out (fun _ hk => hk.2)), (by refine b2_ ?_; exact Kd.R_mono HO112.out (fun _ hk => hk.2)), (b2_ HO118.out), (b1_ BK0.out), (b1_ BK103.out), (y1_ HB.out)⟩)}}}
 {
 skip
 rintro ⟨v105, v111⟩ w11 ⟨hS_, h0_, h1_, h2_, h3_, h4_⟩
 have n0_ : Aside0 (Kd.R k63 63 w11 w.heap.size (fun k_ => some k_ ≠ (v111 : Value).ownBlock) v105 y104) := ⟨h0_⟩
 have n1_ : Aside0 (Kd.R k63 63 w11 w.heap.size (fun k_ => some k_ ≠ (v105 : Value).ownBlock) v111 y110) := ⟨h1_⟩
 have n2_ : Aside0 (w11.heap[g0_]? = some (.cells #[.slice A0_0 l0_0.length c0_0, .slice A0_1 l0_1.length c0_1, .slice A0_2 l0_2.length c0_2] 27 (0, 0))) := ⟨h2_⟩
 have n3_ : Aside0 (w11.heap[gb103]? = some (.cells #[.slice none 0 0, .slice none 0 0, .slice none 0 0] 27 (0, 0))) := ⟨h3_⟩
 have n4_ : Aside0 (Below w.heap.size w w11) := ⟨h4_⟩
 clear BK0
 clear BK103
 clear HB
 clear h0_ h1_ h2_ h3_ h4_
 have HO106 := n0_
 have HO112 := n1_
 have BK0 := n2_
 have BK103 := n3_
 have HB := n4_
 clear n0_ n1_ n2_ n3_ n4_
 have hHeld : w11.cell? ⟨g0_, 0, none⟩ = some (.slice A0_0 l0_0.length c0_0) ∧ w11.cell? ⟨g0_, 1, none⟩ = some (.slice A0_1 l0_1.length c0_1) ∧ w11.cell? ⟨g0_, 2, none⟩ = some (.slice A0_2 l0_2.length c0_2) := hS_
 refine norm_ (a' := ?_) ?_ ?_
 rotate_left
 {
 simp only [putAll, Act.put, List.setIfInBounds_toArray, List.set_cons_zero, List.set_cons_succ]
 rfl}
 refine two_ (i := 5) (j := 12) (Ni := some 8) (Nj := some 15) m3_ m5_ rfl rfl rfl rfl (two_of HT_.out s2_) (by decide) (by decide) (fun K hK => ?_) (fun K hK => ?_)
 {
 skip
 refine Kd.R_append_rows_step k63 (w0 := w) w.heap.size (by rfl) (.tmp 3) (.tmp 7) 24 63 (.agg #[(.int .i64 0), (.int .i64 0)]) 16 rfl Try.underlying24 info63 rfl (by decide) (by omega) v105 y104 l0_0 _ _ _ (fun k_ => some k_ ≠ (v111 : Value).ownBlock) (fun _ => False) rfl rfl ?aO ?aR (fun _ _ h => h) (fun _ h => h.elim) ?aF ?aB ?aS ?aL ?_
 (case aR => exact y2_ (Kd.C_below HR0_0.out HB.out))
 (case aB => exact (y1_ HB.out))
 (case aF => exact (fun k_ hk => Kd.fresh' (Kd.R_lt (b2_ HO112.out)) k_ hk))
 (case aO => exact (b2_ HO106.out))
 (case aS => exact (below_size (y1_ HB.out)))
 (case aL => have := LMc2.out; omega)
 intro v108 w12 ho hb hg hat
 rw [← Ny107.out] at ho
 replace BK0 := A_ (blk_grown (g := g0_) (o := .cells #[.slice A0_0 l0_0.length c0_0, .slice A0_1 l0_1.length c0_1, .slice A0_2 l0_2.length c0_2] 27 (0, 0)) (b1_ BK0.out) hg (Kd.R_ne HO106.out BK0.out (by decide)))
 replace BK103 := A_ (blk_grown (g := gb103) (o := .cells #[.slice none 0 0, .slice none 0 0, .slice none 0 0] 27 (0, 0)) (b1_ BK103.out) hg (Kd.R_ne HO106.out BK103.out (by decide)))
 replace HO112 := A_ (Kd.R_after (ok := (fun _ => True)) (by refine b2_ ?_; exact Kd.R_mono HO112.out (fun _ hk => ⟨trivial, hk⟩)) hg hat)
 replace HB := A_ (hb)
 have HO109 := A_ (ho)
 clear HO106
 clear ho hb hg hat
 refine hK.out _ _ ⟨(blk_cell BK0.out 0).trans rfl, (blk_cell BK0.out 1).trans rfl, (blk_cell BK0.out 2).trans rfl⟩ (fun hHeld => ?_)
 clear hK K
 refine norm_ (a' := ?_) ?_ ?_
 rotate_left
 {
 show Act.put _ (some 8) _ = _
 simp only [Act.put, List.setIfInBounds_toArray, List.set_cons_zero, List.set_cons_succ, i64_w, i32_w]
 rfl}
 exact norm_ (by first | (simp only [putAll, Act.put, List.setIfInBounds_toArray, List.set_cons_zero, List.set_cons_succ]; done) | (simp only [putAll, Act.put, List.setIfInBounds_toArray, List.set_cons_zero, List.set_cons_succ]; rfl)) (hJ0_5_6 (v105, v108, v111) _ ⟨hHeld, (b2_ HO109.out), (by refine b2_ ?_; exact Kd.R_mono HO112.out (fun _ hk => hk.2)), (b1_ BK0.out), (b1_ BK103.out), (y1_ HB.out)⟩)}
 {
 skip
 refine Kd.R_lit_step k73 _ 73 ?hg (N := 15) ?hd (xs := ([] : List (S73))) (inner := []) (ok := fun _ => True) (okp := fun _ => True) ?hr ?hp (fun _ hk => hk) trivial (Below.refl _ _) (Nat.le_refl _) (by simp) ?_; (case hd => rfl); (case hg => rfl); (case hr => first | (go_simp; done) | (go_simp; rfl)); (case hp => exact (Reps.none _ _))
 intro v117 w12 ho13 hb hg_ hnew_
 clear hg_ hnew_
 (first | rw [← Ny116.out] at ho13 | (simp only [Int.reduceToNat] at ho13; rw [← Ny116.out] at ho13))
 replace HO106 := r1_ HO106 hb
 replace HO112 := r1_ HO112 hb
 have HO118 := A_ (Kd.R_lower ho13 (below_size (y1_ HB.out)))
 replace BK0 := b3_ BK0 hb
 replace BK103 := b3_ BK103 hb
 replace HB := A_ (below_step (y1_ HB.out) hb)
 clear hb ho13
 refine hK.out _ _ ⟨(blk_cell BK0.out 0).trans rfl, (blk_cell BK0.out 1).trans rfl, (blk_cell BK0.out 2).trans rfl⟩ (fun hHeld => ?_)
 clear hK K
 refine norm_ (a' := ?_) ?_ ?_
 rotate_left
 {
 show Act.put _ (some 15) _ = _
 simp only [Act.put, List.setIfInBounds_toArray, List.set_cons_zero, List.set_cons_succ, i64_w, i32_w]
 rfl}
 exact norm_ (by first | (simp only [putAll, Act.put, List.setIfInBounds_toArray, List.set_cons_zero, List.set_cons_succ]; done) | (simp only [putAll, Act.put, List.setIfInBounds_toArray, List.set_cons_zero, List.set_cons_succ]; rfl)) (hJ0_6_12 (v105, v111, v117) _ ⟨hHeld, (b2_ HO106.out), (b2_ HO112.out), (b2_ HO118.out), (b1_ BK0.out), (b1_ BK103.out), (y1_ HB.out)⟩)}}}
 {
 skip
 rintro ⟨v105, v108⟩ w10 ⟨hS_, h0_, h1_, h2_, h3_⟩
 have n0_ : Aside0 (Kd.R k63 63 w10 w.heap.size (fun _ => True) v108 y107) := ⟨h0_⟩
 have n1_ : Aside0 (w10.heap[g0_]? = some (.cells #[.slice A0_0 l0_0.length c0_0, .slice A0_1 l0_1.length c0_1, .slice A0_2 l0_2.length c0_2] 27 (0, 0))) := ⟨h1_⟩
 have n2_ : Aside0 (w10.heap[gb103]? = some (.cells #[.slice none 0 0, .slice none 0 0, .slice none 0 0] 27 (0, 0))) := ⟨h2_⟩
 have n3_ : Aside0 (Below w.heap.size w w10) := ⟨h3_⟩
 clear BK0
 clear BK103
 clear HB
 clear h0_ h1_ h2_ h3_
 have HO109 := n0_
 have BK0 := n1_
 have BK103 := n2_
 have HB := n3_
 clear n0_ n1_ n2_ n3_
 have hHeld : w10.cell? ⟨g0_, 0, none⟩ = some (.slice A0_0 l0_0.length c0_0) ∧ w10.cell? ⟨g0_, 1, none⟩ = some (.slice A0_1 l0_1.length c0_1) ∧ w10.cell? ⟨g0_, 2, none⟩ = some (.slice A0_2 l0_2.length c0_2) := hS_
 refine norm_ (a' := ?_) ?_ ?_
 rotate_left
 {
 simp only [putAll, Act.put, List.setIfInBounds_toArray, List.set_cons_zero, List.set_cons_succ]
 rfl}
 refine two_ (i := 6) (j := 12) (Ni := some 9) (Nj := some 15) m3_ m4_ rfl rfl rfl rfl (two_of HT_.out s2_) (by decide) (by decide) (fun K hK => ?_) (fun K hK => ?_)
 {
 skip
 refine Kd.R_lit_step k63 _ 63 ?hg (N := 9) ?hd (xs := ([] : List (S63))) (inner := []) (ok := fun _ => True) (okp := fun _ => True) ?hr ?hp (fun _ hk => hk) trivial (Below.refl _ _) (Nat.le_refl _) (by simp) ?_; (case hd => rfl); (case hg => rfl); (case hr => first | (go_simp; done) | (go_simp; rfl)); (case hp => exact (Reps.none _ _))
 intro v111 w11 ho12 hb hg_ hnew_
 clear hg_ hnew_
 (first | rw [← Ny110.out] at ho12 | (simp only [Int.reduceToNat] at ho12; rw [← Ny110.out] at ho12))
 have n0_ := A_ (Kd.R_elder' (b2_ HO109.out) (Kd.R_base ho12) hb)
 have n1_ := A_ (Kd.R_lower (Kd.R_new' ho12 (Kd.R_lt (b2_ HO109.out))) (below_size (y1_ HB.out)))
 have n2_ := b3_ BK0 hb
 have n3_ := b3_ BK103 hb
 have n4_ := A_ (below_step (y1_ HB.out) hb)
 clear HO109
 clear BK0
 clear BK103
 clear HB
 have HO109 := n0_
 have HO112 := n1_
 have BK0 := n2_
 have BK103 := n3_
 have HB := n4_
 clear n0_ n1_ n2_ n3_ n4_
 clear hb ho12
 refine hK.out _ _ ⟨(blk_cell BK0.out 0).trans rfl, (blk_cell BK0.out 1).trans rfl, (blk_cell BK0.out 2).trans rfl⟩ (fun hHeld => ?_)
 clear hK K
 refine norm_ (a' := ?_) ?_ ?_
 rotate_left
 {
 show Act.put _ (some 9) _ = _
 simp only [Act.put, List.setIfInBounds_toArray, List.set_cons_zero, List.set_cons_succ, i64_w, i32_w]
 rfl}
 exact norm_ (by first | (simp only [putAll, Act.put, List.setIfInBounds_toArray, List.set_cons_zero, List.set_cons_succ]; done) | (simp only [putAll, Act.put, List.setIfInBounds_toArray, List.set_cons_zero, List.set_cons_succ]; rfl)) (hJ0_5_6 (v105, v108, v111) _ ⟨hHeld, (by refine b2_ ?_; exact Kd.R_mono HO109.out (fun _ hk => hk.2)), (by refine b2_ ?_; exact Kd.R_mono HO112.out (fun _ hk => hk.2)), (b1_ BK0.out), (b1_ BK103.out), (y1_ HB.out)⟩)}
 {
 skip
 refine Kd.R_lit_step k73 _ 73 ?hg (N := 15) ?hd (xs := ([] : List (S73))) (inner := []) (ok := fun _ => True) (okp := fun _ => True) ?hr ?hp (fun _ hk => hk) trivial (Below.refl _ _) (Nat.le_refl _) (by simp) ?_; (case hd => rfl); (case hg => rfl); (case hr => first | (go_simp; done) | (go_simp; rfl)); (case hp => exact (Reps.none _ _))
 intro v117 w11 ho12 hb hg_ hnew_
 clear hg_ hnew_
 (first | rw [← Ny116.out] at ho12 | (simp only [Int.reduceToNat] at ho12; rw [← Ny116.out] at ho12))
 replace HO109 := r1_ HO109 hb
 have HO118 := A_ (Kd.R_lower ho12 (below_size (y1_ HB.out)))
 replace BK0 := b3_ BK0 hb
 replace BK103 := b3_ BK103 hb
 replace HB := A_ (below_step (y1_ HB.out) hb)
 clear hb ho12
 refine hK.out _ _ ⟨(blk_cell BK0.out 0).trans rfl, (blk_cell BK0.out 1).trans rfl, (blk_cell BK0.out 2).trans rfl⟩ (fun hHeld => ?_)
 clear hK K
 refine norm_ (a' := ?_) ?_ ?_
 rotate_left
 {
 show Act.put _ (some 15) _ = _
 simp only [Act.put, List.setIfInBounds_toArray, List.set_cons_zero, List.set_cons_succ, i64_w, i32_w]
 rfl}
 exact norm_ (by first | (simp only [putAll, Act.put, List.setIfInBounds_toArray, List.set_cons_zero, List.set_cons_succ]; done) | (simp only [putAll, Act.put, List.setIfInBounds_toArray, List.set_cons_zero, List.set_cons_succ]; rfl)) (hJ0_5_12 (v105, v108, v117) _ ⟨hHeld, (b2_ HO109.out), (b2_ HO118.out), (b1_ BK0.out), (b1_ BK103.out), (y1_ HB.out)⟩)}}}
 {
 skip
 rintro ⟨v105, v111, v117⟩ w13 ⟨hS_, h0_, h1_, h2_, h3_, h4_, h5_⟩
 have n0_ : Aside0 (Kd.R k63 63 w13 w.heap.size (fun k_ => some k_ ≠ (v111 : Value).ownBlock) v105 y104) := ⟨h0_⟩
 have n1_ : Aside0 (Kd.R k63 63 w13 w.heap.size (fun k_ => some k_ ≠ (v105 : Value).ownBlock) v111 y110) := ⟨h1_⟩
 have n2_ : Aside0 (Kd.R k73 73 w13 w.heap.size (fun _ => True) v117 y116) := ⟨h2_⟩
 have n3_ : Aside0 (w13.heap[g0_]? = some (.cells #[.slice A0_0 l0_0.length c0_0, .slice A0_1 l0_1.length c0_1, .slice A0_2 l0_2.length c0_2] 27 (0, 0))) := ⟨h3_⟩
 have n4_ : Aside0 (w13.heap[gb103]? = some (.cells #[.slice none 0 0, .slice none 0 0, .slice none 0 0] 27 (0, 0))) := ⟨h4_⟩
 have n5_ : Aside0 (Below w.heap.size w w13) := ⟨h5_⟩
 clear BK0
 clear BK103
 clear HB
 clear h0_ h1_ h2_ h3_ h4_ h5_
 have HO106 := n0_
 have HO112 := n1_
 have HO118 := n2_
 have BK0 := n3_
 have BK103 := n4_
 have HB := n5_
 clear n0_ n1_ n2_ n3_ n4_ n5_
 have hHeld : w13.cell? ⟨g0_, 0, none⟩ = some (.slice A0_0 l0_0.length c0_0) ∧ w13.cell? ⟨g0_, 1, none⟩ = some (.slice A0_1 l0_1.length c0_1) ∧ w13.cell? ⟨g0_, 2, none⟩ = some (.slice A0_2 l0_2.length c0_2) := hS_
 refine norm_ (a' := ?_) ?_ ?_
 rotate_left
 {
 simp only [putAll, Act.put, List.setIfInBounds_toArray, List.set_cons_zero, List.set_cons_succ]
 rfl}
 refine one_ (i := 5) (N := some 8) m2_ rfl rfl (one_of HT_.out s2_) (by decide) (fun K hK => ?_)
 refine Kd.R_append_rows_step k63 (w0 := w) w.heap.size (by rfl) (.tmp 3) (.tmp 7) 24 63 (.agg #[(.int .i64 0), (.int .i64 0)]) 16 rfl Try.underlying24 info63 rfl (by decide) (by omega) v105 y104 l0_0 _ _ _ (fun k_ => some k_ ≠ (v111 : Value).ownBlock) (fun _ => False) rfl rfl ?aO ?aR (fun _ _ h => h) (fun _ h => h.elim) ?aF ?aB ?aS ?aL ?_
 (case aR => exact y2_ (Kd.C_below HR0_0.out HB.out))
 (case aB => exact (y1_ HB.out))
 (case aF => exact (fun k_ hk => Kd.fresh' (Kd.R_lt (b2_ HO112.out)) k_ hk))
 (case aO => exact (b2_ HO106.out))
 (case aS => exact (below_size (y1_ HB.out)))
 (case aL => have := LMc2.out; omega)
 intro v108 w14 ho hb hg hat
 rw [← Ny107.out] at ho
 replace BK0 := A_ (blk_grown (g := g0_) (o := .cells #[.slice A0_0 l0_0.length c0_0, .slice A0_1 l0_1.length c0_1, .slice A0_2 l0_2.length c0_2] 27 (0, 0)) (b1_ BK0.out) hg (Kd.R_ne HO106.out BK0.out (by decide)))
 replace BK103 := A_ (blk_grown (g := gb103) (o := .cells #[.slice none 0 0, .slice none 0 0, .slice none 0 0] 27 (0, 0)) (b1_ BK103.out) hg (Kd.R_ne HO106.out BK103.out (by decide)))
 replace HO112 := A_ (Kd.R_after (ok := (fun _ => True)) (by refine b2_ ?_; exact Kd.R_mono HO112.out (fun _ hk => ⟨trivial, hk⟩)) hg hat)
 replace HO118 := A_ (Kd.R_over' (b2_ HO118.out) (Kd.R_typed (b2_ HO106.out)) (by decide) hg)
 replace HB := A_ (hb)
 have HO109 := A_ (ho)
 clear HO106
 clear ho hb hg hat
 refine hK.out _ _ ⟨(blk_cell BK0.out 0).trans rfl, (blk_cell BK0.out 1).trans rfl, (blk_cell BK0.out 2).trans rfl⟩ (fun hHeld => ?_)
 clear hK K
 refine norm_ (a' := ?_) ?_ ?_
 rotate_left
 {
 show Act.put _ (some 8) _ = _
 simp only [Act.put, List.setIfInBounds_toArray, List.set_cons_zero, List.set_cons_succ, i64_w, i32_w]
 rfl}
 exact norm_ (by first | (simp only [putAll, Act.put, List.setIfInBounds_toArray, List.set_cons_zero, List.set_cons_succ]; done) | (simp only [putAll, Act.put, List.setIfInBounds_toArray, List.set_cons_zero, List.set_cons_succ]; rfl)) (hJ0_5_6_12 (v105, v108, v111, v117) _ ⟨hHeld, (b2_ HO109.out), (by refine b2_ ?_; exact Kd.R_mono HO112.out (fun _ hk => hk.2)), (b2_ HO118.out), (b1_ BK0.out), (b1_ BK103.out), (y1_ HB.out)⟩)}}
 {
 skip
 rintro ⟨v105, v108, v117⟩ w12 ⟨hS_, h0_, h1_, h2_, h3_, h4_⟩
 have n0_ : Aside0 (Kd.R k63 63 w12 w.heap.size (fun _ => True) v108 y107) := ⟨h0_⟩
 have n1_ : Aside0 (Kd.R k73 73 w12 w.heap.size (fun _ => True) v117 y116) := ⟨h1_⟩
 have n2_ : Aside0 (w12.heap[g0_]? = some (.cells #[.slice A0_0 l0_0.length c0_0, .slice A0_1 l0_1.length c0_1, .slice A0_2 l0_2.length c0_2] 27 (0, 0))) := ⟨h2_⟩
 have n3_ : Aside0 (w12.heap[gb103]? = some (.cells #[.slice none 0 0, .slice none 0 0, .slice none 0 0] 27 (0, 0))) := ⟨h3_⟩
 have n4_ : Aside0 (Below w.heap.size w w12) := ⟨h4_⟩
 clear BK0
 clear BK103
 clear HB
 clear h0_ h1_ h2_ h3_ h4_
 have HO109 := n0_
 have HO118 := n1_
 have BK0 := n2_
 have BK103 := n3_
 have HB := n4_
 clear n0_ n1_ n2_ n3_ n4_
 have hHeld : w12.cell? ⟨g0_, 0, none⟩ = some (.slice A0_0 l0_0.length c0_0) ∧ w12.cell? ⟨g0_, 1, none⟩ = some (.slice A0_1 l0_1.length c0_1) ∧ w12.cell? ⟨g0_, 2, none⟩ = some (.slice A0_2 l0_2.length c0_2) := hS_
 refine norm_ (a' := ?_) ?_ ?_
 rotate_left
 {
 simp only [putAll, Act.put, List.setIfInBounds_toArray, List.set_cons_zero, List.set_cons_succ]
 rfl}
 refine one_ (i := 6) (N := some 9) m2_ rfl rfl (one_of HT_.out s2_) (by decide) (fun K hK => ?_)
 refine Kd.R_lit_step k63 _ 63 ?hg (N := 9) ?hd (xs := ([] : List (S63))) (inner := []) (ok := fun _ => True) (okp := fun _ => True) ?hr ?hp (fun _ hk => hk) trivial (Below.refl _ _) (Nat.le_refl _) (by simp) ?_; (case hd => rfl); (case hg => rfl); (case hr => first | (go_simp; done) | (go_simp; rfl)); (case hp => exact (Reps.none _ _))
 intro v111 w13 ho14 hb hg_ hnew_
 clear hg_ hnew_
 (first | rw [← Ny110.out] at ho14 | (simp only [Int.reduceToNat] at ho14; rw [← Ny110.out] at ho14))
 have n0_ := A_ (Kd.R_elder' (b2_ HO109.out) (Kd.R_base ho14) hb)
 have n1_ := r1_ HO118 hb
 have n2_ := A_ (Kd.R_lower (Kd.R_new' ho14 (Kd.R_lt (b2_ HO109.out))) (below_size (y1_ HB.out)))
 have n3_ := b3_ BK0 hb
 have n4_ := b3_ BK103 hb
 have n5_ := A_ (below_step (y1_ HB.out) hb)
 clear HO109
 clear HO118
 clear BK0
 clear BK103
 clear HB
 have HO109 := n0_
 have HO118 := n1_
 have HO112 := n2_
 have BK0 := n3_
 have BK103 := n4_
 have HB := n5_
 clear n0_ n1_ n2_ n3_ n4_ n5_
 clear hb ho14
 refine hK.out _ _ ⟨(blk_cell BK0.out 0).trans rfl, (blk_cell BK0.out 1).trans rfl, (blk_cell BK0.out 2).trans rfl⟩ (fun hHeld => ?_)
 clear hK K
 refine norm_ (a' := ?_) ?_ ?_
 rotate_left
 {
 show Act.put _ (some 9) _ = _
 simp only [Act.put, List.setIfInBounds_toArray, List.set_cons_zero, List.set_cons_succ, i64_w, i32_w]
 rfl}
 exact norm_ (by first | (simp only [putAll, Act.put, List.setIfInBounds_toArray, List.set_cons_zero, List.set_cons_succ]; done) | (simp only [putAll, Act.put, List.setIfInBounds_toArray, List.set_cons_zero, List.set_cons_succ]; rfl)) (hJ0_5_6_12 (v105, v108, v111, v117) _ ⟨hHeld, (by refine b2_ ?_; exact Kd.R_mono HO109.out (fun _ hk => hk.2)), (by refine b2_ ?_; exact Kd.R_mono HO112.out (fun _ hk => hk.2)), (b2_ HO118.out), (b1_ BK0.out), (b1_ BK103.out), (y1_ HB.out)⟩)}}
 {
 skip
 rintro ⟨v105, v108, v111⟩ w12 ⟨hS_, h0_, h1_, h2_, h3_, h4_⟩
 have n0_ : Aside0 (Kd.R k63 63 w12 w.heap.size (fun k_ => some k_ ≠ (v111 : Value).ownBlock) v108 y107) := ⟨h0_⟩
 have n1_ : Aside0 (Kd.R k63 63 w12 w.heap.size (fun k_ => some k_ ≠ (v108 : Value).ownBlock) v111 y110) := ⟨h1_⟩
 have n2_ : Aside0 (w12.heap[g0_]? = some (.cells #[.slice A0_0 l0_0.length c0_0, .slice A0_1 l0_1.length c0_1, .slice A0_2 l0_2.length c0_2] 27 (0, 0))) := ⟨h2_⟩
 have n3_ : Aside0 (w12.heap[gb103]? = some (.cells #[.slice none 0 0, .slice none 0 0, .slice none 0 0] 27 (0, 0))) := ⟨h3_⟩
 have n4_ : Aside0 (Below w.heap.size w w12) := ⟨h4_⟩
 clear BK0
 clear BK103
 clear HB
 clear h0_ h1_ h2_ h3_ h4_
 have HO109 := n0_
 have HO112 := n1_
 have BK0 := n2_
 have BK103 := n3_
 have HB := n4_
 clear n0_ n1_ n2_ n3_ n4_
 have hHeld : w12.cell? ⟨g0_, 0, none⟩ = some (.slice A0_0 l0_0.length c0_0) ∧ w12.cell? ⟨g0_, 1, none⟩ = some (.slice A0_1 l0_1.length c0_1) ∧ w12.cell? ⟨g0_, 2, none⟩ = some (.slice A0_2 l0_2.length c0_2) := hS_
 refine norm_ (a' := ?_) ?_ ?_
 rotate_left
 {
 simp only [putAll, Act.put, List.setIfInBounds_toArray, List.set_cons_zero, List.set_cons_succ]
 rfl}
 refine two_ (i := 11) (j := 12) (Ni := some 14) (Nj := some 15) m1_ m2_ rfl rfl rfl rfl (two_of HT_.out s2_) (by decide) (by decide) (fun K hK => ?_) (fun K hK => ?_)
 {
 skip
 refine Kd.R_append_rows_step k63 (w0 := w) w.heap.size (by rfl) (.tmp 9) (.tmp 13) 24 63 (.agg #[(.int .i64 0), (.int .i64 0)]) 16 rfl Try.underlying24 info63 rfl (by decide) (by omega) v111 y110 l0_1 _ _ _ (fun k_ => some k_ ≠ (v108 : Value).ownBlock) (fun _ => False) rfl rfl ?aO ?aR (fun _ _ h => h) (fun _ h => h.elim) ?aF ?aB ?aS ?aL ?_
 (case aR => exact y2_ (Kd.C_below HR0_1.out HB.out))
 (case aB => exact (y1_ HB.out))
 (case aF => exact (fun k_ hk => Kd.fresh' (Kd.R_lt (b2_ HO109.out)) k_ hk))
 (case aO => exact (b2_ HO112.out))
 (case aS => exact (below_size (y1_ HB.out)))
 (case aL => have := LMc3.out; omega)
 intro v114 w13 ho hb hg hat
 rw [← Ny113.out] at ho
 replace BK0 := A_ (blk_grown (g := g0_) (o := .cells #[.slice A0_0 l0_0.length c0_0, .slice A0_1 l0_1.length c0_1, .slice A0_2 l0_2.length c0_2] 27 (0, 0)) (b1_ BK0.out) hg (Kd.R_ne HO112.out BK0.out (by decide)))
 replace BK103 := A_ (blk_grown (g := gb103) (o := .cells #[.slice none 0 0, .slice none 0 0, .slice none 0 0] 27 (0, 0)) (b1_ BK103.out) hg (Kd.R_ne HO112.out BK103.out (by decide)))
 replace HO109 := A_ (Kd.R_after (ok := (fun _ => True)) (by refine b2_ ?_; exact Kd.R_mono HO109.out (fun _ hk => ⟨trivial, hk⟩)) hg hat)
 replace HB := A_ (hb)
 have HO115 := A_ (ho)
 clear HO112
 clear ho hb hg hat
 refine hK.out _ _ ⟨(blk_cell BK0.out 0).trans rfl, (blk_cell BK0.out 1).trans rfl, (blk_cell BK0.out 2).trans rfl⟩ (fun hHeld => ?_)
 clear hK K
 refine norm_ (a' := ?_) ?_ ?_
 rotate_left
 {
 show Act.put _ (some 14) _ = _
 simp only [Act.put, List.setIfInBounds_toArray, List.set_cons_zero, List.set_cons_succ, i64_w, i32_w]
 rfl}
 exact norm_ (by first | (simp only [putAll, Act.put, List.setIfInBounds_toArray, List.set_cons_zero, List.set_cons_succ]; done) | (simp only [putAll, Act.put, List.setIfInBounds_toArray, List.set_cons_zero, List.set_cons_succ]; rfl)) (hJ0_5_6_11 (v105, v108, v111, v114) _ ⟨hHeld, (by refine b2_ ?_; exact Kd.R_mono HO109.out (fun _ hk => hk.2)), (b2_ HO115.out), (b1_ BK0.out), (b1_ BK103.out), (y1_ HB.out)⟩)}
 {
 skip
 refine Kd.R_lit_step k73 _ 73 ?hg (N := 15) ?hd (xs := ([] : List (S73))) (inner := []) (ok := fun _ => True) (okp := fun _ => True) ?hr ?hp (fun _ hk => hk) trivial (Below.refl _ _) (Nat.le_refl _) (by simp) ?_; (case hd => rfl); (case hg => rfl); (case hr => first | (go_simp; done) | (go_simp; rfl)); (case hp => exact (Reps.none _ _))
 intro v117 w13 ho14 hb hg_ hnew_
 clear hg_ hnew_
 (first | rw [← Ny116.out] at ho14 | (simp only [Int.reduceToNat] at ho14; rw [← Ny116.out] at ho14))
 replace HO109 := r1_ HO109 hb
 replace HO112 := r1_ HO112 hb
 have HO118 := A_ (Kd.R_lower ho14 (below_size (y1_ HB.out)))
 replace BK0 := b3_ BK0 hb
 replace BK103 := b3_ BK103 hb
 replace HB := A_ (below_step (y1_ HB.out) hb)
 clear hb ho14
 refine hK.out _ _ ⟨(blk_cell BK0.out 0).trans rfl, (blk_cell BK0.out 1).trans rfl, (blk_cell BK0.out 2).trans rfl⟩ (fun hHeld => ?_)
 clear hK K
 refine norm_ (a' := ?_) ?_ ?_
 rotate_left
 {
 show Act.put _ (some 15) _ = _
 simp only [Act.put, List.setIfInBounds_toArray, List.set_cons_zero, List.set_cons_succ, i64_w, i32_w]
 rfl}
 exact norm_ (by first | (simp only [putAll, Act.put, List.setIfInBounds_toArray, List.set_cons_zero, List.set_cons_succ]; done) | (simp only [putAll, Act.put, List.setIfInBounds_toArray, List.set_cons_zero, List.set_cons_succ]; rfl)) (hJ0_5_6_12 (v105, v108, v111, v117) _ ⟨hHeld, (b2_ HO109.out), (b2_ HO112.out), (b2_ HO118.out), (b1_ BK0.out), (b1_ BK103.out), (y1_ HB.out)⟩)}}}
 {
 skip
 rintro ⟨v105, v108, v111, v117⟩ w14 ⟨hS_, h0_, h1_, h2_, h3_, h4_, h5_⟩
 have n0_ : Aside0 (Kd.R k63 63 w14 w.heap.size (fun k_ => some k_ ≠ (v111 : Value).ownBlock) v108 y107) := ⟨h0_⟩
 have n1_ : Aside0 (Kd.R k63 63 w14 w.heap.size (fun k_ => some k_ ≠ (v108 : Value).ownBlock) v111 y110) := ⟨h1_⟩
 have n2_ : Aside0 (Kd.R k73 73 w14 w.heap.size (fun _ => True) v117 y116) := ⟨h2_⟩
 have n3_ : Aside0 (w14.heap[g0_]? = some (.cells #[.slice A0_0 l0_0.length c0_0, .slice A0_1 l0_1.length c0_1, .slice A0_2 l0_2.length c0_2] 27 (0, 0))) := ⟨h3_⟩
 have n4_ : Aside0 (w14.heap[gb103]? = some (.cells #[.slice none 0 0, .slice none 0 0, .slice none 0 0] 27 (0, 0))) := ⟨h4_⟩
 have n5_ : Aside0 (Below w.heap.size w w14) := ⟨h5_⟩
 clear BK0
 clear BK103
 clear HB
 clear h0_ h1_ h2_ h3_ h4_ h5_
 have HO109 := n0_
 have HO112 := n1_
 have HO118 := n2_
 have BK0 := n3_
 have BK103 := n4_
 have HB := n5_
 clear n0_ n1_ n2_ n3_ n4_ n5_
 have hHeld : w14.cell? ⟨g0_, 0, none⟩ = some (.slice A0_0 l0_0.length c0_0) ∧ w14.cell? ⟨g0_, 1, none⟩ = some (.slice A0_1 l0_1.length c0_1) ∧ w14.cell? ⟨g0_, 2, none⟩ = some (.slice A0_2 l0_2.length c0_2) := hS_
 refine norm_ (a' := ?_) ?_ ?_
 rotate_left
 {
 simp only [putAll, Act.put, List.setIfInBounds_toArray, List.set_cons_zero, List.set_cons_succ]
 rfl}
 refine one_ (i := 11) (N := some 14) m0_ rfl rfl (one_of HT_.out s2_) (by decide) (fun K hK => ?_)
 refine Kd.R_append_rows_step k63 (w0 := w) w.heap.size (by rfl) (.tmp 9) (.tmp 13) 24 63 (.agg #[(.int .i64 0), (.int .i64 0)]) 16 rfl Try.underlying24 info63 rfl (by decide) (by omega) v111 y110 l0_1 _ _ _ (fun k_ => some k_ ≠ (v108 : Value).ownBlock) (fun _ => False) rfl rfl ?aO ?aR (fun _ _ h => h) (fun _ h => h.elim) ?aF ?aB ?aS ?aL ?_
 (case aR => exact y2_ (Kd.C_below HR0_1.out HB.out))
 (case aB => exact (y1_ HB.out))
 (case aF => exact (fun k_ hk => Kd.fresh' (Kd.R_lt (b2_ HO109.out)) k_ hk))
 (case aO => exact (b2_ HO112.out))
 (case aS => exact (below_size (y1_ HB.out)))
 (case aL => have := LMc3.out; omega)
 intro v114 w15 ho hb hg hat
 rw [← Ny113.out] at ho
 replace BK0 := A_ (blk_grown (g := g0_) (o := .cells #[.slice A0_0 l0_0.length c0_0, .slice A0_1 l0_1.length c0_1, .slice A0_2 l0_2.length c0_2] 27 (0, 0)) (b1_ BK0.out) hg (Kd.R_ne HO112.out BK0.out (by decide)))
 replace BK103 := A_ (blk_grown (g := gb103) (o := .cells #[.slice none 0 0, .slice none 0 0, .slice none 0 0] 27 (0, 0)) (b1_ BK103.out) hg (Kd.R_ne HO112.out BK103.out (by decide)))
 replace HO109 := A_ (Kd.R_after (ok := (fun _ => True)) (by refine b2_ ?_; exact Kd.R_mono HO109.out (fun _ hk => ⟨trivial, hk⟩)) hg hat)
 replace HO118 := A_ (Kd.R_over' (b2_ HO118.out) (Kd.R_typed (b2_ HO112.out)) (by decide) hg)
 replace HB := A_ (hb)
 have HO115 := A_ (ho)
 clear HO112
 clear ho hb hg hat
 refine hK.out _ _ ⟨(blk_cell BK0.out 0).trans rfl, (blk_cell BK0.out 1).trans rfl, (blk_cell BK0.out 2).trans rfl⟩ (fun hHeld => ?_)
 clear hK K
 refine norm_ (a' := ?_) ?_ ?_
 rotate_left
 {
 show Act.put _ (some 14) _ = _
 simp only [Act.put, List.setIfInBounds_toArray, List.set_cons_zero, List.set_cons_succ, i64_w, i32_w]
 rfl}
 exact norm_ (by first | (simp only [putAll, Act.put, List.setIfInBounds_toArray, List.set_cons_zero, List.set_cons_succ]; done) | (simp only [putAll, Act.put, List.setIfInBounds_toArray, List.set_cons_zero, List.set_cons_succ]; rfl)) (hJ0_5_6_11_12 (v105, v108, v111, v114, v117) _ ⟨hHeld, (by refine b2_ ?_; exact Kd.R_mono HO109.out (fun _ hk => hk.2)), (b2_ HO115.out), (b2_ HO118.out), (b1_ BK0.out), (b1_ BK103.out), (y1_ HB.out)⟩)}}
 {
 skip
 rintro ⟨v105, v108, v111, v114⟩ w13 ⟨hS_, h0_, h1_, h2_, h3_, h4_⟩
 have n0_ : Aside0 (Kd.R k63 63 w13 w.heap.size (fun k_ => some k_ ≠ (v114 : Value).ownBlock) v108 y107) := ⟨h0_⟩
 have n1_ : Aside0 (Kd.R k63 63 w13 w.heap.size (fun k_ => some k_ ≠ (v108 : Value).ownBlock) v114 y113) := ⟨h1_⟩
 have n2_ : Aside0 (w13.heap[g0_]? = some (.cells #[.slice A0_0 l0_0.length c0_0, .slice A0_1 l0_1.length c0_1, .slice A0_2 l0_2.length c0_2] 27 (0, 0))) := ⟨h2_⟩
 have n3_ : Aside0 (w13.heap[gb103]? = some (.cells #[.slice none 0 0, .slice none 0 0, .slice none 0 0] 27 (0, 0))) := ⟨h3_⟩
 have n4_ : Aside0 (Below w.heap.size w w13) := ⟨h4_⟩
 clear BK0
 clear BK103
 clear HB
 clear h0_ h1_ h2_ h3_ h4_
 have HO109 := n0_
 have HO115 := n1_
 have BK0 := n2_
 have BK103 := n3_
 have HB := n4_
 clear n0_ n1_ n2_ n3_ n4_
 have hHeld : w13.cell? ⟨g0_, 0, none⟩ = some (.slice A0_0 l0_0.length c0_0) ∧ w13.cell? ⟨g0_, 1, none⟩ = some (.slice A0_1 l0_1.length c0_1) ∧ w13.cell? ⟨g0_, 2, none⟩ = some (.slice A0_2 l0_2.length c0_2) := hS_
 refine norm_ (a' := ?_) ?_ ?_
 rotate_left
 {
 simp only [putAll, Act.put, List.setIfInBounds_toArray, List.set_cons_zero, List.set_cons_succ]
 rfl}
 refine one_ (i := 12) (N := some 15) m0_ rfl rfl (one_of HT_.out s2_) (by decide) (fun K hK => ?_)
 refine Kd.R_lit_step k73 _ 73 ?hg (N := 15) ?hd (xs := ([] : List (S73))) (inner := []) (ok := fun _ => True) (okp := fun _ => True) ?hr ?hp (fun _ hk => hk) trivial (Below.refl _ _) (Nat.le_refl _) (by simp) ?_; (case hd => rfl); (case hg => rfl); (case hr => first | (go_simp; done) | (go_simp; rfl)); (case hp => exact (Reps.none _ _))
 intro v117 w14 ho15 hb hg_ hnew_
 clear hg_ hnew_
 (first | rw [← Ny116.out] at ho15 | (simp only [Int.reduceToNat] at ho15; rw [← Ny116.out] at ho15))
 replace HO109 := r1_ HO109 hb
 replace HO115 := r1_ HO115 hb
 have HO118 := A_ (Kd.R_lower ho15 (below_size (y1_ HB.out)))
 replace BK0 := b3_ BK0 hb
 replace BK103 := b3_ BK103 hb
 replace HB := A_ (below_step (y1_ HB.out) hb)
 clear hb ho15
 refine hK.out _ _ ⟨(blk_cell BK0.out 0).trans rfl, (blk_cell BK0.out 1).trans rfl, (blk_cell BK0.out 2).trans rfl⟩ (fun hHeld => ?_)
 clear hK K
 refine norm_ (a' := ?_) ?_ ?_
 rotate_left
 {
 show Act.put _ (some 15) _ = _
 simp only [Act.put, List.setIfInBounds_toArray, List.set_cons_zero, List.set_cons_succ, i64_w, i32_w]
 rfl}
 exact norm_ (by first | (simp only [putAll, Act.put, List.setIfInBounds_toArray, List.set_cons_zero, List.set_cons_succ]; done) | (simp only [putAll, Act.put, List.setIfInBounds_toArray, List.set_cons_zero, List.set_cons_succ]; rfl)) (hJ0_5_6_11_12 (v105, v108, v111, v114, v117) _ ⟨hHeld, (b2_ HO109.out), (b2_ HO115.out), (b2_ HO118.out), (b1_ BK0.out), (b1_ BK103.out), (y1_ HB.out)⟩)}}
 rintro ⟨v105, v108, v111, v114, v117⟩ w15 ⟨hS_, h0_, h1_, h2_, h3_, h4_, h5_⟩
 have n0_ : Aside0 (Kd.R k63 63 w15 w.heap.size (fun k_ => some k_ ≠ (v114 : Value).ownBlock) v108 y107) := ⟨h0_⟩
 have n1_ : Aside0 (Kd.R k63 63 w15 w.heap.size (fun k_ => some k_ ≠ (v108 : Value).ownBlock) v114 y113) := ⟨h1_⟩
 have n2_ : Aside0 (Kd.R k73 73 w15 w.heap.size (fun _ => True) v117 y116) := ⟨h2_⟩
 have n3_ : Aside0 (w15.heap[g0_]? = some (.cells #[.slice A0_0 l0_0.length c0_0, .slice A0_1 l0_1.length c0_1, .slice A0_2 l0_2.length c0_2] 27 (0, 0))) := ⟨h3_⟩
 have n4_ : Aside0 (w15.heap[gb103]? = some (.cells #[.slice none 0 0, .slice none 0 0, .slice none 0 0] 27 (0, 0))) := ⟨h4_⟩
 have n5_ : Aside0 (Below w.heap.size w w15) := ⟨h5_⟩
 clear BK0
 clear BK103
 clear HB
 clear h0_ h1_ h2_ h3_ h4_ h5_
 have HO109 := n0_
 have HO115 := n1_
 have HO118 := n2_
 have BK0 := n3_
 have BK103 := n4_
 have HB := n5_
 clear n0_ n1_ n2_ n3_ n4_ n5_
 have hHeld : w15.cell? ⟨g0_, 0, none⟩ = some (.slice A0_0 l0_0.length c0_0) ∧ w15.cell? ⟨g0_, 1, none⟩ = some (.slice A0_1 l0_1.length c0_1) ∧ w15.cell? ⟨g0_, 2, none⟩ = some (.slice A0_2 l0_2.length c0_2) := hS_
 refine norm_ (a' := ?_) ?_ ?_
 rotate_left
 {
 simp only [putAll, Act.put, List.setIfInBounds_toArray, List.set_cons_zero, List.set_cons_succ]
 rfl}
 refine one_ (i := 17) (N := some 20) #[T,T,T,T,T,T,T,T,T,T,T,T,T,T,T,T,T,T,F,F] rfl rfl (one_of HT_.out s2_) (by decide) (fun K hK => ?_)
 refine Kd.R_append_rows_step k73 (w0 := w) w.heap.size (by rfl) (.tmp 15) (.tmp 19) 25 73 (.agg #[(.int .i64 0), (.int .i64 0)]) 16 rfl Try.underlying25 info73 rfl (by decide) (by omega) v117 y116 l0_2 _ _ _ (fun _ => True) (fun _ => False) rfl rfl ?aO ?aR (fun _ _ h => h) (fun _ h => h.elim) ?aF ?aB ?aS ?aL ?_
 (case aR => exact y2_ (Kd.C_below HR0_2.out HB.out))
 (case aB => exact (y1_ HB.out))
 (case aF => exact (fun _ _ => trivial))
 (case aO => exact (b2_ HO118.out))
 (case aS => exact (below_size (y1_ HB.out)))
 (case aL => have := LMc4.out; omega)
 intro v120 w16 ho hb hg hat
 rw [← Ny119.out] at ho
 replace BK0 := A_ (blk_grown (g := g0_) (o := .cells #[.slice A0_0 l0_0.length c0_0, .slice A0_1 l0_1.length c0_1, .slice A0_2 l0_2.length c0_2] 27 (0, 0)) (b1_ BK0.out) hg (Kd.R_ne HO118.out BK0.out (by decide)))
 replace BK103 := A_ (blk_grown (g := gb103) (o := .cells #[.slice none 0 0, .slice none 0 0, .slice none 0 0] 27 (0, 0)) (b1_ BK103.out) hg (Kd.R_ne HO118.out BK103.out (by decide)))
 replace HO109 := A_ (Kd.R_over' (b2_ HO109.out) (Kd.R_typed (b2_ HO118.out)) (by decide) hg)
 replace HO115 := A_ (Kd.R_over' (b2_ HO115.out) (Kd.R_typed (b2_ HO118.out)) (by decide) hg)
 replace HB := A_ (hb)
 have HO121 := A_ (ho)
 clear HO118
 clear ho hb hg hat
 obtain ⟨Ao17, co17, eo17⟩ := Kd.R_slice HO121.out
 (first | subst eo17 | (injection eo17 with f1_ f2_ f3_; have f4_ := f1_.symm; have f5_ := f3_.symm; clear f1_ f2_ f3_; subst f4_; subst f5_))
 obtain ⟨Ao18, co18, eo18⟩ := Kd.R_slice HO115.out
 (first | subst eo18 | (injection eo18 with f1_ f2_ f3_; have f4_ := f1_.symm; have f5_ := f3_.symm; clear f1_ f2_ f3_; subst f4_; subst f5_))
 obtain ⟨Ao19, co19, eo19⟩ := Kd.R_slice HO109.out
 (first | subst eo19 | (injection eo19 with f1_ f2_ f3_; have f4_ := f1_.symm; have f5_ := f3_.symm; clear f1_ f2_ f3_; subst f4_; subst f5_))
 refine hK.out _ _ ⟨(blk_cell BK0.out 0).trans rfl, (blk_cell BK0.out 1).trans rfl, (blk_cell BK0.out 2).trans rfl⟩ (fun hHeld => ?_)
 clear hK K
 refine norm_ (a' := ?_) ?_ ?_
 rotate_left
 {
 show Act.put _ (some 20) _ = _
 simp only [Act.put, List.setIfInBounds_toArray, List.set_cons_zero, List.set_cons_succ, i64_w, i32_w]
 rfl}
 refine pu_ 18 21 #[T,T,T,T,T,T,T,T,T,T,T,T,T,T,T,T,T,T,T,F] (any_of HT_.out s2_) ?_
 refine one_ (i := 19) (N := none) #[T,T,T,T,T,T,T,T,T,T,T,T,T,T,T,T,T,T,T,T] rfl rfl (one_of HT_.out s2_) (by decide) (fun K hK => ?_)
 have hs20 : w16.cell? ⟨gb103, 0, none⟩ = some (.slice none 0 0) := (blk_cell BK103.out 0).trans rfl
 have hfs20 := blk_frozen BK103.out 0
 have hns20_0 := NB0_103.out
 have hms20_0 := NB103_0.out
 have hs21 : w16.cell? ⟨gb103, 1, none⟩ = some (.slice none 0 0) := (blk_cell BK103.out 1).trans rfl
 have hfs21 := blk_frozen BK103.out 1
 have hns21_0 := NB0_103.out
 have hms21_0 := NB103_0.out
 have hs22 : w16.cell? ⟨gb103, 2, none⟩ = some (.slice none 0 0) := (blk_cell BK103.out 2).trans rfl
 have hfs22 := blk_frozen BK103.out 2
 have hns22_0 := NB0_103.out
 have hms22_0 := NB103_0.out
 refine skip_ (w1 := ?_) (by rfl) rfl ?_ ?_
 rotate_left
 {
 go_simp
 rfl}
 refine hK.out _ _ ⟨((cell_far (p := ⟨gb103, _, none⟩) NB0_103.out _).trans (((cell_far (p := ⟨gb103, _, none⟩) NB0_103.out _).trans (((cell_far (p := ⟨gb103, _, none⟩) NB0_103.out _).trans (hHeld.1)))))), ((cell_far (p := ⟨gb103, _, none⟩) NB0_103.out _).trans (((cell_far (p := ⟨gb103, _, none⟩) NB0_103.out _).trans (((cell_far (p := ⟨gb103, _, none⟩) NB0_103.out _).trans (hHeld.2.1)))))), ((cell_far (p := ⟨gb103, _, none⟩) NB0_103.out _).trans (((cell_far (p := ⟨gb103, _, none⟩) NB0_103.out _).trans (((cell_far (p := ⟨gb103, _, none⟩) NB0_103.out _).trans (hHeld.2.2))))))⟩ (fun hHeld => ?_)
 clear hK K
 refine done_ (done_of HT_.out s2_) ?_
 try go_wp2
 refine bodyPost_ret (results_cell_row rfl _ _ gb103 27 #[.slice Ao19 y107.length co19, .slice Ao18 y113.length co18, .slice Ao17 y119.length co17] (0, 0) _ rfl (by refine b1_ ?_; refine blk_put3 (cs := #[.slice none 0 0, .slice none 0 0, .slice none 0 0]) ?_ rfl; refine b1_ ?_; exact BK103.out) Try.underlying27 rfl s2_) rfl ?_
 exact ⟨_, _, _, e1_, by refine b2_ ?_; exact Kd.R_mono (Kd.R_far3 (g := gb103) (Kd.R_types HO109.out BK103.out (by decide)) (fun _ hk => hk.2)) (fun _ hk => hk.1), by refine b2_ ?_; exact Kd.R_mono (Kd.R_far3 (g := gb103) (Kd.R_types HO115.out BK103.out (by decide)) (fun _ hk => hk.2)) (fun _ hk => hk.1), by refine b2_ ?_; exact Kd.R_mono (Kd.R_far3 (g := gb103) (Kd.R_types HO121.out BK103.out (by decide)) (fun _ hk => hk.2)) (fun _ hk => trivial), by repeat (first | (with_reducible first | exact HB.out | apply below_alloc | apply pw_below_drewN | apply below_drew1 | refine below_set ?_ GE103.out) | exact HB.out)⟩}
 {
 rw [if_neg c4] at H
 exact absurd H (by simp)}}
 {
 rw [if_neg c3] at H
 exact absurd H (by simp)}}
 {
 rw [if_neg c2] at H
 exact absurd H (by simp)}

end Go.Proofs.Ytgfilednbllkmaa.QFnJoinedPresence
