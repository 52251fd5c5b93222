-- written by a program of this session, on the lines of the kit's print
import Derived.Test.YtjfaepolmllejaaQFnStrikesx0
import Derived.Test.YtjfaepolmllejaaQFnStrikesx2
namespace Go.Proofs.Ytjfaepolmllejaa.QFnStrikes
open Go.RowKit Go.Proofs.YtjfaepolmllejaaW.PrintWords Go.Proofs.YtjfaepolmllejaaW.PrintLast Go.Proofs.YtjfaepolmllejaaW.PrintMore
attribute [local go_sem] max2_int min2_int max_two min_two max_three min_three max_four min_four   -- for this text's walks alone
set_option linter.unusedVariables false
set_option linter.unusedSimpArgs false

/-! ### impl_Strike_64: function 64 -/
def impl_Strike_64.f (l0 : List (S45)) : Option (List (S45)) := if l0.length < 5864062014805 then some l0 else none
set_option maxHeartbeats 8000000 in
set_option maxRecDepth 100000 in
theorem impl_Strike_64.calls (A0 : Option Addr) (c0 : Nat) (l0 : List (S45)) (r : List (S45)) (w : World) (hr0 : Kd.C k45 w A0 l0.length l0) (hc0 : l0.length ≤ c0) (h : impl_Strike_64.f l0 = some r) :
    Calls Try.prog 64 #[.slice A0 l0.length c0] w fun e w' => ∃ v0_ : Value, e = .returned (v0_) ∧ Kd.R k45 45 w' w.heap.size (fun _ => True) v0_ r ∧ Below w.heap.size w w' := by
  have hl : l0.length < 5864062014805 := by
    unfold impl_Strike_64.f at h
    split at h
    · assumption
    · cases h
  obtain rfl : l0 = r := by
    unfold impl_Strike_64.f at h
    rw [if_pos hl] at h
    exact Option.some.inj h
  clear h
  have HR0 := Aside0.mk hr0
  have HC0 := Aside0.mk hc0
  have LM := Aside0.mk hl
  clear hr0 hc0 hl
  have HB := Aside0.mk (Below.refl w.heap.size w)
  cases A0 with
  | none =>
    have hn : l0 = [] := by
      have h1 := HR0.out.1
      have h2 := HR0.out.2.2
      rcases Nat.eq_zero_or_pos l0.length with h3 | h3
      · exact List.eq_nil_of_length_eq_zero h3
      · obtain ⟨ad, e, _⟩ := h2 h3
        cases e
    subst hn
    have hnil : ∀ W : World, (binOp .eql 41 (.slice none 0 c0) (.slice none 0 0)).run Try.prog W = .ok (.bool true) W := fun W => Lib.run_eql_slice_nil (P := Try.prog) W 41 45 none 0 c0 0 0 Try.underlying41
    simp only [List.length_nil]
    go_enter Try.func64, Try.ntmps64
    go_wp2
    go_ret
    exact ⟨_, rfl, Kd.R_nil _ _ _ _ _, HB.out⟩
  | some ad =>
    have hnil : ∀ W : World, (binOp .eql 41 (.slice (some ad) l0.length c0) (.slice none 0 0)).run Try.prog W = .ok (.bool false) W := fun W => Lib.run_eql_slice_nil (P := Try.prog) W 41 45 (some ad) l0.length c0 0 0 Try.underlying41
    go_enter Try.func64, Try.ntmps64
    go_wp2_with (first
      | ((with_reducible refine gate_dst (N := 5) rfl ?_); refine Kd.R_lit k45 (w0 := w) w.heap.size 45 ?hg (N := 5) ?hd (xs := ([] : List (S45))) (inner := []) (ok := fun _ => True) (okp := fun _ => True) ?hr ?hp (fun _ hk => hk) trivial (Below.refl _ _) (Nat.le_refl _) (by simp) ?_; (case hd => rfl); (case hg => rfl); (case hr => first | (go_simp; done) | (go_simp; rfl)); (case hp => exact (Reps.none _ _)); intro v1 w1 ho hb hg_ hnew_; have HO1 := Aside0.mk ho; have HB1 := Aside0.mk hb; have HR1 := Aside0.mk (Kd.C_below HR0.out hb); clear ho hb hg_ hnew_)
      | ((with_reducible refine gate_builtin (b := .append) (xs := #[.tmp 5, .tmp 6]) rfl ?_); at_builtin; refine Kd.R_append_rows k45 (w0 := w) w.heap.size rfl (.tmp 5) (.tmp 6) 41 45 (.agg #[(.int .i64 0), (.int .i64 0), (.int .i64 0)]) 24 rfl Try.underlying41 info45 rfl (by decide) (by omega) v1 ([] : List (S45)) l0 _ _ _ (fun _ => True) (fun _ => False) rfl rfl ?aO ?aR (fun _ _ h => h) (fun _ h => h.elim) ?aF ?aB ?aS ?aL ?_; (case aO => exact HO1.out); (case aR => exact HR1.out); (case aF => exact fun _ _ => trivial); (case aB => exact HB1.out); (case aS => exact HB1.out.size); (case aL => have := LM.out; simp; omega); intro v2 w2 ho hb hg hat; have HO2 := Aside0.mk ho; have HB2 := Aside0.mk hb; clear ho hb hg hat; clear HO1 HB1 HR1))
    go_ret
    exact ⟨_, rfl, HO2.out, HB2.out⟩

/-! ### impl_AddStrike: function 30 -/
abbrev impl_AddStrike.T : Bool := true
abbrev impl_AddStrike.F : Bool := false
theorem impl_AddStrike.s2_ {P : Prop} (h : P := by kernel_rfl) : P := h
theorem impl_AddStrike.s3_ {P : Prop} (h : P := by (try simp only [List.map_toArray, List.map_cons, List.map_nil]); first | done | rfl | (simp only [List.length_drop, List.length_take]; rfl)) : P := h
abbrev impl_AddStrike.m0_ : Array Bool := #[F,F,F,F,F,F]
abbrev impl_AddStrike.m1_ : Array Bool := #[T,F,F,F,F,F]
abbrev impl_AddStrike.m2_ : Array Bool := #[T,F,T,F,F,F]
abbrev impl_AddStrike.m3_ : Array Bool := #[T,T,T,T,F,F]
abbrev impl_AddStrike.m4_ : Array Bool := #[T,T,T,F,F,F]
abbrev impl_AddStrike.m5_ : Array Bool := #[T,F,T,T,F,F]
abbrev impl_AddStrike.m6_ : Array Bool := #[T,T,T,T,T,F]
abbrev impl_AddStrike.m7_ : Array Bool := #[T,T,T,T,T,T]
theorem impl_AddStrike.p1_ {P : Prop} (h : P := by simp only [Act.put, List.setIfInBounds_toArray, List.set_cons_zero, List.set_cons_succ, i64_w, i32_w]; rfl) : P := h
theorem impl_AddStrike.b1_ {P Q : Prop} (q : Q) (h : Q → P := by intro q_; (with_reducible repeat (first | refine blk_drewN ?_ _ | refine blk_drew ?_ | refine blk_alloc ?_ _)); exact q_) : P := h q
theorem impl_AddStrike.b2_ {P Q : Prop} (q : Q) (h : Q → P := by intro q_; (with_reducible repeat (first | apply Kd.R_alloc | apply Kd.R_drewN | apply Kd.R_drew)); exact q_) : P := h q
theorem impl_AddStrike.y1_ {P Q : Prop} (q : Q) (h : Q → P := by intro q_; repeat (first | (with_reducible first | exact q_ | apply below_alloc | apply pw_below_drewN | apply below_drew1) | exact q_)) : P := h q
theorem impl_AddStrike.y2_ {P Q : Prop} (q : Q) (h : Q → P := by intro q_; repeat (first | exact q_ | (with_reducible refine Kd.C_alloc ?_ _) | (with_reducible refine Kd.C_drewN ?_ _) | (with_reducible refine Kd.C_drew ?_))) : P := h q
theorem impl_AddStrike.b3_ {w w1 W : World} {g : Nat} {o : Obj} (q : Aside0 (w.heap[g]? = some o)) (hb : Below W.heap.size W w1) (h : w.heap[g]? = some o → W.heap[g]? = some o := by intro q_; (with_reducible repeat (first | refine blk_drewN ?_ _ | refine blk_drew ?_ | refine blk_alloc ?_ _)); exact q_) : Aside0 (w1.heap[g]? = some o) := ⟨blk_below (h q.out) hb⟩
theorem impl_AddStrike.b6_ {w w' W : World} {k : Nat} (hg : k = W.heap.size) (q : Aside0 (Below w.heap.size w w')) (h : Below w.heap.size w w' → Below w.heap.size w W := by intro q_; repeat (first | (with_reducible first | exact q_ | apply below_alloc | apply pw_below_drewN | apply below_drew1) | exact q_)) : Aside0 (w.heap.size ≤ k) := ⟨by rw [hg]; exact below_size (h q.out)⟩
theorem impl_AddStrike.bx_ {P : Program} {ops : Array Oper} {rest : List Oper} {o : Oper} {a : Act} {Q : Exit → Act → World → Prop} {W : World} (N : Tmp) (cs : Array Value) (t : TypeId) (h : ∀ g, g = W.heap.size → ∀ w1, w1.heap[g]? = some (.cells cs t (0, 0)) → Below W.heap.size W w1 → wpList P ops Q rest (a.put o.dst (.pointer (some ⟨g, 0, none⟩))) w1) (hgd : o.guard = none := by rfl) (hd : o.dst = some N := by rfl) (hrun : (execOp a.eval o).run P W = .ok (.value (.pointer (some ⟨W.heap.size, 0, none⟩))) (W.alloc (.cells cs t (0, 0))) := by first | (go_simp; done) | (go_simp; rfl)) : wpList P ops Q (o :: rest) a W := box_event hgd hd hrun h
theorem impl_AddStrike.r1_ {α : Type} {d : Kd α} {e base : Nat} {ok : Nat → Prop} {v : Value} {xs : List α} {w W w1 : World} (q : Aside0 (d.R e w base ok v xs)) (hb : Below W.heap.size W w1) (h : d.R e w base ok v xs → d.R e W base ok v xs := by intro q_; (with_reducible repeat (first | apply Kd.R_alloc | apply Kd.R_drewN | apply Kd.R_drew)); exact q_) : Aside0 (d.R e w1 base ok v xs) := ⟨Kd.R_below (h q.out) hb⟩
def impl_AddStrike.f (k : Nat) (l0 : List (S45)) (a1_0 : Int) (a1_1 : Int) (a1_2 : Int) : Option ((List (S45)) × Bool) := (impl_Strike_64.f l0).bind fun t110 => ((some (([(⟨a1_0, a1_1, a1_2⟩ : S45)] : List (S45)) : List (S45))).bind fun y113 => (if t110.length + y113.length < 5864062014805 then ((some (t110 ++ y113 : List (S45))).bind fun y116 => ((impl_AreStrikes.f k l0).bind fun t119 => (if t119 = true then ((impl_AreStrikes.f k y116).bind fun t120 => (if t120 = true then (some (y116, true)) else (some (([] : List (S45)), false)))) else (some (([] : List (S45)), false))))) else (none)))
theorem impl_AddStrike.mono : ∀ a0 a1 a2 a3 k, LeO (impl_AddStrike.f k a0 a1 a2 a3) (impl_AddStrike.f (k + 1) a0 a1 a2 a3) := by
  intro a0 a1 a2 a3 k
  unfold impl_AddStrike.f
  repeat' first
      | (with_reducible exact impl_AreStrikes.mono _ _)
      | (with_reducible exact LeO.refl _)
      | (with_reducible exact LeO.none _)
      | (with_reducible refine LeO.ite ?_ ?_)
      | (with_reducible refine LeO.bind ?_ (fun _ => ?_))
      | exact impl_AreStrikes.mono _ _
      | exact LeO.none _
      | refine LeO.ite ?_ ?_
      | refine LeO.bind ?_ (fun _ => ?_)
set_option maxHeartbeats 8000000 in
set_option maxRecDepth 100000 in
theorem impl_AddStrike.calls (k : Nat) (A0 : Option Addr) (c0 : Nat) (l0 : List (S45)) (a1_0 : Int) (a1_1 : Int) (a1_2 : Int) (r1 : List (S45)) (r2 : Bool) (w : World) (hr0 : Kd.C k45 w A0 l0.length l0) (hc0 : l0.length ≤ c0) (h : impl_AddStrike.f k l0 a1_0 a1_1 a1_2 = some (r1, r2)) :
    Calls Try.prog 30 #[.slice A0 l0.length c0, .agg #[.int .i64 a1_0, .int .i64 a1_1, .int .i64 a1_2]] w fun e w' => ∃ v0_ : Value, e = .returned (.tuple #[v0_, .bool r2]) ∧ Kd.R k45 45 w' w.heap.size (fun _ => True) v0_ r1 ∧ Below w.heap.size w w' := by
 have hu45 := Try.underlying45
 have HR0 := Aside0.mk hr0
 have HC0 := Aside0.mk hc0
 clear hr0 hc0
 have HB := Aside0.mk (Below.refl w.heap.size w)
 have H : ((impl_Strike_64.f l0).bind fun t110 => ((some (([(⟨a1_0, a1_1, a1_2⟩ : S45)] : List (S45)) : List (S45))).bind fun y113 => (if t110.length + y113.length < 5864062014805 then ((some (t110 ++ y113 : List (S45))).bind fun y116 => ((impl_AreStrikes.f k l0).bind fun t119 => (if t119 = true then ((impl_AreStrikes.f k y116).bind fun t120 => (if t120 = true then (some (y116, true)) else (some (([] : List (S45)), false)))) else (some (([] : List (S45)), false))))) else (none)))) = some (r1, r2) := h
 clear h
 replace H := Option.bind_eq_some_iff.mp H
 obtain ⟨t110, A30, H⟩ := H
 replace H : ((some (([(⟨a1_0, a1_1, a1_2⟩ : S45)] : List (S45)) : List (S45))).bind fun y113 => (if t110.length + y113.length < 5864062014805 then ((some (t110 ++ y113 : List (S45))).bind fun y116 => ((impl_AreStrikes.f k l0).bind fun t119 => (if t119 = true then ((impl_AreStrikes.f k y116).bind fun t120 => (if t120 = true then (some (y116, true)) else (some (([] : List (S45)), false)))) else (some (([] : List (S45)), false))))) else (none))) = some (r1, r2) := H
 have A3 := Aside0.mk A30
 clear A30
 obtain ⟨y113, hy113⟩ : ∃ y_ : List (S45), y_ = (([(⟨a1_0, a1_1, a1_2⟩ : S45)] : List (S45))) := ⟨_, rfl⟩
 replace H : (if t110.length + y113.length < 5864062014805 then ((some (t110 ++ y113 : List (S45))).bind fun y116 => ((impl_AreStrikes.f k l0).bind fun t119 => (if t119 = true then ((impl_AreStrikes.f k y116).bind fun t120 => (if t120 = true then (some (y116, true)) else (some (([] : List (S45)), false)))) else (some (([] : List (S45)), false))))) else (none)) = some (r1, r2) := by first | (rw [hy113]; with_reducible exact H) | (have H2_ := (Option.bind_some _ _).symm.trans H; rw [hy113]; with_reducible exact H2_) | (have H2_ := (Option.bind_some _ _).symm.trans H; with_reducible exact H2_) | with_reducible exact H | (rw [hy113]; exact H) | exact H
 have Ny113 := Aside0.mk hy113
 clear hy113
 by_cases c4 : t110.length + y113.length < 5864062014805
 {
 rw [if_pos c4] at H
 have LMc4 := Aside0.mk c4
 clear c4
 obtain ⟨y116, hy116⟩ : ∃ y_ : List (S45), y_ = (t110 ++ y113) := ⟨_, rfl⟩
 replace H : ((impl_AreStrikes.f k l0).bind fun t119 => (if t119 = true then ((impl_AreStrikes.f k y116).bind fun t120 => (if t120 = true then (some (y116, true)) else (some (([] : List (S45)), false)))) else (some (([] : List (S45)), false)))) = some (r1, r2) := by first | (rw [hy116]; with_reducible exact H) | (have H2_ := (Option.bind_some _ _).symm.trans H; rw [hy116]; with_reducible exact H2_) | (have H2_ := (Option.bind_some _ _).symm.trans H; with_reducible exact H2_) | with_reducible exact H | (rw [hy116]; exact H) | exact H
 have Ny116 := Aside0.mk hy116
 clear hy116
 replace H := Option.bind_eq_some_iff.mp H
 obtain ⟨t119, A50, H⟩ := H
 replace H : (if t119 = true then ((impl_AreStrikes.f k y116).bind fun t120 => (if t120 = true then (some (y116, true)) else (some (([] : List (S45)), false)))) else (some (([] : List (S45)), false))) = some (r1, r2) := H
 have A5 := Aside0.mk A50
 clear A50
 by_cases c6 : t119 = true
 {
 subst c6
 have H1 : ((impl_AreStrikes.f k y116).bind fun t120 => (if t120 = true then (some (y116, true)) else (some (([] : List (S45)), false)))) = some (r1, r2) := by rw [if_pos rfl] at H; exact H
 clear H
 have H := H1
 clear H1
 replace H := Option.bind_eq_some_iff.mp H
 obtain ⟨t120, A70, H⟩ := H
 replace H : (if t120 = true then (some (y116, true)) else (some (([] : List (S45)), false))) = some (r1, r2) := H
 have A7 := Aside0.mk A70
 clear A70
 by_cases c8 : t120 = true
 {
 subst c8
 have H1 : (some (y116, true)) = some (r1, r2) := by rw [if_pos rfl] at H; exact H
 clear H
 have H := H1
 clear H1
 simp only [Option.some.injEq, Prod.mk.injEq] at H
 obtain ⟨rfl, rfl⟩ := H
 go_enter Try.func30, Try.ntmps30
 try go_wp2_with (first | ((with_reducible refine gate_dst (N := 3) rfl ?_); refine bx_ 3 #[.int .i64 a1_0, .int .i64 a1_1, .int .i64 a1_2] 45 ?_; intro gb109 hg w9 hbox hb; have GW109 := b6_ hg HB; have GE109 := b6_ hg HB; replace HB := Aside0.mk (below_step (y1_ HB.out) hb); have BK109 := Aside0.mk (hbox); clear hb hbox hg))
 replace BK109 := Aside0.mk (blk_drew BK109.out)
 replace HB := Aside0.mk (below_drew1 HB.out)
 refine start_ (n := 6) (S := fun w' => w'.cell? ⟨gb109, 0, none⟩ = some (.int .i64 a1_0) ∧ w'.cell? ⟨gb109, 1, none⟩ = some (.int .i64 a1_1) ∧ w'.cell? ⟨gb109, 2, none⟩ = some (.int .i64 a1_2)) (ds := []) m0_ s2_ rfl rfl ⟨(blk_cell BK109.out 0).trans rfl, (blk_cell BK109.out 1).trans rfl, (blk_cell BK109.out 2).trans rfl⟩ (fun hHeld => ?_)
 generalize w9.drew = w10 at BK109 HB hHeld ⊢
 refine pure_ (i := 0) (N := some 7) (v := ?_) (a' := ?_) m1_ rfl rfl s2_ (fun _ _ _ h => h) (Or.inl ⟨by rfl, ?_⟩) ?_ ?_
 rotate_left
 {
 intro w'
 go_simp
 with_reducible rfl}
 rotate_left
 · exact p1_
 refine take_ (i := 2) (N := some 9) (v := ?_) (a' := ?_) m2_ rfl rfl s2_ (fun _ _ _ h => h) (Or.inl ⟨by rfl, ?_⟩) hHeld ?_ ?_
 rotate_left
 {
 rintro w' ⟨s0, s1, s2⟩
 go_simp
 with_reducible rfl}
 rotate_left
 · exact p1_
 refine join_ (σ := Value × Value) 2 m3_ (fun s_ => [(8, s_.1), (10, s_.2)]) (fun s_ w' => (w'.cell? ⟨gb109, 0, none⟩ = some (.int .i64 a1_0) ∧ w'.cell? ⟨gb109, 1, none⟩ = some (.int .i64 a1_1) ∧ w'.cell? ⟨gb109, 2, none⟩ = some (.int .i64 a1_2)) ∧ (Kd.R k45 45 w' w.heap.size (fun k_ => some k_ ≠ (s_.2 : Value).ownBlock ∧ k_ ≠ gb109) s_.1 t110) ∧ (Kd.R k45 45 w' w.heap.size (fun k_ => some k_ ≠ (s_.1 : Value).ownBlock ∧ k_ ≠ gb109) s_.2 y113) ∧ (w'.heap[gb109]? = some (.cells #[.int .i64 a1_0, .int .i64 a1_1, .int .i64 a1_2] 45 (0, 0))) ∧ (Below w.heap.size w w')) ?_ ?_
 rotate_left
 {
 intro hCont
 refine two_ (i := 1) (j := 3) (Ni := some 8) (Nj := some 10) m4_ m5_ rfl rfl rfl rfl s2_ (by decide) (by decide) (fun K hK => ?_) (fun K hK => ?_)
 {
 skip
 refine goes_ Try.func64 s2_ rfl #[.slice A0 l0.length c0] (by rfl) rfl rfl s3_ ?_
 with_reducible refine (impl_Strike_64.calls _ _ l0 t110 _ ?side1 ?side2 A3.out).mono ?_
 (case side1 => exact y2_ (Kd.C_below HR0.out HB.out))
 (case side2 => exact HC0.out)
 rintro e w11 ⟨v111, rfl, ho0, hb⟩
 refine ⟨_, rfl, ?_⟩
 have HO112 := Aside0.mk (Kd.R_lower (Kd.R_newB ho0 (g := gb109) (o := .cells #[.int .i64 a1_0, .int .i64 a1_1, .int .i64 a1_2] 45 (0, 0)) (b1_ BK109.out)) (below_size (y1_ HB.out)))
 replace BK109 := b3_ BK109 hb
 replace HB := Aside0.mk (below_step (y1_ HB.out) hb)
 (try clear hb)
 (try clear hb2)
 (try clear hk)
 (try clear hi)
 (try clear ho0)
 refine hK.out _ _ ⟨(blk_cell BK109.out 0).trans rfl, (blk_cell BK109.out 1).trans rfl, (blk_cell BK109.out 2).trans rfl⟩ (fun hHeld => ?_)
 clear hK K
 refine norm_ (a' := ?_) ?_ ?_
 rotate_left
 {
 show Act.put _ (some 8) _ = _
 simp only [Act.put, List.setIfInBounds_toArray, List.set_cons_zero, List.set_cons_succ, i64_w, i32_w]
 rfl}
 refine one_ (i := 3) (N := some 10) m3_ rfl rfl s2_ (by decide) (fun K hK => ?_)
 refine Kd.R_lit_step k45 _ 45 ?hg (N := 10) ?hd (xs := ([(⟨a1_0, a1_1, a1_2⟩ : S45)] : List (S45))) (inner := [.int .i64 a1_0, .int .i64 a1_1, .int .i64 a1_2]) (ok := fun _ => True) (okp := fun _ => True) ?hr ?hp (fun _ hk => hk) trivial (Below.refl _ _) (Nat.le_refl _) (by simp) ?_; (case hd => rfl); (case hg => rfl); (case hr => first | (go_simp; done) | (go_simp; rfl)); (case hp => exact (Reps.c3 (show Kd.M k45 _ _ _ (⟨a1_0, a1_1, a1_2⟩ : S45) [.int .i64 a1_0, .int .i64 a1_1, .int .i64 a1_2] from (k45_mkM _ _ _ (⟨a1_0, a1_1, a1_2⟩ : S45) )) (Reps.none _ _)))
 intro v114 w12 ho13 hb hg_ hnew_
 clear hg_ hnew_
 (first | rw [← Ny113.out] at ho13 | (simp only [Int.reduceToNat] at ho13; rw [← Ny113.out] at ho13))
 have n0_ := Aside0.mk (Kd.R_elder' (b2_ HO112.out) (Kd.R_base ho13) hb)
 have n1_ := Aside0.mk (Kd.R_lower (Kd.R_newB (Kd.R_new' ho13 (Kd.R_lt (b2_ HO112.out))) (g := gb109) (o := .cells #[.int .i64 a1_0, .int .i64 a1_1, .int .i64 a1_2] 45 (0, 0)) (b1_ BK109.out)) (below_size (y1_ HB.out)))
 have n2_ := b3_ BK109 hb
 have n3_ := Aside0.mk (below_step (y1_ HB.out) hb)
 clear HO112
 clear BK109
 clear HB
 have HO112 := n0_
 have HO115 := n1_
 have BK109 := n2_
 have HB := n3_
 clear n0_ n1_ n2_ n3_
 clear hb ho13
 refine hK.out _ _ ⟨(blk_cell BK109.out 0).trans rfl, (blk_cell BK109.out 1).trans rfl, (blk_cell BK109.out 2).trans rfl⟩ (fun hHeld => ?_)
 clear hK K
 refine norm_ (a' := ?_) ?_ ?_
 rotate_left
 {
 show Act.put _ (some 10) _ = _
 simp only [Act.put, List.setIfInBounds_toArray, List.set_cons_zero, List.set_cons_succ, i64_w, i32_w]
 rfl}
 exact norm_ (by simp only [putAll, Act.put, List.setIfInBounds_toArray, List.set_cons_zero, List.set_cons_succ]) (hCont (v111, v114) _ ⟨hHeld, (by (with_reducible repeat (first | apply Kd.R_alloc | apply Kd.R_drewN | apply Kd.R_drew)); exact Kd.R_mono HO112.out (fun _ hk => ⟨hk.2, hk.1.2⟩)), (by (with_reducible repeat (first | apply Kd.R_alloc | apply Kd.R_drewN | apply Kd.R_drew)); exact Kd.R_mono HO115.out (fun _ hk => ⟨hk.1.2, hk.2⟩)), (b1_ BK109.out), (y1_ HB.out)⟩)}
 {
 skip
 refine Kd.R_lit_step k45 _ 45 ?hg (N := 10) ?hd (xs := ([(⟨a1_0, a1_1, a1_2⟩ : S45)] : List (S45))) (inner := [.int .i64 a1_0, .int .i64 a1_1, .int .i64 a1_2]) (ok := fun _ => True) (okp := fun _ => True) ?hr ?hp (fun _ hk => hk) trivial (Below.refl _ _) (Nat.le_refl _) (by simp) ?_; (case hd => rfl); (case hg => rfl); (case hr => first | (go_simp; done) | (go_simp; rfl)); (case hp => exact (Reps.c3 (show Kd.M k45 _ _ _ (⟨a1_0, a1_1, a1_2⟩ : S45) [.int .i64 a1_0, .int .i64 a1_1, .int .i64 a1_2] from (k45_mkM _ _ _ (⟨a1_0, a1_1, a1_2⟩ : S45) )) (Reps.none _ _)))
 intro v114 w11 ho12 hb hg_ hnew_
 clear hg_ hnew_
 (first | rw [← Ny113.out] at ho12 | (simp only [Int.reduceToNat] at ho12; rw [← Ny113.out] at ho12))
 have HO115 := Aside0.mk (Kd.R_lower (Kd.R_newB ho12 (g := gb109) (o := .cells #[.int .i64 a1_0, .int .i64 a1_1, .int .i64 a1_2] 45 (0, 0)) (b1_ BK109.out)) (below_size (y1_ HB.out)))
 replace BK109 := b3_ BK109 hb
 replace HB := Aside0.mk (below_step (y1_ HB.out) hb)
 clear hb ho12
 refine hK.out _ _ ⟨(blk_cell BK109.out 0).trans rfl, (blk_cell BK109.out 1).trans rfl, (blk_cell BK109.out 2).trans rfl⟩ (fun hHeld => ?_)
 clear hK K
 refine norm_ (a' := ?_) ?_ ?_
 rotate_left
 {
 show Act.put _ (some 10) _ = _
 simp only [Act.put, List.setIfInBounds_toArray, List.set_cons_zero, List.set_cons_succ, i64_w, i32_w]
 rfl}
 refine one_ (i := 1) (N := some 8) m3_ rfl rfl s2_ (by decide) (fun K hK => ?_)
 refine goes_ Try.func64 s2_ rfl #[.slice A0 l0.length c0] (by rfl) rfl rfl s3_ ?_
 with_reducible refine (impl_Strike_64.calls _ _ l0 t110 _ ?side1 ?side2 A3.out).mono ?_
 (case side1 => exact y2_ (Kd.C_below HR0.out HB.out))
 (case side2 => exact HC0.out)
 rintro e w13 ⟨v111, rfl, ho0, hb⟩
 refine ⟨_, rfl, ?_⟩
 have n0_ := Aside0.mk (Kd.R_elder' (b2_ HO115.out) (Kd.R_base ho0) hb)
 have n1_ := Aside0.mk (Kd.R_lower (Kd.R_newB (Kd.R_new' ho0 (Kd.R_lt (b2_ HO115.out))) (g := gb109) (o := .cells #[.int .i64 a1_0, .int .i64 a1_1, .int .i64 a1_2] 45 (0, 0)) (b1_ BK109.out)) (below_size (y1_ HB.out)))
 have n2_ := b3_ BK109 hb
 have n3_ := Aside0.mk (below_step (y1_ HB.out) hb)
 clear HO115
 clear BK109
 clear HB
 have HO115 := n0_
 have HO112 := n1_
 have BK109 := n2_
 have HB := n3_
 clear n0_ n1_ n2_ n3_
 (try clear hb)
 (try clear hb2)
 (try clear hk)
 (try clear hi)
 (try clear ho0)
 refine hK.out _ _ ⟨(blk_cell BK109.out 0).trans rfl, (blk_cell BK109.out 1).trans rfl, (blk_cell BK109.out 2).trans rfl⟩ (fun hHeld => ?_)
 clear hK K
 refine norm_ (a' := ?_) ?_ ?_
 rotate_left
 {
 show Act.put _ (some 8) _ = _
 simp only [Act.put, List.setIfInBounds_toArray, List.set_cons_zero, List.set_cons_succ, i64_w, i32_w]
 rfl}
 exact norm_ (by simp only [putAll, Act.put, List.setIfInBounds_toArray, List.set_cons_zero, List.set_cons_succ]) (hCont (v111, v114) _ ⟨hHeld, (by (with_reducible repeat (first | apply Kd.R_alloc | apply Kd.R_drewN | apply Kd.R_drew)); exact Kd.R_mono HO112.out (fun _ hk => ⟨hk.1.2, hk.2⟩)), (by (with_reducible repeat (first | apply Kd.R_alloc | apply Kd.R_drewN | apply Kd.R_drew)); exact Kd.R_mono HO115.out (fun _ hk => ⟨hk.2, hk.1.2⟩)), (b1_ BK109.out), (y1_ HB.out)⟩)}}
 rintro ⟨v111, v114⟩ w14 ⟨hS_, h0_, h1_, h2_, h3_⟩
 have n0_ : Aside0 (Kd.R k45 45 w14 w.heap.size (fun k_ => some k_ ≠ (v114 : Value).ownBlock ∧ k_ ≠ gb109) v111 t110) := ⟨h0_⟩
 have n1_ : Aside0 (Kd.R k45 45 w14 w.heap.size (fun k_ => some k_ ≠ (v111 : Value).ownBlock ∧ k_ ≠ gb109) v114 y113) := ⟨h1_⟩
 have n2_ : Aside0 (w14.heap[gb109]? = some (.cells #[.int .i64 a1_0, .int .i64 a1_1, .int .i64 a1_2] 45 (0, 0))) := ⟨h2_⟩
 have n3_ : Aside0 (Below w.heap.size w w14) := ⟨h3_⟩
 clear BK109
 clear HB
 clear h0_ h1_ h2_ h3_
 have HO112 := n0_
 have HO115 := n1_
 have BK109 := n2_
 have HB := n3_
 clear n0_ n1_ n2_ n3_
 have hHeld : w14.cell? ⟨gb109, 0, none⟩ = some (.int .i64 a1_0) ∧ w14.cell? ⟨gb109, 1, none⟩ = some (.int .i64 a1_1) ∧ w14.cell? ⟨gb109, 2, none⟩ = some (.int .i64 a1_2) := hS_
 obtain ⟨Ao16, co16, eo16⟩ := Kd.R_slice HO115.out
 (first | subst eo16 | (injection eo16 with f1_ f2_ f3_; have f4_ := f1_.symm; have f5_ := f3_.symm; clear f1_ f2_ f3_; subst f4_; subst f5_))
 refine norm_ (a' := ?_) ?_ ?_
 rotate_left
 {
 simp only [putAll, Act.put, List.setIfInBounds_toArray, List.set_cons_zero, List.set_cons_succ]
 rfl}
 refine one_ (i := 4) (N := some 11) m6_ rfl rfl s2_ (by decide) (fun K hK => ?_)
 refine Kd.R_append_rows_step k45 (w0 := w) w.heap.size (by rfl) (.tmp 8) (.tmp 10) 41 45 (.agg #[(.int .i64 0), (.int .i64 0), (.int .i64 0)]) 24 rfl Try.underlying41 info45 rfl (by decide) (by omega) v111 t110 y113 _ _ _ (fun k_ => some k_ ≠ (.slice Ao16 y113.length co16 : Value).ownBlock ∧ k_ ≠ gb109) (fun _ => False) rfl rfl ?aO ?aR (fun _ _ h => h) (fun _ h => h.elim) ?aF ?aB ?aS ?aL ?_
 (case aR => exact y2_ (Kd.R_reads' HO115.out).2.2)
 (case aB => exact (y1_ HB.out))
 (case aF => exact (fun k_ hk => ⟨Kd.fresh' (Kd.R_lt (b2_ HO115.out)) k_ hk, Kd.freshB (g := gb109) (o := .cells #[.int .i64 a1_0, .int .i64 a1_1, .int .i64 a1_2] 45 (0, 0)) (b1_ BK109.out) k_ hk⟩))
 (case aO => exact (b2_ HO112.out))
 (case aS => exact (below_size (y1_ HB.out)))
 (case aL => have := LMc4.out; omega)
 intro v117 w15 ho hb hg hat
 rw [← Ny116.out] at ho
 replace BK109 := Aside0.mk (blk_grown (g := gb109) (o := .cells #[.int .i64 a1_0, .int .i64 a1_1, .int .i64 a1_2] 45 (0, 0)) (b1_ BK109.out) hg (Kd.R_away HO112.out (fun _ hk => hk.2)))
 replace HO115 := Aside0.mk (Kd.R_after (ok := (fun k_ => k_ ≠ gb109)) (by (with_reducible repeat (first | apply Kd.R_alloc | apply Kd.R_drewN | apply Kd.R_drew)); exact Kd.R_mono HO115.out (fun _ hk => ⟨hk.2, hk.1⟩)) hg hat)
 replace HB := Aside0.mk (hb)
 have HO118 := Aside0.mk (ho)
 clear HO112
 clear ho hb hg hat
 refine hK.out _ _ ⟨(blk_cell BK109.out 0).trans rfl, (blk_cell BK109.out 1).trans rfl, (blk_cell BK109.out 2).trans rfl⟩ (fun hHeld => ?_)
 clear hK K
 refine norm_ (a' := ?_) ?_ ?_
 rotate_left
 {
 show Act.put _ (some 11) _ = _
 simp only [Act.put, List.setIfInBounds_toArray, List.set_cons_zero, List.set_cons_succ, i64_w, i32_w]
 rfl}
 refine pure_ (i := 5) (N := some 6) (v := ?_) (a' := ?_) m7_ rfl rfl s2_ (fun _ _ _ h => h) (Or.inl ⟨by rfl, ?_⟩) ?_ ?_
 rotate_left
 {
 intro w'
 go_simp
 with_reducible rfl}
 rotate_left
 · exact p1_
 refine done_ s2_ ?_
 try go_wp2_with (first | ((with_reducible refine gate_callee (f := 42) rfl ?_); refine goesL_ (some 13) rfl rfl Try.func42 s2_ rfl #[.slice A0 l0.length c0] rfl s3_ ?_; (with_reducible refine (impl_AreStrikes.calls k _ _ l0 true _ ?side1 ?side2 A5.out).mono ?_); (case side1 => exact y2_ (Kd.C_below HR0.out HB.out)); (case side2 => exact HC0.out); rintro e w17 ⟨rfl, hb⟩; refine ⟨_, rfl, ?_⟩; replace HO115 := r1_ HO115 hb; replace HO118 := r1_ HO118 hb; replace BK109 := b3_ BK109 hb; replace HB := Aside0.mk (below_step (y1_ HB.out) hb); (try clear hb); (try clear hb2); (try clear hk); (try clear hi); obtain ⟨Ao18, co18, eo18⟩ := Kd.R_slice HO118.out; subst eo18) | (go_at_call 42; (with_reducible refine (impl_AreStrikes.calls k _ _ y116 true _ ?side1 ?side2 A7.out).mono ?_); (case side1 => exact y2_ (Kd.R_reads' HO118.out).2.2); (case side2 => exact (Kd.R_reads' HO118.out).2.1); rintro e w19 ⟨rfl, hb⟩; replace HO115 := r1_ HO115 hb; replace HO118 := r1_ HO118 hb; replace BK109 := b3_ BK109 hb; replace HB := Aside0.mk (below_step (y1_ HB.out) hb); (try clear hb); (try clear hb2); (try clear hk); (try clear hi)))
 go_ret2
 exact ⟨_, by first | rfl | (simp [errW_none, errW_some] <;> rfl) | (simp [*, errW_none, errW_some] <;> rfl), by (with_reducible repeat (first | apply Kd.R_alloc | apply Kd.R_drewN | apply Kd.R_drew)); exact Kd.R_mono HO118.out (fun _ hk => trivial), by repeat (first | (with_reducible first | exact HB.out | apply below_alloc | apply pw_below_drewN | apply below_drew1) | exact HB.out)⟩}
 {
 replace c8 := Bool.eq_false_iff.mpr c8
 subst c8
 have H1 : (some (([] : List (S45)), false)) = some (r1, r2) := by rw [if_neg (show ¬ (false = true) by decide)] at H; exact H
 clear H
 have H := H1
 clear H1
 simp only [Option.some.injEq, Prod.mk.injEq] at H
 obtain ⟨rfl, rfl⟩ := H
 go_enter Try.func30, Try.ntmps30
 try go_wp2_with (first | ((with_reducible refine gate_dst (N := 3) rfl ?_); refine bx_ 3 #[.int .i64 a1_0, .int .i64 a1_1, .int .i64 a1_2] 45 ?_; intro gb109 hg w20 hbox hb; have GW109 := b6_ hg HB; have GE109 := b6_ hg HB; replace HB := Aside0.mk (below_step (y1_ HB.out) hb); have BK109 := Aside0.mk (hbox); clear hb hbox hg))
 replace BK109 := Aside0.mk (blk_drew BK109.out)
 replace HB := Aside0.mk (below_drew1 HB.out)
 refine start_ (n := 6) (S := fun w' => w'.cell? ⟨gb109, 0, none⟩ = some (.int .i64 a1_0) ∧ w'.cell? ⟨gb109, 1, none⟩ = some (.int .i64 a1_1) ∧ w'.cell? ⟨gb109, 2, none⟩ = some (.int .i64 a1_2)) (ds := []) m0_ s2_ rfl rfl ⟨(blk_cell BK109.out 0).trans rfl, (blk_cell BK109.out 1).trans rfl, (blk_cell BK109.out 2).trans rfl⟩ (fun hHeld => ?_)
 generalize w20.drew = w21 at BK109 HB hHeld ⊢
 refine pure_ (i := 0) (N := some 7) (v := ?_) (a' := ?_) m1_ rfl rfl s2_ (fun _ _ _ h => h) (Or.inl ⟨by rfl, ?_⟩) ?_ ?_
 rotate_left
 {
 intro w'
 go_simp
 with_reducible rfl}
 rotate_left
 · exact p1_
 refine take_ (i := 2) (N := some 9) (v := ?_) (a' := ?_) m2_ rfl rfl s2_ (fun _ _ _ h => h) (Or.inl ⟨by rfl, ?_⟩) hHeld ?_ ?_
 rotate_left
 {
 rintro w' ⟨s0, s1, s2⟩
 go_simp
 with_reducible rfl}
 rotate_left
 · exact p1_
 refine join_ (σ := Value × Value) 2 m3_ (fun s_ => [(8, s_.1), (10, s_.2)]) (fun s_ w' => (w'.cell? ⟨gb109, 0, none⟩ = some (.int .i64 a1_0) ∧ w'.cell? ⟨gb109, 1, none⟩ = some (.int .i64 a1_1) ∧ w'.cell? ⟨gb109, 2, none⟩ = some (.int .i64 a1_2)) ∧ (Kd.R k45 45 w' w.heap.size (fun k_ => some k_ ≠ (s_.2 : Value).ownBlock ∧ k_ ≠ gb109) s_.1 t110) ∧ (Kd.R k45 45 w' w.heap.size (fun k_ => some k_ ≠ (s_.1 : Value).ownBlock ∧ k_ ≠ gb109) s_.2 y113) ∧ (w'.heap[gb109]? = some (.cells #[.int .i64 a1_0, .int .i64 a1_1, .int .i64 a1_2] 45 (0, 0))) ∧ (Below w.heap.size w w')) ?_ ?_
 rotate_left
 {
 intro hCont
 refine two_ (i := 1) (j := 3) (Ni := some 8) (Nj := some 10) m4_ m5_ rfl rfl rfl rfl s2_ (by decide) (by decide) (fun K hK => ?_) (fun K hK => ?_)
 {
 skip
 refine goes_ Try.func64 s2_ rfl #[.slice A0 l0.length c0] (by rfl) rfl rfl s3_ ?_
 with_reducible refine (impl_Strike_64.calls _ _ l0 t110 _ ?side1 ?side2 A3.out).mono ?_
 (case side1 => exact y2_ (Kd.C_below HR0.out HB.out))
 (case side2 => exact HC0.out)
 rintro e w22 ⟨v111, rfl, ho0, hb⟩
 refine ⟨_, rfl, ?_⟩
 have HO112 := Aside0.mk (Kd.R_lower (Kd.R_newB ho0 (g := gb109) (o := .cells #[.int .i64 a1_0, .int .i64 a1_1, .int .i64 a1_2] 45 (0, 0)) (b1_ BK109.out)) (below_size (y1_ HB.out)))
 replace BK109 := b3_ BK109 hb
 replace HB := Aside0.mk (below_step (y1_ HB.out) hb)
 (try clear hb)
 (try clear hb2)
 (try clear hk)
 (try clear hi)
 (try clear ho0)
 refine hK.out _ _ ⟨(blk_cell BK109.out 0).trans rfl, (blk_cell BK109.out 1).trans rfl, (blk_cell BK109.out 2).trans rfl⟩ (fun hHeld => ?_)
 clear hK K
 refine norm_ (a' := ?_) ?_ ?_
 rotate_left
 {
 show Act.put _ (some 8) _ = _
 simp only [Act.put, List.setIfInBounds_toArray, List.set_cons_zero, List.set_cons_succ, i64_w, i32_w]
 rfl}
 refine one_ (i := 3) (N := some 10) m3_ rfl rfl s2_ (by decide) (fun K hK => ?_)
 refine Kd.R_lit_step k45 _ 45 ?hg (N := 10) ?hd (xs := ([(⟨a1_0, a1_1, a1_2⟩ : S45)] : List (S45))) (inner := [.int .i64 a1_0, .int .i64 a1_1, .int .i64 a1_2]) (ok := fun _ => True) (okp := fun _ => True) ?hr ?hp (fun _ hk => hk) trivial (Below.refl _ _) (Nat.le_refl _) (by simp) ?_; (case hd => rfl); (case hg => rfl); (case hr => first | (go_simp; done) | (go_simp; rfl)); (case hp => exact (Reps.c3 (show Kd.M k45 _ _ _ (⟨a1_0, a1_1, a1_2⟩ : S45) [.int .i64 a1_0, .int .i64 a1_1, .int .i64 a1_2] from (k45_mkM _ _ _ (⟨a1_0, a1_1, a1_2⟩ : S45) )) (Reps.none _ _)))
 intro v114 w23 ho24 hb hg_ hnew_
 clear hg_ hnew_
 (first | rw [← Ny113.out] at ho24 | (simp only [Int.reduceToNat] at ho24; rw [← Ny113.out] at ho24))
 have n0_ := Aside0.mk (Kd.R_elder' (b2_ HO112.out) (Kd.R_base ho24) hb)
 have n1_ := Aside0.mk (Kd.R_lower (Kd.R_newB (Kd.R_new' ho24 (Kd.R_lt (b2_ HO112.out))) (g := gb109) (o := .cells #[.int .i64 a1_0, .int .i64 a1_1, .int .i64 a1_2] 45 (0, 0)) (b1_ BK109.out)) (below_size (y1_ HB.out)))
 have n2_ := b3_ BK109 hb
 have n3_ := Aside0.mk (below_step (y1_ HB.out) hb)
 clear HO112
 clear BK109
 clear HB
 have HO112 := n0_
 have HO115 := n1_
 have BK109 := n2_
 have HB := n3_
 clear n0_ n1_ n2_ n3_
 clear hb ho24
 refine hK.out _ _ ⟨(blk_cell BK109.out 0).trans rfl, (blk_cell BK109.out 1).trans rfl, (blk_cell BK109.out 2).trans rfl⟩ (fun hHeld => ?_)
 clear hK K
 refine norm_ (a' := ?_) ?_ ?_
 rotate_left
 {
 show Act.put _ (some 10) _ = _
 simp only [Act.put, List.setIfInBounds_toArray, List.set_cons_zero, List.set_cons_succ, i64_w, i32_w]
 rfl}
 exact norm_ (by simp only [putAll, Act.put, List.setIfInBounds_toArray, List.set_cons_zero, List.set_cons_succ]) (hCont (v111, v114) _ ⟨hHeld, (by (with_reducible repeat (first | apply Kd.R_alloc | apply Kd.R_drewN | apply Kd.R_drew)); exact Kd.R_mono HO112.out (fun _ hk => ⟨hk.2, hk.1.2⟩)), (by (with_reducible repeat (first | apply Kd.R_alloc | apply Kd.R_drewN | apply Kd.R_drew)); exact Kd.R_mono HO115.out (fun _ hk => ⟨hk.1.2, hk.2⟩)), (b1_ BK109.out), (y1_ HB.out)⟩)}
 {
 skip
 refine Kd.R_lit_step k45 _ 45 ?hg (N := 10) ?hd (xs := ([(⟨a1_0, a1_1, a1_2⟩ : S45)] : List (S45))) (inner := [.int .i64 a1_0, .int .i64 a1_1, .int .i64 a1_2]) (ok := fun _ => True) (okp := fun _ => True) ?hr ?hp (fun _ hk => hk) trivial (Below.refl _ _) (Nat.le_refl _) (by simp) ?_; (case hd => rfl); (case hg => rfl); (case hr => first | (go_simp; done) | (go_simp; rfl)); (case hp => exact (Reps.c3 (show Kd.M k45 _ _ _ (⟨a1_0, a1_1, a1_2⟩ : S45) [.int .i64 a1_0, .int .i64 a1_1, .int .i64 a1_2] from (k45_mkM _ _ _ (⟨a1_0, a1_1, a1_2⟩ : S45) )) (Reps.none _ _)))
 intro v114 w22 ho23 hb hg_ hnew_
 clear hg_ hnew_
 (first | rw [← Ny113.out] at ho23 | (simp only [Int.reduceToNat] at ho23; rw [← Ny113.out] at ho23))
 have HO115 := Aside0.mk (Kd.R_lower (Kd.R_newB ho23 (g := gb109) (o := .cells #[.int .i64 a1_0, .int .i64 a1_1, .int .i64 a1_2] 45 (0, 0)) (b1_ BK109.out)) (below_size (y1_ HB.out)))
 replace BK109 := b3_ BK109 hb
 replace HB := Aside0.mk (below_step (y1_ HB.out) hb)
 clear hb ho23
 refine hK.out _ _ ⟨(blk_cell BK109.out 0).trans rfl, (blk_cell BK109.out 1).trans rfl, (blk_cell BK109.out 2).trans rfl⟩ (fun hHeld => ?_)
 clear hK K
 refine norm_ (a' := ?_) ?_ ?_
 rotate_left
 {
 show Act.put _ (some 10) _ = _
 simp only [Act.put, List.setIfInBounds_toArray, List.set_cons_zero, List.set_cons_succ, i64_w, i32_w]
 rfl}
 refine one_ (i := 1) (N := some 8) m3_ rfl rfl s2_ (by decide) (fun K hK => ?_)
 refine goes_ Try.func64 s2_ rfl #[.slice A0 l0.length c0] (by rfl) rfl rfl s3_ ?_
 with_reducible refine (impl_Strike_64.calls _ _ l0 t110 _ ?side1 ?side2 A3.out).mono ?_
 (case side1 => exact y2_ (Kd.C_below HR0.out HB.out))
 (case side2 => exact HC0.out)
 rintro e w24 ⟨v111, rfl, ho0, hb⟩
 refine ⟨_, rfl, ?_⟩
 have n0_ := Aside0.mk (Kd.R_elder' (b2_ HO115.out) (Kd.R_base ho0) hb)
 have n1_ := Aside0.mk (Kd.R_lower (Kd.R_newB (Kd.R_new' ho0 (Kd.R_lt (b2_ HO115.out))) (g := gb109) (o := .cells #[.int .i64 a1_0, .int .i64 a1_1, .int .i64 a1_2] 45 (0, 0)) (b1_ BK109.out)) (below_size (y1_ HB.out)))
 have n2_ := b3_ BK109 hb
 have n3_ := Aside0.mk (below_step (y1_ HB.out) hb)
 clear HO115
 clear BK109
 clear HB
 have HO115 := n0_
 have HO112 := n1_
 have BK109 := n2_
 have HB := n3_
 clear n0_ n1_ n2_ n3_
 (try clear hb)
 (try clear hb2)
 (try clear hk)
 (try clear hi)
 (try clear ho0)
 refine hK.out _ _ ⟨(blk_cell BK109.out 0).trans rfl, (blk_cell BK109.out 1).trans rfl, (blk_cell BK109.out 2).trans rfl⟩ (fun hHeld => ?_)
 clear hK K
 refine norm_ (a' := ?_) ?_ ?_
 rotate_left
 {
 show Act.put _ (some 8) _ = _
 simp only [Act.put, List.setIfInBounds_toArray, List.set_cons_zero, List.set_cons_succ, i64_w, i32_w]
 rfl}
 exact norm_ (by simp only [putAll, Act.put, List.setIfInBounds_toArray, List.set_cons_zero, List.set_cons_succ]) (hCont (v111, v114) _ ⟨hHeld, (by (with_reducible repeat (first | apply Kd.R_alloc | apply Kd.R_drewN | apply Kd.R_drew)); exact Kd.R_mono HO112.out (fun _ hk => ⟨hk.1.2, hk.2⟩)), (by (with_reducible repeat (first | apply Kd.R_alloc | apply Kd.R_drewN | apply Kd.R_drew)); exact Kd.R_mono HO115.out (fun _ hk => ⟨hk.2, hk.1.2⟩)), (b1_ BK109.out), (y1_ HB.out)⟩)}}
 rintro ⟨v111, v114⟩ w25 ⟨hS_, h0_, h1_, h2_, h3_⟩
 have n0_ : Aside0 (Kd.R k45 45 w25 w.heap.size (fun k_ => some k_ ≠ (v114 : Value).ownBlock ∧ k_ ≠ gb109) v111 t110) := ⟨h0_⟩
 have n1_ : Aside0 (Kd.R k45 45 w25 w.heap.size (fun k_ => some k_ ≠ (v111 : Value).ownBlock ∧ k_ ≠ gb109) v114 y113) := ⟨h1_⟩
 have n2_ : Aside0 (w25.heap[gb109]? = some (.cells #[.int .i64 a1_0, .int .i64 a1_1, .int .i64 a1_2] 45 (0, 0))) := ⟨h2_⟩
 have n3_ : Aside0 (Below w.heap.size w w25) := ⟨h3_⟩
 clear BK109
 clear HB
 clear h0_ h1_ h2_ h3_
 have HO112 := n0_
 have HO115 := n1_
 have BK109 := n2_
 have HB := n3_
 clear n0_ n1_ n2_ n3_
 have hHeld : w25.cell? ⟨gb109, 0, none⟩ = some (.int .i64 a1_0) ∧ w25.cell? ⟨gb109, 1, none⟩ = some (.int .i64 a1_1) ∧ w25.cell? ⟨gb109, 2, none⟩ = some (.int .i64 a1_2) := hS_
 obtain ⟨Ao27, co27, eo27⟩ := Kd.R_slice HO115.out
 (first | subst eo27 | (injection eo27 with f1_ f2_ f3_; have f4_ := f1_.symm; have f5_ := f3_.symm; clear f1_ f2_ f3_; subst f4_; subst f5_))
 refine norm_ (a' := ?_) ?_ ?_
 rotate_left
 {
 simp only [putAll, Act.put, List.setIfInBounds_toArray, List.set_cons_zero, List.set_cons_succ]
 rfl}
 refine one_ (i := 4) (N := some 11) m6_ rfl rfl s2_ (by decide) (fun K hK => ?_)
 refine Kd.R_append_rows_step k45 (w0 := w) w.heap.size (by rfl) (.tmp 8) (.tmp 10) 41 45 (.agg #[(.int .i64 0), (.int .i64 0), (.int .i64 0)]) 24 rfl Try.underlying41 info45 rfl (by decide) (by omega) v111 t110 y113 _ _ _ (fun k_ => some k_ ≠ (.slice Ao27 y113.length co27 : Value).ownBlock ∧ k_ ≠ gb109) (fun _ => False) rfl rfl ?aO ?aR (fun _ _ h => h) (fun _ h => h.elim) ?aF ?aB ?aS ?aL ?_
 (case aR => exact y2_ (Kd.R_reads' HO115.out).2.2)
 (case aB => exact (y1_ HB.out))
 (case aF => exact (fun k_ hk => ⟨Kd.fresh' (Kd.R_lt (b2_ HO115.out)) k_ hk, Kd.freshB (g := gb109) (o := .cells #[.int .i64 a1_0, .int .i64 a1_1, .int .i64 a1_2] 45 (0, 0)) (b1_ BK109.out) k_ hk⟩))
 (case aO => exact (b2_ HO112.out))
 (case aS => exact (below_size (y1_ HB.out)))
 (case aL => have := LMc4.out; omega)
 intro v117 w26 ho hb hg hat
 rw [← Ny116.out] at ho
 replace BK109 := Aside0.mk (blk_grown (g := gb109) (o := .cells #[.int .i64 a1_0, .int .i64 a1_1, .int .i64 a1_2] 45 (0, 0)) (b1_ BK109.out) hg (Kd.R_away HO112.out (fun _ hk => hk.2)))
 replace HO115 := Aside0.mk (Kd.R_after (ok := (fun k_ => k_ ≠ gb109)) (by (with_reducible repeat (first | apply Kd.R_alloc | apply Kd.R_drewN | apply Kd.R_drew)); exact Kd.R_mono HO115.out (fun _ hk => ⟨hk.2, hk.1⟩)) hg hat)
 replace HB := Aside0.mk (hb)
 have HO118 := Aside0.mk (ho)
 clear HO112
 clear ho hb hg hat
 refine hK.out _ _ ⟨(blk_cell BK109.out 0).trans rfl, (blk_cell BK109.out 1).trans rfl, (blk_cell BK109.out 2).trans rfl⟩ (fun hHeld => ?_)
 clear hK K
 refine norm_ (a' := ?_) ?_ ?_
 rotate_left
 {
 show Act.put _ (some 11) _ = _
 simp only [Act.put, List.setIfInBounds_toArray, List.set_cons_zero, List.set_cons_succ, i64_w, i32_w]
 rfl}
 refine pure_ (i := 5) (N := some 6) (v := ?_) (a' := ?_) m7_ rfl rfl s2_ (fun _ _ _ h => h) (Or.inl ⟨by rfl, ?_⟩) ?_ ?_
 rotate_left
 {
 intro w'
 go_simp
 with_reducible rfl}
 rotate_left
 · exact p1_
 refine done_ s2_ ?_
 try go_wp2_with (first | ((with_reducible refine gate_callee (f := 42) rfl ?_); refine goesL_ (some 13) rfl rfl Try.func42 s2_ rfl #[.slice A0 l0.length c0] rfl s3_ ?_; (with_reducible refine (impl_AreStrikes.calls k _ _ l0 true _ ?side1 ?side2 A5.out).mono ?_); (case side1 => exact y2_ (Kd.C_below HR0.out HB.out)); (case side2 => exact HC0.out); rintro e w28 ⟨rfl, hb⟩; refine ⟨_, rfl, ?_⟩; replace HO115 := r1_ HO115 hb; replace HO118 := r1_ HO118 hb; replace BK109 := b3_ BK109 hb; replace HB := Aside0.mk (below_step (y1_ HB.out) hb); (try clear hb); (try clear hb2); (try clear hk); (try clear hi); obtain ⟨Ao29, co29, eo29⟩ := Kd.R_slice HO118.out; subst eo29) | (go_at_call 42; (with_reducible refine (impl_AreStrikes.calls k _ _ y116 false _ ?side1 ?side2 A7.out).mono ?_); (case side1 => exact y2_ (Kd.R_reads' HO118.out).2.2); (case side2 => exact (Kd.R_reads' HO118.out).2.1); rintro e w30 ⟨rfl, hb⟩; replace HO115 := r1_ HO115 hb; replace HO118 := r1_ HO118 hb; replace BK109 := b3_ BK109 hb; replace HB := Aside0.mk (below_step (y1_ HB.out) hb); (try clear hb); (try clear hb2); (try clear hk); (try clear hi)))
 go_ret2
 exact ⟨_, by first | rfl | (simp [errW_none, errW_some] <;> rfl) | (simp [*, errW_none, errW_some] <;> rfl), by first | exact Kd.R_nil _ _ _ _ _ | exact Kd.N_nil _ _ _ _ _ | exact Kd.V_nil _ _ _ _ _ | exact Kd.Q_nil _ _ _ _ _ | exact Kd.S_nil _ _ _ _ _, by repeat (first | (with_reducible first | exact HB.out | apply below_alloc | apply pw_below_drewN | apply below_drew1) | exact HB.out)⟩}}
 {
 replace c6 := Bool.eq_false_iff.mpr c6
 subst c6
 have H1 : (some (([] : List (S45)), false)) = some (r1, r2) := by rw [if_neg (show ¬ (false = true) by decide)] at H; exact H
 clear H
 have H := H1
 clear H1
 simp only [Option.some.injEq, Prod.mk.injEq] at H
 obtain ⟨rfl, rfl⟩ := H
 go_enter Try.func30, Try.ntmps30
 try go_wp2_with (first | ((with_reducible refine gate_dst (N := 3) rfl ?_); refine bx_ 3 #[.int .i64 a1_0, .int .i64 a1_1, .int .i64 a1_2] 45 ?_; intro gb109 hg w31 hbox hb; have GW109 := b6_ hg HB; have GE109 := b6_ hg HB; replace HB := Aside0.mk (below_step (y1_ HB.out) hb); have BK109 := Aside0.mk (hbox); clear hb hbox hg))
 replace BK109 := Aside0.mk (blk_drew BK109.out)
 replace HB := Aside0.mk (below_drew1 HB.out)
 refine start_ (n := 6) (S := fun w' => w'.cell? ⟨gb109, 0, none⟩ = some (.int .i64 a1_0) ∧ w'.cell? ⟨gb109, 1, none⟩ = some (.int .i64 a1_1) ∧ w'.cell? ⟨gb109, 2, none⟩ = some (.int .i64 a1_2)) (ds := []) m0_ s2_ rfl rfl ⟨(blk_cell BK109.out 0).trans rfl, (blk_cell BK109.out 1).trans rfl, (blk_cell BK109.out 2).trans rfl⟩ (fun hHeld => ?_)
 generalize w31.drew = w32 at BK109 HB hHeld ⊢
 refine pure_ (i := 0) (N := some 7) (v := ?_) (a' := ?_) m1_ rfl rfl s2_ (fun _ _ _ h => h) (Or.inl ⟨by rfl, ?_⟩) ?_ ?_
 rotate_left
 {
 intro w'
 go_simp
 with_reducible rfl}
 rotate_left
 · exact p1_
 refine take_ (i := 2) (N := some 9) (v := ?_) (a' := ?_) m2_ rfl rfl s2_ (fun _ _ _ h => h) (Or.inl ⟨by rfl, ?_⟩) hHeld ?_ ?_
 rotate_left
 {
 rintro w' ⟨s0, s1, s2⟩
 go_simp
 with_reducible rfl}
 rotate_left
 · exact p1_
 refine join_ (σ := Value × Value) 2 m3_ (fun s_ => [(8, s_.1), (10, s_.2)]) (fun s_ w' => (w'.cell? ⟨gb109, 0, none⟩ = some (.int .i64 a1_0) ∧ w'.cell? ⟨gb109, 1, none⟩ = some (.int .i64 a1_1) ∧ w'.cell? ⟨gb109, 2, none⟩ = some (.int .i64 a1_2)) ∧ (Kd.R k45 45 w' w.heap.size (fun k_ => some k_ ≠ (s_.2 : Value).ownBlock ∧ k_ ≠ gb109) s_.1 t110) ∧ (Kd.R k45 45 w' w.heap.size (fun k_ => some k_ ≠ (s_.1 : Value).ownBlock ∧ k_ ≠ gb109) s_.2 y113) ∧ (w'.heap[gb109]? = some (.cells #[.int .i64 a1_0, .int .i64 a1_1, .int .i64 a1_2] 45 (0, 0))) ∧ (Below w.heap.size w w')) ?_ ?_
 rotate_left
 {
 intro hCont
 refine two_ (i := 1) (j := 3) (Ni := some 8) (Nj := some 10) m4_ m5_ rfl rfl rfl rfl s2_ (by decide) (by decide) (fun K hK => ?_) (fun K hK => ?_)
 {
 skip
 refine goes_ Try.func64 s2_ rfl #[.slice A0 l0.length c0] (by rfl) rfl rfl s3_ ?_
 with_reducible refine (impl_Strike_64.calls _ _ l0 t110 _ ?side1 ?side2 A3.out).mono ?_
 (case side1 => exact y2_ (Kd.C_below HR0.out HB.out))
 (case side2 => exact HC0.out)
 rintro e w33 ⟨v111, rfl, ho0, hb⟩
 refine ⟨_, rfl, ?_⟩
 have HO112 := Aside0.mk (Kd.R_lower (Kd.R_newB ho0 (g := gb109) (o := .cells #[.int .i64 a1_0, .int .i64 a1_1, .int .i64 a1_2] 45 (0, 0)) (b1_ BK109.out)) (below_size (y1_ HB.out)))
 replace BK109 := b3_ BK109 hb
 replace HB := Aside0.mk (below_step (y1_ HB.out) hb)
 (try clear hb)
 (try clear hb2)
 (try clear hk)
 (try clear hi)
 (try clear ho0)
 refine hK.out _ _ ⟨(blk_cell BK109.out 0).trans rfl, (blk_cell BK109.out 1).trans rfl, (blk_cell BK109.out 2).trans rfl⟩ (fun hHeld => ?_)
 clear hK K
 refine norm_ (a' := ?_) ?_ ?_
 rotate_left
 {
 show Act.put _ (some 8) _ = _
 simp only [Act.put, List.setIfInBounds_toArray, List.set_cons_zero, List.set_cons_succ, i64_w, i32_w]
 rfl}
 refine one_ (i := 3) (N := some 10) m3_ rfl rfl s2_ (by decide) (fun K hK => ?_)
 refine Kd.R_lit_step k45 _ 45 ?hg (N := 10) ?hd (xs := ([(⟨a1_0, a1_1, a1_2⟩ : S45)] : List (S45))) (inner := [.int .i64 a1_0, .int .i64 a1_1, .int .i64 a1_2]) (ok := fun _ => True) (okp := fun _ => True) ?hr ?hp (fun _ hk => hk) trivial (Below.refl _ _) (Nat.le_refl _) (by simp) ?_; (case hd => rfl); (case hg => rfl); (case hr => first | (go_simp; done) | (go_simp; rfl)); (case hp => exact (Reps.c3 (show Kd.M k45 _ _ _ (⟨a1_0, a1_1, a1_2⟩ : S45) [.int .i64 a1_0, .int .i64 a1_1, .int .i64 a1_2] from (k45_mkM _ _ _ (⟨a1_0, a1_1, a1_2⟩ : S45) )) (Reps.none _ _)))
 intro v114 w34 ho35 hb hg_ hnew_
 clear hg_ hnew_
 (first | rw [← Ny113.out] at ho35 | (simp only [Int.reduceToNat] at ho35; rw [← Ny113.out] at ho35))
 have n0_ := Aside0.mk (Kd.R_elder' (b2_ HO112.out) (Kd.R_base ho35) hb)
 have n1_ := Aside0.mk (Kd.R_lower (Kd.R_newB (Kd.R_new' ho35 (Kd.R_lt (b2_ HO112.out))) (g := gb109) (o := .cells #[.int .i64 a1_0, .int .i64 a1_1, .int .i64 a1_2] 45 (0, 0)) (b1_ BK109.out)) (below_size (y1_ HB.out)))
 have n2_ := b3_ BK109 hb
 have n3_ := Aside0.mk (below_step (y1_ HB.out) hb)
 clear HO112
 clear BK109
 clear HB
 have HO112 := n0_
 have HO115 := n1_
 have BK109 := n2_
 have HB := n3_
 clear n0_ n1_ n2_ n3_
 clear hb ho35
 refine hK.out _ _ ⟨(blk_cell BK109.out 0).trans rfl, (blk_cell BK109.out 1).trans rfl, (blk_cell BK109.out 2).trans rfl⟩ (fun hHeld => ?_)
 clear hK K
 refine norm_ (a' := ?_) ?_ ?_
 rotate_left
 {
 show Act.put _ (some 10) _ = _
 simp only [Act.put, List.setIfInBounds_toArray, List.set_cons_zero, List.set_cons_succ, i64_w, i32_w]
 rfl}
 exact norm_ (by simp only [putAll, Act.put, List.setIfInBounds_toArray, List.set_cons_zero, List.set_cons_succ]) (hCont (v111, v114) _ ⟨hHeld, (by (with_reducible repeat (first | apply Kd.R_alloc | apply Kd.R_drewN | apply Kd.R_drew)); exact Kd.R_mono HO112.out (fun _ hk => ⟨hk.2, hk.1.2⟩)), (by (with_reducible repeat (first | apply Kd.R_alloc | apply Kd.R_drewN | apply Kd.R_drew)); exact Kd.R_mono HO115.out (fun _ hk => ⟨hk.1.2, hk.2⟩)), (b1_ BK109.out), (y1_ HB.out)⟩)}
 {
 skip
 refine Kd.R_lit_step k45 _ 45 ?hg (N := 10) ?hd (xs := ([(⟨a1_0, a1_1, a1_2⟩ : S45)] : List (S45))) (inner := [.int .i64 a1_0, .int .i64 a1_1, .int .i64 a1_2]) (ok := fun _ => True) (okp := fun _ => True) ?hr ?hp (fun _ hk => hk) trivial (Below.refl _ _) (Nat.le_refl _) (by simp) ?_; (case hd => rfl); (case hg => rfl); (case hr => first | (go_simp; done) | (go_simp; rfl)); (case hp => exact (Reps.c3 (show Kd.M k45 _ _ _ (⟨a1_0, a1_1, a1_2⟩ : S45) [.int .i64 a1_0, .int .i64 a1_1, .int .i64 a1_2] from (k45_mkM _ _ _ (⟨a1_0, a1_1, a1_2⟩ : S45) )) (Reps.none _ _)))
 intro v114 w33 ho34 hb hg_ hnew_
 clear hg_ hnew_
 (first | rw [← Ny113.out] at ho34 | (simp only [Int.reduceToNat] at ho34; rw [← Ny113.out] at ho34))
 have HO115 := Aside0.mk (Kd.R_lower (Kd.R_newB ho34 (g := gb109) (o := .cells #[.int .i64 a1_0, .int .i64 a1_1, .int .i64 a1_2] 45 (0, 0)) (b1_ BK109.out)) (below_size (y1_ HB.out)))
 replace BK109 := b3_ BK109 hb
 replace HB := Aside0.mk (below_step (y1_ HB.out) hb)
 clear hb ho34
 refine hK.out _ _ ⟨(blk_cell BK109.out 0).trans rfl, (blk_cell BK109.out 1).trans rfl, (blk_cell BK109.out 2).trans rfl⟩ (fun hHeld => ?_)
 clear hK K
 refine norm_ (a' := ?_) ?_ ?_
 rotate_left
 {
 show Act.put _ (some 10) _ = _
 simp only [Act.put, List.setIfInBounds_toArray, List.set_cons_zero, List.set_cons_succ, i64_w, i32_w]
 rfl}
 refine one_ (i := 1) (N := some 8) m3_ rfl rfl s2_ (by decide) (fun K hK => ?_)
 refine goes_ Try.func64 s2_ rfl #[.slice A0 l0.length c0] (by rfl) rfl rfl s3_ ?_
 with_reducible refine (impl_Strike_64.calls _ _ l0 t110 _ ?side1 ?side2 A3.out).mono ?_
 (case side1 => exact y2_ (Kd.C_below HR0.out HB.out))
 (case side2 => exact HC0.out)
 rintro e w35 ⟨v111, rfl, ho0, hb⟩
 refine ⟨_, rfl, ?_⟩
 have n0_ := Aside0.mk (Kd.R_elder' (b2_ HO115.out) (Kd.R_base ho0) hb)
 have n1_ := Aside0.mk (Kd.R_lower (Kd.R_newB (Kd.R_new' ho0 (Kd.R_lt (b2_ HO115.out))) (g := gb109) (o := .cells #[.int .i64 a1_0, .int .i64 a1_1, .int .i64 a1_2] 45 (0, 0)) (b1_ BK109.out)) (below_size (y1_ HB.out)))
 have n2_ := b3_ BK109 hb
 have n3_ := Aside0.mk (below_step (y1_ HB.out) hb)
 clear HO115
 clear BK109
 clear HB
 have HO115 := n0_
 have HO112 := n1_
 have BK109 := n2_
 have HB := n3_
 clear n0_ n1_ n2_ n3_
 (try clear hb)
 (try clear hb2)
 (try clear hk)
 (try clear hi)
 (try clear ho0)
 refine hK.out _ _ ⟨(blk_cell BK109.out 0).trans rfl, (blk_cell BK109.out 1).trans rfl, (blk_cell BK109.out 2).trans rfl⟩ (fun hHeld => ?_)
 clear hK K
 refine norm_ (a' := ?_) ?_ ?_
 rotate_left
 {
 show Act.put _ (some 8) _ = _
 simp only [Act.put, List.setIfInBounds_toArray, List.set_cons_zero, List.set_cons_succ, i64_w, i32_w]
 rfl}
 exact norm_ (by simp only [putAll, Act.put, List.setIfInBounds_toArray, List.set_cons_zero, List.set_cons_succ]) (hCont (v111, v114) _ ⟨hHeld, (by (with_reducible repeat (first | apply Kd.R_alloc | apply Kd.R_drewN | apply Kd.R_drew)); exact Kd.R_mono HO112.out (fun _ hk => ⟨hk.1.2, hk.2⟩)), (by (with_reducible repeat (first | apply Kd.R_alloc | apply Kd.R_drewN | apply Kd.R_drew)); exact Kd.R_mono HO115.out (fun _ hk => ⟨hk.2, hk.1.2⟩)), (b1_ BK109.out), (y1_ HB.out)⟩)}}
 rintro ⟨v111, v114⟩ w36 ⟨hS_, h0_, h1_, h2_, h3_⟩
 have n0_ : Aside0 (Kd.R k45 45 w36 w.heap.size (fun k_ => some k_ ≠ (v114 : Value).ownBlock ∧ k_ ≠ gb109) v111 t110) := ⟨h0_⟩
 have n1_ : Aside0 (Kd.R k45 45 w36 w.heap.size (fun k_ => some k_ ≠ (v111 : Value).ownBlock ∧ k_ ≠ gb109) v114 y113) := ⟨h1_⟩
 have n2_ : Aside0 (w36.heap[gb109]? = some (.cells #[.int .i64 a1_0, .int .i64 a1_1, .int .i64 a1_2] 45 (0, 0))) := ⟨h2_⟩
 have n3_ : Aside0 (Below w.heap.size w w36) := ⟨h3_⟩
 clear BK109
 clear HB
 clear h0_ h1_ h2_ h3_
 have HO112 := n0_
 have HO115 := n1_
 have BK109 := n2_
 have HB := n3_
 clear n0_ n1_ n2_ n3_
 have hHeld : w36.cell? ⟨gb109, 0, none⟩ = some (.int .i64 a1_0) ∧ w36.cell? ⟨gb109, 1, none⟩ = some (.int .i64 a1_1) ∧ w36.cell? ⟨gb109, 2, none⟩ = some (.int .i64 a1_2) := hS_
 obtain ⟨Ao38, co38, eo38⟩ := Kd.R_slice HO115.out
 (first | subst eo38 | (injection eo38 with f1_ f2_ f3_; have f4_ := f1_.symm; have f5_ := f3_.symm; clear f1_ f2_ f3_; subst f4_; subst f5_))
 refine norm_ (a' := ?_) ?_ ?_
 rotate_left
 {
 simp only [putAll, Act.put, List.setIfInBounds_toArray, List.set_cons_zero, List.set_cons_succ]
 rfl}
 refine one_ (i := 4) (N := some 11) m6_ rfl rfl s2_ (by decide) (fun K hK => ?_)
 refine Kd.R_append_rows_step k45 (w0 := w) w.heap.size (by rfl) (.tmp 8) (.tmp 10) 41 45 (.agg #[(.int .i64 0), (.int .i64 0), (.int .i64 0)]) 24 rfl Try.underlying41 info45 rfl (by decide) (by omega) v111 t110 y113 _ _ _ (fun k_ => some k_ ≠ (.slice Ao38 y113.length co38 : Value).ownBlock ∧ k_ ≠ gb109) (fun _ => False) rfl rfl ?aO ?aR (fun _ _ h => h) (fun _ h => h.elim) ?aF ?aB ?aS ?aL ?_
 (case aR => exact y2_ (Kd.R_reads' HO115.out).2.2)
 (case aB => exact (y1_ HB.out))
 (case aF => exact (fun k_ hk => ⟨Kd.fresh' (Kd.R_lt (b2_ HO115.out)) k_ hk, Kd.freshB (g := gb109) (o := .cells #[.int .i64 a1_0, .int .i64 a1_1, .int .i64 a1_2] 45 (0, 0)) (b1_ BK109.out) k_ hk⟩))
 (case aO => exact (b2_ HO112.out))
 (case aS => exact (below_size (y1_ HB.out)))
 (case aL => have := LMc4.out; omega)
 intro v117 w37 ho hb hg hat
 rw [← Ny116.out] at ho
 replace BK109 := Aside0.mk (blk_grown (g := gb109) (o := .cells #[.int .i64 a1_0, .int .i64 a1_1, .int .i64 a1_2] 45 (0, 0)) (b1_ BK109.out) hg (Kd.R_away HO112.out (fun _ hk => hk.2)))
 replace HO115 := Aside0.mk (Kd.R_after (ok := (fun k_ => k_ ≠ gb109)) (by (with_reducible repeat (first | apply Kd.R_alloc | apply Kd.R_drewN | apply Kd.R_drew)); exact Kd.R_mono HO115.out (fun _ hk => ⟨hk.2, hk.1⟩)) hg hat)
 replace HB := Aside0.mk (hb)
 have HO118 := Aside0.mk (ho)
 clear HO112
 clear ho hb hg hat
 refine hK.out _ _ ⟨(blk_cell BK109.out 0).trans rfl, (blk_cell BK109.out 1).trans rfl, (blk_cell BK109.out 2).trans rfl⟩ (fun hHeld => ?_)
 clear hK K
 refine norm_ (a' := ?_) ?_ ?_
 rotate_left
 {
 show Act.put _ (some 11) _ = _
 simp only [Act.put, List.setIfInBounds_toArray, List.set_cons_zero, List.set_cons_succ, i64_w, i32_w]
 rfl}
 refine pure_ (i := 5) (N := some 6) (v := ?_) (a' := ?_) m7_ rfl rfl s2_ (fun _ _ _ h => h) (Or.inl ⟨by rfl, ?_⟩) ?_ ?_
 rotate_left
 {
 intro w'
 go_simp
 with_reducible rfl}
 rotate_left
 · exact p1_
 refine done_ s2_ ?_
 try go_wp2_with (first | ((with_reducible refine gate_callee (f := 42) rfl ?_); refine goesL_ (some 13) rfl rfl Try.func42 s2_ rfl #[.slice A0 l0.length c0] rfl s3_ ?_; (with_reducible refine (impl_AreStrikes.calls k _ _ l0 false _ ?side1 ?side2 A5.out).mono ?_); (case side1 => exact y2_ (Kd.C_below HR0.out HB.out)); (case side2 => exact HC0.out); rintro e w39 ⟨rfl, hb⟩; refine ⟨_, rfl, ?_⟩; replace HO115 := r1_ HO115 hb; replace HO118 := r1_ HO118 hb; replace BK109 := b3_ BK109 hb; replace HB := Aside0.mk (below_step (y1_ HB.out) hb); (try clear hb); (try clear hb2); (try clear hk); (try clear hi)))
 go_ret2
 exact ⟨_, by first | rfl | (simp [errW_none, errW_some] <;> rfl) | (simp [*, errW_none, errW_some] <;> rfl), by first | exact Kd.R_nil _ _ _ _ _ | exact Kd.N_nil _ _ _ _ _ | exact Kd.V_nil _ _ _ _ _ | exact Kd.Q_nil _ _ _ _ _ | exact Kd.S_nil _ _ _ _ _, by repeat (first | (with_reducible first | exact HB.out | apply below_alloc | apply pw_below_drewN | apply below_drew1) | exact HB.out)⟩}}
 {
 rw [if_neg c4] at H
 exact absurd H (by simp)}

/-! ### impl_ForgiveOld_1_v2: function 69 -/
def impl_ForgiveOld_1_v2.f (a0_0 : Int) (a0_1 : Int) (a0_2 : Int) (a1_0 : Int) : Option (Bool) := some (decide (a0_2 < a1_0))
set_option maxHeartbeats 8000000 in
set_option maxRecDepth 100000 in
theorem impl_ForgiveOld_1_v2.calls (a0_0 : Int) (a0_1 : Int) (a0_2 : Int) (g1_ : Nat) (a1_0 : Int) (r : Bool) (w : World) (hbk1 : w.heap[g1_]? = some (.cells #[.int .i64 a1_0] 2 (0, 0))) (h : impl_ForgiveOld_1_v2.f a0_0 a0_1 a0_2 a1_0 = some r) :
    Calls Try.prog 69 #[.agg #[.int .i64 a0_0, .int .i64 a0_1, .int .i64 a0_2], .pointer (some ⟨g1_, 0, none⟩)] w fun e w' => e = .returned (.bool r) ∧ Below w.heap.size w w' := by
  have hu45 := Try.underlying45
  have BK1 := Aside0.mk hbk1
  clear hbk1
  have HB := Aside0.mk (Below.refl w.heap.size w)
  have H : (some (decide (a0_2 < a1_0))) = some r := h
  clear h
  obtain rfl := Option.some.inj H
  go_enter Try.func69, Try.ntmps69
  go_wp2_with (first | ((with_reducible refine gate_dst (N := 2) rfl ?_); refine box_event ?hg (N := 2) ?hd (cs := #[.int .i64 a0_0, .int .i64 a0_1, .int .i64 a0_2]) (t := 45) ?hr ?_; (case hd => rfl); (case hg => rfl); (case hr => first | (go_simp; done) | (go_simp; rfl)); intro gb121 hg w3 hbox hb; have GW121 := Aside0.mk ((by rw [hg]; exact (below_size (by repeat (first | (with_reducible first | exact HB.out | apply below_alloc | apply pw_below_drewN | apply below_drew1) | exact HB.out))) : w.heap.size ≤ gb121)); have GE121 := Aside0.mk ((by rw [hg]; exact (below_size (by repeat (first | (with_reducible first | exact HB.out | apply below_alloc | apply pw_below_drewN | apply below_drew1) | exact HB.out))) : w.heap.size ≤ gb121)); have NB1_121 := Aside0.mk ((by rw [hg]; exact Nat.ne_of_lt (blk_lt (g := g1_) (o := .cells #[.int .i64 a1_0] 2 (0, 0)) (by (with_reducible repeat (first | refine blk_drewN ?_ _ | refine blk_drew ?_ | refine blk_alloc ?_ _)); exact BK1.out)) : g1_ ≠ gb121)); have NB121_1 := Aside0.mk ((by rw [hg]; exact Nat.ne_of_gt (blk_lt (g := g1_) (o := .cells #[.int .i64 a1_0] 2 (0, 0)) (by (with_reducible repeat (first | refine blk_drewN ?_ _ | refine blk_drew ?_ | refine blk_alloc ?_ _)); exact BK1.out)) : gb121 ≠ g1_)); replace BK1 := Aside0.mk (blk_below (g := g1_) (o := .cells #[.int .i64 a1_0] 2 (0, 0)) (by (with_reducible repeat (first | refine blk_drewN ?_ _ | refine blk_drew ?_ | refine blk_alloc ?_ _)); exact BK1.out) hb); replace HB := Aside0.mk (below_step (by repeat (first | (with_reducible first | exact HB.out | apply below_alloc | apply pw_below_drewN | apply below_drew1) | exact HB.out)) hb); have BK121 := Aside0.mk (hbox); clear hb hbox hg; have hnb4 := NB121_1.out; have hnc4 := NB1_121.out; have hcz5_0 : w3.cell? ⟨gb121, 0, none⟩ = some (.int .i64 a0_0) := (blk_cell BK121.out 0).trans rfl; have hcz5_1 : w3.cell? ⟨gb121, 1, none⟩ = some (.int .i64 a0_1) := (blk_cell BK121.out 1).trans rfl; have hcz5_2 : w3.cell? ⟨gb121, 2, none⟩ = some (.int .i64 a0_2) := (blk_cell BK121.out 2).trans rfl; have hfz5_0 := blk_frozen BK121.out 0; have hfz5_1 := blk_frozen BK121.out 1; have hfz5_2 := blk_frozen BK121.out 2; have hcz6_0 : w3.cell? ⟨g1_, 0, none⟩ = some (.int .i64 a1_0) := (blk_cell BK1.out 0).trans rfl; have hfz6_0 := blk_frozen BK1.out 0))
  go_ret
  exact ⟨by first | rfl | (simp [errW_none, errW_some] <;> rfl) | (simp [*, errW_none, errW_some] <;> rfl), by repeat (first | (with_reducible first | exact HB.out | apply below_alloc | apply pw_below_drewN | apply below_drew1) | exact HB.out)⟩

/-! ### impl_Strike_v1: function 98 -/
def impl_Strike_v1.l0 : Nat → List (S45) → Int → Int → Int → Option (Int)
  | 0, _, _, _, _ => none
  | k + 1, x0, x7, x8, x65000 => if x8 < x7 then (if 0 ≤ x8 then (if x8 < (x0.length : Int) then ((impl_ForgiveOld_1_v2.f ((rd_T45 x0 x8).f0) ((rd_T45 x0 x8).f1) ((rd_T45 x0 x8).f2) x65000).bind fun t123 => (if t123 = true then (some x8) else (impl_Strike_v1.l0 k x0 x7 (wrap64 (x8 + 1)) x65000))) else (none)) else (none)) else (some (-1))
def impl_Strike_v1.f (k : Nat) (l0 : List (S45)) (a1_0 : Int) : Option (Int) := impl_Strike_v1.l0 k l0 (l0.length : Int) 0 a1_0
theorem impl_Strike_v1.mono_l : ∀ k, (∀ y0 y1 y2 y3, LeO (impl_Strike_v1.l0 k y0 y1 y2 y3) (impl_Strike_v1.l0 (k + 1) y0 y1 y2 y3))
  | 0 => fun _ _ _ _ r h => by simp [impl_Strike_v1.l0] at h
  | k + 1 => by
    have ih0 := impl_Strike_v1.mono_l k
    · intro y0 y1 y2 y3
      unfold impl_Strike_v1.l0
      repeat' first
      | (with_reducible exact ih0 _ _ _ _)
      | (with_reducible exact LeO.refl _)
      | (with_reducible exact LeO.none _)
      | (with_reducible refine LeO.ite ?_ ?_)
      | (with_reducible refine LeO.bind ?_ (fun _ => ?_))
      | exact ih0 _ _ _ _
      | exact LeO.none _
      | refine LeO.ite ?_ ?_
      | refine LeO.bind ?_ (fun _ => ?_)
theorem impl_Strike_v1.mono : ∀ a0 a1 k, LeO (impl_Strike_v1.f k a0 a1) (impl_Strike_v1.f (k + 1) a0 a1) := by
  intro a0 a1 k
  have ih0 := impl_Strike_v1.mono_l k
  unfold impl_Strike_v1.f
  repeat' first
      | (with_reducible exact ih0 _ _ _ _)
      | (with_reducible exact LeO.refl _)
      | (with_reducible exact LeO.none _)
      | (with_reducible refine LeO.ite ?_ ?_)
      | (with_reducible refine LeO.bind ?_ (fun _ => ?_))
      | exact ih0 _ _ _ _
      | exact LeO.none _
      | refine LeO.ite ?_ ?_
      | refine LeO.bind ?_ (fun _ => ?_)
set_option maxHeartbeats 8000000 in
set_option maxRecDepth 100000 in
theorem impl_Strike_v1.calls (k : Nat) (A0 : Option Addr) (c0 : Nat) (l0 : List (S45)) (g1_0_ : Nat) (a1_0 : Int) (r : Int) (w : World) (hbk1_0 : w.heap[g1_0_]? = some (.cells #[.int .i64 a1_0] 2 (0, 0))) (hr0 : Kd.C k45 w A0 l0.length l0) (hc0 : l0.length ≤ c0) (h : impl_Strike_v1.f k l0 a1_0 = some r) :
    Calls Try.prog 98 #[.slice A0 l0.length c0, .func (.func 69) #[] #[.pointer (some ⟨g1_0_, 0, none⟩)]] w fun e w' => e = .returned (.int .i64 r) ∧ Below w.heap.size w w' := by
  have hu45 := Try.underlying45
  have HR0 := Aside0.mk hr0
  have HC0 := Aside0.mk hc0
  clear hr0 hc0
  have BK64 := Aside0.mk hbk1_0
  clear hbk1_0
  have HB := Aside0.mk (Below.refl w.heap.size w)
  have H : (impl_Strike_v1.l0 k l0 (l0.length : Int) 0 a1_0) = some r := h
  clear h
  have H' := Aside0.mk H
  clear H
  go_enter Try.func98, Try.ntmps98
  go_wp2
  go_loopg [8] k (fun kq v8 w' => ∃ (x8_1 : Int), v8 = .int .i64 x8_1 ∧ Aside0 (impl_Strike_v1.l0 kq l0 (l0.length : Int) x8_1 a1_0 = some r) ∧ Aside0 (kq ≤ k) ∧ Aside0 (w'.heap[g1_0_]? = some (.cells #[.int .i64 a1_0] 2 (0, 0))) ∧ Aside0 (Below w.heap.size w w'))
  case atStart => exact ⟨(0), (by first | rfl | (simp; done) | (simp [*]; done)), H', ⟨Nat.le_refl _⟩, ⟨by (with_reducible repeat (first | refine blk_drewN ?_ _ | refine blk_drew ?_ | refine blk_alloc ?_ _)); exact BK64.out⟩, ⟨by repeat (first | (with_reducible first | exact HB.out | apply below_alloc | apply pw_below_drewN | apply below_drew1) | exact HB.out)⟩⟩
  case round =>
    clear H'
    try clear p2
    obtain ⟨x8_1, rfl, HA, HK1, BK64, HB⟩ := hrel
    cases gk with
    | zero => exact absurd HA.out (by simp [impl_Strike_v1.l0])
    | succ k1 =>
      have H := HA.out
      clear HA
      simp only [impl_Strike_v1.l0] at H
      by_cases c3 : x8_1 < (l0.length : Int)
      · rw [if_pos c3] at H
        have c3b0 : decide (x8_1 < (l0.length : Int)) = true := decide_eq_true c3
        clear c3
        by_cases c4 : 0 ≤ x8_1
        · rw [if_pos c4] at H
          have c4b0 : decide (0 ≤ x8_1) = true := decide_eq_true c4
          clear c4
          by_cases c5 : x8_1 < (l0.length : Int)
          · rw [if_pos c5] at H
            have c5b0 : decide (x8_1 < (l0.length : Int)) = true := decide_eq_true c5
            clear c5
            replace H := Option.bind_eq_some_iff.mp H
            obtain ⟨t123, A60, H⟩ := H
            replace H : (if t123 = true then (some x8_1) else (impl_Strike_v1.l0 k1 l0 (l0.length : Int) (wrap64 (x8_1 + 1)) a1_0)) = some r := H
            have A6 := Aside0.mk A60
            clear A60
            by_cases c7 : t123 = true
            · subst c7
              have H1 : (some x8_1) = some r := by rw [if_pos rfl] at H; exact H
              clear H
              have H := H1
              clear H1
              obtain rfl := Option.some.inj H
              have p122 : 0 ≤ (x8_1 : Int) := of_decide_eq_true (by first | (with_reducible assumption) | assumption)
              have q122 : x8_1 < (l0.length : Int) := of_decide_eq_true (by first | (with_reducible assumption) | assumption)
              obtain ⟨ad122, e122, hx122_0, hx122_1, hx122_2⟩ := at_T45 HR0.out x8_1 p122 q122
              cases e122
              replace hx122_0 := (HB.out.cell (World.block_lt_of_cell? w _ hx122_0)).trans hx122_0
              replace hx122_1 := (HB.out.cell (World.block_lt_of_cell? w _ hx122_1)).trans hx122_1
              replace hx122_2 := (HB.out.cell (World.block_lt_of_cell? w _ hx122_2)).trans hx122_2
              replace p122 := eq_true p122
              replace q122 := eq_true q122
              go_wp2_with (first | (go_at_call 69; (with_reducible refine (impl_ForgiveOld_1_v2.calls ((rd_T45 l0 x8_1).f0) ((rd_T45 l0 x8_1).f1) ((rd_T45 l0 x8_1).f2) g1_0_ a1_0 true _ ?side1 A6.out).mono ?_); (case side1 => exact (by (with_reducible repeat (first | refine blk_drewN ?_ _ | refine blk_drew ?_ | refine blk_alloc ?_ _)); exact BK64.out)); rintro e w8 ⟨rfl, hb⟩; replace BK64 := Aside0.mk (blk_below (g := g1_0_) (o := .cells #[.int .i64 a1_0] 2 (0, 0)) (by (with_reducible repeat (first | refine blk_drewN ?_ _ | refine blk_drew ?_ | refine blk_alloc ?_ _)); exact BK64.out) hb); replace HB := Aside0.mk (below_step (by repeat (first | (with_reducible first | exact HB.out | apply below_alloc | apply pw_below_drewN | apply below_drew1) | exact HB.out)) hb); (try clear hb); (try clear hb2); (try clear hk); (try clear hi)))
              go_ret
              exact ⟨by first | rfl | (simp [errW_none, errW_some] <;> rfl) | (simp [*, errW_none, errW_some] <;> rfl), by repeat (first | (with_reducible first | exact HB.out | apply below_alloc | apply pw_below_drewN | apply below_drew1) | exact HB.out)⟩
            · replace c7 := Bool.eq_false_iff.mpr c7
              subst c7
              have H1 : (impl_Strike_v1.l0 k1 l0 (l0.length : Int) (wrap64 (x8_1 + 1)) a1_0) = some r := by rw [if_neg (show ¬ (false = true) by decide)] at H; exact H
              clear H
              have H := H1
              clear H1
              have H' := Aside0.mk H
              clear H
              have p122 : 0 ≤ (x8_1 : Int) := of_decide_eq_true (by first | (with_reducible assumption) | assumption)
              have q122 : x8_1 < (l0.length : Int) := of_decide_eq_true (by first | (with_reducible assumption) | assumption)
              obtain ⟨ad122, e122, hx122_0, hx122_1, hx122_2⟩ := at_T45 HR0.out x8_1 p122 q122
              cases e122
              replace hx122_0 := (HB.out.cell (World.block_lt_of_cell? w _ hx122_0)).trans hx122_0
              replace hx122_1 := (HB.out.cell (World.block_lt_of_cell? w _ hx122_1)).trans hx122_1
              replace hx122_2 := (HB.out.cell (World.block_lt_of_cell? w _ hx122_2)).trans hx122_2
              replace p122 := eq_true p122
              replace q122 := eq_true q122
              go_wp2_with (first | (go_at_call 69; (with_reducible refine (impl_ForgiveOld_1_v2.calls ((rd_T45 l0 x8_1).f0) ((rd_T45 l0 x8_1).f1) ((rd_T45 l0 x8_1).f2) g1_0_ a1_0 false _ ?side1 A6.out).mono ?_); (case side1 => exact (by (with_reducible repeat (first | refine blk_drewN ?_ _ | refine blk_drew ?_ | refine blk_alloc ?_ _)); exact BK64.out)); rintro e w9 ⟨rfl, hb⟩; replace BK64 := Aside0.mk (blk_below (g := g1_0_) (o := .cells #[.int .i64 a1_0] 2 (0, 0)) (by (with_reducible repeat (first | refine blk_drewN ?_ _ | refine blk_drew ?_ | refine blk_alloc ?_ _)); exact BK64.out) hb); replace HB := Aside0.mk (below_step (by repeat (first | (with_reducible first | exact HB.out | apply below_alloc | apply pw_below_drewN | apply below_drew1) | exact HB.out)) hb); (try clear hb); (try clear hb2); (try clear hk); (try clear hi)))
              go_roundg k1
              case measure => have := HK1.out; omega
              case rel => exact ⟨(wrap64 (x8_1 + 1)), (by first | rfl | (simp; done) | (simp [*]; done)), H', ⟨by have := HK1.out; omega⟩, ⟨by (with_reducible repeat (first | refine blk_drewN ?_ _ | refine blk_drew ?_ | refine blk_alloc ?_ _)); exact BK64.out⟩, ⟨by repeat (first | (with_reducible first | exact HB.out | apply below_alloc | apply pw_below_drewN | apply below_drew1) | exact HB.out)⟩⟩
          · rw [if_neg c5] at H
            exact absurd H (by simp)
        · rw [if_neg c4] at H
          exact absurd H (by simp)
      · rw [if_neg c3] at H
        have c3b0 : decide (x8_1 < (l0.length : Int)) = false := decide_eq_false c3
        clear c3
        obtain rfl := Option.some.inj H
        go_wp2
        go_ret
        exact ⟨by first | rfl | (simp [errW_none, errW_some] <;> rfl) | (simp [*, errW_none, errW_some] <;> rfl), by repeat (first | (with_reducible first | exact HB.out | apply below_alloc | apply pw_below_drewN | apply below_drew1) | exact HB.out)⟩

end Go.Proofs.Ytjfaepolmllejaa.QFnStrikes
