-- written by a program of this session, on the lines of the kit's print
import Derived.Test.YtgfilednbllkmaaQFnExactStartTypingx0
import Derived.Test.YtgfilednbllkmaaQFnExactStartTypingx3
namespace Go.Proofs.Ytgfilednbllkmaa.QFnExactStartTyping
open Go.RowKit Go.Proofs.YtgfilednbllkmaaW.PrintWords Go.Proofs.YtgfilednbllkmaaW.PrintLast Go.Proofs.YtgfilednbllkmaaW.PrintMore
attribute [local go_sem] max2_int min2_int max_two min_two max_three min_three max_four min_four   -- for this text's walks alone
set_option linter.unusedVariables false
set_option linter.unusedSimpArgs false

/-! ### impl_leased_n44: function 44 -/
abbrev impl_leased_n44.T : Bool := true
abbrev impl_leased_n44.F : Bool := false
theorem impl_leased_n44.s2_ {P : Prop} (h : P := by kernel_rfl) : P := h
theorem impl_leased_n44.s3_ {P : Prop} (h : P := by (try simp only [List.map_toArray, List.map_cons, List.map_nil]); first | done | rfl | (simp only [List.length_drop, List.length_take]; rfl)) : P := h
theorem impl_leased_n44.p1_ {P : Prop} (h : P := by simp only [Act.put, List.setIfInBounds_toArray, List.set_cons_zero, List.set_cons_succ, i64_w, i32_w]; rfl) : P := h
theorem impl_leased_n44.b1_ {P Q : Prop} (q : Q) (h : Q → P := by intro q_; (with_reducible repeat (first | refine blk_drewN ?_ _ | refine blk_drew ?_ | refine blk_alloc ?_ _)); exact q_) : P := h q
theorem impl_leased_n44.b2_ {P Q : Prop} (q : Q) (h : Q → P := by intro q_; (with_reducible repeat (first | apply Kd.R_alloc | apply Kd.R_drewN | apply Kd.R_drew)); exact q_) : P := h q
theorem impl_leased_n44.y1_ {P Q : Prop} (q : Q) (h : Q → P := by intro q_; repeat (first | (with_reducible first | exact q_ | apply below_alloc | apply pw_below_drewN | apply below_drew1) | exact q_)) : P := h q
theorem impl_leased_n44.b3_ {w w1 W : World} {g : Nat} {o : Obj} (q : Aside0 (w.heap[g]? = some o)) (hb : Below W.heap.size W w1) (h : w.heap[g]? = some o → W.heap[g]? = some o := by intro q_; (with_reducible repeat (first | refine blk_drewN ?_ _ | refine blk_drew ?_ | refine blk_alloc ?_ _)); exact q_) : Aside0 (w1.heap[g]? = some o) := ⟨blk_below (h q.out) hb⟩
theorem impl_leased_n44.c1_ {w : World} {g : Nat} {t : TypeId} {cs : Array Value} (q : Aside0 (w.heap[g]? = some (.cells cs t (0, 0)))) (i : Nat) (v : Value) (h : cs[i]? = some v := by rfl) : w.cell? ⟨g, i, none⟩ = some v := (blk_cell q.out i).trans h
theorem impl_leased_n44.f1_ {w : World} {g : Nat} {t : TypeId} {cs : Array Value} (q : Aside0 (w.heap[g]? = some (.cells cs t (0, 0)))) (i : Nat) : w.frozen? ⟨g, i, none⟩ = false := blk_frozen q.out i
theorem impl_leased_n44.pu_ {P : Program} {md : Region.Mode} {ops : Array Oper} {Q : Exit → Act → World → Prop} {S : World → Prop} {ds : List Nat} {fuel : Nat} {l : Array Bool} {a : Act} {w : World} {oi : Oper} {a' : Act} {v : Value} (i N : Nat) (l' : Array Bool) (hc : anyB md ops l l' i = true) (h : wpAnyLast P md ops Q S ds fuel l' a' w) (hi : ops[i]? = some oi := by rfl) (hN : oi.dst = some N := by rfl) (hQ : ∀ c a w, Q (.panic c) (a.put oi.dst v) w → Q (.panic c) a w := by exact fun _ _ _ h => h) (hy : Yields P ops oi v a := by exact Or.inl ⟨by rfl, by intro w'; go_simp; with_reducible rfl⟩) (ha : a.put (some N) v = a' := by simp only [Act.put, List.setIfInBounds_toArray, List.set_cons_zero, List.set_cons_succ, i64_w, i32_w]; rfl) : wpAnyLast P md ops Q S ds (fuel + 1) l a w := pure_ l' hi hN hc hQ hy ha h
def impl_leased_n44.f (k : Nat) (l0 : List (S63)) (a1_0 : Int) (a1_1 : Int) : Option ((List (S63))) := (impl_Lease_int64_v1.f k l0 a1_0).bind fun bt128 => (if bt128.2 = true then (if 0 ≤ bt128.1 then (if bt128.1 < (l0.length : Int) then (some (l0.set (bt128.1 : Int).toNat (⟨(rd_T63 l0 bt128.1).f0, mx ((rd_T63 l0 bt128.1).f1) a1_1⟩ : S63))) else (none)) else (none)) else ((impl_Lease_n94.f l0 bt128.1 (([(⟨a1_0, a1_1⟩ : S63)] : List (S63)))).bind fun t135 => (some t135)))
theorem impl_leased_n44.mono : ∀ a0 a1 a2 k, LeO (impl_leased_n44.f k a0 a1 a2) (impl_leased_n44.f (k + 1) a0 a1 a2) := by
  intro a0 a1 a2 k
  unfold impl_leased_n44.f
  repeat' first
      | (with_reducible exact impl_Lease_int64_v1.mono _ _ _)
      | (with_reducible exact LeO.refl _)
      | (with_reducible exact LeO.none _)
      | (with_reducible refine LeO.ite ?_ ?_)
      | (with_reducible refine LeO.bind ?_ (fun _ => ?_))
      | exact impl_Lease_int64_v1.mono _ _ _
      | exact LeO.none _
      | refine LeO.ite ?_ ?_
      | refine LeO.bind ?_ (fun _ => ?_)
def impl_leased_n44.T4 : Bool × List (List Nat × List Nat) := (true, [([], []), ([], []), ([], []), ([], []), ([2, 3], [2, 3]), ([4], [4]), ([5], [5]), ([], []), ([7], [7]), ([6, 8], [6, 8]), ([0, 1, 0, 1, 2, 3, 4, 5, 6, 7, 8, 9], [0, 1]), ([10, 0, 1, 2, 3, 4, 5, 6, 7, 8, 9], [10]), ([11, 9, 0, 1, 2, 3, 4, 5, 6, 7, 8, 9], [9, 11])])
def impl_leased_n44.B4 : List Nat := [0, 0, 0, 0, 12, 28, 60, 0, 128, 508, 1023, 2047, 4095]
theorem impl_leased_n44.tab4 : rtab .any (opsOf Try.f44 4) = impl_leased_n44.T4 := by kernel_rfl
theorem impl_leased_n44.bits4 : waitsOk impl_leased_n44.T4.2 impl_leased_n44.B4 = true := by kernel_rfl
set_option maxHeartbeats 8000000 in
set_option maxRecDepth 100000 in
theorem impl_leased_n44.calls (k : Nat) (P0_ : Nat → Prop) (u9000_ : Value) (l0 : List (S63)) (a1_0 : Int) (a1_1 : Int) (r : List (S63)) (w0 w : World) (hB : Below w0.heap.size w0 w) (ho0 : Kd.R k63 63 w w0.heap.size P0_ u9000_ l0) (h : impl_leased_n44.f k l0 a1_0 a1_1 = some r) :
    Calls Try.prog 44 #[u9000_, .agg #[.int .i64 a1_0, .int .i64 a1_1]] w fun e w' => ∃ v0_ : Value, e = .returned (v0_) ∧ Kd.R k63 63 w' w0.heap.size (fun k_ => (P0_ k_ ∨ w.heap.size ≤ k_)) v0_ r ∧ Below w0.heap.size w0 w' ∧ Kept w w' (fun k_ => P0_ k_) := by
 have hu63 := Try.underlying63
 have HO0 := Aside0.mk (show Kd.R k63 63 w w0.heap.size (fun k_ => (P0_ k_ ∨ w.heap.size ≤ k_)) u9000_ l0 from Kd.R_mono ho0 (fun k_ hk => (.inl hk)))
 have HK := Aside0.mk (Kept.refl w (fun k_ => P0_ k_))
 have HW0 := Aside0.mk hB.size
 have HB := Aside0.mk hB
 clear hB
 have H : ((impl_Lease_int64_v1.f k l0 a1_0).bind fun bt128 => (if bt128.2 = true then (if 0 ≤ bt128.1 then (if bt128.1 < (l0.length : Int) then (some (l0.set (bt128.1 : Int).toNat (⟨(rd_T63 l0 bt128.1).f0, mx ((rd_T63 l0 bt128.1).f1) a1_1⟩ : S63))) else (none)) else (none)) else ((impl_Lease_n94.f l0 bt128.1 (([(⟨a1_0, a1_1⟩ : S63)] : List (S63)))).bind fun t135 => (some t135)))) = some r := h
 clear h
 replace H := Option.bind_eq_some_iff.mp H
 obtain ⟨⟨t128, t129⟩, A30, H⟩ := H
 replace H : (if t129 = true then (if 0 ≤ t128 then (if t128 < (l0.length : Int) then (some (l0.set (t128 : Int).toNat (⟨(rd_T63 l0 t128).f0, mx ((rd_T63 l0 t128).f1) a1_1⟩ : S63))) else (none)) else (none)) else ((impl_Lease_n94.f l0 t128 (([(⟨a1_0, a1_1⟩ : S63)] : List (S63)))).bind fun t135 => (some t135))) = some r := H
 have A3 := Aside0.mk A30
 clear A30
 by_cases c4 : t129 = true
 {
 subst c4
 have H1 : (if 0 ≤ t128 then (if t128 < (l0.length : Int) then (some (l0.set (t128 : Int).toNat (⟨(rd_T63 l0 t128).f0, mx ((rd_T63 l0 t128).f1) a1_1⟩ : S63))) else (none)) else (none)) = some r := by rw [if_pos rfl] at H; exact H
 clear H
 have H := H1
 clear H1
 by_cases c5 : 0 ≤ t128
 {
 rw [if_pos c5] at H
 have c5b0 : decide (0 ≤ t128) = true := decide_eq_true c5
 clear c5
 by_cases c6 : t128 < (l0.length : Int)
 {
 rw [if_pos c6] at H
 have c6b0 : decide (t128 < (l0.length : Int)) = true := decide_eq_true c6
 clear c6
 obtain ⟨ji7, hji7⟩ : ∃ j_ : Int, (mx ((rd_T63 l0 t128).f1) a1_1) = j_ := ⟨_, rfl⟩
 replace H : (some (l0.set (t128 : Int).toNat (⟨(rd_T63 l0 t128).f0, ji7⟩ : S63))) = some r := by first | (rw [hji7] at H; exact H) | (simp only [hji7] at H ⊢; exact H)
 (try rw [hji7] at A3)
 have hji7_ : (if ((rd_T63 l0 t128).f1) < a1_1 then a1_1 else ((rd_T63 l0 t128).f1)) = ji7 := hji7
 obtain ⟨y131, hy131⟩ : ∃ y_ : List (S63), y_ = (l0.set (t128 : Int).toNat (⟨(rd_T63 l0 t128).f0, ji7⟩ : S63)) := ⟨_, rfl⟩
 replace H : (some y131) = some r := by first | (rw [hy131]; with_reducible exact H) | (have H2_ := (Option.bind_some _ _).symm.trans H; rw [hy131]; with_reducible exact H2_) | (have H2_ := (Option.bind_some _ _).symm.trans H; with_reducible exact H2_) | with_reducible exact H | (rw [hy131]; exact H) | exact H
 have Ny131 := Aside0.mk hy131
 clear hy131
 obtain rfl := Option.some.inj H
 go_enter Try.func44, Try.ntmps44
 try go_wp2_with (first | ((with_reducible refine gate_dst (N := 3) rfl ?_); refine box_event ?hg (N := 3) ?hd (cs := #[.int .i64 a1_0, .int .i64 a1_1]) (t := 63) ?hr ?_; (case hd => rfl); (case hg => rfl); (case hr => first | (go_simp; done) | (go_simp; rfl)); intro gb127 hg w9 hbox hb; have GW127 := Aside0.mk ((by rw [hg]; exact (by first | exact HK.out.1 | exact (show Kept w _ (fun k_ => P0_ k_) from by repeat (first | (with_reducible first | exact HK.out | apply Kept.alloc | apply Kept.drewN | apply Kept.drew) | exact HK.out)).1) : w.heap.size ≤ gb127)); have GE127 := Aside0.mk ((by rw [hg]; exact (below_size (y1_ HB.out)) : w0.heap.size ≤ gb127)); replace HO0 := Aside0.mk (Kd.R_below (Kd.R_elderB (b2_ HO0.out) gb127 (Nat.le_of_eq hg.symm)) hb); replace HK := Aside0.mk (Kept.below (S := (fun k_ => P0_ k_)) (by repeat (first | (with_reducible first | exact HK.out | apply Kept.alloc | apply Kept.drewN | apply Kept.drew) | exact HK.out)) hb); replace HB := Aside0.mk (below_step (y1_ HB.out) hb); have BK127 := Aside0.mk (hbox); clear hb hbox hg; have hcz10_0 := c1_ BK127 0 (.int .i64 a1_0); have hcz10_1 := c1_ BK127 1 (.int .i64 a1_1); have hfz10_0 := f1_ BK127 0; have hfz10_1 := f1_ BK127 1; obtain ⟨Ao11, co11, eo11⟩ := Kd.R_slice HO0.out; subst eo11) | ((with_reducible refine gate_callee (f := 91) rfl ?_); refine goesL_ (some 11) rfl rfl Try.func91 s2_ rfl #[.slice Ao11 l0.length co11, .int .i64 a1_0, .func (.func 92) #[] #[]] rfl s3_ ?_; (with_reducible refine (impl_Lease_int64_v1.calls k _ _ l0 a1_0  t128 true _ ?side1 ?side2 A3.out).mono ?_); (case side1 => repeat (first | exact (Kd.R_reads' HO0.out).2.2 | (with_reducible refine Kd.C_alloc ?_ _) | (with_reducible refine Kd.C_drewN ?_ _) | (with_reducible refine Kd.C_drew ?_))); (case side2 => exact (Kd.R_reads' HO0.out).2.1); rintro e w12 ⟨rfl, hb⟩; refine ⟨_, rfl, ?_⟩; replace HO0 := Aside0.mk (Kd.R_below (b2_ HO0.out) hb); replace BK127 := b3_ BK127 hb; replace HK := Aside0.mk (Kept.below (S := (fun k_ => P0_ k_)) (by repeat (first | (with_reducible first | exact HK.out | apply Kept.alloc | apply Kept.drewN | apply Kept.drew) | exact HK.out)) hb); replace HB := Aside0.mk (below_step (y1_ HB.out) hb); (try clear hb); (try clear hb2); (try clear hk); (try clear hi)))
 replace HO0 := Aside0.mk (Kd.R_drew HO0.out)
 replace BK127 := Aside0.mk (blk_drew BK127.out)
 replace HK := Aside0.mk (Kept.drew HK.out)
 replace HB := Aside0.mk (below_drew1 HB.out)
 have p130 : 0 ≤ (t128 : Int) := of_decide_eq_true (by first | (with_reducible assumption) | assumption)
 have q130 : t128 < (l0.length : Int) := of_decide_eq_true (by first | (with_reducible assumption) | assumption)
 obtain ⟨ad130, e130, hx130_0, hx130_1⟩ := at_T63 (Kd.R_reads' HO0.out).2.2 t128 p130 q130
 cases e130
 replace p130 := eq_true p130
 replace q130 := eq_true q130
 have p8 : 0 ≤ (t128 : Int) := of_decide_eq_true (by first | (with_reducible assumption) | assumption)
 have q8 : (t128 : Int) < ((l0.length : Int) : Int) := of_decide_eq_true (by first | (with_reducible assumption) | assumption)
 obtain ⟨go8, co8, eo8, gb8, gl8, cl8, HG8⟩ := Kd.R_form HO0.out (by omega)
 (first | cases eo8 | (injection eo8 with ea_ en_ ec_; (first | subst ea_ | (injection ea_ with ea_; subst ea_)); subst ec_; clear en_))
 have GB8 := Aside0.mk gb8
 have GG8 := Aside0.mk HG8
 clear gb8 gl8 HG8
 have HMgo8 := Aside0.mk (show (P0_ go8 ∨ w.heap.size ≤ go8) from (HO0.out.1 _ rfl).1)
 (first | simp only [add_plain] at hx130_0 | skip)
 (first | simp only [add_plain] at hx130_1 | skip)
 obtain ⟨ce8, hcl8, hM8, hcc8, hfr8⟩ := Kd.R_elem HO0.out z63 (t128 : Int) p8 q8
 obtain rfl := k63_openM hM8
 have hx8_0 : World.cell? _ ⟨go8, (t128 : Int).toNat * 2, none⟩ = some (.int .i64 ((rd_T63 l0 t128).f0)) := hcc8 0 _ rfl
 have hx8_1 : World.cell? _ ⟨go8, (t128 : Int).toNat * 2 + 1, none⟩ = some (.int .i64 ((rd_T63 l0 t128).f1)) := hcc8 1 _ rfl
 have hf8_0 : World.frozen? _ ⟨go8, (t128 : Int).toNat * 2, none⟩ = false := hfr8 0
 have hf8_1 : World.frozen? _ ⟨go8, (t128 : Int).toNat * 2 + 1, none⟩ = false := hfr8 1
 clear hcl8 hcc8 hfr8 hM8
 replace p8 := eq_true p8
 replace q8 := eq_true q8
 obtain ⟨ce14, hcl14, hM14, hcc14, hfr14⟩ := Kd.R_elem HO0.out z63 (t128 : Int) (of_decide_eq_true (by first | (with_reducible assumption) | assumption)) (by have h_ : (t128 : Int) < ((l0.length : Int) : Int) := of_decide_eq_true (by first | (with_reducible assumption) | assumption); first | exact h_ | (have e_ := (Kd.R_reads' HO0.out).1; omega) | simpa using h_)
 obtain rfl := k63_openM hM14
 have HP14 := (Kd.R_seg HO0.out (t128 : Int) (of_decide_eq_true (by first | (with_reducible assumption) | assumption)) (by have h_ : (t128 : Int) < ((l0.length : Int) : Int) := of_decide_eq_true (by first | (with_reducible assumption) | assumption); first | exact h_ | (have e_ := (Kd.R_reads' HO0.out).1; omega) | simpa using h_) (seg := [.int .i64 ji7]) (j := 1) hcl14 hcc14 (show 2 ≤ 2 from by decide) (x' := (⟨(rd_T63 l0 t128).f0, ji7⟩ : S63)) (k63_mkM _ _ _ (⟨(rd_T63 l0 t128).f0, ji7⟩ : S63) ) (fun _ hk => hk)).1
 rw [← Ny131.out] at HP14
 have HQ14 := Aside0.mk HP14
 clear hcl14 hcc14 hfr14 hM14 HP14
 refine start_ (n := 13) (S := fun w' => w'.cell? ⟨gb127, 0, none⟩ = some (.int .i64 a1_0) ∧ w'.cell? ⟨gb127, 1, none⟩ = some (.int .i64 a1_1) ∧ w'.cell? ⟨go8, ((t128).toNat * 2), none⟩ = some (.int .i64 ((rd_T63 l0 t128).f0)) ∧ w'.cell? ⟨go8, ((t128).toNat * 2) + 1, none⟩ = some (.int .i64 ((rd_T63 l0 t128).f1))) (ds := [12]) #[F,F,F,F,F,F,F,F,F,F,F,F,F] s2_ rfl rfl ⟨(blk_cell BK127.out 0).trans rfl, (blk_cell BK127.out 1).trans rfl, hx130_0, hx130_1⟩ (fun hHeld => ?_); refine with_tabW impl_leased_n44.tab4 impl_leased_n44.bits4 (fun HT_ HW_ => ?_)
 generalize w12.drew = w13 at HO0 BK127 HK HB GG8 HQ14 hf8_0 hf8_1 hx130_0 hx130_1 hx8_0 hx8_1 hHeld ⊢
 refine pu_ 0 21 #[T,F,F,F,F,F,F,F,F,F,F,F,F] (any_of HT_.out s2_) ?_
 refine pu_ 1 22 #[T,T,F,F,F,F,F,F,F,F,F,F,F] (any_of HT_.out s2_) ?_
 refine pu_ 2 23 #[T,T,T,F,F,F,F,F,F,F,F,F,F] (any_of HT_.out s2_) ?_
 refine pu_ 3 24 #[T,T,T,T,F,F,F,F,F,F,F,F,F] (any_of HT_.out s2_) ?_
 refine pu_ 4 25 #[T,T,T,T,T,F,F,F,F,F,F,F,F] (any_of HT_.out s2_) ?_
 refine pu_ 5 26 #[T,T,T,T,T,T,F,F,F,F,F,F,F] (any_of HT_.out s2_) ?_
 refine pu_ 7 28 #[T,T,T,T,T,T,F,T,F,F,F,F,F] (any_of HT_.out s2_) ?_
 refine take_ (i := 6) (N := some 27) (v := ?_) (a' := ?_) #[T,T,T,T,T,T,T,T,F,F,F,F,F] rfl rfl (take_ofW HT_.out HW_.out s2_) (fun _ _ _ h => h) (Or.inl ⟨by rfl, ?_⟩) hHeld ?_ ?_
 rotate_left
 {
 rintro w' ⟨s0, s1, s2, s3⟩
 go_simp
 with_reducible rfl}
 rotate_left
 · exact p1_
 refine take_ (i := 8) (N := some 29) (v := ?_) (a' := ?_) #[T,T,T,T,T,T,T,T,T,F,F,F,F] rfl rfl (take_ofW HT_.out HW_.out s2_) (fun _ _ _ h => h) (Or.inl ⟨by rfl, ?_⟩) hHeld ?_ ?_
 rotate_left
 {
 rintro w' ⟨s0, s1, s2, s3⟩
 go_simp
 with_reducible rfl}
 rotate_left
 · exact p1_
 refine pu_ 9 30 #[T,T,T,T,T,T,T,T,T,T,F,F,F] (any_of HT_.out s2_) ?_
 refine pu_ 10 31 #[T,T,T,T,T,T,T,T,T,T,T,F,F] (any_of HT_.out s2_) ?_
 refine pu_ 11 32 #[T,T,T,T,T,T,T,T,T,T,T,T,F] (any_of HT_.out s2_) ?_
 refine last_ (i := 12) (N := none) #[T,T,T,T,T,T,T,T,T,T,T,T,T] rfl rfl (one_of HT_.out s2_) (by decide) (fun K hK => ?_)
 refine skip_ (w1 := ?_) (by rfl) rfl ?_ ?_
 rotate_left
 {
 go_simp
 rfl}
 refine hK.out _ _ ?_
 clear hK K
 refine done_ (done_of HT_.out s2_) ?_
 try go_wp2
 go_ret
 exact ⟨_, by first | rfl | (simp [errW_none, errW_some] <;> rfl) | (simp only [← hji7]; first | rfl | (simp [errW_none, errW_some] <;> rfl)) | (simp [*, errW_none, errW_some] <;> rfl), by (with_reducible repeat (first | apply Kd.R_alloc | apply Kd.R_drewN | apply Kd.R_drew)); exact Kd.R_mono HQ14.out (fun _ hk => hk.1), by repeat (first | (with_reducible first | exact HB.out | apply below_alloc | apply pw_below_drewN | apply below_drew1 | refine below_set ?_ GB8.out) | exact HB.out), by repeat (first | (with_reducible first | exact HK.out | apply Kept.alloc | apply Kept.drewN | apply Kept.drew | refine Kept.setCell ?_ HMgo8.out _) | exact HK.out)⟩}
 {
 rw [if_neg c6] at H
 exact absurd H (by simp)}}
 {
 rw [if_neg c5] at H
 exact absurd H (by simp)}}
 {
 replace c4 := Bool.eq_false_iff.mpr c4
 subst c4
 have H1 : ((impl_Lease_n94.f l0 t128 (([(⟨a1_0, a1_1⟩ : S63)] : List (S63)))).bind fun t135 => (some t135)) = some r := by rw [if_neg (show ¬ (false = true) by decide)] at H; exact H
 clear H
 have H := H1
 clear H1
 obtain ⟨y132, hy132⟩ : ∃ y_ : List (S63), y_ = (([(⟨a1_0, a1_1⟩ : S63)] : List (S63))) := ⟨_, rfl⟩
 replace H : ((impl_Lease_n94.f l0 t128 y132).bind fun t135 => (some t135)) = some r := by first | (rw [hy132]; with_reducible exact H) | (have H2_ := (Option.bind_some _ _).symm.trans H; rw [hy132]; with_reducible exact H2_) | (have H2_ := (Option.bind_some _ _).symm.trans H; with_reducible exact H2_) | with_reducible exact H | (rw [hy132]; exact H) | exact H
 have Ny132 := Aside0.mk hy132
 clear hy132
 replace H := Option.bind_eq_some_iff.mp H
 obtain ⟨t135, A150, H⟩ := H
 replace H : (some t135) = some r := H
 have A15 := Aside0.mk A150
 clear A150
 obtain rfl := Option.some.inj H
 go_enter Try.func44, Try.ntmps44
 go_wp2_with (first | ((with_reducible refine gate_dst (N := 3) rfl ?_); refine box_event ?hg (N := 3) ?hd (cs := #[.int .i64 a1_0, .int .i64 a1_1]) (t := 63) ?hr ?_; (case hd => rfl); (case hg => rfl); (case hr => first | (go_simp; done) | (go_simp; rfl)); intro gb127 hg w16 hbox hb; have GW127 := Aside0.mk ((by rw [hg]; exact (by first | exact HK.out.1 | exact (show Kept w _ (fun k_ => P0_ k_) from by repeat (first | (with_reducible first | exact HK.out | apply Kept.alloc | apply Kept.drewN | apply Kept.drew) | exact HK.out)).1) : w.heap.size ≤ gb127)); have GE127 := Aside0.mk ((by rw [hg]; exact (below_size (y1_ HB.out)) : w0.heap.size ≤ gb127)); replace HO0 := Aside0.mk (Kd.R_below (Kd.R_elderB (b2_ HO0.out) gb127 (Nat.le_of_eq hg.symm)) hb); replace HK := Aside0.mk (Kept.below (S := (fun k_ => P0_ k_)) (by repeat (first | (with_reducible first | exact HK.out | apply Kept.alloc | apply Kept.drewN | apply Kept.drew) | exact HK.out)) hb); replace HB := Aside0.mk (below_step (y1_ HB.out) hb); have BK127 := Aside0.mk (hbox); clear hb hbox hg; have hcz17_0 := c1_ BK127 0 (.int .i64 a1_0); have hcz17_1 := c1_ BK127 1 (.int .i64 a1_1); have hfz17_0 := f1_ BK127 0; have hfz17_1 := f1_ BK127 1; obtain ⟨Ao18, co18, eo18⟩ := Kd.R_slice HO0.out; subst eo18) | ((with_reducible refine gate_callee (f := 91) rfl ?_); refine goesL_ (some 11) rfl rfl Try.func91 s2_ rfl #[.slice Ao18 l0.length co18, .int .i64 a1_0, .func (.func 92) #[] #[]] rfl s3_ ?_; (with_reducible refine (impl_Lease_int64_v1.calls k _ _ l0 a1_0  t128 false _ ?side1 ?side2 A3.out).mono ?_); (case side1 => repeat (first | exact (Kd.R_reads' HO0.out).2.2 | (with_reducible refine Kd.C_alloc ?_ _) | (with_reducible refine Kd.C_drewN ?_ _) | (with_reducible refine Kd.C_drew ?_))); (case side2 => exact (Kd.R_reads' HO0.out).2.1); rintro e w19 ⟨rfl, hb⟩; refine ⟨_, rfl, ?_⟩; replace HO0 := Aside0.mk (Kd.R_below (b2_ HO0.out) hb); replace BK127 := b3_ BK127 hb; replace HK := Aside0.mk (Kept.below (S := (fun k_ => P0_ k_)) (by repeat (first | (with_reducible first | exact HK.out | apply Kept.alloc | apply Kept.drewN | apply Kept.drew) | exact HK.out)) hb); replace HB := Aside0.mk (below_step (y1_ HB.out) hb); (try clear hb); (try clear hb2); (try clear hk); (try clear hi); have hcz20_0 := c1_ BK127 0 (.int .i64 a1_0); have hcz20_1 := c1_ BK127 1 (.int .i64 a1_1); have hfz20_0 := f1_ BK127 0; have hfz20_1 := f1_ BK127 1) | ((with_reducible refine gate_dst (N := 19) rfl ?_); refine Kd.R_lit k63 _ 63 ?hg (N := 19) ?hd (xs := ([(⟨a1_0, a1_1⟩ : S63)] : List (S63))) (inner := [.int .i64 a1_0, .int .i64 a1_1]) (ok := fun _ => True) (okp := fun _ => True) ?hr ?hp (fun _ hk => hk) trivial (Below.refl _ _) (Nat.le_refl _) (by simp) ?_; (case hd => rfl); (case hg => rfl); (case hr => first | (go_simp; done) | (go_simp; rfl)); (case hp => exact (Reps.c2 (show Kd.M k63 _ _ _ (⟨a1_0, a1_1⟩ : S63) [.int .i64 a1_0, .int .i64 a1_1] from (k63_mkM _ _ _ (⟨a1_0, a1_1⟩ : S63) )) (Reps.none _ _))); intro v133 w21 ho22 hb hg_ hnew_; clear hg_ hnew_; (first | rw [← Ny132.out] at ho22 | (simp only [Int.reduceToNat] at ho22; rw [← Ny132.out] at ho22)); have n0_ := Aside0.mk (Kd.R_elder' (b2_ HO0.out) (Kd.R_base ho22) hb); have n1_ := Aside0.mk (Kd.R_lower (Kd.R_newB (Kd.R_new' (Kd.R_newM (M := fun k_ => (P0_ k_ ∨ w.heap.size ≤ k_)) ho22 (by first | exact HK.out.1 | exact (show Kept w _ (fun k_ => P0_ k_) from by repeat (first | (with_reducible first | exact HK.out | apply Kept.alloc | apply Kept.drewN | apply Kept.drew) | exact HK.out)).1) (fun k_ h_ => .inr h_)) (Kd.R_lt (b2_ HO0.out))) (g := gb127) (o := .cells #[.int .i64 a1_0, .int .i64 a1_1] 63 (0, 0)) (b1_ BK127.out)) (below_size (y1_ HB.out))); have n2_ := b3_ BK127 hb; have n3_ := Aside0.mk (Kept.below (S := (fun k_ => P0_ k_)) (by repeat (first | (with_reducible first | exact HK.out | apply Kept.alloc | apply Kept.drewN | apply Kept.drew) | exact HK.out)) hb); have n4_ := Aside0.mk (below_step (y1_ HB.out) hb); clear HO0; clear BK127; clear HK; clear HB; have HO0 := n0_; have HO134 := n1_; have BK127 := n2_; have HK := n3_; have HB := n4_; clear n0_ n1_ n2_ n3_ n4_; clear hb ho22; obtain ⟨Ao23, co23, eo23⟩ := Kd.R_slice HO134.out; subst eo23) | ((with_reducible refine gate_callee (f := 94) rfl ?_); refine goesL_ (some 20) rfl rfl Try.func94 s2_ rfl #[.slice Ao18 l0.length co18, .int .i64 t128, .slice Ao23 y132.length co23] rfl s3_ ?_; (with_reducible refine (impl_Lease_n94.calls (fun k_ => some k_ = (.slice Ao18 l0.length co18 : Value).ownBlock) (.slice Ao18 l0.length co18) l0 t128 (fun k_ => some k_ = (.slice Ao23 y132.length co23 : Value).ownBlock) (.slice Ao23 y132.length co23) y132 t135 w0 _ ?side1 ?side2 ?side3 ?side4 ?side5 A15.out).mono ?_); (case side1 => repeat (first | (with_reducible first | exact HB.out | apply below_alloc | apply pw_below_drewN | apply below_drew1) | exact HB.out)); (case side2 => exact Kd.R_tight rfl HO0.out); (case side3 => exact fun k_ e_ => (HO0.out.1 k_ e_.symm).2); (case side4 => exact Kd.R_tight rfl HO134.out); (case side5 => exact fun k_ e_ => (HO134.out.1 k_ e_.symm).1.2); rintro e w24 ⟨v136, rfl, ho0, hb, hkp⟩; refine ⟨_, rfl, ?_⟩; have n0_ := Aside0.mk (blk_kept (b1_ BK127.out) hkp (fun hs_ => Or.elim hs_ (fun e_ => (fun e_ => (Kd.R_away HO0.out (fun _ hk => hk.1.2)) e_) e_) (fun e_ => (fun e_ => (Kd.R_away HO134.out (fun _ hk => hk.2)) e_) e_))); have n1_ := Aside0.mk (Kd.R_mono (ok' := fun k_ => (P0_ k_ ∨ w.heap.size ≤ k_) ∧ k_ ≠ gb127) ho0 (fun k_ hk_ => ⟨Or.elim hk_ (fun hs_ => Or.elim hs_ (fun hs_ => (HO0.out.1 k_ (hs_).symm).1.1) (fun hs_ => (HO134.out.1 k_ (hs_).symm).1.1.1)) (fun hn_ => (.inr (Nat.le_trans (by first | exact HK.out.1 | exact (show Kept w _ (fun k_ => P0_ k_) from by repeat (first | (with_reducible first | exact HK.out | apply Kept.alloc | apply Kept.drewN | apply Kept.drew) | exact HK.out)).1) hn_))), Or.elim hk_ (fun hs_ => Or.elim hs_ (fun hs_ => fun e_ => (Kd.R_away HO0.out (fun _ hk => hk.1.2)) (by rw [← e_]; exact hs_)) (fun hs_ => fun e_ => (Kd.R_away HO134.out (fun _ hk => hk.2)) (by rw [← e_]; exact hs_))) (fun hn_ => (Kd.freshB (g := gb127) (o := .cells #[.int .i64 a1_0, .int .i64 a1_1] 63 (0, 0)) (b1_ BK127.out) k_ hn_))⟩)); have n2_ := Aside0.mk (Kept.then_ (S := (fun k_ => P0_ k_)) (by repeat (first | (with_reducible first | exact HK.out | apply Kept.alloc | apply Kept.drewN | apply Kept.drew) | exact HK.out)) hkp (fun k_ hs_ => Or.elim hs_ (fun e_ => (fun e_ => (HO0.out.1 k_ e_.symm).1.1) e_) (fun e_ => (fun e_ => (HO134.out.1 k_ e_.symm).1.1.1) e_))); have n3_ := Aside0.mk (hb); clear BK127; clear HK; clear HB; clear HO0; clear HO134; have BK127 := n0_; have HO137 := n1_; have HK := n2_; have HB := n3_; clear n0_ n1_ n2_ n3_; (try clear hb); (try clear hkp); (try clear ho0)))
 go_ret
 exact ⟨_, by first | rfl | (simp [errW_none, errW_some] <;> rfl) | (simp [*, errW_none, errW_some] <;> rfl), by (with_reducible repeat (first | apply Kd.R_alloc | apply Kd.R_drewN | apply Kd.R_drew)); exact Kd.R_mono HO137.out (fun _ hk => hk.1), by repeat (first | (with_reducible first | exact HB.out | apply below_alloc | apply pw_below_drewN | apply below_drew1) | exact HB.out), by repeat (first | (with_reducible first | exact HK.out | apply Kept.alloc | apply Kept.drewN | apply Kept.drew) | exact HK.out)⟩}

end Go.Proofs.Ytgfilednbllkmaa.QFnExactStartTyping
