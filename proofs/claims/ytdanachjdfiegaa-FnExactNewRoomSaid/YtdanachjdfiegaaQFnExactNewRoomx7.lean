-- written by a program of this session, on the lines of the kit's print
import Derived.Test.YtdanachjdfiegaaSR
import Derived.Test.YtdanachjdfiegaaQFnExactNewRoomx0
import Derived.Test.YtdanachjdfiegaaQFnExactNewRoomx1
import Derived.Test.YtdanachjdfiegaaQFnExactNewRoomx4
import Derived.Test.YtdanachjdfiegaaQFnExactNewRoomx5
import Derived.Test.YtdanachjdfiegaaQFnExactNewRoomx6
namespace Go.Proofs.Ytdanachjdfiegaa.QFnExactNewRoom
open Go.RowKit Go.Proofs.YtdanachjdfiegaaW.PrintWords Go.Proofs.YtdanachjdfiegaaW.PrintLast Go.Proofs.YtdanachjdfiegaaW.PrintMore
attribute [local go_sem] max2_int min2_int max_two min_two max_three min_three max_four min_four   -- for this text's walks alone
set_option linter.unusedVariables false
set_option linter.unusedSimpArgs false

/-! ### laws_FnExactNewRoom: function 4 -/
abbrev laws_FnExactNewRoom.T : Bool := true
abbrev laws_FnExactNewRoom.F : Bool := false
theorem laws_FnExactNewRoom.s1_ {P : Prop} (h : P := by first | rfl | (simp; done) | (simp [*]; done)) : P := h
theorem laws_FnExactNewRoom.s2_ {P : Prop} (h : P := by kernel_rfl) : P := h
theorem laws_FnExactNewRoom.s3_ {P : Prop} (h : P := by (try simp only [List.map_toArray, List.map_cons, List.map_nil]); first | done | rfl | (simp only [List.length_drop, List.length_take]; rfl)) : P := h
theorem laws_FnExactNewRoom.b1_ {P Q : Prop} (q : Q) (h : Q → P := by intro q_; (with_reducible repeat (first | refine blk_drewN ?_ _ | refine blk_drew ?_ | refine blk_alloc ?_ _)); exact q_) : P := h q
theorem laws_FnExactNewRoom.b2_ {P Q : Prop} (q : Q) (h : Q → P := by intro q_; (with_reducible repeat (first | apply Kd.R_alloc | apply Kd.R_drewN | apply Kd.R_drew)); exact q_) : P := h q
mutual
def laws_FnExactNewRoom.j0 : Nat → Int → Int → Bool → Bool → Bool → Bool → List (S36) → List (S71) → List (S73) → Bool → List (S36) → List (S71) → List (S73) → Option (Bool)
  | 0, _, _, _, _, _, _, _, _, _, _, _, _, _ => none
  | k + 1, x0, x1, x2, x8, x37, x226000, x226001, x226002, x226003, x238000, x238001, x238002, x238003 => if x37 = true then (some false) else ((laws_markRoom.f k x238000 x238001 x238002 x238003 1).bind fun bt239 => ((laws_heldRoom.f k x238000 bt239.2.1 bt239.2.2.1 bt239.2.2.2 1).bind fun t243 => (if t243 < 0 then (some false) else (if t243 = bt239.1 then ((impl_NewRoom.f k x0 x1 x2).bind fun bt244 => ((laws_eqRoom.f k bt244.1 bt244.2.1 bt244.2.2.1 bt244.2.2.2.1 x226000 x226001 x226002 x226003).bind fun t256 => (if t256 = true then (laws_FnExactNewRoom.j1 k bt239.1 (bt244.2.2.2.2 != x8) x238000 bt239.2.1 bt239.2.2.1 bt239.2.2.2) else (laws_FnExactNewRoom.j1 k bt239.1 true x238000 bt239.2.1 bt239.2.2.1 bt239.2.2.2)))) else (some false)))))
def laws_FnExactNewRoom.j1 : Nat → Int → Bool → Bool → List (S36) → List (S71) → List (S73) → Option (Bool)
  | 0, _, _, _, _, _, _ => none
  | k + 1, x11, x64, x238000, x238001, x238002, x238003 => if x64 = true then (some false) else ((laws_heldRoom.f k x238000 x238001 x238002 x238003 1).bind fun t257 => (if t257 < 0 then (some false) else (if t257 = x11 then (some true) else (some false))))
end
def laws_FnExactNewRoom.f (k : Nat) (a0 : Int) (a1 : Int) (a2 : Bool) : Option (Bool) := (spec_NewRoom.f k a0 a1 a2).bind fun bt214 => ((impl_NewRoom.f k a0 a1 a2).bind fun bt226 => ((laws_eqRoom.f k bt226.1 bt226.2.1 bt226.2.2.1 bt226.2.2.2.1 bt214.1 bt214.2.1 bt214.2.2.1 bt214.2.2.2.1).bind fun t238 => (if t238 = true then (laws_FnExactNewRoom.j0 k a0 a1 a2 bt214.2.2.2.2 (bt226.2.2.2.2 != bt214.2.2.2.2) bt214.1 bt214.2.1 bt214.2.2.1 bt214.2.2.2.1 bt226.1 bt226.2.1 bt226.2.2.1 bt226.2.2.2.1) else (laws_FnExactNewRoom.j0 k a0 a1 a2 bt214.2.2.2.2 true bt214.1 bt214.2.1 bt214.2.2.1 bt214.2.2.2.1 bt226.1 bt226.2.1 bt226.2.2.1 bt226.2.2.2.1))))
theorem laws_FnExactNewRoom.mono_l : ∀ k, (∀ y0 y1 y2 y3 y4 y5 y6 y7 y8 y9 y10 y11 y12, LeO (laws_FnExactNewRoom.j0 k y0 y1 y2 y3 y4 y5 y6 y7 y8 y9 y10 y11 y12) (laws_FnExactNewRoom.j0 (k + 1) y0 y1 y2 y3 y4 y5 y6 y7 y8 y9 y10 y11 y12)) ∧ (∀ y0 y1 y2 y3 y4 y5, LeO (laws_FnExactNewRoom.j1 k y0 y1 y2 y3 y4 y5) (laws_FnExactNewRoom.j1 (k + 1) y0 y1 y2 y3 y4 y5))
  | 0 => ⟨fun _ _ _ _ _ _ _ _ _ _ _ _ _ r h => by simp [laws_FnExactNewRoom.j0] at h, fun _ _ _ _ _ _ r h => by simp [laws_FnExactNewRoom.j1] at h⟩
  | k + 1 => by
    obtain ⟨ih0, ih1⟩ := laws_FnExactNewRoom.mono_l k
    refine ⟨?_, ?_⟩
    · intro y0 y1 y2 y3 y4 y5 y6 y7 y8 y9 y10 y11 y12
      unfold laws_FnExactNewRoom.j0
      repeat' first
      | (with_reducible exact ih0 _ _ _ _ _ _ _ _ _ _ _ _ _)
      | (with_reducible exact ih1 _ _ _ _ _ _)
      | (with_reducible exact impl_NewRoom.mono _ _ _ _)
      | (with_reducible exact laws_eqRoom.mono _ _ _ _ _ _ _ _ _)
      | (with_reducible exact laws_heldRoom.mono _ _ _ _ _ _)
      | (with_reducible exact laws_markRoom.mono _ _ _ _ _ _)
      | (with_reducible exact spec_NewRoom.mono _ _ _ _)
      | (with_reducible exact LeO.refl _)
      | (with_reducible exact LeO.none _)
      | (with_reducible refine LeO.ite ?_ ?_)
      | (with_reducible refine LeO.bind ?_ (fun _ => ?_))
      | exact ih0 _ _ _ _ _ _ _ _ _ _ _ _ _
      | exact ih1 _ _ _ _ _ _
      | exact impl_NewRoom.mono _ _ _ _
      | exact laws_eqRoom.mono _ _ _ _ _ _ _ _ _
      | exact laws_heldRoom.mono _ _ _ _ _ _
      | exact laws_markRoom.mono _ _ _ _ _ _
      | exact spec_NewRoom.mono _ _ _ _
      | exact LeO.none _
      | refine LeO.ite ?_ ?_
      | refine LeO.bind ?_ (fun _ => ?_)
    · intro y0 y1 y2 y3 y4 y5
      unfold laws_FnExactNewRoom.j1
      repeat' first
      | (with_reducible exact ih0 _ _ _ _ _ _ _ _ _ _ _ _ _)
      | (with_reducible exact ih1 _ _ _ _ _ _)
      | (with_reducible exact impl_NewRoom.mono _ _ _ _)
      | (with_reducible exact laws_eqRoom.mono _ _ _ _ _ _ _ _ _)
      | (with_reducible exact laws_heldRoom.mono _ _ _ _ _ _)
      | (with_reducible exact laws_markRoom.mono _ _ _ _ _ _)
      | (with_reducible exact spec_NewRoom.mono _ _ _ _)
      | (with_reducible exact LeO.refl _)
      | (with_reducible exact LeO.none _)
      | (with_reducible refine LeO.ite ?_ ?_)
      | (with_reducible refine LeO.bind ?_ (fun _ => ?_))
      | exact ih0 _ _ _ _ _ _ _ _ _ _ _ _ _
      | exact ih1 _ _ _ _ _ _
      | exact impl_NewRoom.mono _ _ _ _
      | exact laws_eqRoom.mono _ _ _ _ _ _ _ _ _
      | exact laws_heldRoom.mono _ _ _ _ _ _
      | exact laws_markRoom.mono _ _ _ _ _ _
      | exact spec_NewRoom.mono _ _ _ _
      | exact LeO.none _
      | refine LeO.ite ?_ ?_
      | refine LeO.bind ?_ (fun _ => ?_)
theorem laws_FnExactNewRoom.mono : ∀ a0 a1 a2 k, LeO (laws_FnExactNewRoom.f k a0 a1 a2) (laws_FnExactNewRoom.f (k + 1) a0 a1 a2) := by
  intro a0 a1 a2 k
  obtain ⟨ih0, ih1⟩ := laws_FnExactNewRoom.mono_l k
  unfold laws_FnExactNewRoom.f
  repeat' first
      | (with_reducible exact ih0 _ _ _ _ _ _ _ _ _ _ _ _ _)
      | (with_reducible exact ih1 _ _ _ _ _ _)
      | (with_reducible exact impl_NewRoom.mono _ _ _ _)
      | (with_reducible exact laws_eqRoom.mono _ _ _ _ _ _ _ _ _)
      | (with_reducible exact laws_heldRoom.mono _ _ _ _ _ _)
      | (with_reducible exact laws_markRoom.mono _ _ _ _ _ _)
      | (with_reducible exact spec_NewRoom.mono _ _ _ _)
      | (with_reducible exact LeO.refl _)
      | (with_reducible exact LeO.none _)
      | (with_reducible refine LeO.ite ?_ ?_)
      | (with_reducible refine LeO.bind ?_ (fun _ => ?_))
      | exact ih0 _ _ _ _ _ _ _ _ _ _ _ _ _
      | exact ih1 _ _ _ _ _ _
      | exact impl_NewRoom.mono _ _ _ _
      | exact laws_eqRoom.mono _ _ _ _ _ _ _ _ _
      | exact laws_heldRoom.mono _ _ _ _ _ _
      | exact laws_markRoom.mono _ _ _ _ _ _
      | exact spec_NewRoom.mono _ _ _ _
      | exact LeO.none _
      | refine LeO.ite ?_ ?_
      | refine LeO.bind ?_ (fun _ => ?_)
set_option maxHeartbeats 8000000 in
set_option maxRecDepth 100000 in
theorem laws_FnExactNewRoom.calls (k : Nat) (a0 : Int) (a1 : Int) (a2 : Bool) (r : Bool) (w : World) (h : laws_FnExactNewRoom.f k a0 a1 a2 = some r) :
    Calls Try.prog 4 #[.int .i64 a0, .int .i64 a1, .bool a2] w fun e w' => e = .returned (.bool r) ∧ Below w.heap.size w w' := by
 have hu28 := Try.underlying28
 have HB := Aside0.mk (Below.refl w.heap.size w)
 have H : ((spec_NewRoom.f k a0 a1 a2).bind fun bt214 => ((impl_NewRoom.f k a0 a1 a2).bind fun bt226 => ((laws_eqRoom.f k bt226.1 bt226.2.1 bt226.2.2.1 bt226.2.2.2.1 bt214.1 bt214.2.1 bt214.2.2.1 bt214.2.2.2.1).bind fun t238 => (if t238 = true then (laws_FnExactNewRoom.j0 k a0 a1 a2 bt214.2.2.2.2 (bt226.2.2.2.2 != bt214.2.2.2.2) bt214.1 bt214.2.1 bt214.2.2.1 bt214.2.2.2.1 bt226.1 bt226.2.1 bt226.2.2.1 bt226.2.2.2.1) else (laws_FnExactNewRoom.j0 k a0 a1 a2 bt214.2.2.2.2 true bt214.1 bt214.2.1 bt214.2.2.1 bt214.2.2.2.1 bt226.1 bt226.2.1 bt226.2.2.1 bt226.2.2.2.1))))) = some r := h
 clear h
 replace H := Option.bind_eq_some_iff.mp H
 obtain ⟨⟨t214, t215, t218, t221, t224⟩, A40, H⟩ := H
 replace H : ((impl_NewRoom.f k a0 a1 a2).bind fun bt226 => ((laws_eqRoom.f k bt226.1 bt226.2.1 bt226.2.2.1 bt226.2.2.2.1 t214 t215 t218 t221).bind fun t238 => (if t238 = true then (laws_FnExactNewRoom.j0 k a0 a1 a2 t224 (bt226.2.2.2.2 != t224) t214 t215 t218 t221 bt226.1 bt226.2.1 bt226.2.2.1 bt226.2.2.2.1) else (laws_FnExactNewRoom.j0 k a0 a1 a2 t224 true t214 t215 t218 t221 bt226.1 bt226.2.1 bt226.2.2.1 bt226.2.2.2.1)))) = some r := H
 have A4 := Aside0.mk A40
 clear A40
 replace H := Option.bind_eq_some_iff.mp H
 obtain ⟨⟨t226, t227, t230, t233, t236⟩, A50, H⟩ := H
 replace H : ((laws_eqRoom.f k t226 t227 t230 t233 t214 t215 t218 t221).bind fun t238 => (if t238 = true then (laws_FnExactNewRoom.j0 k a0 a1 a2 t224 (t236 != t224) t214 t215 t218 t221 t226 t227 t230 t233) else (laws_FnExactNewRoom.j0 k a0 a1 a2 t224 true t214 t215 t218 t221 t226 t227 t230 t233))) = some r := H
 have A5 := Aside0.mk A50
 clear A50
 have HC6 := Aside0.mk H
 clear H
 go_enter Try.func4, Try.ntmps4
 go_upto_region 3 with (first | ((with_reducible refine gate_callee (f := 15) rfl ?_); refine goesL_ (some 19) rfl rfl Try.func15 s2_ rfl #[.int .i64 a0, .int .i64 a1, .bool a2] rfl s3_ ?_; (with_reducible refine (spec_NewRoom.calls k a0 a1 a2 t214 t215 t218 t221 t224 _ A4.out).mono ?_); rintro e w7 ⟨v216, v219, v222, rfl, ho0, ho1, ho2, hb⟩; refine ⟨_, rfl, ?_⟩; have n0_ := Aside0.mk (Kd.R_lower ho0 (below_size (by repeat (first | (with_reducible first | exact HB.out | apply below_alloc | apply pw_below_drewN | apply below_drew1) | exact HB.out)))); have n1_ := Aside0.mk (Kd.R_lower ho1 (below_size (by repeat (first | (with_reducible first | exact HB.out | apply below_alloc | apply pw_below_drewN | apply below_drew1) | exact HB.out)))); have n2_ := Aside0.mk (Kd.R_lower ho2 (below_size (by repeat (first | (with_reducible first | exact HB.out | apply below_alloc | apply pw_below_drewN | apply below_drew1) | exact HB.out)))); have n3_ := Aside0.mk (below_step (by repeat (first | (with_reducible first | exact HB.out | apply below_alloc | apply pw_below_drewN | apply below_drew1) | exact HB.out)) hb); clear HB; have HO217 := n0_; have HO220 := n1_; have HO223 := n2_; have HB := n3_; clear n0_ n1_ n2_ n3_; (try clear hb); (try clear hb2); (try clear hk); (try clear hi); (try clear ho0); (try clear ho1); (try clear ho2)) | ((with_reducible refine gate_dst (N := 7) rfl ?_); refine box_event ?hg (N := 7) ?hd (cs := #[.bool false, .slice none 0 0, .slice none 0 0, .slice none 0 0]) (t := 28) ?hr ?_; (case hd => rfl); (case hg => rfl); (case hr => first | (go_simp; done) | (go_simp; rfl)); intro gb225 hg w8 hbox hb; have n0_ := Aside0.mk (Kd.R_below (b2_ HO217.out) hb); have n1_ := Aside0.mk (Kd.R_below (b2_ HO220.out) hb); have n2_ := Aside0.mk (Kd.R_below (b2_ HO223.out) hb); have n3_ := Aside0.mk (below_step (by repeat (first | (with_reducible first | exact HB.out | apply below_alloc | apply pw_below_drewN | apply below_drew1) | exact HB.out)) hb); have n4_ := Aside0.mk (hbox); have n5_ := Aside0.mk ((by rw [hg]; exact (below_size (by repeat (first | (with_reducible first | exact HB.out | apply below_alloc | apply pw_below_drewN | apply below_drew1) | exact HB.out))) : w.heap.size ≤ gb225)); have n6_ := Aside0.mk ((by rw [hg]; exact (below_size (by repeat (first | (with_reducible first | exact HB.out | apply below_alloc | apply pw_below_drewN | apply below_drew1) | exact HB.out))) : w.heap.size ≤ gb225)); clear HO217; clear HO220; clear HO223; clear HB; have HO217 := n0_; have HO220 := n1_; have HO223 := n2_; have HB := n3_; have BK225 := n4_; have GW225 := n5_; have GE225 := n6_; clear n0_ n1_ n2_ n3_ n4_ n5_ n6_; clear hb hbox hg; have hcz9_0 : w8.cell? ⟨gb225, 0, none⟩ = some (.bool false) := (blk_cell BK225.out 0).trans rfl; have hcz9_1 : w8.cell? ⟨gb225, 1, none⟩ = some (.slice none 0 0) := (blk_cell BK225.out 1).trans rfl; have hcz9_2 : w8.cell? ⟨gb225, 2, none⟩ = some (.slice none 0 0) := (blk_cell BK225.out 2).trans rfl; have hcz9_3 : w8.cell? ⟨gb225, 3, none⟩ = some (.slice none 0 0) := (blk_cell BK225.out 3).trans rfl; have hfz9_0 := blk_frozen BK225.out 0; have hfz9_1 := blk_frozen BK225.out 1; have hfz9_2 := blk_frozen BK225.out 2; have hfz9_3 := blk_frozen BK225.out 3; obtain ⟨Ao10, co10, eo10⟩ := Kd.R_slice HO217.out; subst eo10; obtain ⟨Ao11, co11, eo11⟩ := Kd.R_slice HO220.out; subst eo11; obtain ⟨Ao12, co12, eo12⟩ := Kd.R_slice HO223.out; subst eo12) | ((with_reducible refine gate_callee (f := 16) rfl ?_); refine goesL_ (some 26) rfl rfl Try.func16 s2_ rfl #[.int .i64 a0, .int .i64 a1, .bool a2] rfl s3_ ?_; (with_reducible refine (impl_NewRoom.calls k a0 a1 a2 t226 t227 t230 t233 t236 _ A5.out).mono ?_); rintro e w13 ⟨v228, v231, v234, rfl, ho0, ho1, ho2, hb⟩; refine ⟨_, rfl, ?_⟩; have n0_ := Aside0.mk (Kd.R_elder' (by (with_reducible repeat (first | apply Kd.R_alloc | apply Kd.R_drewN | apply Kd.R_drew)); exact (Kd.R_mono (Kd.R_far (p := ⟨gb225, 3, none⟩) (Kd.R_far (p := ⟨gb225, 2, none⟩) (Kd.R_far (p := ⟨gb225, 1, none⟩) (Kd.R_far (p := ⟨gb225, 0, none⟩) (Kd.R_types HO217.out BK225.out (by decide)) (fun _ hk => hk.2) (.bool t214)) (fun _ hk => hk.2) (.slice Ao10 t215.length co10)) (fun _ hk => hk.2) (.slice Ao11 t218.length co11)) (fun _ hk => hk.2) (.slice Ao12 t221.length co12)) (fun _ h_ => h_.1))) (Kd.R_base ho0) hb); have n1_ := Aside0.mk (Kd.R_elder' (by (with_reducible repeat (first | apply Kd.R_alloc | apply Kd.R_drewN | apply Kd.R_drew)); exact (Kd.R_mono (Kd.R_far (p := ⟨gb225, 3, none⟩) (Kd.R_far (p := ⟨gb225, 2, none⟩) (Kd.R_far (p := ⟨gb225, 1, none⟩) (Kd.R_far (p := ⟨gb225, 0, none⟩) (Kd.R_types HO220.out BK225.out (by decide)) (fun _ hk => hk.2) (.bool t214)) (fun _ hk => hk.2) (.slice Ao10 t215.length co10)) (fun _ hk => hk.2) (.slice Ao11 t218.length co11)) (fun _ hk => hk.2) (.slice Ao12 t221.length co12)) (fun _ h_ => h_.1))) (Kd.R_base ho1) hb); have n2_ := Aside0.mk (Kd.R_elder' (by (with_reducible repeat (first | apply Kd.R_alloc | apply Kd.R_drewN | apply Kd.R_drew)); exact (Kd.R_mono (Kd.R_far (p := ⟨gb225, 3, none⟩) (Kd.R_far (p := ⟨gb225, 2, none⟩) (Kd.R_far (p := ⟨gb225, 1, none⟩) (Kd.R_far (p := ⟨gb225, 0, none⟩) (Kd.R_types HO223.out BK225.out (by decide)) (fun _ hk => hk.2) (.bool t214)) (fun _ hk => hk.2) (.slice Ao10 t215.length co10)) (fun _ hk => hk.2) (.slice Ao11 t218.length co11)) (fun _ hk => hk.2) (.slice Ao12 t221.length co12)) (fun _ h_ => h_.1))) (Kd.R_base ho2) hb); have n3_ := Aside0.mk (Kd.R_lower (Kd.R_new' ho0 (Kd.R_lt (by (with_reducible repeat (first | apply Kd.R_alloc | apply Kd.R_drewN | apply Kd.R_drew)); exact (Kd.R_mono (Kd.R_far (p := ⟨gb225, 3, none⟩) (Kd.R_far (p := ⟨gb225, 2, none⟩) (Kd.R_far (p := ⟨gb225, 1, none⟩) (Kd.R_far (p := ⟨gb225, 0, none⟩) (Kd.R_types HO217.out BK225.out (by decide)) (fun _ hk => hk.2) (.bool t214)) (fun _ hk => hk.2) (.slice Ao10 t215.length co10)) (fun _ hk => hk.2) (.slice Ao11 t218.length co11)) (fun _ hk => hk.2) (.slice Ao12 t221.length co12)) (fun _ h_ => h_.1))))) (below_size (by repeat (first | (with_reducible first | exact HB.out | apply below_alloc | apply pw_below_drewN | apply below_drew1 | refine below_set ?_ GE225.out) | exact HB.out)))); have n4_ := Aside0.mk (Kd.R_lower (Kd.R_new' ho1 (Kd.R_lt (by (with_reducible repeat (first | apply Kd.R_alloc | apply Kd.R_drewN | apply Kd.R_drew)); exact (Kd.R_mono (Kd.R_far (p := ⟨gb225, 3, none⟩) (Kd.R_far (p := ⟨gb225, 2, none⟩) (Kd.R_far (p := ⟨gb225, 1, none⟩) (Kd.R_far (p := ⟨gb225, 0, none⟩) (Kd.R_types HO220.out BK225.out (by decide)) (fun _ hk => hk.2) (.bool t214)) (fun _ hk => hk.2) (.slice Ao10 t215.length co10)) (fun _ hk => hk.2) (.slice Ao11 t218.length co11)) (fun _ hk => hk.2) (.slice Ao12 t221.length co12)) (fun _ h_ => h_.1))))) (below_size (by repeat (first | (with_reducible first | exact HB.out | apply below_alloc | apply pw_below_drewN | apply below_drew1 | refine below_set ?_ GE225.out) | exact HB.out)))); have n5_ := Aside0.mk (Kd.R_lower (Kd.R_new' ho2 (Kd.R_lt (by (with_reducible repeat (first | apply Kd.R_alloc | apply Kd.R_drewN | apply Kd.R_drew)); exact (Kd.R_mono (Kd.R_far (p := ⟨gb225, 3, none⟩) (Kd.R_far (p := ⟨gb225, 2, none⟩) (Kd.R_far (p := ⟨gb225, 1, none⟩) (Kd.R_far (p := ⟨gb225, 0, none⟩) (Kd.R_types HO223.out BK225.out (by decide)) (fun _ hk => hk.2) (.bool t214)) (fun _ hk => hk.2) (.slice Ao10 t215.length co10)) (fun _ hk => hk.2) (.slice Ao11 t218.length co11)) (fun _ hk => hk.2) (.slice Ao12 t221.length co12)) (fun _ h_ => h_.1))))) (below_size (by repeat (first | (with_reducible first | exact HB.out | apply below_alloc | apply pw_below_drewN | apply below_drew1 | refine below_set ?_ GE225.out) | exact HB.out)))); have n6_ := Aside0.mk (blk_below (g := gb225) (o := .cells #[.bool t214, .slice Ao10 t215.length co10, .slice Ao11 t218.length co11, .slice Ao12 t221.length co12] 28 (0, 0)) (by (with_reducible repeat (first | refine blk_drewN ?_ _ | refine blk_drew ?_ | refine blk_alloc ?_ _)); refine blk_put (cs := #[.bool t214, .slice Ao10 t215.length co10, .slice Ao11 t218.length co11, .slice none 0 0]) ?_ 3 _ rfl; (with_reducible repeat (first | refine blk_drewN ?_ _ | refine blk_drew ?_ | refine blk_alloc ?_ _)); refine blk_put (cs := #[.bool t214, .slice Ao10 t215.length co10, .slice none 0 0, .slice none 0 0]) ?_ 2 _ rfl; (with_reducible repeat (first | refine blk_drewN ?_ _ | refine blk_drew ?_ | refine blk_alloc ?_ _)); refine blk_put (cs := #[.bool t214, .slice none 0 0, .slice none 0 0, .slice none 0 0]) ?_ 1 _ rfl; (with_reducible repeat (first | refine blk_drewN ?_ _ | refine blk_drew ?_ | refine blk_alloc ?_ _)); refine blk_put (cs := #[.bool false, .slice none 0 0, .slice none 0 0, .slice none 0 0]) ?_ 0 _ rfl; (with_reducible repeat (first | refine blk_drewN ?_ _ | refine blk_drew ?_ | refine blk_alloc ?_ _)); exact BK225.out) hb); have n7_ := Aside0.mk (below_step (by repeat (first | (with_reducible first | exact HB.out | apply below_alloc | apply pw_below_drewN | apply below_drew1 | refine below_set ?_ GE225.out) | exact HB.out)) hb); clear HO217; clear HO220; clear HO223; clear BK225; clear HB; have HO217 := n0_; have HO220 := n1_; have HO223 := n2_; have HO229 := n3_; have HO232 := n4_; have HO235 := n5_; have BK225 := n6_; have HB := n7_; clear n0_ n1_ n2_ n3_ n4_ n5_ n6_ n7_; (try clear hb); (try clear hb2); (try clear hk); (try clear hi); (try clear ho0); (try clear ho1); (try clear ho2)) | ((with_reducible refine gate_dst (N := 9) rfl ?_); refine box_event ?hg (N := 9) ?hd (cs := #[.bool false, .slice none 0 0, .slice none 0 0, .slice none 0 0]) (t := 28) ?hr ?_; (case hd => rfl); (case hg => rfl); (case hr => first | (go_simp; done) | (go_simp; rfl)); intro gb237 hg w14 hbox hb; have n0_ := Aside0.mk (Kd.R_below (b2_ HO217.out) hb); have n1_ := Aside0.mk (Kd.R_below (b2_ HO220.out) hb); have n2_ := Aside0.mk (Kd.R_below (b2_ HO223.out) hb); have n3_ := Aside0.mk (Kd.R_below (b2_ HO229.out) hb); have n4_ := Aside0.mk (Kd.R_below (b2_ HO232.out) hb); have n5_ := Aside0.mk (Kd.R_below (b2_ HO235.out) hb); have n6_ := Aside0.mk (blk_below (g := gb225) (o := .cells #[.bool t214, .slice Ao10 t215.length co10, .slice Ao11 t218.length co11, .slice Ao12 t221.length co12] 28 (0, 0)) (b1_ BK225.out) hb); have n7_ := Aside0.mk (below_step (by repeat (first | (with_reducible first | exact HB.out | apply below_alloc | apply pw_below_drewN | apply below_drew1 | refine below_set ?_ GE225.out) | exact HB.out)) hb); have n8_ := Aside0.mk (hbox); have n9_ := Aside0.mk ((by rw [hg]; exact (below_size (by repeat (first | (with_reducible first | exact HB.out | apply below_alloc | apply pw_below_drewN | apply below_drew1 | refine below_set ?_ GE225.out) | exact HB.out))) : w.heap.size ≤ gb237)); have n10_ := Aside0.mk ((by rw [hg]; exact (below_size (by repeat (first | (with_reducible first | exact HB.out | apply below_alloc | apply pw_below_drewN | apply below_drew1 | refine below_set ?_ GE225.out) | exact HB.out))) : w.heap.size ≤ gb237)); have n11_ := Aside0.mk ((by rw [hg]; exact Nat.ne_of_lt (blk_lt (g := gb225) (o := .cells #[.bool t214, .slice Ao10 t215.length co10, .slice Ao11 t218.length co11, .slice Ao12 t221.length co12] 28 (0, 0)) (b1_ BK225.out)) : gb225 ≠ gb237)); have n12_ := Aside0.mk ((by rw [hg]; exact Nat.ne_of_gt (blk_lt (g := gb225) (o := .cells #[.bool t214, .slice Ao10 t215.length co10, .slice Ao11 t218.length co11, .slice Ao12 t221.length co12] 28 (0, 0)) (b1_ BK225.out)) : gb237 ≠ gb225)); clear HO217; clear HO220; clear HO223; clear HO229; clear HO232; clear HO235; clear BK225; clear HB; have HO217 := n0_; have HO220 := n1_; have HO223 := n2_; have HO229 := n3_; have HO232 := n4_; have HO235 := n5_; have BK225 := n6_; have HB := n7_; have BK237 := n8_; have GW237 := n9_; have GE237 := n10_; have NB225_237 := n11_; have NB237_225 := n12_; clear n0_ n1_ n2_ n3_ n4_ n5_ n6_ n7_ n8_ n9_ n10_ n11_ n12_; clear hb hbox hg; have hnb15 := NB237_225.out; have hnc15 := NB225_237.out; have hcz16_0 : w14.cell? ⟨gb237, 0, none⟩ = some (.bool false) := (blk_cell BK237.out 0).trans rfl; have hcz16_1 : w14.cell? ⟨gb237, 1, none⟩ = some (.slice none 0 0) := (blk_cell BK237.out 1).trans rfl; have hcz16_2 : w14.cell? ⟨gb237, 2, none⟩ = some (.slice none 0 0) := (blk_cell BK237.out 2).trans rfl; have hcz16_3 : w14.cell? ⟨gb237, 3, none⟩ = some (.slice none 0 0) := (blk_cell BK237.out 3).trans rfl; have hfz16_0 := blk_frozen BK237.out 0; have hfz16_1 := blk_frozen BK237.out 1; have hfz16_2 := blk_frozen BK237.out 2; have hfz16_3 := blk_frozen BK237.out 3; obtain ⟨Ao17, co17, eo17⟩ := Kd.R_slice HO229.out; subst eo17; obtain ⟨Ao18, co18, eo18⟩ := Kd.R_slice HO232.out; subst eo18; obtain ⟨Ao19, co19, eo19⟩ := Kd.R_slice HO235.out; subst eo19))
 (try simp only [Act.put, List.setIfInBounds_toArray, List.set_cons_zero, List.set_cons_succ])
 go_cut [37] (fun v37 wc => ∃ (kq : Nat) (x37_5 : Bool), v37 = .bool x37_5 ∧ Aside0 (laws_FnExactNewRoom.j0 kq a0 a1 a2 t224 x37_5 t214 t215 t218 t221 t226 t227 t230 t233 = some r) ∧ Aside0 (kq ≤ k) ∧ Aside0 (Kd.R k36 36 wc w.heap.size (fun k_ => some k_ ≠ ((.slice Ao17 t227.length co17) : Value).ownBlock) (.slice Ao10 t215.length co10) t215) ∧ Aside0 (Kd.R k71 71 wc w.heap.size (fun k_ => some k_ ≠ ((.slice Ao18 t230.length co18) : Value).ownBlock) (.slice Ao11 t218.length co11) t218) ∧ Aside0 (Kd.R k73 73 wc w.heap.size (fun k_ => some k_ ≠ ((.slice Ao19 t233.length co19) : Value).ownBlock) (.slice Ao12 t221.length co12) t221) ∧ Aside0 (Kd.R k36 36 wc w.heap.size (fun k_ => some k_ ≠ ((.slice Ao10 t215.length co10) : Value).ownBlock) (.slice Ao17 t227.length co17) t227) ∧ Aside0 (Kd.R k71 71 wc w.heap.size (fun k_ => some k_ ≠ ((.slice Ao11 t218.length co11) : Value).ownBlock) (.slice Ao18 t230.length co18) t230) ∧ Aside0 (Kd.R k73 73 wc w.heap.size (fun k_ => some k_ ≠ ((.slice Ao12 t221.length co12) : Value).ownBlock) (.slice Ao19 t233.length co19) t233) ∧ Aside0 (wc.heap[gb225]? = some (.cells #[.bool t214, (.slice Ao10 t215.length co10), (.slice Ao11 t218.length co11), (.slice Ao12 t221.length co12)] 28 (0, 0))) ∧ Aside0 (wc.heap[gb237]? = some (.cells #[.bool t226, (.slice Ao17 t227.length co17), (.slice Ao18 t230.length co18), (.slice Ao19 t233.length co19)] 28 (0, 0))) ∧ Aside0 (Below w.heap.size w wc))
 case first =>
  skip
  {
 have H := HC6.out
 clear HC6
 replace H := Option.bind_eq_some_iff.mp H
 obtain ⟨t238, A200, H⟩ := H
 replace H : (if t238 = true then (laws_FnExactNewRoom.j0 k a0 a1 a2 t224 (t236 != t224) t214 t215 t218 t221 t226 t227 t230 t233) else (laws_FnExactNewRoom.j0 k a0 a1 a2 t224 true t214 t215 t218 t221 t226 t227 t230 t233)) = some r := H
 have A20 := Aside0.mk A200
 clear A200
 by_cases c21 : t238 = true
 {
 subst c21
 have H1 : (laws_FnExactNewRoom.j0 k a0 a1 a2 t224 (t236 != t224) t214 t215 t218 t221 t226 t227 t230 t233) = some r := by rw [if_pos rfl] at H; exact H
 clear H
 have H := H1
 clear H1
 have H' := Aside0.mk H
 clear H
 have hnb22 := NB237_225.out
 have hnc22 := NB225_237.out
 have hcz23_0 : w14.cell? ⟨gb237, 0, none⟩ = some (.bool false) := (blk_cell BK237.out 0).trans rfl
 have hcz23_1 : w14.cell? ⟨gb237, 1, none⟩ = some (.slice none 0 0) := (blk_cell BK237.out 1).trans rfl
 have hcz23_2 : w14.cell? ⟨gb237, 2, none⟩ = some (.slice none 0 0) := (blk_cell BK237.out 2).trans rfl
 have hcz23_3 : w14.cell? ⟨gb237, 3, none⟩ = some (.slice none 0 0) := (blk_cell BK237.out 3).trans rfl
 have hfz23_0 := blk_frozen BK237.out 0
 have hfz23_1 := blk_frozen BK237.out 1
 have hfz23_2 := blk_frozen BK237.out 2
 have hfz23_3 := blk_frozen BK237.out 3
 have hcz24_0 : w14.cell? ⟨gb225, 0, none⟩ = some (.bool t214) := (blk_cell BK225.out 0).trans rfl
 have hcz24_1 : w14.cell? ⟨gb225, 1, none⟩ = some (.slice Ao10 t215.length co10) := (blk_cell BK225.out 1).trans rfl
 have hcz24_2 : w14.cell? ⟨gb225, 2, none⟩ = some (.slice Ao11 t218.length co11) := (blk_cell BK225.out 2).trans rfl
 have hcz24_3 : w14.cell? ⟨gb225, 3, none⟩ = some (.slice Ao12 t221.length co12) := (blk_cell BK225.out 3).trans rfl
 have hfz24_0 := blk_frozen BK225.out 0
 have hfz24_1 := blk_frozen BK225.out 1
 have hfz24_2 := blk_frozen BK225.out 2
 have hfz24_3 := blk_frozen BK225.out 3
 go_wp2_with (first | ((with_reducible refine gate_callee (f := 17) rfl ?_); refine goesL_ (some 31) rfl rfl Try.func17 s2_ rfl #[.agg #[.bool t226, .slice Ao17 t227.length co17, .slice Ao18 t230.length co18, .slice Ao19 t233.length co19], .agg #[.bool t214, .slice Ao10 t215.length co10, .slice Ao11 t218.length co11, .slice Ao12 t221.length co12]] rfl s3_ ?_; (with_reducible refine (laws_eqRoom.calls k t226 _ _ t227 _ _ t230 _ _ t233 t214 _ _ t215 _ _ t218 _ _ t221 true _ ?side1 ?side2 ?side3 ?side4 ?side5 ?side6 ?side7 ?side8 ?side9 ?side10 ?side11 ?side12 A20.out).mono ?_); (case side1 => refine (Kd.R_reads' (e := 36) (base := w.heap.size) (ok := fun k_ => (True ∧ some k_ ≠ (.slice Ao10 t215.length co10 : Value).ownBlock)) (n := t227.length) (c := co17) ?_).2.2; exact (by (with_reducible repeat (first | apply Kd.R_alloc | apply Kd.R_drewN | apply Kd.R_drew)); exact (Kd.R_mono (Kd.R_far (p := ⟨gb237, 3, none⟩) (Kd.R_far (p := ⟨gb237, 2, none⟩) (Kd.R_far (p := ⟨gb237, 1, none⟩) (Kd.R_far (p := ⟨gb237, 0, none⟩) (Kd.R_types HO229.out BK237.out (by decide)) (fun _ hk => hk.2) (.bool t226)) (fun _ hk => hk.2) (.slice Ao17 t227.length co17)) (fun _ hk => hk.2) (.slice Ao18 t230.length co18)) (fun _ hk => hk.2) (.slice Ao19 t233.length co19)) (fun _ h_ => h_.1)))); (case side2 => exact (Kd.R_reads' HO229.out).2.1); (case side3 => refine (Kd.R_reads' (e := 71) (base := w.heap.size) (ok := fun k_ => (True ∧ some k_ ≠ (.slice Ao11 t218.length co11 : Value).ownBlock)) (n := t230.length) (c := co18) ?_).2.2; exact (by (with_reducible repeat (first | apply Kd.R_alloc | apply Kd.R_drewN | apply Kd.R_drew)); exact (Kd.R_mono (Kd.R_far (p := ⟨gb237, 3, none⟩) (Kd.R_far (p := ⟨gb237, 2, none⟩) (Kd.R_far (p := ⟨gb237, 1, none⟩) (Kd.R_far (p := ⟨gb237, 0, none⟩) (Kd.R_types HO232.out BK237.out (by decide)) (fun _ hk => hk.2) (.bool t226)) (fun _ hk => hk.2) (.slice Ao17 t227.length co17)) (fun _ hk => hk.2) (.slice Ao18 t230.length co18)) (fun _ hk => hk.2) (.slice Ao19 t233.length co19)) (fun _ h_ => h_.1)))); (case side4 => exact (Kd.R_reads' HO232.out).2.1); (case side5 => refine (Kd.R_reads' (e := 73) (base := w.heap.size) (ok := fun k_ => (True ∧ some k_ ≠ (.slice Ao12 t221.length co12 : Value).ownBlock)) (n := t233.length) (c := co19) ?_).2.2; exact (by (with_reducible repeat (first | apply Kd.R_alloc | apply Kd.R_drewN | apply Kd.R_drew)); exact (Kd.R_mono (Kd.R_far (p := ⟨gb237, 3, none⟩) (Kd.R_far (p := ⟨gb237, 2, none⟩) (Kd.R_far (p := ⟨gb237, 1, none⟩) (Kd.R_far (p := ⟨gb237, 0, none⟩) (Kd.R_types HO235.out BK237.out (by decide)) (fun _ hk => hk.2) (.bool t226)) (fun _ hk => hk.2) (.slice Ao17 t227.length co17)) (fun _ hk => hk.2) (.slice Ao18 t230.length co18)) (fun _ hk => hk.2) (.slice Ao19 t233.length co19)) (fun _ h_ => h_.1)))); (case side6 => exact (Kd.R_reads' HO235.out).2.1); (case side7 => refine (Kd.R_reads' (e := 36) (base := w.heap.size) (ok := fun k_ => (True ∧ some k_ ≠ (.slice Ao17 t227.length co17 : Value).ownBlock)) (n := t215.length) (c := co10) ?_).2.2; exact (by (with_reducible repeat (first | apply Kd.R_alloc | apply Kd.R_drewN | apply Kd.R_drew)); exact (Kd.R_mono (Kd.R_far (p := ⟨gb237, 3, none⟩) (Kd.R_far (p := ⟨gb237, 2, none⟩) (Kd.R_far (p := ⟨gb237, 1, none⟩) (Kd.R_far (p := ⟨gb237, 0, none⟩) (Kd.R_types HO217.out BK237.out (by decide)) (fun _ hk => hk.2) (.bool t226)) (fun _ hk => hk.2) (.slice Ao17 t227.length co17)) (fun _ hk => hk.2) (.slice Ao18 t230.length co18)) (fun _ hk => hk.2) (.slice Ao19 t233.length co19)) (fun _ h_ => h_.1)))); (case side8 => exact (Kd.R_reads' HO217.out).2.1); (case side9 => refine (Kd.R_reads' (e := 71) (base := w.heap.size) (ok := fun k_ => (True ∧ some k_ ≠ (.slice Ao18 t230.length co18 : Value).ownBlock)) (n := t218.length) (c := co11) ?_).2.2; exact (by (with_reducible repeat (first | apply Kd.R_alloc | apply Kd.R_drewN | apply Kd.R_drew)); exact (Kd.R_mono (Kd.R_far (p := ⟨gb237, 3, none⟩) (Kd.R_far (p := ⟨gb237, 2, none⟩) (Kd.R_far (p := ⟨gb237, 1, none⟩) (Kd.R_far (p := ⟨gb237, 0, none⟩) (Kd.R_types HO220.out BK237.out (by decide)) (fun _ hk => hk.2) (.bool t226)) (fun _ hk => hk.2) (.slice Ao17 t227.length co17)) (fun _ hk => hk.2) (.slice Ao18 t230.length co18)) (fun _ hk => hk.2) (.slice Ao19 t233.length co19)) (fun _ h_ => h_.1)))); (case side10 => exact (Kd.R_reads' HO220.out).2.1); (case side11 => refine (Kd.R_reads' (e := 73) (base := w.heap.size) (ok := fun k_ => (True ∧ some k_ ≠ (.slice Ao19 t233.length co19 : Value).ownBlock)) (n := t221.length) (c := co12) ?_).2.2; exact (by (with_reducible repeat (first | apply Kd.R_alloc | apply Kd.R_drewN | apply Kd.R_drew)); exact (Kd.R_mono (Kd.R_far (p := ⟨gb237, 3, none⟩) (Kd.R_far (p := ⟨gb237, 2, none⟩) (Kd.R_far (p := ⟨gb237, 1, none⟩) (Kd.R_far (p := ⟨gb237, 0, none⟩) (Kd.R_types HO223.out BK237.out (by decide)) (fun _ hk => hk.2) (.bool t226)) (fun _ hk => hk.2) (.slice Ao17 t227.length co17)) (fun _ hk => hk.2) (.slice Ao18 t230.length co18)) (fun _ hk => hk.2) (.slice Ao19 t233.length co19)) (fun _ h_ => h_.1)))); (case side12 => exact (Kd.R_reads' HO223.out).2.1); rintro e w25 ⟨rfl, hb⟩; refine ⟨_, rfl, ?_⟩; have n0_ := Aside0.mk (Kd.R_below (by (with_reducible repeat (first | apply Kd.R_alloc | apply Kd.R_drewN | apply Kd.R_drew)); exact (Kd.R_mono (Kd.R_far (p := ⟨gb237, 3, none⟩) (Kd.R_far (p := ⟨gb237, 2, none⟩) (Kd.R_far (p := ⟨gb237, 1, none⟩) (Kd.R_far (p := ⟨gb237, 0, none⟩) (Kd.R_types HO217.out BK237.out (by decide)) (fun _ hk => hk.2) (.bool t226)) (fun _ hk => hk.2) (.slice Ao17 t227.length co17)) (fun _ hk => hk.2) (.slice Ao18 t230.length co18)) (fun _ hk => hk.2) (.slice Ao19 t233.length co19)) (fun _ h_ => h_.1))) hb); have n1_ := Aside0.mk (Kd.R_below (by (with_reducible repeat (first | apply Kd.R_alloc | apply Kd.R_drewN | apply Kd.R_drew)); exact (Kd.R_mono (Kd.R_far (p := ⟨gb237, 3, none⟩) (Kd.R_far (p := ⟨gb237, 2, none⟩) (Kd.R_far (p := ⟨gb237, 1, none⟩) (Kd.R_far (p := ⟨gb237, 0, none⟩) (Kd.R_types HO220.out BK237.out (by decide)) (fun _ hk => hk.2) (.bool t226)) (fun _ hk => hk.2) (.slice Ao17 t227.length co17)) (fun _ hk => hk.2) (.slice Ao18 t230.length co18)) (fun _ hk => hk.2) (.slice Ao19 t233.length co19)) (fun _ h_ => h_.1))) hb); have n2_ := Aside0.mk (Kd.R_below (by (with_reducible repeat (first | apply Kd.R_alloc | apply Kd.R_drewN | apply Kd.R_drew)); exact (Kd.R_mono (Kd.R_far (p := ⟨gb237, 3, none⟩) (Kd.R_far (p := ⟨gb237, 2, none⟩) (Kd.R_far (p := ⟨gb237, 1, none⟩) (Kd.R_far (p := ⟨gb237, 0, none⟩) (Kd.R_types HO223.out BK237.out (by decide)) (fun _ hk => hk.2) (.bool t226)) (fun _ hk => hk.2) (.slice Ao17 t227.length co17)) (fun _ hk => hk.2) (.slice Ao18 t230.length co18)) (fun _ hk => hk.2) (.slice Ao19 t233.length co19)) (fun _ h_ => h_.1))) hb); have n3_ := Aside0.mk (Kd.R_below (by (with_reducible repeat (first | apply Kd.R_alloc | apply Kd.R_drewN | apply Kd.R_drew)); exact (Kd.R_mono (Kd.R_far (p := ⟨gb237, 3, none⟩) (Kd.R_far (p := ⟨gb237, 2, none⟩) (Kd.R_far (p := ⟨gb237, 1, none⟩) (Kd.R_far (p := ⟨gb237, 0, none⟩) (Kd.R_types HO229.out BK237.out (by decide)) (fun _ hk => hk.2) (.bool t226)) (fun _ hk => hk.2) (.slice Ao17 t227.length co17)) (fun _ hk => hk.2) (.slice Ao18 t230.length co18)) (fun _ hk => hk.2) (.slice Ao19 t233.length co19)) (fun _ h_ => h_.1))) hb); have n4_ := Aside0.mk (Kd.R_below (by (with_reducible repeat (first | apply Kd.R_alloc | apply Kd.R_drewN | apply Kd.R_drew)); exact (Kd.R_mono (Kd.R_far (p := ⟨gb237, 3, none⟩) (Kd.R_far (p := ⟨gb237, 2, none⟩) (Kd.R_far (p := ⟨gb237, 1, none⟩) (Kd.R_far (p := ⟨gb237, 0, none⟩) (Kd.R_types HO232.out BK237.out (by decide)) (fun _ hk => hk.2) (.bool t226)) (fun _ hk => hk.2) (.slice Ao17 t227.length co17)) (fun _ hk => hk.2) (.slice Ao18 t230.length co18)) (fun _ hk => hk.2) (.slice Ao19 t233.length co19)) (fun _ h_ => h_.1))) hb); have n5_ := Aside0.mk (Kd.R_below (by (with_reducible repeat (first | apply Kd.R_alloc | apply Kd.R_drewN | apply Kd.R_drew)); exact (Kd.R_mono (Kd.R_far (p := ⟨gb237, 3, none⟩) (Kd.R_far (p := ⟨gb237, 2, none⟩) (Kd.R_far (p := ⟨gb237, 1, none⟩) (Kd.R_far (p := ⟨gb237, 0, none⟩) (Kd.R_types HO235.out BK237.out (by decide)) (fun _ hk => hk.2) (.bool t226)) (fun _ hk => hk.2) (.slice Ao17 t227.length co17)) (fun _ hk => hk.2) (.slice Ao18 t230.length co18)) (fun _ hk => hk.2) (.slice Ao19 t233.length co19)) (fun _ h_ => h_.1))) hb); have n6_ := Aside0.mk (blk_below (g := gb225) (o := .cells #[.bool t214, .slice Ao10 t215.length co10, .slice Ao11 t218.length co11, .slice Ao12 t221.length co12] 28 (0, 0)) (by (with_reducible repeat (first | refine blk_drewN ?_ _ | refine blk_drew ?_ | refine blk_alloc ?_ _)); refine blk_far ?_ NB225_237.out _; (with_reducible repeat (first | refine blk_drewN ?_ _ | refine blk_drew ?_ | refine blk_alloc ?_ _)); refine blk_far ?_ NB225_237.out _; (with_reducible repeat (first | refine blk_drewN ?_ _ | refine blk_drew ?_ | refine blk_alloc ?_ _)); refine blk_far ?_ NB225_237.out _; (with_reducible repeat (first | refine blk_drewN ?_ _ | refine blk_drew ?_ | refine blk_alloc ?_ _)); refine blk_far ?_ NB225_237.out _; (with_reducible repeat (first | refine blk_drewN ?_ _ | refine blk_drew ?_ | refine blk_alloc ?_ _)); exact BK225.out) hb); have n7_ := Aside0.mk (blk_below (g := gb237) (o := .cells #[.bool t226, .slice Ao17 t227.length co17, .slice Ao18 t230.length co18, .slice Ao19 t233.length co19] 28 (0, 0)) (by (with_reducible repeat (first | refine blk_drewN ?_ _ | refine blk_drew ?_ | refine blk_alloc ?_ _)); refine blk_put (cs := #[.bool t226, .slice Ao17 t227.length co17, .slice Ao18 t230.length co18, .slice none 0 0]) ?_ 3 _ rfl; (with_reducible repeat (first | refine blk_drewN ?_ _ | refine blk_drew ?_ | refine blk_alloc ?_ _)); refine blk_put (cs := #[.bool t226, .slice Ao17 t227.length co17, .slice none 0 0, .slice none 0 0]) ?_ 2 _ rfl; (with_reducible repeat (first | refine blk_drewN ?_ _ | refine blk_drew ?_ | refine blk_alloc ?_ _)); refine blk_put (cs := #[.bool t226, .slice none 0 0, .slice none 0 0, .slice none 0 0]) ?_ 1 _ rfl; (with_reducible repeat (first | refine blk_drewN ?_ _ | refine blk_drew ?_ | refine blk_alloc ?_ _)); refine blk_put (cs := #[.bool false, .slice none 0 0, .slice none 0 0, .slice none 0 0]) ?_ 0 _ rfl; (with_reducible repeat (first | refine blk_drewN ?_ _ | refine blk_drew ?_ | refine blk_alloc ?_ _)); exact BK237.out) hb); have n8_ := Aside0.mk (below_step (by repeat (first | (with_reducible first | exact HB.out | apply below_alloc | apply pw_below_drewN | apply below_drew1 | refine below_set ?_ GE225.out | refine below_set ?_ GE237.out) | exact HB.out)) hb); clear HO217; clear HO220; clear HO223; clear HO229; clear HO232; clear HO235; clear BK225; clear BK237; clear HB; have HO217 := n0_; have HO220 := n1_; have HO223 := n2_; have HO229 := n3_; have HO232 := n4_; have HO235 := n5_; have BK225 := n6_; have BK237 := n7_; have HB := n8_; clear n0_ n1_ n2_ n3_ n4_ n5_ n6_ n7_ n8_; (try clear hb); (try clear hb2); (try clear hk); (try clear hi)))
 go_meet
 case rel => exact ⟨_, ((t236 != t224)), s1_, H', ⟨by first | omega | exact Nat.le_refl _⟩, ⟨by (with_reducible repeat (first | apply Kd.R_alloc | apply Kd.R_drewN | apply Kd.R_drew)); exact Kd.R_mono HO217.out (fun _ hk => hk.2)⟩, ⟨by (with_reducible repeat (first | apply Kd.R_alloc | apply Kd.R_drewN | apply Kd.R_drew)); exact Kd.R_mono HO220.out (fun _ hk => hk.2)⟩, ⟨by (with_reducible repeat (first | apply Kd.R_alloc | apply Kd.R_drewN | apply Kd.R_drew)); exact Kd.R_mono HO223.out (fun _ hk => hk.2)⟩, ⟨by (with_reducible repeat (first | apply Kd.R_alloc | apply Kd.R_drewN | apply Kd.R_drew)); exact Kd.R_mono HO229.out (fun _ hk => hk.2)⟩, ⟨by (with_reducible repeat (first | apply Kd.R_alloc | apply Kd.R_drewN | apply Kd.R_drew)); exact Kd.R_mono HO232.out (fun _ hk => hk.2)⟩, ⟨by (with_reducible repeat (first | apply Kd.R_alloc | apply Kd.R_drewN | apply Kd.R_drew)); exact Kd.R_mono HO235.out (fun _ hk => hk.2)⟩, ⟨b1_ BK225.out⟩, ⟨b1_ BK237.out⟩, ⟨by repeat (first | (with_reducible first | exact HB.out | apply below_alloc | apply pw_below_drewN | apply below_drew1 | refine below_set ?_ GE225.out | refine below_set ?_ GE237.out) | exact HB.out)⟩⟩}
 {
 replace c21 := Bool.eq_false_iff.mpr c21
 subst c21
 have H1 : (laws_FnExactNewRoom.j0 k a0 a1 a2 t224 true t214 t215 t218 t221 t226 t227 t230 t233) = some r := by rw [if_neg (show ¬ (false = true) by decide)] at H; exact H
 clear H
 have H := H1
 clear H1
 have H' := Aside0.mk H
 clear H
 have hnb26 := NB237_225.out
 have hnc26 := NB225_237.out
 have hcz27_0 : w14.cell? ⟨gb237, 0, none⟩ = some (.bool false) := (blk_cell BK237.out 0).trans rfl
 have hcz27_1 : w14.cell? ⟨gb237, 1, none⟩ = some (.slice none 0 0) := (blk_cell BK237.out 1).trans rfl
 have hcz27_2 : w14.cell? ⟨gb237, 2, none⟩ = some (.slice none 0 0) := (blk_cell BK237.out 2).trans rfl
 have hcz27_3 : w14.cell? ⟨gb237, 3, none⟩ = some (.slice none 0 0) := (blk_cell BK237.out 3).trans rfl
 have hfz27_0 := blk_frozen BK237.out 0
 have hfz27_1 := blk_frozen BK237.out 1
 have hfz27_2 := blk_frozen BK237.out 2
 have hfz27_3 := blk_frozen BK237.out 3
 have hcz28_0 : w14.cell? ⟨gb225, 0, none⟩ = some (.bool t214) := (blk_cell BK225.out 0).trans rfl
 have hcz28_1 : w14.cell? ⟨gb225, 1, none⟩ = some (.slice Ao10 t215.length co10) := (blk_cell BK225.out 1).trans rfl
 have hcz28_2 : w14.cell? ⟨gb225, 2, none⟩ = some (.slice Ao11 t218.length co11) := (blk_cell BK225.out 2).trans rfl
 have hcz28_3 : w14.cell? ⟨gb225, 3, none⟩ = some (.slice Ao12 t221.length co12) := (blk_cell BK225.out 3).trans rfl
 have hfz28_0 := blk_frozen BK225.out 0
 have hfz28_1 := blk_frozen BK225.out 1
 have hfz28_2 := blk_frozen BK225.out 2
 have hfz28_3 := blk_frozen BK225.out 3
 go_wp2_with (first | ((with_reducible refine gate_callee (f := 17) rfl ?_); refine goesL_ (some 31) rfl rfl Try.func17 s2_ rfl #[.agg #[.bool t226, .slice Ao17 t227.length co17, .slice Ao18 t230.length co18, .slice Ao19 t233.length co19], .agg #[.bool t214, .slice Ao10 t215.length co10, .slice Ao11 t218.length co11, .slice Ao12 t221.length co12]] rfl s3_ ?_; (with_reducible refine (laws_eqRoom.calls k t226 _ _ t227 _ _ t230 _ _ t233 t214 _ _ t215 _ _ t218 _ _ t221 false _ ?side1 ?side2 ?side3 ?side4 ?side5 ?side6 ?side7 ?side8 ?side9 ?side10 ?side11 ?side12 A20.out).mono ?_); (case side1 => refine (Kd.R_reads' (e := 36) (base := w.heap.size) (ok := fun k_ => (True ∧ some k_ ≠ (.slice Ao10 t215.length co10 : Value).ownBlock)) (n := t227.length) (c := co17) ?_).2.2; exact (by (with_reducible repeat (first | apply Kd.R_alloc | apply Kd.R_drewN | apply Kd.R_drew)); exact (Kd.R_mono (Kd.R_far (p := ⟨gb237, 3, none⟩) (Kd.R_far (p := ⟨gb237, 2, none⟩) (Kd.R_far (p := ⟨gb237, 1, none⟩) (Kd.R_far (p := ⟨gb237, 0, none⟩) (Kd.R_types HO229.out BK237.out (by decide)) (fun _ hk => hk.2) (.bool t226)) (fun _ hk => hk.2) (.slice Ao17 t227.length co17)) (fun _ hk => hk.2) (.slice Ao18 t230.length co18)) (fun _ hk => hk.2) (.slice Ao19 t233.length co19)) (fun _ h_ => h_.1)))); (case side2 => exact (Kd.R_reads' HO229.out).2.1); (case side3 => refine (Kd.R_reads' (e := 71) (base := w.heap.size) (ok := fun k_ => (True ∧ some k_ ≠ (.slice Ao11 t218.length co11 : Value).ownBlock)) (n := t230.length) (c := co18) ?_).2.2; exact (by (with_reducible repeat (first | apply Kd.R_alloc | apply Kd.R_drewN | apply Kd.R_drew)); exact (Kd.R_mono (Kd.R_far (p := ⟨gb237, 3, none⟩) (Kd.R_far (p := ⟨gb237, 2, none⟩) (Kd.R_far (p := ⟨gb237, 1, none⟩) (Kd.R_far (p := ⟨gb237, 0, none⟩) (Kd.R_types HO232.out BK237.out (by decide)) (fun _ hk => hk.2) (.bool t226)) (fun _ hk => hk.2) (.slice Ao17 t227.length co17)) (fun _ hk => hk.2) (.slice Ao18 t230.length co18)) (fun _ hk => hk.2) (.slice Ao19 t233.length co19)) (fun _ h_ => h_.1)))); (case side4 => exact (Kd.R_reads' HO232.out).2.1); (case side5 => refine (Kd.R_reads' (e := 73) (base := w.heap.size) (ok := fun k_ => (True ∧ some k_ ≠ (.slice Ao12 t221.length co12 : Value).ownBlock)) (n := t233.length) (c := co19) ?_).2.2; exact (by (with_reducible repeat (first | apply Kd.R_alloc | apply Kd.R_drewN | apply Kd.R_drew)); exact (Kd.R_mono (Kd.R_far (p := ⟨gb237, 3, none⟩) (Kd.R_far (p := ⟨gb237, 2, none⟩) (Kd.R_far (p := ⟨gb237, 1, none⟩) (Kd.R_far (p := ⟨gb237, 0, none⟩) (Kd.R_types HO235.out BK237.out (by decide)) (fun _ hk => hk.2) (.bool t226)) (fun _ hk => hk.2) (.slice Ao17 t227.length co17)) (fun _ hk => hk.2) (.slice Ao18 t230.length co18)) (fun _ hk => hk.2) (.slice Ao19 t233.length co19)) (fun _ h_ => h_.1)))); (case side6 => exact (Kd.R_reads' HO235.out).2.1); (case side7 => refine (Kd.R_reads' (e := 36) (base := w.heap.size) (ok := fun k_ => (True ∧ some k_ ≠ (.slice Ao17 t227.length co17 : Value).ownBlock)) (n := t215.length) (c := co10) ?_).2.2; exact (by (with_reducible repeat (first | apply Kd.R_alloc | apply Kd.R_drewN | apply Kd.R_drew)); exact (Kd.R_mono (Kd.R_far (p := ⟨gb237, 3, none⟩) (Kd.R_far (p := ⟨gb237, 2, none⟩) (Kd.R_far (p := ⟨gb237, 1, none⟩) (Kd.R_far (p := ⟨gb237, 0, none⟩) (Kd.R_types HO217.out BK237.out (by decide)) (fun _ hk => hk.2) (.bool t226)) (fun _ hk => hk.2) (.slice Ao17 t227.length co17)) (fun _ hk => hk.2) (.slice Ao18 t230.length co18)) (fun _ hk => hk.2) (.slice Ao19 t233.length co19)) (fun _ h_ => h_.1)))); (case side8 => exact (Kd.R_reads' HO217.out).2.1); (case side9 => refine (Kd.R_reads' (e := 71) (base := w.heap.size) (ok := fun k_ => (True ∧ some k_ ≠ (.slice Ao18 t230.length co18 : Value).ownBlock)) (n := t218.length) (c := co11) ?_).2.2; exact (by (with_reducible repeat (first | apply Kd.R_alloc | apply Kd.R_drewN | apply Kd.R_drew)); exact (Kd.R_mono (Kd.R_far (p := ⟨gb237, 3, none⟩) (Kd.R_far (p := ⟨gb237, 2, none⟩) (Kd.R_far (p := ⟨gb237, 1, none⟩) (Kd.R_far (p := ⟨gb237, 0, none⟩) (Kd.R_types HO220.out BK237.out (by decide)) (fun _ hk => hk.2) (.bool t226)) (fun _ hk => hk.2) (.slice Ao17 t227.length co17)) (fun _ hk => hk.2) (.slice Ao18 t230.length co18)) (fun _ hk => hk.2) (.slice Ao19 t233.length co19)) (fun _ h_ => h_.1)))); (case side10 => exact (Kd.R_reads' HO220.out).2.1); (case side11 => refine (Kd.R_reads' (e := 73) (base := w.heap.size) (ok := fun k_ => (True ∧ some k_ ≠ (.slice Ao19 t233.length co19 : Value).ownBlock)) (n := t221.length) (c := co12) ?_).2.2; exact (by (with_reducible repeat (first | apply Kd.R_alloc | apply Kd.R_drewN | apply Kd.R_drew)); exact (Kd.R_mono (Kd.R_far (p := ⟨gb237, 3, none⟩) (Kd.R_far (p := ⟨gb237, 2, none⟩) (Kd.R_far (p := ⟨gb237, 1, none⟩) (Kd.R_far (p := ⟨gb237, 0, none⟩) (Kd.R_types HO223.out BK237.out (by decide)) (fun _ hk => hk.2) (.bool t226)) (fun _ hk => hk.2) (.slice Ao17 t227.length co17)) (fun _ hk => hk.2) (.slice Ao18 t230.length co18)) (fun _ hk => hk.2) (.slice Ao19 t233.length co19)) (fun _ h_ => h_.1)))); (case side12 => exact (Kd.R_reads' HO223.out).2.1); rintro e w29 ⟨rfl, hb⟩; refine ⟨_, rfl, ?_⟩; have n0_ := Aside0.mk (Kd.R_below (by (with_reducible repeat (first | apply Kd.R_alloc | apply Kd.R_drewN | apply Kd.R_drew)); exact (Kd.R_mono (Kd.R_far (p := ⟨gb237, 3, none⟩) (Kd.R_far (p := ⟨gb237, 2, none⟩) (Kd.R_far (p := ⟨gb237, 1, none⟩) (Kd.R_far (p := ⟨gb237, 0, none⟩) (Kd.R_types HO217.out BK237.out (by decide)) (fun _ hk => hk.2) (.bool t226)) (fun _ hk => hk.2) (.slice Ao17 t227.length co17)) (fun _ hk => hk.2) (.slice Ao18 t230.length co18)) (fun _ hk => hk.2) (.slice Ao19 t233.length co19)) (fun _ h_ => h_.1))) hb); have n1_ := Aside0.mk (Kd.R_below (by (with_reducible repeat (first | apply Kd.R_alloc | apply Kd.R_drewN | apply Kd.R_drew)); exact (Kd.R_mono (Kd.R_far (p := ⟨gb237, 3, none⟩) (Kd.R_far (p := ⟨gb237, 2, none⟩) (Kd.R_far (p := ⟨gb237, 1, none⟩) (Kd.R_far (p := ⟨gb237, 0, none⟩) (Kd.R_types HO220.out BK237.out (by decide)) (fun _ hk => hk.2) (.bool t226)) (fun _ hk => hk.2) (.slice Ao17 t227.length co17)) (fun _ hk => hk.2) (.slice Ao18 t230.length co18)) (fun _ hk => hk.2) (.slice Ao19 t233.length co19)) (fun _ h_ => h_.1))) hb); have n2_ := Aside0.mk (Kd.R_below (by (with_reducible repeat (first | apply Kd.R_alloc | apply Kd.R_drewN | apply Kd.R_drew)); exact (Kd.R_mono (Kd.R_far (p := ⟨gb237, 3, none⟩) (Kd.R_far (p := ⟨gb237, 2, none⟩) (Kd.R_far (p := ⟨gb237, 1, none⟩) (Kd.R_far (p := ⟨gb237, 0, none⟩) (Kd.R_types HO223.out BK237.out (by decide)) (fun _ hk => hk.2) (.bool t226)) (fun _ hk => hk.2) (.slice Ao17 t227.length co17)) (fun _ hk => hk.2) (.slice Ao18 t230.length co18)) (fun _ hk => hk.2) (.slice Ao19 t233.length co19)) (fun _ h_ => h_.1))) hb); have n3_ := Aside0.mk (Kd.R_below (by (with_reducible repeat (first | apply Kd.R_alloc | apply Kd.R_drewN | apply Kd.R_drew)); exact (Kd.R_mono (Kd.R_far (p := ⟨gb237, 3, none⟩) (Kd.R_far (p := ⟨gb237, 2, none⟩) (Kd.R_far (p := ⟨gb237, 1, none⟩) (Kd.R_far (p := ⟨gb237, 0, none⟩) (Kd.R_types HO229.out BK237.out (by decide)) (fun _ hk => hk.2) (.bool t226)) (fun _ hk => hk.2) (.slice Ao17 t227.length co17)) (fun _ hk => hk.2) (.slice Ao18 t230.length co18)) (fun _ hk => hk.2) (.slice Ao19 t233.length co19)) (fun _ h_ => h_.1))) hb); have n4_ := Aside0.mk (Kd.R_below (by (with_reducible repeat (first | apply Kd.R_alloc | apply Kd.R_drewN | apply Kd.R_drew)); exact (Kd.R_mono (Kd.R_far (p := ⟨gb237, 3, none⟩) (Kd.R_far (p := ⟨gb237, 2, none⟩) (Kd.R_far (p := ⟨gb237, 1, none⟩) (Kd.R_far (p := ⟨gb237, 0, none⟩) (Kd.R_types HO232.out BK237.out (by decide)) (fun _ hk => hk.2) (.bool t226)) (fun _ hk => hk.2) (.slice Ao17 t227.length co17)) (fun _ hk => hk.2) (.slice Ao18 t230.length co18)) (fun _ hk => hk.2) (.slice Ao19 t233.length co19)) (fun _ h_ => h_.1))) hb); have n5_ := Aside0.mk (Kd.R_below (by (with_reducible repeat (first | apply Kd.R_alloc | apply Kd.R_drewN | apply Kd.R_drew)); exact (Kd.R_mono (Kd.R_far (p := ⟨gb237, 3, none⟩) (Kd.R_far (p := ⟨gb237, 2, none⟩) (Kd.R_far (p := ⟨gb237, 1, none⟩) (Kd.R_far (p := ⟨gb237, 0, none⟩) (Kd.R_types HO235.out BK237.out (by decide)) (fun _ hk => hk.2) (.bool t226)) (fun _ hk => hk.2) (.slice Ao17 t227.length co17)) (fun _ hk => hk.2) (.slice Ao18 t230.length co18)) (fun _ hk => hk.2) (.slice Ao19 t233.length co19)) (fun _ h_ => h_.1))) hb); have n6_ := Aside0.mk (blk_below (g := gb225) (o := .cells #[.bool t214, .slice Ao10 t215.length co10, .slice Ao11 t218.length co11, .slice Ao12 t221.length co12] 28 (0, 0)) (by (with_reducible repeat (first | refine blk_drewN ?_ _ | refine blk_drew ?_ | refine blk_alloc ?_ _)); refine blk_far ?_ NB225_237.out _; (with_reducible repeat (first | refine blk_drewN ?_ _ | refine blk_drew ?_ | refine blk_alloc ?_ _)); refine blk_far ?_ NB225_237.out _; (with_reducible repeat (first | refine blk_drewN ?_ _ | refine blk_drew ?_ | refine blk_alloc ?_ _)); refine blk_far ?_ NB225_237.out _; (with_reducible repeat (first | refine blk_drewN ?_ _ | refine blk_drew ?_ | refine blk_alloc ?_ _)); refine blk_far ?_ NB225_237.out _; (with_reducible repeat (first | refine blk_drewN ?_ _ | refine blk_drew ?_ | refine blk_alloc ?_ _)); exact BK225.out) hb); have n7_ := Aside0.mk (blk_below (g := gb237) (o := .cells #[.bool t226, .slice Ao17 t227.length co17, .slice Ao18 t230.length co18, .slice Ao19 t233.length co19] 28 (0, 0)) (by (with_reducible repeat (first | refine blk_drewN ?_ _ | refine blk_drew ?_ | refine blk_alloc ?_ _)); refine blk_put (cs := #[.bool t226, .slice Ao17 t227.length co17, .slice Ao18 t230.length co18, .slice none 0 0]) ?_ 3 _ rfl; (with_reducible repeat (first | refine blk_drewN ?_ _ | refine blk_drew ?_ | refine blk_alloc ?_ _)); refine blk_put (cs := #[.bool t226, .slice Ao17 t227.length co17, .slice none 0 0, .slice none 0 0]) ?_ 2 _ rfl; (with_reducible repeat (first | refine blk_drewN ?_ _ | refine blk_drew ?_ | refine blk_alloc ?_ _)); refine blk_put (cs := #[.bool t226, .slice none 0 0, .slice none 0 0, .slice none 0 0]) ?_ 1 _ rfl; (with_reducible repeat (first | refine blk_drewN ?_ _ | refine blk_drew ?_ | refine blk_alloc ?_ _)); refine blk_put (cs := #[.bool false, .slice none 0 0, .slice none 0 0, .slice none 0 0]) ?_ 0 _ rfl; (with_reducible repeat (first | refine blk_drewN ?_ _ | refine blk_drew ?_ | refine blk_alloc ?_ _)); exact BK237.out) hb); have n8_ := Aside0.mk (below_step (by repeat (first | (with_reducible first | exact HB.out | apply below_alloc | apply pw_below_drewN | apply below_drew1 | refine below_set ?_ GE225.out | refine below_set ?_ GE237.out) | exact HB.out)) hb); clear HO217; clear HO220; clear HO223; clear HO229; clear HO232; clear HO235; clear BK225; clear BK237; clear HB; have HO217 := n0_; have HO220 := n1_; have HO223 := n2_; have HO229 := n3_; have HO232 := n4_; have HO235 := n5_; have BK225 := n6_; have BK237 := n7_; have HB := n8_; clear n0_ n1_ n2_ n3_ n4_ n5_ n6_ n7_ n8_; (try clear hb); (try clear hb2); (try clear hk); (try clear hi)))
 go_meet
 case rel => exact ⟨_, (true), s1_, H', ⟨by first | omega | exact Nat.le_refl _⟩, ⟨by (with_reducible repeat (first | apply Kd.R_alloc | apply Kd.R_drewN | apply Kd.R_drew)); exact Kd.R_mono HO217.out (fun _ hk => hk.2)⟩, ⟨by (with_reducible repeat (first | apply Kd.R_alloc | apply Kd.R_drewN | apply Kd.R_drew)); exact Kd.R_mono HO220.out (fun _ hk => hk.2)⟩, ⟨by (with_reducible repeat (first | apply Kd.R_alloc | apply Kd.R_drewN | apply Kd.R_drew)); exact Kd.R_mono HO223.out (fun _ hk => hk.2)⟩, ⟨by (with_reducible repeat (first | apply Kd.R_alloc | apply Kd.R_drewN | apply Kd.R_drew)); exact Kd.R_mono HO229.out (fun _ hk => hk.2)⟩, ⟨by (with_reducible repeat (first | apply Kd.R_alloc | apply Kd.R_drewN | apply Kd.R_drew)); exact Kd.R_mono HO232.out (fun _ hk => hk.2)⟩, ⟨by (with_reducible repeat (first | apply Kd.R_alloc | apply Kd.R_drewN | apply Kd.R_drew)); exact Kd.R_mono HO235.out (fun _ hk => hk.2)⟩, ⟨b1_ BK225.out⟩, ⟨b1_ BK237.out⟩, ⟨by repeat (first | (with_reducible first | exact HB.out | apply below_alloc | apply pw_below_drewN | apply below_drew1 | refine below_set ?_ GE225.out | refine below_set ?_ GE237.out) | exact HB.out)⟩⟩}}
 case rest =>
  skip
  {
 clear HC6
 try clear c1
 try clear c2
 try clear p2
 try clear c4
 try clear c15
 try clear c16
 try clear c17
 try clear c21
 try clear c22
 try clear c26
 try clear hcz16_0
 try clear hcz16_1
 try clear hcz16_2
 try clear hcz16_3
 try clear hcz23_0
 try clear hcz23_1
 try clear hcz23_2
 try clear hcz23_3
 try clear hcz24_0
 try clear hcz24_1
 try clear hcz24_2
 try clear hcz24_3
 try clear hcz27_0
 try clear hcz27_1
 try clear hcz27_2
 try clear hcz27_3
 try clear hcz28_0
 try clear hcz28_1
 try clear hcz28_2
 try clear hcz28_3
 try clear hcz9_0
 try clear hcz9_1
 try clear hcz9_2
 try clear hcz9_3
 try clear hfz16_0
 try clear hfz16_1
 try clear hfz16_2
 try clear hfz16_3
 try clear hfz23_0
 try clear hfz23_1
 try clear hfz23_2
 try clear hfz23_3
 try clear hfz24_0
 try clear hfz24_1
 try clear hfz24_2
 try clear hfz24_3
 try clear hfz27_0
 try clear hfz27_1
 try clear hfz27_2
 try clear hfz27_3
 try clear hfz28_0
 try clear hfz28_1
 try clear hfz28_2
 try clear hfz28_3
 try clear hfz9_0
 try clear hfz9_1
 try clear hfz9_2
 try clear hfz9_3
 obtain ⟨kq, x37_5, rfl, HA, HJ5, HO_226001, HO_226002, HO_226003, HO_238001, HO_238002, HO_238003, BK225, BK237, HB⟩ := hcut
 cases kq with
 | zero => exact absurd HA.out (by simp [laws_FnExactNewRoom.j0])
 | succ kj5 =>
  skip
  {
 have H := HA.out
 clear HA
 simp only [laws_FnExactNewRoom.j0] at H
 by_cases c30 : x37_5 = true
 {
 subst c30
 have H1 : (some false) = some r := by rw [if_pos rfl] at H; exact H
 clear H
 have H := H1
 clear H1
 obtain rfl := Option.some.inj H
 go_wp2
 go_ret
 exact ⟨by first | rfl | (simp [errW_none, errW_some] <;> rfl) | (simp [*, errW_none, errW_some] <;> rfl), by repeat (first | (with_reducible first | exact HB.out | apply below_alloc | apply pw_below_drewN | apply below_drew1 | refine below_set ?_ GE225.out | refine below_set ?_ GE237.out) | exact HB.out)⟩}
 {
 replace c30 := Bool.eq_false_iff.mpr c30
 subst c30
 have H1 : ((laws_markRoom.f kj5 t226 t227 t230 t233 1).bind fun bt239 => ((laws_heldRoom.f kj5 t226 bt239.2.1 bt239.2.2.1 bt239.2.2.2 1).bind fun t243 => (if t243 < 0 then (some false) else (if t243 = bt239.1 then ((impl_NewRoom.f kj5 a0 a1 a2).bind fun bt244 => ((laws_eqRoom.f kj5 bt244.1 bt244.2.1 bt244.2.2.1 bt244.2.2.2.1 t214 t215 t218 t221).bind fun t256 => (if t256 = true then (laws_FnExactNewRoom.j1 kj5 bt239.1 (bt244.2.2.2.2 != t224) t226 bt239.2.1 bt239.2.2.1 bt239.2.2.2) else (laws_FnExactNewRoom.j1 kj5 bt239.1 true t226 bt239.2.1 bt239.2.2.1 bt239.2.2.2)))) else (some false))))) = some r := by rw [if_neg (show ¬ (false = true) by decide)] at H; exact H
 clear H
 have H := H1
 clear H1
 replace H := Option.bind_eq_some_iff.mp H
 obtain ⟨⟨t239, t240, t241, t242⟩, A310, H⟩ := H
 replace H : ((laws_heldRoom.f kj5 t226 t240 t241 t242 1).bind fun t243 => (if t243 < 0 then (some false) else (if t243 = t239 then ((impl_NewRoom.f kj5 a0 a1 a2).bind fun bt244 => ((laws_eqRoom.f kj5 bt244.1 bt244.2.1 bt244.2.2.1 bt244.2.2.2.1 t214 t215 t218 t221).bind fun t256 => (if t256 = true then (laws_FnExactNewRoom.j1 kj5 t239 (bt244.2.2.2.2 != t224) t226 t240 t241 t242) else (laws_FnExactNewRoom.j1 kj5 t239 true t226 t240 t241 t242)))) else (some false)))) = some r := H
 have A31 := Aside0.mk A310
 clear A310
 replace H := Option.bind_eq_some_iff.mp H
 obtain ⟨t243, A320, H⟩ := H
 replace H : (if t243 < 0 then (some false) else (if t243 = t239 then ((impl_NewRoom.f kj5 a0 a1 a2).bind fun bt244 => ((laws_eqRoom.f kj5 bt244.1 bt244.2.1 bt244.2.2.1 bt244.2.2.2.1 t214 t215 t218 t221).bind fun t256 => (if t256 = true then (laws_FnExactNewRoom.j1 kj5 t239 (bt244.2.2.2.2 != t224) t226 t240 t241 t242) else (laws_FnExactNewRoom.j1 kj5 t239 true t226 t240 t241 t242)))) else (some false))) = some r := H
 have A32 := Aside0.mk A320
 clear A320
 by_cases c33 : t243 < 0
 {
 rw [if_pos c33] at H
 have c33b0 : decide (t243 < 0) = true := decide_eq_true c33
 clear c33
 obtain rfl := Option.some.inj H
 have hnb34 := NB237_225.out
 have hnc34 := NB225_237.out
 have hcz35_0 : wc.cell? ⟨gb237, 0, none⟩ = some (.bool t226) := (blk_cell BK237.out 0).trans rfl
 have hcz35_1 : wc.cell? ⟨gb237, 1, none⟩ = some (.slice Ao17 t227.length co17) := (blk_cell BK237.out 1).trans rfl
 have hcz35_2 : wc.cell? ⟨gb237, 2, none⟩ = some (.slice Ao18 t230.length co18) := (blk_cell BK237.out 2).trans rfl
 have hcz35_3 : wc.cell? ⟨gb237, 3, none⟩ = some (.slice Ao19 t233.length co19) := (blk_cell BK237.out 3).trans rfl
 have hfz35_0 := blk_frozen BK237.out 0
 have hfz35_1 := blk_frozen BK237.out 1
 have hfz35_2 := blk_frozen BK237.out 2
 have hfz35_3 := blk_frozen BK237.out 3
 go_wp2_with (first | ((with_reducible refine gate_callee (f := 18) rfl ?_); refine goesL_ (some 40) rfl rfl Try.func18 s2_ rfl #[.agg #[.bool t226, .slice Ao17 t227.length co17, .slice Ao18 t230.length co18, .slice Ao19 t233.length co19], .int .i64 1] rfl s3_ ?_; (with_reducible refine (laws_markRoom.calls kj5 t226 (fun k_ => some k_ = (.slice Ao17 t227.length co17 : Value).ownBlock) (.slice Ao17 t227.length co17) t227 (fun k_ => some k_ = (.slice Ao18 t230.length co18 : Value).ownBlock) (.slice Ao18 t230.length co18) t230 (fun k_ => some k_ = (.slice Ao19 t233.length co19 : Value).ownBlock) (.slice Ao19 t233.length co19) t233 1 t239 t240 t241 t242 w _ ?side1 ?side2 ?side3 ?side4 A31.out).mono ?_); (case side1 => repeat (first | (with_reducible first | exact HB.out | apply below_alloc | apply pw_below_drewN | apply below_drew1 | refine below_set ?_ GE225.out | refine below_set ?_ GE237.out) | exact HB.out)); (case side2 => exact Kd.R_tight rfl HO_238001.out); (case side3 => exact Kd.R_tight rfl HO_238002.out); (case side4 => exact Kd.R_tight rfl HO_238003.out); rintro e w36 ⟨rfl, hy0, hy1, hy2, hb, hkp⟩; refine ⟨_, rfl, ?_⟩; have n0_ := Aside0.mk (Kd.R_mono (ok' := fun k_ => some k_ ≠ (.slice Ao17 t227.length co17 : Value).ownBlock) (Kd.R_keptB ((Kd.R_apart' (Kd.R_apart' HO_226001.out (Kd.R_typed HO_238002.out) (by decide)) (Kd.R_typed HO_238003.out) (by decide))) hkp (fun k_ hk_ hs_ => Or.elim hs_ (fun e_ => (hk_.1.1) e_) (fun e_ => Or.elim e_ (fun e_ => (hk_.1.2) e_) (fun e_ => (hk_.2) e_)))) (fun k_ hk_ => hk_.1.1.1)); have n1_ := Aside0.mk (Kd.R_mono (ok' := fun k_ => some k_ ≠ (.slice Ao18 t230.length co18 : Value).ownBlock) (Kd.R_keptB ((Kd.R_apart' (Kd.R_apart' HO_226002.out (Kd.R_typed HO_238001.out) (by decide)) (Kd.R_typed HO_238003.out) (by decide))) hkp (fun k_ hk_ hs_ => Or.elim hs_ (fun e_ => (hk_.1.2) e_) (fun e_ => Or.elim e_ (fun e_ => (hk_.1.1) e_) (fun e_ => (hk_.2) e_)))) (fun k_ hk_ => hk_.1.1.1)); have n2_ := Aside0.mk (Kd.R_mono (ok' := fun k_ => some k_ ≠ (.slice Ao19 t233.length co19 : Value).ownBlock) (Kd.R_keptB ((Kd.R_apart' (Kd.R_apart' HO_226003.out (Kd.R_typed HO_238001.out) (by decide)) (Kd.R_typed HO_238002.out) (by decide))) hkp (fun k_ hk_ hs_ => Or.elim hs_ (fun e_ => (hk_.1.2) e_) (fun e_ => Or.elim e_ (fun e_ => (hk_.2) e_) (fun e_ => (hk_.1.1) e_)))) (fun k_ hk_ => hk_.1.1.1)); have n3_ := Aside0.mk (Kd.R_reok rfl hy0 (fun k_ e_ => HO_238001.out.1 k_ e_)); have n4_ := Aside0.mk (Kd.R_reok rfl hy1 (fun k_ e_ => HO_238002.out.1 k_ e_)); have n5_ := Aside0.mk (Kd.R_reok rfl hy2 (fun k_ e_ => HO_238003.out.1 k_ e_)); have n6_ := Aside0.mk (blk_kept (b1_ BK225.out) hkp (fun hs_ => Or.elim hs_ (fun e_ => (fun e_ => (Kd.R_ne HO_238001.out BK225.out (by decide)) e_) e_) (fun e_ => Or.elim e_ (fun e_ => (fun e_ => (Kd.R_ne HO_238002.out BK225.out (by decide)) e_) e_) (fun e_ => (fun e_ => (Kd.R_ne HO_238003.out BK225.out (by decide)) e_) e_)))); have n7_ := Aside0.mk (blk_kept (b1_ BK237.out) hkp (fun hs_ => Or.elim hs_ (fun e_ => (fun e_ => (Kd.R_ne HO_238001.out BK237.out (by decide)) e_) e_) (fun e_ => Or.elim e_ (fun e_ => (fun e_ => (Kd.R_ne HO_238002.out BK237.out (by decide)) e_) e_) (fun e_ => (fun e_ => (Kd.R_ne HO_238003.out BK237.out (by decide)) e_) e_)))); have n8_ := Aside0.mk (hb); clear HO_226001; clear HO_226002; clear HO_226003; clear HO_238001; clear HO_238002; clear HO_238003; clear BK225; clear BK237; clear HB; have HO_226001 := n0_; have HO_226002 := n1_; have HO_226003 := n2_; have HO_238001 := n3_; have HO_238002 := n4_; have HO_238003 := n5_; have BK225 := n6_; have BK237 := n7_; have HB := n8_; clear n0_ n1_ n2_ n3_ n4_ n5_ n6_ n7_ n8_; (try clear hb); (try clear hkp); (try clear hy0); (try clear hy1); (try clear hy2); have hcz37_0 : w36.cell? ⟨gb237, 0, none⟩ = some (.bool t226) := (blk_cell BK237.out 0).trans rfl; have hcz37_1 : w36.cell? ⟨gb237, 1, none⟩ = some (.slice Ao17 t227.length co17) := (blk_cell BK237.out 1).trans rfl; have hcz37_2 : w36.cell? ⟨gb237, 2, none⟩ = some (.slice Ao18 t230.length co18) := (blk_cell BK237.out 2).trans rfl; have hcz37_3 : w36.cell? ⟨gb237, 3, none⟩ = some (.slice Ao19 t233.length co19) := (blk_cell BK237.out 3).trans rfl; have hfz37_0 := blk_frozen BK237.out 0; have hfz37_1 := blk_frozen BK237.out 1; have hfz37_2 := blk_frozen BK237.out 2; have hfz37_3 := blk_frozen BK237.out 3) | ((with_reducible refine gate_callee (f := 19) rfl ?_); refine goesL_ (some 43) rfl rfl Try.func19 s2_ rfl #[.agg #[.bool t226, .slice Ao17 t240.length co17, .slice Ao18 t241.length co18, .slice Ao19 t242.length co19], .int .i64 1] rfl (by (try simp only [List.map_toArray, List.map_cons, List.map_nil]); first | done | (rw [show t240.length = t227.length from (Kd.R_reads' HO_238001.out).1.symm, show t241.length = t230.length from (Kd.R_reads' HO_238002.out).1.symm, show t242.length = t233.length from (Kd.R_reads' HO_238003.out).1.symm] <;> rfl) | rfl | (simp only [List.length_drop, List.length_take]; rfl)) ?_; (with_reducible refine (laws_heldRoom.calls kj5 t226 _ _ t240 _ _ t241 _ _ t242 1 t243 _ ?side1 ?side2 ?side3 ?side4 ?side5 ?side6 A32.out).mono ?_); (case side1 => repeat (first | exact (Kd.R_reads' HO_238001.out).2.2 | (with_reducible refine Kd.C_alloc ?_ _) | (with_reducible refine Kd.C_drewN ?_ _) | (with_reducible refine Kd.C_drew ?_))); (case side2 => rw [show t240.length = t227.length from (Kd.R_reads' HO_238001.out).1.symm]; exact (Kd.R_reads' HO_238001.out).2.1); (case side3 => repeat (first | exact (Kd.R_reads' HO_238002.out).2.2 | (with_reducible refine Kd.C_alloc ?_ _) | (with_reducible refine Kd.C_drewN ?_ _) | (with_reducible refine Kd.C_drew ?_))); (case side4 => rw [show t241.length = t230.length from (Kd.R_reads' HO_238002.out).1.symm]; exact (Kd.R_reads' HO_238002.out).2.1); (case side5 => repeat (first | exact (Kd.R_reads' HO_238003.out).2.2 | (with_reducible refine Kd.C_alloc ?_ _) | (with_reducible refine Kd.C_drewN ?_ _) | (with_reducible refine Kd.C_drew ?_))); (case side6 => rw [show t242.length = t233.length from (Kd.R_reads' HO_238003.out).1.symm]; exact (Kd.R_reads' HO_238003.out).2.1); rintro e w38 ⟨rfl, hb⟩; refine ⟨_, rfl, ?_⟩; have n0_ := Aside0.mk (Kd.R_below (b2_ HO_226001.out) hb); have n1_ := Aside0.mk (Kd.R_below (b2_ HO_226002.out) hb); have n2_ := Aside0.mk (Kd.R_below (b2_ HO_226003.out) hb); have n3_ := Aside0.mk (Kd.R_below (b2_ HO_238001.out) hb); have n4_ := Aside0.mk (Kd.R_below (b2_ HO_238002.out) hb); have n5_ := Aside0.mk (Kd.R_below (b2_ HO_238003.out) hb); have n6_ := Aside0.mk (blk_below (g := gb225) (o := .cells #[.bool t214, .slice Ao10 t215.length co10, .slice Ao11 t218.length co11, .slice Ao12 t221.length co12] 28 (0, 0)) (b1_ BK225.out) hb); have n7_ := Aside0.mk (blk_below (g := gb237) (o := .cells #[.bool t226, .slice Ao17 t227.length co17, .slice Ao18 t230.length co18, .slice Ao19 t233.length co19] 28 (0, 0)) (b1_ BK237.out) hb); have n8_ := Aside0.mk (below_step (by repeat (first | (with_reducible first | exact HB.out | apply below_alloc | apply pw_below_drewN | apply below_drew1 | refine below_set ?_ GE225.out | refine below_set ?_ GE237.out) | exact HB.out)) hb); clear HO_226001; clear HO_226002; clear HO_226003; clear HO_238001; clear HO_238002; clear HO_238003; clear BK225; clear BK237; clear HB; have HO_226001 := n0_; have HO_226002 := n1_; have HO_226003 := n2_; have HO_238001 := n3_; have HO_238002 := n4_; have HO_238003 := n5_; have BK225 := n6_; have BK237 := n7_; have HB := n8_; clear n0_ n1_ n2_ n3_ n4_ n5_ n6_ n7_ n8_; (try clear hb); (try clear hb2); (try clear hk); (try clear hi)))
 go_ret
 exact ⟨by first | rfl | (simp [errW_none, errW_some] <;> rfl) | (simp [*, errW_none, errW_some] <;> rfl), by repeat (first | (with_reducible first | exact HB.out | apply below_alloc | apply pw_below_drewN | apply below_drew1 | refine below_set ?_ GE225.out | refine below_set ?_ GE237.out) | exact HB.out)⟩}
 {
 rw [if_neg c33] at H
 have c33b0 : decide (t243 < 0) = false := decide_eq_false c33
 clear c33
 by_cases c39 : t243 = t239
 {
 rw [if_pos c39] at H
 have c39b0 : (t243 == t239) = true := beq_iff_eq.mpr c39
 have c39b1 : (t243 != t239) = false := bne_eq_false_iff_eq.mpr c39
 clear c39
 replace H := Option.bind_eq_some_iff.mp H
 obtain ⟨⟨t244, t245, t248, t251, t254⟩, A400, H⟩ := H
 replace H : ((laws_eqRoom.f kj5 t244 t245 t248 t251 t214 t215 t218 t221).bind fun t256 => (if t256 = true then (laws_FnExactNewRoom.j1 kj5 t239 (t254 != t224) t226 t240 t241 t242) else (laws_FnExactNewRoom.j1 kj5 t239 true t226 t240 t241 t242))) = some r := H
 have A40 := Aside0.mk A400
 clear A400
 have HC41 := Aside0.mk H
 clear H
 have hnb42 := NB237_225.out
 have hnc42 := NB225_237.out
 have hcz43_0 : wc.cell? ⟨gb237, 0, none⟩ = some (.bool t226) := (blk_cell BK237.out 0).trans rfl
 have hcz43_1 : wc.cell? ⟨gb237, 1, none⟩ = some (.slice Ao17 t227.length co17) := (blk_cell BK237.out 1).trans rfl
 have hcz43_2 : wc.cell? ⟨gb237, 2, none⟩ = some (.slice Ao18 t230.length co18) := (blk_cell BK237.out 2).trans rfl
 have hcz43_3 : wc.cell? ⟨gb237, 3, none⟩ = some (.slice Ao19 t233.length co19) := (blk_cell BK237.out 3).trans rfl
 have hfz43_0 := blk_frozen BK237.out 0
 have hfz43_1 := blk_frozen BK237.out 1
 have hfz43_2 := blk_frozen BK237.out 2
 have hfz43_3 := blk_frozen BK237.out 3
 go_upto_region 14 with (first | ((with_reducible refine gate_callee (f := 18) rfl ?_); refine goesL_ (some 40) rfl rfl Try.func18 s2_ rfl #[.agg #[.bool t226, .slice Ao17 t227.length co17, .slice Ao18 t230.length co18, .slice Ao19 t233.length co19], .int .i64 1] rfl s3_ ?_; (with_reducible refine (laws_markRoom.calls kj5 t226 (fun k_ => some k_ = (.slice Ao17 t227.length co17 : Value).ownBlock) (.slice Ao17 t227.length co17) t227 (fun k_ => some k_ = (.slice Ao18 t230.length co18 : Value).ownBlock) (.slice Ao18 t230.length co18) t230 (fun k_ => some k_ = (.slice Ao19 t233.length co19 : Value).ownBlock) (.slice Ao19 t233.length co19) t233 1 t239 t240 t241 t242 w _ ?side1 ?side2 ?side3 ?side4 A31.out).mono ?_); (case side1 => repeat (first | (with_reducible first | exact HB.out | apply below_alloc | apply pw_below_drewN | apply below_drew1 | refine below_set ?_ GE225.out | refine below_set ?_ GE237.out) | exact HB.out)); (case side2 => exact Kd.R_tight rfl HO_238001.out); (case side3 => exact Kd.R_tight rfl HO_238002.out); (case side4 => exact Kd.R_tight rfl HO_238003.out); rintro e w44 ⟨rfl, hy0, hy1, hy2, hb, hkp⟩; refine ⟨_, rfl, ?_⟩; have n0_ := Aside0.mk (Kd.R_mono (ok' := fun k_ => some k_ ≠ (.slice Ao17 t227.length co17 : Value).ownBlock) (Kd.R_keptB ((Kd.R_apart' (Kd.R_apart' HO_226001.out (Kd.R_typed HO_238002.out) (by decide)) (Kd.R_typed HO_238003.out) (by decide))) hkp (fun k_ hk_ hs_ => Or.elim hs_ (fun e_ => (hk_.1.1) e_) (fun e_ => Or.elim e_ (fun e_ => (hk_.1.2) e_) (fun e_ => (hk_.2) e_)))) (fun k_ hk_ => hk_.1.1.1)); have n1_ := Aside0.mk (Kd.R_mono (ok' := fun k_ => some k_ ≠ (.slice Ao18 t230.length co18 : Value).ownBlock) (Kd.R_keptB ((Kd.R_apart' (Kd.R_apart' HO_226002.out (Kd.R_typed HO_238001.out) (by decide)) (Kd.R_typed HO_238003.out) (by decide))) hkp (fun k_ hk_ hs_ => Or.elim hs_ (fun e_ => (hk_.1.2) e_) (fun e_ => Or.elim e_ (fun e_ => (hk_.1.1) e_) (fun e_ => (hk_.2) e_)))) (fun k_ hk_ => hk_.1.1.1)); have n2_ := Aside0.mk (Kd.R_mono (ok' := fun k_ => some k_ ≠ (.slice Ao19 t233.length co19 : Value).ownBlock) (Kd.R_keptB ((Kd.R_apart' (Kd.R_apart' HO_226003.out (Kd.R_typed HO_238001.out) (by decide)) (Kd.R_typed HO_238002.out) (by decide))) hkp (fun k_ hk_ hs_ => Or.elim hs_ (fun e_ => (hk_.1.2) e_) (fun e_ => Or.elim e_ (fun e_ => (hk_.2) e_) (fun e_ => (hk_.1.1) e_)))) (fun k_ hk_ => hk_.1.1.1)); have n3_ := Aside0.mk (Kd.R_reok rfl hy0 (fun k_ e_ => HO_238001.out.1 k_ e_)); have n4_ := Aside0.mk (Kd.R_reok rfl hy1 (fun k_ e_ => HO_238002.out.1 k_ e_)); have n5_ := Aside0.mk (Kd.R_reok rfl hy2 (fun k_ e_ => HO_238003.out.1 k_ e_)); have n6_ := Aside0.mk (blk_kept (b1_ BK225.out) hkp (fun hs_ => Or.elim hs_ (fun e_ => (fun e_ => (Kd.R_ne HO_238001.out BK225.out (by decide)) e_) e_) (fun e_ => Or.elim e_ (fun e_ => (fun e_ => (Kd.R_ne HO_238002.out BK225.out (by decide)) e_) e_) (fun e_ => (fun e_ => (Kd.R_ne HO_238003.out BK225.out (by decide)) e_) e_)))); have n7_ := Aside0.mk (blk_kept (b1_ BK237.out) hkp (fun hs_ => Or.elim hs_ (fun e_ => (fun e_ => (Kd.R_ne HO_238001.out BK237.out (by decide)) e_) e_) (fun e_ => Or.elim e_ (fun e_ => (fun e_ => (Kd.R_ne HO_238002.out BK237.out (by decide)) e_) e_) (fun e_ => (fun e_ => (Kd.R_ne HO_238003.out BK237.out (by decide)) e_) e_)))); have n8_ := Aside0.mk (hb); clear HO_226001; clear HO_226002; clear HO_226003; clear HO_238001; clear HO_238002; clear HO_238003; clear BK225; clear BK237; clear HB; have HO_226001 := n0_; have HO_226002 := n1_; have HO_226003 := n2_; have HO_238001 := n3_; have HO_238002 := n4_; have HO_238003 := n5_; have BK225 := n6_; have BK237 := n7_; have HB := n8_; clear n0_ n1_ n2_ n3_ n4_ n5_ n6_ n7_ n8_; (try clear hb); (try clear hkp); (try clear hy0); (try clear hy1); (try clear hy2); have hcz45_0 : w44.cell? ⟨gb237, 0, none⟩ = some (.bool t226) := (blk_cell BK237.out 0).trans rfl; have hcz45_1 : w44.cell? ⟨gb237, 1, none⟩ = some (.slice Ao17 t227.length co17) := (blk_cell BK237.out 1).trans rfl; have hcz45_2 : w44.cell? ⟨gb237, 2, none⟩ = some (.slice Ao18 t230.length co18) := (blk_cell BK237.out 2).trans rfl; have hcz45_3 : w44.cell? ⟨gb237, 3, none⟩ = some (.slice Ao19 t233.length co19) := (blk_cell BK237.out 3).trans rfl; have hfz45_0 := blk_frozen BK237.out 0; have hfz45_1 := blk_frozen BK237.out 1; have hfz45_2 := blk_frozen BK237.out 2; have hfz45_3 := blk_frozen BK237.out 3) | ((with_reducible refine gate_callee (f := 19) rfl ?_); refine goesL_ (some 43) rfl rfl Try.func19 s2_ rfl #[.agg #[.bool t226, .slice Ao17 t240.length co17, .slice Ao18 t241.length co18, .slice Ao19 t242.length co19], .int .i64 1] rfl (by (try simp only [List.map_toArray, List.map_cons, List.map_nil]); first | done | (rw [show t240.length = t227.length from (Kd.R_reads' HO_238001.out).1.symm, show t241.length = t230.length from (Kd.R_reads' HO_238002.out).1.symm, show t242.length = t233.length from (Kd.R_reads' HO_238003.out).1.symm] <;> rfl) | rfl | (simp only [List.length_drop, List.length_take]; rfl)) ?_; (with_reducible refine (laws_heldRoom.calls kj5 t226 _ _ t240 _ _ t241 _ _ t242 1 t243 _ ?side1 ?side2 ?side3 ?side4 ?side5 ?side6 A32.out).mono ?_); (case side1 => repeat (first | exact (Kd.R_reads' HO_238001.out).2.2 | (with_reducible refine Kd.C_alloc ?_ _) | (with_reducible refine Kd.C_drewN ?_ _) | (with_reducible refine Kd.C_drew ?_))); (case side2 => rw [show t240.length = t227.length from (Kd.R_reads' HO_238001.out).1.symm]; exact (Kd.R_reads' HO_238001.out).2.1); (case side3 => repeat (first | exact (Kd.R_reads' HO_238002.out).2.2 | (with_reducible refine Kd.C_alloc ?_ _) | (with_reducible refine Kd.C_drewN ?_ _) | (with_reducible refine Kd.C_drew ?_))); (case side4 => rw [show t241.length = t230.length from (Kd.R_reads' HO_238002.out).1.symm]; exact (Kd.R_reads' HO_238002.out).2.1); (case side5 => repeat (first | exact (Kd.R_reads' HO_238003.out).2.2 | (with_reducible refine Kd.C_alloc ?_ _) | (with_reducible refine Kd.C_drewN ?_ _) | (with_reducible refine Kd.C_drew ?_))); (case side6 => rw [show t242.length = t233.length from (Kd.R_reads' HO_238003.out).1.symm]; exact (Kd.R_reads' HO_238003.out).2.1); rintro e w46 ⟨rfl, hb⟩; refine ⟨_, rfl, ?_⟩; have n0_ := Aside0.mk (Kd.R_below (b2_ HO_226001.out) hb); have n1_ := Aside0.mk (Kd.R_below (b2_ HO_226002.out) hb); have n2_ := Aside0.mk (Kd.R_below (b2_ HO_226003.out) hb); have n3_ := Aside0.mk (Kd.R_below (b2_ HO_238001.out) hb); have n4_ := Aside0.mk (Kd.R_below (b2_ HO_238002.out) hb); have n5_ := Aside0.mk (Kd.R_below (b2_ HO_238003.out) hb); have n6_ := Aside0.mk (blk_below (g := gb225) (o := .cells #[.bool t214, .slice Ao10 t215.length co10, .slice Ao11 t218.length co11, .slice Ao12 t221.length co12] 28 (0, 0)) (b1_ BK225.out) hb); have n7_ := Aside0.mk (blk_below (g := gb237) (o := .cells #[.bool t226, .slice Ao17 t227.length co17, .slice Ao18 t230.length co18, .slice Ao19 t233.length co19] 28 (0, 0)) (b1_ BK237.out) hb); have n8_ := Aside0.mk (below_step (by repeat (first | (with_reducible first | exact HB.out | apply below_alloc | apply pw_below_drewN | apply below_drew1 | refine below_set ?_ GE225.out | refine below_set ?_ GE237.out) | exact HB.out)) hb); clear HO_226001; clear HO_226002; clear HO_226003; clear HO_238001; clear HO_238002; clear HO_238003; clear BK225; clear BK237; clear HB; have HO_226001 := n0_; have HO_226002 := n1_; have HO_226003 := n2_; have HO_238001 := n3_; have HO_238002 := n4_; have HO_238003 := n5_; have BK225 := n6_; have BK237 := n7_; have HB := n8_; clear n0_ n1_ n2_ n3_ n4_ n5_ n6_ n7_ n8_; (try clear hb); (try clear hb2); (try clear hk); (try clear hi)) | ((with_reducible refine gate_callee (f := 16) rfl ?_); refine goesL_ (some 53) rfl rfl Try.func16 s2_ rfl #[.int .i64 a0, .int .i64 a1, .bool a2] rfl s3_ ?_; (with_reducible refine (impl_NewRoom.calls kj5 a0 a1 a2 t244 t245 t248 t251 t254 _ A40.out).mono ?_); rintro e w47 ⟨v246, v249, v252, rfl, ho0, ho1, ho2, hb⟩; refine ⟨_, rfl, ?_⟩; have n0_ := Aside0.mk (Kd.R_elder' (b2_ HO_226001.out) (Kd.R_base ho0) hb); have n1_ := Aside0.mk (Kd.R_elder' (b2_ HO_226002.out) (Kd.R_base ho1) hb); have n2_ := Aside0.mk (Kd.R_elder' (b2_ HO_226003.out) (Kd.R_base ho2) hb); have n3_ := Aside0.mk (Kd.R_elder' (b2_ HO_238001.out) (Kd.R_base ho0) hb); have n4_ := Aside0.mk (Kd.R_elder' (b2_ HO_238002.out) (Kd.R_base ho1) hb); have n5_ := Aside0.mk (Kd.R_elder' (b2_ HO_238003.out) (Kd.R_base ho2) hb); have n6_ := Aside0.mk (Kd.R_lower (Kd.R_new' (Kd.R_new' ho0 (Kd.R_lt (b2_ HO_226001.out))) (Kd.R_lt (b2_ HO_238001.out))) (below_size (by repeat (first | (with_reducible first | exact HB.out | apply below_alloc | apply pw_below_drewN | apply below_drew1 | refine below_set ?_ GE225.out | refine below_set ?_ GE237.out) | exact HB.out)))); have n7_ := Aside0.mk (Kd.R_lower (Kd.R_new' (Kd.R_new' ho1 (Kd.R_lt (b2_ HO_226002.out))) (Kd.R_lt (b2_ HO_238002.out))) (below_size (by repeat (first | (with_reducible first | exact HB.out | apply below_alloc | apply pw_below_drewN | apply below_drew1 | refine below_set ?_ GE225.out | refine below_set ?_ GE237.out) | exact HB.out)))); have n8_ := Aside0.mk (Kd.R_lower (Kd.R_new' (Kd.R_new' ho2 (Kd.R_lt (b2_ HO_226003.out))) (Kd.R_lt (b2_ HO_238003.out))) (below_size (by repeat (first | (with_reducible first | exact HB.out | apply below_alloc | apply pw_below_drewN | apply below_drew1 | refine below_set ?_ GE225.out | refine below_set ?_ GE237.out) | exact HB.out)))); have n9_ := Aside0.mk (blk_below (g := gb225) (o := .cells #[.bool t214, .slice Ao10 t215.length co10, .slice Ao11 t218.length co11, .slice Ao12 t221.length co12] 28 (0, 0)) (b1_ BK225.out) hb); have n10_ := Aside0.mk (blk_below (g := gb237) (o := .cells #[.bool t226, .slice Ao17 t227.length co17, .slice Ao18 t230.length co18, .slice Ao19 t233.length co19] 28 (0, 0)) (b1_ BK237.out) hb); have n11_ := Aside0.mk (below_step (by repeat (first | (with_reducible first | exact HB.out | apply below_alloc | apply pw_below_drewN | apply below_drew1 | refine below_set ?_ GE225.out | refine below_set ?_ GE237.out) | exact HB.out)) hb); clear HO_226001; clear HO_226002; clear HO_226003; clear HO_238001; clear HO_238002; clear HO_238003; clear BK225; clear BK237; clear HB; have HO_226001 := n0_; have HO_226002 := n1_; have HO_226003 := n2_; have HO_238001 := n3_; have HO_238002 := n4_; have HO_238003 := n5_; have HO247 := n6_; have HO250 := n7_; have HO253 := n8_; have BK225 := n9_; have BK237 := n10_; have HB := n11_; clear n0_ n1_ n2_ n3_ n4_ n5_ n6_ n7_ n8_ n9_ n10_ n11_; (try clear hb); (try clear hb2); (try clear hk); (try clear hi); (try clear ho0); (try clear ho1); (try clear ho2)) | ((with_reducible refine gate_dst (N := 13) rfl ?_); refine box_event ?hg (N := 13) ?hd (cs := #[.bool false, .slice none 0 0, .slice none 0 0, .slice none 0 0]) (t := 28) ?hr ?_; (case hd => rfl); (case hg => rfl); (case hr => first | (go_simp; done) | (go_simp; rfl)); intro gb255 hg w48 hbox hb; have n0_ := Aside0.mk (Kd.R_below (b2_ HO_226001.out) hb); have n1_ := Aside0.mk (Kd.R_below (b2_ HO_226002.out) hb); have n2_ := Aside0.mk (Kd.R_below (b2_ HO_226003.out) hb); have n3_ := Aside0.mk (Kd.R_below (b2_ HO_238001.out) hb); have n4_ := Aside0.mk (Kd.R_below (b2_ HO_238002.out) hb); have n5_ := Aside0.mk (Kd.R_below (b2_ HO_238003.out) hb); have n6_ := Aside0.mk (Kd.R_below (b2_ HO247.out) hb); have n7_ := Aside0.mk (Kd.R_below (b2_ HO250.out) hb); have n8_ := Aside0.mk (Kd.R_below (b2_ HO253.out) hb); have n9_ := Aside0.mk (blk_below (g := gb225) (o := .cells #[.bool t214, .slice Ao10 t215.length co10, .slice Ao11 t218.length co11, .slice Ao12 t221.length co12] 28 (0, 0)) (b1_ BK225.out) hb); have n10_ := Aside0.mk (blk_below (g := gb237) (o := .cells #[.bool t226, .slice Ao17 t227.length co17, .slice Ao18 t230.length co18, .slice Ao19 t233.length co19] 28 (0, 0)) (b1_ BK237.out) hb); have n11_ := Aside0.mk (below_step (by repeat (first | (with_reducible first | exact HB.out | apply below_alloc | apply pw_below_drewN | apply below_drew1 | refine below_set ?_ GE225.out | refine below_set ?_ GE237.out) | exact HB.out)) hb); have n12_ := Aside0.mk (hbox); have n13_ := Aside0.mk ((by rw [hg]; exact (below_size (by repeat (first | (with_reducible first | exact HB.out | apply below_alloc | apply pw_below_drewN | apply below_drew1 | refine below_set ?_ GE225.out | refine below_set ?_ GE237.out) | exact HB.out))) : w.heap.size ≤ gb255)); have n14_ := Aside0.mk ((by rw [hg]; exact (below_size (by repeat (first | (with_reducible first | exact HB.out | apply below_alloc | apply pw_below_drewN | apply below_drew1 | refine below_set ?_ GE225.out | refine below_set ?_ GE237.out) | exact HB.out))) : w.heap.size ≤ gb255)); have n15_ := Aside0.mk ((by rw [hg]; exact Nat.ne_of_lt (blk_lt (g := gb225) (o := .cells #[.bool t214, .slice Ao10 t215.length co10, .slice Ao11 t218.length co11, .slice Ao12 t221.length co12] 28 (0, 0)) (b1_ BK225.out)) : gb225 ≠ gb255)); have n16_ := Aside0.mk ((by rw [hg]; exact Nat.ne_of_gt (blk_lt (g := gb225) (o := .cells #[.bool t214, .slice Ao10 t215.length co10, .slice Ao11 t218.length co11, .slice Ao12 t221.length co12] 28 (0, 0)) (b1_ BK225.out)) : gb255 ≠ gb225)); have n17_ := Aside0.mk ((by rw [hg]; exact Nat.ne_of_lt (blk_lt (g := gb237) (o := .cells #[.bool t226, .slice Ao17 t227.length co17, .slice Ao18 t230.length co18, .slice Ao19 t233.length co19] 28 (0, 0)) (b1_ BK237.out)) : gb237 ≠ gb255)); have n18_ := Aside0.mk ((by rw [hg]; exact Nat.ne_of_gt (blk_lt (g := gb237) (o := .cells #[.bool t226, .slice Ao17 t227.length co17, .slice Ao18 t230.length co18, .slice Ao19 t233.length co19] 28 (0, 0)) (b1_ BK237.out)) : gb255 ≠ gb237)); clear HO_226001; clear HO_226002; clear HO_226003; clear HO_238001; clear HO_238002; clear HO_238003; clear HO247; clear HO250; clear HO253; clear BK225; clear BK237; clear HB; have HO_226001 := n0_; have HO_226002 := n1_; have HO_226003 := n2_; have HO_238001 := n3_; have HO_238002 := n4_; have HO_238003 := n5_; have HO247 := n6_; have HO250 := n7_; have HO253 := n8_; have BK225 := n9_; have BK237 := n10_; have HB := n11_; have BK255 := n12_; have GW255 := n13_; have GE255 := n14_; have NB225_255 := n15_; have NB255_225 := n16_; have NB237_255 := n17_; have NB255_237 := n18_; clear n0_ n1_ n2_ n3_ n4_ n5_ n6_ n7_ n8_ n9_ n10_ n11_ n12_ n13_ n14_ n15_ n16_ n17_ n18_; clear hb hbox hg; have hnb49 := NB255_225.out; have hnc49 := NB225_255.out; have hnb50 := NB255_237.out; have hnc50 := NB237_255.out; have hcz51_0 : w48.cell? ⟨gb255, 0, none⟩ = some (.bool false) := (blk_cell BK255.out 0).trans rfl; have hcz51_1 : w48.cell? ⟨gb255, 1, none⟩ = some (.slice none 0 0) := (blk_cell BK255.out 1).trans rfl; have hcz51_2 : w48.cell? ⟨gb255, 2, none⟩ = some (.slice none 0 0) := (blk_cell BK255.out 2).trans rfl; have hcz51_3 : w48.cell? ⟨gb255, 3, none⟩ = some (.slice none 0 0) := (blk_cell BK255.out 3).trans rfl; have hfz51_0 := blk_frozen BK255.out 0; have hfz51_1 := blk_frozen BK255.out 1; have hfz51_2 := blk_frozen BK255.out 2; have hfz51_3 := blk_frozen BK255.out 3; obtain ⟨Ao52, co52, eo52⟩ := Kd.R_slice HO247.out; subst eo52; obtain ⟨Ao53, co53, eo53⟩ := Kd.R_slice HO250.out; subst eo53; obtain ⟨Ao54, co54, eo54⟩ := Kd.R_slice HO253.out; subst eo54))
 (try simp only [Act.put, List.setIfInBounds_toArray, List.set_cons_zero, List.set_cons_succ])
 go_cut [64] (fun v64 wc => ∃ (kq : Nat) (x64_40 : Bool), v64 = .bool x64_40 ∧ Aside0 (laws_FnExactNewRoom.j1 kq t239 x64_40 t226 t240 t241 t242 = some r) ∧ Aside0 (kq ≤ kj5) ∧ Aside0 (Kd.R k36 36 wc w.heap.size (fun k_ => some k_ ≠ ((.slice Ao17 t227.length co17) : Value).ownBlock ∧ some k_ ≠ ((.slice Ao52 t245.length co52) : Value).ownBlock) (.slice Ao10 t215.length co10) t215) ∧ Aside0 (Kd.R k71 71 wc w.heap.size (fun k_ => some k_ ≠ ((.slice Ao18 t230.length co18) : Value).ownBlock ∧ some k_ ≠ ((.slice Ao53 t248.length co53) : Value).ownBlock) (.slice Ao11 t218.length co11) t218) ∧ Aside0 (Kd.R k73 73 wc w.heap.size (fun k_ => some k_ ≠ ((.slice Ao19 t233.length co19) : Value).ownBlock ∧ some k_ ≠ ((.slice Ao54 t251.length co54) : Value).ownBlock) (.slice Ao12 t221.length co12) t221) ∧ Aside0 (Kd.R k36 36 wc w.heap.size (fun k_ => some k_ ≠ ((.slice Ao10 t215.length co10) : Value).ownBlock ∧ some k_ ≠ ((.slice Ao52 t245.length co52) : Value).ownBlock) (.slice Ao17 t227.length co17) t240) ∧ Aside0 (Kd.R k71 71 wc w.heap.size (fun k_ => some k_ ≠ ((.slice Ao11 t218.length co11) : Value).ownBlock ∧ some k_ ≠ ((.slice Ao53 t248.length co53) : Value).ownBlock) (.slice Ao18 t230.length co18) t241) ∧ Aside0 (Kd.R k73 73 wc w.heap.size (fun k_ => some k_ ≠ ((.slice Ao12 t221.length co12) : Value).ownBlock ∧ some k_ ≠ ((.slice Ao54 t251.length co54) : Value).ownBlock) (.slice Ao19 t233.length co19) t242) ∧ Aside0 (Kd.R k36 36 wc w.heap.size (fun k_ => some k_ ≠ ((.slice Ao10 t215.length co10) : Value).ownBlock ∧ some k_ ≠ ((.slice Ao17 t227.length co17) : Value).ownBlock) (.slice Ao52 t245.length co52) t245) ∧ Aside0 (Kd.R k71 71 wc w.heap.size (fun k_ => some k_ ≠ ((.slice Ao11 t218.length co11) : Value).ownBlock ∧ some k_ ≠ ((.slice Ao18 t230.length co18) : Value).ownBlock) (.slice Ao53 t248.length co53) t248) ∧ Aside0 (Kd.R k73 73 wc w.heap.size (fun k_ => some k_ ≠ ((.slice Ao12 t221.length co12) : Value).ownBlock ∧ some k_ ≠ ((.slice Ao19 t233.length co19) : Value).ownBlock) (.slice Ao54 t251.length co54) t251) ∧ Aside0 (wc.heap[gb225]? = some (.cells #[.bool t214, (.slice Ao10 t215.length co10), (.slice Ao11 t218.length co11), (.slice Ao12 t221.length co12)] 28 (0, 0))) ∧ Aside0 (wc.heap[gb237]? = some (.cells #[.bool t226, (.slice Ao17 t227.length co17), (.slice Ao18 t230.length co18), (.slice Ao19 t233.length co19)] 28 (0, 0))) ∧ Aside0 (wc.heap[gb255]? = some (.cells #[.bool t244, (.slice Ao52 t245.length co52), (.slice Ao53 t248.length co53), (.slice Ao54 t251.length co54)] 28 (0, 0))) ∧ Aside0 (Below w.heap.size w wc))
 case first =>
  skip
  {
 have H := HC41.out
 clear HC41
 replace H := Option.bind_eq_some_iff.mp H
 obtain ⟨t256, A550, H⟩ := H
 replace H : (if t256 = true then (laws_FnExactNewRoom.j1 kj5 t239 (t254 != t224) t226 t240 t241 t242) else (laws_FnExactNewRoom.j1 kj5 t239 true t226 t240 t241 t242)) = some r := H
 have A55 := Aside0.mk A550
 clear A550
 by_cases c56 : t256 = true
 {
 subst c56
 have H1 : (laws_FnExactNewRoom.j1 kj5 t239 (t254 != t224) t226 t240 t241 t242) = some r := by rw [if_pos rfl] at H; exact H
 clear H
 have H := H1
 clear H1
 have H' := Aside0.mk H
 clear H
 have hnb57 := NB255_225.out
 have hnc57 := NB225_255.out
 have hnb58 := NB255_237.out
 have hnc58 := NB237_255.out
 have hcz59_0 : w48.cell? ⟨gb255, 0, none⟩ = some (.bool false) := (blk_cell BK255.out 0).trans rfl
 have hcz59_1 : w48.cell? ⟨gb255, 1, none⟩ = some (.slice none 0 0) := (blk_cell BK255.out 1).trans rfl
 have hcz59_2 : w48.cell? ⟨gb255, 2, none⟩ = some (.slice none 0 0) := (blk_cell BK255.out 2).trans rfl
 have hcz59_3 : w48.cell? ⟨gb255, 3, none⟩ = some (.slice none 0 0) := (blk_cell BK255.out 3).trans rfl
 have hfz59_0 := blk_frozen BK255.out 0
 have hfz59_1 := blk_frozen BK255.out 1
 have hfz59_2 := blk_frozen BK255.out 2
 have hfz59_3 := blk_frozen BK255.out 3
 have hnb60 := NB225_237.out
 have hnc60 := NB237_225.out
 have hcz61_0 : w48.cell? ⟨gb225, 0, none⟩ = some (.bool t214) := (blk_cell BK225.out 0).trans rfl
 have hcz61_1 : w48.cell? ⟨gb225, 1, none⟩ = some (.slice Ao10 t215.length co10) := (blk_cell BK225.out 1).trans rfl
 have hcz61_2 : w48.cell? ⟨gb225, 2, none⟩ = some (.slice Ao11 t218.length co11) := (blk_cell BK225.out 2).trans rfl
 have hcz61_3 : w48.cell? ⟨gb225, 3, none⟩ = some (.slice Ao12 t221.length co12) := (blk_cell BK225.out 3).trans rfl
 have hfz61_0 := blk_frozen BK225.out 0
 have hfz61_1 := blk_frozen BK225.out 1
 have hfz61_2 := blk_frozen BK225.out 2
 have hfz61_3 := blk_frozen BK225.out 3
 go_wp2_with (first | ((with_reducible refine gate_callee (f := 17) rfl ?_); refine goesL_ (some 58) rfl rfl Try.func17 s2_ rfl #[.agg #[.bool t244, .slice Ao52 t245.length co52, .slice Ao53 t248.length co53, .slice Ao54 t251.length co54], .agg #[.bool t214, .slice Ao10 t215.length co10, .slice Ao11 t218.length co11, .slice Ao12 t221.length co12]] rfl s3_ ?_; (with_reducible refine (laws_eqRoom.calls kj5 t244 _ _ t245 _ _ t248 _ _ t251 t214 _ _ t215 _ _ t218 _ _ t221 true _ ?side1 ?side2 ?side3 ?side4 ?side5 ?side6 ?side7 ?side8 ?side9 ?side10 ?side11 ?side12 A55.out).mono ?_); (case side1 => refine (Kd.R_reads' (e := 36) (base := w.heap.size) (ok := fun k_ => ((True ∧ some k_ ≠ (.slice Ao10 t215.length co10 : Value).ownBlock) ∧ some k_ ≠ (.slice Ao17 t227.length co17 : Value).ownBlock)) (n := t245.length) (c := co52) ?_).2.2; exact (by (with_reducible repeat (first | apply Kd.R_alloc | apply Kd.R_drewN | apply Kd.R_drew)); exact (Kd.R_mono (Kd.R_far (p := ⟨gb255, 3, none⟩) (Kd.R_far (p := ⟨gb255, 2, none⟩) (Kd.R_far (p := ⟨gb255, 1, none⟩) (Kd.R_far (p := ⟨gb255, 0, none⟩) (Kd.R_types HO247.out BK255.out (by decide)) (fun _ hk => hk.2) (.bool t244)) (fun _ hk => hk.2) (.slice Ao52 t245.length co52)) (fun _ hk => hk.2) (.slice Ao53 t248.length co53)) (fun _ hk => hk.2) (.slice Ao54 t251.length co54)) (fun _ h_ => h_.1)))); (case side2 => exact (Kd.R_reads' HO247.out).2.1); (case side3 => refine (Kd.R_reads' (e := 71) (base := w.heap.size) (ok := fun k_ => ((True ∧ some k_ ≠ (.slice Ao11 t218.length co11 : Value).ownBlock) ∧ some k_ ≠ (.slice Ao18 t230.length co18 : Value).ownBlock)) (n := t248.length) (c := co53) ?_).2.2; exact (by (with_reducible repeat (first | apply Kd.R_alloc | apply Kd.R_drewN | apply Kd.R_drew)); exact (Kd.R_mono (Kd.R_far (p := ⟨gb255, 3, none⟩) (Kd.R_far (p := ⟨gb255, 2, none⟩) (Kd.R_far (p := ⟨gb255, 1, none⟩) (Kd.R_far (p := ⟨gb255, 0, none⟩) (Kd.R_types HO250.out BK255.out (by decide)) (fun _ hk => hk.2) (.bool t244)) (fun _ hk => hk.2) (.slice Ao52 t245.length co52)) (fun _ hk => hk.2) (.slice Ao53 t248.length co53)) (fun _ hk => hk.2) (.slice Ao54 t251.length co54)) (fun _ h_ => h_.1)))); (case side4 => exact (Kd.R_reads' HO250.out).2.1); (case side5 => refine (Kd.R_reads' (e := 73) (base := w.heap.size) (ok := fun k_ => ((True ∧ some k_ ≠ (.slice Ao12 t221.length co12 : Value).ownBlock) ∧ some k_ ≠ (.slice Ao19 t233.length co19 : Value).ownBlock)) (n := t251.length) (c := co54) ?_).2.2; exact (by (with_reducible repeat (first | apply Kd.R_alloc | apply Kd.R_drewN | apply Kd.R_drew)); exact (Kd.R_mono (Kd.R_far (p := ⟨gb255, 3, none⟩) (Kd.R_far (p := ⟨gb255, 2, none⟩) (Kd.R_far (p := ⟨gb255, 1, none⟩) (Kd.R_far (p := ⟨gb255, 0, none⟩) (Kd.R_types HO253.out BK255.out (by decide)) (fun _ hk => hk.2) (.bool t244)) (fun _ hk => hk.2) (.slice Ao52 t245.length co52)) (fun _ hk => hk.2) (.slice Ao53 t248.length co53)) (fun _ hk => hk.2) (.slice Ao54 t251.length co54)) (fun _ h_ => h_.1)))); (case side6 => exact (Kd.R_reads' HO253.out).2.1); (case side7 => refine (Kd.R_reads' (e := 36) (base := w.heap.size) (ok := fun k_ => (some k_ ≠ (.slice Ao17 t227.length co17 : Value).ownBlock ∧ some k_ ≠ (.slice Ao52 t245.length co52 : Value).ownBlock)) (n := t215.length) (c := co10) ?_).2.2; exact (by (with_reducible repeat (first | apply Kd.R_alloc | apply Kd.R_drewN | apply Kd.R_drew)); exact (Kd.R_mono (Kd.R_far (p := ⟨gb255, 3, none⟩) (Kd.R_far (p := ⟨gb255, 2, none⟩) (Kd.R_far (p := ⟨gb255, 1, none⟩) (Kd.R_far (p := ⟨gb255, 0, none⟩) (Kd.R_types HO_226001.out BK255.out (by decide)) (fun _ hk => hk.2) (.bool t244)) (fun _ hk => hk.2) (.slice Ao52 t245.length co52)) (fun _ hk => hk.2) (.slice Ao53 t248.length co53)) (fun _ hk => hk.2) (.slice Ao54 t251.length co54)) (fun _ h_ => h_.1)))); (case side8 => exact (Kd.R_reads' HO_226001.out).2.1); (case side9 => refine (Kd.R_reads' (e := 71) (base := w.heap.size) (ok := fun k_ => (some k_ ≠ (.slice Ao18 t230.length co18 : Value).ownBlock ∧ some k_ ≠ (.slice Ao53 t248.length co53 : Value).ownBlock)) (n := t218.length) (c := co11) ?_).2.2; exact (by (with_reducible repeat (first | apply Kd.R_alloc | apply Kd.R_drewN | apply Kd.R_drew)); exact (Kd.R_mono (Kd.R_far (p := ⟨gb255, 3, none⟩) (Kd.R_far (p := ⟨gb255, 2, none⟩) (Kd.R_far (p := ⟨gb255, 1, none⟩) (Kd.R_far (p := ⟨gb255, 0, none⟩) (Kd.R_types HO_226002.out BK255.out (by decide)) (fun _ hk => hk.2) (.bool t244)) (fun _ hk => hk.2) (.slice Ao52 t245.length co52)) (fun _ hk => hk.2) (.slice Ao53 t248.length co53)) (fun _ hk => hk.2) (.slice Ao54 t251.length co54)) (fun _ h_ => h_.1)))); (case side10 => exact (Kd.R_reads' HO_226002.out).2.1); (case side11 => refine (Kd.R_reads' (e := 73) (base := w.heap.size) (ok := fun k_ => (some k_ ≠ (.slice Ao19 t233.length co19 : Value).ownBlock ∧ some k_ ≠ (.slice Ao54 t251.length co54 : Value).ownBlock)) (n := t221.length) (c := co12) ?_).2.2; exact (by (with_reducible repeat (first | apply Kd.R_alloc | apply Kd.R_drewN | apply Kd.R_drew)); exact (Kd.R_mono (Kd.R_far (p := ⟨gb255, 3, none⟩) (Kd.R_far (p := ⟨gb255, 2, none⟩) (Kd.R_far (p := ⟨gb255, 1, none⟩) (Kd.R_far (p := ⟨gb255, 0, none⟩) (Kd.R_types HO_226003.out BK255.out (by decide)) (fun _ hk => hk.2) (.bool t244)) (fun _ hk => hk.2) (.slice Ao52 t245.length co52)) (fun _ hk => hk.2) (.slice Ao53 t248.length co53)) (fun _ hk => hk.2) (.slice Ao54 t251.length co54)) (fun _ h_ => h_.1)))); (case side12 => exact (Kd.R_reads' HO_226003.out).2.1); rintro e w62 ⟨rfl, hb⟩; refine ⟨_, rfl, ?_⟩; have n0_ := Aside0.mk (Kd.R_below (by (with_reducible repeat (first | apply Kd.R_alloc | apply Kd.R_drewN | apply Kd.R_drew)); exact (Kd.R_mono (Kd.R_far (p := ⟨gb255, 3, none⟩) (Kd.R_far (p := ⟨gb255, 2, none⟩) (Kd.R_far (p := ⟨gb255, 1, none⟩) (Kd.R_far (p := ⟨gb255, 0, none⟩) (Kd.R_types HO_226001.out BK255.out (by decide)) (fun _ hk => hk.2) (.bool t244)) (fun _ hk => hk.2) (.slice Ao52 t245.length co52)) (fun _ hk => hk.2) (.slice Ao53 t248.length co53)) (fun _ hk => hk.2) (.slice Ao54 t251.length co54)) (fun _ h_ => h_.1))) hb); have n1_ := Aside0.mk (Kd.R_below (by (with_reducible repeat (first | apply Kd.R_alloc | apply Kd.R_drewN | apply Kd.R_drew)); exact (Kd.R_mono (Kd.R_far (p := ⟨gb255, 3, none⟩) (Kd.R_far (p := ⟨gb255, 2, none⟩) (Kd.R_far (p := ⟨gb255, 1, none⟩) (Kd.R_far (p := ⟨gb255, 0, none⟩) (Kd.R_types HO_226002.out BK255.out (by decide)) (fun _ hk => hk.2) (.bool t244)) (fun _ hk => hk.2) (.slice Ao52 t245.length co52)) (fun _ hk => hk.2) (.slice Ao53 t248.length co53)) (fun _ hk => hk.2) (.slice Ao54 t251.length co54)) (fun _ h_ => h_.1))) hb); have n2_ := Aside0.mk (Kd.R_below (by (with_reducible repeat (first | apply Kd.R_alloc | apply Kd.R_drewN | apply Kd.R_drew)); exact (Kd.R_mono (Kd.R_far (p := ⟨gb255, 3, none⟩) (Kd.R_far (p := ⟨gb255, 2, none⟩) (Kd.R_far (p := ⟨gb255, 1, none⟩) (Kd.R_far (p := ⟨gb255, 0, none⟩) (Kd.R_types HO_226003.out BK255.out (by decide)) (fun _ hk => hk.2) (.bool t244)) (fun _ hk => hk.2) (.slice Ao52 t245.length co52)) (fun _ hk => hk.2) (.slice Ao53 t248.length co53)) (fun _ hk => hk.2) (.slice Ao54 t251.length co54)) (fun _ h_ => h_.1))) hb); have n3_ := Aside0.mk (Kd.R_below (by (with_reducible repeat (first | apply Kd.R_alloc | apply Kd.R_drewN | apply Kd.R_drew)); exact (Kd.R_mono (Kd.R_far (p := ⟨gb255, 3, none⟩) (Kd.R_far (p := ⟨gb255, 2, none⟩) (Kd.R_far (p := ⟨gb255, 1, none⟩) (Kd.R_far (p := ⟨gb255, 0, none⟩) (Kd.R_types HO_238001.out BK255.out (by decide)) (fun _ hk => hk.2) (.bool t244)) (fun _ hk => hk.2) (.slice Ao52 t245.length co52)) (fun _ hk => hk.2) (.slice Ao53 t248.length co53)) (fun _ hk => hk.2) (.slice Ao54 t251.length co54)) (fun _ h_ => h_.1))) hb); have n4_ := Aside0.mk (Kd.R_below (by (with_reducible repeat (first | apply Kd.R_alloc | apply Kd.R_drewN | apply Kd.R_drew)); exact (Kd.R_mono (Kd.R_far (p := ⟨gb255, 3, none⟩) (Kd.R_far (p := ⟨gb255, 2, none⟩) (Kd.R_far (p := ⟨gb255, 1, none⟩) (Kd.R_far (p := ⟨gb255, 0, none⟩) (Kd.R_types HO_238002.out BK255.out (by decide)) (fun _ hk => hk.2) (.bool t244)) (fun _ hk => hk.2) (.slice Ao52 t245.length co52)) (fun _ hk => hk.2) (.slice Ao53 t248.length co53)) (fun _ hk => hk.2) (.slice Ao54 t251.length co54)) (fun _ h_ => h_.1))) hb); have n5_ := Aside0.mk (Kd.R_below (by (with_reducible repeat (first | apply Kd.R_alloc | apply Kd.R_drewN | apply Kd.R_drew)); exact (Kd.R_mono (Kd.R_far (p := ⟨gb255, 3, none⟩) (Kd.R_far (p := ⟨gb255, 2, none⟩) (Kd.R_far (p := ⟨gb255, 1, none⟩) (Kd.R_far (p := ⟨gb255, 0, none⟩) (Kd.R_types HO_238003.out BK255.out (by decide)) (fun _ hk => hk.2) (.bool t244)) (fun _ hk => hk.2) (.slice Ao52 t245.length co52)) (fun _ hk => hk.2) (.slice Ao53 t248.length co53)) (fun _ hk => hk.2) (.slice Ao54 t251.length co54)) (fun _ h_ => h_.1))) hb); have n6_ := Aside0.mk (Kd.R_below (by (with_reducible repeat (first | apply Kd.R_alloc | apply Kd.R_drewN | apply Kd.R_drew)); exact (Kd.R_mono (Kd.R_far (p := ⟨gb255, 3, none⟩) (Kd.R_far (p := ⟨gb255, 2, none⟩) (Kd.R_far (p := ⟨gb255, 1, none⟩) (Kd.R_far (p := ⟨gb255, 0, none⟩) (Kd.R_types HO247.out BK255.out (by decide)) (fun _ hk => hk.2) (.bool t244)) (fun _ hk => hk.2) (.slice Ao52 t245.length co52)) (fun _ hk => hk.2) (.slice Ao53 t248.length co53)) (fun _ hk => hk.2) (.slice Ao54 t251.length co54)) (fun _ h_ => h_.1))) hb); have n7_ := Aside0.mk (Kd.R_below (by (with_reducible repeat (first | apply Kd.R_alloc | apply Kd.R_drewN | apply Kd.R_drew)); exact (Kd.R_mono (Kd.R_far (p := ⟨gb255, 3, none⟩) (Kd.R_far (p := ⟨gb255, 2, none⟩) (Kd.R_far (p := ⟨gb255, 1, none⟩) (Kd.R_far (p := ⟨gb255, 0, none⟩) (Kd.R_types HO250.out BK255.out (by decide)) (fun _ hk => hk.2) (.bool t244)) (fun _ hk => hk.2) (.slice Ao52 t245.length co52)) (fun _ hk => hk.2) (.slice Ao53 t248.length co53)) (fun _ hk => hk.2) (.slice Ao54 t251.length co54)) (fun _ h_ => h_.1))) hb); have n8_ := Aside0.mk (Kd.R_below (by (with_reducible repeat (first | apply Kd.R_alloc | apply Kd.R_drewN | apply Kd.R_drew)); exact (Kd.R_mono (Kd.R_far (p := ⟨gb255, 3, none⟩) (Kd.R_far (p := ⟨gb255, 2, none⟩) (Kd.R_far (p := ⟨gb255, 1, none⟩) (Kd.R_far (p := ⟨gb255, 0, none⟩) (Kd.R_types HO253.out BK255.out (by decide)) (fun _ hk => hk.2) (.bool t244)) (fun _ hk => hk.2) (.slice Ao52 t245.length co52)) (fun _ hk => hk.2) (.slice Ao53 t248.length co53)) (fun _ hk => hk.2) (.slice Ao54 t251.length co54)) (fun _ h_ => h_.1))) hb); have n9_ := Aside0.mk (blk_below (g := gb225) (o := .cells #[.bool t214, .slice Ao10 t215.length co10, .slice Ao11 t218.length co11, .slice Ao12 t221.length co12] 28 (0, 0)) (by (with_reducible repeat (first | refine blk_drewN ?_ _ | refine blk_drew ?_ | refine blk_alloc ?_ _)); refine blk_far ?_ NB225_255.out _; (with_reducible repeat (first | refine blk_drewN ?_ _ | refine blk_drew ?_ | refine blk_alloc ?_ _)); refine blk_far ?_ NB225_255.out _; (with_reducible repeat (first | refine blk_drewN ?_ _ | refine blk_drew ?_ | refine blk_alloc ?_ _)); refine blk_far ?_ NB225_255.out _; (with_reducible repeat (first | refine blk_drewN ?_ _ | refine blk_drew ?_ | refine blk_alloc ?_ _)); refine blk_far ?_ NB225_255.out _; (with_reducible repeat (first | refine blk_drewN ?_ _ | refine blk_drew ?_ | refine blk_alloc ?_ _)); exact BK225.out) hb); have n10_ := Aside0.mk (blk_below (g := gb237) (o := .cells #[.bool t226, .slice Ao17 t227.length co17, .slice Ao18 t230.length co18, .slice Ao19 t233.length co19] 28 (0, 0)) (by (with_reducible repeat (first | refine blk_drewN ?_ _ | refine blk_drew ?_ | refine blk_alloc ?_ _)); refine blk_far ?_ NB237_255.out _; (with_reducible repeat (first | refine blk_drewN ?_ _ | refine blk_drew ?_ | refine blk_alloc ?_ _)); refine blk_far ?_ NB237_255.out _; (with_reducible repeat (first | refine blk_drewN ?_ _ | refine blk_drew ?_ | refine blk_alloc ?_ _)); refine blk_far ?_ NB237_255.out _; (with_reducible repeat (first | refine blk_drewN ?_ _ | refine blk_drew ?_ | refine blk_alloc ?_ _)); refine blk_far ?_ NB237_255.out _; (with_reducible repeat (first | refine blk_drewN ?_ _ | refine blk_drew ?_ | refine blk_alloc ?_ _)); exact BK237.out) hb); have n11_ := Aside0.mk (blk_below (g := gb255) (o := .cells #[.bool t244, .slice Ao52 t245.length co52, .slice Ao53 t248.length co53, .slice Ao54 t251.length co54] 28 (0, 0)) (by (with_reducible repeat (first | refine blk_drewN ?_ _ | refine blk_drew ?_ | refine blk_alloc ?_ _)); refine blk_put (cs := #[.bool t244, .slice Ao52 t245.length co52, .slice Ao53 t248.length co53, .slice none 0 0]) ?_ 3 _ rfl; (with_reducible repeat (first | refine blk_drewN ?_ _ | refine blk_drew ?_ | refine blk_alloc ?_ _)); refine blk_put (cs := #[.bool t244, .slice Ao52 t245.length co52, .slice none 0 0, .slice none 0 0]) ?_ 2 _ rfl; (with_reducible repeat (first | refine blk_drewN ?_ _ | refine blk_drew ?_ | refine blk_alloc ?_ _)); refine blk_put (cs := #[.bool t244, .slice none 0 0, .slice none 0 0, .slice none 0 0]) ?_ 1 _ rfl; (with_reducible repeat (first | refine blk_drewN ?_ _ | refine blk_drew ?_ | refine blk_alloc ?_ _)); refine blk_put (cs := #[.bool false, .slice none 0 0, .slice none 0 0, .slice none 0 0]) ?_ 0 _ rfl; (with_reducible repeat (first | refine blk_drewN ?_ _ | refine blk_drew ?_ | refine blk_alloc ?_ _)); exact BK255.out) hb); have n12_ := Aside0.mk (below_step (by repeat (first | (with_reducible first | exact HB.out | apply below_alloc | apply pw_below_drewN | apply below_drew1 | refine below_set ?_ GE225.out | refine below_set ?_ GE237.out | refine below_set ?_ GE255.out) | exact HB.out)) hb); clear HO_226001; clear HO_226002; clear HO_226003; clear HO_238001; clear HO_238002; clear HO_238003; clear HO247; clear HO250; clear HO253; clear BK225; clear BK237; clear BK255; clear HB; have HO_226001 := n0_; have HO_226002 := n1_; have HO_226003 := n2_; have HO_238001 := n3_; have HO_238002 := n4_; have HO_238003 := n5_; have HO247 := n6_; have HO250 := n7_; have HO253 := n8_; have BK225 := n9_; have BK237 := n10_; have BK255 := n11_; have HB := n12_; clear n0_ n1_ n2_ n3_ n4_ n5_ n6_ n7_ n8_ n9_ n10_ n11_ n12_; (try clear hb); (try clear hb2); (try clear hk); (try clear hi)))
 go_meet
 case rel => exact ⟨_, ((t254 != t224)), s1_, H', ⟨by have := HJ5.out; first | omega | exact Nat.le_refl _⟩, ⟨b2_ HO_226001.out⟩, ⟨b2_ HO_226002.out⟩, ⟨b2_ HO_226003.out⟩, ⟨b2_ HO_238001.out⟩, ⟨b2_ HO_238002.out⟩, ⟨b2_ HO_238003.out⟩, ⟨by (with_reducible repeat (first | apply Kd.R_alloc | apply Kd.R_drewN | apply Kd.R_drew)); exact Kd.R_mono HO247.out (fun _ hk => ⟨hk.1.2, hk.2⟩)⟩, ⟨by (with_reducible repeat (first | apply Kd.R_alloc | apply Kd.R_drewN | apply Kd.R_drew)); exact Kd.R_mono HO250.out (fun _ hk => ⟨hk.1.2, hk.2⟩)⟩, ⟨by (with_reducible repeat (first | apply Kd.R_alloc | apply Kd.R_drewN | apply Kd.R_drew)); exact Kd.R_mono HO253.out (fun _ hk => ⟨hk.1.2, hk.2⟩)⟩, ⟨b1_ BK225.out⟩, ⟨b1_ BK237.out⟩, ⟨b1_ BK255.out⟩, ⟨by repeat (first | (with_reducible first | exact HB.out | apply below_alloc | apply pw_below_drewN | apply below_drew1 | refine below_set ?_ GE225.out | refine below_set ?_ GE237.out | refine below_set ?_ GE255.out) | exact HB.out)⟩⟩}
 {
 replace c56 := Bool.eq_false_iff.mpr c56
 subst c56
 have H1 : (laws_FnExactNewRoom.j1 kj5 t239 true t226 t240 t241 t242) = some r := by rw [if_neg (show ¬ (false = true) by decide)] at H; exact H
 clear H
 have H := H1
 clear H1
 have H' := Aside0.mk H
 clear H
 have hnb63 := NB255_225.out
 have hnc63 := NB225_255.out
 have hnb64 := NB255_237.out
 have hnc64 := NB237_255.out
 have hcz65_0 : w48.cell? ⟨gb255, 0, none⟩ = some (.bool false) := (blk_cell BK255.out 0).trans rfl
 have hcz65_1 : w48.cell? ⟨gb255, 1, none⟩ = some (.slice none 0 0) := (blk_cell BK255.out 1).trans rfl
 have hcz65_2 : w48.cell? ⟨gb255, 2, none⟩ = some (.slice none 0 0) := (blk_cell BK255.out 2).trans rfl
 have hcz65_3 : w48.cell? ⟨gb255, 3, none⟩ = some (.slice none 0 0) := (blk_cell BK255.out 3).trans rfl
 have hfz65_0 := blk_frozen BK255.out 0
 have hfz65_1 := blk_frozen BK255.out 1
 have hfz65_2 := blk_frozen BK255.out 2
 have hfz65_3 := blk_frozen BK255.out 3
 have hnb66 := NB225_237.out
 have hnc66 := NB237_225.out
 have hcz67_0 : w48.cell? ⟨gb225, 0, none⟩ = some (.bool t214) := (blk_cell BK225.out 0).trans rfl
 have hcz67_1 : w48.cell? ⟨gb225, 1, none⟩ = some (.slice Ao10 t215.length co10) := (blk_cell BK225.out 1).trans rfl
 have hcz67_2 : w48.cell? ⟨gb225, 2, none⟩ = some (.slice Ao11 t218.length co11) := (blk_cell BK225.out 2).trans rfl
 have hcz67_3 : w48.cell? ⟨gb225, 3, none⟩ = some (.slice Ao12 t221.length co12) := (blk_cell BK225.out 3).trans rfl
 have hfz67_0 := blk_frozen BK225.out 0
 have hfz67_1 := blk_frozen BK225.out 1
 have hfz67_2 := blk_frozen BK225.out 2
 have hfz67_3 := blk_frozen BK225.out 3
 go_wp2_with (first | ((with_reducible refine gate_callee (f := 17) rfl ?_); refine goesL_ (some 58) rfl rfl Try.func17 s2_ rfl #[.agg #[.bool t244, .slice Ao52 t245.length co52, .slice Ao53 t248.length co53, .slice Ao54 t251.length co54], .agg #[.bool t214, .slice Ao10 t215.length co10, .slice Ao11 t218.length co11, .slice Ao12 t221.length co12]] rfl s3_ ?_; (with_reducible refine (laws_eqRoom.calls kj5 t244 _ _ t245 _ _ t248 _ _ t251 t214 _ _ t215 _ _ t218 _ _ t221 false _ ?side1 ?side2 ?side3 ?side4 ?side5 ?side6 ?side7 ?side8 ?side9 ?side10 ?side11 ?side12 A55.out).mono ?_); (case side1 => refine (Kd.R_reads' (e := 36) (base := w.heap.size) (ok := fun k_ => ((True ∧ some k_ ≠ (.slice Ao10 t215.length co10 : Value).ownBlock) ∧ some k_ ≠ (.slice Ao17 t227.length co17 : Value).ownBlock)) (n := t245.length) (c := co52) ?_).2.2; exact (by (with_reducible repeat (first | apply Kd.R_alloc | apply Kd.R_drewN | apply Kd.R_drew)); exact (Kd.R_mono (Kd.R_far (p := ⟨gb255, 3, none⟩) (Kd.R_far (p := ⟨gb255, 2, none⟩) (Kd.R_far (p := ⟨gb255, 1, none⟩) (Kd.R_far (p := ⟨gb255, 0, none⟩) (Kd.R_types HO247.out BK255.out (by decide)) (fun _ hk => hk.2) (.bool t244)) (fun _ hk => hk.2) (.slice Ao52 t245.length co52)) (fun _ hk => hk.2) (.slice Ao53 t248.length co53)) (fun _ hk => hk.2) (.slice Ao54 t251.length co54)) (fun _ h_ => h_.1)))); (case side2 => exact (Kd.R_reads' HO247.out).2.1); (case side3 => refine (Kd.R_reads' (e := 71) (base := w.heap.size) (ok := fun k_ => ((True ∧ some k_ ≠ (.slice Ao11 t218.length co11 : Value).ownBlock) ∧ some k_ ≠ (.slice Ao18 t230.length co18 : Value).ownBlock)) (n := t248.length) (c := co53) ?_).2.2; exact (by (with_reducible repeat (first | apply Kd.R_alloc | apply Kd.R_drewN | apply Kd.R_drew)); exact (Kd.R_mono (Kd.R_far (p := ⟨gb255, 3, none⟩) (Kd.R_far (p := ⟨gb255, 2, none⟩) (Kd.R_far (p := ⟨gb255, 1, none⟩) (Kd.R_far (p := ⟨gb255, 0, none⟩) (Kd.R_types HO250.out BK255.out (by decide)) (fun _ hk => hk.2) (.bool t244)) (fun _ hk => hk.2) (.slice Ao52 t245.length co52)) (fun _ hk => hk.2) (.slice Ao53 t248.length co53)) (fun _ hk => hk.2) (.slice Ao54 t251.length co54)) (fun _ h_ => h_.1)))); (case side4 => exact (Kd.R_reads' HO250.out).2.1); (case side5 => refine (Kd.R_reads' (e := 73) (base := w.heap.size) (ok := fun k_ => ((True ∧ some k_ ≠ (.slice Ao12 t221.length co12 : Value).ownBlock) ∧ some k_ ≠ (.slice Ao19 t233.length co19 : Value).ownBlock)) (n := t251.length) (c := co54) ?_).2.2; exact (by (with_reducible repeat (first | apply Kd.R_alloc | apply Kd.R_drewN | apply Kd.R_drew)); exact (Kd.R_mono (Kd.R_far (p := ⟨gb255, 3, none⟩) (Kd.R_far (p := ⟨gb255, 2, none⟩) (Kd.R_far (p := ⟨gb255, 1, none⟩) (Kd.R_far (p := ⟨gb255, 0, none⟩) (Kd.R_types HO253.out BK255.out (by decide)) (fun _ hk => hk.2) (.bool t244)) (fun _ hk => hk.2) (.slice Ao52 t245.length co52)) (fun _ hk => hk.2) (.slice Ao53 t248.length co53)) (fun _ hk => hk.2) (.slice Ao54 t251.length co54)) (fun _ h_ => h_.1)))); (case side6 => exact (Kd.R_reads' HO253.out).2.1); (case side7 => refine (Kd.R_reads' (e := 36) (base := w.heap.size) (ok := fun k_ => (some k_ ≠ (.slice Ao17 t227.length co17 : Value).ownBlock ∧ some k_ ≠ (.slice Ao52 t245.length co52 : Value).ownBlock)) (n := t215.length) (c := co10) ?_).2.2; exact (by (with_reducible repeat (first | apply Kd.R_alloc | apply Kd.R_drewN | apply Kd.R_drew)); exact (Kd.R_mono (Kd.R_far (p := ⟨gb255, 3, none⟩) (Kd.R_far (p := ⟨gb255, 2, none⟩) (Kd.R_far (p := ⟨gb255, 1, none⟩) (Kd.R_far (p := ⟨gb255, 0, none⟩) (Kd.R_types HO_226001.out BK255.out (by decide)) (fun _ hk => hk.2) (.bool t244)) (fun _ hk => hk.2) (.slice Ao52 t245.length co52)) (fun _ hk => hk.2) (.slice Ao53 t248.length co53)) (fun _ hk => hk.2) (.slice Ao54 t251.length co54)) (fun _ h_ => h_.1)))); (case side8 => exact (Kd.R_reads' HO_226001.out).2.1); (case side9 => refine (Kd.R_reads' (e := 71) (base := w.heap.size) (ok := fun k_ => (some k_ ≠ (.slice Ao18 t230.length co18 : Value).ownBlock ∧ some k_ ≠ (.slice Ao53 t248.length co53 : Value).ownBlock)) (n := t218.length) (c := co11) ?_).2.2; exact (by (with_reducible repeat (first | apply Kd.R_alloc | apply Kd.R_drewN | apply Kd.R_drew)); exact (Kd.R_mono (Kd.R_far (p := ⟨gb255, 3, none⟩) (Kd.R_far (p := ⟨gb255, 2, none⟩) (Kd.R_far (p := ⟨gb255, 1, none⟩) (Kd.R_far (p := ⟨gb255, 0, none⟩) (Kd.R_types HO_226002.out BK255.out (by decide)) (fun _ hk => hk.2) (.bool t244)) (fun _ hk => hk.2) (.slice Ao52 t245.length co52)) (fun _ hk => hk.2) (.slice Ao53 t248.length co53)) (fun _ hk => hk.2) (.slice Ao54 t251.length co54)) (fun _ h_ => h_.1)))); (case side10 => exact (Kd.R_reads' HO_226002.out).2.1); (case side11 => refine (Kd.R_reads' (e := 73) (base := w.heap.size) (ok := fun k_ => (some k_ ≠ (.slice Ao19 t233.length co19 : Value).ownBlock ∧ some k_ ≠ (.slice Ao54 t251.length co54 : Value).ownBlock)) (n := t221.length) (c := co12) ?_).2.2; exact (by (with_reducible repeat (first | apply Kd.R_alloc | apply Kd.R_drewN | apply Kd.R_drew)); exact (Kd.R_mono (Kd.R_far (p := ⟨gb255, 3, none⟩) (Kd.R_far (p := ⟨gb255, 2, none⟩) (Kd.R_far (p := ⟨gb255, 1, none⟩) (Kd.R_far (p := ⟨gb255, 0, none⟩) (Kd.R_types HO_226003.out BK255.out (by decide)) (fun _ hk => hk.2) (.bool t244)) (fun _ hk => hk.2) (.slice Ao52 t245.length co52)) (fun _ hk => hk.2) (.slice Ao53 t248.length co53)) (fun _ hk => hk.2) (.slice Ao54 t251.length co54)) (fun _ h_ => h_.1)))); (case side12 => exact (Kd.R_reads' HO_226003.out).2.1); rintro e w68 ⟨rfl, hb⟩; refine ⟨_, rfl, ?_⟩; have n0_ := Aside0.mk (Kd.R_below (by (with_reducible repeat (first | apply Kd.R_alloc | apply Kd.R_drewN | apply Kd.R_drew)); exact (Kd.R_mono (Kd.R_far (p := ⟨gb255, 3, none⟩) (Kd.R_far (p := ⟨gb255, 2, none⟩) (Kd.R_far (p := ⟨gb255, 1, none⟩) (Kd.R_far (p := ⟨gb255, 0, none⟩) (Kd.R_types HO_226001.out BK255.out (by decide)) (fun _ hk => hk.2) (.bool t244)) (fun _ hk => hk.2) (.slice Ao52 t245.length co52)) (fun _ hk => hk.2) (.slice Ao53 t248.length co53)) (fun _ hk => hk.2) (.slice Ao54 t251.length co54)) (fun _ h_ => h_.1))) hb); have n1_ := Aside0.mk (Kd.R_below (by (with_reducible repeat (first | apply Kd.R_alloc | apply Kd.R_drewN | apply Kd.R_drew)); exact (Kd.R_mono (Kd.R_far (p := ⟨gb255, 3, none⟩) (Kd.R_far (p := ⟨gb255, 2, none⟩) (Kd.R_far (p := ⟨gb255, 1, none⟩) (Kd.R_far (p := ⟨gb255, 0, none⟩) (Kd.R_types HO_226002.out BK255.out (by decide)) (fun _ hk => hk.2) (.bool t244)) (fun _ hk => hk.2) (.slice Ao52 t245.length co52)) (fun _ hk => hk.2) (.slice Ao53 t248.length co53)) (fun _ hk => hk.2) (.slice Ao54 t251.length co54)) (fun _ h_ => h_.1))) hb); have n2_ := Aside0.mk (Kd.R_below (by (with_reducible repeat (first | apply Kd.R_alloc | apply Kd.R_drewN | apply Kd.R_drew)); exact (Kd.R_mono (Kd.R_far (p := ⟨gb255, 3, none⟩) (Kd.R_far (p := ⟨gb255, 2, none⟩) (Kd.R_far (p := ⟨gb255, 1, none⟩) (Kd.R_far (p := ⟨gb255, 0, none⟩) (Kd.R_types HO_226003.out BK255.out (by decide)) (fun _ hk => hk.2) (.bool t244)) (fun _ hk => hk.2) (.slice Ao52 t245.length co52)) (fun _ hk => hk.2) (.slice Ao53 t248.length co53)) (fun _ hk => hk.2) (.slice Ao54 t251.length co54)) (fun _ h_ => h_.1))) hb); have n3_ := Aside0.mk (Kd.R_below (by (with_reducible repeat (first | apply Kd.R_alloc | apply Kd.R_drewN | apply Kd.R_drew)); exact (Kd.R_mono (Kd.R_far (p := ⟨gb255, 3, none⟩) (Kd.R_far (p := ⟨gb255, 2, none⟩) (Kd.R_far (p := ⟨gb255, 1, none⟩) (Kd.R_far (p := ⟨gb255, 0, none⟩) (Kd.R_types HO_238001.out BK255.out (by decide)) (fun _ hk => hk.2) (.bool t244)) (fun _ hk => hk.2) (.slice Ao52 t245.length co52)) (fun _ hk => hk.2) (.slice Ao53 t248.length co53)) (fun _ hk => hk.2) (.slice Ao54 t251.length co54)) (fun _ h_ => h_.1))) hb); have n4_ := Aside0.mk (Kd.R_below (by (with_reducible repeat (first | apply Kd.R_alloc | apply Kd.R_drewN | apply Kd.R_drew)); exact (Kd.R_mono (Kd.R_far (p := ⟨gb255, 3, none⟩) (Kd.R_far (p := ⟨gb255, 2, none⟩) (Kd.R_far (p := ⟨gb255, 1, none⟩) (Kd.R_far (p := ⟨gb255, 0, none⟩) (Kd.R_types HO_238002.out BK255.out (by decide)) (fun _ hk => hk.2) (.bool t244)) (fun _ hk => hk.2) (.slice Ao52 t245.length co52)) (fun _ hk => hk.2) (.slice Ao53 t248.length co53)) (fun _ hk => hk.2) (.slice Ao54 t251.length co54)) (fun _ h_ => h_.1))) hb); have n5_ := Aside0.mk (Kd.R_below (by (with_reducible repeat (first | apply Kd.R_alloc | apply Kd.R_drewN | apply Kd.R_drew)); exact (Kd.R_mono (Kd.R_far (p := ⟨gb255, 3, none⟩) (Kd.R_far (p := ⟨gb255, 2, none⟩) (Kd.R_far (p := ⟨gb255, 1, none⟩) (Kd.R_far (p := ⟨gb255, 0, none⟩) (Kd.R_types HO_238003.out BK255.out (by decide)) (fun _ hk => hk.2) (.bool t244)) (fun _ hk => hk.2) (.slice Ao52 t245.length co52)) (fun _ hk => hk.2) (.slice Ao53 t248.length co53)) (fun _ hk => hk.2) (.slice Ao54 t251.length co54)) (fun _ h_ => h_.1))) hb); have n6_ := Aside0.mk (Kd.R_below (by (with_reducible repeat (first | apply Kd.R_alloc | apply Kd.R_drewN | apply Kd.R_drew)); exact (Kd.R_mono (Kd.R_far (p := ⟨gb255, 3, none⟩) (Kd.R_far (p := ⟨gb255, 2, none⟩) (Kd.R_far (p := ⟨gb255, 1, none⟩) (Kd.R_far (p := ⟨gb255, 0, none⟩) (Kd.R_types HO247.out BK255.out (by decide)) (fun _ hk => hk.2) (.bool t244)) (fun _ hk => hk.2) (.slice Ao52 t245.length co52)) (fun _ hk => hk.2) (.slice Ao53 t248.length co53)) (fun _ hk => hk.2) (.slice Ao54 t251.length co54)) (fun _ h_ => h_.1))) hb); have n7_ := Aside0.mk (Kd.R_below (by (with_reducible repeat (first | apply Kd.R_alloc | apply Kd.R_drewN | apply Kd.R_drew)); exact (Kd.R_mono (Kd.R_far (p := ⟨gb255, 3, none⟩) (Kd.R_far (p := ⟨gb255, 2, none⟩) (Kd.R_far (p := ⟨gb255, 1, none⟩) (Kd.R_far (p := ⟨gb255, 0, none⟩) (Kd.R_types HO250.out BK255.out (by decide)) (fun _ hk => hk.2) (.bool t244)) (fun _ hk => hk.2) (.slice Ao52 t245.length co52)) (fun _ hk => hk.2) (.slice Ao53 t248.length co53)) (fun _ hk => hk.2) (.slice Ao54 t251.length co54)) (fun _ h_ => h_.1))) hb); have n8_ := Aside0.mk (Kd.R_below (by (with_reducible repeat (first | apply Kd.R_alloc | apply Kd.R_drewN | apply Kd.R_drew)); exact (Kd.R_mono (Kd.R_far (p := ⟨gb255, 3, none⟩) (Kd.R_far (p := ⟨gb255, 2, none⟩) (Kd.R_far (p := ⟨gb255, 1, none⟩) (Kd.R_far (p := ⟨gb255, 0, none⟩) (Kd.R_types HO253.out BK255.out (by decide)) (fun _ hk => hk.2) (.bool t244)) (fun _ hk => hk.2) (.slice Ao52 t245.length co52)) (fun _ hk => hk.2) (.slice Ao53 t248.length co53)) (fun _ hk => hk.2) (.slice Ao54 t251.length co54)) (fun _ h_ => h_.1))) hb); have n9_ := Aside0.mk (blk_below (g := gb225) (o := .cells #[.bool t214, .slice Ao10 t215.length co10, .slice Ao11 t218.length co11, .slice Ao12 t221.length co12] 28 (0, 0)) (by (with_reducible repeat (first | refine blk_drewN ?_ _ | refine blk_drew ?_ | refine blk_alloc ?_ _)); refine blk_far ?_ NB225_255.out _; (with_reducible repeat (first | refine blk_drewN ?_ _ | refine blk_drew ?_ | refine blk_alloc ?_ _)); refine blk_far ?_ NB225_255.out _; (with_reducible repeat (first | refine blk_drewN ?_ _ | refine blk_drew ?_ | refine blk_alloc ?_ _)); refine blk_far ?_ NB225_255.out _; (with_reducible repeat (first | refine blk_drewN ?_ _ | refine blk_drew ?_ | refine blk_alloc ?_ _)); refine blk_far ?_ NB225_255.out _; (with_reducible repeat (first | refine blk_drewN ?_ _ | refine blk_drew ?_ | refine blk_alloc ?_ _)); exact BK225.out) hb); have n10_ := Aside0.mk (blk_below (g := gb237) (o := .cells #[.bool t226, .slice Ao17 t227.length co17, .slice Ao18 t230.length co18, .slice Ao19 t233.length co19] 28 (0, 0)) (by (with_reducible repeat (first | refine blk_drewN ?_ _ | refine blk_drew ?_ | refine blk_alloc ?_ _)); refine blk_far ?_ NB237_255.out _; (with_reducible repeat (first | refine blk_drewN ?_ _ | refine blk_drew ?_ | refine blk_alloc ?_ _)); refine blk_far ?_ NB237_255.out _; (with_reducible repeat (first | refine blk_drewN ?_ _ | refine blk_drew ?_ | refine blk_alloc ?_ _)); refine blk_far ?_ NB237_255.out _; (with_reducible repeat (first | refine blk_drewN ?_ _ | refine blk_drew ?_ | refine blk_alloc ?_ _)); refine blk_far ?_ NB237_255.out _; (with_reducible repeat (first | refine blk_drewN ?_ _ | refine blk_drew ?_ | refine blk_alloc ?_ _)); exact BK237.out) hb); have n11_ := Aside0.mk (blk_below (g := gb255) (o := .cells #[.bool t244, .slice Ao52 t245.length co52, .slice Ao53 t248.length co53, .slice Ao54 t251.length co54] 28 (0, 0)) (by (with_reducible repeat (first | refine blk_drewN ?_ _ | refine blk_drew ?_ | refine blk_alloc ?_ _)); refine blk_put (cs := #[.bool t244, .slice Ao52 t245.length co52, .slice Ao53 t248.length co53, .slice none 0 0]) ?_ 3 _ rfl; (with_reducible repeat (first | refine blk_drewN ?_ _ | refine blk_drew ?_ | refine blk_alloc ?_ _)); refine blk_put (cs := #[.bool t244, .slice Ao52 t245.length co52, .slice none 0 0, .slice none 0 0]) ?_ 2 _ rfl; (with_reducible repeat (first | refine blk_drewN ?_ _ | refine blk_drew ?_ | refine blk_alloc ?_ _)); refine blk_put (cs := #[.bool t244, .slice none 0 0, .slice none 0 0, .slice none 0 0]) ?_ 1 _ rfl; (with_reducible repeat (first | refine blk_drewN ?_ _ | refine blk_drew ?_ | refine blk_alloc ?_ _)); refine blk_put (cs := #[.bool false, .slice none 0 0, .slice none 0 0, .slice none 0 0]) ?_ 0 _ rfl; (with_reducible repeat (first | refine blk_drewN ?_ _ | refine blk_drew ?_ | refine blk_alloc ?_ _)); exact BK255.out) hb); have n12_ := Aside0.mk (below_step (by repeat (first | (with_reducible first | exact HB.out | apply below_alloc | apply pw_below_drewN | apply below_drew1 | refine below_set ?_ GE225.out | refine below_set ?_ GE237.out | refine below_set ?_ GE255.out) | exact HB.out)) hb); clear HO_226001; clear HO_226002; clear HO_226003; clear HO_238001; clear HO_238002; clear HO_238003; clear HO247; clear HO250; clear HO253; clear BK225; clear BK237; clear BK255; clear HB; have HO_226001 := n0_; have HO_226002 := n1_; have HO_226003 := n2_; have HO_238001 := n3_; have HO_238002 := n4_; have HO_238003 := n5_; have HO247 := n6_; have HO250 := n7_; have HO253 := n8_; have BK225 := n9_; have BK237 := n10_; have BK255 := n11_; have HB := n12_; clear n0_ n1_ n2_ n3_ n4_ n5_ n6_ n7_ n8_ n9_ n10_ n11_ n12_; (try clear hb); (try clear hb2); (try clear hk); (try clear hi)))
 go_meet
 case rel => exact ⟨_, (true), s1_, H', ⟨by have := HJ5.out; first | omega | exact Nat.le_refl _⟩, ⟨b2_ HO_226001.out⟩, ⟨b2_ HO_226002.out⟩, ⟨b2_ HO_226003.out⟩, ⟨b2_ HO_238001.out⟩, ⟨b2_ HO_238002.out⟩, ⟨b2_ HO_238003.out⟩, ⟨by (with_reducible repeat (first | apply Kd.R_alloc | apply Kd.R_drewN | apply Kd.R_drew)); exact Kd.R_mono HO247.out (fun _ hk => ⟨hk.1.2, hk.2⟩)⟩, ⟨by (with_reducible repeat (first | apply Kd.R_alloc | apply Kd.R_drewN | apply Kd.R_drew)); exact Kd.R_mono HO250.out (fun _ hk => ⟨hk.1.2, hk.2⟩)⟩, ⟨by (with_reducible repeat (first | apply Kd.R_alloc | apply Kd.R_drewN | apply Kd.R_drew)); exact Kd.R_mono HO253.out (fun _ hk => ⟨hk.1.2, hk.2⟩)⟩, ⟨b1_ BK225.out⟩, ⟨b1_ BK237.out⟩, ⟨b1_ BK255.out⟩, ⟨by repeat (first | (with_reducible first | exact HB.out | apply below_alloc | apply pw_below_drewN | apply below_drew1 | refine below_set ?_ GE225.out | refine below_set ?_ GE237.out | refine below_set ?_ GE255.out) | exact HB.out)⟩⟩}}
 case rest =>
  skip
  {
 clear HC41
 try clear c1
 try clear c2
 try clear p2
 try clear c3
 try clear c4
 try clear c5
 try clear c6
 try clear c15
 try clear c16
 try clear c17
 try clear c18
 try clear c19
 try clear c21
 try clear c22
 try clear c26
 try clear c30
 try clear c33
 try clear c33b0
 try clear c34
 try clear c39
 try clear c39b0
 try clear c39b1
 try clear c42
 try clear c49
 try clear c50
 try clear c56
 try clear c57
 try clear c58
 try clear c60
 try clear c63
 try clear c64
 try clear c66
 try clear hcz16_0
 try clear hcz16_1
 try clear hcz16_2
 try clear hcz16_3
 try clear hcz23_0
 try clear hcz23_1
 try clear hcz23_2
 try clear hcz23_3
 try clear hcz24_0
 try clear hcz24_1
 try clear hcz24_2
 try clear hcz24_3
 try clear hcz27_0
 try clear hcz27_1
 try clear hcz27_2
 try clear hcz27_3
 try clear hcz28_0
 try clear hcz28_1
 try clear hcz28_2
 try clear hcz28_3
 try clear hcz35_0
 try clear hcz35_1
 try clear hcz35_2
 try clear hcz35_3
 try clear hcz37_0
 try clear hcz37_1
 try clear hcz37_2
 try clear hcz37_3
 try clear hcz43_0
 try clear hcz43_1
 try clear hcz43_2
 try clear hcz43_3
 try clear hcz45_0
 try clear hcz45_1
 try clear hcz45_2
 try clear hcz45_3
 try clear hcz51_0
 try clear hcz51_1
 try clear hcz51_2
 try clear hcz51_3
 try clear hcz59_0
 try clear hcz59_1
 try clear hcz59_2
 try clear hcz59_3
 try clear hcz61_0
 try clear hcz61_1
 try clear hcz61_2
 try clear hcz61_3
 try clear hcz65_0
 try clear hcz65_1
 try clear hcz65_2
 try clear hcz65_3
 try clear hcz67_0
 try clear hcz67_1
 try clear hcz67_2
 try clear hcz67_3
 try clear hcz9_0
 try clear hcz9_1
 try clear hcz9_2
 try clear hcz9_3
 try clear hfz16_0
 try clear hfz16_1
 try clear hfz16_2
 try clear hfz16_3
 try clear hfz23_0
 try clear hfz23_1
 try clear hfz23_2
 try clear hfz23_3
 try clear hfz24_0
 try clear hfz24_1
 try clear hfz24_2
 try clear hfz24_3
 try clear hfz27_0
 try clear hfz27_1
 try clear hfz27_2
 try clear hfz27_3
 try clear hfz28_0
 try clear hfz28_1
 try clear hfz28_2
 try clear hfz28_3
 try clear hfz35_0
 try clear hfz35_1
 try clear hfz35_2
 try clear hfz35_3
 try clear hfz37_0
 try clear hfz37_1
 try clear hfz37_2
 try clear hfz37_3
 try clear hfz43_0
 try clear hfz43_1
 try clear hfz43_2
 try clear hfz43_3
 try clear hfz45_0
 try clear hfz45_1
 try clear hfz45_2
 try clear hfz45_3
 try clear hfz51_0
 try clear hfz51_1
 try clear hfz51_2
 try clear hfz51_3
 try clear hfz59_0
 try clear hfz59_1
 try clear hfz59_2
 try clear hfz59_3
 try clear hfz61_0
 try clear hfz61_1
 try clear hfz61_2
 try clear hfz61_3
 try clear hfz65_0
 try clear hfz65_1
 try clear hfz65_2
 try clear hfz65_3
 try clear hfz67_0
 try clear hfz67_1
 try clear hfz67_2
 try clear hfz67_3
 try clear hfz9_0
 try clear hfz9_1
 try clear hfz9_2
 try clear hfz9_3
 try clear p2
 obtain ⟨kq, x64_40, rfl, HA, HJ40, HO_226001, HO_226002, HO_226003, HO_238001, HO_238002, HO_238003, HO_256001, HO_256002, HO_256003, BK225, BK237, BK255, HB⟩ := hcut
 have hl238001_40 := (Kd.R_reads' HO_238001.out).1
 rw [hl238001_40] at HO_238001
 (try simp only [hl238001_40])
 (try simp only [hl238001_40] at BK225)
 (try simp only [hl238001_40] at BK237)
 (try simp only [hl238001_40] at BK255)
 (try simp only [hl238001_40] at HO_226001)
 (try simp only [hl238001_40] at HO_226002)
 (try simp only [hl238001_40] at HO_226003)
 (try simp only [hl238001_40] at HO_238002)
 (try simp only [hl238001_40] at HO_238003)
 (try simp only [hl238001_40] at HO_256001)
 (try simp only [hl238001_40] at HO_256002)
 (try simp only [hl238001_40] at HO_256003)
 have hl238002_40 := (Kd.R_reads' HO_238002.out).1
 rw [hl238002_40] at HO_238002
 (try simp only [hl238002_40])
 (try simp only [hl238002_40] at BK225)
 (try simp only [hl238002_40] at BK237)
 (try simp only [hl238002_40] at BK255)
 (try simp only [hl238002_40] at HO_226001)
 (try simp only [hl238002_40] at HO_226002)
 (try simp only [hl238002_40] at HO_226003)
 (try simp only [hl238002_40] at HO_238001)
 (try simp only [hl238002_40] at HO_238003)
 (try simp only [hl238002_40] at HO_256001)
 (try simp only [hl238002_40] at HO_256002)
 (try simp only [hl238002_40] at HO_256003)
 have hl238003_40 := (Kd.R_reads' HO_238003.out).1
 rw [hl238003_40] at HO_238003
 (try simp only [hl238003_40])
 (try simp only [hl238003_40] at BK225)
 (try simp only [hl238003_40] at BK237)
 (try simp only [hl238003_40] at BK255)
 (try simp only [hl238003_40] at HO_226001)
 (try simp only [hl238003_40] at HO_226002)
 (try simp only [hl238003_40] at HO_226003)
 (try simp only [hl238003_40] at HO_238001)
 (try simp only [hl238003_40] at HO_238002)
 (try simp only [hl238003_40] at HO_256001)
 (try simp only [hl238003_40] at HO_256002)
 (try simp only [hl238003_40] at HO_256003)
 cases kq with
 | zero => exact absurd HA.out (by simp [laws_FnExactNewRoom.j1])
 | succ kj40 =>
  skip
  {
 have H := HA.out
 clear HA
 simp only [laws_FnExactNewRoom.j1] at H
 by_cases c69 : x64_40 = true
 {
 subst c69
 have H1 : (some false) = some r := by rw [if_pos rfl] at H; exact H
 clear H
 have H := H1
 clear H1
 obtain rfl := Option.some.inj H
 go_wp2
 go_ret
 exact ⟨by first | rfl | (simp [errW_none, errW_some] <;> rfl) | (simp [*, errW_none, errW_some] <;> rfl), by repeat (first | (with_reducible first | exact HB.out | apply below_alloc | apply pw_below_drewN | apply below_drew1 | refine below_set ?_ GE225.out | refine below_set ?_ GE237.out | refine below_set ?_ GE255.out) | exact HB.out)⟩}
 {
 replace c69 := Bool.eq_false_iff.mpr c69
 subst c69
 have H1 : ((laws_heldRoom.f kj40 t226 t240 t241 t242 1).bind fun t257 => (if t257 < 0 then (some false) else (if t257 = t239 then (some true) else (some false)))) = some r := by rw [if_neg (show ¬ (false = true) by decide)] at H; exact H
 clear H
 have H := H1
 clear H1
 replace H := Option.bind_eq_some_iff.mp H
 obtain ⟨t257, A700, H⟩ := H
 replace H : (if t257 < 0 then (some false) else (if t257 = t239 then (some true) else (some false))) = some r := H
 have A70 := Aside0.mk A700
 clear A700
 by_cases c71 : t257 < 0
 {
 rw [if_pos c71] at H
 have c71b0 : decide (t257 < 0) = true := decide_eq_true c71
 clear c71
 obtain rfl := Option.some.inj H
 have hnb72 := NB237_225.out
 have hnc72 := NB225_237.out
 have hnb73 := NB237_255.out
 have hnc73 := NB255_237.out
 have hcz74_0 : wc.cell? ⟨gb237, 0, none⟩ = some (.bool t226) := (blk_cell BK237.out 0).trans rfl
 have hcz74_1 : wc.cell? ⟨gb237, 1, none⟩ = some (.slice Ao17 t240.length co17) := (blk_cell BK237.out 1).trans rfl
 have hcz74_2 : wc.cell? ⟨gb237, 2, none⟩ = some (.slice Ao18 t241.length co18) := (blk_cell BK237.out 2).trans rfl
 have hcz74_3 : wc.cell? ⟨gb237, 3, none⟩ = some (.slice Ao19 t242.length co19) := (blk_cell BK237.out 3).trans rfl
 have hfz74_0 := blk_frozen BK237.out 0
 have hfz74_1 := blk_frozen BK237.out 1
 have hfz74_2 := blk_frozen BK237.out 2
 have hfz74_3 := blk_frozen BK237.out 3
 go_wp2_with (first | ((with_reducible refine gate_callee (f := 19) rfl ?_); refine goesL_ (some 67) rfl rfl Try.func19 s2_ rfl #[.agg #[.bool t226, .slice Ao17 t240.length co17, .slice Ao18 t241.length co18, .slice Ao19 t242.length co19], .int .i64 1] rfl s3_ ?_; (with_reducible refine (laws_heldRoom.calls kj40 t226 _ _ t240 _ _ t241 _ _ t242 1 t257 _ ?side1 ?side2 ?side3 ?side4 ?side5 ?side6 A70.out).mono ?_); (case side1 => repeat (first | exact (Kd.R_reads' HO_238001.out).2.2 | (with_reducible refine Kd.C_alloc ?_ _) | (with_reducible refine Kd.C_drewN ?_ _) | (with_reducible refine Kd.C_drew ?_))); (case side2 => exact (Kd.R_reads' HO_238001.out).2.1); (case side3 => repeat (first | exact (Kd.R_reads' HO_238002.out).2.2 | (with_reducible refine Kd.C_alloc ?_ _) | (with_reducible refine Kd.C_drewN ?_ _) | (with_reducible refine Kd.C_drew ?_))); (case side4 => exact (Kd.R_reads' HO_238002.out).2.1); (case side5 => repeat (first | exact (Kd.R_reads' HO_238003.out).2.2 | (with_reducible refine Kd.C_alloc ?_ _) | (with_reducible refine Kd.C_drewN ?_ _) | (with_reducible refine Kd.C_drew ?_))); (case side6 => exact (Kd.R_reads' HO_238003.out).2.1); rintro e w75 ⟨rfl, hb⟩; refine ⟨_, rfl, ?_⟩; have n0_ := Aside0.mk (Kd.R_below (b2_ HO_226001.out) hb); have n1_ := Aside0.mk (Kd.R_below (b2_ HO_226002.out) hb); have n2_ := Aside0.mk (Kd.R_below (b2_ HO_226003.out) hb); have n3_ := Aside0.mk (Kd.R_below (b2_ HO_238001.out) hb); have n4_ := Aside0.mk (Kd.R_below (b2_ HO_238002.out) hb); have n5_ := Aside0.mk (Kd.R_below (b2_ HO_238003.out) hb); have n6_ := Aside0.mk (Kd.R_below (b2_ HO_256001.out) hb); have n7_ := Aside0.mk (Kd.R_below (b2_ HO_256002.out) hb); have n8_ := Aside0.mk (Kd.R_below (b2_ HO_256003.out) hb); have n9_ := Aside0.mk (blk_below (g := gb225) (o := .cells #[.bool t214, .slice Ao10 t215.length co10, .slice Ao11 t218.length co11, .slice Ao12 t221.length co12] 28 (0, 0)) (b1_ BK225.out) hb); have n10_ := Aside0.mk (blk_below (g := gb237) (o := .cells #[.bool t226, .slice Ao17 t240.length co17, .slice Ao18 t241.length co18, .slice Ao19 t242.length co19] 28 (0, 0)) (b1_ BK237.out) hb); have n11_ := Aside0.mk (blk_below (g := gb255) (o := .cells #[.bool t244, .slice Ao52 t245.length co52, .slice Ao53 t248.length co53, .slice Ao54 t251.length co54] 28 (0, 0)) (b1_ BK255.out) hb); have n12_ := Aside0.mk (below_step (by repeat (first | (with_reducible first | exact HB.out | apply below_alloc | apply pw_below_drewN | apply below_drew1 | refine below_set ?_ GE225.out | refine below_set ?_ GE237.out | refine below_set ?_ GE255.out) | exact HB.out)) hb); clear HO_226001; clear HO_226002; clear HO_226003; clear HO_238001; clear HO_238002; clear HO_238003; clear HO_256001; clear HO_256002; clear HO_256003; clear BK225; clear BK237; clear BK255; clear HB; have HO_226001 := n0_; have HO_226002 := n1_; have HO_226003 := n2_; have HO_238001 := n3_; have HO_238002 := n4_; have HO_238003 := n5_; have HO_256001 := n6_; have HO_256002 := n7_; have HO_256003 := n8_; have BK225 := n9_; have BK237 := n10_; have BK255 := n11_; have HB := n12_; clear n0_ n1_ n2_ n3_ n4_ n5_ n6_ n7_ n8_ n9_ n10_ n11_ n12_; (try clear hb); (try clear hb2); (try clear hk); (try clear hi)))
 go_ret
 exact ⟨by first | rfl | (simp [errW_none, errW_some] <;> rfl) | (simp [*, errW_none, errW_some] <;> rfl), by repeat (first | (with_reducible first | exact HB.out | apply below_alloc | apply pw_below_drewN | apply below_drew1 | refine below_set ?_ GE225.out | refine below_set ?_ GE237.out | refine below_set ?_ GE255.out) | exact HB.out)⟩}
 {
 rw [if_neg c71] at H
 have c71b0 : decide (t257 < 0) = false := decide_eq_false c71
 clear c71
 by_cases c76 : t257 = t239
 {
 rw [if_pos c76] at H
 have c76b0 : (t257 == t239) = true := beq_iff_eq.mpr c76
 have c76b1 : (t257 != t239) = false := bne_eq_false_iff_eq.mpr c76
 clear c76
 obtain rfl := Option.some.inj H
 have hnb77 := NB237_225.out
 have hnc77 := NB225_237.out
 have hnb78 := NB237_255.out
 have hnc78 := NB255_237.out
 have hcz79_0 : wc.cell? ⟨gb237, 0, none⟩ = some (.bool t226) := (blk_cell BK237.out 0).trans rfl
 have hcz79_1 : wc.cell? ⟨gb237, 1, none⟩ = some (.slice Ao17 t240.length co17) := (blk_cell BK237.out 1).trans rfl
 have hcz79_2 : wc.cell? ⟨gb237, 2, none⟩ = some (.slice Ao18 t241.length co18) := (blk_cell BK237.out 2).trans rfl
 have hcz79_3 : wc.cell? ⟨gb237, 3, none⟩ = some (.slice Ao19 t242.length co19) := (blk_cell BK237.out 3).trans rfl
 have hfz79_0 := blk_frozen BK237.out 0
 have hfz79_1 := blk_frozen BK237.out 1
 have hfz79_2 := blk_frozen BK237.out 2
 have hfz79_3 := blk_frozen BK237.out 3
 go_wp2_with (first | ((with_reducible refine gate_callee (f := 19) rfl ?_); refine goesL_ (some 67) rfl rfl Try.func19 s2_ rfl #[.agg #[.bool t226, .slice Ao17 t240.length co17, .slice Ao18 t241.length co18, .slice Ao19 t242.length co19], .int .i64 1] rfl s3_ ?_; (with_reducible refine (laws_heldRoom.calls kj40 t226 _ _ t240 _ _ t241 _ _ t242 1 t257 _ ?side1 ?side2 ?side3 ?side4 ?side5 ?side6 A70.out).mono ?_); (case side1 => repeat (first | exact (Kd.R_reads' HO_238001.out).2.2 | (with_reducible refine Kd.C_alloc ?_ _) | (with_reducible refine Kd.C_drewN ?_ _) | (with_reducible refine Kd.C_drew ?_))); (case side2 => exact (Kd.R_reads' HO_238001.out).2.1); (case side3 => repeat (first | exact (Kd.R_reads' HO_238002.out).2.2 | (with_reducible refine Kd.C_alloc ?_ _) | (with_reducible refine Kd.C_drewN ?_ _) | (with_reducible refine Kd.C_drew ?_))); (case side4 => exact (Kd.R_reads' HO_238002.out).2.1); (case side5 => repeat (first | exact (Kd.R_reads' HO_238003.out).2.2 | (with_reducible refine Kd.C_alloc ?_ _) | (with_reducible refine Kd.C_drewN ?_ _) | (with_reducible refine Kd.C_drew ?_))); (case side6 => exact (Kd.R_reads' HO_238003.out).2.1); rintro e w80 ⟨rfl, hb⟩; refine ⟨_, rfl, ?_⟩; have n0_ := Aside0.mk (Kd.R_below (b2_ HO_226001.out) hb); have n1_ := Aside0.mk (Kd.R_below (b2_ HO_226002.out) hb); have n2_ := Aside0.mk (Kd.R_below (b2_ HO_226003.out) hb); have n3_ := Aside0.mk (Kd.R_below (b2_ HO_238001.out) hb); have n4_ := Aside0.mk (Kd.R_below (b2_ HO_238002.out) hb); have n5_ := Aside0.mk (Kd.R_below (b2_ HO_238003.out) hb); have n6_ := Aside0.mk (Kd.R_below (b2_ HO_256001.out) hb); have n7_ := Aside0.mk (Kd.R_below (b2_ HO_256002.out) hb); have n8_ := Aside0.mk (Kd.R_below (b2_ HO_256003.out) hb); have n9_ := Aside0.mk (blk_below (g := gb225) (o := .cells #[.bool t214, .slice Ao10 t215.length co10, .slice Ao11 t218.length co11, .slice Ao12 t221.length co12] 28 (0, 0)) (b1_ BK225.out) hb); have n10_ := Aside0.mk (blk_below (g := gb237) (o := .cells #[.bool t226, .slice Ao17 t240.length co17, .slice Ao18 t241.length co18, .slice Ao19 t242.length co19] 28 (0, 0)) (b1_ BK237.out) hb); have n11_ := Aside0.mk (blk_below (g := gb255) (o := .cells #[.bool t244, .slice Ao52 t245.length co52, .slice Ao53 t248.length co53, .slice Ao54 t251.length co54] 28 (0, 0)) (b1_ BK255.out) hb); have n12_ := Aside0.mk (below_step (by repeat (first | (with_reducible first | exact HB.out | apply below_alloc | apply pw_below_drewN | apply below_drew1 | refine below_set ?_ GE225.out | refine below_set ?_ GE237.out | refine below_set ?_ GE255.out) | exact HB.out)) hb); clear HO_226001; clear HO_226002; clear HO_226003; clear HO_238001; clear HO_238002; clear HO_238003; clear HO_256001; clear HO_256002; clear HO_256003; clear BK225; clear BK237; clear BK255; clear HB; have HO_226001 := n0_; have HO_226002 := n1_; have HO_226003 := n2_; have HO_238001 := n3_; have HO_238002 := n4_; have HO_238003 := n5_; have HO_256001 := n6_; have HO_256002 := n7_; have HO_256003 := n8_; have BK225 := n9_; have BK237 := n10_; have BK255 := n11_; have HB := n12_; clear n0_ n1_ n2_ n3_ n4_ n5_ n6_ n7_ n8_ n9_ n10_ n11_ n12_; (try clear hb); (try clear hb2); (try clear hk); (try clear hi)))
 go_ret
 exact ⟨by first | rfl | (simp [errW_none, errW_some] <;> rfl) | (simp [*, errW_none, errW_some] <;> rfl), by repeat (first | (with_reducible first | exact HB.out | apply below_alloc | apply pw_below_drewN | apply below_drew1 | refine below_set ?_ GE225.out | refine below_set ?_ GE237.out | refine below_set ?_ GE255.out) | exact HB.out)⟩}
 {
 rw [if_neg c76] at H
 have c76b0 : (t257 == t239) = false := beq_eq_false_iff_ne.mpr c76
 have c76b1 : (t257 != t239) = true := bne_iff_ne.mpr c76
 obtain rfl := Option.some.inj H
 have hnb81 := NB237_225.out
 have hnc81 := NB225_237.out
 have hnb82 := NB237_255.out
 have hnc82 := NB255_237.out
 have hcz83_0 : wc.cell? ⟨gb237, 0, none⟩ = some (.bool t226) := (blk_cell BK237.out 0).trans rfl
 have hcz83_1 : wc.cell? ⟨gb237, 1, none⟩ = some (.slice Ao17 t240.length co17) := (blk_cell BK237.out 1).trans rfl
 have hcz83_2 : wc.cell? ⟨gb237, 2, none⟩ = some (.slice Ao18 t241.length co18) := (blk_cell BK237.out 2).trans rfl
 have hcz83_3 : wc.cell? ⟨gb237, 3, none⟩ = some (.slice Ao19 t242.length co19) := (blk_cell BK237.out 3).trans rfl
 have hfz83_0 := blk_frozen BK237.out 0
 have hfz83_1 := blk_frozen BK237.out 1
 have hfz83_2 := blk_frozen BK237.out 2
 have hfz83_3 := blk_frozen BK237.out 3
 go_wp2_with (first | ((with_reducible refine gate_callee (f := 19) rfl ?_); refine goesL_ (some 67) rfl rfl Try.func19 s2_ rfl #[.agg #[.bool t226, .slice Ao17 t240.length co17, .slice Ao18 t241.length co18, .slice Ao19 t242.length co19], .int .i64 1] rfl s3_ ?_; (with_reducible refine (laws_heldRoom.calls kj40 t226 _ _ t240 _ _ t241 _ _ t242 1 t257 _ ?side1 ?side2 ?side3 ?side4 ?side5 ?side6 A70.out).mono ?_); (case side1 => repeat (first | exact (Kd.R_reads' HO_238001.out).2.2 | (with_reducible refine Kd.C_alloc ?_ _) | (with_reducible refine Kd.C_drewN ?_ _) | (with_reducible refine Kd.C_drew ?_))); (case side2 => exact (Kd.R_reads' HO_238001.out).2.1); (case side3 => repeat (first | exact (Kd.R_reads' HO_238002.out).2.2 | (with_reducible refine Kd.C_alloc ?_ _) | (with_reducible refine Kd.C_drewN ?_ _) | (with_reducible refine Kd.C_drew ?_))); (case side4 => exact (Kd.R_reads' HO_238002.out).2.1); (case side5 => repeat (first | exact (Kd.R_reads' HO_238003.out).2.2 | (with_reducible refine Kd.C_alloc ?_ _) | (with_reducible refine Kd.C_drewN ?_ _) | (with_reducible refine Kd.C_drew ?_))); (case side6 => exact (Kd.R_reads' HO_238003.out).2.1); rintro e w84 ⟨rfl, hb⟩; refine ⟨_, rfl, ?_⟩; have n0_ := Aside0.mk (Kd.R_below (b2_ HO_226001.out) hb); have n1_ := Aside0.mk (Kd.R_below (b2_ HO_226002.out) hb); have n2_ := Aside0.mk (Kd.R_below (b2_ HO_226003.out) hb); have n3_ := Aside0.mk (Kd.R_below (b2_ HO_238001.out) hb); have n4_ := Aside0.mk (Kd.R_below (b2_ HO_238002.out) hb); have n5_ := Aside0.mk (Kd.R_below (b2_ HO_238003.out) hb); have n6_ := Aside0.mk (Kd.R_below (b2_ HO_256001.out) hb); have n7_ := Aside0.mk (Kd.R_below (b2_ HO_256002.out) hb); have n8_ := Aside0.mk (Kd.R_below (b2_ HO_256003.out) hb); have n9_ := Aside0.mk (blk_below (g := gb225) (o := .cells #[.bool t214, .slice Ao10 t215.length co10, .slice Ao11 t218.length co11, .slice Ao12 t221.length co12] 28 (0, 0)) (b1_ BK225.out) hb); have n10_ := Aside0.mk (blk_below (g := gb237) (o := .cells #[.bool t226, .slice Ao17 t240.length co17, .slice Ao18 t241.length co18, .slice Ao19 t242.length co19] 28 (0, 0)) (b1_ BK237.out) hb); have n11_ := Aside0.mk (blk_below (g := gb255) (o := .cells #[.bool t244, .slice Ao52 t245.length co52, .slice Ao53 t248.length co53, .slice Ao54 t251.length co54] 28 (0, 0)) (b1_ BK255.out) hb); have n12_ := Aside0.mk (below_step (by repeat (first | (with_reducible first | exact HB.out | apply below_alloc | apply pw_below_drewN | apply below_drew1 | refine below_set ?_ GE225.out | refine below_set ?_ GE237.out | refine below_set ?_ GE255.out) | exact HB.out)) hb); clear HO_226001; clear HO_226002; clear HO_226003; clear HO_238001; clear HO_238002; clear HO_238003; clear HO_256001; clear HO_256002; clear HO_256003; clear BK225; clear BK237; clear BK255; clear HB; have HO_226001 := n0_; have HO_226002 := n1_; have HO_226003 := n2_; have HO_238001 := n3_; have HO_238002 := n4_; have HO_238003 := n5_; have HO_256001 := n6_; have HO_256002 := n7_; have HO_256003 := n8_; have BK225 := n9_; have BK237 := n10_; have BK255 := n11_; have HB := n12_; clear n0_ n1_ n2_ n3_ n4_ n5_ n6_ n7_ n8_ n9_ n10_ n11_ n12_; (try clear hb); (try clear hb2); (try clear hk); (try clear hi)))
 go_ret
 exact ⟨by first | rfl | (simp [errW_none, errW_some] <;> rfl) | (simp [*, errW_none, errW_some] <;> rfl), by repeat (first | (with_reducible first | exact HB.out | apply below_alloc | apply pw_below_drewN | apply below_drew1 | refine below_set ?_ GE225.out | refine below_set ?_ GE237.out | refine below_set ?_ GE255.out) | exact HB.out)⟩}}}}}}
 {
 rw [if_neg c39] at H
 have c39b0 : (t243 == t239) = false := beq_eq_false_iff_ne.mpr c39
 have c39b1 : (t243 != t239) = true := bne_iff_ne.mpr c39
 obtain rfl := Option.some.inj H
 have hnb85 := NB237_225.out
 have hnc85 := NB225_237.out
 have hcz86_0 : wc.cell? ⟨gb237, 0, none⟩ = some (.bool t226) := (blk_cell BK237.out 0).trans rfl
 have hcz86_1 : wc.cell? ⟨gb237, 1, none⟩ = some (.slice Ao17 t227.length co17) := (blk_cell BK237.out 1).trans rfl
 have hcz86_2 : wc.cell? ⟨gb237, 2, none⟩ = some (.slice Ao18 t230.length co18) := (blk_cell BK237.out 2).trans rfl
 have hcz86_3 : wc.cell? ⟨gb237, 3, none⟩ = some (.slice Ao19 t233.length co19) := (blk_cell BK237.out 3).trans rfl
 have hfz86_0 := blk_frozen BK237.out 0
 have hfz86_1 := blk_frozen BK237.out 1
 have hfz86_2 := blk_frozen BK237.out 2
 have hfz86_3 := blk_frozen BK237.out 3
 go_wp2_with (first | ((with_reducible refine gate_callee (f := 18) rfl ?_); refine goesL_ (some 40) rfl rfl Try.func18 s2_ rfl #[.agg #[.bool t226, .slice Ao17 t227.length co17, .slice Ao18 t230.length co18, .slice Ao19 t233.length co19], .int .i64 1] rfl s3_ ?_; (with_reducible refine (laws_markRoom.calls kj5 t226 (fun k_ => some k_ = (.slice Ao17 t227.length co17 : Value).ownBlock) (.slice Ao17 t227.length co17) t227 (fun k_ => some k_ = (.slice Ao18 t230.length co18 : Value).ownBlock) (.slice Ao18 t230.length co18) t230 (fun k_ => some k_ = (.slice Ao19 t233.length co19 : Value).ownBlock) (.slice Ao19 t233.length co19) t233 1 t239 t240 t241 t242 w _ ?side1 ?side2 ?side3 ?side4 A31.out).mono ?_); (case side1 => repeat (first | (with_reducible first | exact HB.out | apply below_alloc | apply pw_below_drewN | apply below_drew1 | refine below_set ?_ GE225.out | refine below_set ?_ GE237.out) | exact HB.out)); (case side2 => exact Kd.R_tight rfl HO_238001.out); (case side3 => exact Kd.R_tight rfl HO_238002.out); (case side4 => exact Kd.R_tight rfl HO_238003.out); rintro e w87 ⟨rfl, hy0, hy1, hy2, hb, hkp⟩; refine ⟨_, rfl, ?_⟩; have n0_ := Aside0.mk (Kd.R_mono (ok' := fun k_ => some k_ ≠ (.slice Ao17 t227.length co17 : Value).ownBlock) (Kd.R_keptB ((Kd.R_apart' (Kd.R_apart' HO_226001.out (Kd.R_typed HO_238002.out) (by decide)) (Kd.R_typed HO_238003.out) (by decide))) hkp (fun k_ hk_ hs_ => Or.elim hs_ (fun e_ => (hk_.1.1) e_) (fun e_ => Or.elim e_ (fun e_ => (hk_.1.2) e_) (fun e_ => (hk_.2) e_)))) (fun k_ hk_ => hk_.1.1.1)); have n1_ := Aside0.mk (Kd.R_mono (ok' := fun k_ => some k_ ≠ (.slice Ao18 t230.length co18 : Value).ownBlock) (Kd.R_keptB ((Kd.R_apart' (Kd.R_apart' HO_226002.out (Kd.R_typed HO_238001.out) (by decide)) (Kd.R_typed HO_238003.out) (by decide))) hkp (fun k_ hk_ hs_ => Or.elim hs_ (fun e_ => (hk_.1.2) e_) (fun e_ => Or.elim e_ (fun e_ => (hk_.1.1) e_) (fun e_ => (hk_.2) e_)))) (fun k_ hk_ => hk_.1.1.1)); have n2_ := Aside0.mk (Kd.R_mono (ok' := fun k_ => some k_ ≠ (.slice Ao19 t233.length co19 : Value).ownBlock) (Kd.R_keptB ((Kd.R_apart' (Kd.R_apart' HO_226003.out (Kd.R_typed HO_238001.out) (by decide)) (Kd.R_typed HO_238002.out) (by decide))) hkp (fun k_ hk_ hs_ => Or.elim hs_ (fun e_ => (hk_.1.2) e_) (fun e_ => Or.elim e_ (fun e_ => (hk_.2) e_) (fun e_ => (hk_.1.1) e_)))) (fun k_ hk_ => hk_.1.1.1)); have n3_ := Aside0.mk (Kd.R_reok rfl hy0 (fun k_ e_ => HO_238001.out.1 k_ e_)); have n4_ := Aside0.mk (Kd.R_reok rfl hy1 (fun k_ e_ => HO_238002.out.1 k_ e_)); have n5_ := Aside0.mk (Kd.R_reok rfl hy2 (fun k_ e_ => HO_238003.out.1 k_ e_)); have n6_ := Aside0.mk (blk_kept (b1_ BK225.out) hkp (fun hs_ => Or.elim hs_ (fun e_ => (fun e_ => (Kd.R_ne HO_238001.out BK225.out (by decide)) e_) e_) (fun e_ => Or.elim e_ (fun e_ => (fun e_ => (Kd.R_ne HO_238002.out BK225.out (by decide)) e_) e_) (fun e_ => (fun e_ => (Kd.R_ne HO_238003.out BK225.out (by decide)) e_) e_)))); have n7_ := Aside0.mk (blk_kept (b1_ BK237.out) hkp (fun hs_ => Or.elim hs_ (fun e_ => (fun e_ => (Kd.R_ne HO_238001.out BK237.out (by decide)) e_) e_) (fun e_ => Or.elim e_ (fun e_ => (fun e_ => (Kd.R_ne HO_238002.out BK237.out (by decide)) e_) e_) (fun e_ => (fun e_ => (Kd.R_ne HO_238003.out BK237.out (by decide)) e_) e_)))); have n8_ := Aside0.mk (hb); clear HO_226001; clear HO_226002; clear HO_226003; clear HO_238001; clear HO_238002; clear HO_238003; clear BK225; clear BK237; clear HB; have HO_226001 := n0_; have HO_226002 := n1_; have HO_226003 := n2_; have HO_238001 := n3_; have HO_238002 := n4_; have HO_238003 := n5_; have BK225 := n6_; have BK237 := n7_; have HB := n8_; clear n0_ n1_ n2_ n3_ n4_ n5_ n6_ n7_ n8_; (try clear hb); (try clear hkp); (try clear hy0); (try clear hy1); (try clear hy2); have hcz88_0 : w87.cell? ⟨gb237, 0, none⟩ = some (.bool t226) := (blk_cell BK237.out 0).trans rfl; have hcz88_1 : w87.cell? ⟨gb237, 1, none⟩ = some (.slice Ao17 t227.length co17) := (blk_cell BK237.out 1).trans rfl; have hcz88_2 : w87.cell? ⟨gb237, 2, none⟩ = some (.slice Ao18 t230.length co18) := (blk_cell BK237.out 2).trans rfl; have hcz88_3 : w87.cell? ⟨gb237, 3, none⟩ = some (.slice Ao19 t233.length co19) := (blk_cell BK237.out 3).trans rfl; have hfz88_0 := blk_frozen BK237.out 0; have hfz88_1 := blk_frozen BK237.out 1; have hfz88_2 := blk_frozen BK237.out 2; have hfz88_3 := blk_frozen BK237.out 3) | ((with_reducible refine gate_callee (f := 19) rfl ?_); refine goesL_ (some 43) rfl rfl Try.func19 s2_ rfl #[.agg #[.bool t226, .slice Ao17 t240.length co17, .slice Ao18 t241.length co18, .slice Ao19 t242.length co19], .int .i64 1] rfl (by (try simp only [List.map_toArray, List.map_cons, List.map_nil]); first | done | (rw [show t240.length = t227.length from (Kd.R_reads' HO_238001.out).1.symm, show t241.length = t230.length from (Kd.R_reads' HO_238002.out).1.symm, show t242.length = t233.length from (Kd.R_reads' HO_238003.out).1.symm] <;> rfl) | rfl | (simp only [List.length_drop, List.length_take]; rfl)) ?_; (with_reducible refine (laws_heldRoom.calls kj5 t226 _ _ t240 _ _ t241 _ _ t242 1 t243 _ ?side1 ?side2 ?side3 ?side4 ?side5 ?side6 A32.out).mono ?_); (case side1 => repeat (first | exact (Kd.R_reads' HO_238001.out).2.2 | (with_reducible refine Kd.C_alloc ?_ _) | (with_reducible refine Kd.C_drewN ?_ _) | (with_reducible refine Kd.C_drew ?_))); (case side2 => rw [show t240.length = t227.length from (Kd.R_reads' HO_238001.out).1.symm]; exact (Kd.R_reads' HO_238001.out).2.1); (case side3 => repeat (first | exact (Kd.R_reads' HO_238002.out).2.2 | (with_reducible refine Kd.C_alloc ?_ _) | (with_reducible refine Kd.C_drewN ?_ _) | (with_reducible refine Kd.C_drew ?_))); (case side4 => rw [show t241.length = t230.length from (Kd.R_reads' HO_238002.out).1.symm]; exact (Kd.R_reads' HO_238002.out).2.1); (case side5 => repeat (first | exact (Kd.R_reads' HO_238003.out).2.2 | (with_reducible refine Kd.C_alloc ?_ _) | (with_reducible refine Kd.C_drewN ?_ _) | (with_reducible refine Kd.C_drew ?_))); (case side6 => rw [show t242.length = t233.length from (Kd.R_reads' HO_238003.out).1.symm]; exact (Kd.R_reads' HO_238003.out).2.1); rintro e w89 ⟨rfl, hb⟩; refine ⟨_, rfl, ?_⟩; have n0_ := Aside0.mk (Kd.R_below (b2_ HO_226001.out) hb); have n1_ := Aside0.mk (Kd.R_below (b2_ HO_226002.out) hb); have n2_ := Aside0.mk (Kd.R_below (b2_ HO_226003.out) hb); have n3_ := Aside0.mk (Kd.R_below (b2_ HO_238001.out) hb); have n4_ := Aside0.mk (Kd.R_below (b2_ HO_238002.out) hb); have n5_ := Aside0.mk (Kd.R_below (b2_ HO_238003.out) hb); have n6_ := Aside0.mk (blk_below (g := gb225) (o := .cells #[.bool t214, .slice Ao10 t215.length co10, .slice Ao11 t218.length co11, .slice Ao12 t221.length co12] 28 (0, 0)) (b1_ BK225.out) hb); have n7_ := Aside0.mk (blk_below (g := gb237) (o := .cells #[.bool t226, .slice Ao17 t227.length co17, .slice Ao18 t230.length co18, .slice Ao19 t233.length co19] 28 (0, 0)) (b1_ BK237.out) hb); have n8_ := Aside0.mk (below_step (by repeat (first | (with_reducible first | exact HB.out | apply below_alloc | apply pw_below_drewN | apply below_drew1 | refine below_set ?_ GE225.out | refine below_set ?_ GE237.out) | exact HB.out)) hb); clear HO_226001; clear HO_226002; clear HO_226003; clear HO_238001; clear HO_238002; clear HO_238003; clear BK225; clear BK237; clear HB; have HO_226001 := n0_; have HO_226002 := n1_; have HO_226003 := n2_; have HO_238001 := n3_; have HO_238002 := n4_; have HO_238003 := n5_; have BK225 := n6_; have BK237 := n7_; have HB := n8_; clear n0_ n1_ n2_ n3_ n4_ n5_ n6_ n7_ n8_; (try clear hb); (try clear hb2); (try clear hk); (try clear hi)))
 go_ret
 exact ⟨by first | rfl | (simp [errW_none, errW_some] <;> rfl) | (simp [*, errW_none, errW_some] <;> rfl), by repeat (first | (with_reducible first | exact HB.out | apply below_alloc | apply pw_below_drewN | apply below_drew1 | refine below_set ?_ GE225.out | refine below_set ?_ GE237.out) | exact HB.out)⟩}}}}}

/-- THE ONE PURE STATEMENT of laws_FnExactNewRoom: yours. -/
def laws_FnExactNewRoom.Pure : Prop := ∀ (a0 : Int) (a1 : Int) (a2 : Bool), (Lit.int .i64 a0).wf = true → (Lit.int .i64 a1).wf = true → ∃ k, laws_FnExactNewRoom.f k a0 a1 a2 = some true
theorem laws_FnExactNewRoom.walk (P : laws_FnExactNewRoom.Pure) (a0 : Int) (a1 : Int) (a2 : Bool) (w : World) (w0 : (Lit.int .i64 a0).wf = true) (w1 : (Lit.int .i64 a1).wf = true) :
    Calls Try.prog 4 #[.int .i64 a0, .int .i64 a1, .bool a2] w fun e w' => e = .returned (.bool true) ∧ Below w.heap.size w w' := by
  obtain ⟨k, h⟩ := P a0 a1 a2 w0 w1
  refine (laws_FnExactNewRoom.calls k a0 a1 a2 true w h).mono ?_
  rintro e w' ⟨rfl, hd⟩
  exact ⟨rfl, hd⟩

end Go.Proofs.Ytdanachjdfiegaa.QFnExactNewRoom
