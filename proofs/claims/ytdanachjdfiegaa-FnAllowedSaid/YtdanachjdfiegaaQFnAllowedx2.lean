-- written by a program of this session, on the lines of the kit's print
import Derived.Test.YtdanachjdfiegaaQFnAllowedx0
import Derived.Test.YtdanachjdfiegaaQFnAllowedx1
namespace Go.Proofs.Ytdanachjdfiegaa.QFnAllowed
open Go.RowKit Go.Proofs.YtdanachjdfiegaaW.PrintWords Go.Proofs.YtdanachjdfiegaaW.PrintLast Go.Proofs.YtdanachjdfiegaaW.PrintMore
attribute [local go_sem] max2_int min2_int max_two min_two max_three min_three max_four min_four   -- for this text's walks alone
set_option linter.unusedVariables false
set_option linter.unusedSimpArgs false

/-! ### spec_l02DrawOk: function 30 -/
abbrev spec_l02DrawOk.T : Bool := true
abbrev spec_l02DrawOk.F : Bool := false
theorem spec_l02DrawOk.s1_ {P : Prop} (h : P := by first | rfl | (simp; done) | (simp [*]; done)) : P := h
theorem spec_l02DrawOk.s2_ {P : Prop} (h : P := by kernel_rfl) : P := h
theorem spec_l02DrawOk.s3_ {P : Prop} (h : P := by (try simp only [List.map_toArray, List.map_cons, List.map_nil]); first | done | rfl | (simp only [List.length_drop, List.length_take]; rfl)) : P := h
theorem spec_l02DrawOk.b1_ {P Q : Prop} (q : Q) (h : Q → P := by intro q_; (with_reducible repeat (first | refine blk_drewN ?_ _ | refine blk_drew ?_ | refine blk_alloc ?_ _)); exact q_) : P := h q
theorem spec_l02DrawOk.b2_ {P Q : Prop} (q : Q) (h : Q → P := by intro q_; (with_reducible repeat (first | apply Kd.R_alloc | apply Kd.R_drewN | apply Kd.R_drew)); exact q_) : P := h q
mutual
def spec_l02DrawOk.l0 : Nat → Int → Int → List Int → Int → Int → Bool → List (S36) → List (S71) → List (S73) → Option (Bool × (List (S36)) × (List (S71)) × (List (S73)) × Int × Int)
  | 0, _, _, _, _, _, _, _, _, _ => none
  | k + 1, x4, x5, x1000, x1001, x1002, x117000, x117001, x117002, x117003 => if x5 ≤ 6 then ((spec_l00Src_pick.f x1000 x1001 x1002 4).bind fun bt120 => ((spec_l00Src_pick.f x1000 bt120.2.1 bt120.2.2 20).bind fun bt124 => ((spec_l00Src_one.f x1000 bt124.2.1 bt124.2.2 4).bind fun bt127 => (if bt127.1 = true then ((spec_l00Src_pick.f x1000 bt127.2.1 bt127.2.2 40).bind fun bt130 => (spec_l02DrawOk.j1 k x4 x5 x1000 bt130.2.1 bt130.2.2 x117000 x117001 x117002 x117003 x5 bt120.1 bt124.1 bt130.1)) else (spec_l02DrawOk.j1 k x4 x5 x1000 bt127.2.1 bt127.2.2 x117000 x117001 x117002 x117003 x5 bt120.1 bt124.1 0))))) else (some (x117000, x117001, x117002, x117003, x1001, x1002))
def spec_l02DrawOk.j1 : Nat → Int → Int → List Int → Int → Int → Bool → List (S36) → List (S71) → List (S73) → Int → Int → Int → Int → Option (Bool × (List (S36)) × (List (S71)) × (List (S73)) × Int × Int)
  | 0, _, _, _, _, _, _, _, _, _, _, _, _, _ => none
  | k + 1, x4, x5, x1000, x1001, x1002, x117000, x117001, x117002, x117003, x124000, x124001, x124002, x124003 => if x5 = x4 then (spec_l02DrawOk.j2 k x4 x5 x1000 x1001 x1002 x117000 x117001 x117002 x117003 x124000 3 x124002 x124003) else (spec_l02DrawOk.j2 k x4 x5 x1000 x1001 x1002 x117000 x117001 x117002 x117003 x124000 x124001 x124002 x124003)
def spec_l02DrawOk.j2 : Nat → Int → Int → List Int → Int → Int → Bool → List (S36) → List (S71) → List (S73) → Int → Int → Int → Int → Option (Bool × (List (S36)) × (List (S71)) × (List (S73)) × Int × Int)
  | 0, _, _, _, _, _, _, _, _, _, _, _, _, _ => none
  | k + 1, x4, x5, x1000, x1001, x1002, x117000, x117001, x117002, x117003, x124000, x124001, x124002, x124003 => (spec_l00Src_pick.f x1000 x1001 x1002 40).bind fun bt133 => ((spec_l00Src_pick.f x1000 bt133.2.1 bt133.2.2 6).bind fun bt136 => ((spec_l00Src_pick.f x1000 bt136.2.1 bt136.2.2 5).bind fun bt139 => (if x5 = x4 then (spec_l02DrawOk.j3 k x4 x5 bt133.1 (wrap64 (1 + bt136.1)) bt139.1 true x1000 bt139.2.1 bt139.2.2 x117000 x117001 x117002 x117003 x124000 x124001 x124002 x124003) else (spec_l02DrawOk.j3 k x4 x5 bt133.1 (wrap64 (1 + bt136.1)) bt139.1 (decide (bt139.1 < 3)) x1000 bt139.2.1 bt139.2.2 x117000 x117001 x117002 x117003 x124000 x124001 x124002 x124003))))
def spec_l02DrawOk.j3 : Nat → Int → Int → Int → Int → Int → Bool → List Int → Int → Int → Bool → List (S36) → List (S71) → List (S73) → Int → Int → Int → Int → Option (Bool × (List (S36)) × (List (S71)) × (List (S73)) × Int × Int)
  | 0, _, _, _, _, _, _, _, _, _, _, _, _, _, _, _, _, _ => none
  | k + 1, x4, x5, x7, x8, x9, x53, x1000, x1001, x1002, x117000, x117001, x117002, x117003, x124000, x124001, x124002, x124003 => if x53 = true then (if x117001.length < 4398046511104 then (spec_l02DrawOk.l0 k x4 (wrap64 (x5 + 1)) x1000 x1001 x1002 x117000 (x117001 ++ [(⟨x124000, x124001, x124002, x124003⟩ : S36)]) x117002 x117003) else (none)) else (if x9 = 3 then (if x117002.length < 5864062014805 then (spec_l02DrawOk.l0 k x4 (wrap64 (x5 + 1)) x1000 x1001 x1002 x117000 x117001 (x117002 ++ [(⟨x5, x8, x7⟩ : S71)]) x117003) else (none)) else ((spec_l00Src_one.f x1000 x1001 x1002 2).bind fun bt148 => (if bt148.1 = true then (if x117003.length < 8796093022208 then (spec_l02DrawOk.l0 k x4 (wrap64 (x5 + 1)) x1000 bt148.2.1 bt148.2.2 x117000 x117001 x117002 (x117003 ++ [(⟨x5, x7⟩ : S73)])) else (none)) else (spec_l02DrawOk.l0 k x4 (wrap64 (x5 + 1)) x1000 bt148.2.1 bt148.2.2 x117000 x117001 x117002 x117003))))
end
def spec_l02DrawOk.f (k : Nat) (s0_0 : List Int) (s0_1 : Int) (s0_2 : Int) : Option (Bool × (List (S36)) × (List (S71)) × (List (S73)) × Int × Int) := (spec_l00Src_one.f s0_0 s0_1 s0_2 2).bind fun bt113 => ((spec_l00Src_pick.f s0_0 bt113.2.1 bt113.2.2 6).bind fun bt117 => (spec_l02DrawOk.l0 k (wrap64 (1 + bt117.1)) 1 s0_0 bt117.2.1 bt117.2.2 bt113.1 ([] : List (S36)) ([] : List (S71)) ([] : List (S73))))
theorem spec_l02DrawOk.mono_l : ∀ k, (∀ y0 y1 y2 y3 y4 y5 y6 y7 y8, LeO (spec_l02DrawOk.l0 k y0 y1 y2 y3 y4 y5 y6 y7 y8) (spec_l02DrawOk.l0 (k + 1) y0 y1 y2 y3 y4 y5 y6 y7 y8)) ∧ (∀ y0 y1 y2 y3 y4 y5 y6 y7 y8 y9 y10 y11 y12, LeO (spec_l02DrawOk.j1 k y0 y1 y2 y3 y4 y5 y6 y7 y8 y9 y10 y11 y12) (spec_l02DrawOk.j1 (k + 1) y0 y1 y2 y3 y4 y5 y6 y7 y8 y9 y10 y11 y12)) ∧ (∀ y0 y1 y2 y3 y4 y5 y6 y7 y8 y9 y10 y11 y12, LeO (spec_l02DrawOk.j2 k y0 y1 y2 y3 y4 y5 y6 y7 y8 y9 y10 y11 y12) (spec_l02DrawOk.j2 (k + 1) y0 y1 y2 y3 y4 y5 y6 y7 y8 y9 y10 y11 y12)) ∧ (∀ y0 y1 y2 y3 y4 y5 y6 y7 y8 y9 y10 y11 y12 y13 y14 y15 y16, LeO (spec_l02DrawOk.j3 k y0 y1 y2 y3 y4 y5 y6 y7 y8 y9 y10 y11 y12 y13 y14 y15 y16) (spec_l02DrawOk.j3 (k + 1) y0 y1 y2 y3 y4 y5 y6 y7 y8 y9 y10 y11 y12 y13 y14 y15 y16))
  | 0 => ⟨fun _ _ _ _ _ _ _ _ _ r h => by simp [spec_l02DrawOk.l0] at h, fun _ _ _ _ _ _ _ _ _ _ _ _ _ r h => by simp [spec_l02DrawOk.j1] at h, fun _ _ _ _ _ _ _ _ _ _ _ _ _ r h => by simp [spec_l02DrawOk.j2] at h, fun _ _ _ _ _ _ _ _ _ _ _ _ _ _ _ _ _ r h => by simp [spec_l02DrawOk.j3] at h⟩
  | k + 1 => by
    obtain ⟨ih0, ih1, ih2, ih3⟩ := spec_l02DrawOk.mono_l k
    refine ⟨?_, ?_, ?_, ?_⟩
    · intro y0 y1 y2 y3 y4 y5 y6 y7 y8
      unfold spec_l02DrawOk.l0
      repeat' first
      | (with_reducible exact ih0 _ _ _ _ _ _ _ _ _)
      | (with_reducible exact ih1 _ _ _ _ _ _ _ _ _ _ _ _ _)
      | (with_reducible exact ih2 _ _ _ _ _ _ _ _ _ _ _ _ _)
      | (with_reducible exact ih3 _ _ _ _ _ _ _ _ _ _ _ _ _ _ _ _ _)
      | (with_reducible exact LeO.refl _)
      | (with_reducible exact LeO.none _)
      | (with_reducible refine LeO.ite ?_ ?_)
      | (with_reducible refine LeO.bind ?_ (fun _ => ?_))
      | exact ih0 _ _ _ _ _ _ _ _ _
      | exact ih1 _ _ _ _ _ _ _ _ _ _ _ _ _
      | exact ih2 _ _ _ _ _ _ _ _ _ _ _ _ _
      | exact ih3 _ _ _ _ _ _ _ _ _ _ _ _ _ _ _ _ _
      | exact LeO.none _
      | refine LeO.ite ?_ ?_
      | refine LeO.bind ?_ (fun _ => ?_)
    · intro y0 y1 y2 y3 y4 y5 y6 y7 y8 y9 y10 y11 y12
      unfold spec_l02DrawOk.j1
      repeat' first
      | (with_reducible exact ih0 _ _ _ _ _ _ _ _ _)
      | (with_reducible exact ih1 _ _ _ _ _ _ _ _ _ _ _ _ _)
      | (with_reducible exact ih2 _ _ _ _ _ _ _ _ _ _ _ _ _)
      | (with_reducible exact ih3 _ _ _ _ _ _ _ _ _ _ _ _ _ _ _ _ _)
      | (with_reducible exact LeO.refl _)
      | (with_reducible exact LeO.none _)
      | (with_reducible refine LeO.ite ?_ ?_)
      | (with_reducible refine LeO.bind ?_ (fun _ => ?_))
      | exact ih0 _ _ _ _ _ _ _ _ _
      | exact ih1 _ _ _ _ _ _ _ _ _ _ _ _ _
      | exact ih2 _ _ _ _ _ _ _ _ _ _ _ _ _
      | exact ih3 _ _ _ _ _ _ _ _ _ _ _ _ _ _ _ _ _
      | exact LeO.none _
      | refine LeO.ite ?_ ?_
      | refine LeO.bind ?_ (fun _ => ?_)
    · intro y0 y1 y2 y3 y4 y5 y6 y7 y8 y9 y10 y11 y12
      unfold spec_l02DrawOk.j2
      repeat' first
      | (with_reducible exact ih0 _ _ _ _ _ _ _ _ _)
      | (with_reducible exact ih1 _ _ _ _ _ _ _ _ _ _ _ _ _)
      | (with_reducible exact ih2 _ _ _ _ _ _ _ _ _ _ _ _ _)
      | (with_reducible exact ih3 _ _ _ _ _ _ _ _ _ _ _ _ _ _ _ _ _)
      | (with_reducible exact LeO.refl _)
      | (with_reducible exact LeO.none _)
      | (with_reducible refine LeO.ite ?_ ?_)
      | (with_reducible refine LeO.bind ?_ (fun _ => ?_))
      | exact ih0 _ _ _ _ _ _ _ _ _
      | exact ih1 _ _ _ _ _ _ _ _ _ _ _ _ _
      | exact ih2 _ _ _ _ _ _ _ _ _ _ _ _ _
      | exact ih3 _ _ _ _ _ _ _ _ _ _ _ _ _ _ _ _ _
      | exact LeO.none _
      | refine LeO.ite ?_ ?_
      | refine LeO.bind ?_ (fun _ => ?_)
    · intro y0 y1 y2 y3 y4 y5 y6 y7 y8 y9 y10 y11 y12 y13 y14 y15 y16
      unfold spec_l02DrawOk.j3
      repeat' first
      | (with_reducible exact ih0 _ _ _ _ _ _ _ _ _)
      | (with_reducible exact ih1 _ _ _ _ _ _ _ _ _ _ _ _ _)
      | (with_reducible exact ih2 _ _ _ _ _ _ _ _ _ _ _ _ _)
      | (with_reducible exact ih3 _ _ _ _ _ _ _ _ _ _ _ _ _ _ _ _ _)
      | (with_reducible exact LeO.refl _)
      | (with_reducible exact LeO.none _)
      | (with_reducible refine LeO.ite ?_ ?_)
      | (with_reducible refine LeO.bind ?_ (fun _ => ?_))
      | exact ih0 _ _ _ _ _ _ _ _ _
      | exact ih1 _ _ _ _ _ _ _ _ _ _ _ _ _
      | exact ih2 _ _ _ _ _ _ _ _ _ _ _ _ _
      | exact ih3 _ _ _ _ _ _ _ _ _ _ _ _ _ _ _ _ _
      | exact LeO.none _
      | refine LeO.ite ?_ ?_
      | refine LeO.bind ?_ (fun _ => ?_)
theorem spec_l02DrawOk.mono : ∀ a0 a1 a2 k, LeO (spec_l02DrawOk.f k a0 a1 a2) (spec_l02DrawOk.f (k + 1) a0 a1 a2) := by
  intro a0 a1 a2 k
  obtain ⟨ih0, ih1, ih2, ih3⟩ := spec_l02DrawOk.mono_l k
  unfold spec_l02DrawOk.f
  repeat' first
      | (with_reducible exact ih0 _ _ _ _ _ _ _ _ _)
      | (with_reducible exact ih1 _ _ _ _ _ _ _ _ _ _ _ _ _)
      | (with_reducible exact ih2 _ _ _ _ _ _ _ _ _ _ _ _ _)
      | (with_reducible exact ih3 _ _ _ _ _ _ _ _ _ _ _ _ _ _ _ _ _)
      | (with_reducible exact LeO.refl _)
      | (with_reducible exact LeO.none _)
      | (with_reducible refine LeO.ite ?_ ?_)
      | (with_reducible refine LeO.bind ?_ (fun _ => ?_))
      | exact ih0 _ _ _ _ _ _ _ _ _
      | exact ih1 _ _ _ _ _ _ _ _ _ _ _ _ _
      | exact ih2 _ _ _ _ _ _ _ _ _ _ _ _ _
      | exact ih3 _ _ _ _ _ _ _ _ _ _ _ _ _ _ _ _ _
      | exact LeO.none _
      | refine LeO.ite ?_ ?_
      | refine LeO.bind ?_ (fun _ => ?_)
set_option maxHeartbeats 8000000 in
set_option maxRecDepth 100000 in
theorem spec_l02DrawOk.calls (k : Nat) (g : Nat) (s0_0 : List Int) (s0_1 : Int) (s0_2 : Int) (r1 : Bool) (r2 : List (S36)) (r3 : List (S71)) (r4 : List (S73)) (r5 : Int) (r6 : Int) (w0 w : World) (hI : IsS111 w0 w g s0_0 s0_1 s0_2) (hB : Below w0.heap.size w0 w) (h : spec_l02DrawOk.f k s0_0 s0_1 s0_2 = some (r1, r2, r3, r4, r5, r6)) :
    Calls Try.prog 30 #[.pointer (some ⟨g, 0, none⟩)] w fun e w' => ∃ v1_ v2_ v3_ : Value, e = .returned (.agg #[.bool r1, v1_, v2_, v3_]) ∧ Kd.R k36 36 w' w.heap.size (fun _ => True) v1_ r2 ∧ Kd.R k71 71 w' w.heap.size (fun _ => True) v2_ r3 ∧ Kd.R k73 73 w' w.heap.size (fun _ => True) v3_ r4 ∧ IsS111 w0 w' g s0_0 r5 r6 ∧ Below w0.heap.size w0 w' ∧ KeepBut w w' g none := by
 have hu28 := Try.underlying28
 have hu36 := Try.underlying36
 have hu71 := Try.underlying71
 have hu73 := Try.underlying73
 have HI0 := Aside0.mk hI
 have HK := Aside0.mk (KeepBut.refl w g none)
 have HL := Aside0.mk hB.size
 clear hI
 have HW0 := Aside0.mk hB.size
 have HB := Aside0.mk hB
 clear hB
 have H : ((spec_l00Src_one.f s0_0 s0_1 s0_2 2).bind fun bt113 => ((spec_l00Src_pick.f s0_0 bt113.2.1 bt113.2.2 6).bind fun bt117 => (spec_l02DrawOk.l0 k (wrap64 (1 + bt117.1)) 1 s0_0 bt117.2.1 bt117.2.2 bt113.1 ([] : List (S36)) ([] : List (S71)) ([] : List (S73))))) = some (r1, r2, r3, r4, r5, r6) := h
 clear h
 replace H := Option.bind_eq_some_iff.mp H
 obtain ⟨⟨t113, t114, t115⟩, A20, H⟩ := H
 replace H : ((spec_l00Src_pick.f s0_0 t114 t115 6).bind fun bt117 => (spec_l02DrawOk.l0 k (wrap64 (1 + bt117.1)) 1 s0_0 bt117.2.1 bt117.2.2 t113 ([] : List (S36)) ([] : List (S71)) ([] : List (S73)))) = some (r1, r2, r3, r4, r5, r6) := H
 have A2 := Aside0.mk A20
 clear A20
 replace H := Option.bind_eq_some_iff.mp H
 obtain ⟨⟨t117, t118, t119⟩, A30, H⟩ := H
 replace H : (spec_l02DrawOk.l0 k (wrap64 (1 + t117)) 1 s0_0 t118 t119 t113 ([] : List (S36)) ([] : List (S71)) ([] : List (S73))) = some (r1, r2, r3, r4, r5, r6) := H
 have A3 := Aside0.mk A30
 clear A30
 have H' := Aside0.mk H
 clear H
 go_enter Try.func30, Try.ntmps30
 go_wp2_with (first | ((with_reducible refine gate_dst (N := 2) rfl ?_); refine box_event ?hg (N := 2) ?hd (cs := #[.bool false, .slice none 0 0, .slice none 0 0, .slice none 0 0]) (t := 28) ?hr ?_; (case hd => rfl); (case hg => rfl); (case hr => first | (go_simp; done) | (go_simp; rfl)); intro gb112 hg w4 hbox hb; have n0_ := Aside0.mk (IsS111.below (by repeat (first | (with_reducible first | exact HI0.out | apply IsS111.alloc | apply IsS111.drewN | apply IsS111.drew | apply IsS111.set_1 | apply IsS111.set_2) | exact HI0.out)) hb); have n1_ := Aside0.mk (KeepBut.trans (by repeat (first | (with_reducible first | exact HK.out | apply KeepBut.set_ | apply keep_drewN | apply keep_drew | apply keep_alloc) | exact HK.out)) (KeepBut.of_below hb g none) (.inl rfl)); have n2_ := Aside0.mk (below_step (by repeat (first | (with_reducible first | exact HB.out | apply below_alloc | apply pw_below_drewN | apply below_drew1 | refine below_set ?_ (IsS111.ge HI0.out)) | exact HB.out)) hb); have n3_ := Aside0.mk (hbox); have n4_ := Aside0.mk ((by rw [hg]; exact (keep_size (w := w) (g := g) (row := none) (by repeat (first | (with_reducible first | exact HK.out | apply KeepBut.set_ | apply keep_drewN | apply keep_drew | apply keep_alloc) | exact HK.out))) : w.heap.size ≤ gb112)); have n5_ := Aside0.mk ((Nat.le_trans HW0.out (by rw [hg]; exact (keep_size (w := w) (g := g) (row := none) (by repeat (first | (with_reducible first | exact HK.out | apply KeepBut.set_ | apply keep_drewN | apply keep_drew | apply keep_alloc) | exact HK.out))) : w.heap.size ≤ gb112) : w0.heap.size ≤ gb112)); have n6_ := Aside0.mk ((by rw [hg]; exact Nat.ne_of_lt (IsS111.lt (show IsS111 w0 _ g s0_0 s0_1 s0_2 from by repeat (first | (with_reducible first | exact HI0.out | apply IsS111.alloc | apply IsS111.drewN | apply IsS111.drew | apply IsS111.set_1 | apply IsS111.set_2) | exact HI0.out))) : g ≠ gb112)); have n7_ := Aside0.mk ((by rw [hg]; exact Nat.ne_of_gt (IsS111.lt (show IsS111 w0 _ g s0_0 s0_1 s0_2 from by repeat (first | (with_reducible first | exact HI0.out | apply IsS111.alloc | apply IsS111.drewN | apply IsS111.drew | apply IsS111.set_1 | apply IsS111.set_2) | exact HI0.out))) : gb112 ≠ g)); clear HI0; clear HK; clear HB; have HI0 := n0_; have HK := n1_; have HB := n2_; have BK112 := n3_; have GW112 := n4_; have GE112 := n5_; have NB0_112 := n6_; have NB112_0 := n7_; clear n0_ n1_ n2_ n3_ n4_ n5_ n6_ n7_; clear hb hbox hg) | ((with_reducible refine gate_callee (f := 71) rfl ?_); refine goesL_ (some 11) rfl rfl Try.func71 s2_ rfl #[.pointer (some ⟨g, 0, none⟩), .int .i64 2] rfl s3_ ?_; (with_reducible refine (spec_l00Src_one.calls g s0_0 s0_1 s0_2 2 t113 t114 t115 w0 _ ?side1 ?side2 A2.out).mono ?_); (case side1 => repeat (first | (with_reducible first | exact HI0.out | apply IsS111.alloc | apply IsS111.drewN | apply IsS111.drew | apply IsS111.set_1 | apply IsS111.set_2 | refine IsS111.far ?_ NB0_112.out _) | exact HI0.out)); (case side2 => repeat (first | (with_reducible first | exact HB.out | apply below_alloc | apply pw_below_drewN | apply below_drew1 | refine below_set ?_ (IsS111.ge HI0.out) | refine below_set ?_ GE112.out) | exact HB.out)); rintro e w5 ⟨rfl, hi, hb, hk⟩; refine ⟨_, rfl, ?_⟩; have n0_ := Aside0.mk (KeepBut.blk hk (g' := gb112) (o := .cells #[.bool false, .slice none 0 0, .slice none 0 0, .slice none 0 0] 28 (0, 0)) (b1_ BK112.out) NB112_0.out (by simp)); have n1_ := Aside0.mk (KeepBut.trans (by repeat (first | (with_reducible first | exact HK.out | apply KeepBut.set_ | apply keep_drewN | apply keep_drew | apply keep_alloc | refine keep_far ?_ GW112.out _) | exact HK.out)) hk (.inl rfl)); have n2_ := Aside0.mk (hb); have n3_ := Aside0.mk (hi); clear BK112; clear HK; clear HB; clear HI0; have BK112 := n0_; have HK := n1_; have HB := n2_; have HI0 := n3_; clear n0_ n1_ n2_ n3_; (try clear hb); (try clear hb2); (try clear hk); (try clear hi)) | ((with_reducible refine gate_dst (N := 3) rfl ?_); refine box_event ?hg (N := 3) ?hd (cs := #[.bool false, .slice none 0 0, .slice none 0 0, .slice none 0 0]) (t := 28) ?hr ?_; (case hd => rfl); (case hg => rfl); (case hr => first | (go_simp; done) | (go_simp; rfl)); intro gb116 hg w6 hbox hb; have n0_ := Aside0.mk (IsS111.below (by repeat (first | (with_reducible first | exact HI0.out | apply IsS111.alloc | apply IsS111.drewN | apply IsS111.drew | apply IsS111.set_1 | apply IsS111.set_2 | refine IsS111.far ?_ NB0_112.out _) | exact HI0.out)) hb); have n1_ := Aside0.mk (blk_below (g := gb112) (o := .cells #[.bool false, .slice none 0 0, .slice none 0 0, .slice none 0 0] 28 (0, 0)) (b1_ BK112.out) hb); have n2_ := Aside0.mk (KeepBut.trans (by repeat (first | (with_reducible first | exact HK.out | apply KeepBut.set_ | apply keep_drewN | apply keep_drew | apply keep_alloc | refine keep_far ?_ GW112.out _) | exact HK.out)) (KeepBut.of_below hb g none) (.inl rfl)); have n3_ := Aside0.mk (below_step (by repeat (first | (with_reducible first | exact HB.out | apply below_alloc | apply pw_below_drewN | apply below_drew1 | refine below_set ?_ (IsS111.ge HI0.out) | refine below_set ?_ GE112.out) | exact HB.out)) hb); have n4_ := Aside0.mk (hbox); have n5_ := Aside0.mk ((by rw [hg]; exact (keep_size (w := w) (g := g) (row := none) (by repeat (first | (with_reducible first | exact HK.out | apply KeepBut.set_ | apply keep_drewN | apply keep_drew | apply keep_alloc | refine keep_far ?_ GW112.out _) | exact HK.out))) : w.heap.size ≤ gb116)); have n6_ := Aside0.mk ((Nat.le_trans HW0.out (by rw [hg]; exact (keep_size (w := w) (g := g) (row := none) (by repeat (first | (with_reducible first | exact HK.out | apply KeepBut.set_ | apply keep_drewN | apply keep_drew | apply keep_alloc | refine keep_far ?_ GW112.out _) | exact HK.out))) : w.heap.size ≤ gb116) : w0.heap.size ≤ gb116)); have n7_ := Aside0.mk ((by rw [hg]; exact Nat.ne_of_lt (blk_lt (g := gb112) (o := .cells #[.bool false, .slice none 0 0, .slice none 0 0, .slice none 0 0] 28 (0, 0)) (b1_ BK112.out)) : gb112 ≠ gb116)); have n8_ := Aside0.mk ((by rw [hg]; exact Nat.ne_of_gt (blk_lt (g := gb112) (o := .cells #[.bool false, .slice none 0 0, .slice none 0 0, .slice none 0 0] 28 (0, 0)) (b1_ BK112.out)) : gb116 ≠ gb112)); have n9_ := Aside0.mk ((by rw [hg]; exact Nat.ne_of_lt (IsS111.lt (show IsS111 w0 _ g s0_0 t114 t115 from by repeat (first | (with_reducible first | exact HI0.out | apply IsS111.alloc | apply IsS111.drewN | apply IsS111.drew | apply IsS111.set_1 | apply IsS111.set_2 | refine IsS111.far ?_ NB0_112.out _) | exact HI0.out))) : g ≠ gb116)); have n10_ := Aside0.mk ((by rw [hg]; exact Nat.ne_of_gt (IsS111.lt (show IsS111 w0 _ g s0_0 t114 t115 from by repeat (first | (with_reducible first | exact HI0.out | apply IsS111.alloc | apply IsS111.drewN | apply IsS111.drew | apply IsS111.set_1 | apply IsS111.set_2 | refine IsS111.far ?_ NB0_112.out _) | exact HI0.out))) : gb116 ≠ g)); clear HI0; clear BK112; clear HK; clear HB; have HI0 := n0_; have BK112 := n1_; have HK := n2_; have HB := n3_; have BK116 := n4_; have GW116 := n5_; have GE116 := n6_; have NB112_116 := n7_; have NB116_112 := n8_; have NB0_116 := n9_; have NB116_0 := n10_; clear n0_ n1_ n2_ n3_ n4_ n5_ n6_ n7_ n8_ n9_ n10_; clear hb hbox hg; have hnb7 := NB116_112.out; have hnc7 := NB112_116.out; have hnb8 := NB116_0.out; have hnc8 := NB0_116.out; have hcz9_0 : w6.cell? ⟨gb116, 0, none⟩ = some (.bool false) := (blk_cell BK116.out 0).trans rfl; have hcz9_1 : w6.cell? ⟨gb116, 1, none⟩ = some (.slice none 0 0) := (blk_cell BK116.out 1).trans rfl; have hcz9_2 : w6.cell? ⟨gb116, 2, none⟩ = some (.slice none 0 0) := (blk_cell BK116.out 2).trans rfl; have hcz9_3 : w6.cell? ⟨gb116, 3, none⟩ = some (.slice none 0 0) := (blk_cell BK116.out 3).trans rfl; have hfz9_0 := blk_frozen BK116.out 0; have hfz9_1 := blk_frozen BK116.out 1; have hfz9_2 := blk_frozen BK116.out 2; have hfz9_3 := blk_frozen BK116.out 3) | ((with_reducible refine gate_callee (f := 59) rfl ?_); refine goesL_ (some 14) rfl rfl Try.func59 s2_ rfl #[.pointer (some ⟨g, 0, none⟩), .int .i64 6] rfl s3_ ?_; (with_reducible refine (spec_l00Src_pick.calls g s0_0 t114 t115 6 t117 t118 t119 w0 _ ?side1 ?side2 A3.out).mono ?_); (case side1 => repeat (first | (with_reducible first | exact HI0.out | apply IsS111.alloc | apply IsS111.drewN | apply IsS111.drew | apply IsS111.set_1 | apply IsS111.set_2 | refine IsS111.far ?_ NB0_112.out _ | refine IsS111.far ?_ NB0_116.out _) | exact HI0.out)); (case side2 => repeat (first | (with_reducible first | exact HB.out | apply below_alloc | apply pw_below_drewN | apply below_drew1 | refine below_set ?_ (IsS111.ge HI0.out) | refine below_set ?_ GE112.out | refine below_set ?_ GE116.out) | exact HB.out)); rintro e w10 ⟨rfl, hi, hb, hk⟩; refine ⟨_, rfl, ?_⟩; have n0_ := Aside0.mk (KeepBut.blk hk (g' := gb112) (o := .cells #[.bool false, .slice none 0 0, .slice none 0 0, .slice none 0 0] 28 (0, 0)) (by (with_reducible repeat (first | refine blk_drewN ?_ _ | refine blk_drew ?_ | refine blk_alloc ?_ _)); refine blk_far ?_ NB112_116.out _; (with_reducible repeat (first | refine blk_drewN ?_ _ | refine blk_drew ?_ | refine blk_alloc ?_ _)); refine blk_far ?_ NB112_116.out _; (with_reducible repeat (first | refine blk_drewN ?_ _ | refine blk_drew ?_ | refine blk_alloc ?_ _)); refine blk_far ?_ NB112_116.out _; (with_reducible repeat (first | refine blk_drewN ?_ _ | refine blk_drew ?_ | refine blk_alloc ?_ _)); refine blk_far ?_ NB112_116.out _; (with_reducible repeat (first | refine blk_drewN ?_ _ | refine blk_drew ?_ | refine blk_alloc ?_ _)); exact BK112.out) NB112_0.out (by simp)); have n1_ := Aside0.mk (KeepBut.blk hk (g' := gb116) (o := .cells #[.bool t113, .slice none 0 0, .slice none 0 0, .slice none 0 0] 28 (0, 0)) (by (with_reducible repeat (first | refine blk_drewN ?_ _ | refine blk_drew ?_ | refine blk_alloc ?_ _)); refine blk_put (cs := #[.bool t113, .slice none 0 0, .slice none 0 0, .slice none 0 0]) ?_ 3 _ rfl; (with_reducible repeat (first | refine blk_drewN ?_ _ | refine blk_drew ?_ | refine blk_alloc ?_ _)); refine blk_put (cs := #[.bool t113, .slice none 0 0, .slice none 0 0, .slice none 0 0]) ?_ 2 _ rfl; (with_reducible repeat (first | refine blk_drewN ?_ _ | refine blk_drew ?_ | refine blk_alloc ?_ _)); refine blk_put (cs := #[.bool t113, .slice none 0 0, .slice none 0 0, .slice none 0 0]) ?_ 1 _ rfl; (with_reducible repeat (first | refine blk_drewN ?_ _ | refine blk_drew ?_ | refine blk_alloc ?_ _)); refine blk_put (cs := #[.bool false, .slice none 0 0, .slice none 0 0, .slice none 0 0]) ?_ 0 _ rfl; (with_reducible repeat (first | refine blk_drewN ?_ _ | refine blk_drew ?_ | refine blk_alloc ?_ _)); exact BK116.out) NB116_0.out (by simp)); have n2_ := Aside0.mk (KeepBut.trans (by repeat (first | (with_reducible first | exact HK.out | apply KeepBut.set_ | apply keep_drewN | apply keep_drew | apply keep_alloc | refine keep_far ?_ GW112.out _ | refine keep_far ?_ GW116.out _) | exact HK.out)) hk (.inl rfl)); have n3_ := Aside0.mk (hb); have n4_ := Aside0.mk (hi); clear BK112; clear BK116; clear HK; clear HB; clear HI0; have BK112 := n0_; have BK116 := n1_; have HK := n2_; have HB := n3_; have HI0 := n4_; clear n0_ n1_ n2_ n3_ n4_; (try clear hb); (try clear hb2); (try clear hk); (try clear hi)))
 go_loopg [5] k (fun kq v5 w' => ∃ (x5_1 : Int) (x1001_1 : Int) (x1002_1 : Int) (x117001_1 : List (S36)) (x117002_1 : List (S71)) (x117003_1 : List (S73)) (u117001 : Value) (u117002 : Value) (u117003 : Value), v5 = .int .i64 x5_1 ∧ Aside0 (spec_l02DrawOk.l0 kq (wrap64 (1 + t117)) x5_1 s0_0 x1001_1 x1002_1 t113 x117001_1 x117002_1 x117003_1 = some (r1, r2, r3, r4, r5, r6)) ∧ Aside0 (kq ≤ k) ∧ Aside0 (Kd.R k36 36 w' w.heap.size (fun _ => True) u117001 x117001_1) ∧ Aside0 (Kd.R k71 71 w' w.heap.size (fun _ => True) u117002 x117002_1) ∧ Aside0 (Kd.R k73 73 w' w.heap.size (fun _ => True) u117003 x117003_1) ∧ Aside0 (w'.heap[gb112]? = some (.cells #[.bool false, (.slice none 0 0), (.slice none 0 0), (.slice none 0 0)] 28 (0, 0))) ∧ Aside0 (w'.heap[gb116]? = some (.cells #[.bool t113, u117001, u117002, u117003] 28 (0, 0))) ∧ Aside0 (IsS111 w0 w' g s0_0 x1001_1 x1002_1) ∧ Aside0 (KeepBut w w' g none) ∧ Aside0 (Below w0.heap.size w0 w'))
 case atStart => exact ⟨(1), (t118), (t119), (([] : List (S36))), (([] : List (S71))), (([] : List (S73))), (.slice none 0 0), (.slice none 0 0), (.slice none 0 0), s1_, H', ⟨Nat.le_refl _⟩, ⟨by first | exact Kd.R_nil _ _ _ _ _ | exact Kd.N_nil _ _ _ _ _ | exact Kd.V_nil _ _ _ _ _ | exact Kd.Q_nil _ _ _ _ _ | exact Kd.S_nil _ _ _ _ _⟩, ⟨by first | exact Kd.R_nil _ _ _ _ _ | exact Kd.N_nil _ _ _ _ _ | exact Kd.V_nil _ _ _ _ _ | exact Kd.Q_nil _ _ _ _ _ | exact Kd.S_nil _ _ _ _ _⟩, ⟨by first | exact Kd.R_nil _ _ _ _ _ | exact Kd.N_nil _ _ _ _ _ | exact Kd.V_nil _ _ _ _ _ | exact Kd.Q_nil _ _ _ _ _ | exact Kd.S_nil _ _ _ _ _⟩, ⟨b1_ BK112.out⟩, ⟨b1_ BK116.out⟩, ⟨by repeat (first | (with_reducible first | exact HI0.out | apply IsS111.alloc | apply IsS111.drewN | apply IsS111.drew | apply IsS111.set_1 | apply IsS111.set_2 | refine IsS111.far ?_ NB0_112.out _ | refine IsS111.far ?_ NB0_116.out _) | exact HI0.out)⟩, ⟨by repeat (first | (with_reducible first | exact HK.out | apply KeepBut.set_ | apply keep_drewN | apply keep_drew | apply keep_alloc | refine keep_far ?_ GW112.out _ | refine keep_far ?_ GW116.out _) | exact HK.out)⟩, ⟨by repeat (first | (with_reducible first | exact HB.out | apply below_alloc | apply pw_below_drewN | apply below_drew1 | refine below_set ?_ (IsS111.ge HI0.out) | refine below_set ?_ GE112.out | refine below_set ?_ GE116.out) | exact HB.out)⟩⟩
 case round =>
  skip
  {
 clear H'
 try clear p2
 try clear c3
 try clear c5
 try clear p6
 try clear c7
 try clear c8
 try clear hcz9_0
 try clear hcz9_1
 try clear hcz9_2
 try clear hcz9_3
 try clear hfz9_0
 try clear hfz9_1
 try clear hfz9_2
 try clear hfz9_3
 obtain ⟨x5_1, x1001_1, x1002_1, x117001_1, x117002_1, x117003_1, u117001, u117002, u117003, rfl, HA, HK1, HO_117001, HO_117002, HO_117003, BK112, BK116, HI0, HK, HB⟩ := hrel
 cases gk with
 | zero => exact absurd HA.out (by simp [spec_l02DrawOk.l0])
 | succ k1 =>
  skip
  {
 have H := HA.out
 clear HA
 simp only [spec_l02DrawOk.l0] at H
 by_cases c11 : x5_1 ≤ 6
 {
 rw [if_pos c11] at H
 have c11b0 : decide (x5_1 ≤ 6) = true := decide_eq_true c11
 clear c11
 replace H := Option.bind_eq_some_iff.mp H
 obtain ⟨⟨t120, t121, t122⟩, A120, H⟩ := H
 replace H : ((spec_l00Src_pick.f s0_0 t121 t122 20).bind fun bt124 => ((spec_l00Src_one.f s0_0 bt124.2.1 bt124.2.2 4).bind fun bt127 => (if bt127.1 = true then ((spec_l00Src_pick.f s0_0 bt127.2.1 bt127.2.2 40).bind fun bt130 => (spec_l02DrawOk.j1 k1 (wrap64 (1 + t117)) x5_1 s0_0 bt130.2.1 bt130.2.2 t113 x117001_1 x117002_1 x117003_1 x5_1 t120 bt124.1 bt130.1)) else (spec_l02DrawOk.j1 k1 (wrap64 (1 + t117)) x5_1 s0_0 bt127.2.1 bt127.2.2 t113 x117001_1 x117002_1 x117003_1 x5_1 t120 bt124.1 0)))) = some (r1, r2, r3, r4, r5, r6) := H
 have A12 := Aside0.mk A120
 clear A120
 replace H := Option.bind_eq_some_iff.mp H
 obtain ⟨⟨t124, t125, t126⟩, A130, H⟩ := H
 replace H : ((spec_l00Src_one.f s0_0 t125 t126 4).bind fun bt127 => (if bt127.1 = true then ((spec_l00Src_pick.f s0_0 bt127.2.1 bt127.2.2 40).bind fun bt130 => (spec_l02DrawOk.j1 k1 (wrap64 (1 + t117)) x5_1 s0_0 bt130.2.1 bt130.2.2 t113 x117001_1 x117002_1 x117003_1 x5_1 t120 t124 bt130.1)) else (spec_l02DrawOk.j1 k1 (wrap64 (1 + t117)) x5_1 s0_0 bt127.2.1 bt127.2.2 t113 x117001_1 x117002_1 x117003_1 x5_1 t120 t124 0))) = some (r1, r2, r3, r4, r5, r6) := H
 have A13 := Aside0.mk A130
 clear A130
 replace H := Option.bind_eq_some_iff.mp H
 obtain ⟨⟨t127, t128, t129⟩, A140, H⟩ := H
 replace H : (if t127 = true then ((spec_l00Src_pick.f s0_0 t128 t129 40).bind fun bt130 => (spec_l02DrawOk.j1 k1 (wrap64 (1 + t117)) x5_1 s0_0 bt130.2.1 bt130.2.2 t113 x117001_1 x117002_1 x117003_1 x5_1 t120 t124 bt130.1)) else (spec_l02DrawOk.j1 k1 (wrap64 (1 + t117)) x5_1 s0_0 t128 t129 t113 x117001_1 x117002_1 x117003_1 x5_1 t120 t124 0)) = some (r1, r2, r3, r4, r5, r6) := H
 have A14 := Aside0.mk A140
 clear A140
 have HC15 := Aside0.mk H
 clear H
 go_upto_if 28 with (first | ((with_reducible refine gate_callee (f := 59) rfl ?_); refine goesL_ (some 22) rfl rfl Try.func59 s2_ rfl #[.pointer (some ⟨g, 0, none⟩), .int .i64 4] rfl s3_ ?_; (with_reducible refine (spec_l00Src_pick.calls g s0_0 x1001_1 x1002_1 4 t120 t121 t122 w0 _ ?side1 ?side2 A12.out).mono ?_); (case side1 => repeat (first | (with_reducible first | exact HI0.out | apply IsS111.alloc | apply IsS111.drewN | apply IsS111.drew | apply IsS111.set_1 | apply IsS111.set_2 | refine IsS111.far ?_ NB0_112.out _ | refine IsS111.far ?_ NB0_116.out _) | exact HI0.out)); (case side2 => repeat (first | (with_reducible first | exact HB.out | apply below_alloc | apply pw_below_drewN | apply below_drew1 | refine below_set ?_ (IsS111.ge HI0.out) | refine below_set ?_ GE112.out | refine below_set ?_ GE116.out) | exact HB.out)); rintro e w16 ⟨rfl, hi, hb, hk⟩; refine ⟨_, rfl, ?_⟩; have n0_ := Aside0.mk (Kd.R_mono (Kd.R_keep (IsS111.apart (show IsS111 w0 _ g s0_0 x1001_1 x1002_1 from by repeat (first | (with_reducible first | exact HI0.out | apply IsS111.alloc | apply IsS111.drewN | apply IsS111.drew | apply IsS111.set_1 | apply IsS111.set_2 | refine IsS111.far ?_ NB0_112.out _ | refine IsS111.far ?_ NB0_116.out _) | exact HI0.out)) (b2_ HO_117001.out) (by decide)) hk (fun _ h => h.2)) (fun _ h => h.1)); have n1_ := Aside0.mk (Kd.R_mono (Kd.R_keep (IsS111.apart (show IsS111 w0 _ g s0_0 x1001_1 x1002_1 from by repeat (first | (with_reducible first | exact HI0.out | apply IsS111.alloc | apply IsS111.drewN | apply IsS111.drew | apply IsS111.set_1 | apply IsS111.set_2 | refine IsS111.far ?_ NB0_112.out _ | refine IsS111.far ?_ NB0_116.out _) | exact HI0.out)) (b2_ HO_117002.out) (by decide)) hk (fun _ h => h.2)) (fun _ h => h.1)); have n2_ := Aside0.mk (Kd.R_mono (Kd.R_keep (IsS111.apart (show IsS111 w0 _ g s0_0 x1001_1 x1002_1 from by repeat (first | (with_reducible first | exact HI0.out | apply IsS111.alloc | apply IsS111.drewN | apply IsS111.drew | apply IsS111.set_1 | apply IsS111.set_2 | refine IsS111.far ?_ NB0_112.out _ | refine IsS111.far ?_ NB0_116.out _) | exact HI0.out)) (b2_ HO_117003.out) (by decide)) hk (fun _ h => h.2)) (fun _ h => h.1)); have n3_ := Aside0.mk (KeepBut.blk hk (g' := gb112) (o := .cells #[.bool false, .slice none 0 0, .slice none 0 0, .slice none 0 0] 28 (0, 0)) (b1_ BK112.out) NB112_0.out (by simp)); have n4_ := Aside0.mk (KeepBut.blk hk (g' := gb116) (o := .cells #[.bool t113, u117001, u117002, u117003] 28 (0, 0)) (b1_ BK116.out) NB116_0.out (by simp)); have n5_ := Aside0.mk (KeepBut.trans (by repeat (first | (with_reducible first | exact HK.out | apply KeepBut.set_ | apply keep_drewN | apply keep_drew | apply keep_alloc | refine keep_far ?_ GW112.out _ | refine keep_far ?_ GW116.out _) | exact HK.out)) hk (.inl rfl)); have n6_ := Aside0.mk (hb); have n7_ := Aside0.mk (hi); clear HO_117001; clear HO_117002; clear HO_117003; clear BK112; clear BK116; clear HK; clear HB; clear HI0; have HO_117001 := n0_; have HO_117002 := n1_; have HO_117003 := n2_; have BK112 := n3_; have BK116 := n4_; have HK := n5_; have HB := n6_; have HI0 := n7_; clear n0_ n1_ n2_ n3_ n4_ n5_ n6_ n7_; (try clear hb); (try clear hb2); (try clear hk); (try clear hi)) | ((with_reducible refine gate_dst (N := 6) rfl ?_); refine box_event ?hg (N := 6) ?hd (cs := #[.int .i64 0, .int .i64 0, .int .i64 0, .int .i64 0]) (t := 36) ?hr ?_; (case hd => rfl); (case hg => rfl); (case hr => first | (go_simp; done) | (go_simp; rfl)); intro gb123 hg w17 hbox hb; have n0_ := Aside0.mk (Kd.R_below (Kd.R_elderB (b2_ HO_117001.out) gb123 (Nat.le_of_eq hg.symm)) hb); have n1_ := Aside0.mk (Kd.R_below (b2_ HO_117002.out) hb); have n2_ := Aside0.mk (Kd.R_below (b2_ HO_117003.out) hb); have n3_ := Aside0.mk (blk_below (g := gb112) (o := .cells #[.bool false, .slice none 0 0, .slice none 0 0, .slice none 0 0] 28 (0, 0)) (b1_ BK112.out) hb); have n4_ := Aside0.mk (blk_below (g := gb116) (o := .cells #[.bool t113, u117001, u117002, u117003] 28 (0, 0)) (b1_ BK116.out) hb); have n5_ := Aside0.mk (IsS111.below (by repeat (first | (with_reducible first | exact HI0.out | apply IsS111.alloc | apply IsS111.drewN | apply IsS111.drew | apply IsS111.set_1 | apply IsS111.set_2 | refine IsS111.far ?_ NB0_112.out _ | refine IsS111.far ?_ NB0_116.out _) | exact HI0.out)) hb); have n6_ := Aside0.mk (KeepBut.trans (by repeat (first | (with_reducible first | exact HK.out | apply KeepBut.set_ | apply keep_drewN | apply keep_drew | apply keep_alloc | refine keep_far ?_ GW112.out _ | refine keep_far ?_ GW116.out _) | exact HK.out)) (KeepBut.of_below hb g none) (.inl rfl)); have n7_ := Aside0.mk (below_step (by repeat (first | (with_reducible first | exact HB.out | apply below_alloc | apply pw_below_drewN | apply below_drew1 | refine below_set ?_ (IsS111.ge HI0.out) | refine below_set ?_ GE112.out | refine below_set ?_ GE116.out) | exact HB.out)) hb); have n8_ := Aside0.mk (hbox); have n9_ := Aside0.mk ((by rw [hg]; exact (keep_size (w := w) (g := g) (row := none) (by repeat (first | (with_reducible first | exact HK.out | apply KeepBut.set_ | apply keep_drewN | apply keep_drew | apply keep_alloc | refine keep_far ?_ GW112.out _ | refine keep_far ?_ GW116.out _) | exact HK.out))) : w.heap.size ≤ gb123)); have n10_ := Aside0.mk ((Nat.le_trans HW0.out (by rw [hg]; exact (keep_size (w := w) (g := g) (row := none) (by repeat (first | (with_reducible first | exact HK.out | apply KeepBut.set_ | apply keep_drewN | apply keep_drew | apply keep_alloc | refine keep_far ?_ GW112.out _ | refine keep_far ?_ GW116.out _) | exact HK.out))) : w.heap.size ≤ gb123) : w0.heap.size ≤ gb123)); have n11_ := Aside0.mk ((by rw [hg]; exact Nat.ne_of_lt (blk_lt (g := gb112) (o := .cells #[.bool false, .slice none 0 0, .slice none 0 0, .slice none 0 0] 28 (0, 0)) (b1_ BK112.out)) : gb112 ≠ gb123)); have n12_ := Aside0.mk ((by rw [hg]; exact Nat.ne_of_gt (blk_lt (g := gb112) (o := .cells #[.bool false, .slice none 0 0, .slice none 0 0, .slice none 0 0] 28 (0, 0)) (b1_ BK112.out)) : gb123 ≠ gb112)); have n13_ := Aside0.mk ((by rw [hg]; exact Nat.ne_of_lt (blk_lt (g := gb116) (o := .cells #[.bool t113, u117001, u117002, u117003] 28 (0, 0)) (b1_ BK116.out)) : gb116 ≠ gb123)); have n14_ := Aside0.mk ((by rw [hg]; exact Nat.ne_of_gt (blk_lt (g := gb116) (o := .cells #[.bool t113, u117001, u117002, u117003] 28 (0, 0)) (b1_ BK116.out)) : gb123 ≠ gb116)); have n15_ := Aside0.mk ((by rw [hg]; exact Nat.ne_of_lt (IsS111.lt (show IsS111 w0 _ g s0_0 t121 t122 from by repeat (first | (with_reducible first | exact HI0.out | apply IsS111.alloc | apply IsS111.drewN | apply IsS111.drew | apply IsS111.set_1 | apply IsS111.set_2 | refine IsS111.far ?_ NB0_112.out _ | refine IsS111.far ?_ NB0_116.out _) | exact HI0.out))) : g ≠ gb123)); have n16_ := Aside0.mk ((by rw [hg]; exact Nat.ne_of_gt (IsS111.lt (show IsS111 w0 _ g s0_0 t121 t122 from by repeat (first | (with_reducible first | exact HI0.out | apply IsS111.alloc | apply IsS111.drewN | apply IsS111.drew | apply IsS111.set_1 | apply IsS111.set_2 | refine IsS111.far ?_ NB0_112.out _ | refine IsS111.far ?_ NB0_116.out _) | exact HI0.out))) : gb123 ≠ g)); clear HO_117001; clear HO_117002; clear HO_117003; clear BK112; clear BK116; clear HI0; clear HK; clear HB; have HO_117001 := n0_; have HO_117002 := n1_; have HO_117003 := n2_; have BK112 := n3_; have BK116 := n4_; have HI0 := n5_; have HK := n6_; have HB := n7_; have BK123 := n8_; have GW123 := n9_; have GE123 := n10_; have NB112_123 := n11_; have NB123_112 := n12_; have NB116_123 := n13_; have NB123_116 := n14_; have NB0_123 := n15_; have NB123_0 := n16_; clear n0_ n1_ n2_ n3_ n4_ n5_ n6_ n7_ n8_ n9_ n10_ n11_ n12_ n13_ n14_ n15_ n16_; clear hb hbox hg; have hnb18 := NB123_112.out; have hnc18 := NB112_123.out; have hnb19 := NB123_116.out; have hnc19 := NB116_123.out; have hnb20 := NB123_0.out; have hnc20 := NB0_123.out; have hcz21_0 : w17.cell? ⟨gb123, 0, none⟩ = some (.int .i64 0) := (blk_cell BK123.out 0).trans rfl; have hcz21_1 : w17.cell? ⟨gb123, 1, none⟩ = some (.int .i64 0) := (blk_cell BK123.out 1).trans rfl; have hcz21_2 : w17.cell? ⟨gb123, 2, none⟩ = some (.int .i64 0) := (blk_cell BK123.out 2).trans rfl; have hcz21_3 : w17.cell? ⟨gb123, 3, none⟩ = some (.int .i64 0) := (blk_cell BK123.out 3).trans rfl; have hfz21_0 := blk_frozen BK123.out 0; have hfz21_1 := blk_frozen BK123.out 1; have hfz21_2 := blk_frozen BK123.out 2; have hfz21_3 := blk_frozen BK123.out 3) | ((with_reducible refine gate_callee (f := 59) rfl ?_); refine goesL_ (some 25) rfl rfl Try.func59 s2_ rfl #[.pointer (some ⟨g, 0, none⟩), .int .i64 20] rfl s3_ ?_; (with_reducible refine (spec_l00Src_pick.calls g s0_0 t121 t122 20 t124 t125 t126 w0 _ ?side1 ?side2 A13.out).mono ?_); (case side1 => repeat (first | (with_reducible first | exact HI0.out | apply IsS111.alloc | apply IsS111.drewN | apply IsS111.drew | apply IsS111.set_1 | apply IsS111.set_2 | refine IsS111.far ?_ NB0_112.out _ | refine IsS111.far ?_ NB0_116.out _ | refine IsS111.far ?_ NB0_123.out _) | exact HI0.out)); (case side2 => repeat (first | (with_reducible first | exact HB.out | apply below_alloc | apply pw_below_drewN | apply below_drew1 | refine below_set ?_ (IsS111.ge HI0.out) | refine below_set ?_ GE112.out | refine below_set ?_ GE116.out | refine below_set ?_ GE123.out) | exact HB.out)); rintro e w22 ⟨rfl, hi, hb, hk⟩; refine ⟨_, rfl, ?_⟩; have n0_ := Aside0.mk (Kd.R_mono (Kd.R_keep (IsS111.apart (show IsS111 w0 _ g s0_0 t121 t122 from by repeat (first | (with_reducible first | exact HI0.out | apply IsS111.alloc | apply IsS111.drewN | apply IsS111.drew | apply IsS111.set_1 | apply IsS111.set_2 | refine IsS111.far ?_ NB0_112.out _ | refine IsS111.far ?_ NB0_116.out _ | refine IsS111.far ?_ NB0_123.out _) | exact HI0.out)) (by (with_reducible repeat (first | apply Kd.R_alloc | apply Kd.R_drewN | apply Kd.R_drew)); exact (Kd.R_mono (Kd.R_far (p := ⟨gb123, 3, none⟩) (Kd.R_far (p := ⟨gb123, 2, none⟩) (Kd.R_far (p := ⟨gb123, 1, none⟩) (Kd.R_far (p := ⟨gb123, 0, none⟩) (Kd.R_mono HO_117001.out (fun k_ hk => (⟨hk, hk.2⟩ : _ ∧ k_ ≠ gb123))) (fun _ hk => hk.2) (.int .i64 x5_1)) (fun _ hk => hk.2) (.int .i64 t120)) (fun _ hk => hk.2) (.int .i64 0)) (fun _ hk => hk.2) (.int .i64 0)) (fun _ h_ => h_.1))) (by decide)) hk (fun _ h => h.2)) (fun _ h => h.1)); have n1_ := Aside0.mk (Kd.R_mono (Kd.R_keep (IsS111.apart (show IsS111 w0 _ g s0_0 t121 t122 from by repeat (first | (with_reducible first | exact HI0.out | apply IsS111.alloc | apply IsS111.drewN | apply IsS111.drew | apply IsS111.set_1 | apply IsS111.set_2 | refine IsS111.far ?_ NB0_112.out _ | refine IsS111.far ?_ NB0_116.out _ | refine IsS111.far ?_ NB0_123.out _) | exact HI0.out)) (by (with_reducible repeat (first | apply Kd.R_alloc | apply Kd.R_drewN | apply Kd.R_drew)); exact (Kd.R_mono (Kd.R_far (p := ⟨gb123, 3, none⟩) (Kd.R_far (p := ⟨gb123, 2, none⟩) (Kd.R_far (p := ⟨gb123, 1, none⟩) (Kd.R_far (p := ⟨gb123, 0, none⟩) (Kd.R_types HO_117002.out BK123.out (by decide)) (fun _ hk => hk.2) (.int .i64 x5_1)) (fun _ hk => hk.2) (.int .i64 t120)) (fun _ hk => hk.2) (.int .i64 0)) (fun _ hk => hk.2) (.int .i64 0)) (fun _ h_ => h_.1))) (by decide)) hk (fun _ h => h.2)) (fun _ h => h.1)); have n2_ := Aside0.mk (Kd.R_mono (Kd.R_keep (IsS111.apart (show IsS111 w0 _ g s0_0 t121 t122 from by repeat (first | (with_reducible first | exact HI0.out | apply IsS111.alloc | apply IsS111.drewN | apply IsS111.drew | apply IsS111.set_1 | apply IsS111.set_2 | refine IsS111.far ?_ NB0_112.out _ | refine IsS111.far ?_ NB0_116.out _ | refine IsS111.far ?_ NB0_123.out _) | exact HI0.out)) (by (with_reducible repeat (first | apply Kd.R_alloc | apply Kd.R_drewN | apply Kd.R_drew)); exact (Kd.R_mono (Kd.R_far (p := ⟨gb123, 3, none⟩) (Kd.R_far (p := ⟨gb123, 2, none⟩) (Kd.R_far (p := ⟨gb123, 1, none⟩) (Kd.R_far (p := ⟨gb123, 0, none⟩) (Kd.R_types HO_117003.out BK123.out (by decide)) (fun _ hk => hk.2) (.int .i64 x5_1)) (fun _ hk => hk.2) (.int .i64 t120)) (fun _ hk => hk.2) (.int .i64 0)) (fun _ hk => hk.2) (.int .i64 0)) (fun _ h_ => h_.1))) (by decide)) hk (fun _ h => h.2)) (fun _ h => h.1)); have n3_ := Aside0.mk (KeepBut.blk hk (g' := gb112) (o := .cells #[.bool false, .slice none 0 0, .slice none 0 0, .slice none 0 0] 28 (0, 0)) (by (with_reducible repeat (first | refine blk_drewN ?_ _ | refine blk_drew ?_ | refine blk_alloc ?_ _)); refine blk_far ?_ NB112_123.out _; (with_reducible repeat (first | refine blk_drewN ?_ _ | refine blk_drew ?_ | refine blk_alloc ?_ _)); refine blk_far ?_ NB112_123.out _; (with_reducible repeat (first | refine blk_drewN ?_ _ | refine blk_drew ?_ | refine blk_alloc ?_ _)); refine blk_far ?_ NB112_123.out _; (with_reducible repeat (first | refine blk_drewN ?_ _ | refine blk_drew ?_ | refine blk_alloc ?_ _)); refine blk_far ?_ NB112_123.out _; (with_reducible repeat (first | refine blk_drewN ?_ _ | refine blk_drew ?_ | refine blk_alloc ?_ _)); exact BK112.out) NB112_0.out (by simp)); have n4_ := Aside0.mk (KeepBut.blk hk (g' := gb116) (o := .cells #[.bool t113, u117001, u117002, u117003] 28 (0, 0)) (by (with_reducible repeat (first | refine blk_drewN ?_ _ | refine blk_drew ?_ | refine blk_alloc ?_ _)); refine blk_far ?_ NB116_123.out _; (with_reducible repeat (first | refine blk_drewN ?_ _ | refine blk_drew ?_ | refine blk_alloc ?_ _)); refine blk_far ?_ NB116_123.out _; (with_reducible repeat (first | refine blk_drewN ?_ _ | refine blk_drew ?_ | refine blk_alloc ?_ _)); refine blk_far ?_ NB116_123.out _; (with_reducible repeat (first | refine blk_drewN ?_ _ | refine blk_drew ?_ | refine blk_alloc ?_ _)); refine blk_far ?_ NB116_123.out _; (with_reducible repeat (first | refine blk_drewN ?_ _ | refine blk_drew ?_ | refine blk_alloc ?_ _)); exact BK116.out) NB116_0.out (by simp)); have n5_ := Aside0.mk (KeepBut.blk hk (g' := gb123) (o := .cells #[.int .i64 x5_1, .int .i64 t120, .int .i64 0, .int .i64 0] 36 (0, 0)) (by (with_reducible repeat (first | refine blk_drewN ?_ _ | refine blk_drew ?_ | refine blk_alloc ?_ _)); refine blk_put (cs := #[.int .i64 x5_1, .int .i64 t120, .int .i64 0, .int .i64 0]) ?_ 3 _ rfl; (with_reducible repeat (first | refine blk_drewN ?_ _ | refine blk_drew ?_ | refine blk_alloc ?_ _)); refine blk_put (cs := #[.int .i64 x5_1, .int .i64 t120, .int .i64 0, .int .i64 0]) ?_ 2 _ rfl; (with_reducible repeat (first | refine blk_drewN ?_ _ | refine blk_drew ?_ | refine blk_alloc ?_ _)); refine blk_put (cs := #[.int .i64 x5_1, .int .i64 0, .int .i64 0, .int .i64 0]) ?_ 1 _ rfl; (with_reducible repeat (first | refine blk_drewN ?_ _ | refine blk_drew ?_ | refine blk_alloc ?_ _)); refine blk_put (cs := #[.int .i64 0, .int .i64 0, .int .i64 0, .int .i64 0]) ?_ 0 _ rfl; (with_reducible repeat (first | refine blk_drewN ?_ _ | refine blk_drew ?_ | refine blk_alloc ?_ _)); exact BK123.out) NB123_0.out (by simp)); have n6_ := Aside0.mk (KeepBut.trans (by repeat (first | (with_reducible first | exact HK.out | apply KeepBut.set_ | apply keep_drewN | apply keep_drew | apply keep_alloc | refine keep_far ?_ GW112.out _ | refine keep_far ?_ GW116.out _ | refine keep_far ?_ GW123.out _) | exact HK.out)) hk (.inl rfl)); have n7_ := Aside0.mk (hb); have n8_ := Aside0.mk (hi); clear HO_117001; clear HO_117002; clear HO_117003; clear BK112; clear BK116; clear BK123; clear HK; clear HB; clear HI0; have HO_117001 := n0_; have HO_117002 := n1_; have HO_117003 := n2_; have BK112 := n3_; have BK116 := n4_; have BK123 := n5_; have HK := n6_; have HB := n7_; have HI0 := n8_; clear n0_ n1_ n2_ n3_ n4_ n5_ n6_ n7_ n8_; (try clear hb); (try clear hb2); (try clear hk); (try clear hi); have hcz23_0 : w22.cell? ⟨gb123, 0, none⟩ = some (.int .i64 x5_1) := (blk_cell BK123.out 0).trans rfl; have hcz23_1 : w22.cell? ⟨gb123, 1, none⟩ = some (.int .i64 t120) := (blk_cell BK123.out 1).trans rfl; have hcz23_2 : w22.cell? ⟨gb123, 2, none⟩ = some (.int .i64 0) := (blk_cell BK123.out 2).trans rfl; have hcz23_3 : w22.cell? ⟨gb123, 3, none⟩ = some (.int .i64 0) := (blk_cell BK123.out 3).trans rfl; have hfz23_0 := blk_frozen BK123.out 0; have hfz23_1 := blk_frozen BK123.out 1; have hfz23_2 := blk_frozen BK123.out 2; have hfz23_3 := blk_frozen BK123.out 3) | ((with_reducible refine gate_callee (f := 71) rfl ?_); refine goesL_ (some 28) rfl rfl Try.func71 s2_ rfl #[.pointer (some ⟨g, 0, none⟩), .int .i64 4] rfl s3_ ?_; (with_reducible refine (spec_l00Src_one.calls g s0_0 t125 t126 4 t127 t128 t129 w0 _ ?side1 ?side2 A14.out).mono ?_); (case side1 => repeat (first | (with_reducible first | exact HI0.out | apply IsS111.alloc | apply IsS111.drewN | apply IsS111.drew | apply IsS111.set_1 | apply IsS111.set_2 | refine IsS111.far ?_ NB0_112.out _ | refine IsS111.far ?_ NB0_116.out _ | refine IsS111.far ?_ NB0_123.out _) | exact HI0.out)); (case side2 => repeat (first | (with_reducible first | exact HB.out | apply below_alloc | apply pw_below_drewN | apply below_drew1 | refine below_set ?_ (IsS111.ge HI0.out) | refine below_set ?_ GE112.out | refine below_set ?_ GE116.out | refine below_set ?_ GE123.out) | exact HB.out)); rintro e w24 ⟨rfl, hi, hb, hk⟩; refine ⟨_, rfl, ?_⟩; have n0_ := Aside0.mk (Kd.R_mono (Kd.R_keep (IsS111.apart (show IsS111 w0 _ g s0_0 t125 t126 from by repeat (first | (with_reducible first | exact HI0.out | apply IsS111.alloc | apply IsS111.drewN | apply IsS111.drew | apply IsS111.set_1 | apply IsS111.set_2 | refine IsS111.far ?_ NB0_112.out _ | refine IsS111.far ?_ NB0_116.out _ | refine IsS111.far ?_ NB0_123.out _) | exact HI0.out)) (by (with_reducible repeat (first | apply Kd.R_alloc | apply Kd.R_drewN | apply Kd.R_drew)); exact (Kd.R_mono (Kd.R_far (p := ⟨gb123, 2, none⟩) (Kd.R_mono HO_117001.out (fun k_ hk => (⟨hk, hk.2⟩ : _ ∧ k_ ≠ gb123))) (fun _ hk => hk.2) (.int .i64 t124)) (fun _ h_ => h_.1))) (by decide)) hk (fun _ h => h.2)) (fun _ h => h.1)); have n1_ := Aside0.mk (Kd.R_mono (Kd.R_keep (IsS111.apart (show IsS111 w0 _ g s0_0 t125 t126 from by repeat (first | (with_reducible first | exact HI0.out | apply IsS111.alloc | apply IsS111.drewN | apply IsS111.drew | apply IsS111.set_1 | apply IsS111.set_2 | refine IsS111.far ?_ NB0_112.out _ | refine IsS111.far ?_ NB0_116.out _ | refine IsS111.far ?_ NB0_123.out _) | exact HI0.out)) (by (with_reducible repeat (first | apply Kd.R_alloc | apply Kd.R_drewN | apply Kd.R_drew)); exact (Kd.R_mono (Kd.R_far (p := ⟨gb123, 2, none⟩) (Kd.R_types HO_117002.out BK123.out (by decide)) (fun _ hk => hk.2) (.int .i64 t124)) (fun _ h_ => h_.1))) (by decide)) hk (fun _ h => h.2)) (fun _ h => h.1)); have n2_ := Aside0.mk (Kd.R_mono (Kd.R_keep (IsS111.apart (show IsS111 w0 _ g s0_0 t125 t126 from by repeat (first | (with_reducible first | exact HI0.out | apply IsS111.alloc | apply IsS111.drewN | apply IsS111.drew | apply IsS111.set_1 | apply IsS111.set_2 | refine IsS111.far ?_ NB0_112.out _ | refine IsS111.far ?_ NB0_116.out _ | refine IsS111.far ?_ NB0_123.out _) | exact HI0.out)) (by (with_reducible repeat (first | apply Kd.R_alloc | apply Kd.R_drewN | apply Kd.R_drew)); exact (Kd.R_mono (Kd.R_far (p := ⟨gb123, 2, none⟩) (Kd.R_types HO_117003.out BK123.out (by decide)) (fun _ hk => hk.2) (.int .i64 t124)) (fun _ h_ => h_.1))) (by decide)) hk (fun _ h => h.2)) (fun _ h => h.1)); have n3_ := Aside0.mk (KeepBut.blk hk (g' := gb112) (o := .cells #[.bool false, .slice none 0 0, .slice none 0 0, .slice none 0 0] 28 (0, 0)) (by (with_reducible repeat (first | refine blk_drewN ?_ _ | refine blk_drew ?_ | refine blk_alloc ?_ _)); refine blk_far ?_ NB112_123.out _; (with_reducible repeat (first | refine blk_drewN ?_ _ | refine blk_drew ?_ | refine blk_alloc ?_ _)); exact BK112.out) NB112_0.out (by simp)); have n4_ := Aside0.mk (KeepBut.blk hk (g' := gb116) (o := .cells #[.bool t113, u117001, u117002, u117003] 28 (0, 0)) (by (with_reducible repeat (first | refine blk_drewN ?_ _ | refine blk_drew ?_ | refine blk_alloc ?_ _)); refine blk_far ?_ NB116_123.out _; (with_reducible repeat (first | refine blk_drewN ?_ _ | refine blk_drew ?_ | refine blk_alloc ?_ _)); exact BK116.out) NB116_0.out (by simp)); have n5_ := Aside0.mk (KeepBut.blk hk (g' := gb123) (o := .cells #[.int .i64 x5_1, .int .i64 t120, .int .i64 t124, .int .i64 0] 36 (0, 0)) (by (with_reducible repeat (first | refine blk_drewN ?_ _ | refine blk_drew ?_ | refine blk_alloc ?_ _)); refine blk_put (cs := #[.int .i64 x5_1, .int .i64 t120, .int .i64 0, .int .i64 0]) ?_ 2 _ rfl; (with_reducible repeat (first | refine blk_drewN ?_ _ | refine blk_drew ?_ | refine blk_alloc ?_ _)); exact BK123.out) NB123_0.out (by simp)); have n6_ := Aside0.mk (KeepBut.trans (by repeat (first | (with_reducible first | exact HK.out | apply KeepBut.set_ | apply keep_drewN | apply keep_drew | apply keep_alloc | refine keep_far ?_ GW112.out _ | refine keep_far ?_ GW116.out _ | refine keep_far ?_ GW123.out _) | exact HK.out)) hk (.inl rfl)); have n7_ := Aside0.mk (hb); have n8_ := Aside0.mk (hi); clear HO_117001; clear HO_117002; clear HO_117003; clear BK112; clear BK116; clear BK123; clear HK; clear HB; clear HI0; have HO_117001 := n0_; have HO_117002 := n1_; have HO_117003 := n2_; have BK112 := n3_; have BK116 := n4_; have BK123 := n5_; have HK := n6_; have HB := n7_; have HI0 := n8_; clear n0_ n1_ n2_ n3_ n4_ n5_ n6_ n7_ n8_; (try clear hb); (try clear hb2); (try clear hk); (try clear hi)))
 (try simp only [Act.put, List.setIfInBounds_toArray, List.set_cons_zero, List.set_cons_succ])
 go_cut [] (fun wc => ∃ (kq : Nat) (x1001_14 : Int) (x1002_14 : Int) (x124003_14 : Int), Aside0 (spec_l02DrawOk.j1 kq (wrap64 (1 + t117)) x5_1 s0_0 x1001_14 x1002_14 t113 x117001_1 x117002_1 x117003_1 x5_1 t120 t124 x124003_14 = some (r1, r2, r3, r4, r5, r6)) ∧ Aside0 (kq ≤ k1) ∧ Aside0 (Kd.R k36 36 wc w.heap.size (fun k_ => k_ ≠ gb123) u117001 x117001_1) ∧ Aside0 (Kd.R k71 71 wc w.heap.size (fun _ => True) u117002 x117002_1) ∧ Aside0 (Kd.R k73 73 wc w.heap.size (fun _ => True) u117003 x117003_1) ∧ Aside0 (wc.heap[gb112]? = some (.cells #[.bool false, (.slice none 0 0), (.slice none 0 0), (.slice none 0 0)] 28 (0, 0))) ∧ Aside0 (wc.heap[gb116]? = some (.cells #[.bool t113, u117001, u117002, u117003] 28 (0, 0))) ∧ Aside0 (wc.heap[gb123]? = some (.cells #[.int .i64 x5_1, .int .i64 t120, .int .i64 t124, .int .i64 x124003_14] 36 (0, 0))) ∧ Aside0 (IsS111 w0 wc g s0_0 x1001_14 x1002_14) ∧ Aside0 (KeepBut w wc g none) ∧ Aside0 (Below w0.heap.size w0 wc))
 case first =>
  skip
  {
 have H := HC15.out
 clear HC15
 by_cases c25 : t127 = true
 {
 subst c25
 have H1 : ((spec_l00Src_pick.f s0_0 t128 t129 40).bind fun bt130 => (spec_l02DrawOk.j1 k1 (wrap64 (1 + t117)) x5_1 s0_0 bt130.2.1 bt130.2.2 t113 x117001_1 x117002_1 x117003_1 x5_1 t120 t124 bt130.1)) = some (r1, r2, r3, r4, r5, r6) := by rw [if_pos rfl] at H; exact H
 clear H
 have H := H1
 clear H1
 replace H := Option.bind_eq_some_iff.mp H
 obtain ⟨⟨t130, t131, t132⟩, A260, H⟩ := H
 replace H : (spec_l02DrawOk.j1 k1 (wrap64 (1 + t117)) x5_1 s0_0 t131 t132 t113 x117001_1 x117002_1 x117003_1 x5_1 t120 t124 t130) = some (r1, r2, r3, r4, r5, r6) := H
 have A26 := Aside0.mk A260
 clear A260
 have H' := Aside0.mk H
 clear H
 go_wp2_with (first | ((with_reducible refine gate_callee (f := 59) rfl ?_); refine goesL_ (some 30) rfl rfl Try.func59 s2_ rfl #[.pointer (some ⟨g, 0, none⟩), .int .i64 40] rfl s3_ ?_; (with_reducible refine (spec_l00Src_pick.calls g s0_0 t128 t129 40 t130 t131 t132 w0 _ ?side1 ?side2 A26.out).mono ?_); (case side1 => repeat (first | (with_reducible first | exact HI0.out | apply IsS111.alloc | apply IsS111.drewN | apply IsS111.drew | apply IsS111.set_1 | apply IsS111.set_2 | refine IsS111.far ?_ NB0_112.out _ | refine IsS111.far ?_ NB0_116.out _ | refine IsS111.far ?_ NB0_123.out _) | exact HI0.out)); (case side2 => repeat (first | (with_reducible first | exact HB.out | apply below_alloc | apply pw_below_drewN | apply below_drew1 | refine below_set ?_ (IsS111.ge HI0.out) | refine below_set ?_ GE112.out | refine below_set ?_ GE116.out | refine below_set ?_ GE123.out) | exact HB.out)); rintro e w27 ⟨rfl, hi, hb, hk⟩; refine ⟨_, rfl, ?_⟩; have n0_ := Aside0.mk (Kd.R_mono (Kd.R_keep (IsS111.apart (show IsS111 w0 _ g s0_0 t128 t129 from by repeat (first | (with_reducible first | exact HI0.out | apply IsS111.alloc | apply IsS111.drewN | apply IsS111.drew | apply IsS111.set_1 | apply IsS111.set_2 | refine IsS111.far ?_ NB0_112.out _ | refine IsS111.far ?_ NB0_116.out _ | refine IsS111.far ?_ NB0_123.out _) | exact HI0.out)) (b2_ HO_117001.out) (by decide)) hk (fun _ h => h.2)) (fun _ h => h.1)); have n1_ := Aside0.mk (Kd.R_mono (Kd.R_keep (IsS111.apart (show IsS111 w0 _ g s0_0 t128 t129 from by repeat (first | (with_reducible first | exact HI0.out | apply IsS111.alloc | apply IsS111.drewN | apply IsS111.drew | apply IsS111.set_1 | apply IsS111.set_2 | refine IsS111.far ?_ NB0_112.out _ | refine IsS111.far ?_ NB0_116.out _ | refine IsS111.far ?_ NB0_123.out _) | exact HI0.out)) (b2_ HO_117002.out) (by decide)) hk (fun _ h => h.2)) (fun _ h => h.1)); have n2_ := Aside0.mk (Kd.R_mono (Kd.R_keep (IsS111.apart (show IsS111 w0 _ g s0_0 t128 t129 from by repeat (first | (with_reducible first | exact HI0.out | apply IsS111.alloc | apply IsS111.drewN | apply IsS111.drew | apply IsS111.set_1 | apply IsS111.set_2 | refine IsS111.far ?_ NB0_112.out _ | refine IsS111.far ?_ NB0_116.out _ | refine IsS111.far ?_ NB0_123.out _) | exact HI0.out)) (b2_ HO_117003.out) (by decide)) hk (fun _ h => h.2)) (fun _ h => h.1)); have n3_ := Aside0.mk (KeepBut.blk hk (g' := gb112) (o := .cells #[.bool false, .slice none 0 0, .slice none 0 0, .slice none 0 0] 28 (0, 0)) (b1_ BK112.out) NB112_0.out (by simp)); have n4_ := Aside0.mk (KeepBut.blk hk (g' := gb116) (o := .cells #[.bool t113, u117001, u117002, u117003] 28 (0, 0)) (b1_ BK116.out) NB116_0.out (by simp)); have n5_ := Aside0.mk (KeepBut.blk hk (g' := gb123) (o := .cells #[.int .i64 x5_1, .int .i64 t120, .int .i64 t124, .int .i64 0] 36 (0, 0)) (b1_ BK123.out) NB123_0.out (by simp)); have n6_ := Aside0.mk (KeepBut.trans (by repeat (first | (with_reducible first | exact HK.out | apply KeepBut.set_ | apply keep_drewN | apply keep_drew | apply keep_alloc | refine keep_far ?_ GW112.out _ | refine keep_far ?_ GW116.out _ | refine keep_far ?_ GW123.out _) | exact HK.out)) hk (.inl rfl)); have n7_ := Aside0.mk (hb); have n8_ := Aside0.mk (hi); clear HO_117001; clear HO_117002; clear HO_117003; clear BK112; clear BK116; clear BK123; clear HK; clear HB; clear HI0; have HO_117001 := n0_; have HO_117002 := n1_; have HO_117003 := n2_; have BK112 := n3_; have BK116 := n4_; have BK123 := n5_; have HK := n6_; have HB := n7_; have HI0 := n8_; clear n0_ n1_ n2_ n3_ n4_ n5_ n6_ n7_ n8_; (try clear hb); (try clear hb2); (try clear hk); (try clear hi); have hnb28 := NB123_112.out; have hnc28 := NB112_123.out; have hnb29 := NB123_116.out; have hnc29 := NB116_123.out; have hnb30 := NB123_0.out; have hnc30 := NB0_123.out; have hcz31_0 : w27.cell? ⟨gb123, 0, none⟩ = some (.int .i64 x5_1) := (blk_cell BK123.out 0).trans rfl; have hcz31_1 : w27.cell? ⟨gb123, 1, none⟩ = some (.int .i64 t120) := (blk_cell BK123.out 1).trans rfl; have hcz31_2 : w27.cell? ⟨gb123, 2, none⟩ = some (.int .i64 t124) := (blk_cell BK123.out 2).trans rfl; have hcz31_3 : w27.cell? ⟨gb123, 3, none⟩ = some (.int .i64 0) := (blk_cell BK123.out 3).trans rfl; have hfz31_0 := blk_frozen BK123.out 0; have hfz31_1 := blk_frozen BK123.out 1; have hfz31_2 := blk_frozen BK123.out 2; have hfz31_3 := blk_frozen BK123.out 3))
 go_meet
 case rel => exact ⟨_, (t131), (t132), (t130), H', ⟨by have := HK1.out; first | omega | exact Nat.le_refl _⟩, ⟨by (with_reducible repeat (first | apply Kd.R_alloc | apply Kd.R_drewN | apply Kd.R_drew)); exact Kd.R_mono (Kd.R_far (p := ⟨gb123, 3, none⟩) (Kd.R_mono HO_117001.out (fun k_ hk => (⟨hk, hk.2⟩ : _ ∧ k_ ≠ gb123))) (fun _ hk => hk.2) (.int .i64 t130)) (fun _ hk => hk.1.2)⟩, ⟨by (with_reducible repeat (first | apply Kd.R_alloc | apply Kd.R_drewN | apply Kd.R_drew)); exact Kd.R_mono (Kd.R_far (p := ⟨gb123, 3, none⟩) (Kd.R_types HO_117002.out BK123.out (by decide)) (fun _ hk => hk.2) (.int .i64 t130)) (fun _ hk => trivial)⟩, ⟨by (with_reducible repeat (first | apply Kd.R_alloc | apply Kd.R_drewN | apply Kd.R_drew)); exact Kd.R_mono (Kd.R_far (p := ⟨gb123, 3, none⟩) (Kd.R_types HO_117003.out BK123.out (by decide)) (fun _ hk => hk.2) (.int .i64 t130)) (fun _ hk => trivial)⟩, ⟨by (with_reducible repeat (first | refine blk_drewN ?_ _ | refine blk_drew ?_ | refine blk_alloc ?_ _)); refine blk_far ?_ NB112_123.out _; (with_reducible repeat (first | refine blk_drewN ?_ _ | refine blk_drew ?_ | refine blk_alloc ?_ _)); exact BK112.out⟩, ⟨by (with_reducible repeat (first | refine blk_drewN ?_ _ | refine blk_drew ?_ | refine blk_alloc ?_ _)); refine blk_far ?_ NB116_123.out _; (with_reducible repeat (first | refine blk_drewN ?_ _ | refine blk_drew ?_ | refine blk_alloc ?_ _)); exact BK116.out⟩, ⟨by (with_reducible repeat (first | refine blk_drewN ?_ _ | refine blk_drew ?_ | refine blk_alloc ?_ _)); refine blk_put (cs := #[.int .i64 x5_1, .int .i64 t120, .int .i64 t124, .int .i64 0]) ?_ 3 _ rfl; (with_reducible repeat (first | refine blk_drewN ?_ _ | refine blk_drew ?_ | refine blk_alloc ?_ _)); exact BK123.out⟩, ⟨by repeat (first | (with_reducible first | exact HI0.out | apply IsS111.alloc | apply IsS111.drewN | apply IsS111.drew | apply IsS111.set_1 | apply IsS111.set_2 | refine IsS111.far ?_ NB0_112.out _ | refine IsS111.far ?_ NB0_116.out _ | refine IsS111.far ?_ NB0_123.out _) | exact HI0.out)⟩, ⟨by repeat (first | (with_reducible first | exact HK.out | apply KeepBut.set_ | apply keep_drewN | apply keep_drew | apply keep_alloc | refine keep_far ?_ GW112.out _ | refine keep_far ?_ GW116.out _ | refine keep_far ?_ GW123.out _) | exact HK.out)⟩, ⟨by repeat (first | (with_reducible first | exact HB.out | apply below_alloc | apply pw_below_drewN | apply below_drew1 | refine below_set ?_ (IsS111.ge HI0.out) | refine below_set ?_ GE112.out | refine below_set ?_ GE116.out | refine below_set ?_ GE123.out) | exact HB.out)⟩⟩}
 {
 replace c25 := Bool.eq_false_iff.mpr c25
 subst c25
 have H1 : (spec_l02DrawOk.j1 k1 (wrap64 (1 + t117)) x5_1 s0_0 t128 t129 t113 x117001_1 x117002_1 x117003_1 x5_1 t120 t124 0) = some (r1, r2, r3, r4, r5, r6) := by rw [if_neg (show ¬ (false = true) by decide)] at H; exact H
 clear H
 have H := H1
 clear H1
 have H' := Aside0.mk H
 clear H
 go_wp2
 go_meet
 case rel => exact ⟨_, (t128), (t129), (0), H', ⟨by have := HK1.out; first | omega | exact Nat.le_refl _⟩, ⟨by (with_reducible repeat (first | apply Kd.R_alloc | apply Kd.R_drewN | apply Kd.R_drew)); exact Kd.R_mono HO_117001.out (fun _ hk => hk.2)⟩, ⟨b2_ HO_117002.out⟩, ⟨b2_ HO_117003.out⟩, ⟨b1_ BK112.out⟩, ⟨b1_ BK116.out⟩, ⟨b1_ BK123.out⟩, ⟨by repeat (first | (with_reducible first | exact HI0.out | apply IsS111.alloc | apply IsS111.drewN | apply IsS111.drew | apply IsS111.set_1 | apply IsS111.set_2 | refine IsS111.far ?_ NB0_112.out _ | refine IsS111.far ?_ NB0_116.out _ | refine IsS111.far ?_ NB0_123.out _) | exact HI0.out)⟩, ⟨by repeat (first | (with_reducible first | exact HK.out | apply KeepBut.set_ | apply keep_drewN | apply keep_drew | apply keep_alloc | refine keep_far ?_ GW112.out _ | refine keep_far ?_ GW116.out _ | refine keep_far ?_ GW123.out _) | exact HK.out)⟩, ⟨by repeat (first | (with_reducible first | exact HB.out | apply below_alloc | apply pw_below_drewN | apply below_drew1 | refine below_set ?_ (IsS111.ge HI0.out) | refine below_set ?_ GE112.out | refine below_set ?_ GE116.out | refine below_set ?_ GE123.out) | exact HB.out)⟩⟩}}
 case rest =>
  skip
  {
 clear HC15
 try clear c1
 try clear c2
 try clear p2
 try clear c3
 try clear c5
 try clear p6
 try clear c7
 try clear c8
 try clear c11
 try clear c11b0
 try clear c18
 try clear c19
 try clear c20
 try clear c25
 try clear c28
 try clear c29
 try clear c30
 try clear hcz21_0
 try clear hcz21_1
 try clear hcz21_2
 try clear hcz21_3
 try clear hcz23_0
 try clear hcz23_1
 try clear hcz23_2
 try clear hcz23_3
 try clear hcz31_0
 try clear hcz31_1
 try clear hcz31_2
 try clear hcz31_3
 try clear hcz9_0
 try clear hcz9_1
 try clear hcz9_2
 try clear hcz9_3
 try clear hfz21_0
 try clear hfz21_1
 try clear hfz21_2
 try clear hfz21_3
 try clear hfz23_0
 try clear hfz23_1
 try clear hfz23_2
 try clear hfz23_3
 try clear hfz31_0
 try clear hfz31_1
 try clear hfz31_2
 try clear hfz31_3
 try clear hfz9_0
 try clear hfz9_1
 try clear hfz9_2
 try clear hfz9_3
 try clear p2
 try clear p6
 obtain ⟨kq, x1001_14, x1002_14, x124003_14, HA, HJ14, HO_117001, HO_117002, HO_117003, BK112, BK116, BK123, HI0, HK, HB⟩ := hcut
 cases kq with
 | zero => exact absurd HA.out (by simp [spec_l02DrawOk.j1])
 | succ kj14 =>
  skip
  {
 have H := HA.out
 clear HA
 simp only [spec_l02DrawOk.j1] at H
 have HC32 := Aside0.mk H
 clear H
 go_upto_if 34 with (fail)
 go_cut [] (fun wc => ∃ (kq : Nat) (x124001_31 : Int), Aside0 (spec_l02DrawOk.j2 kq (wrap64 (1 + t117)) x5_1 s0_0 x1001_14 x1002_14 t113 x117001_1 x117002_1 x117003_1 x5_1 x124001_31 t124 x124003_14 = some (r1, r2, r3, r4, r5, r6)) ∧ Aside0 (kq ≤ kj14) ∧ Aside0 (Kd.R k36 36 wc w.heap.size (fun k_ => k_ ≠ gb123) u117001 x117001_1) ∧ Aside0 (Kd.R k71 71 wc w.heap.size (fun _ => True) u117002 x117002_1) ∧ Aside0 (Kd.R k73 73 wc w.heap.size (fun _ => True) u117003 x117003_1) ∧ Aside0 (wc.heap[gb112]? = some (.cells #[.bool false, (.slice none 0 0), (.slice none 0 0), (.slice none 0 0)] 28 (0, 0))) ∧ Aside0 (wc.heap[gb116]? = some (.cells #[.bool t113, u117001, u117002, u117003] 28 (0, 0))) ∧ Aside0 (wc.heap[gb123]? = some (.cells #[.int .i64 x5_1, .int .i64 x124001_31, .int .i64 t124, .int .i64 x124003_14] 36 (0, 0))) ∧ Aside0 (IsS111 w0 wc g s0_0 x1001_14 x1002_14) ∧ Aside0 (KeepBut w wc g none) ∧ Aside0 (Below w0.heap.size w0 wc))
 case first =>
  skip
  {
 have H := HC32.out
 clear HC32
 by_cases c33 : x5_1 = (wrap64 (1 + t117))
 {
 rw [if_pos c33] at H
 have c33b0 : (x5_1 == (wrap64 (1 + t117))) = true := beq_iff_eq.mpr c33
 have c33b1 : (x5_1 != (wrap64 (1 + t117))) = false := bne_eq_false_iff_eq.mpr c33
 clear c33
 (first | rw [c33b0] | (simp only [i64_w, i32_w]; rw [c33b0]) | skip)
 have H' := Aside0.mk H
 clear H
 have hnb34 := NB123_112.out
 have hnc34 := NB112_123.out
 have hnb35 := NB123_116.out
 have hnc35 := NB116_123.out
 have hnb36 := NB123_0.out
 have hnc36 := NB0_123.out
 have hcz37_0 : wc.cell? ⟨gb123, 0, none⟩ = some (.int .i64 x5_1) := (blk_cell BK123.out 0).trans rfl
 have hcz37_1 : wc.cell? ⟨gb123, 1, none⟩ = some (.int .i64 t120) := (blk_cell BK123.out 1).trans rfl
 have hcz37_2 : wc.cell? ⟨gb123, 2, none⟩ = some (.int .i64 t124) := (blk_cell BK123.out 2).trans rfl
 have hcz37_3 : wc.cell? ⟨gb123, 3, none⟩ = some (.int .i64 x124003_14) := (blk_cell BK123.out 3).trans rfl
 have hfz37_0 := blk_frozen BK123.out 0
 have hfz37_1 := blk_frozen BK123.out 1
 have hfz37_2 := blk_frozen BK123.out 2
 have hfz37_3 := blk_frozen BK123.out 3
 go_wp2
 go_meet
 case rel => exact ⟨_, (3), H', ⟨by have := HK1.out; have := HJ14.out; first | omega | exact Nat.le_refl _⟩, ⟨by (with_reducible repeat (first | apply Kd.R_alloc | apply Kd.R_drewN | apply Kd.R_drew)); exact Kd.R_mono (Kd.R_far (p := ⟨gb123, 1, none⟩) (Kd.R_mono HO_117001.out (fun k_ hk => (⟨hk, hk⟩ : _ ∧ k_ ≠ gb123))) (fun _ hk => hk.2) (.int .i64 3)) (fun _ hk => hk.1)⟩, ⟨by (with_reducible repeat (first | apply Kd.R_alloc | apply Kd.R_drewN | apply Kd.R_drew)); exact Kd.R_mono (Kd.R_far (p := ⟨gb123, 1, none⟩) (Kd.R_types HO_117002.out BK123.out (by decide)) (fun _ hk => hk.2) (.int .i64 3)) (fun _ hk => trivial)⟩, ⟨by (with_reducible repeat (first | apply Kd.R_alloc | apply Kd.R_drewN | apply Kd.R_drew)); exact Kd.R_mono (Kd.R_far (p := ⟨gb123, 1, none⟩) (Kd.R_types HO_117003.out BK123.out (by decide)) (fun _ hk => hk.2) (.int .i64 3)) (fun _ hk => trivial)⟩, ⟨by (with_reducible repeat (first | refine blk_drewN ?_ _ | refine blk_drew ?_ | refine blk_alloc ?_ _)); refine blk_far ?_ NB112_123.out _; (with_reducible repeat (first | refine blk_drewN ?_ _ | refine blk_drew ?_ | refine blk_alloc ?_ _)); exact BK112.out⟩, ⟨by (with_reducible repeat (first | refine blk_drewN ?_ _ | refine blk_drew ?_ | refine blk_alloc ?_ _)); refine blk_far ?_ NB116_123.out _; (with_reducible repeat (first | refine blk_drewN ?_ _ | refine blk_drew ?_ | refine blk_alloc ?_ _)); exact BK116.out⟩, ⟨by (with_reducible repeat (first | refine blk_drewN ?_ _ | refine blk_drew ?_ | refine blk_alloc ?_ _)); refine blk_put (cs := #[.int .i64 x5_1, .int .i64 t120, .int .i64 t124, .int .i64 x124003_14]) ?_ 1 _ rfl; (with_reducible repeat (first | refine blk_drewN ?_ _ | refine blk_drew ?_ | refine blk_alloc ?_ _)); exact BK123.out⟩, ⟨by repeat (first | (with_reducible first | exact HI0.out | apply IsS111.alloc | apply IsS111.drewN | apply IsS111.drew | apply IsS111.set_1 | apply IsS111.set_2 | refine IsS111.far ?_ NB0_112.out _ | refine IsS111.far ?_ NB0_116.out _ | refine IsS111.far ?_ NB0_123.out _) | exact HI0.out)⟩, ⟨by repeat (first | (with_reducible first | exact HK.out | apply KeepBut.set_ | apply keep_drewN | apply keep_drew | apply keep_alloc | refine keep_far ?_ GW112.out _ | refine keep_far ?_ GW116.out _ | refine keep_far ?_ GW123.out _) | exact HK.out)⟩, ⟨by repeat (first | (with_reducible first | exact HB.out | apply below_alloc | apply pw_below_drewN | apply below_drew1 | refine below_set ?_ (IsS111.ge HI0.out) | refine below_set ?_ GE112.out | refine below_set ?_ GE116.out | refine below_set ?_ GE123.out) | exact HB.out)⟩⟩}
 {
 rw [if_neg c33] at H
 have c33b0 : (x5_1 == (wrap64 (1 + t117))) = false := beq_eq_false_iff_ne.mpr c33
 have c33b1 : (x5_1 != (wrap64 (1 + t117))) = true := bne_iff_ne.mpr c33
 (first | rw [c33b0] | (simp only [i64_w, i32_w]; rw [c33b0]) | skip)
 have H' := Aside0.mk H
 clear H
 go_wp2
 go_meet
 case rel => exact ⟨_, (t120), H', ⟨by have := HK1.out; have := HJ14.out; first | omega | exact Nat.le_refl _⟩, ⟨b2_ HO_117001.out⟩, ⟨b2_ HO_117002.out⟩, ⟨b2_ HO_117003.out⟩, ⟨b1_ BK112.out⟩, ⟨b1_ BK116.out⟩, ⟨b1_ BK123.out⟩, ⟨by repeat (first | (with_reducible first | exact HI0.out | apply IsS111.alloc | apply IsS111.drewN | apply IsS111.drew | apply IsS111.set_1 | apply IsS111.set_2 | refine IsS111.far ?_ NB0_112.out _ | refine IsS111.far ?_ NB0_116.out _ | refine IsS111.far ?_ NB0_123.out _) | exact HI0.out)⟩, ⟨by repeat (first | (with_reducible first | exact HK.out | apply KeepBut.set_ | apply keep_drewN | apply keep_drew | apply keep_alloc | refine keep_far ?_ GW112.out _ | refine keep_far ?_ GW116.out _ | refine keep_far ?_ GW123.out _) | exact HK.out)⟩, ⟨by repeat (first | (with_reducible first | exact HB.out | apply below_alloc | apply pw_below_drewN | apply below_drew1 | refine below_set ?_ (IsS111.ge HI0.out) | refine below_set ?_ GE112.out | refine below_set ?_ GE116.out | refine below_set ?_ GE123.out) | exact HB.out)⟩⟩}}
 case rest =>
  skip
  {
 clear HC32
 try clear c1
 try clear c2
 try clear p2
 try clear c3
 try clear c5
 try clear p6
 try clear c7
 try clear c8
 try clear c11
 try clear c11b0
 try clear c18
 try clear c19
 try clear c20
 try clear c25
 try clear c28
 try clear c29
 try clear c30
 try clear c33
 try clear c33b0
 try clear c33b1
 try clear c34
 try clear c35
 try clear c36
 try clear hcz21_0
 try clear hcz21_1
 try clear hcz21_2
 try clear hcz21_3
 try clear hcz23_0
 try clear hcz23_1
 try clear hcz23_2
 try clear hcz23_3
 try clear hcz31_0
 try clear hcz31_1
 try clear hcz31_2
 try clear hcz31_3
 try clear hcz37_0
 try clear hcz37_1
 try clear hcz37_2
 try clear hcz37_3
 try clear hcz9_0
 try clear hcz9_1
 try clear hcz9_2
 try clear hcz9_3
 try clear hfz21_0
 try clear hfz21_1
 try clear hfz21_2
 try clear hfz21_3
 try clear hfz23_0
 try clear hfz23_1
 try clear hfz23_2
 try clear hfz23_3
 try clear hfz31_0
 try clear hfz31_1
 try clear hfz31_2
 try clear hfz31_3
 try clear hfz37_0
 try clear hfz37_1
 try clear hfz37_2
 try clear hfz37_3
 try clear hfz9_0
 try clear hfz9_1
 try clear hfz9_2
 try clear hfz9_3
 try clear p2
 try clear p6
 obtain ⟨kq, x124001_31, HA, HJ31, HO_117001, HO_117002, HO_117003, BK112, BK116, BK123, HI0, HK, HB⟩ := hcut
 cases kq with
 | zero => exact absurd HA.out (by simp [spec_l02DrawOk.j2])
 | succ kj31 =>
  skip
  {
 have H := HA.out
 clear HA
 simp only [spec_l02DrawOk.j2] at H
 replace H := Option.bind_eq_some_iff.mp H
 obtain ⟨⟨t133, t134, t135⟩, A380, H⟩ := H
 replace H : ((spec_l00Src_pick.f s0_0 t134 t135 6).bind fun bt136 => ((spec_l00Src_pick.f s0_0 bt136.2.1 bt136.2.2 5).bind fun bt139 => (if x5_1 = (wrap64 (1 + t117)) then (spec_l02DrawOk.j3 kj31 (wrap64 (1 + t117)) x5_1 t133 (wrap64 (1 + bt136.1)) bt139.1 true s0_0 bt139.2.1 bt139.2.2 t113 x117001_1 x117002_1 x117003_1 x5_1 x124001_31 t124 x124003_14) else (spec_l02DrawOk.j3 kj31 (wrap64 (1 + t117)) x5_1 t133 (wrap64 (1 + bt136.1)) bt139.1 (decide (bt139.1 < 3)) s0_0 bt139.2.1 bt139.2.2 t113 x117001_1 x117002_1 x117003_1 x5_1 x124001_31 t124 x124003_14)))) = some (r1, r2, r3, r4, r5, r6) := H
 have A38 := Aside0.mk A380
 clear A380
 replace H := Option.bind_eq_some_iff.mp H
 obtain ⟨⟨t136, t137, t138⟩, A390, H⟩ := H
 replace H : ((spec_l00Src_pick.f s0_0 t137 t138 5).bind fun bt139 => (if x5_1 = (wrap64 (1 + t117)) then (spec_l02DrawOk.j3 kj31 (wrap64 (1 + t117)) x5_1 t133 (wrap64 (1 + t136)) bt139.1 true s0_0 bt139.2.1 bt139.2.2 t113 x117001_1 x117002_1 x117003_1 x5_1 x124001_31 t124 x124003_14) else (spec_l02DrawOk.j3 kj31 (wrap64 (1 + t117)) x5_1 t133 (wrap64 (1 + t136)) bt139.1 (decide (bt139.1 < 3)) s0_0 bt139.2.1 bt139.2.2 t113 x117001_1 x117002_1 x117003_1 x5_1 x124001_31 t124 x124003_14))) = some (r1, r2, r3, r4, r5, r6) := H
 have A39 := Aside0.mk A390
 clear A390
 replace H := Option.bind_eq_some_iff.mp H
 obtain ⟨⟨t139, t140, t141⟩, A400, H⟩ := H
 replace H : (if x5_1 = (wrap64 (1 + t117)) then (spec_l02DrawOk.j3 kj31 (wrap64 (1 + t117)) x5_1 t133 (wrap64 (1 + t136)) t139 true s0_0 t140 t141 t113 x117001_1 x117002_1 x117003_1 x5_1 x124001_31 t124 x124003_14) else (spec_l02DrawOk.j3 kj31 (wrap64 (1 + t117)) x5_1 t133 (wrap64 (1 + t136)) t139 (decide (t139 < 3)) s0_0 t140 t141 t113 x117001_1 x117002_1 x117003_1 x5_1 x124001_31 t124 x124003_14)) = some (r1, r2, r3, r4, r5, r6) := H
 have A40 := Aside0.mk A400
 clear A400
 have HC41 := Aside0.mk H
 clear H
 go_upto_region 17 with (first | ((with_reducible refine gate_callee (f := 59) rfl ?_); refine goesL_ (some 37) rfl rfl Try.func59 s2_ rfl #[.pointer (some ⟨g, 0, none⟩), .int .i64 40] rfl s3_ ?_; (with_reducible refine (spec_l00Src_pick.calls g s0_0 x1001_14 x1002_14 40 t133 t134 t135 w0 _ ?side1 ?side2 A38.out).mono ?_); (case side1 => repeat (first | (with_reducible first | exact HI0.out | apply IsS111.alloc | apply IsS111.drewN | apply IsS111.drew | apply IsS111.set_1 | apply IsS111.set_2 | refine IsS111.far ?_ NB0_112.out _ | refine IsS111.far ?_ NB0_116.out _ | refine IsS111.far ?_ NB0_123.out _) | exact HI0.out)); (case side2 => repeat (first | (with_reducible first | exact HB.out | apply below_alloc | apply pw_below_drewN | apply below_drew1 | refine below_set ?_ (IsS111.ge HI0.out) | refine below_set ?_ GE112.out | refine below_set ?_ GE116.out | refine below_set ?_ GE123.out) | exact HB.out)); rintro e w42 ⟨rfl, hi, hb, hk⟩; refine ⟨_, rfl, ?_⟩; have n0_ := Aside0.mk (Kd.R_mono (Kd.R_keep (IsS111.apart (show IsS111 w0 _ g s0_0 x1001_14 x1002_14 from by repeat (first | (with_reducible first | exact HI0.out | apply IsS111.alloc | apply IsS111.drewN | apply IsS111.drew | apply IsS111.set_1 | apply IsS111.set_2 | refine IsS111.far ?_ NB0_112.out _ | refine IsS111.far ?_ NB0_116.out _ | refine IsS111.far ?_ NB0_123.out _) | exact HI0.out)) (b2_ HO_117001.out) (by decide)) hk (fun _ h => h.2)) (fun _ h => h.1)); have n1_ := Aside0.mk (Kd.R_mono (Kd.R_keep (IsS111.apart (show IsS111 w0 _ g s0_0 x1001_14 x1002_14 from by repeat (first | (with_reducible first | exact HI0.out | apply IsS111.alloc | apply IsS111.drewN | apply IsS111.drew | apply IsS111.set_1 | apply IsS111.set_2 | refine IsS111.far ?_ NB0_112.out _ | refine IsS111.far ?_ NB0_116.out _ | refine IsS111.far ?_ NB0_123.out _) | exact HI0.out)) (b2_ HO_117002.out) (by decide)) hk (fun _ h => h.2)) (fun _ h => h.1)); have n2_ := Aside0.mk (Kd.R_mono (Kd.R_keep (IsS111.apart (show IsS111 w0 _ g s0_0 x1001_14 x1002_14 from by repeat (first | (with_reducible first | exact HI0.out | apply IsS111.alloc | apply IsS111.drewN | apply IsS111.drew | apply IsS111.set_1 | apply IsS111.set_2 | refine IsS111.far ?_ NB0_112.out _ | refine IsS111.far ?_ NB0_116.out _ | refine IsS111.far ?_ NB0_123.out _) | exact HI0.out)) (b2_ HO_117003.out) (by decide)) hk (fun _ h => h.2)) (fun _ h => h.1)); have n3_ := Aside0.mk (KeepBut.blk hk (g' := gb112) (o := .cells #[.bool false, .slice none 0 0, .slice none 0 0, .slice none 0 0] 28 (0, 0)) (b1_ BK112.out) NB112_0.out (by simp)); have n4_ := Aside0.mk (KeepBut.blk hk (g' := gb116) (o := .cells #[.bool t113, u117001, u117002, u117003] 28 (0, 0)) (b1_ BK116.out) NB116_0.out (by simp)); have n5_ := Aside0.mk (KeepBut.blk hk (g' := gb123) (o := .cells #[.int .i64 x5_1, .int .i64 x124001_31, .int .i64 t124, .int .i64 x124003_14] 36 (0, 0)) (b1_ BK123.out) NB123_0.out (by simp)); have n6_ := Aside0.mk (KeepBut.trans (by repeat (first | (with_reducible first | exact HK.out | apply KeepBut.set_ | apply keep_drewN | apply keep_drew | apply keep_alloc | refine keep_far ?_ GW112.out _ | refine keep_far ?_ GW116.out _ | refine keep_far ?_ GW123.out _) | exact HK.out)) hk (.inl rfl)); have n7_ := Aside0.mk (hb); have n8_ := Aside0.mk (hi); clear HO_117001; clear HO_117002; clear HO_117003; clear BK112; clear BK116; clear BK123; clear HK; clear HB; clear HI0; have HO_117001 := n0_; have HO_117002 := n1_; have HO_117003 := n2_; have BK112 := n3_; have BK116 := n4_; have BK123 := n5_; have HK := n6_; have HB := n7_; have HI0 := n8_; clear n0_ n1_ n2_ n3_ n4_ n5_ n6_ n7_ n8_; (try clear hb); (try clear hb2); (try clear hk); (try clear hi)) | ((with_reducible refine gate_callee (f := 59) rfl ?_); refine goesL_ (some 39) rfl rfl Try.func59 s2_ rfl #[.pointer (some ⟨g, 0, none⟩), .int .i64 6] rfl s3_ ?_; (with_reducible refine (spec_l00Src_pick.calls g s0_0 t134 t135 6 t136 t137 t138 w0 _ ?side1 ?side2 A39.out).mono ?_); (case side1 => repeat (first | (with_reducible first | exact HI0.out | apply IsS111.alloc | apply IsS111.drewN | apply IsS111.drew | apply IsS111.set_1 | apply IsS111.set_2 | refine IsS111.far ?_ NB0_112.out _ | refine IsS111.far ?_ NB0_116.out _ | refine IsS111.far ?_ NB0_123.out _) | exact HI0.out)); (case side2 => repeat (first | (with_reducible first | exact HB.out | apply below_alloc | apply pw_below_drewN | apply below_drew1 | refine below_set ?_ (IsS111.ge HI0.out) | refine below_set ?_ GE112.out | refine below_set ?_ GE116.out | refine below_set ?_ GE123.out) | exact HB.out)); rintro e w43 ⟨rfl, hi, hb, hk⟩; refine ⟨_, rfl, ?_⟩; have n0_ := Aside0.mk (Kd.R_mono (Kd.R_keep (IsS111.apart (show IsS111 w0 _ g s0_0 t134 t135 from by repeat (first | (with_reducible first | exact HI0.out | apply IsS111.alloc | apply IsS111.drewN | apply IsS111.drew | apply IsS111.set_1 | apply IsS111.set_2 | refine IsS111.far ?_ NB0_112.out _ | refine IsS111.far ?_ NB0_116.out _ | refine IsS111.far ?_ NB0_123.out _) | exact HI0.out)) (b2_ HO_117001.out) (by decide)) hk (fun _ h => h.2)) (fun _ h => h.1)); have n1_ := Aside0.mk (Kd.R_mono (Kd.R_keep (IsS111.apart (show IsS111 w0 _ g s0_0 t134 t135 from by repeat (first | (with_reducible first | exact HI0.out | apply IsS111.alloc | apply IsS111.drewN | apply IsS111.drew | apply IsS111.set_1 | apply IsS111.set_2 | refine IsS111.far ?_ NB0_112.out _ | refine IsS111.far ?_ NB0_116.out _ | refine IsS111.far ?_ NB0_123.out _) | exact HI0.out)) (b2_ HO_117002.out) (by decide)) hk (fun _ h => h.2)) (fun _ h => h.1)); have n2_ := Aside0.mk (Kd.R_mono (Kd.R_keep (IsS111.apart (show IsS111 w0 _ g s0_0 t134 t135 from by repeat (first | (with_reducible first | exact HI0.out | apply IsS111.alloc | apply IsS111.drewN | apply IsS111.drew | apply IsS111.set_1 | apply IsS111.set_2 | refine IsS111.far ?_ NB0_112.out _ | refine IsS111.far ?_ NB0_116.out _ | refine IsS111.far ?_ NB0_123.out _) | exact HI0.out)) (b2_ HO_117003.out) (by decide)) hk (fun _ h => h.2)) (fun _ h => h.1)); have n3_ := Aside0.mk (KeepBut.blk hk (g' := gb112) (o := .cells #[.bool false, .slice none 0 0, .slice none 0 0, .slice none 0 0] 28 (0, 0)) (b1_ BK112.out) NB112_0.out (by simp)); have n4_ := Aside0.mk (KeepBut.blk hk (g' := gb116) (o := .cells #[.bool t113, u117001, u117002, u117003] 28 (0, 0)) (b1_ BK116.out) NB116_0.out (by simp)); have n5_ := Aside0.mk (KeepBut.blk hk (g' := gb123) (o := .cells #[.int .i64 x5_1, .int .i64 x124001_31, .int .i64 t124, .int .i64 x124003_14] 36 (0, 0)) (b1_ BK123.out) NB123_0.out (by simp)); have n6_ := Aside0.mk (KeepBut.trans (by repeat (first | (with_reducible first | exact HK.out | apply KeepBut.set_ | apply keep_drewN | apply keep_drew | apply keep_alloc | refine keep_far ?_ GW112.out _ | refine keep_far ?_ GW116.out _ | refine keep_far ?_ GW123.out _) | exact HK.out)) hk (.inl rfl)); have n7_ := Aside0.mk (hb); have n8_ := Aside0.mk (hi); clear HO_117001; clear HO_117002; clear HO_117003; clear BK112; clear BK116; clear BK123; clear HK; clear HB; clear HI0; have HO_117001 := n0_; have HO_117002 := n1_; have HO_117003 := n2_; have BK112 := n3_; have BK116 := n4_; have BK123 := n5_; have HK := n6_; have HB := n7_; have HI0 := n8_; clear n0_ n1_ n2_ n3_ n4_ n5_ n6_ n7_ n8_; (try clear hb); (try clear hb2); (try clear hk); (try clear hi)) | ((with_reducible refine gate_callee (f := 59) rfl ?_); refine goesL_ (some 42) rfl rfl Try.func59 s2_ rfl #[.pointer (some ⟨g, 0, none⟩), .int .i64 5] rfl s3_ ?_; (with_reducible refine (spec_l00Src_pick.calls g s0_0 t137 t138 5 t139 t140 t141 w0 _ ?side1 ?side2 A40.out).mono ?_); (case side1 => repeat (first | (with_reducible first | exact HI0.out | apply IsS111.alloc | apply IsS111.drewN | apply IsS111.drew | apply IsS111.set_1 | apply IsS111.set_2 | refine IsS111.far ?_ NB0_112.out _ | refine IsS111.far ?_ NB0_116.out _ | refine IsS111.far ?_ NB0_123.out _) | exact HI0.out)); (case side2 => repeat (first | (with_reducible first | exact HB.out | apply below_alloc | apply pw_below_drewN | apply below_drew1 | refine below_set ?_ (IsS111.ge HI0.out) | refine below_set ?_ GE112.out | refine below_set ?_ GE116.out | refine below_set ?_ GE123.out) | exact HB.out)); rintro e w44 ⟨rfl, hi, hb, hk⟩; refine ⟨_, rfl, ?_⟩; have n0_ := Aside0.mk (Kd.R_mono (Kd.R_keep (IsS111.apart (show IsS111 w0 _ g s0_0 t137 t138 from by repeat (first | (with_reducible first | exact HI0.out | apply IsS111.alloc | apply IsS111.drewN | apply IsS111.drew | apply IsS111.set_1 | apply IsS111.set_2 | refine IsS111.far ?_ NB0_112.out _ | refine IsS111.far ?_ NB0_116.out _ | refine IsS111.far ?_ NB0_123.out _) | exact HI0.out)) (b2_ HO_117001.out) (by decide)) hk (fun _ h => h.2)) (fun _ h => h.1)); have n1_ := Aside0.mk (Kd.R_mono (Kd.R_keep (IsS111.apart (show IsS111 w0 _ g s0_0 t137 t138 from by repeat (first | (with_reducible first | exact HI0.out | apply IsS111.alloc | apply IsS111.drewN | apply IsS111.drew | apply IsS111.set_1 | apply IsS111.set_2 | refine IsS111.far ?_ NB0_112.out _ | refine IsS111.far ?_ NB0_116.out _ | refine IsS111.far ?_ NB0_123.out _) | exact HI0.out)) (b2_ HO_117002.out) (by decide)) hk (fun _ h => h.2)) (fun _ h => h.1)); have n2_ := Aside0.mk (Kd.R_mono (Kd.R_keep (IsS111.apart (show IsS111 w0 _ g s0_0 t137 t138 from by repeat (first | (with_reducible first | exact HI0.out | apply IsS111.alloc | apply IsS111.drewN | apply IsS111.drew | apply IsS111.set_1 | apply IsS111.set_2 | refine IsS111.far ?_ NB0_112.out _ | refine IsS111.far ?_ NB0_116.out _ | refine IsS111.far ?_ NB0_123.out _) | exact HI0.out)) (b2_ HO_117003.out) (by decide)) hk (fun _ h => h.2)) (fun _ h => h.1)); have n3_ := Aside0.mk (KeepBut.blk hk (g' := gb112) (o := .cells #[.bool false, .slice none 0 0, .slice none 0 0, .slice none 0 0] 28 (0, 0)) (b1_ BK112.out) NB112_0.out (by simp)); have n4_ := Aside0.mk (KeepBut.blk hk (g' := gb116) (o := .cells #[.bool t113, u117001, u117002, u117003] 28 (0, 0)) (b1_ BK116.out) NB116_0.out (by simp)); have n5_ := Aside0.mk (KeepBut.blk hk (g' := gb123) (o := .cells #[.int .i64 x5_1, .int .i64 x124001_31, .int .i64 t124, .int .i64 x124003_14] 36 (0, 0)) (b1_ BK123.out) NB123_0.out (by simp)); have n6_ := Aside0.mk (KeepBut.trans (by repeat (first | (with_reducible first | exact HK.out | apply KeepBut.set_ | apply keep_drewN | apply keep_drew | apply keep_alloc | refine keep_far ?_ GW112.out _ | refine keep_far ?_ GW116.out _ | refine keep_far ?_ GW123.out _) | exact HK.out)) hk (.inl rfl)); have n7_ := Aside0.mk (hb); have n8_ := Aside0.mk (hi); clear HO_117001; clear HO_117002; clear HO_117003; clear BK112; clear BK116; clear BK123; clear HK; clear HB; clear HI0; have HO_117001 := n0_; have HO_117002 := n1_; have HO_117003 := n2_; have BK112 := n3_; have BK116 := n4_; have BK123 := n5_; have HK := n6_; have HB := n7_; have HI0 := n8_; clear n0_ n1_ n2_ n3_ n4_ n5_ n6_ n7_ n8_; (try clear hb); (try clear hb2); (try clear hk); (try clear hi)))
 (try simp only [Act.put, List.setIfInBounds_toArray, List.set_cons_zero, List.set_cons_succ])
 go_cut [53] (fun v53 wc => ∃ (kq : Nat) (x53_40 : Bool), v53 = .bool x53_40 ∧ Aside0 (spec_l02DrawOk.j3 kq (wrap64 (1 + t117)) x5_1 t133 (wrap64 (1 + t136)) t139 x53_40 s0_0 t140 t141 t113 x117001_1 x117002_1 x117003_1 x5_1 x124001_31 t124 x124003_14 = some (r1, r2, r3, r4, r5, r6)) ∧ Aside0 (kq ≤ kj31) ∧ Aside0 (Kd.R k36 36 wc w.heap.size (fun k_ => k_ ≠ gb123) u117001 x117001_1) ∧ Aside0 (Kd.R k71 71 wc w.heap.size (fun _ => True) u117002 x117002_1) ∧ Aside0 (Kd.R k73 73 wc w.heap.size (fun _ => True) u117003 x117003_1) ∧ Aside0 (wc.heap[gb112]? = some (.cells #[.bool false, (.slice none 0 0), (.slice none 0 0), (.slice none 0 0)] 28 (0, 0))) ∧ Aside0 (wc.heap[gb116]? = some (.cells #[.bool t113, u117001, u117002, u117003] 28 (0, 0))) ∧ Aside0 (wc.heap[gb123]? = some (.cells #[.int .i64 x5_1, .int .i64 x124001_31, .int .i64 t124, .int .i64 x124003_14] 36 (0, 0))) ∧ Aside0 (IsS111 w0 wc g s0_0 t140 t141) ∧ Aside0 (KeepBut w wc g none) ∧ Aside0 (Below w0.heap.size w0 wc))
 case first =>
  skip
  {
 have H := HC41.out
 clear HC41
 by_cases c45 : x5_1 = (wrap64 (1 + t117))
 {
 rw [if_pos c45] at H
 have c45b0 : (x5_1 == (wrap64 (1 + t117))) = true := beq_iff_eq.mpr c45
 have c45b1 : (x5_1 != (wrap64 (1 + t117))) = false := bne_eq_false_iff_eq.mpr c45
 clear c45
 (first | rw [c45b0] | (simp only [i64_w, i32_w]; rw [c45b0]) | skip)
 have H' := Aside0.mk H
 clear H
 go_wp2
 go_meet
 case rel => exact ⟨_, (true), s1_, H', ⟨by have := HK1.out; have := HJ14.out; have := HJ31.out; first | omega | exact Nat.le_refl _⟩, ⟨b2_ HO_117001.out⟩, ⟨b2_ HO_117002.out⟩, ⟨b2_ HO_117003.out⟩, ⟨b1_ BK112.out⟩, ⟨b1_ BK116.out⟩, ⟨b1_ BK123.out⟩, ⟨by repeat (first | (with_reducible first | exact HI0.out | apply IsS111.alloc | apply IsS111.drewN | apply IsS111.drew | apply IsS111.set_1 | apply IsS111.set_2 | refine IsS111.far ?_ NB0_112.out _ | refine IsS111.far ?_ NB0_116.out _ | refine IsS111.far ?_ NB0_123.out _) | exact HI0.out)⟩, ⟨by repeat (first | (with_reducible first | exact HK.out | apply KeepBut.set_ | apply keep_drewN | apply keep_drew | apply keep_alloc | refine keep_far ?_ GW112.out _ | refine keep_far ?_ GW116.out _ | refine keep_far ?_ GW123.out _) | exact HK.out)⟩, ⟨by repeat (first | (with_reducible first | exact HB.out | apply below_alloc | apply pw_below_drewN | apply below_drew1 | refine below_set ?_ (IsS111.ge HI0.out) | refine below_set ?_ GE112.out | refine below_set ?_ GE116.out | refine below_set ?_ GE123.out) | exact HB.out)⟩⟩}
 {
 rw [if_neg c45] at H
 have c45b0 : (x5_1 == (wrap64 (1 + t117))) = false := beq_eq_false_iff_ne.mpr c45
 have c45b1 : (x5_1 != (wrap64 (1 + t117))) = true := bne_iff_ne.mpr c45
 (first | rw [c45b0] | (simp only [i64_w, i32_w]; rw [c45b0]) | skip)
 have H' := Aside0.mk H
 clear H
 go_wp2
 go_meet
 case rel => exact ⟨_, (decide (t139 < 3)), s1_, H', ⟨by have := HK1.out; have := HJ14.out; have := HJ31.out; first | omega | exact Nat.le_refl _⟩, ⟨b2_ HO_117001.out⟩, ⟨b2_ HO_117002.out⟩, ⟨b2_ HO_117003.out⟩, ⟨b1_ BK112.out⟩, ⟨b1_ BK116.out⟩, ⟨b1_ BK123.out⟩, ⟨by repeat (first | (with_reducible first | exact HI0.out | apply IsS111.alloc | apply IsS111.drewN | apply IsS111.drew | apply IsS111.set_1 | apply IsS111.set_2 | refine IsS111.far ?_ NB0_112.out _ | refine IsS111.far ?_ NB0_116.out _ | refine IsS111.far ?_ NB0_123.out _) | exact HI0.out)⟩, ⟨by repeat (first | (with_reducible first | exact HK.out | apply KeepBut.set_ | apply keep_drewN | apply keep_drew | apply keep_alloc | refine keep_far ?_ GW112.out _ | refine keep_far ?_ GW116.out _ | refine keep_far ?_ GW123.out _) | exact HK.out)⟩, ⟨by repeat (first | (with_reducible first | exact HB.out | apply below_alloc | apply pw_below_drewN | apply below_drew1 | refine below_set ?_ (IsS111.ge HI0.out) | refine below_set ?_ GE112.out | refine below_set ?_ GE116.out | refine below_set ?_ GE123.out) | exact HB.out)⟩⟩}}
 case rest =>
  skip
  {
 clear HC41
 try clear c1
 try clear c2
 try clear p2
 try clear c3
 try clear c4
 try clear c5
 try clear p6
 try clear c7
 try clear c8
 try clear c11
 try clear c11b0
 try clear c18
 try clear c19
 try clear c20
 try clear c25
 try clear c28
 try clear c29
 try clear c30
 try clear c33
 try clear c33b0
 try clear c33b1
 try clear c34
 try clear c35
 try clear c36
 try clear c45
 try clear c45b0
 try clear c45b1
 try clear hcz21_0
 try clear hcz21_1
 try clear hcz21_2
 try clear hcz21_3
 try clear hcz23_0
 try clear hcz23_1
 try clear hcz23_2
 try clear hcz23_3
 try clear hcz31_0
 try clear hcz31_1
 try clear hcz31_2
 try clear hcz31_3
 try clear hcz37_0
 try clear hcz37_1
 try clear hcz37_2
 try clear hcz37_3
 try clear hcz9_0
 try clear hcz9_1
 try clear hcz9_2
 try clear hcz9_3
 try clear hfz21_0
 try clear hfz21_1
 try clear hfz21_2
 try clear hfz21_3
 try clear hfz23_0
 try clear hfz23_1
 try clear hfz23_2
 try clear hfz23_3
 try clear hfz31_0
 try clear hfz31_1
 try clear hfz31_2
 try clear hfz31_3
 try clear hfz37_0
 try clear hfz37_1
 try clear hfz37_2
 try clear hfz37_3
 try clear hfz9_0
 try clear hfz9_1
 try clear hfz9_2
 try clear hfz9_3
 try clear p2
 try clear p6
 obtain ⟨kq, x53_40, rfl, HA, HJ40, HO_117001, HO_117002, HO_117003, BK112, BK116, BK123, HI0, HK, HB⟩ := hcut
 cases kq with
 | zero => exact absurd HA.out (by simp [spec_l02DrawOk.j3])
 | succ kj40 =>
  skip
  {
 have H := HA.out
 clear HA
 simp only [spec_l02DrawOk.j3] at H
 by_cases c46 : x53_40 = true
 {
 subst c46
 have H1 : (if x117001_1.length < 4398046511104 then (spec_l02DrawOk.l0 kj40 (wrap64 (1 + t117)) (wrap64 (x5_1 + 1)) s0_0 t140 t141 t113 (x117001_1 ++ [(⟨x5_1, x124001_31, t124, x124003_14⟩ : S36)]) x117002_1 x117003_1) else (none)) = some (r1, r2, r3, r4, r5, r6) := by rw [if_pos rfl] at H; exact H
 clear H
 have H := H1
 clear H1
 by_cases c47 : x117001_1.length < 4398046511104
 {
 rw [if_pos c47] at H
 have LMc47 := Aside0.mk c47
 clear c47
 obtain ⟨y142, hy142⟩ : ∃ y_ : List (S36), y_ = (x117001_1 ++ [(⟨x5_1, x124001_31, t124, x124003_14⟩ : S36)]) := ⟨_, rfl⟩
 replace H : (spec_l02DrawOk.l0 kj40 (wrap64 (1 + t117)) (wrap64 (x5_1 + 1)) s0_0 t140 t141 t113 y142 x117002_1 x117003_1) = some (r1, r2, r3, r4, r5, r6) := by first | (rw [hy142]; with_reducible exact H) | (have H2_ := (Option.bind_some _ _).symm.trans H; rw [hy142]; with_reducible exact H2_) | (have H2_ := (Option.bind_some _ _).symm.trans H; with_reducible exact H2_) | with_reducible exact H | (rw [hy142]; exact H) | exact H
 have Ny142 := Aside0.mk hy142
 clear hy142
 have H' := Aside0.mk H
 clear H
 have hnb48 := NB116_112.out
 have hnc48 := NB112_116.out
 have hnb49 := NB116_123.out
 have hnc49 := NB123_116.out
 have hnb50 := NB116_0.out
 have hnc50 := NB0_116.out
 have hcz51_0 : wc.cell? ⟨gb116, 0, none⟩ = some (.bool t113) := (blk_cell BK116.out 0).trans rfl
 have hcz51_1 : wc.cell? ⟨gb116, 1, none⟩ = some (u117001) := (blk_cell BK116.out 1).trans rfl
 have hcz51_2 : wc.cell? ⟨gb116, 2, none⟩ = some (u117002) := (blk_cell BK116.out 2).trans rfl
 have hcz51_3 : wc.cell? ⟨gb116, 3, none⟩ = some (u117003) := (blk_cell BK116.out 3).trans rfl
 have hfz51_0 := blk_frozen BK116.out 0
 have hfz51_1 := blk_frozen BK116.out 1
 have hfz51_2 := blk_frozen BK116.out 2
 have hfz51_3 := blk_frozen BK116.out 3
 have hnb52 := NB123_112.out
 have hnc52 := NB112_123.out
 have hnb53 := NB123_0.out
 have hnc53 := NB0_123.out
 have hcz54_0 : wc.cell? ⟨gb123, 0, none⟩ = some (.int .i64 x5_1) := (blk_cell BK123.out 0).trans rfl
 have hcz54_1 : wc.cell? ⟨gb123, 1, none⟩ = some (.int .i64 x124001_31) := (blk_cell BK123.out 1).trans rfl
 have hcz54_2 : wc.cell? ⟨gb123, 2, none⟩ = some (.int .i64 t124) := (blk_cell BK123.out 2).trans rfl
 have hcz54_3 : wc.cell? ⟨gb123, 3, none⟩ = some (.int .i64 x124003_14) := (blk_cell BK123.out 3).trans rfl
 have hfz54_0 := blk_frozen BK123.out 0
 have hfz54_1 := blk_frozen BK123.out 1
 have hfz54_2 := blk_frozen BK123.out 2
 have hfz54_3 := blk_frozen BK123.out 3
 go_wp2_with (first | ((with_reducible refine gate_builtin (b := .append) (xs := #[.tmp 62, .tmp 64]) rfl ?_); at_builtin; refine Kd.R_append k36 w.heap.size rfl (.tmp 62) (.tmp 64) 24 36 (.agg #[(.int .i64 0), (.int .i64 0), (.int .i64 0), (.int .i64 0)]) 32 rfl Try.underlying24 info36 rfl (by decide) (by omega) u117001 x117001_1 (⟨x5_1, x124001_31, t124, x124003_14⟩ : S36) [.int .i64 x5_1, .int .i64 x124001_31, .int .i64 t124, .int .i64 x124003_14] (fun k_ => k_ ≠ gb123) (fun _ => False) rfl rfl ?aP (fun _ hk => hk.elim) ?aF ?aO (Below.refl _ _) ?aS ?aL ?_; (case aP => exact k36_mkM _ _ _ (⟨x5_1, x124001_31, t124, x124003_14⟩ : S36)); (case aF => exact (fun k_ hk => Kd.freshB (g := gb123) (o := .cells #[.int .i64 x5_1, .int .i64 x124001_31, .int .i64 t124, .int .i64 x124003_14] 36 (0, 0)) (b1_ BK123.out) k_ hk)); (case aO => exact (b2_ HO_117001.out)); (case aS => exact (keep_size (w := w) (g := g) (row := none) (by repeat (first | (with_reducible first | exact HK.out | apply KeepBut.set_ | apply keep_drewN | apply keep_drew | apply keep_alloc | refine keep_far ?_ GW112.out _ | refine keep_far ?_ GW116.out _ | refine keep_far ?_ GW123.out _) | exact HK.out)))); (case aL => have := LMc47.out; omega); intro v143 w55 ho hb hg hat; rw [← Ny142.out] at ho; have n0_ := Aside0.mk (Kd.R_over' (b2_ HO_117002.out) (Kd.R_typed (b2_ HO_117001.out)) (by decide) hg); have n1_ := Aside0.mk (Kd.R_over' (b2_ HO_117003.out) (Kd.R_typed (b2_ HO_117001.out)) (by decide) hg); have n2_ := Aside0.mk (blk_grown (g := gb112) (o := .cells #[.bool false, .slice none 0 0, .slice none 0 0, .slice none 0 0] 28 (0, 0)) (b1_ BK112.out) hg (Kd.R_ne HO_117001.out BK112.out (by decide))); have n3_ := Aside0.mk (blk_grown (g := gb116) (o := .cells #[.bool t113, u117001, u117002, u117003] 28 (0, 0)) (b1_ BK116.out) hg (Kd.R_ne HO_117001.out BK116.out (by decide))); have n4_ := Aside0.mk (blk_grown (g := gb123) (o := .cells #[.int .i64 x5_1, .int .i64 x124001_31, .int .i64 t124, .int .i64 x124003_14] 36 (0, 0)) (b1_ BK123.out) hg (Kd.R_away HO_117001.out (fun _ hk => hk))); have n5_ := Aside0.mk (IsS111.grown (by repeat (first | (with_reducible first | exact HI0.out | apply IsS111.alloc | apply IsS111.drewN | apply IsS111.drew | apply IsS111.set_1 | apply IsS111.set_2 | refine IsS111.far ?_ NB0_112.out _ | refine IsS111.far ?_ NB0_116.out _ | refine IsS111.far ?_ NB0_123.out _) | exact HI0.out)) hg (IsS111.own_ne HI0.out HO_117001.out (by decide))); have n6_ := Aside0.mk (below_weaken (by repeat (first | (with_reducible first | exact HB.out | apply below_alloc | apply pw_below_drewN | apply below_drew1 | refine below_set ?_ (IsS111.ge HI0.out) | refine below_set ?_ GE112.out | refine below_set ?_ GE116.out | refine below_set ?_ GE123.out) | exact HB.out)) HL.out hb); have n7_ := Aside0.mk (KeepBut.trans (by repeat (first | (with_reducible first | exact HK.out | apply KeepBut.set_ | apply keep_drewN | apply keep_drew | apply keep_alloc | refine keep_far ?_ GW112.out _ | refine keep_far ?_ GW116.out _ | refine keep_far ?_ GW123.out _) | exact HK.out)) (KeepBut.of_grown hg g) (Kd.R_base2 HO_117001.out)); have n8_ := Aside0.mk (ho); clear HO_117002; clear HO_117003; clear BK112; clear BK116; clear BK123; clear HI0; clear HB; clear HK; clear HO_117001; have HO_117002 := n0_; have HO_117003 := n1_; have BK112 := n2_; have BK116 := n3_; have BK123 := n4_; have HI0 := n5_; have HB := n6_; have HK := n7_; have HO144 := n8_; clear n0_ n1_ n2_ n3_ n4_ n5_ n6_ n7_ n8_; clear ho hb hg hat; obtain ⟨Ao56, co56, eo56⟩ := Kd.R_slice HO144.out; subst eo56; have hcz57_0 : w55.cell? ⟨gb116, 0, none⟩ = some (.bool t113) := (blk_cell BK116.out 0).trans rfl; have hcz57_1 : w55.cell? ⟨gb116, 1, none⟩ = some (u117001) := (blk_cell BK116.out 1).trans rfl; have hcz57_2 : w55.cell? ⟨gb116, 2, none⟩ = some (u117002) := (blk_cell BK116.out 2).trans rfl; have hcz57_3 : w55.cell? ⟨gb116, 3, none⟩ = some (u117003) := (blk_cell BK116.out 3).trans rfl; have hfz57_0 := blk_frozen BK116.out 0; have hfz57_1 := blk_frozen BK116.out 1; have hfz57_2 := blk_frozen BK116.out 2; have hfz57_3 := blk_frozen BK116.out 3))
 go_roundg kj40
 case measure => have := HK1.out; have := HJ14.out; have := HJ31.out; have := HJ40.out; omega
 case rel => exact ⟨(wrap64 (x5_1 + 1)), (t140), (t141), (y142), (x117002_1), (x117003_1), (.slice Ao56 y142.length co56), (u117002), (u117003), s1_, H', ⟨by have := HK1.out; have := HJ14.out; have := HJ31.out; have := HJ40.out; omega⟩, ⟨by (with_reducible repeat (first | apply Kd.R_alloc | apply Kd.R_drewN | apply Kd.R_drew)); exact Kd.R_mono (Kd.R_far (p := ⟨gb116, 1, none⟩) (Kd.R_types HO144.out BK116.out (by decide)) (fun _ hk => hk.2) (.slice Ao56 y142.length co56)) (fun _ hk => trivial)⟩, ⟨by (with_reducible repeat (first | apply Kd.R_alloc | apply Kd.R_drewN | apply Kd.R_drew)); exact Kd.R_mono (Kd.R_far (p := ⟨gb116, 1, none⟩) (Kd.R_types HO_117002.out BK116.out (by decide)) (fun _ hk => hk.2) (.slice Ao56 y142.length co56)) (fun _ hk => trivial)⟩, ⟨by (with_reducible repeat (first | apply Kd.R_alloc | apply Kd.R_drewN | apply Kd.R_drew)); exact Kd.R_mono (Kd.R_far (p := ⟨gb116, 1, none⟩) (Kd.R_types HO_117003.out BK116.out (by decide)) (fun _ hk => hk.2) (.slice Ao56 y142.length co56)) (fun _ hk => trivial)⟩, ⟨by (with_reducible repeat (first | refine blk_drewN ?_ _ | refine blk_drew ?_ | refine blk_alloc ?_ _)); refine blk_far ?_ NB112_116.out _; (with_reducible repeat (first | refine blk_drewN ?_ _ | refine blk_drew ?_ | refine blk_alloc ?_ _)); exact BK112.out⟩, ⟨by (with_reducible repeat (first | refine blk_drewN ?_ _ | refine blk_drew ?_ | refine blk_alloc ?_ _)); refine blk_put (cs := #[.bool t113, u117001, u117002, u117003]) ?_ 1 _ rfl; (with_reducible repeat (first | refine blk_drewN ?_ _ | refine blk_drew ?_ | refine blk_alloc ?_ _)); exact BK116.out⟩, ⟨by repeat (first | (with_reducible first | exact HI0.out | apply IsS111.alloc | apply IsS111.drewN | apply IsS111.drew | apply IsS111.set_1 | apply IsS111.set_2 | refine IsS111.far ?_ NB0_112.out _ | refine IsS111.far ?_ NB0_116.out _ | refine IsS111.far ?_ NB0_123.out _) | exact HI0.out)⟩, ⟨by repeat (first | (with_reducible first | exact HK.out | apply KeepBut.set_ | apply keep_drewN | apply keep_drew | apply keep_alloc | refine keep_far ?_ GW112.out _ | refine keep_far ?_ GW116.out _ | refine keep_far ?_ GW123.out _) | exact HK.out)⟩, ⟨by repeat (first | (with_reducible first | exact HB.out | apply below_alloc | apply pw_below_drewN | apply below_drew1 | refine below_set ?_ (IsS111.ge HI0.out) | refine below_set ?_ GE112.out | refine below_set ?_ GE116.out | refine below_set ?_ GE123.out) | exact HB.out)⟩⟩}
 {
 rw [if_neg c47] at H
 exact absurd H (by simp)}}
 {
 replace c46 := Bool.eq_false_iff.mpr c46
 subst c46
 have H1 : (if t139 = 3 then (if x117002_1.length < 5864062014805 then (spec_l02DrawOk.l0 kj40 (wrap64 (1 + t117)) (wrap64 (x5_1 + 1)) s0_0 t140 t141 t113 x117001_1 (x117002_1 ++ [(⟨x5_1, (wrap64 (1 + t136)), t133⟩ : S71)]) x117003_1) else (none)) else ((spec_l00Src_one.f s0_0 t140 t141 2).bind fun bt148 => (if bt148.1 = true then (if x117003_1.length < 8796093022208 then (spec_l02DrawOk.l0 kj40 (wrap64 (1 + t117)) (wrap64 (x5_1 + 1)) s0_0 bt148.2.1 bt148.2.2 t113 x117001_1 x117002_1 (x117003_1 ++ [(⟨x5_1, t133⟩ : S73)])) else (none)) else (spec_l02DrawOk.l0 kj40 (wrap64 (1 + t117)) (wrap64 (x5_1 + 1)) s0_0 bt148.2.1 bt148.2.2 t113 x117001_1 x117002_1 x117003_1)))) = some (r1, r2, r3, r4, r5, r6) := by rw [if_neg (show ¬ (false = true) by decide)] at H; exact H
 clear H
 have H := H1
 clear H1
 by_cases c58 : t139 = 3
 {
 rw [if_pos c58] at H
 have c58b0 : (t139 == 3) = true := beq_iff_eq.mpr c58
 have c58b1 : (t139 != 3) = false := bne_eq_false_iff_eq.mpr c58
 clear c58
 by_cases c59 : x117002_1.length < 5864062014805
 {
 rw [if_pos c59] at H
 have LMc59 := Aside0.mk c59
 clear c59
 obtain ⟨y145, hy145⟩ : ∃ y_ : List (S71), y_ = (x117002_1 ++ [(⟨x5_1, (wrap64 (1 + t136)), t133⟩ : S71)]) := ⟨_, rfl⟩
 replace H : (spec_l02DrawOk.l0 kj40 (wrap64 (1 + t117)) (wrap64 (x5_1 + 1)) s0_0 t140 t141 t113 x117001_1 y145 x117003_1) = some (r1, r2, r3, r4, r5, r6) := by first | (rw [hy145]; with_reducible exact H) | (have H2_ := (Option.bind_some _ _).symm.trans H; rw [hy145]; with_reducible exact H2_) | (have H2_ := (Option.bind_some _ _).symm.trans H; with_reducible exact H2_) | with_reducible exact H | (rw [hy145]; exact H) | exact H
 have Ny145 := Aside0.mk hy145
 clear hy145
 have H' := Aside0.mk H
 clear H
 have hnb60 := NB116_112.out
 have hnc60 := NB112_116.out
 have hnb61 := NB116_123.out
 have hnc61 := NB123_116.out
 have hnb62 := NB116_0.out
 have hnc62 := NB0_116.out
 have hcz63_0 : wc.cell? ⟨gb116, 0, none⟩ = some (.bool t113) := (blk_cell BK116.out 0).trans rfl
 have hcz63_1 : wc.cell? ⟨gb116, 1, none⟩ = some (u117001) := (blk_cell BK116.out 1).trans rfl
 have hcz63_2 : wc.cell? ⟨gb116, 2, none⟩ = some (u117002) := (blk_cell BK116.out 2).trans rfl
 have hcz63_3 : wc.cell? ⟨gb116, 3, none⟩ = some (u117003) := (blk_cell BK116.out 3).trans rfl
 have hfz63_0 := blk_frozen BK116.out 0
 have hfz63_1 := blk_frozen BK116.out 1
 have hfz63_2 := blk_frozen BK116.out 2
 have hfz63_3 := blk_frozen BK116.out 3
 go_wp2_with (first | ((with_reducible refine gate_builtin (b := .append) (xs := #[.tmp 71, .tmp 76]) rfl ?_); at_builtin; refine Kd.R_append k71 w.heap.size rfl (.tmp 71) (.tmp 76) 25 71 (.agg #[(.int .i64 0), (.int .i64 0), (.int .i64 0)]) 24 rfl Try.underlying25 info71 rfl (by decide) (by omega) u117002 x117002_1 (⟨x5_1, (wrap64 (1 + t136)), t133⟩ : S71) [.int .i64 x5_1, .int .i64 (wrap64 (1 + t136)), .int .i64 t133] (fun _ => True) (fun _ => False) rfl rfl ?aP (fun _ hk => hk.elim) ?aF ?aO (Below.refl _ _) ?aS ?aL ?_; (case aP => exact k71_mkM _ _ _ (⟨x5_1, (wrap64 (1 + t136)), t133⟩ : S71)); (case aF => exact (fun _ _ => trivial)); (case aO => exact (b2_ HO_117002.out)); (case aS => exact (keep_size (w := w) (g := g) (row := none) (by repeat (first | (with_reducible first | exact HK.out | apply KeepBut.set_ | apply keep_drewN | apply keep_drew | apply keep_alloc | refine keep_far ?_ GW112.out _ | refine keep_far ?_ GW116.out _ | refine keep_far ?_ GW123.out _) | exact HK.out)))); (case aL => have := LMc59.out; omega); intro v146 w64 ho hb hg hat; rw [← Ny145.out] at ho; have n0_ := Aside0.mk (Kd.R_over' (b2_ HO_117001.out) (Kd.R_typed (b2_ HO_117002.out)) (by decide) hg); have n1_ := Aside0.mk (Kd.R_over' (b2_ HO_117003.out) (Kd.R_typed (b2_ HO_117002.out)) (by decide) hg); have n2_ := Aside0.mk (blk_grown (g := gb112) (o := .cells #[.bool false, .slice none 0 0, .slice none 0 0, .slice none 0 0] 28 (0, 0)) (b1_ BK112.out) hg (Kd.R_ne HO_117002.out BK112.out (by decide))); have n3_ := Aside0.mk (blk_grown (g := gb116) (o := .cells #[.bool t113, u117001, u117002, u117003] 28 (0, 0)) (b1_ BK116.out) hg (Kd.R_ne HO_117002.out BK116.out (by decide))); have n4_ := Aside0.mk (blk_grown (g := gb123) (o := .cells #[.int .i64 x5_1, .int .i64 x124001_31, .int .i64 t124, .int .i64 x124003_14] 36 (0, 0)) (b1_ BK123.out) hg (Kd.R_ne HO_117002.out BK123.out (by decide))); have n5_ := Aside0.mk (IsS111.grown (by repeat (first | (with_reducible first | exact HI0.out | apply IsS111.alloc | apply IsS111.drewN | apply IsS111.drew | apply IsS111.set_1 | apply IsS111.set_2 | refine IsS111.far ?_ NB0_112.out _ | refine IsS111.far ?_ NB0_116.out _ | refine IsS111.far ?_ NB0_123.out _) | exact HI0.out)) hg (IsS111.own_ne HI0.out HO_117002.out (by decide))); have n6_ := Aside0.mk (below_weaken (by repeat (first | (with_reducible first | exact HB.out | apply below_alloc | apply pw_below_drewN | apply below_drew1 | refine below_set ?_ (IsS111.ge HI0.out) | refine below_set ?_ GE112.out | refine below_set ?_ GE116.out | refine below_set ?_ GE123.out) | exact HB.out)) HL.out hb); have n7_ := Aside0.mk (KeepBut.trans (by repeat (first | (with_reducible first | exact HK.out | apply KeepBut.set_ | apply keep_drewN | apply keep_drew | apply keep_alloc | refine keep_far ?_ GW112.out _ | refine keep_far ?_ GW116.out _ | refine keep_far ?_ GW123.out _) | exact HK.out)) (KeepBut.of_grown hg g) (Kd.R_base2 HO_117002.out)); have n8_ := Aside0.mk (ho); clear HO_117001; clear HO_117003; clear BK112; clear BK116; clear BK123; clear HI0; clear HB; clear HK; clear HO_117002; have HO_117001 := n0_; have HO_117003 := n1_; have BK112 := n2_; have BK116 := n3_; have BK123 := n4_; have HI0 := n5_; have HB := n6_; have HK := n7_; have HO147 := n8_; clear n0_ n1_ n2_ n3_ n4_ n5_ n6_ n7_ n8_; clear ho hb hg hat; obtain ⟨Ao65, co65, eo65⟩ := Kd.R_slice HO147.out; subst eo65; have hcz66_0 : w64.cell? ⟨gb116, 0, none⟩ = some (.bool t113) := (blk_cell BK116.out 0).trans rfl; have hcz66_1 : w64.cell? ⟨gb116, 1, none⟩ = some (u117001) := (blk_cell BK116.out 1).trans rfl; have hcz66_2 : w64.cell? ⟨gb116, 2, none⟩ = some (u117002) := (blk_cell BK116.out 2).trans rfl; have hcz66_3 : w64.cell? ⟨gb116, 3, none⟩ = some (u117003) := (blk_cell BK116.out 3).trans rfl; have hfz66_0 := blk_frozen BK116.out 0; have hfz66_1 := blk_frozen BK116.out 1; have hfz66_2 := blk_frozen BK116.out 2; have hfz66_3 := blk_frozen BK116.out 3))
 go_roundg kj40
 case measure => have := HK1.out; have := HJ14.out; have := HJ31.out; have := HJ40.out; omega
 case rel => exact ⟨(wrap64 (x5_1 + 1)), (t140), (t141), (x117001_1), (y145), (x117003_1), (u117001), (.slice Ao65 y145.length co65), (u117003), s1_, H', ⟨by have := HK1.out; have := HJ14.out; have := HJ31.out; have := HJ40.out; omega⟩, ⟨by (with_reducible repeat (first | apply Kd.R_alloc | apply Kd.R_drewN | apply Kd.R_drew)); exact Kd.R_mono (Kd.R_far (p := ⟨gb116, 2, none⟩) (Kd.R_types HO_117001.out BK116.out (by decide)) (fun _ hk => hk.2) (.slice Ao65 y145.length co65)) (fun _ hk => trivial)⟩, ⟨by (with_reducible repeat (first | apply Kd.R_alloc | apply Kd.R_drewN | apply Kd.R_drew)); exact Kd.R_mono (Kd.R_far (p := ⟨gb116, 2, none⟩) (Kd.R_types HO147.out BK116.out (by decide)) (fun _ hk => hk.2) (.slice Ao65 y145.length co65)) (fun _ hk => trivial)⟩, ⟨by (with_reducible repeat (first | apply Kd.R_alloc | apply Kd.R_drewN | apply Kd.R_drew)); exact Kd.R_mono (Kd.R_far (p := ⟨gb116, 2, none⟩) (Kd.R_types HO_117003.out BK116.out (by decide)) (fun _ hk => hk.2) (.slice Ao65 y145.length co65)) (fun _ hk => trivial)⟩, ⟨by (with_reducible repeat (first | refine blk_drewN ?_ _ | refine blk_drew ?_ | refine blk_alloc ?_ _)); refine blk_far ?_ NB112_116.out _; (with_reducible repeat (first | refine blk_drewN ?_ _ | refine blk_drew ?_ | refine blk_alloc ?_ _)); exact BK112.out⟩, ⟨by (with_reducible repeat (first | refine blk_drewN ?_ _ | refine blk_drew ?_ | refine blk_alloc ?_ _)); refine blk_put (cs := #[.bool t113, u117001, u117002, u117003]) ?_ 2 _ rfl; (with_reducible repeat (first | refine blk_drewN ?_ _ | refine blk_drew ?_ | refine blk_alloc ?_ _)); exact BK116.out⟩, ⟨by repeat (first | (with_reducible first | exact HI0.out | apply IsS111.alloc | apply IsS111.drewN | apply IsS111.drew | apply IsS111.set_1 | apply IsS111.set_2 | refine IsS111.far ?_ NB0_112.out _ | refine IsS111.far ?_ NB0_116.out _ | refine IsS111.far ?_ NB0_123.out _) | exact HI0.out)⟩, ⟨by repeat (first | (with_reducible first | exact HK.out | apply KeepBut.set_ | apply keep_drewN | apply keep_drew | apply keep_alloc | refine keep_far ?_ GW112.out _ | refine keep_far ?_ GW116.out _ | refine keep_far ?_ GW123.out _) | exact HK.out)⟩, ⟨by repeat (first | (with_reducible first | exact HB.out | apply below_alloc | apply pw_below_drewN | apply below_drew1 | refine below_set ?_ (IsS111.ge HI0.out) | refine below_set ?_ GE112.out | refine below_set ?_ GE116.out | refine below_set ?_ GE123.out) | exact HB.out)⟩⟩}
 {
 rw [if_neg c59] at H
 exact absurd H (by simp)}}
 {
 rw [if_neg c58] at H
 have c58b0 : (t139 == 3) = false := beq_eq_false_iff_ne.mpr c58
 have c58b1 : (t139 != 3) = true := bne_iff_ne.mpr c58
 replace H := Option.bind_eq_some_iff.mp H
 obtain ⟨⟨t148, t149, t150⟩, A670, H⟩ := H
 replace H : (if t148 = true then (if x117003_1.length < 8796093022208 then (spec_l02DrawOk.l0 kj40 (wrap64 (1 + t117)) (wrap64 (x5_1 + 1)) s0_0 t149 t150 t113 x117001_1 x117002_1 (x117003_1 ++ [(⟨x5_1, t133⟩ : S73)])) else (none)) else (spec_l02DrawOk.l0 kj40 (wrap64 (1 + t117)) (wrap64 (x5_1 + 1)) s0_0 t149 t150 t113 x117001_1 x117002_1 x117003_1)) = some (r1, r2, r3, r4, r5, r6) := H
 have A67 := Aside0.mk A670
 clear A670
 by_cases c68 : t148 = true
 {
 subst c68
 have H1 : (if x117003_1.length < 8796093022208 then (spec_l02DrawOk.l0 kj40 (wrap64 (1 + t117)) (wrap64 (x5_1 + 1)) s0_0 t149 t150 t113 x117001_1 x117002_1 (x117003_1 ++ [(⟨x5_1, t133⟩ : S73)])) else (none)) = some (r1, r2, r3, r4, r5, r6) := by rw [if_pos rfl] at H; exact H
 clear H
 have H := H1
 clear H1
 by_cases c69 : x117003_1.length < 8796093022208
 {
 rw [if_pos c69] at H
 have LMc69 := Aside0.mk c69
 clear c69
 obtain ⟨y151, hy151⟩ : ∃ y_ : List (S73), y_ = (x117003_1 ++ [(⟨x5_1, t133⟩ : S73)]) := ⟨_, rfl⟩
 replace H : (spec_l02DrawOk.l0 kj40 (wrap64 (1 + t117)) (wrap64 (x5_1 + 1)) s0_0 t149 t150 t113 x117001_1 x117002_1 y151) = some (r1, r2, r3, r4, r5, r6) := by first | (rw [hy151]; with_reducible exact H) | (have H2_ := (Option.bind_some _ _).symm.trans H; rw [hy151]; with_reducible exact H2_) | (have H2_ := (Option.bind_some _ _).symm.trans H; with_reducible exact H2_) | with_reducible exact H | (rw [hy151]; exact H) | exact H
 have Ny151 := Aside0.mk hy151
 clear hy151
 have H' := Aside0.mk H
 clear H
 go_wp2_with (first | ((with_reducible refine gate_callee (f := 71) rfl ?_); refine goesL_ (some 44) rfl rfl Try.func71 s2_ rfl #[.pointer (some ⟨g, 0, none⟩), .int .i64 2] rfl s3_ ?_; (with_reducible refine (spec_l00Src_one.calls g s0_0 t140 t141 2 true t149 t150 w0 _ ?side1 ?side2 A67.out).mono ?_); (case side1 => repeat (first | (with_reducible first | exact HI0.out | apply IsS111.alloc | apply IsS111.drewN | apply IsS111.drew | apply IsS111.set_1 | apply IsS111.set_2 | refine IsS111.far ?_ NB0_112.out _ | refine IsS111.far ?_ NB0_116.out _ | refine IsS111.far ?_ NB0_123.out _) | exact HI0.out)); (case side2 => repeat (first | (with_reducible first | exact HB.out | apply below_alloc | apply pw_below_drewN | apply below_drew1 | refine below_set ?_ (IsS111.ge HI0.out) | refine below_set ?_ GE112.out | refine below_set ?_ GE116.out | refine below_set ?_ GE123.out) | exact HB.out)); rintro e w70 ⟨rfl, hi, hb, hk⟩; refine ⟨_, rfl, ?_⟩; have n0_ := Aside0.mk (Kd.R_mono (Kd.R_keep (IsS111.apart (show IsS111 w0 _ g s0_0 t140 t141 from by repeat (first | (with_reducible first | exact HI0.out | apply IsS111.alloc | apply IsS111.drewN | apply IsS111.drew | apply IsS111.set_1 | apply IsS111.set_2 | refine IsS111.far ?_ NB0_112.out _ | refine IsS111.far ?_ NB0_116.out _ | refine IsS111.far ?_ NB0_123.out _) | exact HI0.out)) (b2_ HO_117001.out) (by decide)) hk (fun _ h => h.2)) (fun _ h => h.1)); have n1_ := Aside0.mk (Kd.R_mono (Kd.R_keep (IsS111.apart (show IsS111 w0 _ g s0_0 t140 t141 from by repeat (first | (with_reducible first | exact HI0.out | apply IsS111.alloc | apply IsS111.drewN | apply IsS111.drew | apply IsS111.set_1 | apply IsS111.set_2 | refine IsS111.far ?_ NB0_112.out _ | refine IsS111.far ?_ NB0_116.out _ | refine IsS111.far ?_ NB0_123.out _) | exact HI0.out)) (b2_ HO_117002.out) (by decide)) hk (fun _ h => h.2)) (fun _ h => h.1)); have n2_ := Aside0.mk (Kd.R_mono (Kd.R_keep (IsS111.apart (show IsS111 w0 _ g s0_0 t140 t141 from by repeat (first | (with_reducible first | exact HI0.out | apply IsS111.alloc | apply IsS111.drewN | apply IsS111.drew | apply IsS111.set_1 | apply IsS111.set_2 | refine IsS111.far ?_ NB0_112.out _ | refine IsS111.far ?_ NB0_116.out _ | refine IsS111.far ?_ NB0_123.out _) | exact HI0.out)) (b2_ HO_117003.out) (by decide)) hk (fun _ h => h.2)) (fun _ h => h.1)); have n3_ := Aside0.mk (KeepBut.blk hk (g' := gb112) (o := .cells #[.bool false, .slice none 0 0, .slice none 0 0, .slice none 0 0] 28 (0, 0)) (b1_ BK112.out) NB112_0.out (by simp)); have n4_ := Aside0.mk (KeepBut.blk hk (g' := gb116) (o := .cells #[.bool t113, u117001, u117002, u117003] 28 (0, 0)) (b1_ BK116.out) NB116_0.out (by simp)); have n5_ := Aside0.mk (KeepBut.blk hk (g' := gb123) (o := .cells #[.int .i64 x5_1, .int .i64 x124001_31, .int .i64 t124, .int .i64 x124003_14] 36 (0, 0)) (b1_ BK123.out) NB123_0.out (by simp)); have n6_ := Aside0.mk (KeepBut.trans (by repeat (first | (with_reducible first | exact HK.out | apply KeepBut.set_ | apply keep_drewN | apply keep_drew | apply keep_alloc | refine keep_far ?_ GW112.out _ | refine keep_far ?_ GW116.out _ | refine keep_far ?_ GW123.out _) | exact HK.out)) hk (.inl rfl)); have n7_ := Aside0.mk (hb); have n8_ := Aside0.mk (hi); clear HO_117001; clear HO_117002; clear HO_117003; clear BK112; clear BK116; clear BK123; clear HK; clear HB; clear HI0; have HO_117001 := n0_; have HO_117002 := n1_; have HO_117003 := n2_; have BK112 := n3_; have BK116 := n4_; have BK123 := n5_; have HK := n6_; have HB := n7_; have HI0 := n8_; clear n0_ n1_ n2_ n3_ n4_ n5_ n6_ n7_ n8_; (try clear hb); (try clear hb2); (try clear hk); (try clear hi); have hnb71 := NB116_112.out; have hnc71 := NB112_116.out; have hnb72 := NB116_123.out; have hnc72 := NB123_116.out; have hnb73 := NB116_0.out; have hnc73 := NB0_116.out; have hcz74_0 : w70.cell? ⟨gb116, 0, none⟩ = some (.bool t113) := (blk_cell BK116.out 0).trans rfl; have hcz74_1 : w70.cell? ⟨gb116, 1, none⟩ = some (u117001) := (blk_cell BK116.out 1).trans rfl; have hcz74_2 : w70.cell? ⟨gb116, 2, none⟩ = some (u117002) := (blk_cell BK116.out 2).trans rfl; have hcz74_3 : w70.cell? ⟨gb116, 3, none⟩ = some (u117003) := (blk_cell BK116.out 3).trans rfl; have hfz74_0 := blk_frozen BK116.out 0; have hfz74_1 := blk_frozen BK116.out 1; have hfz74_2 := blk_frozen BK116.out 2; have hfz74_3 := blk_frozen BK116.out 3) | ((with_reducible refine gate_builtin (b := .append) (xs := #[.tmp 46, .tmp 50]) rfl ?_); at_builtin; refine Kd.R_append k73 w.heap.size rfl (.tmp 46) (.tmp 50) 26 73 (.agg #[(.int .i64 0), (.int .i64 0)]) 16 rfl Try.underlying26 info73 rfl (by decide) (by omega) u117003 x117003_1 (⟨x5_1, t133⟩ : S73) [.int .i64 x5_1, .int .i64 t133] (fun _ => True) (fun _ => False) rfl rfl ?aP (fun _ hk => hk.elim) ?aF ?aO (Below.refl _ _) ?aS ?aL ?_; (case aP => exact k73_mkM _ _ _ (⟨x5_1, t133⟩ : S73)); (case aF => exact (fun _ _ => trivial)); (case aO => exact (b2_ HO_117003.out)); (case aS => exact (keep_size (w := w) (g := g) (row := none) (by repeat (first | (with_reducible first | exact HK.out | apply KeepBut.set_ | apply keep_drewN | apply keep_drew | apply keep_alloc | refine keep_far ?_ GW112.out _ | refine keep_far ?_ GW116.out _ | refine keep_far ?_ GW123.out _) | exact HK.out)))); (case aL => have := LMc69.out; omega); intro v152 w75 ho hb hg hat; rw [← Ny151.out] at ho; have n0_ := Aside0.mk (Kd.R_over' (b2_ HO_117001.out) (Kd.R_typed (b2_ HO_117003.out)) (by decide) hg); have n1_ := Aside0.mk (Kd.R_over' (b2_ HO_117002.out) (Kd.R_typed (b2_ HO_117003.out)) (by decide) hg); have n2_ := Aside0.mk (blk_grown (g := gb112) (o := .cells #[.bool false, .slice none 0 0, .slice none 0 0, .slice none 0 0] 28 (0, 0)) (b1_ BK112.out) hg (Kd.R_ne HO_117003.out BK112.out (by decide))); have n3_ := Aside0.mk (blk_grown (g := gb116) (o := .cells #[.bool t113, u117001, u117002, u117003] 28 (0, 0)) (b1_ BK116.out) hg (Kd.R_ne HO_117003.out BK116.out (by decide))); have n4_ := Aside0.mk (blk_grown (g := gb123) (o := .cells #[.int .i64 x5_1, .int .i64 x124001_31, .int .i64 t124, .int .i64 x124003_14] 36 (0, 0)) (b1_ BK123.out) hg (Kd.R_ne HO_117003.out BK123.out (by decide))); have n5_ := Aside0.mk (IsS111.grown (by repeat (first | (with_reducible first | exact HI0.out | apply IsS111.alloc | apply IsS111.drewN | apply IsS111.drew | apply IsS111.set_1 | apply IsS111.set_2 | refine IsS111.far ?_ NB0_112.out _ | refine IsS111.far ?_ NB0_116.out _ | refine IsS111.far ?_ NB0_123.out _) | exact HI0.out)) hg (IsS111.own_ne HI0.out HO_117003.out (by decide))); have n6_ := Aside0.mk (below_weaken (by repeat (first | (with_reducible first | exact HB.out | apply below_alloc | apply pw_below_drewN | apply below_drew1 | refine below_set ?_ (IsS111.ge HI0.out) | refine below_set ?_ GE112.out | refine below_set ?_ GE116.out | refine below_set ?_ GE123.out) | exact HB.out)) HL.out hb); have n7_ := Aside0.mk (KeepBut.trans (by repeat (first | (with_reducible first | exact HK.out | apply KeepBut.set_ | apply keep_drewN | apply keep_drew | apply keep_alloc | refine keep_far ?_ GW112.out _ | refine keep_far ?_ GW116.out _ | refine keep_far ?_ GW123.out _) | exact HK.out)) (KeepBut.of_grown hg g) (Kd.R_base2 HO_117003.out)); have n8_ := Aside0.mk (ho); clear HO_117001; clear HO_117002; clear BK112; clear BK116; clear BK123; clear HI0; clear HB; clear HK; clear HO_117003; have HO_117001 := n0_; have HO_117002 := n1_; have BK112 := n2_; have BK116 := n3_; have BK123 := n4_; have HI0 := n5_; have HB := n6_; have HK := n7_; have HO153 := n8_; clear n0_ n1_ n2_ n3_ n4_ n5_ n6_ n7_ n8_; clear ho hb hg hat; obtain ⟨Ao76, co76, eo76⟩ := Kd.R_slice HO153.out; subst eo76; have hcz77_0 : w75.cell? ⟨gb116, 0, none⟩ = some (.bool t113) := (blk_cell BK116.out 0).trans rfl; have hcz77_1 : w75.cell? ⟨gb116, 1, none⟩ = some (u117001) := (blk_cell BK116.out 1).trans rfl; have hcz77_2 : w75.cell? ⟨gb116, 2, none⟩ = some (u117002) := (blk_cell BK116.out 2).trans rfl; have hcz77_3 : w75.cell? ⟨gb116, 3, none⟩ = some (u117003) := (blk_cell BK116.out 3).trans rfl; have hfz77_0 := blk_frozen BK116.out 0; have hfz77_1 := blk_frozen BK116.out 1; have hfz77_2 := blk_frozen BK116.out 2; have hfz77_3 := blk_frozen BK116.out 3))
 go_roundg kj40
 case measure => have := HK1.out; have := HJ14.out; have := HJ31.out; have := HJ40.out; omega
 case rel => exact ⟨(wrap64 (x5_1 + 1)), (t149), (t150), (x117001_1), (x117002_1), (y151), (u117001), (u117002), (.slice Ao76 y151.length co76), s1_, H', ⟨by have := HK1.out; have := HJ14.out; have := HJ31.out; have := HJ40.out; omega⟩, ⟨by (with_reducible repeat (first | apply Kd.R_alloc | apply Kd.R_drewN | apply Kd.R_drew)); exact Kd.R_mono (Kd.R_far (p := ⟨gb116, 3, none⟩) (Kd.R_types HO_117001.out BK116.out (by decide)) (fun _ hk => hk.2) (.slice Ao76 y151.length co76)) (fun _ hk => trivial)⟩, ⟨by (with_reducible repeat (first | apply Kd.R_alloc | apply Kd.R_drewN | apply Kd.R_drew)); exact Kd.R_mono (Kd.R_far (p := ⟨gb116, 3, none⟩) (Kd.R_types HO_117002.out BK116.out (by decide)) (fun _ hk => hk.2) (.slice Ao76 y151.length co76)) (fun _ hk => trivial)⟩, ⟨by (with_reducible repeat (first | apply Kd.R_alloc | apply Kd.R_drewN | apply Kd.R_drew)); exact Kd.R_mono (Kd.R_far (p := ⟨gb116, 3, none⟩) (Kd.R_types HO153.out BK116.out (by decide)) (fun _ hk => hk.2) (.slice Ao76 y151.length co76)) (fun _ hk => trivial)⟩, ⟨by (with_reducible repeat (first | refine blk_drewN ?_ _ | refine blk_drew ?_ | refine blk_alloc ?_ _)); refine blk_far ?_ NB112_116.out _; (with_reducible repeat (first | refine blk_drewN ?_ _ | refine blk_drew ?_ | refine blk_alloc ?_ _)); exact BK112.out⟩, ⟨by (with_reducible repeat (first | refine blk_drewN ?_ _ | refine blk_drew ?_ | refine blk_alloc ?_ _)); refine blk_put (cs := #[.bool t113, u117001, u117002, u117003]) ?_ 3 _ rfl; (with_reducible repeat (first | refine blk_drewN ?_ _ | refine blk_drew ?_ | refine blk_alloc ?_ _)); exact BK116.out⟩, ⟨by repeat (first | (with_reducible first | exact HI0.out | apply IsS111.alloc | apply IsS111.drewN | apply IsS111.drew | apply IsS111.set_1 | apply IsS111.set_2 | refine IsS111.far ?_ NB0_112.out _ | refine IsS111.far ?_ NB0_116.out _ | refine IsS111.far ?_ NB0_123.out _) | exact HI0.out)⟩, ⟨by repeat (first | (with_reducible first | exact HK.out | apply KeepBut.set_ | apply keep_drewN | apply keep_drew | apply keep_alloc | refine keep_far ?_ GW112.out _ | refine keep_far ?_ GW116.out _ | refine keep_far ?_ GW123.out _) | exact HK.out)⟩, ⟨by repeat (first | (with_reducible first | exact HB.out | apply below_alloc | apply pw_below_drewN | apply below_drew1 | refine below_set ?_ (IsS111.ge HI0.out) | refine below_set ?_ GE112.out | refine below_set ?_ GE116.out | refine below_set ?_ GE123.out) | exact HB.out)⟩⟩}
 {
 rw [if_neg c69] at H
 exact absurd H (by simp)}}
 {
 replace c68 := Bool.eq_false_iff.mpr c68
 subst c68
 have H1 : (spec_l02DrawOk.l0 kj40 (wrap64 (1 + t117)) (wrap64 (x5_1 + 1)) s0_0 t149 t150 t113 x117001_1 x117002_1 x117003_1) = some (r1, r2, r3, r4, r5, r6) := by rw [if_neg (show ¬ (false = true) by decide)] at H; exact H
 clear H
 have H := H1
 clear H1
 have H' := Aside0.mk H
 clear H
 go_wp2_with (first | ((with_reducible refine gate_callee (f := 71) rfl ?_); refine goesL_ (some 44) rfl rfl Try.func71 s2_ rfl #[.pointer (some ⟨g, 0, none⟩), .int .i64 2] rfl s3_ ?_; (with_reducible refine (spec_l00Src_one.calls g s0_0 t140 t141 2 false t149 t150 w0 _ ?side1 ?side2 A67.out).mono ?_); (case side1 => repeat (first | (with_reducible first | exact HI0.out | apply IsS111.alloc | apply IsS111.drewN | apply IsS111.drew | apply IsS111.set_1 | apply IsS111.set_2 | refine IsS111.far ?_ NB0_112.out _ | refine IsS111.far ?_ NB0_116.out _ | refine IsS111.far ?_ NB0_123.out _) | exact HI0.out)); (case side2 => repeat (first | (with_reducible first | exact HB.out | apply below_alloc | apply pw_below_drewN | apply below_drew1 | refine below_set ?_ (IsS111.ge HI0.out) | refine below_set ?_ GE112.out | refine below_set ?_ GE116.out | refine below_set ?_ GE123.out) | exact HB.out)); rintro e w78 ⟨rfl, hi, hb, hk⟩; refine ⟨_, rfl, ?_⟩; have n0_ := Aside0.mk (Kd.R_mono (Kd.R_keep (IsS111.apart (show IsS111 w0 _ g s0_0 t140 t141 from by repeat (first | (with_reducible first | exact HI0.out | apply IsS111.alloc | apply IsS111.drewN | apply IsS111.drew | apply IsS111.set_1 | apply IsS111.set_2 | refine IsS111.far ?_ NB0_112.out _ | refine IsS111.far ?_ NB0_116.out _ | refine IsS111.far ?_ NB0_123.out _) | exact HI0.out)) (b2_ HO_117001.out) (by decide)) hk (fun _ h => h.2)) (fun _ h => h.1)); have n1_ := Aside0.mk (Kd.R_mono (Kd.R_keep (IsS111.apart (show IsS111 w0 _ g s0_0 t140 t141 from by repeat (first | (with_reducible first | exact HI0.out | apply IsS111.alloc | apply IsS111.drewN | apply IsS111.drew | apply IsS111.set_1 | apply IsS111.set_2 | refine IsS111.far ?_ NB0_112.out _ | refine IsS111.far ?_ NB0_116.out _ | refine IsS111.far ?_ NB0_123.out _) | exact HI0.out)) (b2_ HO_117002.out) (by decide)) hk (fun _ h => h.2)) (fun _ h => h.1)); have n2_ := Aside0.mk (Kd.R_mono (Kd.R_keep (IsS111.apart (show IsS111 w0 _ g s0_0 t140 t141 from by repeat (first | (with_reducible first | exact HI0.out | apply IsS111.alloc | apply IsS111.drewN | apply IsS111.drew | apply IsS111.set_1 | apply IsS111.set_2 | refine IsS111.far ?_ NB0_112.out _ | refine IsS111.far ?_ NB0_116.out _ | refine IsS111.far ?_ NB0_123.out _) | exact HI0.out)) (b2_ HO_117003.out) (by decide)) hk (fun _ h => h.2)) (fun _ h => h.1)); have n3_ := Aside0.mk (KeepBut.blk hk (g' := gb112) (o := .cells #[.bool false, .slice none 0 0, .slice none 0 0, .slice none 0 0] 28 (0, 0)) (b1_ BK112.out) NB112_0.out (by simp)); have n4_ := Aside0.mk (KeepBut.blk hk (g' := gb116) (o := .cells #[.bool t113, u117001, u117002, u117003] 28 (0, 0)) (b1_ BK116.out) NB116_0.out (by simp)); have n5_ := Aside0.mk (KeepBut.blk hk (g' := gb123) (o := .cells #[.int .i64 x5_1, .int .i64 x124001_31, .int .i64 t124, .int .i64 x124003_14] 36 (0, 0)) (b1_ BK123.out) NB123_0.out (by simp)); have n6_ := Aside0.mk (KeepBut.trans (by repeat (first | (with_reducible first | exact HK.out | apply KeepBut.set_ | apply keep_drewN | apply keep_drew | apply keep_alloc | refine keep_far ?_ GW112.out _ | refine keep_far ?_ GW116.out _ | refine keep_far ?_ GW123.out _) | exact HK.out)) hk (.inl rfl)); have n7_ := Aside0.mk (hb); have n8_ := Aside0.mk (hi); clear HO_117001; clear HO_117002; clear HO_117003; clear BK112; clear BK116; clear BK123; clear HK; clear HB; clear HI0; have HO_117001 := n0_; have HO_117002 := n1_; have HO_117003 := n2_; have BK112 := n3_; have BK116 := n4_; have BK123 := n5_; have HK := n6_; have HB := n7_; have HI0 := n8_; clear n0_ n1_ n2_ n3_ n4_ n5_ n6_ n7_ n8_; (try clear hb); (try clear hb2); (try clear hk); (try clear hi)))
 go_roundg kj40
 case measure => have := HK1.out; have := HJ14.out; have := HJ31.out; have := HJ40.out; omega
 case rel => exact ⟨(wrap64 (x5_1 + 1)), (t149), (t150), (x117001_1), (x117002_1), (x117003_1), (u117001), (u117002), (u117003), s1_, H', ⟨by have := HK1.out; have := HJ14.out; have := HJ31.out; have := HJ40.out; omega⟩, ⟨by (with_reducible repeat (first | apply Kd.R_alloc | apply Kd.R_drewN | apply Kd.R_drew)); exact Kd.R_mono HO_117001.out (fun _ hk => trivial)⟩, ⟨b2_ HO_117002.out⟩, ⟨b2_ HO_117003.out⟩, ⟨b1_ BK112.out⟩, ⟨b1_ BK116.out⟩, ⟨by repeat (first | (with_reducible first | exact HI0.out | apply IsS111.alloc | apply IsS111.drewN | apply IsS111.drew | apply IsS111.set_1 | apply IsS111.set_2 | refine IsS111.far ?_ NB0_112.out _ | refine IsS111.far ?_ NB0_116.out _ | refine IsS111.far ?_ NB0_123.out _) | exact HI0.out)⟩, ⟨by repeat (first | (with_reducible first | exact HK.out | apply KeepBut.set_ | apply keep_drewN | apply keep_drew | apply keep_alloc | refine keep_far ?_ GW112.out _ | refine keep_far ?_ GW116.out _ | refine keep_far ?_ GW123.out _) | exact HK.out)⟩, ⟨by repeat (first | (with_reducible first | exact HB.out | apply below_alloc | apply pw_below_drewN | apply below_drew1 | refine below_set ?_ (IsS111.ge HI0.out) | refine below_set ?_ GE112.out | refine below_set ?_ GE116.out | refine below_set ?_ GE123.out) | exact HB.out)⟩⟩}}}}}}}}}}
 {
 rw [if_neg c11] at H
 have c11b0 : decide (x5_1 ≤ 6) = false := decide_eq_false c11
 clear c11
 simp only [Option.some.injEq, Prod.mk.injEq] at H
 obtain ⟨rfl, rfl, rfl, rfl, rfl, rfl⟩ := H
 have hnb79 := NB116_112.out
 have hnc79 := NB112_116.out
 have hnb80 := NB116_0.out
 have hnc80 := NB0_116.out
 have hcz81_0 : wr.cell? ⟨gb116, 0, none⟩ = some (.bool t113) := (blk_cell BK116.out 0).trans rfl
 have hcz81_1 : wr.cell? ⟨gb116, 1, none⟩ = some (u117001) := (blk_cell BK116.out 1).trans rfl
 have hcz81_2 : wr.cell? ⟨gb116, 2, none⟩ = some (u117002) := (blk_cell BK116.out 2).trans rfl
 have hcz81_3 : wr.cell? ⟨gb116, 3, none⟩ = some (u117003) := (blk_cell BK116.out 3).trans rfl
 have hfz81_0 := blk_frozen BK116.out 0
 have hfz81_1 := blk_frozen BK116.out 1
 have hfz81_2 := blk_frozen BK116.out 2
 have hfz81_3 := blk_frozen BK116.out 3
 have hnb82 := NB112_0.out
 have hnc82 := NB0_112.out
 have hcz83_0 : wr.cell? ⟨gb112, 0, none⟩ = some (.bool false) := (blk_cell BK112.out 0).trans rfl
 have hcz83_1 : wr.cell? ⟨gb112, 1, none⟩ = some (.slice none 0 0) := (blk_cell BK112.out 1).trans rfl
 have hcz83_2 : wr.cell? ⟨gb112, 2, none⟩ = some (.slice none 0 0) := (blk_cell BK112.out 2).trans rfl
 have hcz83_3 : wr.cell? ⟨gb112, 3, none⟩ = some (.slice none 0 0) := (blk_cell BK112.out 3).trans rfl
 have hfz83_0 := blk_frozen BK112.out 0
 have hfz83_1 := blk_frozen BK112.out 1
 have hfz83_2 := blk_frozen BK112.out 2
 have hfz83_3 := blk_frozen BK112.out 3
 obtain ⟨Ao84, co84, eo84⟩ := Kd.R_slice HO_117001.out
 subst eo84
 obtain ⟨Ao85, co85, eo85⟩ := Kd.R_slice HO_117002.out
 subst eo85
 obtain ⟨Ao86, co86, eo86⟩ := Kd.R_slice HO_117003.out
 subst eo86
 go_wp2
 refine bodyPost_ret (results_cell_row rfl _ _ gb112 28 #[.bool t113, .slice Ao84 x117001_1.length co84, .slice Ao85 x117002_1.length co85, .slice Ao86 x117003_1.length co86] (0, 0) _ rfl (by (with_reducible repeat (first | refine blk_drewN ?_ _ | refine blk_drew ?_ | refine blk_alloc ?_ _)); refine blk_put (cs := #[.bool t113, .slice Ao84 x117001_1.length co84, .slice Ao85 x117002_1.length co85, .slice none 0 0]) ?_ 3 _ rfl; (with_reducible repeat (first | refine blk_drewN ?_ _ | refine blk_drew ?_ | refine blk_alloc ?_ _)); refine blk_put (cs := #[.bool t113, .slice Ao84 x117001_1.length co84, .slice none 0 0, .slice none 0 0]) ?_ 2 _ rfl; (with_reducible repeat (first | refine blk_drewN ?_ _ | refine blk_drew ?_ | refine blk_alloc ?_ _)); refine blk_put (cs := #[.bool t113, .slice none 0 0, .slice none 0 0, .slice none 0 0]) ?_ 1 _ rfl; (with_reducible repeat (first | refine blk_drewN ?_ _ | refine blk_drew ?_ | refine blk_alloc ?_ _)); refine blk_put (cs := #[.bool false, .slice none 0 0, .slice none 0 0, .slice none 0 0]) ?_ 0 _ rfl; (with_reducible repeat (first | refine blk_drewN ?_ _ | refine blk_drew ?_ | refine blk_alloc ?_ _)); exact BK112.out) Try.underlying28 rfl s2_) rfl ?_
 exact ⟨_, _, _, by first | rfl | (simp [errW_none, errW_some] <;> rfl) | (simp [*, errW_none, errW_some] <;> rfl), by (with_reducible repeat (first | apply Kd.R_alloc | apply Kd.R_drewN | apply Kd.R_drew)); exact Kd.R_mono (Kd.R_far (p := ⟨gb112, 3, none⟩) (Kd.R_far (p := ⟨gb112, 2, none⟩) (Kd.R_far (p := ⟨gb112, 1, none⟩) (Kd.R_far (p := ⟨gb112, 0, none⟩) (Kd.R_types HO_117001.out BK112.out (by decide)) (fun _ hk => hk.2) (.bool t113)) (fun _ hk => hk.2) (.slice Ao84 x117001_1.length co84)) (fun _ hk => hk.2) (.slice Ao85 x117002_1.length co85)) (fun _ hk => hk.2) (.slice Ao86 x117003_1.length co86)) (fun _ hk => trivial), by (with_reducible repeat (first | apply Kd.R_alloc | apply Kd.R_drewN | apply Kd.R_drew)); exact Kd.R_mono (Kd.R_far (p := ⟨gb112, 3, none⟩) (Kd.R_far (p := ⟨gb112, 2, none⟩) (Kd.R_far (p := ⟨gb112, 1, none⟩) (Kd.R_far (p := ⟨gb112, 0, none⟩) (Kd.R_types HO_117002.out BK112.out (by decide)) (fun _ hk => hk.2) (.bool t113)) (fun _ hk => hk.2) (.slice Ao84 x117001_1.length co84)) (fun _ hk => hk.2) (.slice Ao85 x117002_1.length co85)) (fun _ hk => hk.2) (.slice Ao86 x117003_1.length co86)) (fun _ hk => trivial), by (with_reducible repeat (first | apply Kd.R_alloc | apply Kd.R_drewN | apply Kd.R_drew)); exact Kd.R_mono (Kd.R_far (p := ⟨gb112, 3, none⟩) (Kd.R_far (p := ⟨gb112, 2, none⟩) (Kd.R_far (p := ⟨gb112, 1, none⟩) (Kd.R_far (p := ⟨gb112, 0, none⟩) (Kd.R_types HO_117003.out BK112.out (by decide)) (fun _ hk => hk.2) (.bool t113)) (fun _ hk => hk.2) (.slice Ao84 x117001_1.length co84)) (fun _ hk => hk.2) (.slice Ao85 x117002_1.length co85)) (fun _ hk => hk.2) (.slice Ao86 x117003_1.length co86)) (fun _ hk => trivial), by repeat (first | (with_reducible first | exact HI0.out | apply IsS111.alloc | apply IsS111.drewN | apply IsS111.drew | apply IsS111.set_1 | apply IsS111.set_2 | refine IsS111.far ?_ NB0_112.out _ | refine IsS111.far ?_ NB0_116.out _) | exact HI0.out), by repeat (first | (with_reducible first | exact HB.out | apply below_alloc | apply pw_below_drewN | apply below_drew1 | refine below_set ?_ (IsS111.ge HI0.out) | refine below_set ?_ GE112.out | refine below_set ?_ GE116.out) | exact HB.out), by repeat (first | (with_reducible first | exact HK.out | apply KeepBut.set_ | apply keep_drewN | apply keep_drew | apply keep_alloc | refine keep_far ?_ GW112.out _ | refine keep_far ?_ GW116.out _) | exact HK.out)⟩}}}

/-! ### spec_R8Room: function 9 -/
def spec_R8Room.f (k : Nat) (l0 : List Int) : Option (Bool × (List (S36)) × (List (S71)) × (List (S73))) := (spec_l00From.f l0).bind fun bt155 => ((spec_l02DrawOk.f k bt155.1 bt155.2.1 bt155.2.2).bind fun bt159 => (some (bt159.1, bt159.2.1, bt159.2.2.1, bt159.2.2.2.1)))
theorem spec_R8Room.mono : ∀ a0 k, LeO (spec_R8Room.f k a0) (spec_R8Room.f (k + 1) a0) := by
  intro a0 k
  unfold spec_R8Room.f
  repeat' first
      | (with_reducible exact spec_l02DrawOk.mono _ _ _ _)
      | (with_reducible exact LeO.refl _)
      | (with_reducible exact LeO.none _)
      | (with_reducible refine LeO.ite ?_ ?_)
      | (with_reducible refine LeO.bind ?_ (fun _ => ?_))
      | exact spec_l02DrawOk.mono _ _ _ _
      | exact LeO.none _
      | refine LeO.ite ?_ ?_
      | refine LeO.bind ?_ (fun _ => ?_)
set_option maxHeartbeats 8000000 in
set_option maxRecDepth 100000 in
theorem spec_R8Room.calls (k : Nat) (A0 : Option Addr) (c0 : Nat) (l0 : List Int) (r1 : Bool) (r2 : List (S36)) (r3 : List (S71)) (r4 : List (S73)) (w : World) (hr0 : Kd.C (Kd.int .u8) w A0 l0.length l0) (hc0 : l0.length ≤ c0) (h : spec_R8Room.f k l0 = some (r1, r2, r3, r4)) :
    Calls Try.prog 9 #[.slice A0 l0.length c0] w fun e w' => ∃ v1_ v2_ v3_ : Value, e = .returned (.agg #[.bool r1, v1_, v2_, v3_]) ∧ Kd.R k36 36 w' w.heap.size (fun _ => True) v1_ r2 ∧ Kd.R k71 71 w' w.heap.size (fun _ => True) v2_ r3 ∧ Kd.R k73 73 w' w.heap.size (fun _ => True) v3_ r4 ∧ Below w.heap.size w w' := by
  have hu28 := Try.underlying28
  have HR0 := Aside0.mk hr0
  have HC0 := Aside0.mk hc0
  clear hr0 hc0
  have HB := Aside0.mk (Below.refl w.heap.size w)
  have H : ((spec_l00From.f l0).bind fun bt155 => ((spec_l02DrawOk.f k bt155.1 bt155.2.1 bt155.2.2).bind fun bt159 => (some (bt159.1, bt159.2.1, bt159.2.2.1, bt159.2.2.2.1)))) = some (r1, r2, r3, r4) := h
  clear h
  replace H := Option.bind_eq_some_iff.mp H
  obtain ⟨⟨t155, t156, t157⟩, A20, H⟩ := H
  replace H : ((spec_l02DrawOk.f k t155 t156 t157).bind fun bt159 => (some (bt159.1, bt159.2.1, bt159.2.2.1, bt159.2.2.2.1))) = some (r1, r2, r3, r4) := H
  have A2 := Aside0.mk A20
  clear A20
  replace H := Option.bind_eq_some_iff.mp H
  obtain ⟨⟨t159, t160, t163, t166, t169, t170⟩, A30, H⟩ := H
  replace H : (some (t159, t160, t163, t166)) = some (r1, r2, r3, r4) := H
  have A3 := Aside0.mk A30
  clear A30
  simp only [Option.some.injEq, Prod.mk.injEq] at H
  obtain ⟨rfl, rfl, rfl, rfl⟩ := H
  go_enter Try.func9, Try.ntmps9
  go_wp2_with (first | ((with_reducible refine gate_dst (N := 2) rfl ?_); refine box_event ?hg (N := 2) ?hd (cs := #[.bool false, .slice none 0 0, .slice none 0 0, .slice none 0 0]) (t := 28) ?hr ?_; (case hd => rfl); (case hg => rfl); (case hr => first | (go_simp; done) | (go_simp; rfl)); intro gb154 hg w4 hbox hb; have n0_ := Aside0.mk (below_step (by repeat (first | (with_reducible first | exact HB.out | apply below_alloc | apply pw_below_drewN | apply below_drew1) | exact HB.out)) hb); have n1_ := Aside0.mk (hbox); have n2_ := Aside0.mk ((by rw [hg]; exact (below_size (by repeat (first | (with_reducible first | exact HB.out | apply below_alloc | apply pw_below_drewN | apply below_drew1) | exact HB.out))) : w.heap.size ≤ gb154)); have n3_ := Aside0.mk ((by rw [hg]; exact (below_size (by repeat (first | (with_reducible first | exact HB.out | apply below_alloc | apply pw_below_drewN | apply below_drew1) | exact HB.out))) : w.heap.size ≤ gb154)); clear HB; have HB := n0_; have BK154 := n1_; have GW154 := n2_; have GE154 := n3_; clear n0_ n1_ n2_ n3_; clear hb hbox hg) | ((with_reducible refine gate_callee (f := 29) rfl ?_); refine goesL_ (some 5) rfl rfl Try.func29 (by kernel_rfl) rfl #[.slice A0 l0.length c0] rfl (by (try simp only [List.map_toArray, List.map_cons, List.map_nil]); first | done | rfl | (simp only [List.length_drop, List.length_take]; rfl)) ?_; (with_reducible refine (spec_l00From.calls _ _ l0 t155 t156 t157 w _ ?side1 ?side2 ?side3 A2.out).mono ?_); (case side1 => repeat (first | (with_reducible first | exact HB.out | apply below_alloc | apply pw_below_drewN | apply below_drew1 | refine below_set ?_ GE154.out) | exact HB.out)); (case side2 => exact HR0.out); (case side3 => exact HC0.out); rintro e w5 ⟨g158, rfl, hi, hb, hb2⟩; refine ⟨_, rfl, ?_⟩; have n0_ := Aside0.mk (blk_below (g := gb154) (o := .cells #[.bool false, .slice none 0 0, .slice none 0 0, .slice none 0 0] 28 (0, 0)) (by (with_reducible repeat (first | refine blk_drewN ?_ _ | refine blk_drew ?_ | refine blk_alloc ?_ _)); exact BK154.out) hb2); have n1_ := Aside0.mk (hb); have n2_ := Aside0.mk (hi); have n3_ := Aside0.mk (IsS111.ne_blk hi (blk_below (g := gb154) (o := .cells #[.bool false, .slice none 0 0, .slice none 0 0, .slice none 0 0] 28 (0, 0)) (by (with_reducible repeat (first | refine blk_drewN ?_ _ | refine blk_drew ?_ | refine blk_alloc ?_ _)); exact BK154.out) hb2) (by decide)); have n4_ := Aside0.mk (Ne.symm (IsS111.ne_blk hi (blk_below (g := gb154) (o := .cells #[.bool false, .slice none 0 0, .slice none 0 0, .slice none 0 0] 28 (0, 0)) (by (with_reducible repeat (first | refine blk_drewN ?_ _ | refine blk_drew ?_ | refine blk_alloc ?_ _)); exact BK154.out) hb2) (by decide))); clear BK154; clear HB; have BK154 := n0_; have HB := n1_; have HI158 := n2_; have NB158_154 := n3_; have NB154_158 := n4_; clear n0_ n1_ n2_ n3_ n4_; (try clear hb); (try clear hb2); (try clear hk); (try clear hi)) | ((with_reducible refine gate_callee (f := 30) rfl ?_); refine goesL_ (some 7) rfl rfl Try.func30 (by kernel_rfl) rfl #[.pointer (some ⟨g158, 0, none⟩)] rfl (by (try simp only [List.map_toArray, List.map_cons, List.map_nil]); first | done | rfl | (simp only [List.length_drop, List.length_take]; rfl)) ?_; (with_reducible refine (spec_l02DrawOk.calls k g158 t155 t156 t157 t159 t160 t163 t166 t169 t170 w _ ?side1 ?side2 A3.out).mono ?_); (case side1 => repeat (first | (with_reducible first | exact HI158.out | apply IsS111.alloc | apply IsS111.drewN | apply IsS111.drew | apply IsS111.set_1 | apply IsS111.set_2 | refine IsS111.far ?_ NB158_154.out _) | exact HI158.out)); (case side2 => repeat (first | (with_reducible first | exact HB.out | apply below_alloc | apply pw_below_drewN | apply below_drew1 | refine below_set ?_ (IsS111.ge HI158.out) | refine below_set ?_ GE154.out) | exact HB.out)); rintro e w6 ⟨v161, v164, v167, rfl, ho0, ho1, ho2, hi, hb, hk⟩; refine ⟨_, rfl, ?_⟩; have n0_ := Aside0.mk (KeepBut.blk hk (g' := gb154) (o := .cells #[.bool false, .slice none 0 0, .slice none 0 0, .slice none 0 0] 28 (0, 0)) (by (with_reducible repeat (first | refine blk_drewN ?_ _ | refine blk_drew ?_ | refine blk_alloc ?_ _)); exact BK154.out) NB154_158.out (by simp)); have n1_ := Aside0.mk (Kd.R_lower ho0 (below_size (by repeat (first | (with_reducible first | exact HB.out | apply below_alloc | apply pw_below_drewN | apply below_drew1 | refine below_set ?_ (IsS111.ge HI158.out) | refine below_set ?_ GE154.out) | exact HB.out)))); have n2_ := Aside0.mk (Kd.R_lower ho1 (below_size (by repeat (first | (with_reducible first | exact HB.out | apply below_alloc | apply pw_below_drewN | apply below_drew1 | refine below_set ?_ (IsS111.ge HI158.out) | refine below_set ?_ GE154.out) | exact HB.out)))); have n3_ := Aside0.mk (Kd.R_lower ho2 (below_size (by repeat (first | (with_reducible first | exact HB.out | apply below_alloc | apply pw_below_drewN | apply below_drew1 | refine below_set ?_ (IsS111.ge HI158.out) | refine below_set ?_ GE154.out) | exact HB.out)))); have n4_ := Aside0.mk (hb); have n5_ := Aside0.mk (hi); clear BK154; clear HB; clear HI158; have BK154 := n0_; have HO162 := n1_; have HO165 := n2_; have HO168 := n3_; have HB := n4_; have HI158 := n5_; clear n0_ n1_ n2_ n3_ n4_ n5_; (try clear hb); (try clear hb2); (try clear hk); (try clear hi); (try clear ho0); (try clear ho1); (try clear ho2); have hnb7 := NB154_158.out; have hnc7 := NB158_154.out; have hcz8_0 : w6.cell? ⟨gb154, 0, none⟩ = some (.bool false) := (blk_cell BK154.out 0).trans rfl; have hcz8_1 : w6.cell? ⟨gb154, 1, none⟩ = some (.slice none 0 0) := (blk_cell BK154.out 1).trans rfl; have hcz8_2 : w6.cell? ⟨gb154, 2, none⟩ = some (.slice none 0 0) := (blk_cell BK154.out 2).trans rfl; have hcz8_3 : w6.cell? ⟨gb154, 3, none⟩ = some (.slice none 0 0) := (blk_cell BK154.out 3).trans rfl; have hfz8_0 := blk_frozen BK154.out 0; have hfz8_1 := blk_frozen BK154.out 1; have hfz8_2 := blk_frozen BK154.out 2; have hfz8_3 := blk_frozen BK154.out 3; obtain ⟨Ao9, co9, eo9⟩ := Kd.R_slice HO162.out; subst eo9; obtain ⟨Ao10, co10, eo10⟩ := Kd.R_slice HO165.out; subst eo10; obtain ⟨Ao11, co11, eo11⟩ := Kd.R_slice HO168.out; subst eo11))
  refine bodyPost_ret (results_cell_row rfl _ _ gb154 28 #[.bool t159, .slice Ao9 t160.length co9, .slice Ao10 t163.length co10, .slice Ao11 t166.length co11] (0, 0) _ rfl (by (with_reducible repeat (first | refine blk_drewN ?_ _ | refine blk_drew ?_ | refine blk_alloc ?_ _)); refine blk_put (cs := #[.bool t159, .slice Ao9 t160.length co9, .slice Ao10 t163.length co10, .slice none 0 0]) ?_ 3 _ rfl; (with_reducible repeat (first | refine blk_drewN ?_ _ | refine blk_drew ?_ | refine blk_alloc ?_ _)); refine blk_put (cs := #[.bool t159, .slice Ao9 t160.length co9, .slice none 0 0, .slice none 0 0]) ?_ 2 _ rfl; (with_reducible repeat (first | refine blk_drewN ?_ _ | refine blk_drew ?_ | refine blk_alloc ?_ _)); refine blk_put (cs := #[.bool t159, .slice none 0 0, .slice none 0 0, .slice none 0 0]) ?_ 1 _ rfl; (with_reducible repeat (first | refine blk_drewN ?_ _ | refine blk_drew ?_ | refine blk_alloc ?_ _)); refine blk_put (cs := #[.bool false, .slice none 0 0, .slice none 0 0, .slice none 0 0]) ?_ 0 _ rfl; (with_reducible repeat (first | refine blk_drewN ?_ _ | refine blk_drew ?_ | refine blk_alloc ?_ _)); exact BK154.out) Try.underlying28 rfl (by kernel_rfl)) rfl ?_
  exact ⟨_, _, _, by first | rfl | (simp [errW_none, errW_some] <;> rfl) | (simp [*, errW_none, errW_some] <;> rfl), by (with_reducible repeat (first | apply Kd.R_alloc | apply Kd.R_drewN | apply Kd.R_drew)); exact Kd.R_mono (Kd.R_far (p := ⟨gb154, 3, none⟩) (Kd.R_far (p := ⟨gb154, 2, none⟩) (Kd.R_far (p := ⟨gb154, 1, none⟩) (Kd.R_far (p := ⟨gb154, 0, none⟩) (Kd.R_types HO162.out BK154.out (by decide)) (fun _ hk => hk.2) (.bool t159)) (fun _ hk => hk.2) (.slice Ao9 t160.length co9)) (fun _ hk => hk.2) (.slice Ao10 t163.length co10)) (fun _ hk => hk.2) (.slice Ao11 t166.length co11)) (fun _ hk => trivial), by (with_reducible repeat (first | apply Kd.R_alloc | apply Kd.R_drewN | apply Kd.R_drew)); exact Kd.R_mono (Kd.R_far (p := ⟨gb154, 3, none⟩) (Kd.R_far (p := ⟨gb154, 2, none⟩) (Kd.R_far (p := ⟨gb154, 1, none⟩) (Kd.R_far (p := ⟨gb154, 0, none⟩) (Kd.R_types HO165.out BK154.out (by decide)) (fun _ hk => hk.2) (.bool t159)) (fun _ hk => hk.2) (.slice Ao9 t160.length co9)) (fun _ hk => hk.2) (.slice Ao10 t163.length co10)) (fun _ hk => hk.2) (.slice Ao11 t166.length co11)) (fun _ hk => trivial), by (with_reducible repeat (first | apply Kd.R_alloc | apply Kd.R_drewN | apply Kd.R_drew)); exact Kd.R_mono (Kd.R_far (p := ⟨gb154, 3, none⟩) (Kd.R_far (p := ⟨gb154, 2, none⟩) (Kd.R_far (p := ⟨gb154, 1, none⟩) (Kd.R_far (p := ⟨gb154, 0, none⟩) (Kd.R_types HO168.out BK154.out (by decide)) (fun _ hk => hk.2) (.bool t159)) (fun _ hk => hk.2) (.slice Ao9 t160.length co9)) (fun _ hk => hk.2) (.slice Ao10 t163.length co10)) (fun _ hk => hk.2) (.slice Ao11 t166.length co11)) (fun _ hk => trivial), by repeat (first | (with_reducible first | exact HB.out | apply below_alloc | apply pw_below_drewN | apply below_drew1 | refine below_set ?_ (IsS111.ge HI158.out) | refine below_set ?_ GE154.out) | exact HB.out)⟩

/-! ### laws_r8At: function 10 -/
def laws_r8At.f (l0 : List Int) (a1 : Int) (a2 : Int) : Option (Int) := if a2 ≤ 1 then (some 0) else (if a1 ≥ (l0.length : Int) then (some 0) else (if 0 ≤ a1 then (if a1 < (l0.length : Int) then (if a2 = 0 then (none) else (some (Int.tmod (wrap64 (rd l0 a1)) a2))) else (none)) else (none)))
set_option maxHeartbeats 8000000 in
set_option maxRecDepth 100000 in
theorem laws_r8At.calls (A0 : Option Addr) (c0 : Nat) (l0 : List Int) (a1 : Int) (a2 : Int) (r : Int) (w : World) (hr0 : Kd.C (Kd.int .u8) w A0 l0.length l0) (hc0 : l0.length ≤ c0) (h : laws_r8At.f l0 a1 a2 = some r) :
    Calls Try.prog 10 #[.slice A0 l0.length c0, .int .i64 a1, .int .i64 a2] w fun e w' => e = .returned (.int .i64 r) ∧ Drawn0 w w' := by
  have HR0 := Aside0.mk hr0
  have HC0 := Aside0.mk hc0
  clear hr0 hc0
  have H : (if a2 ≤ 1 then (some 0) else (if a1 ≥ (l0.length : Int) then (some 0) else (if 0 ≤ a1 then (if a1 < (l0.length : Int) then (if a2 = 0 then (none) else (some (Int.tmod (wrap64 (rd l0 a1)) a2))) else (none)) else (none)))) = some r := h
  clear h
  by_cases c4 : a2 ≤ 1
  · rw [if_pos c4] at H
    have c4b0 : decide (a2 ≤ 1) = true := decide_eq_true c4
    clear c4
    obtain rfl := Option.some.inj H
    go_enter Try.func10, Try.ntmps10
    go_wp2
    go_ret
    exact ⟨by first | rfl | (simp; done) | (simp [*]; done), by repeat (first | exact Drawn0.refl _ | apply Drawn0.step)⟩
  · rw [if_neg c4] at H
    have c4b0 : decide (a2 ≤ 1) = false := decide_eq_false c4
    clear c4
    by_cases c5 : a1 ≥ (l0.length : Int)
    · rw [if_pos c5] at H
      have c5b0 : decide ((l0.length : Int) ≤ a1) = true := decide_eq_true c5
      clear c5
      obtain rfl := Option.some.inj H
      go_enter Try.func10, Try.ntmps10
      go_wp2
      go_ret
      exact ⟨by first | rfl | (simp; done) | (simp [*]; done), by repeat (first | exact Drawn0.refl _ | apply Drawn0.step)⟩
    · rw [if_neg c5] at H
      have c5b0 : decide ((l0.length : Int) ≤ a1) = false := decide_eq_false c5
      clear c5
      by_cases c6 : 0 ≤ a1
      · rw [if_pos c6] at H
        have c6b0 : decide (0 ≤ a1) = true := decide_eq_true c6
        clear c6
        by_cases c7 : a1 < (l0.length : Int)
        · rw [if_pos c7] at H
          have c7b0 : decide (a1 < (l0.length : Int)) = true := decide_eq_true c7
          clear c7
          by_cases c8 : a2 = 0
          · rw [if_pos c8] at H
            exact absurd H (by simp)
          · rw [if_neg c8] at H
            have c8b0 : (a2 == 0) = false := beq_eq_false_iff_ne.mpr c8
            have c8b1 : (a2 != 0) = true := bne_iff_ne.mpr c8
            obtain rfl := Option.some.inj H
            have p171 : 0 ≤ (a1 : Int) := of_decide_eq_true (by first | (with_reducible assumption) | assumption)
            have q171 : a1 < (l0.length : Int) := of_decide_eq_true (by first | (with_reducible assumption) | assumption)
            obtain ⟨ad171, e171, hx171_0⟩ := Kd.at_int HR0.out a1 p171 q171
            cases e171
            replace p171 := eq_true p171
            replace q171 := eq_true q171
            go_enter Try.func10, Try.ntmps10
            go_wp2
            go_ret
            exact ⟨by first | rfl | (simp; done) | (simp [*]; done), by repeat (first | exact Drawn0.refl _ | apply Drawn0.step)⟩
        · rw [if_neg c7] at H
          exact absurd H (by simp)
      · rw [if_neg c6] at H
        exact absurd H (by simp)

/-! ### impl_in: function 31 -/
def impl_in.f (a0 : Int) (a1 : Int) (a2 : Int) : Option (Bool) := if a0 ≥ a1 then (some (decide (a0 ≤ a2))) else (some false)
set_option maxHeartbeats 8000000 in
set_option maxRecDepth 100000 in
theorem impl_in.calls (a0 : Int) (a1 : Int) (a2 : Int) (r : Bool) (w : World) (h : impl_in.f a0 a1 a2 = some r) :
    Calls Try.prog 31 #[.int .i64 a0, .int .i64 a1, .int .i64 a2] w fun e w' => e = .returned (.bool r) ∧ Drawn0 w w' := by
  have H : (if a0 ≥ a1 then (some (decide (a0 ≤ a2))) else (some false)) = some r := h
  clear h
  by_cases c4 : a0 ≥ a1
  · rw [if_pos c4] at H
    have c4b0 : decide (a1 ≤ a0) = true := decide_eq_true c4
    clear c4
    obtain rfl := Option.some.inj H
    go_enter Try.func31, Try.ntmps31
    go_wp2
    go_ret
    exact ⟨by first | rfl | (simp; done) | (simp [*]; done), by repeat (first | exact Drawn0.refl _ | apply Drawn0.step)⟩
  · rw [if_neg c4] at H
    have c4b0 : decide (a1 ≤ a0) = false := decide_eq_false c4
    clear c4
    obtain rfl := Option.some.inj H
    go_enter Try.func31, Try.ntmps31
    go_wp2
    go_ret
    exact ⟨by first | rfl | (simp; done) | (simp [*]; done), by repeat (first | exact Drawn0.refl _ | apply Drawn0.step)⟩

/-! ### impl_isMember: function 32 -/
def impl_isMember.f (a0 : Int) : Option (Bool) := (impl_in.f a0 1 1000).bind fun t172 => (some t172)
set_option maxHeartbeats 8000000 in
set_option maxRecDepth 100000 in
theorem impl_isMember.calls (a0 : Int) (r : Bool) (w : World) (h : impl_isMember.f a0 = some r) :
    Calls Try.prog 32 #[.int .i64 a0] w fun e w' => e = .returned (.bool r) ∧ Drawn0 w w' := by
  have H : ((impl_in.f a0 1 1000).bind fun t172 => (some t172)) = some r := h
  clear h
  replace H := Option.bind_eq_some_iff.mp H
  obtain ⟨t172, A20, H⟩ := H
  replace H : (some t172) = some r := H
  have A2 := Aside0.mk A20
  clear A20
  obtain rfl := Option.some.inj H
  go_enter Try.func32, Try.ntmps32
  go_wp2_with (first | ((with_reducible refine gate_callee (f := 31) rfl ?_); refine goesL_ (some 4) rfl rfl Try.func31 (by kernel_rfl) rfl #[.int .i64 a0, .int .i64 1, .int .i64 1000] rfl (by (try simp only [List.map_toArray, List.map_cons, List.map_nil]); first | done | rfl | (simp only [List.length_drop, List.length_take]; rfl)) ?_; (with_reducible refine (impl_in.calls a0 1 1000 t172 _ A2.out).mono ?_); rintro e w' ⟨rfl, ⟨nd, rfl⟩⟩; refine ⟨_, rfl, ?_⟩))
  go_ret
  exact ⟨by first | rfl | (simp; done) | (simp [*]; done), by repeat (first | exact Drawn0.refl _ | apply Drawn0.step)⟩

end Go.Proofs.Ytdanachjdfiegaa.QFnAllowed
