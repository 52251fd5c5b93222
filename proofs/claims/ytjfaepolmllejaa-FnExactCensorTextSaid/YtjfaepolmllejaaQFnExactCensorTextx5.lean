-- written by a program of this session, on the lines of the kit's print
import Derived.Test.YtjfaepolmllejaaQFnExactCensorTextx0
import Derived.Test.YtjfaepolmllejaaQFnExactCensorTextx1
import Derived.Test.YtjfaepolmllejaaQFnExactCensorTextx3
import Derived.Test.YtjfaepolmllejaaQFnExactCensorTextx4
namespace Go.Proofs.Ytjfaepolmllejaa.QFnExactCensorText
open Go.RowKit Go.Proofs.YtjfaepolmllejaaW.PrintWords Go.Proofs.YtjfaepolmllejaaW.PrintLast Go.Proofs.YtjfaepolmllejaaW.PrintMore
attribute [local go_sem] max2_int min2_int max_two min_two max_three min_three max_four min_four   -- for this text's walks alone
set_option linter.unusedVariables false
set_option linter.unusedSimpArgs false

/-! ### impl_CensorText: function 37 -/
abbrev impl_CensorText.T : Bool := true
abbrev impl_CensorText.F : Bool := false
theorem impl_CensorText.s1_ {P : Prop} (h : P := by first | rfl | (simp; done) | (simp [*]; done)) : P := h
theorem impl_CensorText.s2_ {P : Prop} (h : P := by kernel_rfl) : P := h
theorem impl_CensorText.s3_ {P : Prop} (h : P := by (try simp only [List.map_toArray, List.map_cons, List.map_nil]); first | done | rfl | (simp only [List.length_drop, List.length_take]; rfl)) : P := h
theorem impl_CensorText.b1_ {P Q : Prop} (q : Q) (h : Q → P := by intro q_; (with_reducible repeat (first | refine blk_drewN ?_ _ | refine blk_drew ?_ | refine blk_alloc ?_ _)); exact q_) : P := h q
theorem impl_CensorText.b2_ {P Q : Prop} (q : Q) (h : Q → P := by intro q_; (with_reducible repeat (first | apply Kd.R_alloc | apply Kd.R_drewN | apply Kd.R_drew)); exact q_) : P := h q
mutual
def impl_CensorText.l0 : Nat → List ByteArray → List Int → List (S87) → Int → Int → Option (ByteArray × Bool)
  | 0, _, _, _, _, _ => none
  | k + 1, x1, x6, x17, x18, x19 => if x19 < x18 then (if 0 ≤ x19 then (if x19 < (x17.length : Int) then (impl_CensorText.l1 k x1 x6 (wrap64 (((rd_T87 x17 x19).f0) + 1)) x17 x18 x19 ((rd_T87 x17 x19).f0) ((rd_T87 x17 x19).f1) ((rd_T87 x17 x19).f2)) else (none)) else (none)) else (some (strOfNums x6, true))
def impl_CensorText.l1 : Nat → List ByteArray → List Int → Int → List (S87) → Int → Int → Int → Int → ByteArray → Option (ByteArray × Bool)
  | 0, _, _, _, _, _, _, _, _, _ => none
  | k + 1, x1, x6, x9, x17, x18, x19, x164000, x164001, x164002 => if x9 < x164001 then ((slices_Contains_string_string.f k x1 x164002).bind fun t164 => (if t164 = true then (if 0 ≤ x9 then (if x9 < (x6.length : Int) then (impl_CensorText.l1 k x1 (x6.set (x9 : Int).toNat 42) (wrap64 (x9 + 1)) x17 x18 x19 x164000 x164001 x164002) else (none)) else (none)) else (impl_CensorText.l0 k x1 x6 x17 x18 (wrap64 (x19 + 1))))) else (impl_CensorText.l0 k x1 x6 x17 x18 (wrap64 (x19 + 1)))
end
def impl_CensorText.f (k : Nat) (a0 : ByteArray) (l1 : List ByteArray) : Option (ByteArray × Bool) := (impl_badOk.f k a0 l1).bind fun t155 => (if t155 = true then ((impl_runsOf.f k a0).bind fun t159 => (impl_CensorText.l0 k l1 (bytesOf a0) t159 (t159.length : Int) 0)) else (some ((⟨#[]⟩ : ByteArray), false)))
theorem impl_CensorText.mono_l : ∀ k, (∀ y0 y1 y2 y3 y4, LeO (impl_CensorText.l0 k y0 y1 y2 y3 y4) (impl_CensorText.l0 (k + 1) y0 y1 y2 y3 y4)) ∧ (∀ y0 y1 y2 y3 y4 y5 y6 y7 y8, LeO (impl_CensorText.l1 k y0 y1 y2 y3 y4 y5 y6 y7 y8) (impl_CensorText.l1 (k + 1) y0 y1 y2 y3 y4 y5 y6 y7 y8))
  | 0 => ⟨fun _ _ _ _ _ r h => by simp [impl_CensorText.l0] at h, fun _ _ _ _ _ _ _ _ _ r h => by simp [impl_CensorText.l1] at h⟩
  | k + 1 => by
    obtain ⟨ih0, ih1⟩ := impl_CensorText.mono_l k
    refine ⟨?_, ?_⟩
    · intro y0 y1 y2 y3 y4
      unfold impl_CensorText.l0
      repeat' first
      | (with_reducible exact ih0 _ _ _ _ _)
      | (with_reducible exact ih1 _ _ _ _ _ _ _ _ _)
      | (with_reducible exact impl_badOk.mono _ _ _)
      | (with_reducible exact impl_runsOf.mono _ _)
      | (with_reducible exact slices_Contains_string_string.mono _ _ _)
      | (with_reducible exact LeO.refl _)
      | (with_reducible exact LeO.none _)
      | (with_reducible refine LeO.ite ?_ ?_)
      | (with_reducible refine LeO.bind ?_ (fun _ => ?_))
      | exact ih0 _ _ _ _ _
      | exact ih1 _ _ _ _ _ _ _ _ _
      | exact impl_badOk.mono _ _ _
      | exact impl_runsOf.mono _ _
      | exact slices_Contains_string_string.mono _ _ _
      | exact LeO.none _
      | refine LeO.ite ?_ ?_
      | refine LeO.bind ?_ (fun _ => ?_)
    · intro y0 y1 y2 y3 y4 y5 y6 y7 y8
      unfold impl_CensorText.l1
      repeat' first
      | (with_reducible exact ih0 _ _ _ _ _)
      | (with_reducible exact ih1 _ _ _ _ _ _ _ _ _)
      | (with_reducible exact impl_badOk.mono _ _ _)
      | (with_reducible exact impl_runsOf.mono _ _)
      | (with_reducible exact slices_Contains_string_string.mono _ _ _)
      | (with_reducible exact LeO.refl _)
      | (with_reducible exact LeO.none _)
      | (with_reducible refine LeO.ite ?_ ?_)
      | (with_reducible refine LeO.bind ?_ (fun _ => ?_))
      | exact ih0 _ _ _ _ _
      | exact ih1 _ _ _ _ _ _ _ _ _
      | exact impl_badOk.mono _ _ _
      | exact impl_runsOf.mono _ _
      | exact slices_Contains_string_string.mono _ _ _
      | exact LeO.none _
      | refine LeO.ite ?_ ?_
      | refine LeO.bind ?_ (fun _ => ?_)
theorem impl_CensorText.mono : ∀ a0 a1 k, LeO (impl_CensorText.f k a0 a1) (impl_CensorText.f (k + 1) a0 a1) := by
  intro a0 a1 k
  obtain ⟨ih0, ih1⟩ := impl_CensorText.mono_l k
  unfold impl_CensorText.f
  repeat' first
      | (with_reducible exact ih0 _ _ _ _ _)
      | (with_reducible exact ih1 _ _ _ _ _ _ _ _ _)
      | (with_reducible exact impl_badOk.mono _ _ _)
      | (with_reducible exact impl_runsOf.mono _ _)
      | (with_reducible exact slices_Contains_string_string.mono _ _ _)
      | (with_reducible exact LeO.refl _)
      | (with_reducible exact LeO.none _)
      | (with_reducible refine LeO.ite ?_ ?_)
      | (with_reducible refine LeO.bind ?_ (fun _ => ?_))
      | exact ih0 _ _ _ _ _
      | exact ih1 _ _ _ _ _ _ _ _ _
      | exact impl_badOk.mono _ _ _
      | exact impl_runsOf.mono _ _
      | exact slices_Contains_string_string.mono _ _ _
      | exact LeO.none _
      | refine LeO.ite ?_ ?_
      | refine LeO.bind ?_ (fun _ => ?_)
set_option maxHeartbeats 8000000 in
set_option maxRecDepth 100000 in
theorem impl_CensorText.calls (k : Nat) (a0 : ByteArray) (A1 : Option Addr) (c1 : Nat) (l1 : List ByteArray) (r1 : ByteArray) (r2 : Bool) (w : World) (hr1 : Kd.C Kd.string w A1 l1.length l1) (hc1 : l1.length ≤ c1) (h : impl_CensorText.f k a0 l1 = some (r1, r2)) :
    Calls Try.prog 37 #[.string a0, .slice A1 l1.length c1] w fun e w' => e = .returned (.tuple #[.string r1, .bool r2]) ∧ Below w.heap.size w w' := by
 have hu87 := Try.underlying87
 have HR1 := Aside0.mk hr1
 have HC1 := Aside0.mk hc1
 clear hr1 hc1
 have HB := Aside0.mk (Below.refl w.heap.size w)
 have H : ((impl_badOk.f k a0 l1).bind fun t155 => (if t155 = true then ((impl_runsOf.f k a0).bind fun t159 => (impl_CensorText.l0 k l1 (bytesOf a0) t159 (t159.length : Int) 0)) else (some ((⟨#[]⟩ : ByteArray), false)))) = some (r1, r2) := h
 clear h
 replace H := Option.bind_eq_some_iff.mp H
 obtain ⟨t155, A30, H⟩ := H
 replace H : (if t155 = true then ((impl_runsOf.f k a0).bind fun t159 => (impl_CensorText.l0 k l1 (bytesOf a0) t159 (t159.length : Int) 0)) else (some ((⟨#[]⟩ : ByteArray), false))) = some (r1, r2) := H
 have A3 := Aside0.mk A30
 clear A30
 by_cases c4 : t155 = true
 {
 subst c4
 have H1 : ((impl_runsOf.f k a0).bind fun t159 => (impl_CensorText.l0 k l1 (bytesOf a0) t159 (t159.length : Int) 0)) = some (r1, r2) := by rw [if_pos rfl] at H; exact H
 clear H
 have H := H1
 clear H1
 obtain ⟨y156, hy156⟩ : ∃ y_ : List Int, y_ = (bytesOf a0) := ⟨_, rfl⟩
 replace H : ((impl_runsOf.f k a0).bind fun t159 => (impl_CensorText.l0 k l1 y156 t159 (t159.length : Int) 0)) = some (r1, r2) := by first | (rw [hy156]; with_reducible exact H) | (have H2_ := (Option.bind_some _ _).symm.trans H; rw [hy156]; with_reducible exact H2_) | (have H2_ := (Option.bind_some _ _).symm.trans H; with_reducible exact H2_) | with_reducible exact H | (rw [hy156]; exact H) | exact H
 have Ny156 := Aside0.mk hy156
 clear hy156
 replace H := Option.bind_eq_some_iff.mp H
 obtain ⟨t159, A50, H⟩ := H
 replace H : (impl_CensorText.l0 k l1 y156 t159 (t159.length : Int) 0) = some (r1, r2) := H
 have A5 := Aside0.mk A50
 clear A50
 have H' := Aside0.mk H
 clear H
 go_enter Try.func37, Try.ntmps37
 go_wp2_with (first | ((with_reducible refine gate_callee (f := 74) rfl ?_); refine goesL_ (some 12) rfl rfl Try.func74 s2_ rfl #[.string a0, .slice A1 l1.length c1] rfl s3_ ?_; (with_reducible refine (impl_badOk.calls k a0 _ _ l1 true _ ?side1 ?side2 A3.out).mono ?_); (case side1 => repeat (first | exact HR1.out | (with_reducible refine Kd.C_alloc ?_ _) | (with_reducible refine Kd.C_drewN ?_ _) | (with_reducible refine Kd.C_drew ?_))); (case side2 => exact HC1.out); rintro e w' ⟨rfl, ⟨nd, rfl⟩⟩; refine ⟨_, rfl, ?_⟩) | ((with_reducible refine gate_dst (N := 15) rfl ?_); refine Kd.B_conv _ 5 rfl (N := 15) rfl 9 55 _ rfl a0 ?hx Try.underlying9 Try.underlying55 Try.underlying5 (ok := fun _ => True) (okp := fun _ => True) (fun _ hk => hk) trivial (Below.refl _ _) (Nat.le_refl _) ?_; (case hx => first | (go_simp; done) | (go_simp; rfl)); intro v157 w6 ho7 hb hg_ hnew_; clear hg_ hnew_; (first | rw [← Ny156.out] at ho7 | (simp only [Int.reduceToNat] at ho7; rw [← Ny156.out] at ho7)); have n0_ := Aside0.mk (Kd.B_lower ho7 (below_size (by repeat (first | (with_reducible first | exact HB.out | apply below_alloc | apply pw_below_drewN | apply below_drew1) | exact HB.out)))); have n1_ := Aside0.mk (below_step (by repeat (first | (with_reducible first | exact HB.out | apply below_alloc | apply pw_below_drewN | apply below_drew1) | exact HB.out)) hb); clear HB; have HO158 := n0_; have HB := n1_; clear n0_ n1_; clear hb ho7) | ((with_reducible refine gate_callee (f := 75) rfl ?_); refine goesL_ (some 17) rfl rfl Try.func75 s2_ rfl #[.string a0] rfl s3_ ?_; (with_reducible refine (impl_runsOf.calls k a0 t159 _ A5.out).mono ?_); rintro e w8 ⟨v160, rfl, ho0, hb⟩; refine ⟨_, rfl, ?_⟩; have n0_ := Aside0.mk (Kd.B_below (by (with_reducible repeat (first | apply Kd.B_alloc | apply Kd.B_drewN | apply Kd.B_drew)); exact HO158.out) hb); have n1_ := Aside0.mk (Kd.R_lower ho0 (below_size (by repeat (first | (with_reducible first | exact HB.out | apply below_alloc | apply pw_below_drewN | apply below_drew1) | exact HB.out)))); have n2_ := Aside0.mk (below_step (by repeat (first | (with_reducible first | exact HB.out | apply below_alloc | apply pw_below_drewN | apply below_drew1) | exact HB.out)) hb); clear HO158; clear HB; have HO158 := n0_; have HO161 := n1_; have HB := n2_; clear n0_ n1_ n2_; (try clear hb); (try clear hb2); (try clear hk); (try clear hi); (try clear ho0); obtain ⟨Ao9, co9, eo9⟩ := Kd.R_slice HO161.out; subst eo9))
 go_loopg [19] k (fun kq v19 w' => ∃ (x6_1 : List Int) (x19_1 : Int), v19 = .int .i64 x19_1 ∧ Aside0 (impl_CensorText.l0 kq l1 x6_1 t159 (t159.length : Int) x19_1 = some (r1, r2)) ∧ Aside0 (kq ≤ k) ∧ Aside0 (Kd.B (Kd.int .u8) 5 w' w.heap.size (fun _ => True) v157 x6_1) ∧ Aside0 (Kd.R k87 87 w' w.heap.size (fun _ => True) (.slice Ao9 t159.length co9) t159) ∧ Aside0 (Below w.heap.size w w'))
 case atStart => exact ⟨(y156), (0), s1_, H', ⟨Nat.le_refl _⟩, ⟨by (with_reducible repeat (first | apply Kd.B_alloc | apply Kd.B_drewN | apply Kd.B_drew)); exact HO158.out⟩, ⟨b2_ HO161.out⟩, ⟨by repeat (first | (with_reducible first | exact HB.out | apply below_alloc | apply pw_below_drewN | apply below_drew1) | exact HB.out)⟩⟩
 case round =>
  skip
  {
 clear H'
 try clear c1
 try clear p2
 try clear c3
 try clear c4
 try clear c7
 obtain ⟨x6_1, x19_1, rfl, HA, HK1, HO_6, HO_17, HB⟩ := hrel
 cases gk with
 | zero => exact absurd HA.out (by simp [impl_CensorText.l0])
 | succ k1 =>
  skip
  {
 have H := HA.out
 clear HA
 simp only [impl_CensorText.l0] at H
 by_cases c10 : x19_1 < (t159.length : Int)
 {
 rw [if_pos c10] at H
 have c10b0 : decide (x19_1 < (t159.length : Int)) = true := decide_eq_true c10
 clear c10
 by_cases c11 : 0 ≤ x19_1
 {
 rw [if_pos c11] at H
 have c11b0 : decide (0 ≤ x19_1) = true := decide_eq_true c11
 clear c11
 by_cases c12 : x19_1 < (t159.length : Int)
 {
 rw [if_pos c12] at H
 have c12b0 : decide (x19_1 < (t159.length : Int)) = true := decide_eq_true c12
 clear c12
 have H' := Aside0.mk H
 clear H
 have p162 : 0 ≤ (x19_1 : Int) := of_decide_eq_true (by first | (with_reducible assumption) | assumption)
 have q162 : x19_1 < (t159.length : Int) := of_decide_eq_true (by first | (with_reducible assumption) | assumption)
 obtain ⟨ad162, e162, hx162_0, hx162_1, hx162_2⟩ := at_T87 (Kd.R_reads' HO_17.out).2.2 x19_1 p162 q162
 cases e162
 replace p162 := eq_true p162
 replace q162 := eq_true q162
 go_wp2_with (first | ((with_reducible refine gate_dst (N := 8) rfl ?_); refine box_event ?hg (N := 8) ?hd (cs := #[.int .i64 0, .int .i64 0, .string (⟨#[]⟩ : ByteArray)]) (t := 87) ?hr ?_; (case hd => rfl); (case hg => rfl); (case hr => first | (go_simp; done) | (go_simp; rfl)); intro gb163 hg w13 hbox hb; have n0_ := Aside0.mk (Kd.B_below (by (with_reducible repeat (first | apply Kd.B_alloc | apply Kd.B_drewN | apply Kd.B_drew)); exact HO_6.out) hb); have n1_ := Aside0.mk (Kd.R_below (Kd.R_elderB (b2_ HO_17.out) gb163 (Nat.le_of_eq hg.symm)) hb); have n2_ := Aside0.mk (below_step (by repeat (first | (with_reducible first | exact HB.out | apply below_alloc | apply pw_below_drewN | apply below_drew1) | exact HB.out)) hb); have n3_ := Aside0.mk (hbox); have n4_ := Aside0.mk ((by rw [hg]; exact (below_size (by repeat (first | (with_reducible first | exact HB.out | apply below_alloc | apply pw_below_drewN | apply below_drew1) | exact HB.out))) : w.heap.size ≤ gb163)); have n5_ := Aside0.mk ((by rw [hg]; exact (below_size (by repeat (first | (with_reducible first | exact HB.out | apply below_alloc | apply pw_below_drewN | apply below_drew1) | exact HB.out))) : w.heap.size ≤ gb163)); clear HO_6; clear HO_17; clear HB; have HO_6 := n0_; have HO_17 := n1_; have HB := n2_; have BK163 := n3_; have GW163 := n4_; have GE163 := n5_; clear n0_ n1_ n2_ n3_ n4_ n5_; clear hb hbox hg; have hcz14_0 : w13.cell? ⟨gb163, 0, none⟩ = some (.int .i64 0) := (blk_cell BK163.out 0).trans rfl; have hcz14_1 : w13.cell? ⟨gb163, 1, none⟩ = some (.int .i64 0) := (blk_cell BK163.out 1).trans rfl; have hcz14_2 : w13.cell? ⟨gb163, 2, none⟩ = some (.string (⟨#[]⟩ : ByteArray)) := (blk_cell BK163.out 2).trans rfl; have hfz14_0 := blk_frozen BK163.out 0; have hfz14_1 := blk_frozen BK163.out 1; have hfz14_2 := blk_frozen BK163.out 2))
 go_loopg [9] k1 (fun kq v9 w' => ∃ (x6_2 : List Int) (x9_2 : Int), v9 = .int .i64 x9_2 ∧ Aside0 (impl_CensorText.l1 kq l1 x6_2 x9_2 t159 (t159.length : Int) x19_1 ((rd_T87 t159 x19_1).f0) ((rd_T87 t159 x19_1).f1) ((rd_T87 t159 x19_1).f2) = some (r1, r2)) ∧ Aside0 (kq ≤ k1) ∧ Aside0 (Kd.B (Kd.int .u8) 5 w' w.heap.size (fun _ => True) v157 x6_2) ∧ Aside0 (Kd.R k87 87 w' w.heap.size (fun k_ => k_ ≠ gb163) (.slice (some ad162) t159.length co9) t159) ∧ Aside0 (w'.heap[gb163]? = some (.cells #[.int .i64 ((rd_T87 t159 x19_1).f0), .int .i64 ((rd_T87 t159 x19_1).f1), .string ((rd_T87 t159 x19_1).f2)] 87 (0, 0))) ∧ Aside0 (Below w.heap.size w w'))
 case atStart => exact ⟨(x6_1), (wrap64 (((rd_T87 t159 x19_1).f0) + 1)), s1_, H', ⟨Nat.le_refl _⟩, ⟨by (with_reducible repeat (first | apply Kd.B_alloc | apply Kd.B_drewN | apply Kd.B_drew)); exact Kd.B_mono (Kd.B_far (p := ⟨gb163, 2, none⟩) (Kd.B_far (p := ⟨gb163, 1, none⟩) (Kd.B_far (p := ⟨gb163, 0, none⟩) (Kd.B_types HO_6.out BK163.out (by decide)) (fun _ hk => hk.2) (.int .i64 ((rd_T87 t159 x19_1).f0))) (fun _ hk => hk.2) (.int .i64 ((rd_T87 t159 x19_1).f1))) (fun _ hk => hk.2) (.string ((rd_T87 t159 x19_1).f2))) (fun _ hk => trivial)⟩, ⟨by (with_reducible repeat (first | apply Kd.R_alloc | apply Kd.R_drewN | apply Kd.R_drew)); exact Kd.R_mono (Kd.R_far (p := ⟨gb163, 2, none⟩) (Kd.R_far (p := ⟨gb163, 1, none⟩) (Kd.R_far (p := ⟨gb163, 0, none⟩) (Kd.R_mono HO_17.out (fun k_ hk => (⟨hk, hk.2⟩ : _ ∧ k_ ≠ gb163))) (fun _ hk => hk.2) (.int .i64 ((rd_T87 t159 x19_1).f0))) (fun _ hk => hk.2) (.int .i64 ((rd_T87 t159 x19_1).f1))) (fun _ hk => hk.2) (.string ((rd_T87 t159 x19_1).f2))) (fun _ hk => hk.1.2)⟩, ⟨by (with_reducible repeat (first | refine blk_drewN ?_ _ | refine blk_drew ?_ | refine blk_alloc ?_ _)); refine blk_put (cs := #[.int .i64 ((rd_T87 t159 x19_1).f0), .int .i64 ((rd_T87 t159 x19_1).f1), .string (⟨#[]⟩ : ByteArray)]) ?_ 2 _ rfl; (with_reducible repeat (first | refine blk_drewN ?_ _ | refine blk_drew ?_ | refine blk_alloc ?_ _)); refine blk_put (cs := #[.int .i64 ((rd_T87 t159 x19_1).f0), .int .i64 0, .string (⟨#[]⟩ : ByteArray)]) ?_ 1 _ rfl; (with_reducible repeat (first | refine blk_drewN ?_ _ | refine blk_drew ?_ | refine blk_alloc ?_ _)); refine blk_put (cs := #[.int .i64 0, .int .i64 0, .string (⟨#[]⟩ : ByteArray)]) ?_ 0 _ rfl; (with_reducible repeat (first | refine blk_drewN ?_ _ | refine blk_drew ?_ | refine blk_alloc ?_ _)); exact BK163.out⟩, ⟨by repeat (first | (with_reducible first | exact HB.out | apply below_alloc | apply pw_below_drewN | apply below_drew1 | refine below_set ?_ GE163.out) | exact HB.out)⟩⟩
 case round =>
  skip
  {
 clear H'
 try clear c1
 try clear p1
 try clear q1
 try clear hx1
 try clear p2
 try clear c3
 try clear c4
 try clear p6
 try clear c7
 try clear c10
 try clear c10b0
 try clear c11
 try clear c11b0
 try clear c12
 try clear c12b0
 try clear hcz14_0
 try clear hcz14_1
 try clear hcz14_2
 try clear hfz14_0
 try clear hfz14_1
 try clear hfz14_2
 try clear hx162_0
 try clear hx162_1
 try clear hx162_2
 try clear p162
 try clear p2
 try clear q162
 obtain ⟨x6_2, x9_2, rfl, HA, HK2, HO_6, HO_17, BK163, HB⟩ := hrel
 cases gk with
 | zero => exact absurd HA.out (by simp [impl_CensorText.l1])
 | succ k2 =>
  skip
  {
 have H := HA.out
 clear HA
 simp only [impl_CensorText.l1] at H
 by_cases c15 : x9_2 < ((rd_T87 t159 x19_1).f1)
 {
 rw [if_pos c15] at H
 have c15b0 : decide (x9_2 < ((rd_T87 t159 x19_1).f1)) = true := decide_eq_true c15
 clear c15
 replace H := Option.bind_eq_some_iff.mp H
 obtain ⟨t164, A160, H⟩ := H
 replace H : (if t164 = true then (if 0 ≤ x9_2 then (if x9_2 < (x6_2.length : Int) then (impl_CensorText.l1 k2 l1 (x6_2.set (x9_2 : Int).toNat 42) (wrap64 (x9_2 + 1)) t159 (t159.length : Int) x19_1 ((rd_T87 t159 x19_1).f0) ((rd_T87 t159 x19_1).f1) ((rd_T87 t159 x19_1).f2)) else (none)) else (none)) else (impl_CensorText.l0 k2 l1 x6_2 t159 (t159.length : Int) (wrap64 (x19_1 + 1)))) = some (r1, r2) := H
 have A16 := Aside0.mk A160
 clear A160
 by_cases c17 : t164 = true
 {
 subst c17
 have H1 : (if 0 ≤ x9_2 then (if x9_2 < (x6_2.length : Int) then (impl_CensorText.l1 k2 l1 (x6_2.set (x9_2 : Int).toNat 42) (wrap64 (x9_2 + 1)) t159 (t159.length : Int) x19_1 ((rd_T87 t159 x19_1).f0) ((rd_T87 t159 x19_1).f1) ((rd_T87 t159 x19_1).f2)) else (none)) else (none)) = some (r1, r2) := by rw [if_pos rfl] at H; exact H
 clear H
 have H := H1
 clear H1
 by_cases c18 : 0 ≤ x9_2
 {
 rw [if_pos c18] at H
 have c18b0 : decide (0 ≤ x9_2) = true := decide_eq_true c18
 clear c18
 by_cases c19 : x9_2 < (x6_2.length : Int)
 {
 rw [if_pos c19] at H
 have c19b0 : decide (x9_2 < (x6_2.length : Int)) = true := decide_eq_true c19
 clear c19
 obtain ⟨y165, hy165⟩ : ∃ y_ : List Int, y_ = (x6_2.set (x9_2 : Int).toNat 42) := ⟨_, rfl⟩
 replace H : (impl_CensorText.l1 k2 l1 y165 (wrap64 (x9_2 + 1)) t159 (t159.length : Int) x19_1 ((rd_T87 t159 x19_1).f0) ((rd_T87 t159 x19_1).f1) ((rd_T87 t159 x19_1).f2)) = some (r1, r2) := by first | (rw [hy165]; with_reducible exact H) | (have H2_ := (Option.bind_some _ _).symm.trans H; rw [hy165]; with_reducible exact H2_) | (have H2_ := (Option.bind_some _ _).symm.trans H; with_reducible exact H2_) | with_reducible exact H | (rw [hy165]; exact H) | exact H
 have Ny165 := Aside0.mk hy165
 clear hy165
 have H' := Aside0.mk H
 clear H
 have hcz21_0 : wr.cell? ⟨gb163, 0, none⟩ = some (.int .i64 ((rd_T87 t159 x19_1).f0)) := (blk_cell BK163.out 0).trans rfl
 have hcz21_1 : wr.cell? ⟨gb163, 1, none⟩ = some (.int .i64 ((rd_T87 t159 x19_1).f1)) := (blk_cell BK163.out 1).trans rfl
 have hcz21_2 : wr.cell? ⟨gb163, 2, none⟩ = some (.string ((rd_T87 t159 x19_1).f2)) := (blk_cell BK163.out 2).trans rfl
 have hfz21_0 := blk_frozen BK163.out 0
 have hfz21_1 := blk_frozen BK163.out 1
 have hfz21_2 := blk_frozen BK163.out 2
 go_wp2_with (first | (go_at_call 76; (with_reducible refine (slices_Contains_string_string.calls k2 _ _ l1 ((rd_T87 t159 x19_1).f2) true _ ?side1 ?side2 A16.out).mono ?_); (case side1 => repeat (first | exact (Kd.C_below HR1.out HB.out) | (with_reducible refine Kd.C_alloc ?_ _) | (with_reducible refine Kd.C_drewN ?_ _) | (with_reducible refine Kd.C_drew ?_))); (case side2 => exact HC1.out); rintro e w' ⟨rfl, ⟨nd, rfl⟩⟩; (try (rw [drewN_self wr]; generalize hq_ : World.drewN wr _ = wr; have n0_ : Aside0 (Kd.R k87 87 wr w.heap.size (fun k_ => k_ ≠ gb163) (.slice (some ad162) t159.length co9) t159) := ⟨by rw [← hq_]; exact (b2_ HO_17.out)⟩; have n1_ : Aside0 (Kd.B (Kd.int .u8) 5 wr w.heap.size (fun _ => True) v157 x6_2) := ⟨by rw [← hq_]; exact (by (with_reducible repeat (first | apply Kd.B_alloc | apply Kd.B_drewN | apply Kd.B_drew)); exact HO_6.out)⟩; have n2_ : Aside0 (wr.heap[gb163]? = some (.cells #[.int .i64 ((rd_T87 t159 x19_1).f0), .int .i64 ((rd_T87 t159 x19_1).f1), .string ((rd_T87 t159 x19_1).f2)] 87 (0, 0))) := ⟨by rw [← hq_]; exact (b1_ BK163.out)⟩; have n3_ : Aside0 (Below w.heap.size w wr) := ⟨by rw [← hq_]; exact (by repeat (first | (with_reducible first | exact HB.out | apply below_alloc | apply pw_below_drewN | apply below_drew1 | refine below_set ?_ GE163.out) | exact HB.out))⟩; clear HO_17 HO_6 BK163 HB hq_; have HO_17 := n0_; have HO_6 := n1_; have BK163 := n2_; have HB := n3_; clear n0_ n1_ n2_ n3_)); have p20 : 0 ≤ (x9_2 : Int) := of_decide_eq_true (by first | (with_reducible assumption) | assumption); have q20 : (x9_2 : Int) < ((x6_2.length : Int) : Int) := of_decide_eq_true (by first | (with_reducible assumption) | assumption); obtain ⟨go20, co20, eo20, gb20, gl20, cl20, HG20⟩ := Kd.B_form HO_6.out (by omega); (first | cases eo20 | (injection eo20 with ea_ en_ ec_; (first | subst ea_ | (injection ea_ with ea_; subst ea_)); subst ec_; clear en_)); have GB20 := Aside0.mk gb20; have GG20 := Aside0.mk HG20; clear gb20 gl20 HG20; obtain ⟨hx20_0, hf20_0⟩ := Kd.B_celln 0 HO_6.out (x9_2 : Int) p20 q20; replace p20 := eq_true p20; replace q20 := eq_true q20; obtain ⟨hy22_, hz22_⟩ := Kd.B_celln 0 HO_6.out (x9_2 : Int) (of_decide_eq_true (by first | (with_reducible assumption) | assumption)) (of_decide_eq_true (by first | (with_reducible assumption) | assumption)); have HP22 := Kd.B_putg HO_6.out (x9_2 : Int) 42) | ((with_reducible refine gate_store (t := 5) (p := 40) rfl ?_); refine store_event (t := 5) (p := 40) (v := ?vo_w23) (w1 := (wr.setCell ⟨go20, (x9_2 : Int).toNat, none⟩ (.int .u8 42))) ?hg ?ho ?hn ?hr ?_; (case ho => rfl); (case hg => rfl); (case hn => rfl); (case hr => first | (go_simp; done) | (go_simp; rfl)); intro w23 hw; have hg : wr.grownBy w23 (some go20) := (by rw [hw]; exact HP22.2); have hp_ : Kd.B (Kd.int .u8) 5 w23 w.heap.size (fun _ => True) (.slice (some ⟨go20, 0, none⟩) x6_2.length co20) y165 := (by rw [hw, Ny165.out]; exact HP22.1); clear HP22; have n0_ := Aside0.mk (hp_); have n1_ := Aside0.mk (Kd.R_overB (b2_ HO_17.out) HO_6.out hg); have n2_ := Aside0.mk (blk_grown (g := gb163) (o := .cells #[.int .i64 ((rd_T87 t159 x19_1).f0), .int .i64 ((rd_T87 t159 x19_1).f1), .string ((rd_T87 t159 x19_1).f2)] 87 (0, 0)) (b1_ BK163.out) hg (Kd.B_ne HO_6.out BK163.out (by decide))); have n3_ := Aside0.mk ((by rw [hw]; exact below_set (HB.out) GB20.out : Below w.heap.size w w23)); clear HO_6; clear HO_17; clear BK163; clear HB; have HO_6 := n0_; have HO_17 := n1_; have BK163 := n2_; have HB := n3_; clear n0_ n1_ n2_ n3_; clear hg hw hp_))
 go_roundg k2
 case measure => have := HK1.out; have := HK2.out; omega
 case rel => exact ⟨(y165), (wrap64 (x9_2 + 1)), s1_, H', ⟨by have := HK1.out; have := HK2.out; omega⟩, ⟨by (with_reducible repeat (first | apply Kd.B_alloc | apply Kd.B_drewN | apply Kd.B_drew)); exact HO_6.out⟩, ⟨b2_ HO_17.out⟩, ⟨b1_ BK163.out⟩, ⟨by repeat (first | (with_reducible first | exact HB.out | apply below_alloc | apply pw_below_drewN | apply below_drew1 | refine below_set ?_ GE163.out) | exact HB.out)⟩⟩}
 {
 rw [if_neg c19] at H
 exact absurd H (by simp)}}
 {
 rw [if_neg c18] at H
 exact absurd H (by simp)}}
 {
 replace c17 := Bool.eq_false_iff.mpr c17
 subst c17
 have H1 : (impl_CensorText.l0 k2 l1 x6_2 t159 (t159.length : Int) (wrap64 (x19_1 + 1))) = some (r1, r2) := by rw [if_neg (show ¬ (false = true) by decide)] at H; exact H
 clear H
 have H := H1
 clear H1
 have H' := Aside0.mk H
 clear H
 have hcz24_0 : wr.cell? ⟨gb163, 0, none⟩ = some (.int .i64 ((rd_T87 t159 x19_1).f0)) := (blk_cell BK163.out 0).trans rfl
 have hcz24_1 : wr.cell? ⟨gb163, 1, none⟩ = some (.int .i64 ((rd_T87 t159 x19_1).f1)) := (blk_cell BK163.out 1).trans rfl
 have hcz24_2 : wr.cell? ⟨gb163, 2, none⟩ = some (.string ((rd_T87 t159 x19_1).f2)) := (blk_cell BK163.out 2).trans rfl
 have hfz24_0 := blk_frozen BK163.out 0
 have hfz24_1 := blk_frozen BK163.out 1
 have hfz24_2 := blk_frozen BK163.out 2
 go_wp2_with (first | (go_at_call 76; (with_reducible refine (slices_Contains_string_string.calls k2 _ _ l1 ((rd_T87 t159 x19_1).f2) false _ ?side1 ?side2 A16.out).mono ?_); (case side1 => repeat (first | exact (Kd.C_below HR1.out HB.out) | (with_reducible refine Kd.C_alloc ?_ _) | (with_reducible refine Kd.C_drewN ?_ _) | (with_reducible refine Kd.C_drew ?_))); (case side2 => exact HC1.out); rintro e w' ⟨rfl, ⟨nd, rfl⟩⟩))
 go_roundg k2
 case measure => have := HK1.out; have := HK2.out; omega
 case rel => exact ⟨(x6_2), (wrap64 (x19_1 + 1)), s1_, H', ⟨by have := HK1.out; have := HK2.out; omega⟩, ⟨by (with_reducible repeat (first | apply Kd.B_alloc | apply Kd.B_drewN | apply Kd.B_drew)); exact HO_6.out⟩, ⟨by (with_reducible repeat (first | apply Kd.R_alloc | apply Kd.R_drewN | apply Kd.R_drew)); exact Kd.R_mono HO_17.out (fun _ hk => trivial)⟩, ⟨by repeat (first | (with_reducible first | exact HB.out | apply below_alloc | apply pw_below_drewN | apply below_drew1 | refine below_set ?_ GE163.out) | exact HB.out)⟩⟩}}
 {
 rw [if_neg c15] at H
 have c15b0 : decide (x9_2 < ((rd_T87 t159 x19_1).f1)) = false := decide_eq_false c15
 clear c15
 have H' := Aside0.mk H
 clear H
 have hcz25_0 : wr.cell? ⟨gb163, 0, none⟩ = some (.int .i64 ((rd_T87 t159 x19_1).f0)) := (blk_cell BK163.out 0).trans rfl
 have hcz25_1 : wr.cell? ⟨gb163, 1, none⟩ = some (.int .i64 ((rd_T87 t159 x19_1).f1)) := (blk_cell BK163.out 1).trans rfl
 have hcz25_2 : wr.cell? ⟨gb163, 2, none⟩ = some (.string ((rd_T87 t159 x19_1).f2)) := (blk_cell BK163.out 2).trans rfl
 have hfz25_0 := blk_frozen BK163.out 0
 have hfz25_1 := blk_frozen BK163.out 1
 have hfz25_2 := blk_frozen BK163.out 2
 go_wp2
 go_roundg k2
 case measure => have := HK1.out; have := HK2.out; omega
 case rel => exact ⟨(x6_2), (wrap64 (x19_1 + 1)), s1_, H', ⟨by have := HK1.out; have := HK2.out; omega⟩, ⟨by (with_reducible repeat (first | apply Kd.B_alloc | apply Kd.B_drewN | apply Kd.B_drew)); exact HO_6.out⟩, ⟨by (with_reducible repeat (first | apply Kd.R_alloc | apply Kd.R_drewN | apply Kd.R_drew)); exact Kd.R_mono HO_17.out (fun _ hk => trivial)⟩, ⟨by repeat (first | (with_reducible first | exact HB.out | apply below_alloc | apply pw_below_drewN | apply below_drew1 | refine below_set ?_ GE163.out) | exact HB.out)⟩⟩}}}}
 {
 rw [if_neg c12] at H
 exact absurd H (by simp)}}
 {
 rw [if_neg c11] at H
 exact absurd H (by simp)}}
 {
 rw [if_neg c10] at H
 have c10b0 : decide (x19_1 < (t159.length : Int)) = false := decide_eq_false c10
 clear c10
 simp only [Option.some.injEq, Prod.mk.injEq] at H
 obtain ⟨rfl, rfl⟩ := H
 have hcv26 := Kd.B_string (P := Try.prog) Try.underlying55 Try.underlying5 Try.underlying9 (HO_6.out)
 go_wp2
 go_ret2
 exact ⟨by first | rfl | (simp [errW_none, errW_some] <;> rfl) | (simp [*, errW_none, errW_some] <;> rfl), by repeat (first | (with_reducible first | exact HB.out | apply below_alloc | apply pw_below_drewN | apply below_drew1) | exact HB.out)⟩}}}}
 {
 replace c4 := Bool.eq_false_iff.mpr c4
 subst c4
 have H1 : (some ((⟨#[]⟩ : ByteArray), false)) = some (r1, r2) := by rw [if_neg (show ¬ (false = true) by decide)] at H; exact H
 clear H
 have H := H1
 clear H1
 simp only [Option.some.injEq, Prod.mk.injEq] at H
 obtain ⟨rfl, rfl⟩ := H
 go_enter Try.func37, Try.ntmps37
 go_wp2_with (first | ((with_reducible refine gate_callee (f := 74) rfl ?_); refine goesL_ (some 12) rfl rfl Try.func74 s2_ rfl #[.string a0, .slice A1 l1.length c1] rfl s3_ ?_; (with_reducible refine (impl_badOk.calls k a0 _ _ l1 false _ ?side1 ?side2 A3.out).mono ?_); (case side1 => repeat (first | exact HR1.out | (with_reducible refine Kd.C_alloc ?_ _) | (with_reducible refine Kd.C_drewN ?_ _) | (with_reducible refine Kd.C_drew ?_))); (case side2 => exact HC1.out); rintro e w' ⟨rfl, ⟨nd, rfl⟩⟩; refine ⟨_, rfl, ?_⟩))
 go_ret2
 exact ⟨by first | rfl | (simp [errW_none, errW_some] <;> rfl) | (simp [*, errW_none, errW_some] <;> rfl), by repeat (first | (with_reducible first | exact HB.out | apply below_alloc | apply pw_below_drewN | apply below_drew1) | exact HB.out)⟩}

/-! ### laws_FnExactCensorText: function 7 -/
abbrev laws_FnExactCensorText.T : Bool := true
abbrev laws_FnExactCensorText.F : Bool := false
theorem laws_FnExactCensorText.s2_ {P : Prop} (h : P := by kernel_rfl) : P := h
theorem laws_FnExactCensorText.s3_ {P : Prop} (h : P := by (try simp only [List.map_toArray, List.map_cons, List.map_nil]); first | done | rfl | (simp only [List.length_drop, List.length_take]; rfl)) : P := h
theorem laws_FnExactCensorText.b2_ {P Q : Prop} (q : Q) (h : Q → P := by intro q_; (with_reducible repeat (first | apply Kd.R_alloc | apply Kd.R_drewN | apply Kd.R_drew)); exact q_) : P := h q
def laws_FnExactCensorText.j0 : Nat → List ByteArray → List ByteArray → Bool → Option (Bool)
  | 0, _, _, _ => none
  | k + 1, x1, x8, x41 => if x41 = true then (some false) else ((laws_toStringS.f k x1).bind fun t177 => ((laws_eqStringS.f k x8 t177).bind fun t180 => (if t180 = true then (some true) else (some false))))
def laws_FnExactCensorText.f (k : Nat) (a0 : ByteArray) (l1 : List ByteArray) : Option (Bool) := if (a0.size : Int) > 1048576 then (some true) else ((laws_szStringS.f k l1 1048576).bind fun t166 => (if t166 < 0 then (some true) else ((laws_toStringS.f k l1).bind fun t167 => ((spec_CensorText.f k a0 t167).bind fun bt170 => ((laws_toStringS.f k l1).bind fun t172 => ((impl_CensorText.f k a0 t172).bind fun bt175 => (if bt175.1.toList = bt170.1.toList then (laws_FnExactCensorText.j0 k l1 t172 (bt175.2 != bt170.2)) else (laws_FnExactCensorText.j0 k l1 t172 true))))))))
theorem laws_FnExactCensorText.mono_l : ∀ k, (∀ y0 y1 y2, LeO (laws_FnExactCensorText.j0 k y0 y1 y2) (laws_FnExactCensorText.j0 (k + 1) y0 y1 y2))
  | 0 => fun _ _ _ r h => by simp [laws_FnExactCensorText.j0] at h
  | k + 1 => by
    have ih0 := laws_FnExactCensorText.mono_l k
    · intro y0 y1 y2
      unfold laws_FnExactCensorText.j0
      repeat' first
      | (with_reducible exact ih0 _ _ _)
      | (with_reducible exact impl_CensorText.mono _ _ _)
      | (with_reducible exact laws_eqStringS.mono _ _ _)
      | (with_reducible exact laws_szStringS.mono _ _ _)
      | (with_reducible exact laws_toStringS.mono _ _)
      | (with_reducible exact spec_CensorText.mono _ _ _)
      | (with_reducible exact LeO.refl _)
      | (with_reducible exact LeO.none _)
      | (with_reducible refine LeO.ite ?_ ?_)
      | (with_reducible refine LeO.bind ?_ (fun _ => ?_))
      | exact ih0 _ _ _
      | exact impl_CensorText.mono _ _ _
      | exact laws_eqStringS.mono _ _ _
      | exact laws_szStringS.mono _ _ _
      | exact laws_toStringS.mono _ _
      | exact spec_CensorText.mono _ _ _
      | exact LeO.none _
      | refine LeO.ite ?_ ?_
      | refine LeO.bind ?_ (fun _ => ?_)
theorem laws_FnExactCensorText.mono : ∀ a0 a1 k, LeO (laws_FnExactCensorText.f k a0 a1) (laws_FnExactCensorText.f (k + 1) a0 a1) := by
  intro a0 a1 k
  have ih0 := laws_FnExactCensorText.mono_l k
  unfold laws_FnExactCensorText.f
  repeat' first
      | (with_reducible exact ih0 _ _ _)
      | (with_reducible exact impl_CensorText.mono _ _ _)
      | (with_reducible exact laws_eqStringS.mono _ _ _)
      | (with_reducible exact laws_szStringS.mono _ _ _)
      | (with_reducible exact laws_toStringS.mono _ _)
      | (with_reducible exact spec_CensorText.mono _ _ _)
      | (with_reducible exact LeO.refl _)
      | (with_reducible exact LeO.none _)
      | (with_reducible refine LeO.ite ?_ ?_)
      | (with_reducible refine LeO.bind ?_ (fun _ => ?_))
      | exact ih0 _ _ _
      | exact impl_CensorText.mono _ _ _
      | exact laws_eqStringS.mono _ _ _
      | exact laws_szStringS.mono _ _ _
      | exact laws_toStringS.mono _ _
      | exact spec_CensorText.mono _ _ _
      | exact LeO.none _
      | refine LeO.ite ?_ ?_
      | refine LeO.bind ?_ (fun _ => ?_)
set_option maxHeartbeats 8000000 in
set_option maxRecDepth 100000 in
theorem laws_FnExactCensorText.calls (k : Nat) (a0 : ByteArray) (A1 : Option Addr) (c1 : Nat) (l1 : List ByteArray) (r : Bool) (w : World) (hr1 : Kd.C Kd.string w A1 l1.length l1) (hc1 : l1.length ≤ c1) (h : laws_FnExactCensorText.f k a0 l1 = some r) :
    Calls Try.prog 7 #[.string a0, .slice A1 l1.length c1] w fun e w' => e = .returned (.bool r) ∧ Below w.heap.size w w' := by
 have HR1 := Aside0.mk hr1
 have HC1 := Aside0.mk hc1
 clear hr1 hc1
 have HB := Aside0.mk (Below.refl w.heap.size w)
 have H : (if (a0.size : Int) > 1048576 then (some true) else ((laws_szStringS.f k l1 1048576).bind fun t166 => (if t166 < 0 then (some true) else ((laws_toStringS.f k l1).bind fun t167 => ((spec_CensorText.f k a0 t167).bind fun bt170 => ((laws_toStringS.f k l1).bind fun t172 => ((impl_CensorText.f k a0 t172).bind fun bt175 => (if bt175.1.toList = bt170.1.toList then (laws_FnExactCensorText.j0 k l1 t172 (bt175.2 != bt170.2)) else (laws_FnExactCensorText.j0 k l1 t172 true))))))))) = some r := h
 clear h
 by_cases c3 : (a0.size : Int) > 1048576
 {
 rw [if_pos c3] at H
 have c3b0 : decide (1048576 < (a0.size : Int)) = true := decide_eq_true c3
 have c3b1 : decide (1048576 < a0.size) = true := decide_eq_true (by omega)
 clear c3
 obtain rfl := Option.some.inj H
 go_enter Try.func7, Try.ntmps7
 go_wp2
 go_ret
 exact ⟨by first | rfl | (simp [errW_none, errW_some] <;> rfl) | (simp [*, errW_none, errW_some] <;> rfl), by repeat (first | (with_reducible first | exact HB.out | apply below_alloc | apply pw_below_drewN | apply below_drew1) | exact HB.out)⟩}
 {
 rw [if_neg c3] at H
 have c3b0 : decide (1048576 < (a0.size : Int)) = false := decide_eq_false c3
 have c3b1 : decide (1048576 < a0.size) = false := decide_eq_false (by omega)
 clear c3
 replace H := Option.bind_eq_some_iff.mp H
 obtain ⟨t166, A40, H⟩ := H
 replace H : (if t166 < 0 then (some true) else ((laws_toStringS.f k l1).bind fun t167 => ((spec_CensorText.f k a0 t167).bind fun bt170 => ((laws_toStringS.f k l1).bind fun t172 => ((impl_CensorText.f k a0 t172).bind fun bt175 => (if bt175.1.toList = bt170.1.toList then (laws_FnExactCensorText.j0 k l1 t172 (bt175.2 != bt170.2)) else (laws_FnExactCensorText.j0 k l1 t172 true))))))) = some r := H
 have A4 := Aside0.mk A40
 clear A40
 by_cases c5 : t166 < 0
 {
 rw [if_pos c5] at H
 have c5b0 : decide (t166 < 0) = true := decide_eq_true c5
 clear c5
 obtain rfl := Option.some.inj H
 go_enter Try.func7, Try.ntmps7
 go_wp2_with (first | ((with_reducible refine gate_callee (f := 13) rfl ?_); refine goesL_ (some 16) rfl rfl Try.func13 s2_ rfl #[.slice A1 l1.length c1, .int .i64 1048576] rfl s3_ ?_; (with_reducible refine (laws_szStringS.calls k _ _ l1 1048576 t166 _ ?side1 ?side2 A4.out).mono ?_); (case side1 => repeat (first | exact HR1.out | (with_reducible refine Kd.C_alloc ?_ _) | (with_reducible refine Kd.C_drewN ?_ _) | (with_reducible refine Kd.C_drew ?_))); (case side2 => exact HC1.out); rintro e w' ⟨rfl, ⟨nd, rfl⟩⟩; refine ⟨_, rfl, ?_⟩))
 go_ret
 exact ⟨by first | rfl | (simp [errW_none, errW_some] <;> rfl) | (simp [*, errW_none, errW_some] <;> rfl), by repeat (first | (with_reducible first | exact HB.out | apply below_alloc | apply pw_below_drewN | apply below_drew1) | exact HB.out)⟩}
 {
 rw [if_neg c5] at H
 have c5b0 : decide (t166 < 0) = false := decide_eq_false c5
 clear c5
 replace H := Option.bind_eq_some_iff.mp H
 obtain ⟨t167, A60, H⟩ := H
 replace H : ((spec_CensorText.f k a0 t167).bind fun bt170 => ((laws_toStringS.f k l1).bind fun t172 => ((impl_CensorText.f k a0 t172).bind fun bt175 => (if bt175.1.toList = bt170.1.toList then (laws_FnExactCensorText.j0 k l1 t172 (bt175.2 != bt170.2)) else (laws_FnExactCensorText.j0 k l1 t172 true))))) = some r := H
 have A6 := Aside0.mk A60
 clear A60
 replace H := Option.bind_eq_some_iff.mp H
 obtain ⟨⟨t170, t171⟩, A70, H⟩ := H
 replace H : ((laws_toStringS.f k l1).bind fun t172 => ((impl_CensorText.f k a0 t172).bind fun bt175 => (if bt175.1.toList = t170.toList then (laws_FnExactCensorText.j0 k l1 t172 (bt175.2 != t171)) else (laws_FnExactCensorText.j0 k l1 t172 true)))) = some r := H
 have A7 := Aside0.mk A70
 clear A70
 replace H := Option.bind_eq_some_iff.mp H
 obtain ⟨t172, A80, H⟩ := H
 replace H : ((impl_CensorText.f k a0 t172).bind fun bt175 => (if bt175.1.toList = t170.toList then (laws_FnExactCensorText.j0 k l1 t172 (bt175.2 != t171)) else (laws_FnExactCensorText.j0 k l1 t172 true))) = some r := H
 have A8 := Aside0.mk A80
 clear A80
 replace H := Option.bind_eq_some_iff.mp H
 obtain ⟨⟨t175, t176⟩, A90, H⟩ := H
 replace H : (if t175.toList = t170.toList then (laws_FnExactCensorText.j0 k l1 t172 (t176 != t171)) else (laws_FnExactCensorText.j0 k l1 t172 true)) = some r := H
 have A9 := Aside0.mk A90
 clear A90
 have HC10 := Aside0.mk H
 clear H
 go_enter Try.func7, Try.ntmps7
 go_upto_region 10 with (first | ((with_reducible refine gate_callee (f := 13) rfl ?_); refine goesL_ (some 16) rfl rfl Try.func13 s2_ rfl #[.slice A1 l1.length c1, .int .i64 1048576] rfl s3_ ?_; (with_reducible refine (laws_szStringS.calls k _ _ l1 1048576 t166 _ ?side1 ?side2 A4.out).mono ?_); (case side1 => repeat (first | exact HR1.out | (with_reducible refine Kd.C_alloc ?_ _) | (with_reducible refine Kd.C_drewN ?_ _) | (with_reducible refine Kd.C_drew ?_))); (case side2 => exact HC1.out); rintro e w' ⟨rfl, ⟨nd, rfl⟩⟩; refine ⟨_, rfl, ?_⟩) | ((with_reducible refine gate_callee (f := 15) rfl ?_); refine goesL_ (some 22) rfl rfl Try.func15 s2_ rfl #[.slice A1 l1.length c1] rfl s3_ ?_; (with_reducible refine (laws_toStringS.calls k _ _ l1 t167 _ ?side1 ?side2 A6.out).mono ?_); (case side1 => repeat (first | exact HR1.out | (with_reducible refine Kd.C_alloc ?_ _) | (with_reducible refine Kd.C_drewN ?_ _) | (with_reducible refine Kd.C_drew ?_))); (case side2 => exact HC1.out); rintro e w11 ⟨v168, rfl, ho0, hb⟩; refine ⟨_, rfl, ?_⟩; have n0_ := Aside0.mk (Kd.R_lower ho0 (below_size (by repeat (first | (with_reducible first | exact HB.out | apply below_alloc | apply pw_below_drewN | apply below_drew1) | exact HB.out)))); have n1_ := Aside0.mk (below_step (by repeat (first | (with_reducible first | exact HB.out | apply below_alloc | apply pw_below_drewN | apply below_drew1) | exact HB.out)) hb); clear HB; have HO169 := n0_; have HB := n1_; clear n0_ n1_; (try clear hb); (try clear hb2); (try clear hk); (try clear hi); (try clear ho0); obtain ⟨Ao12, co12, eo12⟩ := Kd.R_slice HO169.out; subst eo12) | ((with_reducible refine gate_callee (f := 36) rfl ?_); refine goesL_ (some 23) rfl rfl Try.func36 s2_ rfl #[.string a0, .slice Ao12 t167.length co12] rfl s3_ ?_; (with_reducible refine (spec_CensorText.calls k a0 _ _ t167 t170 t171 _ ?side1 ?side2 A7.out).mono ?_); (case side1 => repeat (first | exact (Kd.R_reads' HO169.out).2.2 | (with_reducible refine Kd.C_alloc ?_ _) | (with_reducible refine Kd.C_drewN ?_ _) | (with_reducible refine Kd.C_drew ?_))); (case side2 => exact (Kd.R_reads' HO169.out).2.1); rintro e w13 ⟨rfl, hb⟩; refine ⟨_, rfl, ?_⟩; have n0_ := Aside0.mk (Kd.R_below (b2_ HO169.out) hb); have n1_ := Aside0.mk (below_step (by repeat (first | (with_reducible first | exact HB.out | apply below_alloc | apply pw_below_drewN | apply below_drew1) | exact HB.out)) hb); clear HO169; clear HB; have HO169 := n0_; have HB := n1_; clear n0_ n1_; (try clear hb); (try clear hb2); (try clear hk); (try clear hi)) | ((with_reducible refine gate_callee (f := 15) rfl ?_); refine goesL_ (some 27) rfl rfl Try.func15 s2_ rfl #[.slice A1 l1.length c1] rfl s3_ ?_; (with_reducible refine (laws_toStringS.calls k _ _ l1 t172 _ ?side1 ?side2 A8.out).mono ?_); (case side1 => repeat (first | exact (Kd.C_below HR1.out HB.out) | (with_reducible refine Kd.C_alloc ?_ _) | (with_reducible refine Kd.C_drewN ?_ _) | (with_reducible refine Kd.C_drew ?_))); (case side2 => exact HC1.out); rintro e w14 ⟨v173, rfl, ho0, hb⟩; refine ⟨_, rfl, ?_⟩; have n0_ := Aside0.mk (Kd.R_elder' (b2_ HO169.out) (Kd.R_base ho0) hb); have n1_ := Aside0.mk (Kd.R_lower (Kd.R_new' ho0 (Kd.R_lt (b2_ HO169.out))) (below_size (by repeat (first | (with_reducible first | exact HB.out | apply below_alloc | apply pw_below_drewN | apply below_drew1) | exact HB.out)))); have n2_ := Aside0.mk (below_step (by repeat (first | (with_reducible first | exact HB.out | apply below_alloc | apply pw_below_drewN | apply below_drew1) | exact HB.out)) hb); clear HO169; clear HB; have HO169 := n0_; have HO174 := n1_; have HB := n2_; clear n0_ n1_ n2_; (try clear hb); (try clear hb2); (try clear hk); (try clear hi); (try clear ho0); obtain ⟨Ao15, co15, eo15⟩ := Kd.R_slice HO174.out; subst eo15) | ((with_reducible refine gate_callee (f := 37) rfl ?_); refine goesL_ (some 31) rfl rfl Try.func37 s2_ rfl #[.string a0, .slice Ao15 t172.length co15] rfl s3_ ?_; (with_reducible refine (impl_CensorText.calls k a0 _ _ t172 t175 t176 _ ?side1 ?side2 A9.out).mono ?_); (case side1 => repeat (first | exact (Kd.R_reads' HO174.out).2.2 | (with_reducible refine Kd.C_alloc ?_ _) | (with_reducible refine Kd.C_drewN ?_ _) | (with_reducible refine Kd.C_drew ?_))); (case side2 => exact (Kd.R_reads' HO174.out).2.1); rintro e w16 ⟨rfl, hb⟩; refine ⟨_, rfl, ?_⟩; have n0_ := Aside0.mk (Kd.R_below (b2_ HO169.out) hb); have n1_ := Aside0.mk (Kd.R_below (b2_ HO174.out) hb); have n2_ := Aside0.mk (below_step (by repeat (first | (with_reducible first | exact HB.out | apply below_alloc | apply pw_below_drewN | apply below_drew1) | exact HB.out)) hb); clear HO169; clear HO174; clear HB; have HO169 := n0_; have HO174 := n1_; have HB := n2_; clear n0_ n1_ n2_; (try clear hb); (try clear hb2); (try clear hk); (try clear hi)))
 (try simp only [Act.put, List.setIfInBounds_toArray, List.set_cons_zero, List.set_cons_succ])
 go_cut [41] (fun v41 wc => ∃ (kq : Nat) (x41_9 : Bool), v41 = .bool x41_9 ∧ Aside0 (laws_FnExactCensorText.j0 kq l1 t172 x41_9 = some r) ∧ Aside0 (kq ≤ k) ∧ Aside0 (Kd.R Kd.string 9 wc w.heap.size (fun _ => True) (.slice Ao15 t172.length co15) t172) ∧ Aside0 (Below w.heap.size w wc))
 case first =>
  skip
  {
 have H := HC10.out
 clear HC10
 by_cases c17 : t175.toList = t170.toList
 {
 rw [if_pos c17] at H
 have c17b0 : (t175.toList == t170.toList) = true := beq_iff_eq.mpr c17
 have c17b1 : (t175.toList != t170.toList) = false := bne_eq_false_iff_eq.mpr c17
 clear c17
 (first | rw [c17b0] | (simp only [i64_w, i32_w]; rw [c17b0]) | skip)
 have H' := Aside0.mk H
 clear H
 go_wp2
 go_meet
 case rel => exact ⟨_, ((t176 != t171)), (by first | rfl | (simp; done) | (simp [*]; done)), H', ⟨by first | omega | exact Nat.le_refl _⟩, ⟨by (with_reducible repeat (first | apply Kd.R_alloc | apply Kd.R_drewN | apply Kd.R_drew)); exact Kd.R_mono HO174.out (fun _ hk => trivial)⟩, ⟨by repeat (first | (with_reducible first | exact HB.out | apply below_alloc | apply pw_below_drewN | apply below_drew1) | exact HB.out)⟩⟩}
 {
 rw [if_neg c17] at H
 have c17b0 : (t175.toList == t170.toList) = false := beq_eq_false_iff_ne.mpr c17
 have c17b1 : (t175.toList != t170.toList) = true := bne_iff_ne.mpr c17
 (first | rw [c17b0] | (simp only [i64_w, i32_w]; rw [c17b0]) | skip)
 have H' := Aside0.mk H
 clear H
 go_wp2
 go_meet
 case rel => exact ⟨_, (true), (by first | rfl | (simp; done) | (simp [*]; done)), H', ⟨by first | omega | exact Nat.le_refl _⟩, ⟨by (with_reducible repeat (first | apply Kd.R_alloc | apply Kd.R_drewN | apply Kd.R_drew)); exact Kd.R_mono HO174.out (fun _ hk => trivial)⟩, ⟨by repeat (first | (with_reducible first | exact HB.out | apply below_alloc | apply pw_below_drewN | apply below_drew1) | exact HB.out)⟩⟩}}
 case rest =>
  skip
  {
 clear HC10
 try clear c1
 try clear p2
 try clear c3
 try clear c3b0
 try clear c3b1
 try clear c5
 try clear c5b0
 try clear c7
 try clear c13
 try clear c15
 try clear c17
 try clear c17b0
 try clear c17b1
 obtain ⟨kq, x41_9, rfl, HA, HJ9, HO_8, HB⟩ := hcut
 cases kq with
 | zero => exact absurd HA.out (by simp [laws_FnExactCensorText.j0])
 | succ kj9 =>
  skip
  {
 have H := HA.out
 clear HA
 simp only [laws_FnExactCensorText.j0] at H
 by_cases c18 : x41_9 = true
 {
 subst c18
 have H1 : (some false) = some r := by rw [if_pos rfl] at H; exact H
 clear H
 have H := H1
 clear H1
 obtain rfl := Option.some.inj H
 go_wp2
 go_ret
 exact ⟨by first | rfl | (simp [errW_none, errW_some] <;> rfl) | (simp [*, errW_none, errW_some] <;> rfl), by repeat (first | (with_reducible first | exact HB.out | apply below_alloc | apply pw_below_drewN | apply below_drew1) | exact HB.out)⟩}
 {
 replace c18 := Bool.eq_false_iff.mpr c18
 subst c18
 have H1 : ((laws_toStringS.f kj9 l1).bind fun t177 => ((laws_eqStringS.f kj9 t172 t177).bind fun t180 => (if t180 = true then (some true) else (some false)))) = some r := by rw [if_neg (show ¬ (false = true) by decide)] at H; exact H
 clear H
 have H := H1
 clear H1
 replace H := Option.bind_eq_some_iff.mp H
 obtain ⟨t177, A190, H⟩ := H
 replace H : ((laws_eqStringS.f kj9 t172 t177).bind fun t180 => (if t180 = true then (some true) else (some false))) = some r := H
 have A19 := Aside0.mk A190
 clear A190
 replace H := Option.bind_eq_some_iff.mp H
 obtain ⟨t180, A200, H⟩ := H
 replace H : (if t180 = true then (some true) else (some false)) = some r := H
 have A20 := Aside0.mk A200
 clear A200
 by_cases c21 : t180 = true
 {
 subst c21
 have H1 : (some true) = some r := by rw [if_pos rfl] at H; exact H
 clear H
 have H := H1
 clear H1
 obtain rfl := Option.some.inj H
 go_wp2_with (first | ((with_reducible refine gate_callee (f := 15) rfl ?_); refine goesL_ (some 44) rfl rfl Try.func15 s2_ rfl #[.slice A1 l1.length c1] rfl s3_ ?_; (with_reducible refine (laws_toStringS.calls kj9 _ _ l1 t177 _ ?side1 ?side2 A19.out).mono ?_); (case side1 => repeat (first | exact (Kd.C_below HR1.out HB.out) | (with_reducible refine Kd.C_alloc ?_ _) | (with_reducible refine Kd.C_drewN ?_ _) | (with_reducible refine Kd.C_drew ?_))); (case side2 => exact HC1.out); rintro e w22 ⟨v178, rfl, ho0, hb⟩; refine ⟨_, rfl, ?_⟩; have n0_ := Aside0.mk (Kd.R_elder' (b2_ HO_8.out) (Kd.R_base ho0) hb); have n1_ := Aside0.mk (Kd.R_lower (Kd.R_new' ho0 (Kd.R_lt (b2_ HO_8.out))) (below_size (by repeat (first | (with_reducible first | exact HB.out | apply below_alloc | apply pw_below_drewN | apply below_drew1) | exact HB.out)))); have n2_ := Aside0.mk (below_step (by repeat (first | (with_reducible first | exact HB.out | apply below_alloc | apply pw_below_drewN | apply below_drew1) | exact HB.out)) hb); clear HO_8; clear HB; have HO_8 := n0_; have HO179 := n1_; have HB := n2_; clear n0_ n1_ n2_; (try clear hb); (try clear hb2); (try clear hk); (try clear hi); (try clear ho0); obtain ⟨Ao23, co23, eo23⟩ := Kd.R_slice HO179.out; subst eo23) | ((with_reducible refine gate_callee (f := 17) rfl ?_); refine goesL_ (some 45) rfl rfl Try.func17 s2_ rfl #[.slice Ao15 t172.length co15, .slice Ao23 t177.length co23] rfl s3_ ?_; (with_reducible refine (laws_eqStringS.calls kj9 _ _ t172 _ _ t177 true _ ?side1 ?side2 ?side3 ?side4 A20.out).mono ?_); (case side1 => repeat (first | exact (Kd.R_reads' HO_8.out).2.2 | (with_reducible refine Kd.C_alloc ?_ _) | (with_reducible refine Kd.C_drewN ?_ _) | (with_reducible refine Kd.C_drew ?_))); (case side2 => exact (Kd.R_reads' HO_8.out).2.1); (case side3 => repeat (first | exact (Kd.R_reads' HO179.out).2.2 | (with_reducible refine Kd.C_alloc ?_ _) | (with_reducible refine Kd.C_drewN ?_ _) | (with_reducible refine Kd.C_drew ?_))); (case side4 => exact (Kd.R_reads' HO179.out).2.1); rintro e w' ⟨rfl, ⟨nd, rfl⟩⟩; refine ⟨_, rfl, ?_⟩))
 go_ret
 exact ⟨by first | rfl | (simp [errW_none, errW_some] <;> rfl) | (simp [*, errW_none, errW_some] <;> rfl), by repeat (first | (with_reducible first | exact HB.out | apply below_alloc | apply pw_below_drewN | apply below_drew1) | exact HB.out)⟩}
 {
 replace c21 := Bool.eq_false_iff.mpr c21
 subst c21
 have H1 : (some false) = some r := by rw [if_neg (show ¬ (false = true) by decide)] at H; exact H
 clear H
 have H := H1
 clear H1
 obtain rfl := Option.some.inj H
 go_wp2_with (first | ((with_reducible refine gate_callee (f := 15) rfl ?_); refine goesL_ (some 44) rfl rfl Try.func15 s2_ rfl #[.slice A1 l1.length c1] rfl s3_ ?_; (with_reducible refine (laws_toStringS.calls kj9 _ _ l1 t177 _ ?side1 ?side2 A19.out).mono ?_); (case side1 => repeat (first | exact (Kd.C_below HR1.out HB.out) | (with_reducible refine Kd.C_alloc ?_ _) | (with_reducible refine Kd.C_drewN ?_ _) | (with_reducible refine Kd.C_drew ?_))); (case side2 => exact HC1.out); rintro e w24 ⟨v178, rfl, ho0, hb⟩; refine ⟨_, rfl, ?_⟩; have n0_ := Aside0.mk (Kd.R_elder' (b2_ HO_8.out) (Kd.R_base ho0) hb); have n1_ := Aside0.mk (Kd.R_lower (Kd.R_new' ho0 (Kd.R_lt (b2_ HO_8.out))) (below_size (by repeat (first | (with_reducible first | exact HB.out | apply below_alloc | apply pw_below_drewN | apply below_drew1) | exact HB.out)))); have n2_ := Aside0.mk (below_step (by repeat (first | (with_reducible first | exact HB.out | apply below_alloc | apply pw_below_drewN | apply below_drew1) | exact HB.out)) hb); clear HO_8; clear HB; have HO_8 := n0_; have HO179 := n1_; have HB := n2_; clear n0_ n1_ n2_; (try clear hb); (try clear hb2); (try clear hk); (try clear hi); (try clear ho0); obtain ⟨Ao25, co25, eo25⟩ := Kd.R_slice HO179.out; subst eo25) | ((with_reducible refine gate_callee (f := 17) rfl ?_); refine goesL_ (some 45) rfl rfl Try.func17 s2_ rfl #[.slice Ao15 t172.length co15, .slice Ao25 t177.length co25] rfl s3_ ?_; (with_reducible refine (laws_eqStringS.calls kj9 _ _ t172 _ _ t177 false _ ?side1 ?side2 ?side3 ?side4 A20.out).mono ?_); (case side1 => repeat (first | exact (Kd.R_reads' HO_8.out).2.2 | (with_reducible refine Kd.C_alloc ?_ _) | (with_reducible refine Kd.C_drewN ?_ _) | (with_reducible refine Kd.C_drew ?_))); (case side2 => exact (Kd.R_reads' HO_8.out).2.1); (case side3 => repeat (first | exact (Kd.R_reads' HO179.out).2.2 | (with_reducible refine Kd.C_alloc ?_ _) | (with_reducible refine Kd.C_drewN ?_ _) | (with_reducible refine Kd.C_drew ?_))); (case side4 => exact (Kd.R_reads' HO179.out).2.1); rintro e w' ⟨rfl, ⟨nd, rfl⟩⟩; refine ⟨_, rfl, ?_⟩))
 go_ret
 exact ⟨by first | rfl | (simp [errW_none, errW_some] <;> rfl) | (simp [*, errW_none, errW_some] <;> rfl), by repeat (first | (with_reducible first | exact HB.out | apply below_alloc | apply pw_below_drewN | apply below_drew1) | exact HB.out)⟩}}}}}}

/-- THE ONE PURE STATEMENT of laws_FnExactCensorText: yours. -/
def laws_FnExactCensorText.Pure : Prop := ∀ (a0 : ByteArray) (l1 : List ByteArray), (a0.size ≤ 140737488351232) → (l1.length ≤ maxLen ∧ l1.length * 16 ≤ 140737488351232 ∧ ∀ y0_ ∈ l1, y0_.size ≤ 140737488351232) → ∃ k, laws_FnExactCensorText.f k a0 l1 = some true
theorem laws_FnExactCensorText.walk (P : laws_FnExactCensorText.Pure) (a0 : ByteArray) (A1 : Option Addr) (c1 : Nat) (l1 : List ByteArray) (w : World) (hr1 : Kd.C Kd.string w A1 l1.length l1) (hc1 : l1.length ≤ c1) (F0 : a0.size ≤ 140737488351232) (F1 : l1.length ≤ maxLen ∧ l1.length * 16 ≤ 140737488351232 ∧ ∀ y0_ ∈ l1, y0_.size ≤ 140737488351232) :
    Calls Try.prog 7 #[.string a0, .slice A1 l1.length c1] w fun e w' => e = .returned (.bool true) ∧ Below w.heap.size w w' := by
  obtain ⟨k, h⟩ := P a0 l1 F0 F1
  refine (laws_FnExactCensorText.calls k a0 A1 c1 l1 true w hr1 hc1 h).mono ?_
  rintro e w' ⟨rfl, hd⟩
  exact ⟨rfl, hd⟩

end Go.Proofs.Ytjfaepolmllejaa.QFnExactCensorText
