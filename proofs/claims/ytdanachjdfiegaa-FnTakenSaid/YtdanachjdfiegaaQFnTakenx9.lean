-- by hand
import Derived.Test.YtdanachjdfiegaaQFnTakenx0
import Derived.Test.YtdanachjdfiegaaPl
import Derived.Test.YtdanachjdfiegaaWd
namespace Go.Proofs.Ytdanachjdfiegaa.QFnTaken
open Go.RowKit Go.Proofs.YtdanachjdfiegaaW.PrintWords Go.Proofs.YtdanachjdfiegaaW.PrintLast Go.Proofs.YtdanachjdfiegaaW.PrintMore
attribute [local go_sem] max2_int min2_int max_two min_two max_three min_three max_four min_four   -- for this text's walks alone
set_option linter.unusedVariables false
set_option linter.unusedSimpArgs false
/-- slices.Grow of nil. -/
theorem impl_Grow.none_ (w : World) : Calls Try.prog 99 #[.slice none 0 0, .int .i64 0] w fun e w' => e = .returned (.slice none 0 0) ∧ Below w.heap.size w w' := by
  go_enter Try.func99, Try.ntmps99
  go_wp2
  go_ret
  exact ⟨rfl, by first | exact Below.refl _ _ | exact below_drew (Below.refl _ _)⟩
set_option maxHeartbeats 4000000 in
set_option maxRecDepth 100000 in
theorem impl_Grow.some_ (n : Nat) (w : World) (h0 : 0 < n) (hn : n ≤ 1000) : Calls Try.prog 99 #[.slice none 0 0, .int .i64 n] w fun e w' =>
    e = .returned (.slice (some ⟨w.heap.size, 0, none⟩) 0 (grownCap w n 0 97)) ∧ w' = w.drew.alloc (.cells (Builtin.zeroCells ((.agg #[(.int .i64 0), (.int .i64 0)]) : Value).cells n ++ Builtin.zeroCells ((.agg #[(.int .i64 0), (.int .i64 0)]) : Value).cells (grownCap w n 0 97 - n)) 97) := by
  obtain ⟨i0, hi0, hz0, hzs, hzb⟩ := info_parts info97
  have h1 : ¬ ((n : Int) < 0) := by omega
  have h3 : wrap64 ((n : Int) - 0) = (n : Int) := by unfold wrap64; omega
  have h4 : ((n : Int) > 0) := by omega
  have hold : (Builtin.firstCells i0.size 0 (.slice none 0 0)).run Try.prog w.drew = .ok #[] w.drew := run_firstCells_none w.drew i0.size 0 0 0
  have hrz : ∀ ty, (Builtin.append_ #[56, 3] ty #[.slice none 0 0, .int .i64 (n : Int)]).run Try.prog w =
      .ok (.slice (some ⟨w.heap.size, 0, none⟩) n (grownCap w n 0 97)) (w.drew.alloc (.cells (Builtin.zeroCells ((.agg #[(.int .i64 0), (.int .i64 0)]) : Value).cells n ++ Builtin.zeroCells ((.agg #[(.int .i64 0), (.int .i64 0)]) : Value).cells (grownCap w n 0 97 - n)) 97)) := fun ty => by
    have h := Lib.run_append_grow_zeros w 56 3 ty 97 i0 _ .i64 .i64 Try.underlying56 Try.underlying3 hi0 hz0 none 0 0 [] (by simpa using hold) n h0 (by omega) (by omega) (by omega) (by rw [hzb]; omega) (by rw [hzb]; exact growslice_fits (by omega) (by omega))
    simpa using h
  obtain ⟨G, hG⟩ : ∃ G, G = grownCap w n 0 97 := ⟨_, rfl⟩
  have hGn : n ≤ G := by rw [hG]; exact grownCap_ge w _ _ _
  have hG63 : G ≤ 9223372036854775807 := by
    have := grownCap_le_maxLen w n 0 97 (by unfold maxLen; omega)
    rw [← hG] at this
    unfold maxLen at this
    omega
  rw [← hG] at hrz ⊢
  clear hold hG
  have mixed : Try.prog.follows Departure.mixedOrders = true := by kernel_rfl
  go_enter Try.func99, Try.ntmps99
  go_wp2_with (at_builtin; refine Lib.wpList_append_run _ rfl _ _ _ _ rfl _ _ rfl rfl _ _ (hrz _) ?_)
  all_goals (go_ret; exact ⟨rfl, rfl⟩)
theorem impl_Grow.calls (z : Int) (w : World) (h0 : 0 ≤ z) (hn : z ≤ 1000) : Calls Try.prog 99 #[.slice none 0 0, .int .i64 z] w fun e w' => ∃ v, e = .returned v ∧ Kd.R k97 97 w' w.heap.size (fun _ => True) v [] ∧ Below w.heap.size w w' := by
  obtain ⟨n, rfl⟩ := Int.eq_ofNat_of_zero_le h0
  rcases Nat.eq_zero_or_pos n with rfl | hp
  · refine (impl_Grow.none_ w).mono ?_
    rintro e w' ⟨rfl, hb⟩
    exact ⟨_, rfl, Kd.R_nil _ _ _ _ _, hb⟩
  · refine (impl_Grow.some_ n w hp (by omega)).mono ?_
    rintro e w' ⟨rfl, rfl⟩
    have hGm := grownCap_le_maxLen w n 0 97 (by unfold maxLen; omega)
    have hGn : n ≤ grownCap w n 0 97 := grownCap_ge w _ _ _
    generalize grownCap w n 0 97 = G at hGm hGn ⊢
    have hzc : (((.agg #[(.int .i64 0), (.int .i64 0)])) : Value).cells.size = 2 := rfl
    refine ⟨_, rfl, ?_, below_alloc (below_drew (Below.refl _ _)) _⟩
    refine Kd.R_of_block (d := k97) trivial (Nat.le_refl _) (heap_alloc_new w.drew _) rfl (Nat.zero_le _) hGm ?_ rfl (by simpa using Reps.none _ _)
    show _ = G * 2
    rw [Array.size_append, size_zeroCells, size_zeroCells, hzc]
    omega
theorem row_far {W : World} {B g : Nat} {ok : Nat → Prop} {v : Value} {l : List S97} (hg : g < B) (h : Kd.R k97 97 W B ok v l) : some g ≠ v.ownBlock := by
  intro e
  obtain ⟨_, inner, ⟨_, hn | ⟨g', cap', cur, hv, hb, _⟩⟩, _⟩ := h
  · rw [hn.1] at e
    cases e
  · rw [hv] at e
    have e2 : g = g' := by simpa [Value.ownBlock] using e
    omega
/-- The length of the first i of two. -/
def lens2 (a b : List S97) (i : Nat) : Int := if i = 0 then 0 else if i = 1 then (a.length : Int) else (a.length : Int) + (b.length : Int)
def cat2 (a b : List S97) (i : Nat) : List S97 := if i = 0 then [] else if i = 1 then a else a ++ b
set_option maxHeartbeats 8000000 in
set_option maxRecDepth 100000 in
theorem impl_Concat.calls (g : Nat) (A0 : Option Addr) (c0 : Nat) (a : List S97) (A1 : Option Addr) (c1 : Nat) (b : List S97) (w : World) (hbk : w.heap[g]? = some (.cells #[.slice A0 a.length c0, .slice A1 b.length c1] 56 (0, 0))) (hr0 : Kd.C k97 w A0 a.length a) (hc0 : a.length ≤ c0) (hr1 : Kd.C k97 w A1 b.length b) (hc1 : b.length ≤ c1) (la : a.length ≤ 100) (lb : b.length ≤ 100) :
    Calls Try.prog 68 #[.slice (some ⟨g, 0, none⟩) 2 2] w fun e w' => ∃ v, e = .returned v ∧ Kd.R k97 97 w' w.heap.size (fun _ => True) v (a ++ b) ∧ Below w.heap.size w w' := by
  have hu56 := Try.underlying56
  have hu140 := Try.underlying140
  have BK := Aside0.mk hbk
  have LA := Aside0.mk la
  have LB := Aside0.mk lb
  have HR0 := Aside0.mk hr0
  have HR1 := Aside0.mk hr1
  have HC0 := Aside0.mk hc0
  have HC1 := Aside0.mk hc1
  clear hbk hr0 hr1 hc0 hc1 la lb
  have hgs := Aside0.mk (blk_lt BK.out)
  have HB := Aside0.mk (Below.refl w.heap.size w)
  go_enter Try.func68, Try.ntmps68
  go_wp2
  go_loopg [3, 11] 3 (fun kq v3 v11 w' => ∃ (i : Nat) (z : Int), v3 = .int .i64 z ∧ v11 = .int .i64 (i : Int) ∧ Aside0 (z = lens2 a b i) ∧ Aside0 (i ≤ 2 ∧ kq + i = 3) ∧ Aside0 (w'.heap[g]? = some (.cells #[.slice A0 a.length c0, .slice A1 b.length c1] 56 (0, 0))) ∧ Aside0 (Below w.heap.size w w'))
  case atStart => exact ⟨0, 0, rfl, rfl, ⟨rfl⟩, ⟨by omega, by omega⟩, BK, HB⟩
  case round =>
    clear BK HB
    obtain ⟨i, z, rfl, rfl, HZ, HI, BK, HB⟩ := hrel
    cases gk with
    | zero => exact absurd HI.out (by omega)
    | succ k1 =>
      obtain hI := HI.out
      have hZ := HZ.out
      have hla := LA.out
      have hlb := LB.out
      obtain rfl | rfl | rfl : i = 0 ∨ i = 1 ∨ i = 2 := by omega
      · obtain rfl : z = 0 := hZ
        have hw1 : wrap64 (0 + (a.length : Int)) = (a.length : Int) := by unfold wrap64; omega
        have hw2 : ¬ ((a.length : Int) < 0) := by omega
        have e0 := blk_cell BK.out 0
        have e1 := blk_cell BK.out 1
        try simp at e0 e1
        go_wp2
        go_roundg k1
        case measure => omega
        case rel => exact ⟨1, (a.length : Int), rfl, rfl, ⟨rfl⟩, ⟨by omega, by omega⟩, BK, HB⟩
      · obtain rfl : z = (a.length : Int) := hZ
        have hw1 : wrap64 ((a.length : Int) + (b.length : Int)) = (a.length : Int) + (b.length : Int) := by unfold wrap64; omega
        have hw2 : ¬ ((a.length : Int) + (b.length : Int) < 0) := by omega
        have e0 := blk_cell BK.out 0
        have e1 := blk_cell BK.out 1
        try simp at e0 e1
        go_wp2
        go_roundg k1
        case measure => omega
        case rel => exact ⟨2, (a.length : Int) + (b.length : Int), rfl, rfl, ⟨rfl⟩, ⟨by omega, by omega⟩, BK, HB⟩
      · obtain rfl : z = (a.length : Int) + (b.length : Int) := hZ
        clear HI HZ
        go_wp2_with ((with_reducible refine gate_callee (f := 99) rfl ?_); refine goesL_ (some 24) rfl rfl Try.func99 s2_ rfl #[.slice none 0 0, .int .i64 ((a.length : Int) + (b.length : Int))] rfl s3_ ?_; refine (impl_Grow.calls _ _ (by omega) (by omega)).mono ?_; rintro e w1 ⟨v1, rfl, hg, hb⟩; obtain ⟨D, d, rfl⟩ := Kd.R_slice hg; refine ⟨_, rfl, ?_⟩; replace BK := Aside0.mk (blk_below BK.out hb); have HO := Aside0.mk (Kd.R_lower hg (below_size HB.out)); replace HB := Aside0.mk (below_step HB.out hb); clear hg hb)
        go_loopg [6, 27] 3 (fun kq v6 v27 w' => ∃ (i : Nat) (D : Option Addr) (d : Nat), v6 = .slice D (cat2 a b i).length d ∧ v27 = .int .i64 (i : Int) ∧ Aside0 (i ≤ 2 ∧ kq + i = 3) ∧ Aside0 (Kd.R k97 97 w' w.heap.size (fun _ => True) (.slice D (cat2 a b i).length d) (cat2 a b i)) ∧ Aside0 (w'.heap[g]? = some (.cells #[.slice A0 a.length c0, .slice A1 b.length c1] 56 (0, 0))) ∧ Aside0 (Below w.heap.size w w'))
        case atStart => exact ⟨0, D, d, rfl, rfl, ⟨by omega, by omega⟩, HO, BK, HB⟩
        case round =>
          clear BK HB HO
          obtain ⟨i, D, d, rfl, rfl, HI, HO, BK, HB⟩ := hrel
          cases gk with
          | zero => exact absurd HI.out (by omega)
          | succ k2 =>
            have hI2 := HI.out
            obtain rfl | rfl | rfl : i = 0 ∨ i = 1 ∨ i = 2 := by omega
            · have e0 := blk_cell BK.out 0
              have e1 := blk_cell BK.out 1
              try simp at e0 e1
              have HS := Aside0.mk (below_size HB.out)
              go_wp2_with (first | ((with_reducible refine gate_builtin (b := .append) (xs := #[.tmp 31, .tmp 32]) rfl ?_); at_builtin; refine Kd.R_append_rows k97 (w0 := w) w.heap.size rfl (.tmp 31) (.tmp 32) 56 97 (.agg #[(.int .i64 0), (.int .i64 0)]) 16 rfl Try.underlying56 info97 rfl (by decide) (by omega) (.slice D ([] : List S97).length d) ([] : List S97) a _ _ _ (fun _ => True) (fun _ => False) rfl rfl ?aO ?aR (fun _ _ h => h) (fun _ h => h.elim) ?aF ?aB ?aS ?aL ?_; (case aO => exact HO.out); (case aR => exact (Kd.C_below HR0.out HB.out)); (case aF => exact fun _ hk => trivial); (case aB => exact HB.out); (case aS => exact HS.out); (case aL => first | omega | (simp; omega)); intro v2 w2 ho hb hg hat; obtain ⟨D2, d2, rfl⟩ := Kd.R_slice ho; replace BK := Aside0.mk ((hg.block g (blk_lt BK.out) (row_far hgs.out HO.out)).trans BK.out); have HO2 := A_ ho; have HBB := A_ hb; clear ho hb hg hat))
              go_roundg k2
              case measure => omega
              case rel => exact ⟨1, D2, d2, rfl, rfl, ⟨by omega, by omega⟩, HO2, BK, HBB⟩
            · have e0 := blk_cell BK.out 0
              have e1 := blk_cell BK.out 1
              try simp at e0 e1
              have HS := Aside0.mk (below_size HB.out)
              go_wp2_with (first | ((with_reducible refine gate_builtin (b := .append) (xs := #[.tmp 31, .tmp 32]) rfl ?_); at_builtin; refine Kd.R_append_rows k97 (w0 := w) w.heap.size rfl (.tmp 31) (.tmp 32) 56 97 (.agg #[(.int .i64 0), (.int .i64 0)]) 16 rfl Try.underlying56 info97 rfl (by decide) (by omega) (.slice D a.length d) a b _ _ _ (fun _ => True) (fun _ => False) rfl rfl ?aO ?aR (fun _ _ h => h) (fun _ h => h.elim) ?aF ?aB ?aS ?aL ?_; (case aO => exact HO.out); (case aR => exact (Kd.C_below HR1.out HB.out)); (case aF => exact fun _ hk => trivial); (case aB => exact HB.out); (case aS => exact HS.out); (case aL => first | omega | (simp; omega)); intro v2 w2 ho hb hg hat; obtain ⟨D2, d2, rfl⟩ := Kd.R_slice ho; replace BK := Aside0.mk ((hg.block g (blk_lt BK.out) (row_far hgs.out HO.out)).trans BK.out); have HO2 := A_ ho; have HBB := A_ hb; clear ho hb hg hat))
              go_roundg k2
              case measure => omega
              case rel => exact ⟨2, D2, d2, (by simp [cat2]), rfl, ⟨by omega, by omega⟩, ⟨by have h := HO2.out; simpa [cat2] using h⟩, BK, HBB⟩
            · go_wp2
              go_ret
              exact ⟨_, rfl, HO.out, HB.out⟩

end Go.Proofs.Ytdanachjdfiegaa.QFnTaken
