-- written by a program of this session, on the lines of the kit's print
import Derived.Test.YtgfilednbllkmaaQFnJoinedPresencex0
import Derived.Test.YtgfilednbllkmaaQFnJoinedPresencex11
import Derived.Test.YtgfilednbllkmaaQFnJoinedPresencex12
namespace Go.Proofs.Ytgfilednbllkmaa.QFnJoinedPresence
open Go.RowKit Go.Proofs.YtgfilednbllkmaaW.PrintWords Go.Proofs.YtgfilednbllkmaaW.PrintLast Go.Proofs.YtgfilednbllkmaaW.PrintMore
attribute [local go_sem] max2_int min2_int max_two min_two max_three min_three max_four min_four   -- for this text's walks alone
set_option linter.unusedVariables false
set_option linter.unusedSimpArgs false

/-! ### impl_Lease_n94: function 94 -/
/- slices.Insert over structs: what stands ahead of i, the new ones, what stands from i on (the new ones: at least one). -/
set_option maxHeartbeats 4000000 in
set_option maxRecDepth 100000 in
theorem impl_Lease_n94.shift (g n c i vb m vc : Nat) (cs vs : List Value) (w : World) (hi : i < n) (hm : 0 < m) (hroom : n + m ≤ c) (hc63 : c ≤ 9223372036854775807) (hvb : vb ≠ g) (hcl : cs.length = n * 2) (hvl : vs.length = m * 2)
    (hcs : ∀ j v, cs[j]? = some v → w.cell? ⟨g, j, none⟩ = some v) (hsp : ∀ j, j < (n + m) * 2 → (w.cell? ⟨g, j, none⟩).isSome = true) (hfz : ∀ j, w.frozen? ⟨g, j, none⟩ = false)
    (hvs : ∀ j v, vs[j]? = some v → w.cell? ⟨vb, j, none⟩ = some v) (h1c : ∀ v ∈ cs, v.oneCell' = true) (h1v : ∀ v ∈ vs, v.oneCell' = true)
    (tA tB : TypeId) (kA kB : Nat) (hsa : w.shape? vb = some (tA, kA)) (hsb : w.shape? g = some (tB, kB)) (hkB : kB ≠ 0) (hfa : w.frozen? ⟨vb, 0, none⟩ = false) (hfe : w.frozen? ⟨vb, kA, none⟩ = false) :
    Calls Try.prog 94 #[.slice (some ⟨g, 0, none⟩) n c, .int .i64 i, .slice (some ⟨vb, 0, none⟩) m vc] w fun e w' =>
      e = .returned (.slice (some ⟨g, 0, none⟩) (n + m) c) ∧ w' = (w.drew.setCells g ((i + m) * 2) (cs.drop (i * 2))).setCells g (i * 2) vs := by
  have hz1 : ¬ ((m : Int) = 0) := by omega
  have hz2 : ¬ ((i : Int) = (n : Int)) := by omega
  have hsz : (Try.prog.info? 63).map (·.size) = some 2 := by
    obtain ⟨i0, hi0, h0, h1, h2⟩ := info_parts info63
    rw [hi0]; simp [h1]
  have hsz2 : ∀ w, (Go.sizeOf 63).run Try.prog w = .ok 2 w := fun w => by
    obtain ⟨i0, hi0, h0, h1, h2⟩ := info_parts info63
    simp [Go.sizeOf, typeInfo, hi0, h1]
  have hov : ∀ lb cb, (callFunc 116 #[.slice (some ⟨vb, 0, none⟩) m vc, .slice (some ⟨g, (i + m) * 2, none⟩) lb cb]).run Try.prog w = .ok (.value (.bool false)) w := fun lb cb => by
    rw [run_callFunc_extern Try.func116 (by kernel_rfl) (by kernel_rfl) (by kernel_rfl) (e := Extern.SlicesOverlaps.overlaps #[24, 24] #[4]) (by kernel_rfl),
      Lib.run_overlaps_apart w 24 4 63 Try.underlying24 2 hsz2 ⟨vb, 0, none⟩ ⟨g, (i + m) * 2, none⟩ m vc lb cb hvb tA tB kA kB hsa hsb hkB hfa hfe]
    rfl
  have hdl : (cs.drop (i * 2)).length = (n - i) * 2 := by rw [List.length_drop, hcl, ← Nat.sub_mul]
  have hw1 : IntKind.i64.wrap ((i : Int) + (m : Int)) = (i : Int) + (m : Int) := by rw [IntKind.wrap_i64]; omega
  have hb1 : (0 : Int) ≤ (i : Int) + (m : Int) := by omega
  have hin : i ≤ n := by omega
  have htn : ((i : Int) + (m : Int)).toNat = i + m := by omega
  have hb2 : ¬ (c = i + m) := by omega
  have hb3 : (i : Int) ≤ (n : Int) + (m : Int) := by omega
  have hb4 : ¬ (c = i) := by omega
  have hle1 : (n - i) * 2 + (i + m) * 2 ≤ (n + m) * 2 := by omega
  have hcp1 : ∀ ty dc sc, (Builtin.copy_ #[24, 24] ty #[.slice (some ⟨g, (i + m) * 2, none⟩) (n + m - (i + m)) dc, .slice (some ⟨g, i * 2, none⟩) (n + m - i) sc]).run Try.prog w.drew = .ok (goInt ((n - i : Nat) : Int)) (w.drew.setCells g ((i + m) * 2) (cs.drop (i * 2))) := fun ty dc sc => by
    have h := run_copy_size (P := Try.prog) w.drew 24 24 ty 63 2 g ((i + m) * 2) (n + m - (i + m)) dc ⟨g, i * 2, none⟩ (n + m - i) sc (cs.drop (i * 2)) Try.underlying24 hsz (by rw [hdl]; simp only [Nat.min_def]; split <;> omega)
      (fun j v hj => by rw [add_at]; exact hcs (i * 2 + j) v (by rwa [List.getElem?_drop] at hj))
      (fun j hj => hsp _ (by rw [hdl] at hj; omega)) (fun j hj => hfz _) (fun v hv => h1c v (List.mem_of_mem_drop hv))
    rw [show Nat.min (n + m - i) (n + m - (i + m)) = n - i by simp only [Nat.min_def]; split <;> omega] at h
    exact h
  obtain ⟨W1, hW1⟩ : ∃ W1, W1 = w.drew.setCells g ((i + m) * 2) (cs.drop (i * 2)) := ⟨_, rfl⟩
  have hcp2 : ∀ (W : World), (∀ x, W.cell? x = W1.cell? x) → (∀ x, W.frozen? x = W1.frozen? x) → ∀ ty dc, (Builtin.copy_ #[24, 24] ty #[.slice (some ⟨g, i * 2, none⟩) (n + m - i) dc, .slice (some ⟨vb, 0, none⟩) m vc]).run Try.prog W = .ok (goInt m) (W.setCells g (i * 2) vs) := fun W hWc hWf ty dc => by
    have h := run_copy_size (P := Try.prog) W 24 24 ty 63 2 g (i * 2) (n + m - i) dc ⟨vb, 0, none⟩ m vc vs Try.underlying24 hsz (by rw [hvl]; simp only [Nat.min_def]; split <;> omega)
      (fun j v hj => by
        rw [add_at, Nat.zero_add, hWc, hW1, World.cell?_setCells_out g _ _ _ _ (fun h _ => absurd h hvb)]
        exact hvs j v hj)
      (fun j hj => by rw [hWc, hW1]; exact isSome_setCells g (cs.drop (i * 2)) ((i + m) * 2) w.drew (fun j2 hj2 => hsp ((i + m) * 2 + j2) (by rw [hdl] at hj2; omega)) (i * 2 + j) (hsp (i * 2 + j) (by rw [hvl] at hj; omega))) (fun j hj => by rw [hWf, hW1, World.frozen?_setCells]; exact hfz _) h1v
    rw [show Nat.min m (n + m - i) = m by simp only [Nat.min_def]; split <;> omega] at h
    exact h
  rw [← hW1] at hcp1
  have mixed : Try.prog.follows Departure.mixedOrders = true := by kernel_rfl
  go_enter Try.func94, Try.ntmps94
  go_wp2_with (simp only [hov])
  go_region_law_o (refine step_copy_by rfl _ _ 24 24 rfl _ _ (by simp [Act.eval, Act.put]) (by simp [Act.eval, Act.put]) (hcp1 _ _ _) ?_)
  go_wp2_with (at_builtin; refine wpList_copy_by _ rfl _ _ 24 24 rfl _ _ rfl rfl (hcp2 _ (fun _ => rfl) (fun _ => rfl) _ _) ?_)
  go_ret
  first | exact ⟨rfl, rfl⟩ | exact ⟨rfl, by rw [hW1]⟩
set_option maxHeartbeats 4000000 in
set_option maxRecDepth 100000 in
theorem impl_Lease_n94.grow (g n c i vb m vc : Nat) (cs vs : List Value) (w : World) (hi : i < n) (hm : 0 < m) (hnc : n ≤ c) (hroom : c < n + m) (hbig : (n + m) * 16 ≤ 140737488355328) (hcl : cs.length = n * 2) (hvl : vs.length = m * 2)
    (hcs : ∀ j v, cs[j]? = some v → w.cell? ⟨g, j, none⟩ = some v) (hvs : ∀ j v, vs[j]? = some v → w.cell? ⟨vb, j, none⟩ = some v) (h1c : ∀ v ∈ cs, v.oneCell' = true) (h1v : ∀ v ∈ vs, v.oneCell' = true) :
    Calls Try.prog 94 #[.slice (some ⟨g, 0, none⟩) n c, .int .i64 i, .slice (some ⟨vb, 0, none⟩) m vc] w fun e w' =>
      e = .returned (.slice (some ⟨w.heap.size, 0, none⟩) (n + m) (grownCap w (n + m) c 63)) ∧
      w' = (((w.alloc (.cells ((cs.take (i * 2)).toArray ++ Builtin.zeroCells ((.agg #[(.int .i64 0), (.int .i64 0)]) : Value).cells (n + m - i) ++ Builtin.zeroCells ((.agg #[(.int .i64 0), (.int .i64 0)]) : Value).cells (grownCap w (n + m) c 63 - (n + m))) 63)).drew.setCells w.heap.size (i * 2) vs).drew).setCells w.heap.size ((i + m) * 2) (cs.drop (i * 2)) := by
  obtain ⟨i0, hi0, hz0, hzs, hzb⟩ := info_parts info63
  have hz1 : ¬ ((m : Int) = 0) := by omega
  have hz2 : ¬ ((i : Int) = (n : Int)) := by omega
  have hz3 : (c : Int) < (n : Int) + (m : Int) := by omega
  have hsz : (Try.prog.info? 63).map (·.size) = some 2 := by rw [hi0]; simp [hzs]
  have hzc : ((.agg #[(.int .i64 0), (.int .i64 0)]) : Value).cells.size = 2 := rfl
  have hbw : g < w.heap.size := block_lt_of_cell (hcs 0 _ (List.getElem?_eq_getElem (by omega)))
  have hvw : vb < w.heap.size := block_lt_of_cell (hvs 0 _ (List.getElem?_eq_getElem (by omega)))
  have hkk : (n : Int) + (m : Int) - (i : Int) = ((n + m - i : Nat) : Int) := by omega
  have hik : i + (n + m - i) = n + m := by omega
  have htk : (cs.take (i * 2)).length = i * 2 := by rw [List.length_take]; omega
  have hold : (Builtin.firstCells i0.size i (.slice (some ⟨g, 0, none⟩) i c)).run Try.prog w.drew = .ok (cs.take (i * 2)).toArray w.drew := by
    rw [hzs]
    exact run_firstCells_some w.drew 2 i ⟨g, 0, none⟩ i c (cs.take (i * 2)) (by rw [htk]) (fun j v hj => by
      rw [add_at, Nat.zero_add]
      rw [List.getElem?_take] at hj
      split at hj
      · exact hcs j v hj
      · cases hj)
  have hrz : ∀ ty, (Builtin.append_ #[24, 3] ty #[.slice (some ⟨g, 0, none⟩) i c, .int .i64 ((n : Int) + (m : Int) - (i : Int))]).run Try.prog w =
      .ok (.slice (some ⟨w.heap.size, 0, none⟩) (n + m) (grownCap w (n + m) c 63)) (w.drew.alloc (.cells ((cs.take (i * 2)).toArray ++ Builtin.zeroCells ((.agg #[(.int .i64 0), (.int .i64 0)]) : Value).cells (n + m - i) ++ Builtin.zeroCells ((.agg #[(.int .i64 0), (.int .i64 0)]) : Value).cells (grownCap w (n + m) c 63 - (n + m))) 63)) := fun ty => by
    have h := Lib.run_append_grow_zeros w 24 3 ty 63 i0 _ .i64 .i64 Try.underlying24 Try.underlying3 hi0 hz0 (some ⟨g, 0, none⟩) i c (cs.take (i * 2)) hold (n + m - i) (by omega) (by omega) (by omega) (by omega) (by rw [hzb]; omega) (by rw [hzb, hik]; exact growslice_fits hroom hbig)
    rw [hik] at h
    rw [hkk]
    exact h
  obtain ⟨G, hG⟩ : ∃ G, G = grownCap w (n + m) c 63 := ⟨_, rfl⟩
  obtain ⟨ROW, hROW⟩ : ∃ ROW : Array Value, ROW = (cs.take (i * 2)).toArray ++ Builtin.zeroCells ((.agg #[(.int .i64 0), (.int .i64 0)]) : Value).cells (n + m - i) ++ Builtin.zeroCells ((.agg #[(.int .i64 0), (.int .i64 0)]) : Value).cells (G - (n + m)) := ⟨_, rfl⟩
  rw [← hG] at hrz ⊢
  rw [← hROW] at hrz ⊢
  have hRl : (n + m) * 2 ≤ ROW.size := by
    rw [hROW, Array.size_append, Array.size_append, size_zeroCells, size_zeroCells, hzc, List.size_toArray, htk]
    omega
  obtain ⟨W1, hW1⟩ : ∃ W1, W1 = w.drew.alloc (.cells ROW 63) := ⟨_, rfl⟩
  rw [← hW1] at hrz
  have hN : ∀ j, j < (n + m) * 2 → (W1.cell? ⟨w.heap.size, j, none⟩).isSome = true := fun j hj => by
    rw [hW1, World.cell?_alloc_at (w := w.drew) ROW _ w.heap.size j rfl, Array.getElem?_eq_getElem (by omega)]; rfl
  have hNf : ∀ j, W1.frozen? ⟨w.heap.size, j, none⟩ = false := fun j => by rw [hW1]; exact World.frozen?_alloc_at (w := w.drew) ROW _ w.heap.size j rfl
  have hOb : ∀ j v, w.cell? ⟨g, j, none⟩ = some v → W1.cell? ⟨g, j, none⟩ = some v := fun j v h => by rw [hW1, World.cell?_alloc_past (w := w.drew) _ g j hbw]; exact h
  have hOv : ∀ j v, w.cell? ⟨vb, j, none⟩ = some v → W1.cell? ⟨vb, j, none⟩ = some v := fun j v h => by rw [hW1, World.cell?_alloc_past (w := w.drew) _ vb j hvw]; exact h
  have hcpA : ∀ (W : World), (∀ x, W.cell? x = W1.cell? x) → (∀ x, W.frozen? x = W1.frozen? x) → ∀ ty dc, (Builtin.copy_ #[24, 24] ty #[.slice (some ⟨w.heap.size, i * 2, none⟩) (n + m - i) dc, .slice (some ⟨vb, 0, none⟩) m vc]).run Try.prog W = .ok (goInt m) (W.setCells w.heap.size (i * 2) vs) := fun W hWc hWf ty dc => by
    have h := run_copy_size (P := Try.prog) W 24 24 ty 63 2 w.heap.size (i * 2) (n + m - i) dc ⟨vb, 0, none⟩ m vc vs Try.underlying24 hsz (by rw [hvl]; simp only [Nat.min_def]; split <;> omega)
      (fun j v hj => by rw [add_at, Nat.zero_add, hWc]; exact hOv _ v (hvs j v hj))
      (fun j hj => by rw [hWc]; exact hN _ (by rw [hvl] at hj; omega)) (fun j hj => by rw [hWf]; exact hNf _) h1v
    rw [show Nat.min m (n + m - i) = m by simp only [Nat.min_def]; split <;> omega] at h
    exact h
  have hGn : n + m ≤ G := by rw [hG]; exact grownCap_ge w _ _ _
  have hG63 : G ≤ 9223372036854775807 := by
    have := grownCap_le_maxLen w (n + m) c 63 (by unfold maxLen; omega)
    rw [← hG] at this
    unfold maxLen at this
    omega
  have hGi : ¬ (G = i) := by omega
  have hGim : ¬ (G = i + m) := by omega
  have hci : ¬ (c = i) := by omega
  have hbN : g ≠ w.heap.size := by omega
  have hdl : (cs.drop (i * 2)).length = (n - i) * 2 := by rw [List.length_drop, hcl, ← Nat.sub_mul]
  have hcpB : ∀ (W : World), (∀ x, W.cell? x = (W1.setCells w.heap.size (i * 2) vs).cell? x) → (∀ x, W.frozen? x = (W1.setCells w.heap.size (i * 2) vs).frozen? x) → ∀ ty dc sc, (Builtin.copy_ #[24, 24] ty #[.slice (some ⟨w.heap.size, (i + m) * 2, none⟩) (n + m - (i + m)) dc, .slice (some ⟨g, i * 2, none⟩) (n - i) sc]).run Try.prog W = .ok (goInt ((n - i : Nat) : Int)) (W.setCells w.heap.size ((i + m) * 2) (cs.drop (i * 2))) := fun W hWc hWf ty dc sc => by
    have h := run_copy_size (P := Try.prog) W 24 24 ty 63 2 w.heap.size ((i + m) * 2) (n + m - (i + m)) dc ⟨g, i * 2, none⟩ (n - i) sc (cs.drop (i * 2)) Try.underlying24 hsz (by rw [hdl]; simp only [Nat.min_def]; split <;> omega)
      (fun j v hj => by
        rw [add_at, hWc, World.cell?_setCells_out _ _ _ _ _ (fun h _ => absurd h hbN)]
        exact hOb _ v (hcs (i * 2 + j) v (by rwa [List.getElem?_drop] at hj)))
      (fun j hj => by rw [hWc]; exact isSome_setCells w.heap.size vs (i * 2) W1 (fun t ht => hN _ (by rw [hvl] at ht; omega)) ((i + m) * 2 + j) (hN _ (by rw [hdl] at hj; omega)))
      (fun j hj => by rw [hWf, World.frozen?_setCells]; exact hNf _) (fun v hv => h1c v (List.mem_of_mem_drop hv))
    rw [show Nat.min (n - i) (n + m - (i + m)) = n - i by simp only [Nat.min_def]; split <;> omega] at h
    exact h
  subst hW1
  have hE1 : ∀ x, ((w.alloc (.cells ROW 63)).drew).cell? x = (w.drew.alloc (.cells ROW 63)).cell? x := fun x => rfl
  have hE2 : ∀ x, ((w.alloc (.cells ROW 63)).drew).frozen? x = (w.drew.alloc (.cells ROW 63)).frozen? x := fun x => rfl
  have hF1 : ∀ x, (((w.alloc (.cells ROW 63)).drew.setCells w.heap.size (i * 2) vs).drew).cell? x = ((w.drew.alloc (.cells ROW 63)).setCells w.heap.size (i * 2) vs).cell? x := fun x => rfl
  have hF2 : ∀ x, (((w.alloc (.cells ROW 63)).drew.setCells w.heap.size (i * 2) vs).drew).frozen? x = ((w.drew.alloc (.cells ROW 63)).setCells w.heap.size (i * 2) vs).frozen? x := fun x => rfl
  have hw1 : IntKind.i64.wrap ((i : Int) + (m : Int)) = (i : Int) + (m : Int) := by rw [IntKind.wrap_i64]; omega
  have hb1 : (0 : Int) ≤ (i : Int) + (m : Int) := by omega
  have hin : i ≤ n := by omega
  have htn : ((i : Int) + (m : Int)).toNat = i + m := by omega
  have hb3 : (i : Int) ≤ (n : Int) := by omega
  have mixed : Try.prog.follows Departure.mixedOrders = true := by kernel_rfl
  clear hkk hik hold hROW hG hRl
  go_enter Try.func94, Try.ntmps94
  go_wp2_with (first
    | (at_builtin; refine Lib.wpList_append_run _ rfl _ _ _ _ rfl _ _ rfl rfl _ _ (hrz _) ?_)
    | (at_builtin; refine wpList_copy_by _ rfl _ _ 24 24 rfl _ _ rfl rfl (hcpA _ hE1 hE2 _ _) ?_)
    | (at_builtin; refine wpList_copy_by _ rfl _ _ 24 24 rfl _ _ rfl rfl (hcpB _ (fun _ => rfl) (fun _ => rfl) _ _ _) ?_))
  go_region_law_o (refine step_copy_by rfl _ _ 24 24 rfl (.slice (some ⟨w.heap.size, (i + m) * 2, none⟩) (n + m - (i + m)) (G - (i + m))) (.slice (some ⟨g, i * 2, none⟩) (n - i) (c - i)) (by simp [Act.eval, Act.put]) (by simp [Act.eval, Act.put]) (hcpB _ hF1 hF2 3 (G - (i + m)) (c - i)) ?_)
  go_wp2
  go_ret
  exact ⟨rfl, rfl⟩
def impl_Lease_n94.f (l0 : List (S63)) (a1 : Int) (l2 : List (S63)) : Option (List (S63)) := if 0 ≤ a1 ∧ a1 ≤ (l0.length : Int) ∧ 0 < l2.length ∧ l0.length + l2.length < 8796093022208 then some (l0.take a1.toNat ++ l2 ++ l0.drop a1.toNat) else none
set_option maxHeartbeats 8000000 in
set_option maxRecDepth 100000 in
theorem impl_Lease_n94.calls (P0_ : Nat → Prop) (u9000_ : Value) (l0 : List (S63)) (a1 : Int) (P2_ : Nat → Prop) (u9001_ : Value) (l2 : List (S63)) (r : List (S63)) (w0 w : World) (hB : Below w0.heap.size w0 w) (ho0 : Kd.R k63 63 w w0.heap.size P0_ u9000_ l0) (hp0_2 : ∀ k_, P0_ k_ → ¬ P2_ k_) (ho2 : Kd.R k63 63 w w0.heap.size P2_ u9001_ l2) (hp2_0 : ∀ k_, P2_ k_ → ¬ P0_ k_) (h : impl_Lease_n94.f l0 a1 l2 = some r) :
    Calls Try.prog 94 #[u9000_, .int .i64 a1, u9001_] w fun e w' => ∃ v0_ : Value, e = .returned (v0_) ∧ Kd.R k63 63 w' w0.heap.size (fun k_ => ((P0_ k_ ∨ P2_ k_) ∨ w.heap.size ≤ k_)) v0_ r ∧ Below w0.heap.size w0 w' ∧ Kept w w' (fun k_ => P0_ k_ ∨ P2_ k_) := by
  have hsz : (k63 : Kd (S63)).sz = 2 := rfl
  have hc : 0 ≤ a1 ∧ a1 ≤ (l0.length : Int) ∧ 0 < l2.length ∧ l0.length + l2.length < 8796093022208 := by
    unfold impl_Lease_n94.f at h
    split at h
    · assumption
    · cases h
  obtain ⟨h0, h1, hm, hlim⟩ := hc
  obtain rfl : l0.take a1.toNat ++ l2 ++ l0.drop a1.toNat = r := by
    unfold impl_Lease_n94.f at h
    rw [if_pos ⟨h0, h1, hm, hlim⟩] at h
    exact Option.some.inj h
  clear h
  obtain ⟨i, rfl⟩ := Int.eq_ofNat_of_zero_le h0
  rw [Int.toNat_natCast]
  obtain ⟨vb, vc, hv2⟩ : ∃ vb vc, u9001_ = .slice (some ⟨vb, 0, none⟩) l2.length vc := by
    obtain ⟨_, inner, ⟨_, hn | ⟨g, cap, cur, hv, _, _, hc, _⟩⟩, _⟩ := ho2
    · omega
    · exact ⟨g, cap, hv⟩
  subst hv2
  by_cases hin : i = l0.length
  · subst hin
    rw [List.take_length, List.drop_length, List.append_nil]
    have HO0 := A_ (Kd.R_mono (ok' := fun k_ => ((P0_ k_ ∨ P2_ k_) ∨ w.heap.size ≤ k_)) ho0 (fun k hk => .inl (.inl hk)))
    have HR2 := A_ (Kd.R_reads' ho2).2.2
    have HB := A_ hB
    have HB2 := A_ hB.size
    obtain ⟨A, c, hv0⟩ := Kd.R_slice ho0
    subst hv0
    have hz1 : ¬ ((l2.length : Int) = 0) := by omega
    have hnc : l0.length ≤ c := (Kd.R_reads' ho0).2.1
    have hc63 : c ≤ 9223372036854775807 := by
      obtain ⟨_, inner, ⟨_, hn | ⟨g, cap, cur, hv, _, _, _, hcm, _⟩⟩, _⟩ := ho0
      · injection hn.1; omega
      · injection hv with _ _ e3
        unfold maxLen at hcm
        omega
    clear ho0 ho2 h0 h1
    cases A with
    | none =>
      go_enter Try.func94, Try.ntmps94
      go_wp2_with (first
        | ((with_reducible refine gate_builtin (b := .append) (xs := #[.tmp 23, .tmp 24]) rfl ?_); at_builtin; refine Kd.R_append_rows k63 (w0 := w0) w0.heap.size rfl (.tmp 23) (.tmp 24) 24 63 (.agg #[(.int .i64 0), (.int .i64 0)]) 16 rfl Try.underlying24 info63 rfl (by decide) (by omega) (.slice none l0.length c) l0 l2 _ _ _ (fun k_ => ((P0_ k_ ∨ P2_ k_) ∨ w.heap.size ≤ k_)) (fun _ => False) rfl rfl ?aO ?aR (fun _ _ h => h) (fun _ h => h.elim) ?aF ?aB ?aS ?aL ?_; (case aO => exact HO0.out); (case aR => exact HR2.out); (case aF => exact fun _ hk => .inr hk); (case aB => exact HB.out); (case aS => exact HB2.out); (case aL => omega); intro v2 w2 ho hb hg hat; have HO2 := A_ ho; have HBB := A_ hb; have HG := A_ hg; clear ho hb hg hat))
      go_ret
      exact ⟨_, rfl, HO2.out, HBB.out, Kept.of_grown HG.out (Kept.refl _ _) (fun k e_ => by simp [Value.ownBlock] at e_)⟩
    | some ad =>
      have hP : P0_ ad.block ∨ P2_ ad.block ∨ w.heap.size ≤ ad.block := by
        rcases HO0.out.1 ad.block rfl with (h | h) | h
        · exact .inl h
        · exact .inr (.inl h)
        · exact .inr (.inr h)
      go_enter Try.func94, Try.ntmps94
      go_wp2_with (first
        | ((with_reducible refine gate_builtin (b := .append) (xs := #[.tmp 23, .tmp 24]) rfl ?_); at_builtin; refine Kd.R_append_rows k63 (w0 := w0) w0.heap.size rfl (.tmp 23) (.tmp 24) 24 63 (.agg #[(.int .i64 0), (.int .i64 0)]) 16 rfl Try.underlying24 info63 rfl (by decide) (by omega) (.slice (some ad) l0.length c) l0 l2 _ _ _ (fun k_ => ((P0_ k_ ∨ P2_ k_) ∨ w.heap.size ≤ k_)) (fun _ => False) rfl rfl ?aO ?aR (fun _ _ h => h) (fun _ h => h.elim) ?aF ?aB ?aS ?aL ?_; (case aO => exact HO0.out); (case aR => exact HR2.out); (case aF => exact fun _ hk => .inr hk); (case aB => exact HB.out); (case aS => exact HB2.out); (case aL => omega); intro v2 w2 ho hb hg hat; have HO2 := A_ ho; have HBB := A_ hb; have HG := A_ hg; clear ho hb hg hat))
      all_goals
        go_ret
        exact ⟨_, rfl, HO2.out, HBB.out, Kept.of_grown HG.out (Kept.refl _ _) (fun k e_ => by
          have e2 : ad.block = k := by simpa [Value.ownBlock] using e_
          subst e2
          rcases hP with h | h | h
          · exact .inl (.inl h)
          · exact .inl (.inr h)
          · exact .inr h)⟩
  · have hi : i < l0.length := by omega
    obtain ⟨g, c, hv0⟩ : ∃ g c, u9000_ = .slice (some ⟨g, 0, none⟩) l0.length c := by
      obtain ⟨_, inner, ⟨_, hn | ⟨g, cap, cur, hv, _, _, hc, _⟩⟩, _⟩ := ho0
      · omega
      · exact ⟨g, cap, hv⟩
    subst hv0
    obtain ⟨og, bg, cur, inner, hh, _, hnc, hcm, hcs, ht, hr⟩ := Kd.R_block ho0
    obtain ⟨og2, bg2, cur2, inner2, hh2, _, hnc2, hcm2, hcs2, ht2, hr2⟩ := Kd.R_block ho2
    have hne : vb ≠ g := fun e => hp0_2 g og (e ▸ og2)
    have hil : inner.length = l0.length * 2 := hr.1
    have hil2 : inner2.length = l2.length * 2 := hr2.1
    rw [hsz] at hcs hcs2 ht ht2 hr hr2
    have cells : ∀ j v, inner[j]? = some v → w.cell? ⟨g, j, none⟩ = some v := fun j v hj => by
      rw [cell_of_row w g j cur 63 (0, 0) hh]
      rw [← ht, List.getElem?_take] at hj
      split at hj
      · rwa [Array.getElem?_toList] at hj
      · cases hj
    have cells2 : ∀ j v, inner2[j]? = some v → w.cell? ⟨vb, j, none⟩ = some v := fun j v hj => by
      rw [cell_of_row w vb j cur2 63 (0, 0) hh2]
      rw [← ht2, List.getElem?_take] at hj
      split at hj
      · rwa [Array.getElem?_toList] at hj
      · cases hj
    have one := Kd.reps_ones (d := k63) (by decide) hr
    have one2 := Kd.reps_ones (d := k63) (by decide) hr2
    unfold maxLen at hcm
    have reps : ∀ (W : World) (b : Nat) (ok : Nat → Prop), Reps ((k63 : Kd (S63)).M W b ok) 2 (l0.take i ++ l2 ++ l0.drop i) (inner.take (i * 2) ++ inner2 ++ inner.drop (i * 2)) := fun W b ok =>
      Kd.reps_append (Kd.reps_append (Kd.reps_take (hr.imp_ (fun _ _ hp => hp)) (by omega)) (hr2.imp_ (fun _ _ hp => hp))) (Kd.reps_drop (hr.imp_ (fun _ _ hp => hp)))
    have hlen : l0.length + l2.length = (l0.take i ++ l2 ++ l0.drop i).length := by
      rw [List.length_append, List.length_append, List.length_take, List.length_drop]; omega
    by_cases hroom : l0.length + l2.length ≤ c
    · obtain ⟨cur', k1, k2, k3⟩ := shift_row (W := w.drew) (g := g) (e := 63) (cur := cur) (sz := 2) (n := l0.length) (m := l2.length) (i := i) (c := c) (inner := inner) (vs := inner2) hh hcs (by omega) hroom ht hil2
      refine (impl_Lease_n94.shift g l0.length c i vb l2.length vc inner inner2 w hi hm hroom (by omega) hne hil hil2 cells (fun j hj => ?_) (fun j => blk_frozen hh j) cells2 one one2 63 63 cur2.size cur.size ?_ ?_ ?_ (blk_frozen hh2 _) (blk_frozen hh2 _)).mono ?_
      · rw [cell_of_row w g j cur 63 (0, 0) hh, Array.getElem?_eq_getElem (by omega)]; rfl
      · simp [World.shape?, hh2]
      · simp [World.shape?, hh]
      · omega
      rintro e w' ⟨rfl, rfl⟩
      refine ⟨_, rfl, ?_, ?_, ?_⟩
      · exact Kd.R_of_block (d := k63) (.inl (.inl og)) bg k1 hlen (by omega) (by unfold maxLen; omega) k2 k3 (reps _ _ _)
      · exact below_setCells bg _ _ _ (below_setCells bg _ _ _ (below_drew hB))
      · exact kept_setCells (.inl (.inl og)) _ _ _ (kept_setCells (.inl (.inl og)) _ _ _ (Kept.drew (Kept.refl _ _)))
    · have hN : w0.heap.size ≤ w.heap.size := hB.size
      have hGn : l0.length + l2.length ≤ grownCap w (l0.length + l2.length) c 63 := grownCap_ge w _ _ _
      have hGm := grownCap_le_maxLen w (l0.length + l2.length) c 63 (by unfold maxLen; omega)
      have hzc : ((.agg #[(.int .i64 0), (.int .i64 0)]) : Value).cells.size = 2 := rfl
      have htk : (inner.take (i * 2)).length = i * 2 := by rw [List.length_take]; omega
      refine (impl_Lease_n94.grow g l0.length c i vb l2.length vc inner inner2 w hi hm hnc (by omega) (by omega) hil hil2 cells cells2 one one2).mono ?_
      rintro e w' ⟨rfl, rfl⟩
      generalize grownCap w (l0.length + l2.length) c 63 = G at hGn hGm ⊢
      obtain ⟨ROW, hROW⟩ : ∃ ROW : Array Value, ROW = (inner.take (i * 2)).toArray ++ Builtin.zeroCells ((.agg #[(.int .i64 0), (.int .i64 0)]) : Value).cells (l0.length + l2.length - i) ++ Builtin.zeroCells ((.agg #[(.int .i64 0), (.int .i64 0)]) : Value).cells (G - (l0.length + l2.length)) := ⟨_, rfl⟩
      rw [← hROW]
      have hs : ROW.size = G * 2 := by
        rw [hROW, Array.size_append, Array.size_append, size_zeroCells, size_zeroCells, hzc, List.size_toArray, htk]
        omega
      have hnew : ((w.alloc (.cells ROW 63)).drew.drew).heap[w.heap.size]? = some (.cells ROW 63 (0, 0)) := heap_alloc_new w _
      obtain ⟨cur', k1, k2, k3⟩ := moved_row (W := (w.alloc (.cells ROW 63)).drew.drew) (N := w.heap.size) (e := 63) (ROW := ROW) (sz := 2) (n := l0.length) (m := l2.length) (i := i) (G := G) (inner := inner) (vs := inner2) (Z := (Builtin.zeroCells ((.agg #[(.int .i64 0), (.int .i64 0)]) : Value).cells (l0.length + l2.length - i)).toList ++ (Builtin.zeroCells ((.agg #[(.int .i64 0), (.int .i64 0)]) : Value).cells (G - (l0.length + l2.length))).toList) hnew (by omega) hil hil2 hGn (by rw [hROW, Array.toList_append, Array.toList_append, List.append_assoc]) hs
      have hB1 : Below w0.heap.size w0 (w.alloc (.cells ROW 63)).drew := below_drew (below_alloc hB _)
      have hK1 : Kept w (w.alloc (.cells ROW 63)).drew (fun k_ => P0_ k_ ∨ P2_ k_) := Kept.drew (Kept.alloc (Kept.refl _ _) _)
      rw [setCells_drew]
      refine ⟨_, rfl, ?_, ?_, ?_⟩
      · exact Kd.R_of_block (d := k63) (.inr (Nat.le_refl _)) hN k1 hlen hGn hGm k2 k3 (reps _ _ _)
      · exact below_setCells hN _ _ _ (below_setCells hN _ _ _ (below_drew hB1))
      · exact kept_setCells (.inr (Nat.le_refl _)) _ _ _ (kept_setCells (.inr (Nat.le_refl _)) _ _ _ (Kept.drew hK1))

/-! ### impl_leased_n44: function 44 -/
abbrev impl_leased_n44.T : Bool := true
abbrev impl_leased_n44.F : Bool := false
def impl_leased_n44.f (k : Nat) (l0 : List (S63)) (a1_0 : Int) (a1_1 : Int) : Option ((List (S63))) := (impl_Lease_int64_v1.f k l0 a1_0).bind fun bt463 => (if bt463.2 = true then (if 0 ≤ bt463.1 then (if bt463.1 < (l0.length : Int) then (some (l0.set (bt463.1 : Int).toNat (⟨(rd_T63 l0 bt463.1).f0, mx ((rd_T63 l0 bt463.1).f1) a1_1⟩ : S63))) else (none)) else (none)) else ((impl_Lease_n94.f l0 bt463.1 (([(⟨a1_0, a1_1⟩ : S63)] : List (S63)))).bind fun t470 => (some t470)))
theorem impl_leased_n44.mono : ∀ a0 a1 a2 k, LeO (impl_leased_n44.f k a0 a1 a2) (impl_leased_n44.f (k + 1) a0 a1 a2) := by
  intro a0 a1 a2 k
  unfold impl_leased_n44.f
  repeat' first
      | (with_reducible exact impl_Lease_int64_v1.mono _ _ _)
      | (with_reducible exact LeO.refl _)
      | (with_reducible exact LeO.none _)
      | (with_reducible refine LeO.ite ?_ ?_)
      | (with_reducible refine LeO.bind ?_ (fun _ => ?_))
      | exact impl_Lease_int64_v1.mono _ _ _
      | exact LeO.none _
      | refine LeO.ite ?_ ?_
      | refine LeO.bind ?_ (fun _ => ?_)
def impl_leased_n44.T4 : Bool × List (List Nat × List Nat) := (true, [([], []), ([], []), ([], []), ([], []), ([2, 3], [2, 3]), ([4], [4]), ([5], [5]), ([], []), ([7], [7]), ([6, 8], [6, 8]), ([0, 1, 0, 1, 2, 3, 4, 5, 6, 7, 8, 9], [0, 1]), ([10, 0, 1, 2, 3, 4, 5, 6, 7, 8, 9], [10]), ([11, 9, 0, 1, 2, 3, 4, 5, 6, 7, 8, 9], [9, 11])])
def impl_leased_n44.B4 : List Nat := [0, 0, 0, 0, 12, 28, 60, 0, 128, 508, 1023, 2047, 4095]
theorem impl_leased_n44.tab4 : rtab .any (opsOf Try.f44 4) = impl_leased_n44.T4 := by kernel_rfl
theorem impl_leased_n44.bits4 : waitsOk impl_leased_n44.T4.2 impl_leased_n44.B4 = true := by kernel_rfl
set_option maxHeartbeats 8000000 in
set_option maxRecDepth 100000 in
theorem impl_leased_n44.calls (k : Nat) (P0_ : Nat → Prop) (u9000_ : Value) (l0 : List (S63)) (a1_0 : Int) (a1_1 : Int) (r : List (S63)) (w0 w : World) (hB : Below w0.heap.size w0 w) (ho0 : Kd.R k63 63 w w0.heap.size P0_ u9000_ l0) (h : impl_leased_n44.f k l0 a1_0 a1_1 = some r) :
    Calls Try.prog 44 #[u9000_, .agg #[.int .i64 a1_0, .int .i64 a1_1]] w fun e w' => ∃ v0_ : Value, e = .returned (v0_) ∧ Kd.R k63 63 w' w0.heap.size (fun k_ => (P0_ k_ ∨ w.heap.size ≤ k_)) v0_ r ∧ Below w0.heap.size w0 w' ∧ Kept w w' (fun k_ => P0_ k_) := by
 have hu63 := Try.underlying63
 have HO0 := A_ (show Kd.R k63 63 w w0.heap.size (fun k_ => (P0_ k_ ∨ w.heap.size ≤ k_)) u9000_ l0 from Kd.R_mono ho0 (fun k_ hk => (.inl hk)))
 have HK := A_ (Kept.refl w (fun k_ => P0_ k_))
 have HW0 := A_ hB.size
 have HB := A_ hB
 clear hB
 have H : ((impl_Lease_int64_v1.f k l0 a1_0).bind fun bt463 => (if bt463.2 = true then (if 0 ≤ bt463.1 then (if bt463.1 < (l0.length : Int) then (some (l0.set (bt463.1 : Int).toNat (⟨(rd_T63 l0 bt463.1).f0, mx ((rd_T63 l0 bt463.1).f1) a1_1⟩ : S63))) else (none)) else (none)) else ((impl_Lease_n94.f l0 bt463.1 (([(⟨a1_0, a1_1⟩ : S63)] : List (S63)))).bind fun t470 => (some t470)))) = some r := h
 clear h
 replace H := Option.bind_eq_some_iff.mp H
 obtain ⟨⟨t463, t464⟩, A30, H⟩ := H
 replace H : (if t464 = true then (if 0 ≤ t463 then (if t463 < (l0.length : Int) then (some (l0.set (t463 : Int).toNat (⟨(rd_T63 l0 t463).f0, mx ((rd_T63 l0 t463).f1) a1_1⟩ : S63))) else (none)) else (none)) else ((impl_Lease_n94.f l0 t463 (([(⟨a1_0, a1_1⟩ : S63)] : List (S63)))).bind fun t470 => (some t470))) = some r := H
 have A3 := A_ A30
 clear A30
 by_cases c4 : t464 = true
 {
 subst c4
 have H1 : (if 0 ≤ t463 then (if t463 < (l0.length : Int) then (some (l0.set (t463 : Int).toNat (⟨(rd_T63 l0 t463).f0, mx ((rd_T63 l0 t463).f1) a1_1⟩ : S63))) else (none)) else (none)) = some r := by rw [if_pos rfl] at H; exact H
 clear H
 have H := H1
 clear H1
 by_cases c5 : 0 ≤ t463
 {
 rw [if_pos c5] at H
 have c5b0 : decide (0 ≤ t463) = true := decide_eq_true c5
 clear c5
 by_cases c6 : t463 < (l0.length : Int)
 {
 rw [if_pos c6] at H
 have c6b0 : decide (t463 < (l0.length : Int)) = true := decide_eq_true c6
 clear c6
 obtain ⟨ji7, hji7⟩ : ∃ j_ : Int, (mx ((rd_T63 l0 t463).f1) a1_1) = j_ := ⟨_, rfl⟩
 replace H : (some (l0.set (t463 : Int).toNat (⟨(rd_T63 l0 t463).f0, ji7⟩ : S63))) = some r := by first | (rw [hji7] at H; exact H) | (simp only [hji7] at H ⊢; exact H)
 (try rw [hji7] at A3)
 have hji7_ : (if ((rd_T63 l0 t463).f1) < a1_1 then a1_1 else ((rd_T63 l0 t463).f1)) = ji7 := hji7
 obtain ⟨y466, hy466⟩ : ∃ y_ : List (S63), y_ = (l0.set (t463 : Int).toNat (⟨(rd_T63 l0 t463).f0, ji7⟩ : S63)) := ⟨_, rfl⟩
 replace H : (some y466) = some r := by first | (rw [hy466]; with_reducible exact H) | (have H2_ := (Option.bind_some _ _).symm.trans H; rw [hy466]; with_reducible exact H2_) | (have H2_ := (Option.bind_some _ _).symm.trans H; with_reducible exact H2_) | with_reducible exact H | (rw [hy466]; exact H) | exact H
 have Ny466 := A_ hy466
 clear hy466
 obtain rfl := Option.some.inj H
 go_enter Try.func44, Try.ntmps44
 try go_wp2_with (first | ((with_reducible refine gate_dst (N := 3) rfl ?_); refine box_event ?hg (N := 3) ?hd (cs := #[.int .i64 a1_0, .int .i64 a1_1]) (t := 63) ?hr ?_; (case hd => rfl); (case hg => rfl); (case hr => first | (go_simp; done) | (go_simp; rfl)); intro gb462 hg w9 hbox hb; have GW462 := A_ ((by rw [hg]; exact (by first | exact HK.out.1 | exact (show Kept w _ (fun k_ => P0_ k_) from by repeat (first | (with_reducible first | exact HK.out | apply Kept.alloc | apply Kept.drewN | apply Kept.drew) | exact HK.out)).1) : w.heap.size ≤ gb462)); have GE462 := A_ ((by rw [hg]; exact (below_size (y1_ HB.out)) : w0.heap.size ≤ gb462)); replace HO0 := A_ (Kd.R_below (Kd.R_elderB (b2_ HO0.out) gb462 (Nat.le_of_eq hg.symm)) hb); replace HK := A_ (Kept.below (S := (fun k_ => P0_ k_)) (by repeat (first | (with_reducible first | exact HK.out | apply Kept.alloc | apply Kept.drewN | apply Kept.drew) | exact HK.out)) hb); replace HB := A_ (below_step (y1_ HB.out) hb); have BK462 := A_ (hbox); clear hb hbox hg; have hcz10_0 := c1_ BK462 0 (.int .i64 a1_0); have hcz10_1 := c1_ BK462 1 (.int .i64 a1_1); have hfz10_0 := f1_ BK462 0; have hfz10_1 := f1_ BK462 1; obtain ⟨Ao11, co11, eo11⟩ := Kd.R_slice HO0.out; subst eo11) | ((with_reducible refine gate_callee (f := 91) rfl ?_); refine goesL_ (some 11) rfl rfl Try.func91 s2_ rfl #[.slice Ao11 l0.length co11, .int .i64 a1_0, .func (.func 92) #[] #[]] rfl s3_ ?_; (with_reducible refine (impl_Lease_int64_v1.calls k _ _ l0 a1_0  t463 true _ ?side1 ?side2 A3.out).mono ?_); (case side1 => repeat (first | exact (Kd.R_reads' HO0.out).2.2 | (with_reducible refine Kd.C_alloc ?_ _) | (with_reducible refine Kd.C_drewN ?_ _) | (with_reducible refine Kd.C_drew ?_))); (case side2 => exact (Kd.R_reads' HO0.out).2.1); rintro e w12 ⟨rfl, hb⟩; refine ⟨_, rfl, ?_⟩; replace HO0 := A_ (Kd.R_below (b2_ HO0.out) hb); replace BK462 := b3_ BK462 hb; replace HK := A_ (Kept.below (S := (fun k_ => P0_ k_)) (by repeat (first | (with_reducible first | exact HK.out | apply Kept.alloc | apply Kept.drewN | apply Kept.drew) | exact HK.out)) hb); replace HB := A_ (below_step (y1_ HB.out) hb); (try clear hb); (try clear hb2); (try clear hk); (try clear hi)))
 replace HO0 := A_ (Kd.R_drew HO0.out)
 replace BK462 := A_ (blk_drew BK462.out)
 replace HK := A_ (Kept.drew HK.out)
 replace HB := A_ (below_drew1 HB.out)
 have p465 : 0 ≤ (t463 : Int) := o1_
 have q465 : t463 < (l0.length : Int) := o1_
 obtain ⟨ad465, e465, hx465_0, hx465_1⟩ := at_T63 (Kd.R_reads' HO0.out).2.2 t463 p465 q465
 cases e465
 replace p465 := eq_true p465
 replace q465 := eq_true q465
 have p8 : 0 ≤ (t463 : Int) := o1_
 have q8 : (t463 : Int) < ((l0.length : Int) : Int) := o1_
 obtain ⟨go8, co8, eo8, gb8, gl8, cl8, HG8⟩ := Kd.R_form HO0.out (by omega)
 (first | cases eo8 | (injection eo8 with ea_ en_ ec_; (first | subst ea_ | (injection ea_ with ea_; subst ea_)); subst ec_; clear en_))
 have GB8 := A_ gb8
 have GG8 := A_ HG8
 clear gb8 gl8 HG8
 have HMgo8 := A_ (show (P0_ go8 ∨ w.heap.size ≤ go8) from (HO0.out.1 _ rfl).1)
 (first | simp only [add_plain] at hx465_0 | skip)
 (first | simp only [add_plain] at hx465_1 | skip)
 obtain ⟨ce8, hcl8, hM8, hcc8, hfr8⟩ := Kd.R_elem HO0.out z63 (t463 : Int) p8 q8
 obtain rfl := k63_openM hM8
 have hx8_0 : World.cell? _ ⟨go8, (t463 : Int).toNat * 2, none⟩ = some (.int .i64 ((rd_T63 l0 t463).f0)) := hcc8 0 _ rfl
 have hx8_1 : World.cell? _ ⟨go8, (t463 : Int).toNat * 2 + 1, none⟩ = some (.int .i64 ((rd_T63 l0 t463).f1)) := hcc8 1 _ rfl
 have hf8_0 : World.frozen? _ ⟨go8, (t463 : Int).toNat * 2, none⟩ = false := hfr8 0
 have hf8_1 : World.frozen? _ ⟨go8, (t463 : Int).toNat * 2 + 1, none⟩ = false := hfr8 1
 clear hcl8 hcc8 hfr8 hM8
 replace p8 := eq_true p8
 replace q8 := eq_true q8
 obtain ⟨ce14, hcl14, hM14, hcc14, hfr14⟩ := Kd.R_elem HO0.out z63 (t463 : Int) (o1_) (by have h_ : (t463 : Int) < ((l0.length : Int) : Int) := o1_; first | exact h_ | (have e_ := (Kd.R_reads' HO0.out).1; omega) | simpa using h_)
 obtain rfl := k63_openM hM14
 have HP14 := (Kd.R_seg HO0.out (t463 : Int) (o1_) (by have h_ : (t463 : Int) < ((l0.length : Int) : Int) := o1_; first | exact h_ | (have e_ := (Kd.R_reads' HO0.out).1; omega) | simpa using h_) (seg := [.int .i64 ji7]) (j := 1) hcl14 hcc14 (show 2 ≤ 2 from by decide) (x' := (⟨(rd_T63 l0 t463).f0, ji7⟩ : S63)) (k63_mkM _ _ _ (⟨(rd_T63 l0 t463).f0, ji7⟩ : S63) ) (fun _ hk => hk)).1
 rw [← Ny466.out] at HP14
 have HQ14 := A_ HP14
 clear hcl14 hcc14 hfr14 hM14 HP14
 refine start_ (n := 13) (S := fun w' => w'.cell? ⟨gb462, 0, none⟩ = some (.int .i64 a1_0) ∧ w'.cell? ⟨gb462, 1, none⟩ = some (.int .i64 a1_1) ∧ w'.cell? ⟨go8, ((t463).toNat * 2), none⟩ = some (.int .i64 ((rd_T63 l0 t463).f0)) ∧ w'.cell? ⟨go8, ((t463).toNat * 2) + 1, none⟩ = some (.int .i64 ((rd_T63 l0 t463).f1))) (ds := [12]) #[F,F,F,F,F,F,F,F,F,F,F,F,F] s2_ rfl rfl ⟨(blk_cell BK462.out 0).trans rfl, (blk_cell BK462.out 1).trans rfl, hx465_0, hx465_1⟩ (fun hHeld => ?_); refine with_tabW impl_leased_n44.tab4 impl_leased_n44.bits4 (fun HT_ HW_ => ?_)
 generalize w12.drew = w13 at HO0 BK462 HK HB GG8 HQ14 hf8_0 hf8_1 hx465_0 hx465_1 hx8_0 hx8_1 hHeld ⊢
 refine pu_ 0 21 #[T,F,F,F,F,F,F,F,F,F,F,F,F] (any_of HT_.out s2_) ?_
 refine pu_ 1 22 #[T,T,F,F,F,F,F,F,F,F,F,F,F] (any_of HT_.out s2_) ?_
 refine pu_ 2 23 #[T,T,T,F,F,F,F,F,F,F,F,F,F] (any_of HT_.out s2_) ?_
 refine pu_ 3 24 #[T,T,T,T,F,F,F,F,F,F,F,F,F] (any_of HT_.out s2_) ?_
 refine pu_ 4 25 #[T,T,T,T,T,F,F,F,F,F,F,F,F] (any_of HT_.out s2_) ?_
 refine pu_ 5 26 #[T,T,T,T,T,T,F,F,F,F,F,F,F] (any_of HT_.out s2_) ?_
 refine pu_ 7 28 #[T,T,T,T,T,T,F,T,F,F,F,F,F] (any_of HT_.out s2_) ?_
 refine take_ (i := 6) (N := some 27) (v := ?_) (a' := ?_) #[T,T,T,T,T,T,T,T,F,F,F,F,F] rfl rfl (take_ofW HT_.out HW_.out s2_) (fun _ _ _ h => h) (Or.inl ⟨by rfl, ?_⟩) hHeld ?_ ?_
 rotate_left
 {
 rintro w' ⟨s0, s1, s2, s3⟩
 go_simp
 with_reducible rfl}
 rotate_left
 · exact p1_
 refine take_ (i := 8) (N := some 29) (v := ?_) (a' := ?_) #[T,T,T,T,T,T,T,T,T,F,F,F,F] rfl rfl (take_ofW HT_.out HW_.out s2_) (fun _ _ _ h => h) (Or.inl ⟨by rfl, ?_⟩) hHeld ?_ ?_
 rotate_left
 {
 rintro w' ⟨s0, s1, s2, s3⟩
 go_simp
 with_reducible rfl}
 rotate_left
 · exact p1_
 refine pu_ 9 30 #[T,T,T,T,T,T,T,T,T,T,F,F,F] (any_of HT_.out s2_) ?_
 refine pu_ 10 31 #[T,T,T,T,T,T,T,T,T,T,T,F,F] (any_of HT_.out s2_) ?_
 refine pu_ 11 32 #[T,T,T,T,T,T,T,T,T,T,T,T,F] (any_of HT_.out s2_) ?_
 refine last_ (i := 12) (N := none) #[T,T,T,T,T,T,T,T,T,T,T,T,T] rfl rfl (one_of HT_.out s2_) (by decide) (fun K hK => ?_)
 refine skip_ (w1 := ?_) (by rfl) rfl ?_ ?_
 rotate_left
 {
 go_simp
 rfl}
 refine hK.out _ _ ?_
 clear hK K
 refine done_ (done_of HT_.out s2_) ?_
 try go_wp2
 go_ret
 exact ⟨_, by first | rfl | (simp [errW_none, errW_some] <;> rfl) | (simp only [← hji7]; first | rfl | (simp [errW_none, errW_some] <;> rfl)) | (simp [*, errW_none, errW_some] <;> rfl), by refine b2_ ?_; exact Kd.R_mono HQ14.out (fun _ hk => hk.1), by repeat (first | (with_reducible first | exact HB.out | apply below_alloc | apply pw_below_drewN | apply below_drew1 | refine below_set ?_ GB8.out) | exact HB.out), by repeat (first | (with_reducible first | exact HK.out | apply Kept.alloc | apply Kept.drewN | apply Kept.drew | refine Kept.setCell ?_ HMgo8.out _) | exact HK.out)⟩}
 {
 rw [if_neg c6] at H
 exact absurd H (by simp)}}
 {
 rw [if_neg c5] at H
 exact absurd H (by simp)}}
 {
 replace c4 := Bool.eq_false_iff.mpr c4
 subst c4
 have H1 : ((impl_Lease_n94.f l0 t463 (([(⟨a1_0, a1_1⟩ : S63)] : List (S63)))).bind fun t470 => (some t470)) = some r := by rw [if_neg (show ¬ (false = true) by decide)] at H; exact H
 clear H
 have H := H1
 clear H1
 obtain ⟨y467, hy467⟩ : ∃ y_ : List (S63), y_ = (([(⟨a1_0, a1_1⟩ : S63)] : List (S63))) := ⟨_, rfl⟩
 replace H : ((impl_Lease_n94.f l0 t463 y467).bind fun t470 => (some t470)) = some r := by first | (rw [hy467]; with_reducible exact H) | (have H2_ := (Option.bind_some _ _).symm.trans H; rw [hy467]; with_reducible exact H2_) | (have H2_ := (Option.bind_some _ _).symm.trans H; with_reducible exact H2_) | with_reducible exact H | (rw [hy467]; exact H) | exact H
 have Ny467 := A_ hy467
 clear hy467
 replace H := Option.bind_eq_some_iff.mp H
 obtain ⟨t470, A150, H⟩ := H
 replace H : (some t470) = some r := H
 have A15 := A_ A150
 clear A150
 obtain rfl := Option.some.inj H
 go_enter Try.func44, Try.ntmps44
 go_wp2_with (first | ((with_reducible refine gate_dst (N := 3) rfl ?_); refine box_event ?hg (N := 3) ?hd (cs := #[.int .i64 a1_0, .int .i64 a1_1]) (t := 63) ?hr ?_; (case hd => rfl); (case hg => rfl); (case hr => first | (go_simp; done) | (go_simp; rfl)); intro gb462 hg w16 hbox hb; have GW462 := A_ ((by rw [hg]; exact (by first | exact HK.out.1 | exact (show Kept w _ (fun k_ => P0_ k_) from by repeat (first | (with_reducible first | exact HK.out | apply Kept.alloc | apply Kept.drewN | apply Kept.drew) | exact HK.out)).1) : w.heap.size ≤ gb462)); have GE462 := A_ ((by rw [hg]; exact (below_size (y1_ HB.out)) : w0.heap.size ≤ gb462)); replace HO0 := A_ (Kd.R_below (Kd.R_elderB (b2_ HO0.out) gb462 (Nat.le_of_eq hg.symm)) hb); replace HK := A_ (Kept.below (S := (fun k_ => P0_ k_)) (by repeat (first | (with_reducible first | exact HK.out | apply Kept.alloc | apply Kept.drewN | apply Kept.drew) | exact HK.out)) hb); replace HB := A_ (below_step (y1_ HB.out) hb); have BK462 := A_ (hbox); clear hb hbox hg; have hcz17_0 := c1_ BK462 0 (.int .i64 a1_0); have hcz17_1 := c1_ BK462 1 (.int .i64 a1_1); have hfz17_0 := f1_ BK462 0; have hfz17_1 := f1_ BK462 1; obtain ⟨Ao18, co18, eo18⟩ := Kd.R_slice HO0.out; subst eo18) | ((with_reducible refine gate_callee (f := 91) rfl ?_); refine goesL_ (some 11) rfl rfl Try.func91 s2_ rfl #[.slice Ao18 l0.length co18, .int .i64 a1_0, .func (.func 92) #[] #[]] rfl s3_ ?_; (with_reducible refine (impl_Lease_int64_v1.calls k _ _ l0 a1_0  t463 false _ ?side1 ?side2 A3.out).mono ?_); (case side1 => repeat (first | exact (Kd.R_reads' HO0.out).2.2 | (with_reducible refine Kd.C_alloc ?_ _) | (with_reducible refine Kd.C_drewN ?_ _) | (with_reducible refine Kd.C_drew ?_))); (case side2 => exact (Kd.R_reads' HO0.out).2.1); rintro e w19 ⟨rfl, hb⟩; refine ⟨_, rfl, ?_⟩; replace HO0 := A_ (Kd.R_below (b2_ HO0.out) hb); replace BK462 := b3_ BK462 hb; replace HK := A_ (Kept.below (S := (fun k_ => P0_ k_)) (by repeat (first | (with_reducible first | exact HK.out | apply Kept.alloc | apply Kept.drewN | apply Kept.drew) | exact HK.out)) hb); replace HB := A_ (below_step (y1_ HB.out) hb); (try clear hb); (try clear hb2); (try clear hk); (try clear hi); have hcz20_0 := c1_ BK462 0 (.int .i64 a1_0); have hcz20_1 := c1_ BK462 1 (.int .i64 a1_1); have hfz20_0 := f1_ BK462 0; have hfz20_1 := f1_ BK462 1) | ((with_reducible refine gate_dst (N := 19) rfl ?_); refine Kd.R_lit k63 _ 63 ?hg (N := 19) ?hd (xs := ([(⟨a1_0, a1_1⟩ : S63)] : List (S63))) (inner := [.int .i64 a1_0, .int .i64 a1_1]) (ok := fun _ => True) (okp := fun _ => True) ?hr ?hp (fun _ hk => hk) trivial (Below.refl _ _) (Nat.le_refl _) (by simp) ?_; (case hd => rfl); (case hg => rfl); (case hr => first | (go_simp; done) | (go_simp; rfl)); (case hp => exact (Reps.c2 (show Kd.M k63 _ _ _ (⟨a1_0, a1_1⟩ : S63) [.int .i64 a1_0, .int .i64 a1_1] from (k63_mkM _ _ _ (⟨a1_0, a1_1⟩ : S63) )) (Reps.none _ _))); intro v468 w21 ho22 hb hg_ hnew_; clear hg_ hnew_; (first | rw [← Ny467.out] at ho22 | (simp only [Int.reduceToNat] at ho22; rw [← Ny467.out] at ho22)); have n0_ := A_ (Kd.R_elder' (b2_ HO0.out) (Kd.R_base ho22) hb); have n1_ := A_ (Kd.R_lower (Kd.R_newB (Kd.R_new' (Kd.R_newM (M := fun k_ => (P0_ k_ ∨ w.heap.size ≤ k_)) ho22 (by first | exact HK.out.1 | exact (show Kept w _ (fun k_ => P0_ k_) from by repeat (first | (with_reducible first | exact HK.out | apply Kept.alloc | apply Kept.drewN | apply Kept.drew) | exact HK.out)).1) (fun k_ h_ => .inr h_)) (Kd.R_lt (b2_ HO0.out))) (g := gb462) (o := .cells #[.int .i64 a1_0, .int .i64 a1_1] 63 (0, 0)) (b1_ BK462.out)) (below_size (y1_ HB.out))); have n2_ := b3_ BK462 hb; have n3_ := A_ (Kept.below (S := (fun k_ => P0_ k_)) (by repeat (first | (with_reducible first | exact HK.out | apply Kept.alloc | apply Kept.drewN | apply Kept.drew) | exact HK.out)) hb); have n4_ := A_ (below_step (y1_ HB.out) hb); clear HO0; clear BK462; clear HK; clear HB; have HO0 := n0_; have HO469 := n1_; have BK462 := n2_; have HK := n3_; have HB := n4_; clear n0_ n1_ n2_ n3_ n4_; clear hb ho22; obtain ⟨Ao23, co23, eo23⟩ := Kd.R_slice HO469.out; subst eo23) | ((with_reducible refine gate_callee (f := 94) rfl ?_); refine goesL_ (some 20) rfl rfl Try.func94 s2_ rfl #[.slice Ao18 l0.length co18, .int .i64 t463, .slice Ao23 y467.length co23] rfl s3_ ?_; (with_reducible refine (impl_Lease_n94.calls (fun k_ => some k_ = (.slice Ao18 l0.length co18 : Value).ownBlock) (.slice Ao18 l0.length co18) l0 t463 (fun k_ => some k_ = (.slice Ao23 y467.length co23 : Value).ownBlock) (.slice Ao23 y467.length co23) y467 t470 w0 _ ?side1 ?side2 ?side3 ?side4 ?side5 A15.out).mono ?_); (case side1 => exact y1_ HB.out); (case side2 => exact Kd.R_tight rfl HO0.out); (case side3 => exact fun k_ e_ => (HO0.out.1 k_ e_.symm).2); (case side4 => exact Kd.R_tight rfl HO469.out); (case side5 => exact fun k_ e_ => (HO469.out.1 k_ e_.symm).1.2); rintro e w24 ⟨v471, rfl, ho0, hb, hkp⟩; refine ⟨_, rfl, ?_⟩; have n0_ := A_ (blk_kept (b1_ BK462.out) hkp (fun hs_ => Or.elim hs_ (fun e_ => (fun e_ => (Kd.R_away HO0.out (fun _ hk => hk.1.2)) e_) e_) (fun e_ => (fun e_ => (Kd.R_away HO469.out (fun _ hk => hk.2)) e_) e_))); have n1_ := A_ (Kd.R_mono (ok' := fun k_ => (P0_ k_ ∨ w.heap.size ≤ k_) ∧ k_ ≠ gb462) ho0 (fun k_ hk_ => ⟨Or.elim hk_ (fun hs_ => Or.elim hs_ (fun hs_ => (HO0.out.1 k_ (hs_).symm).1.1) (fun hs_ => (HO469.out.1 k_ (hs_).symm).1.1.1)) (fun hn_ => (.inr (Nat.le_trans (by first | exact HK.out.1 | exact (show Kept w _ (fun k_ => P0_ k_) from by repeat (first | (with_reducible first | exact HK.out | apply Kept.alloc | apply Kept.drewN | apply Kept.drew) | exact HK.out)).1) hn_))), Or.elim hk_ (fun hs_ => Or.elim hs_ (fun hs_ => fun e_ => (Kd.R_away HO0.out (fun _ hk => hk.1.2)) (by rw [← e_]; exact hs_)) (fun hs_ => fun e_ => (Kd.R_away HO469.out (fun _ hk => hk.2)) (by rw [← e_]; exact hs_))) (fun hn_ => (Kd.freshB (g := gb462) (o := .cells #[.int .i64 a1_0, .int .i64 a1_1] 63 (0, 0)) (b1_ BK462.out) k_ hn_))⟩)); have n2_ := A_ (Kept.then_ (S := (fun k_ => P0_ k_)) (by repeat (first | (with_reducible first | exact HK.out | apply Kept.alloc | apply Kept.drewN | apply Kept.drew) | exact HK.out)) hkp (fun k_ hs_ => Or.elim hs_ (fun e_ => (fun e_ => (HO0.out.1 k_ e_.symm).1.1) e_) (fun e_ => (fun e_ => (HO469.out.1 k_ e_.symm).1.1.1) e_))); have n3_ := A_ (hb); clear BK462; clear HK; clear HB; clear HO0; clear HO469; have BK462 := n0_; have HO472 := n1_; have HK := n2_; have HB := n3_; clear n0_ n1_ n2_ n3_; (try clear hb); (try clear hkp); (try clear ho0)))
 go_ret
 exact ⟨_, e1_, by refine b2_ ?_; exact Kd.R_mono HO472.out (fun _ hk => hk.1), y1_ HB.out, by repeat (first | (with_reducible first | exact HK.out | apply Kept.alloc | apply Kept.drewN | apply Kept.drew) | exact HK.out)⟩}

/-! ### impl_marked_1_n106: function 106 -/
def impl_marked_1_n106.f (a0_0 : Int) (a0_1 : Int) (a1 : Int) : Option (Int) := (cmp_Compare_int64_n93.f a0_0 a1).bind fun t463 => (some t463)
set_option maxHeartbeats 8000000 in
set_option maxRecDepth 100000 in
theorem impl_marked_1_n106.calls (a0_0 : Int) (a0_1 : Int) (a1 : Int) (r : Int) (w : World) (h : impl_marked_1_n106.f a0_0 a0_1 a1 = some r) :
    Calls Try.prog 106 #[.agg #[.int .i64 a0_0, .int .i64 a0_1], .int .i64 a1] w fun e w' => e = .returned (.int .i64 r) ∧ Below w.heap.size w w' := by
  have hu73 := Try.underlying73
  have HB := A_ (Below.refl w.heap.size w)
  have H : ((cmp_Compare_int64_n93.f a0_0 a1).bind fun t463 => (some t463)) = some r := h
  clear h
  replace H := Option.bind_eq_some_iff.mp H
  obtain ⟨t463, A30, H⟩ := H
  replace H : (some t463) = some r := H
  have A3 := A_ A30
  clear A30
  obtain rfl := Option.some.inj H
  go_enter Try.func106, Try.ntmps106
  go_wp2_with (first | ((with_reducible refine gate_dst (N := 2) rfl ?_); refine box_event ?hg (N := 2) ?hd (cs := #[.int .i64 a0_0, .int .i64 a0_1]) (t := 73) ?hr ?_; (case hd => rfl); (case hg => rfl); (case hr => first | (go_simp; done) | (go_simp; rfl)); intro gb462 hg w4 hbox hb; have GW462 := A_ ((by rw [hg]; exact (below_size (y1_ HB.out)) : w.heap.size ≤ gb462)); have GE462 := A_ ((by rw [hg]; exact (below_size (y1_ HB.out)) : w.heap.size ≤ gb462)); replace HB := A_ (below_step (y1_ HB.out) hb); have BK462 := A_ (hbox); clear hb hbox hg; have hcz5_0 : w4.cell? ⟨gb462, 0, none⟩ = some (.int .i64 a0_0) := (blk_cell BK462.out 0).trans rfl; have hcz5_1 : w4.cell? ⟨gb462, 1, none⟩ = some (.int .i64 a0_1) := (blk_cell BK462.out 1).trans rfl; have hfz5_0 := blk_frozen BK462.out 0; have hfz5_1 := blk_frozen BK462.out 1) | ((with_reducible refine gate_callee (f := 93) rfl ?_); refine goesL_ (some 8) rfl rfl Try.func93 (by kernel_rfl) rfl #[.int .i64 a0_0, .int .i64 a1] rfl (by (try simp only [List.map_toArray, List.map_cons, List.map_nil]); first | done | rfl | (simp only [List.length_drop, List.length_take]; rfl)) ?_; (with_reducible refine (cmp_Compare_int64_n93.calls a0_0 a1 t463 _ A3.out).mono ?_); rintro e w' ⟨rfl, ⟨nd, rfl⟩⟩; refine ⟨_, rfl, ?_⟩))
  go_ret
  exact ⟨e1_, y1_ HB.out⟩

/-! ### impl_Mark_int64_v2: function 105 -/
abbrev impl_Mark_int64_v2.T : Bool := true
abbrev impl_Mark_int64_v2.F : Bool := false
def impl_Mark_int64_v2.l0 : Nat → List (S73) → Int → Int → Int → Int → Option (Int × Bool)
  | 0, _, _, _, _, _ => none
  | k + 1, x0, x1, x8, x9, x10 => if x9 < x10 then (if 0 ≤ (wrap64 ((IntKind.u64.wrap (wrap64 (x9 + x10))) / 2)) then (if (wrap64 ((IntKind.u64.wrap (wrap64 (x9 + x10))) / 2)) < (x0.length : Int) then ((impl_marked_1_n106.f ((rd_T73 x0 (wrap64 ((IntKind.u64.wrap (wrap64 (x9 + x10))) / 2))).f0) ((rd_T73 x0 (wrap64 ((IntKind.u64.wrap (wrap64 (x9 + x10))) / 2))).f1) x1).bind fun t465 => (if t465 < 0 then (impl_Mark_int64_v2.l0 k x0 x1 x8 (wrap64 ((wrap64 ((IntKind.u64.wrap (wrap64 (x9 + x10))) / 2)) + 1)) x10) else (impl_Mark_int64_v2.l0 k x0 x1 x8 x9 (wrap64 ((IntKind.u64.wrap (wrap64 (x9 + x10))) / 2))))) else (none)) else (none)) else (if x9 < x8 then (if 0 ≤ x9 then (if x9 < (x0.length : Int) then ((impl_marked_1_n106.f ((rd_T73 x0 x9).f0) ((rd_T73 x0 x9).f1) x1).bind fun t467 => (some (x9, (t467 == 0)))) else (none)) else (none)) else (some (x9, false)))
def impl_Mark_int64_v2.f (k : Nat) (l0 : List (S73)) (a1 : Int)  : Option (Int × Bool) := impl_Mark_int64_v2.l0 k l0 a1 (l0.length : Int) 0 (l0.length : Int)
theorem impl_Mark_int64_v2.mono_l : ∀ k, (∀ y0 y1 y2 y3 y4, LeO (impl_Mark_int64_v2.l0 k y0 y1 y2 y3 y4) (impl_Mark_int64_v2.l0 (k + 1) y0 y1 y2 y3 y4))
  | 0 => fun _ _ _ _ _ r h => by simp [impl_Mark_int64_v2.l0] at h
  | k + 1 => by
    have ih0 := impl_Mark_int64_v2.mono_l k
    · intro y0 y1 y2 y3 y4
      unfold impl_Mark_int64_v2.l0
      repeat' first
      | (with_reducible exact ih0 _ _ _ _ _)
      | (with_reducible exact LeO.refl _)
      | (with_reducible exact LeO.none _)
      | (with_reducible refine LeO.ite ?_ ?_)
      | (with_reducible refine LeO.bind ?_ (fun _ => ?_))
      | exact ih0 _ _ _ _ _
      | exact LeO.none _
      | refine LeO.ite ?_ ?_
      | refine LeO.bind ?_ (fun _ => ?_)
theorem impl_Mark_int64_v2.mono : ∀ a0 a1 k, LeO (impl_Mark_int64_v2.f k a0 a1) (impl_Mark_int64_v2.f (k + 1) a0 a1) := by
  intro a0 a1 k
  have ih0 := impl_Mark_int64_v2.mono_l k
  unfold impl_Mark_int64_v2.f
  repeat' first
      | (with_reducible exact ih0 _ _ _ _ _)
      | (with_reducible exact LeO.refl _)
      | (with_reducible exact LeO.none _)
      | (with_reducible refine LeO.ite ?_ ?_)
      | (with_reducible refine LeO.bind ?_ (fun _ => ?_))
      | exact ih0 _ _ _ _ _
      | exact LeO.none _
      | refine LeO.ite ?_ ?_
      | refine LeO.bind ?_ (fun _ => ?_)
set_option maxHeartbeats 8000000 in
set_option maxRecDepth 100000 in
theorem impl_Mark_int64_v2.calls (k : Nat) (A0 : Option Addr) (c0 : Nat) (l0 : List (S73)) (a1 : Int)  (r1 : Int) (r2 : Bool) (w : World) (hr0 : Kd.C k73 w A0 l0.length l0) (hc0 : l0.length ≤ c0) (h : impl_Mark_int64_v2.f k l0 a1 = some (r1, r2)) :
    Calls Try.prog 105 #[.slice A0 l0.length c0, .int .i64 a1, .func (.func 106) #[] #[]] w fun e w' => e = .returned (.tuple #[.int .i64 r1, .bool r2]) ∧ Below w.heap.size w w' := by
 have hu73 := Try.underlying73
 have HR0 := A_ hr0
 have HC0 := A_ hc0
 clear hr0 hc0
 have HB := A_ (Below.refl w.heap.size w)
 have H : (impl_Mark_int64_v2.l0 k l0 a1 (l0.length : Int) 0 (l0.length : Int)) = some (r1, r2) := h
 clear h
 have H' := A_ H
 clear H
 go_enter Try.func105, Try.ntmps105
 go_wp2
 go_loopg [9, 10] k (fun kq v9 v10 w' => ∃ (x9_1 : Int) (x10_1 : Int), v9 = .int .i64 x9_1 ∧ v10 = .int .i64 x10_1 ∧ Aside0 (impl_Mark_int64_v2.l0 kq l0 a1 (l0.length : Int) x9_1 x10_1 = some (r1, r2)) ∧ Aside0 (kq ≤ k) ∧ Aside0 (Below w.heap.size w w'))
 case atStart => exact ⟨(0), ((l0.length : Int)), s1_, s1_, H', ⟨Nat.le_refl _⟩, ⟨y1_ HB.out⟩⟩
 case round =>
  skip
  {
 clear H'
 try clear p2
 obtain ⟨x9_1, x10_1, rfl, rfl, HA, HK1, HB⟩ := hrel
 cases gk with
 | zero => exact absurd HA.out (by simp [impl_Mark_int64_v2.l0])
 | succ k1 =>
  skip
  {
 have H := HA.out
 clear HA
 simp only [impl_Mark_int64_v2.l0] at H
 by_cases c4 : x9_1 < x10_1
 {
 rw [if_pos c4] at H
 have c4b0 : decide (x9_1 < x10_1) = true := decide_eq_true c4
 clear c4
 obtain ⟨ji5, hji5⟩ : ∃ j_ : Int, (wrap64 ((IntKind.u64.wrap (wrap64 (x9_1 + x10_1))) / 2)) = j_ := ⟨_, rfl⟩
 replace H : (if 0 ≤ (ji5) then (if (ji5) < (l0.length : Int) then ((impl_marked_1_n106.f ((rd_T73 l0 (ji5)).f0) ((rd_T73 l0 (ji5)).f1) a1).bind fun t465 => (if t465 < 0 then (impl_Mark_int64_v2.l0 k1 l0 a1 (l0.length : Int) (wrap64 ((ji5) + 1)) x10_1) else (impl_Mark_int64_v2.l0 k1 l0 a1 (l0.length : Int) x9_1 ji5))) else (none)) else (none)) = some (r1, r2) := by first | (rw [hji5] at H; exact H) | (simp only [hji5] at H ⊢; exact H)
 have hji5w : (IntKind.i64.wrap ((IntKind.u64.wrap (wrap64 (x9_1 + x10_1))) / 2)) = ji5 := (i64_w _).trans hji5
 by_cases c6 : 0 ≤ (ji5)
 {
 rw [if_pos c6] at H
 have c6b0 : decide (0 ≤ (ji5)) = true := decide_eq_true c6
 clear c6
 by_cases c7 : (ji5) < (l0.length : Int)
 {
 rw [if_pos c7] at H
 have c7b0 : decide ((ji5) < (l0.length : Int)) = true := decide_eq_true c7
 clear c7
 replace H := Option.bind_eq_some_iff.mp H
 obtain ⟨t465, A80, H⟩ := H
 replace H : (if t465 < 0 then (impl_Mark_int64_v2.l0 k1 l0 a1 (l0.length : Int) (wrap64 ((ji5) + 1)) x10_1) else (impl_Mark_int64_v2.l0 k1 l0 a1 (l0.length : Int) x9_1 ji5)) = some (r1, r2) := H
 have A8 := A_ A80
 clear A80
 by_cases c9 : t465 < 0
 {
 rw [if_pos c9] at H
 have c9b0 : decide (t465 < 0) = true := decide_eq_true c9
 clear c9
 have H' := A_ H
 clear H
 have p464 : 0 ≤ ((ji5) : Int) := o1_
 have q464 : (ji5) < (l0.length : Int) := o1_
 obtain ⟨ad464, e464, hx464_0, hx464_1⟩ := at_T73 HR0.out (ji5) p464 q464
 cases e464
 replace hx464_0 := (HB.out.cell (World.block_lt_of_cell? w _ hx464_0)).trans hx464_0
 replace hx464_1 := (HB.out.cell (World.block_lt_of_cell? w _ hx464_1)).trans hx464_1
 replace p464 := eq_true p464
 replace q464 := eq_true q464
 go_wp2_with (first | (go_at_call 106; (with_reducible refine (impl_marked_1_n106.calls ((rd_T73 l0 (ji5)).f0) ((rd_T73 l0 (ji5)).f1) a1 t465 _ A8.out).mono ?_); rintro e w10 ⟨rfl, hb⟩; replace HB := A_ (below_step (y1_ HB.out) hb); (try clear hb); (try clear hb2); (try clear hk); (try clear hi)))
 go_roundg k1
 case measure => have := HK1.out; omega
 case rel => exact ⟨(wrap64 ((ji5) + 1)), (x10_1), (by first | rfl | (simp; done) | (simp only [← hji5] <;> (first | rfl | simp)) | (simp [*]; done)), s1_, H', ⟨by have := HK1.out; omega⟩, ⟨y1_ HB.out⟩⟩}
 {
 rw [if_neg c9] at H
 have c9b0 : decide (t465 < 0) = false := decide_eq_false c9
 clear c9
 have H' := A_ H
 clear H
 have p464 : 0 ≤ ((ji5) : Int) := o1_
 have q464 : (ji5) < (l0.length : Int) := o1_
 obtain ⟨ad464, e464, hx464_0, hx464_1⟩ := at_T73 HR0.out (ji5) p464 q464
 cases e464
 replace hx464_0 := (HB.out.cell (World.block_lt_of_cell? w _ hx464_0)).trans hx464_0
 replace hx464_1 := (HB.out.cell (World.block_lt_of_cell? w _ hx464_1)).trans hx464_1
 replace p464 := eq_true p464
 replace q464 := eq_true q464
 go_wp2_with (first | (go_at_call 106; (with_reducible refine (impl_marked_1_n106.calls ((rd_T73 l0 (ji5)).f0) ((rd_T73 l0 (ji5)).f1) a1 t465 _ A8.out).mono ?_); rintro e w11 ⟨rfl, hb⟩; replace HB := A_ (below_step (y1_ HB.out) hb); (try clear hb); (try clear hb2); (try clear hk); (try clear hi)))
 go_roundg k1
 case measure => have := HK1.out; omega
 case rel => exact ⟨(x9_1), (ji5), s1_, (by first | rfl | (simp; done) | (simp only [← hji5] <;> (first | rfl | simp)) | (simp [*]; done)), H', ⟨by have := HK1.out; omega⟩, ⟨y1_ HB.out⟩⟩}}
 {
 rw [if_neg c7] at H
 exact absurd H (by simp)}}
 {
 rw [if_neg c6] at H
 exact absurd H (by simp)}}
 {
 rw [if_neg c4] at H
 have c4b0 : decide (x9_1 < x10_1) = false := decide_eq_false c4
 clear c4
 by_cases c12 : x9_1 < (l0.length : Int)
 {
 rw [if_pos c12] at H
 have c12b0 : decide (x9_1 < (l0.length : Int)) = true := decide_eq_true c12
 clear c12
 by_cases c13 : 0 ≤ x9_1
 {
 rw [if_pos c13] at H
 have c13b0 : decide (0 ≤ x9_1) = true := decide_eq_true c13
 clear c13
 by_cases c14 : x9_1 < (l0.length : Int)
 {
 rw [if_pos c14] at H
 have c14b0 : decide (x9_1 < (l0.length : Int)) = true := decide_eq_true c14
 clear c14
 replace H := Option.bind_eq_some_iff.mp H
 obtain ⟨t467, A150, H⟩ := H
 replace H : (some (x9_1, (t467 == 0))) = some (r1, r2) := H
 have A15 := A_ A150
 clear A150
 simp only [Option.some.injEq, Prod.mk.injEq] at H
 obtain ⟨rfl, rfl⟩ := H
 have p466 : 0 ≤ (x9_1 : Int) := o1_
 have q466 : x9_1 < (l0.length : Int) := o1_
 obtain ⟨ad466, e466, hx466_0, hx466_1⟩ := at_T73 HR0.out x9_1 p466 q466
 cases e466
 replace hx466_0 := (HB.out.cell (World.block_lt_of_cell? w _ hx466_0)).trans hx466_0
 replace hx466_1 := (HB.out.cell (World.block_lt_of_cell? w _ hx466_1)).trans hx466_1
 replace p466 := eq_true p466
 replace q466 := eq_true q466
 go_wp2_with (first | (go_at_call 106; (with_reducible refine (impl_marked_1_n106.calls ((rd_T73 l0 x9_1).f0) ((rd_T73 l0 x9_1).f1) a1 t467 _ A15.out).mono ?_); rintro e w16 ⟨rfl, hb⟩; replace HB := A_ (below_step (y1_ HB.out) hb); (try clear hb); (try clear hb2); (try clear hk); (try clear hi)))
 go_ret2
 exact ⟨e1_, y1_ HB.out⟩}
 {
 rw [if_neg c14] at H
 exact absurd H (by simp)}}
 {
 rw [if_neg c13] at H
 exact absurd H (by simp)}}
 {
 rw [if_neg c12] at H
 have c12b0 : decide (x9_1 < (l0.length : Int)) = false := decide_eq_false c12
 clear c12
 simp only [Option.some.injEq, Prod.mk.injEq] at H
 obtain ⟨rfl, rfl⟩ := H
 go_wp2
 go_ret2
 exact ⟨e1_, y1_ HB.out⟩}}}}

end Go.Proofs.Ytgfilednbllkmaa.QFnJoinedPresence
