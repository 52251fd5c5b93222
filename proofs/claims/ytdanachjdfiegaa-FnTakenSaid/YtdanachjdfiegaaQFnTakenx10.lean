-- by hand
import Derived.Test.YtdanachjdfiegaaQFnTakenx0
import Derived.Test.YtdanachjdfiegaaTw
import Derived.Test.YtdanachjdfiegaaPl
import Derived.Test.YtdanachjdfiegaaWd
namespace Go.Proofs.Ytdanachjdfiegaa.QFnTaken
open Go.RowKit Go.Proofs.YtdanachjdfiegaaW.PrintWords Go.Proofs.YtdanachjdfiegaaW.PrintLast Go.Proofs.YtdanachjdfiegaaW.PrintMore
attribute [local go_sem] max2_int min2_int max_two min_two max_three min_three max_four min_four   -- for this text's walks alone
set_option linter.unusedVariables false
set_option linter.unusedSimpArgs false
theorem cut_to (t e : TypeId) (kh : IntKind) {i : TypeInfo} (ht : Try.prog.underlying t = some (.slice e)) (hi : Try.prog.info? e = some i) (A : Option Addr) (n c : Nat) (j : Int) (h0 : 0 ≤ j) (hm : j ≤ n) (hc : n ≤ c) :
    ∀ W : World, (Instr.slice t (.slice A n c) none (some (.int kh j)) none).run Try.prog W = .ok (.slice A j.toNat c) W := by
  intro W
  have hel : Try.prog.elem t = e := by simp [Program.elem, ht]
  have hu : Try.prog.underlying t = some (.slice (Try.prog.elem t)) := by rw [hel]; exact ht
  have ha : (A.map fun x => x.add 0) = A := by cases A <;> simp [Addr.add]
  rw [run_slice_h W t A n c hu kh j h0 (by omega), hel]
  simp [sizeOf, typeInfo, hi, sliced, Result.andThen, ha]
theorem cut_from (t e : TypeId) (kl : IntKind) {i : TypeInfo} (ht : Try.prog.underlying t = some (.slice e)) (hi : Try.prog.info? e = some i) (size : Nat) (hsz : i.size = size) (A : Option Addr) (n c : Nat) (j : Int) (h0 : 0 ≤ j) (hm : j ≤ n) :
    ∀ W : World, (Instr.slice t (.slice A n c) (some (.int kl j)) none none).run Try.prog W = .ok (.slice (if c = j.toNat then A else A.map (·.add (j.toNat * size))) (n - j.toNat) (c - j.toNat)) W := by
  intro W
  have hel : Try.prog.elem t = e := by simp [Program.elem, ht]
  have hu : Try.prog.underlying t = some (.slice (Try.prog.elem t)) := by rw [hel]; exact ht
  rw [run_slice_l W t A n c hu kl j h0 hm, hel]
  simp [sizeOf, typeInfo, hi, hsz, sliced, Result.andThen]
set_option maxHeartbeats 8000000 in
set_option maxRecDepth 100000 in
theorem impl_Delete.same (A : Option Addr) (n c : Nat) (w : World) (hnc : n ≤ c) (hc : c ≤ 9223372036854775807) : Calls Try.prog 96 #[.slice A n c, .int .i64 0, .int .i64 0] w fun e w' => e = .returned (.slice A n c) ∧ Below w.heap.size w w' := by
  have hu56 := Try.underlying56
  obtain ⟨i0, hi0, hz0, hzs, hzb⟩ := info_parts info97
  go_enter Try.func96, Try.ntmps96
  go_wp2
  go_ret
  exact ⟨rfl, Below.refl _ _⟩
set_option maxHeartbeats 8000000 in
set_option maxRecDepth 100000 in
theorem impl_Delete.some_ (P0 : Nat → Prop) (g n c j : Nat) (xs : List S97) (w0 w : World) (hB : Below w0.heap.size w0 w) (hj0 : 0 < j) (hj : j ≤ n) (hr : Kd.R k97 97 w w0.heap.size P0 (.slice (some ⟨g, 0, none⟩) n c) xs) :
    Calls Try.prog 96 #[.slice (some ⟨g, 0, none⟩) n c, .int .i64 0, .int .i64 j] w fun e w' => e = .returned (.slice (some ⟨g, 0, none⟩) (n - j) c) ∧ Kd.R k97 97 w' w0.heap.size P0 (.slice (some ⟨g, 0, none⟩) (n - j) c) (xs.drop j) ∧ Below w0.heap.size w0 w' ∧ Kept w w' (fun k => some k = (Value.slice (some ⟨g, 0, none⟩) n c).ownBlock) := by
  have hu56 := Try.underlying56
  obtain ⟨hn, hnc, _⟩ := Kd.R_reads' hr
  have hcm : c ≤ 9223372036854775807 := by
    obtain ⟨_, inner, ⟨_, hn | ⟨g, cap, cur, hv, _, _, _, hcm, _⟩⟩, _⟩ := hr
    · cases hn.1
    · injection hv with _ _ e3
      unfold maxLen at hcm
      omega
  obtain ⟨i0, hi0, hz0, hzs, hzb⟩ := info_parts info97
  have hsize : (Try.prog.info? 97).map (·.size) = some (k97 : Kd S97).sz := by rw [hi0]; exact congrArg some hzs
  have hne : ¬ ((0 : Int) = (j : Int)) := by omega
  have hnj : ¬ (j = 0) := by omega
  have hcn : ¬ (c = n - j) := by omega
  have hle : (j : Int) ≤ (n : Int) := by omega
  have hcut := cut_from 56 97 .i64 Try.underlying56 hi0 2 hzs (some ⟨g, 0, none⟩) n c (j : Int) (by omega) (by omega)
  rw [Int.toNat_natCast] at hcut
  have HA := A_ (show (if c = j then (some ⟨g, 0, none⟩ : Option Addr) else some ⟨g, j * 2, none⟩) = if c = j then some ⟨g, 0, none⟩ else (some (⟨g, 0, none⟩ : Addr)).map (·.add (j * (k97 : Kd S97).sz)) by rw [Option.map_some, add_at, Nat.zero_add]; rfl)
  have HO := A_ (Kd.R_drew hr)
  have HB := A_ hB
  have hcl : (((n : Int) - (j : Int))).toNat = n - j := by omega
  have hsub : ((n - j : Nat) : Int) = (n : Int) - (j : Int) := by omega
  have hq1 : (0 : Int) ≤ (n : Int) - (j : Int) := by omega
  have hq2 : (n : Int) - (j : Int) ≤ (n : Int) := by omega
  have HA2 := A_ (show (some ⟨g, (n - j) * 2, none⟩ : Option Addr) = if c = n - j then some ⟨g, 0, none⟩ else (some (⟨g, 0, none⟩ : Addr)).map (·.add ((n - j) * (k97 : Kd S97).sz)) by rw [if_neg hcn, Option.map_some, add_at, Nat.zero_add]; rfl)
  have HN := A_ hn
  clear hr hB hn
  go_enter Try.func96, Try.ntmps96
  try go_wp2_with (fail)
  refine start_ (n := 8) (S := fun w' => True) (ds := []) #[false,false,false,false,false,false,false,false] s2_ rfl rfl trivial (fun hHeld => ?_)
  refine pure_ (i := 0) (N := some 20) (v := ?_) (a' := ?_) #[true,false,false,false,false,false,false,false] rfl rfl s2_ (fun _ _ _ h => h) (Or.inl ⟨by rfl, ?_⟩) ?_ ?_
  rotate_left
  { intro w'; go_simp; with_reducible rfl }
  rotate_left
  · exact p1_
  refine pure_ (i := 1) (N := some 21) (v := ?_) (a' := ?_) #[true,true,false,false,false,false,false,false] rfl rfl s2_ (fun _ _ _ h => h) (Or.inl ⟨by rfl, ?_⟩) ?_ ?_
  rotate_left
  { intro w'; go_simp; with_reducible rfl }
  rotate_left
  · exact p1_
  refine pure_ (i := 3) (N := some 23) (v := ?_) (a' := ?_) #[true,true,false,true,false,false,false,false] rfl rfl s2_ (fun _ _ _ h => h) (Or.inl ⟨by rfl, ?_⟩) ?_ ?_
  rotate_left
  { intro w'; go_simp; with_reducible rfl }
  rotate_left
  · exact p1_
  refine pure_ (i := 4) (N := some 24) (v := ?_) (a' := ?_) #[true,true,false,true,true,false,false,false] rfl rfl s2_ (fun _ _ _ h => h) (Or.inl ⟨by rfl, ?_⟩) ?_ ?_
  rotate_left
  { intro w'; go_simp; with_reducible rfl }
  rotate_left
  · exact p1_
  refine pure_ (i := 2) (N := some 22) (v := ?_) (a' := ?_) #[true,true,true,true,true,false,false,false] rfl rfl s2_ (fun _ _ _ h => h) (Or.inl ⟨by rfl, ?_⟩) ?_ ?_
  rotate_left
  { intro w'; go_simp; with_reducible rfl }
  rotate_left
  · exact p1_
  refine pure_ (i := 5) (N := some 25) (v := ?_) (a' := ?_) #[true,true,true,true,true,true,false,false] rfl rfl s2_ (fun _ _ _ h => h) (Or.inl ⟨by rfl, ?_⟩) ?_ ?_
  rotate_left
  { intro w'; go_simp; with_reducible rfl }
  rotate_left
  · exact p1_
  refine one_ (i := 6) (N := some 26) #[true,true,true,true,true,true,true,false] rfl rfl s2_ (by decide) (fun K hK => ?_)
  refine Kd.R_front_step k97 (w0 := w0) w0.heap.size s2_ (.tmp 22) (.tmp 25) 56 97 rfl Try.underlying56 hsize (g := g) (n := n) (c := c) (j := j) (m := n - j) (c2 := c - j) (xs := xs) rfl rfl HA.out rfl HO.out hj0 hj (below_drew HB.out) (below_size (below_drew HB.out)) ?_
  intro w1 ho hb hg
  refine hK.out _ _ trivial (fun hHeld => ?_)
  clear hK K hHeld
  refine norm_ (a' := ?_) ?_ ?_; rotate_left; { show Act.put _ (some 26) _ = _; simp only [Act.put, List.setIfInBounds_toArray, List.set_cons_zero, List.set_cons_succ, i64_w, i32_w]; rfl }
  refine pure_ (i := 7) (N := some 0) (v := ?_) (a' := ?_) #[true,true,true,true,true,true,true,true] rfl rfl s2_ (fun _ _ _ h => h) (Or.inl ⟨by rfl, ?_⟩) ?_ ?_
  rotate_left
  { intro w'; go_simp; with_reducible rfl }
  rotate_left
  · exact p1_
  refine done_ s2_ ?_
  have hlen : (xs.drop j ++ xs.drop (n - j)).length = n := by rw [List.length_append, List.length_drop, List.length_drop, ← HN.out]; omega
  have HO2 := A_ ho; have HB2 := A_ hb; have HG2 := A_ hg; clear ho hb hg
  go_wp2_with (first | ((with_reducible refine gate_builtin (b := .clear) (xs := #[.tmp 31]) rfl ?_); refine Kd.R_clear k97 (w0 := w0) w0.heap.size rfl (.tmp 31) 56 97 (.agg #[(.int .i64 0), (.int .i64 0)]) 16 rfl Try.underlying56 info97 rfl (by decide) (A := some ⟨g, 0, none⟩) (n := n) (k := n - j) (xs := xs.drop j ++ xs.drop (n - j)) z97 rfl HA2.out rfl (k97_mkM _ _ _ z97) HO2.out (by rw [hlen]; omega) HB2.out (below_size HB2.out) ?_; intro w2 ho hb hg; have HO3 := A_ ho; have HB3 := A_ hb; have HG3 := A_ hg; clear ho hb hg))
  all_goals
    (try subst_vars)
    go_ret
    have ht := Kd.R_take (m := n - j) HO3.out (by rw [List.length_append, List.length_take, List.length_replicate, hlen]; omega)
    have e3 : ((xs.drop j ++ xs.drop (n - j)).take (n - j) ++ List.replicate ((xs.drop j ++ xs.drop (n - j)).length - (n - j)) z97).take (n - j) = xs.drop j := by
      have l1 : (xs.drop j).length = n - j := by rw [List.length_drop, ← HN.out]
      rw [List.take_append_of_le_length (by rw [List.length_take, hlen]; omega), List.take_take, Nat.min_self, List.take_append_of_le_length (by omega), List.take_of_length_le (by omega)]
    rw [e3] at ht
    exact ⟨rfl, ht, HB3.out, Kept.of_grown HG3.out (Kept.of_grown HG2.out (Kept.drew (Kept.refl _ _)) (fun k e_ => .inl (by simpa [Value.ownBlock] using e_.symm))) (fun k e_ => .inl (by simpa [Value.ownBlock] using e_.symm))⟩
/-- slices.Delete of the first j. -/
theorem impl_Delete.calls (P0 : Nat → Prop) (A : Option Addr) (n c j : Nat) (xs : List S97) (w0 w : World) (hB : Below w0.heap.size w0 w) (hj : j ≤ n) (hr : Kd.R k97 97 w w0.heap.size P0 (.slice A n c) xs) :
    Calls Try.prog 96 #[.slice A n c, .int .i64 0, .int .i64 j] w fun e w' => e = .returned (.slice A (n - j) c) ∧ Kd.R k97 97 w' w0.heap.size P0 (.slice A (n - j) c) (xs.drop j) ∧ Below w0.heap.size w0 w' ∧ Kept w w' (fun k => some k = (Value.slice A n c).ownBlock) := by
  obtain ⟨hn, hnc, _⟩ := Kd.R_reads' hr
  have hcm : c ≤ 9223372036854775807 := by
    obtain ⟨_, inner, ⟨_, hn | ⟨g, cap, cur, hv, _, _, _, hcm, _⟩⟩, _⟩ := hr
    · injection hn.1 with _ _ e3
      omega
    · injection hv with _ _ e3
      unfold maxLen at hcm
      omega
  rcases Nat.eq_zero_or_pos j with rfl | hp
  · refine (impl_Delete.same A n c w hnc hcm).mono ?_
    rintro e w' ⟨rfl, hb⟩
    exact ⟨rfl, Kd.R_below hr hb, below_step hB hb, Kept.of_below hb _⟩
  · obtain ⟨g, rfl⟩ : ∃ g, A = some ⟨g, 0, none⟩ := by
      obtain ⟨_, inner, ⟨_, hn2 | ⟨g, cap, cur, hv, _⟩⟩, _⟩ := hr
      · omega
      · injection hv with h1
        exact ⟨g, h1⟩
    exact impl_Delete.some_ P0 g n c j xs w0 w hB hp hj hr
end Go.Proofs.Ytdanachjdfiegaa.QFnTaken
