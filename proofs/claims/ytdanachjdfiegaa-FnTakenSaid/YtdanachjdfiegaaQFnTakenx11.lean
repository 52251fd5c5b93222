-- by hand
import Derived.Test.YtdanachjdfiegaaQFnTakenx7
import Derived.Test.YtdanachjdfiegaaQFnTakenx10
namespace Go.Proofs.Ytdanachjdfiegaa.QFnTaken
open Go.RowKit Go.Proofs.YtdanachjdfiegaaW.PrintWords Go.Proofs.YtdanachjdfiegaaW.PrintLast Go.Proofs.YtdanachjdfiegaaW.PrintMore
attribute [local go_sem] max2_int min2_int max_two min_two max_three min_three max_four min_four   -- for this text's walks alone
set_option linter.unusedVariables false
set_option linter.unusedSimpArgs false
theorem info56s : (Try.prog.info? 56).map (·.size) = some 1 := by kernel_rfl
theorem cloneE (A : Option Addr) (c : Nat) (l : List S97) (m : Nat) (hm : l.length = m) (w0 w : World) (hr : Kd.C k97 w A m l) (hc : m ≤ c) (hl : l.length < 8796093022208) :
    Calls Try.prog 95 #[.slice A m c] w fun e w' => ∃ v : Value, e = .returned v ∧ Kd.R k97 97 w' w.heap.size (fun _ => True) v l ∧ Below w.heap.size w w' := by
  subst hm
  exact impl_Parcel_95.calls A c l l w hr hc (by unfold impl_Parcel_95.f; rw [if_pos hl])
section
variable {P : Program} {ops : Array Oper} {rest : List Oper} {o : Oper} {a : Act} {Q : Exit → Act → World → Prop}
end
section
variable {ops : Array Oper} {rest : List Oper} {o : Oper} {a : Act} {Q : Exit → Act → World → Prop}
/-- A box's Missed is written. -/
theorem boxMissed (g N d i : Nat) (ok : Nat → Prop) (xs : List S58) (v : Int) (p q : Operand) {w0 W : World} (hN : o.dst = none) (hgd : o.guard = none) (ho : o.op = .store 2 p q) (ha : a.eval p = .pointer (some ⟨g, i * 4 + 2, none⟩)) (hq : a.eval q = .int .i64 v) (hi : i < xs.length)
    (hS : Kd.S k58 58 W w0.heap.size ok (.slice (some ⟨g, 0, none⟩) N d) xs) (hB : Below w0.heap.size w0 W)
    (h : ∀ w1, Kd.S k58 58 w1 w0.heap.size ok (.slice (some ⟨g, 0, none⟩) N d) (xs.set i ⟨xs[i].f0, xs[i].f1, v, xs[i].f3⟩) → Below w0.heap.size w0 w1 → W.grownBy w1 (some g) → wpList Try.prog ops Q rest a w1) : wpList Try.prog ops Q (o :: rest) a W := by
  obtain ⟨hN2, _, _⟩ := Kd.S_reads' hS
  obtain ⟨oki, c, hcl, hM, hcells, hfr, hoki, hH⟩ := Kd.S_elem hS z58 (i : Int) (by omega) (by omega)
  have hxe : xs.getD (i : Int).toNat z58 = xs[i] := by
    show xs.getD i z58 = xs[i]
    rw [List.getD_eq_getElem?_getD, List.getElem?_eq_getElem hi]; rfl
  rw [hxe] at hM
  obtain ⟨v3, rfl, hR⟩ := k58_openM hM
  exact Kd.H_store k58 (w0 := w0) w0.heap.size hN hgd 2 p q ho 58 (g := g) (n := N) (cap := d) (o' := i * 4 + 2) (i : Int) 2 xs ⟨xs[i].f0, xs[i].f1, v, xs[i].f3⟩ (.int .i64 v) [.int .i64 v] [.string xs[i].f0, .int .i64 xs[i].f1, .int .i64 xs[i].f2, v3] ok oki oki ha rfl hq rfl (by kernel_rfl) (by simp [Value.oneCell']) hH (by omega) (by omega) (by show 2 + 1 ≤ 4; omega) (k58_mkM _ _ _ ⟨xs[i].f0, xs[i].f1, v, xs[i].f3⟩ hR) (fun _ h => h) hB h
end
set_option maxHeartbeats 8000000 in
set_option maxRecDepth 100000 in
theorem impl_take.calls (g N d i m : Nat) (cnt : Int) (hcnt : 0 ≤ cnt) (ok : Nat → Prop) (xs : List S58) (x : S58) (w0 w : World) (hB : Below w0.heap.size w0 w) (hS : Kd.S k58 58 w w0.heap.size ok (.slice (some ⟨g, 0, none⟩) N d) xs) (hx : xs[i]? = some x) (hmn : mn cnt (x.f3.length : Int) = (m : Int)) (hl : x.f3.length ≤ 1000) :
    Calls Try.prog 65 #[.pointer (some ⟨g, i * 4, none⟩), .int .i64 cnt] w fun e w' => ∃ v, e = .returned (.tuple #[v, .int .i64 x.f2]) ∧ Kd.R k97 97 w' w.heap.size (fun _ => True) v (x.f3.take m) ∧ Kd.S k58 58 w' w0.heap.size ok (.slice (some ⟨g, 0, none⟩) N d) (xs.set i ⟨x.f0, x.f1, 0, x.f3.drop m⟩) ∧ Below w0.heap.size w0 w' ∧ Kept w w' ok := by
  have hu56 := Try.underlying56
  have hu58 := Try.underlying58
  have hi : i < xs.length := (List.getElem?_eq_some_iff.1 hx).1
  have hxe : xs.getD (i : Int).toNat z58 = x := by
    show xs.getD i z58 = x
    rw [List.getD_eq_getElem?_getD, hx]; rfl
  have hml2 : m ≤ x.f3.length := by unfold mn at hmn; split at hmn <;> omega
  have hml : (x.f3.take m).length = m := by rw [List.length_take]; omega
  have HGO := Aside0.mk (show ok g from (Kd.S_R hS).1 g rfl)
  have HGL := Aside0.mk (show g < w.heap.size from Kd.S_lt hS g rfl)
  replace hS : Kd.S k58 58 w w0.heap.size (fun k => ok k ∧ k < w.heap.size) (.slice (some ⟨g, 0, none⟩) N d) xs := Kd.S_mono (Kd.S_bound hS) (fun k hk => ⟨hk.1, hk.2.2.1⟩)
  obtain ⟨hN, hNd, _⟩ := Kd.S_reads' hS
  have hin := Aside0.mk (show (i : Int) < (N : Int) by omega)
  obtain ⟨oki, c, hcl, hM, hcells, hfr, hoki, hH⟩ := Kd.S_elem hS z58 (i : Int) (by omega) hin.out
  rw [hxe] at hM
  obtain ⟨v3, rfl, hR⟩ := k58_openM hM
  obtain ⟨A, c3, rfl⟩ := Kd.R_slice hR
  obtain ⟨-, hc3', hC⟩ := Kd.R_reads' hR
  have hc2 := Aside0.mk (show w.drew.cell? ⟨g, i * 4 + 2, none⟩ = some (.int .i64 x.f2) from hcells 2 _ rfl)
  have hc3 := Aside0.mk (show w.drew.cell? ⟨g, i * 4 + 3, none⟩ = some (.slice A x.f3.length c3) from hcells 3 _ rfl)
  have e3 : w.cell? ⟨g, i * 4 + 3, none⟩ = some (.slice A x.f3.length c3) := hcells 3 _ rfl
  have HC := Aside0.mk (Kd.R_reads' (Kd.R_take (m := m) (Kd.R_drew hR) hml2)).2.2
  rw [hml] at HC
  have hcl95 := Aside0.mk (show (x.f3.take m).length < 8796093022208 by rw [hml]; omega)
  obtain ⟨i0, hi0, hz0, hzs, hzb⟩ := info_parts info97
  have hcut := cut_to 56 97 .i64 Try.underlying56 hi0 A x.f3.length c3 (m : Int) (by omega) (by omega) hc3'
  rw [Int.toNat_natCast] at hcut
  have HS := Aside0.mk (Kd.S_drew hS)
  have HB := Aside0.mk (below_drew hB)
  clear hS hB hM hcells hfr hoki hH hR hC hi0 hz0 hzs hzb hcl
  unfold mn at hmn
  go_enter Try.func65, Try.ntmps65
  try go_wp2_with (fail)
  refine start_ (n := 13) (S := fun w' => w'.cell? ⟨g, i * 4 + 2, none⟩ = some (.int .i64 x.f2) ∧ w'.cell? ⟨g, i * 4 + 3, none⟩ = some (.slice A x.f3.length c3)) (ds := []) #[false,false,false,false,false,false,false,false,false,false,false,false,false] s2_ rfl rfl ⟨hc2.out, hc3.out⟩ (fun hHeld => ?_)
  refine pure_ (i := 0) (N := some 16) (v := ?_) (a' := ?_) #[true,false,false,false,false,false,false,false,false,false,false,false,false] rfl rfl s2_ (fun _ _ _ h => h) (Or.inl ⟨by rfl, ?_⟩) ?_ ?_
  rotate_left
  { intro w'; go_simp; with_reducible rfl }
  rotate_left
  · exact p1_
  refine pure_ (i := 1) (N := some 17) (v := ?_) (a' := ?_) #[true,true,false,false,false,false,false,false,false,false,false,false,false] rfl rfl s2_ (fun _ _ _ h => h) (Or.inl ⟨by rfl, ?_⟩) ?_ ?_
  rotate_left
  { intro w'; go_simp; with_reducible rfl }
  rotate_left
  · exact p1_
  refine pure_ (i := 2) (N := some 18) (v := ?_) (a' := ?_) #[true,true,true,false,false,false,false,false,false,false,false,false,false] rfl rfl s2_ (fun _ _ _ h => h) (Or.inl ⟨by rfl, ?_⟩) ?_ ?_
  rotate_left
  { intro w'; go_simp; with_reducible rfl }
  rotate_left
  · exact p1_
  refine pure_ (i := 4) (N := some 20) (v := ?_) (a' := ?_) #[true,true,true,false,true,false,false,false,false,false,false,false,false] rfl rfl s2_ (fun _ _ _ h => h) (Or.inl ⟨by rfl, ?_⟩) ?_ ?_
  rotate_left
  { intro w'; go_simp; with_reducible rfl }
  rotate_left
  · exact p1_
  refine pure_ (i := 7) (N := some 23) (v := ?_) (a' := ?_) #[true,true,true,false,true,false,false,true,false,false,false,false,false] rfl rfl s2_ (fun _ _ _ h => h) (Or.inl ⟨by rfl, ?_⟩) ?_ ?_
  rotate_left
  { intro w'; go_simp; with_reducible rfl }
  rotate_left
  · exact p1_
  refine pure_ (i := 8) (N := some 24) (v := ?_) (a' := ?_) #[true,true,true,false,true,false,false,true,true,false,false,false,false] rfl rfl s2_ (fun _ _ _ h => h) (Or.inl ⟨by rfl, ?_⟩) ?_ ?_
  rotate_left
  { intro w'; go_simp; with_reducible rfl }
  rotate_left
  · exact p1_
  refine pure_ (i := 9) (N := some 25) (v := ?_) (a' := ?_) #[true,true,true,false,true,false,false,true,true,true,false,false,false] rfl rfl s2_ (fun _ _ _ h => h) (Or.inl ⟨by rfl, ?_⟩) ?_ ?_
  rotate_left
  { intro w'; go_simp; with_reducible rfl }
  rotate_left
  · exact p1_
  refine take_ (i := 3) (N := some 19) (v := ?_) (a' := ?_) #[true,true,true,true,true,false,false,true,true,true,false,false,false] rfl rfl s2_ (fun _ _ _ h => h) (Or.inl ⟨by rfl, ?_⟩) hHeld ?_ ?_
  rotate_left
  { rintro w' ⟨s0, s1⟩; go_simp; with_reducible rfl }
  rotate_left
  · exact p1_
  refine take_ (i := 10) (N := some 26) (v := ?_) (a' := ?_) #[true,true,true,true,true,false,false,true,true,true,true,false,false] rfl rfl s2_ (fun _ _ _ h => h) (Or.inl ⟨by rfl, ?_⟩) hHeld ?_ ?_
  rotate_left
  { rintro w' ⟨s0, s1⟩; go_simp; with_reducible rfl }
  rotate_left
  · exact p1_
  refine pure_ (i := 5) (N := some 21) (v := ?_) (a' := ?_) #[true,true,true,true,true,true,false,true,true,true,true,false,false] rfl rfl s2_ (fun _ _ _ h => h) (Or.inl ⟨by rfl, ?_⟩) ?_ ?_
  rotate_left
  { intro w'; go_simp; with_reducible rfl }
  rotate_left
  · exact p1_
  refine one_ (i := 6) (N := some 22) #[true,true,true,true,true,true,true,true,true,true,true,false,false] rfl rfl s2_ (by decide) (fun K hK => ?_)
  refine goes_ Try.func95 s2_ rfl #[.slice A m c3] (by rfl) rfl rfl s3_ ?_
  refine (cloneE A c3 (x.f3.take m) m hml w.drew _ HC.out (by omega) hcl95.out).mono ?_
  rintro e_ w1 ⟨v, rfl, ho, hb⟩
  refine ⟨_, rfl, ?_⟩
  replace HS := Aside0.mk (Kd.S_below HS.out hb)
  have HO := Aside0.mk ho
  replace HB := Aside0.mk (below_step HB.out hb)
  have HW := Aside0.mk hb
  obtain ⟨oki, c, hcl, hM, hcells, hfr, hoki, hH⟩ := Kd.S_elem HS.out z58 (i : Int) (by omega) (by rw [(Kd.S_reads' HS.out).1]; omega)
  have hx2 : xs.getD (i : Int).toNat z58 = x := hxe
  rw [hx2] at hM
  obtain ⟨v3, rfl, hR⟩ := k58_openM hM
  have e3 := hcells 3 _ rfl; have e2 := hcells 2 _ rfl; have f3_ := hfr 3; have f2_ := hfr 2
  have d3 : w1.cell? ⟨g, i * 4 + 3, none⟩ = some (.slice A x.f3.length c3) := (hb.cell (World.block_lt_of_cell? _ _ hc3.out)).trans hc3.out
  obtain rfl : v3 = .slice A x.f3.length c3 := Option.some.inj (e3.symm.trans d3)
  refine hK.out _ _ ⟨e2, d3⟩ (fun hHeld => ?_)
  clear hK K hHeld
  refine norm_ (a' := ?_) ?_ ?_; rotate_left; { show Act.put _ (some 22) _ = _; simp only [Act.put, List.setIfInBounds_toArray, List.set_cons_zero, List.set_cons_succ, i64_w, i32_w]; rfl }
  refine pure_ (i := 11) (N := some 7) (v := ?_) (a' := ?_) #[true,true,true,true,true,true,true,true,true,true,true,true,false] rfl rfl s2_ (fun _ _ _ h => h) (Or.inl ⟨by rfl, ?_⟩) ?_ ?_
  rotate_left
  { intro w'; go_simp; with_reducible rfl }
  rotate_left
  · exact p1_
  refine pure_ (i := 12) (N := some 8) (v := ?_) (a' := ?_) #[true,true,true,true,true,true,true,true,true,true,true,true,true] rfl rfl s2_ (fun _ _ _ h => h) (Or.inl ⟨by rfl, ?_⟩) ?_ ?_
  rotate_left
  { intro w'; go_simp; with_reducible rfl }
  rotate_left
  · exact p1_
  refine done_ s2_ ?_
  have HR := Aside0.mk hR; have HH := Aside0.mk hH; have HOK := Aside0.mk hoki
  clear hR hH hoki hM hcells hfr e3 e2 f3_ f2_ hcl ho hb hx2
  have d3 := Aside0.mk d3
  have d3_ := d3.out
  go_wp2_with (first | ((with_reducible refine gate_callee (f := 96) rfl ?_); refine goesL_ (some 34) rfl rfl Try.func96 s2_ rfl #[.slice A x.f3.length c3, .int .i64 0, .int .i64 (m : Int)] rfl s3_ ?_; refine (impl_Delete.calls oki A x.f3.length c3 m x.f3 w0 w1 HB.out hml2 HR.out).mono ?_; rintro e w2 ⟨rfl, hr2, hb2, hk2⟩; refine ⟨_, rfl, ?_⟩; have HR2 := Aside0.mk hr2; have HB2 := Aside0.mk hb2; have HK2 := Aside0.mk (hk2.mono (fun k e_ => HR.out.1 k e_.symm)); clear hr2 hb2 hk2; have HH2 := Aside0.mk (Kd.H_kept HH.out HK2.out (fun _ _ hn => hn)); have H3 := Aside0.mk (Kd.H_at HH2.out (by omega) hin.out)) | ((with_reducible refine gate_store (p := 36) rfl ?_); refine Kd.H_store k58 (w0 := w0) w0.heap.size rfl rfl 56 (.tmp 36) (.tmp 34) rfl 58 (g := g) (n := N) (cap := d) (o' := i * 4 + 3) (i : Int) 3 xs ⟨x.f0, x.f1, x.f2, x.f3.drop m⟩ (.slice A (x.f3.length - m) c3) [.slice A (x.f3.length - m) c3] [.string x.f0, .int .i64 x.f1, .int .i64 x.f2, .slice A x.f3.length c3] (fun k => ok k ∧ k < w.heap.size) oki oki rfl rfl rfl rfl info56s (by simp [Value.oneCell']) HH2.out (by omega) hin.out (by show 3 + 1 ≤ 4; omega) (k58_mkM _ _ _ ⟨x.f0, x.f1, x.f2, x.f3.drop m⟩ HR2.out) (fun _ h => h) HB2.out ?_; intro w3 hs3 hb3 hg3; have HS3 := Aside0.mk hs3; have HB3 := Aside0.mk hb3; have HG3 := Aside0.mk hg3; clear hs3 hb3 hg3) | ((with_reducible refine gate_store (p := 38) rfl ?_); refine boxMissed g N d i (fun k => ok k ∧ k < w.heap.size) (xs.set i ⟨x.f0, x.f1, x.f2, x.f3.drop m⟩) 0 (.tmp 38) (.const (.int .i64 0)) rfl rfl rfl rfl rfl (by rw [List.length_set]; exact hi) HS3.out HB3.out ?_; intro w4 hs4 hb4 hg4; have HS4 := Aside0.mk hs4; have HB4 := Aside0.mk hb4; have HG4 := Aside0.mk hg4; clear hs4 hb4 hg4))
  go_ret2
  have hOb : Kd.R k97 97 w1 w.heap.size (fun k => w.heap.size ≤ k) v (x.f3.take m) := Kd.R_mono (Kd.R_bound HO.out) (fun k hk => hk.2.1)
  have hgl : g < w.heap.size := HGL.out
  have s2 := Kd.R_step hOb (fun k hk hlt => HK2.out.2 k hlt (fun hn => by have := (HOK.out k hn).1.2; omega))
  have s3 := Kd.R_step s2 (fun k hk hlt => HG3.out.block k hlt (fun e => by have : k = g := (by simpa using e); omega))
  have s4 := Kd.R_step s3 (fun k hk hlt => HG4.out.block k hlt (fun e => by have : k = g := (by simpa using e); omega))
  refine ⟨_, rfl, Kd.R_mono s4 (fun _ _ => trivial), ?_, HB4.out, ?_⟩
  · have h4 := Kd.S_mono HS4.out (fun k hk => hk.1)
    simpa [List.set_set] using h4
  · refine Kept.of_grown HG4.out (Kept.of_grown HG3.out ((Kept.of_below HW.out ok).then_ HK2.out (fun k hk => .inl (HOK.out k hk).1.1)) (fun k e => .inl ?_)) (fun k e => .inl ?_)
    · have : g = k := (by simpa using e); exact this ▸ HGO.out
    · have : g = k := (by simpa using e); exact this ▸ HGO.out

end Go.Proofs.Ytdanachjdfiegaa.QFnTaken
