-- by hand, over one pool
import Derived.Test.YtgfilednbllkmaaQFnLeasesx0
import Derived.Test.YtgfilednbllkmaaQFnLeasesx2
namespace Go.Proofs.Ytgfilednbllkmaa.QFnJoinedPresence
open Go.RowKit Go.Proofs.YtgfilednbllkmaaW.PrintWords Go.Proofs.YtgfilednbllkmaaW.PrintLast Go.Proofs.YtgfilednbllkmaaW.PrintMore
attribute [local go_sem] max2_int min2_int max_two min_two max_three min_three max_four min_four   -- for this text's walks alone
set_option linter.unusedVariables false
set_option linter.unusedSimpArgs false
section
variable {w0 w w1 : World} {L : List Res} {A0 A1 A2 : Option Addr} {n0 n1 n2 c0 c1 c2 g1 g2 q2 : Nat} {a b : List S63} {c : List S73} {V2 : Value}
theorem dropW (k : Nat) (r : List S63) (mem : Int) (P : Pool w0 w L) (i j : Nat) (hi : L[i]? = some (rrow k63 63 w0.heap.size (.slice A0 n0 c0) a)) (hj : L[j]? = some (rbox g1 #[.int .i64 mem] 2)) (h : impl_dropLeases_v2.f k a mem = some r) :
    Calls Try.prog 53 #[.slice A0 n0 c0, .func (.func 52) #[] #[.pointer (some ⟨g1, 0, none⟩)]] w fun e w' => ∃ D e0, e = .returned (.slice D r.length e0) ∧ Pool w0 w' (L.set i (rrow k63 63 w0.heap.size (.slice D r.length e0) r)) := by
  refine (impl_dropLeases_v2.calls k _ _ a g1 mem r w0 w P.1 (P.cell j hj) (P.rown i hi) h).mono ?_
  rintro e w' ⟨v, rfl, g, hb, hk⟩
  obtain ⟨D, e0, rfl⟩ := Kd.R_slice g
  exact ⟨D, e0, rfl, P.row i hi rfl hb hk g⟩
end
set_option maxHeartbeats 40000000 in
set_option maxRecDepth 100000 in
theorem impl_LeaveNow.pool (k : Nat) (A0_0 : Option Addr) (c0_0 : Nat) (l0_0 : List (S63)) (A0_1 : Option Addr) (c0_1 : Nat) (l0_1 : List (S63)) (A0_2 : Option Addr) (c0_2 : Nat) (l0_2 : List (S73)) (mem : Int) (h t : List S63) (w : World) (hr0_0 : Kd.C k63 w A0_0 l0_0.length l0_0) (hc0_0 : l0_0.length ≤ c0_0) (hr0_1 : Kd.C k63 w A0_1 l0_1.length l0_1) (hc0_1 : l0_1.length ≤ c0_1) (hr0_2 : Kd.C k73 w A0_2 l0_2.length l0_2) (hc0_2 : l0_2.length ≤ c0_2) (hv : impl_ValidPresence.f k l0_0 l0_1 l0_2 = some true) (hc : impl_clonePresence.f l0_0 l0_1 l0_2 = some (l0_0, l0_1, l0_2)) (hd : impl_dropLeases_v2.f k l0_0 mem = some h) (hd2 : impl_dropLeases_v2.f k l0_1 mem = some t) (hlen : decide (wrap64 ((h.length : Int) + (t.length : Int)) < wrap64 ((l0_0.length : Int) + (l0_1.length : Int))) = true) (hg : impl_ValidPresence.f k h t l0_2 = some true) :
    Calls Try.prog 18 #[.agg #[.slice A0_0 l0_0.length c0_0, .slice A0_1 l0_1.length c0_1, .slice A0_2 l0_2.length c0_2], .int .i64 mem] w fun e w' => ∃ D0 e0 D1 e1 D2 e2, e = .returned (.tuple #[.agg #[.slice D0 h.length e0, .slice D1 t.length e1, .slice D2 l0_2.length e2], .bool true]) ∧ Pool w w' [rp w.heap.size D0 h.length e0 h D1 t.length e1 t D2 l0_2.length e2 l0_2] := by
 have hu27 := Try.underlying27
 have hu63 := Try.underlying63
 have hu73 := Try.underlying73
 have P := Pool.nil w
 go_enter Try.func18, Try.ntmps18
 try go_wp2_with (first | ((with_reducible refine gate_dst (N := 2) rfl ?_); (try (refine gate_guard (by rfl) ?_; dsimp only)); refine bx_ 2 #[.slice A0_0 l0_0.length c0_0, .slice A0_1 l0_1.length c0_1, .slice A0_2 l0_2.length c0_2] 27 ?_; intro g2 hg w1 hbox hb; replace P := P.box hg hbox hb; clear hb hbox hg) | ((with_reducible refine gate_dst (N := 3) rfl ?_); (try (refine gate_guard (by rfl) ?_; dsimp only)); refine bx_ 3 #[.int .i64 mem] 2 ?_; intro g3 hg w1 hbox hb; replace P := P.box hg hbox hb; clear hb hbox hg) | ((with_reducible refine gate_dst (N := 4) rfl ?_); (try (refine gate_guard (by rfl) ?_; dsimp only)); refine bx_ 4 #[.slice none 0 0, .slice none 0 0, .slice none 0 0] 27 ?_; intro g4 hg w1 hbox hb; replace P := P.box hg hbox hb; clear hb hbox hg; obtain ⟨ce0, ce1, ce2, fe0, fe1, fe2⟩ := P.c3 0 rfl))
 go_at_call 42
 go_in
 try go_wp2_with (first | ((with_reducible refine gate_dst (N := 2) rfl ?_); (try (refine gate_guard (by rfl) ?_; dsimp only)); refine bx_ 2 #[.slice A0_0 l0_0.length c0_0, .slice A0_1 l0_1.length c0_1, .slice A0_2 l0_2.length c0_2] 27 ?_; intro gp hg w1 hbox hb; replace P := P.box hg hbox hb; clear hb hbox hg) | ((with_reducible refine gate_dst (N := 4) rfl ?_); (try (refine gate_guard (by rfl) ?_; dsimp only)); refine bx_ 4 #[.slice none 0 0, .slice none 0 0, .slice none 0 0] 27 ?_; intro gr hg w1 hbox hb; replace P := P.box hg hbox hb; clear hb hbox hg; obtain ⟨ce0, ce1, ce2, fe0, fe1, fe2⟩ := P.c3 3 rfl) | ((with_reducible refine gate_callee (f := 19) rfl ?_); refine goesL_ (some 8) rfl rfl Try.func19 s2_ rfl #[.agg #[.slice A0_0 l0_0.length c0_0, .slice A0_1 l0_1.length c0_1, .slice A0_2 l0_2.length c0_2]] rfl s3_ ?_; refine (validW k true P hr0_0 hc0_0 hr0_1 hc0_1 hr0_2 hc0_2 hv).mono ?_; clear P; rintro e w1 ⟨rfl, P⟩; refine ⟨_, rfl, ?_⟩; obtain ⟨ce0, ce1, ce2, fe0, fe1, fe2⟩ := P.c3 3 rfl) | ((with_reducible refine gate_callee (f := 90) rfl ?_); refine goesL_ (some 12) rfl rfl Try.func90 s2_ rfl #[.agg #[.slice A0_0 l0_0.length c0_0, .slice A0_1 l0_1.length c0_1, .slice A0_2 l0_2.length c0_2]] rfl s3_ ?_; refine (cloneW l0_0 l0_1 l0_2 P hr0_0 hc0_0 hr0_1 hc0_1 hr0_2 hc0_2 hc).mono ?_; clear P; rintro e w1 ⟨D0, d0, D1, d1, D2, d2, rfl, P⟩; refine ⟨_, rfl, ?_⟩) | ((with_reducible refine gate_dst (N := 6) rfl ?_); (try (refine gate_guard (by rfl) ?_; dsimp only)); refine bx_ 6 #[.slice none 0 0, .slice none 0 0, .slice none 0 0] 27 ?_; intro gq hg w1 hbox hb; replace P := P.box hg hbox hb; clear hb hbox hg; obtain ⟨ce0, ce1, ce2, fe0, fe1, fe2⟩ := P.c3 8 rfl) | ((with_reducible refine gate_store (p := 6) rfl ?_); refine st3 P 8 rfl rfl rfl rfl (by go_simp; rfl) ?_; clear P; intro w1 P))
 go_at_call 51
 go_in
 try go_wp2_with (fail)
 replace P := P.drew
 refine start_ (n := 12) (S := fun w' => C3 w' gq (.slice D0 l0_0.length d0) (.slice D1 l0_1.length d1) (.slice D2 l0_2.length d2) ∧ w'.cell? ⟨g3, 0, none⟩ = some (.int .i64 mem)) (ds := []) #[false,false,false,false,false,false,false,false,false,false,false,false] s2_ rfl rfl ⟨P.held3 8 rfl, (P.c1 1 rfl).1⟩ (fun hHeld => ?_)
 generalize World.drew _ = w1 at P hHeld ⊢
 refine pure_ (i := 0) (N := some 6) (v := ?_) (a' := ?_) #[true,false,false,false,false,false,false,false,false,false,false,false] rfl rfl s2_ (fun _ _ _ h => h) (Or.inl ⟨by rfl, ?_⟩) ?_ ?_
 rotate_left
 { intro w'; go_simp; with_reducible rfl }
 rotate_left
 · exact p1_
 refine pure_ (i := 1) (N := some 7) (v := ?_) (a' := ?_) #[true,true,false,false,false,false,false,false,false,false,false,false] rfl rfl s2_ (fun _ _ _ h => h) (Or.inl ⟨by rfl, ?_⟩) ?_ ?_
 rotate_left
 { intro w'; go_simp; with_reducible rfl }
 rotate_left
 · exact p1_
 refine pure_ (i := 2) (N := some 8) (v := ?_) (a' := ?_) #[true,true,true,false,false,false,false,false,false,false,false,false] rfl rfl s2_ (fun _ _ _ h => h) (Or.inl ⟨by rfl, ?_⟩) ?_ ?_
 rotate_left
 { intro w'; go_simp; with_reducible rfl }
 rotate_left
 · exact p1_
 refine pure_ (i := 5) (N := some 11) (v := ?_) (a' := ?_) #[true,true,true,false,false,true,false,false,false,false,false,false] rfl rfl s2_ (fun _ _ _ h => h) (Or.inl ⟨by rfl, ?_⟩) ?_ ?_
 rotate_left
 { intro w'; go_simp; with_reducible rfl }
 rotate_left
 · exact p1_
 refine pure_ (i := 6) (N := some 12) (v := ?_) (a' := ?_) #[true,true,true,false,false,true,true,false,false,false,false,false] rfl rfl s2_ (fun _ _ _ h => h) (Or.inl ⟨by rfl, ?_⟩) ?_ ?_
 rotate_left
 { intro w'; go_simp; with_reducible rfl }
 rotate_left
 · exact p1_
 refine pure_ (i := 7) (N := some 13) (v := ?_) (a' := ?_) #[true,true,true,false,false,true,true,true,false,false,false,false] rfl rfl s2_ (fun _ _ _ h => h) (Or.inl ⟨by rfl, ?_⟩) ?_ ?_
 rotate_left
 { intro w'; go_simp; with_reducible rfl }
 rotate_left
 · exact p1_
 refine take_ (i := 3) (N := some 9) (v := ?_) (a' := ?_) #[true,true,true,true,false,true,true,true,false,false,false,false] rfl rfl s2_ (fun _ _ _ h => h) (Or.inl ⟨by rfl, ?_⟩) hHeld ?_ ?_
 rotate_left
 { rintro w' ⟨⟨s0, s1, s2⟩, s3⟩; go_simp; with_reducible rfl }
 rotate_left
 · exact p1_
 refine pure_ (i := 4) (N := some 10) (v := ?_) (a' := ?_) #[true,true,true,true,true,true,true,true,false,false,false,false] rfl rfl s2_ (fun _ _ _ h => h) (Or.inl ⟨by rfl, ?_⟩) ?_ ?_
 rotate_left
 { intro w'; go_simp; with_reducible rfl }
 rotate_left
 · exact p1_
 refine take_ (i := 8) (N := some 14) (v := ?_) (a' := ?_) #[true,true,true,true,true,true,true,true,true,false,false,false] rfl rfl s2_ (fun _ _ _ h => h) (Or.inl ⟨by rfl, ?_⟩) hHeld ?_ ?_
 rotate_left
 { rintro w' ⟨⟨s0, s1, s2⟩, s3⟩; go_simp; with_reducible rfl }
 rotate_left
 · exact p1_
 refine pure_ (i := 9) (N := some 15) (v := ?_) (a' := ?_) #[true,true,true,true,true,true,true,true,true,true,false,false] rfl rfl s2_ (fun _ _ _ h => h) (Or.inl ⟨by rfl, ?_⟩) ?_ ?_
 rotate_left
 { intro w'; go_simp; with_reducible rfl }
 rotate_left
 · exact p1_
 refine pure_ (i := 10) (N := some 16) (v := ?_) (a' := ?_) #[true,true,true,true,true,true,true,true,true,true,true,false] rfl rfl s2_ (fun _ _ _ h => h) (Or.inl ⟨by rfl, ?_⟩) ?_ ?_
 rotate_left
 { intro w'; go_simp; with_reducible rfl }
 rotate_left
 · exact p1_
 refine pure_ (i := 11) (N := some 4) (v := ?_) (a' := ?_) #[true,true,true,true,true,true,true,true,true,true,true,true] rfl rfl s2_ (fun _ _ _ h => h) (Or.inl ⟨by rfl, ?_⟩) ?_ ?_
 rotate_left
 { intro w'; go_simp; with_reducible rfl }
 rotate_left
 · exact p1_
 refine done_ s2_ ?_
 try go_wp2_with (fail)
 replace P := P.drew
 refine start_ (n := 20) (S := fun w' => C3 w' gq (.slice D0 l0_0.length d0) (.slice D1 l0_1.length d1) (.slice D2 l0_2.length d2) ∧ w'.cell? ⟨g3, 0, none⟩ = some (.int .i64 mem)) (ds := [16, 19]) #[false,false,false,false,false,false,false,false,false,false,false,false,false,false,false,false,false,false,false,false] s2_ rfl rfl ⟨P.held3 8 rfl, (P.c1 1 rfl).1⟩ (fun hHeld => ?_)
 generalize World.drew _ = w1 at P hHeld ⊢
 refine pure_ (i := 0) (N := some 18) (v := ?_) (a' := ?_) #[true,false,false,false,false,false,false,false,false,false,false,false,false,false,false,false,false,false,false,false] rfl rfl s2_ (fun _ _ _ h => h) (Or.inl ⟨by rfl, ?_⟩) ?_ ?_
 rotate_left
 { intro w'; go_simp; with_reducible rfl }
 rotate_left
 · exact p1_
 refine pure_ (i := 1) (N := some 19) (v := ?_) (a' := ?_) #[true,true,false,false,false,false,false,false,false,false,false,false,false,false,false,false,false,false,false,false] rfl rfl s2_ (fun _ _ _ h => h) (Or.inl ⟨by rfl, ?_⟩) ?_ ?_
 rotate_left
 { intro w'; go_simp; with_reducible rfl }
 rotate_left
 · exact p1_
 refine pure_ (i := 2) (N := some 20) (v := ?_) (a' := ?_) #[true,true,true,false,false,false,false,false,false,false,false,false,false,false,false,false,false,false,false,false] rfl rfl s2_ (fun _ _ _ h => h) (Or.inl ⟨by rfl, ?_⟩) ?_ ?_
 rotate_left
 { intro w'; go_simp; with_reducible rfl }
 rotate_left
 · exact p1_
 refine pure_ (i := 3) (N := some 21) (v := ?_) (a' := ?_) #[true,true,true,true,false,false,false,false,false,false,false,false,false,false,false,false,false,false,false,false] rfl rfl s2_ (fun _ _ _ h => h) (Or.inl ⟨by rfl, ?_⟩) ?_ ?_
 rotate_left
 { intro w'; go_simp; with_reducible rfl }
 rotate_left
 · exact p1_
 refine pure_ (i := 4) (N := some 22) (v := ?_) (a' := ?_) #[true,true,true,true,true,false,false,false,false,false,false,false,false,false,false,false,false,false,false,false] rfl rfl s2_ (fun _ _ _ h => h) (Or.inl ⟨by rfl, ?_⟩) ?_ ?_
 rotate_left
 { intro w'; go_simp; with_reducible rfl }
 rotate_left
 · exact p1_
 refine pure_ (i := 6) (N := some 24) (v := ?_) (a' := ?_) #[true,true,true,true,true,false,true,false,false,false,false,false,false,false,false,false,false,false,false,false] rfl rfl s2_ (fun _ _ _ h => h) (Or.inl ⟨by rfl, ?_⟩) ?_ ?_
 rotate_left
 { intro w'; go_simp; with_reducible rfl }
 rotate_left
 · exact p1_
 refine pure_ (i := 8) (N := some 26) (v := ?_) (a' := ?_) #[true,true,true,true,true,false,true,false,true,false,false,false,false,false,false,false,false,false,false,false] rfl rfl s2_ (fun _ _ _ h => h) (Or.inl ⟨by rfl, ?_⟩) ?_ ?_
 rotate_left
 { intro w'; go_simp; with_reducible rfl }
 rotate_left
 · exact p1_
 refine pure_ (i := 9) (N := some 27) (v := ?_) (a' := ?_) #[true,true,true,true,true,false,true,false,true,true,false,false,false,false,false,false,false,false,false,false] rfl rfl s2_ (fun _ _ _ h => h) (Or.inl ⟨by rfl, ?_⟩) ?_ ?_
 rotate_left
 { intro w'; go_simp; with_reducible rfl }
 rotate_left
 · exact p1_
 refine pure_ (i := 10) (N := some 28) (v := ?_) (a' := ?_) #[true,true,true,true,true,false,true,false,true,true,true,false,false,false,false,false,false,false,false,false] rfl rfl s2_ (fun _ _ _ h => h) (Or.inl ⟨by rfl, ?_⟩) ?_ ?_
 rotate_left
 { intro w'; go_simp; with_reducible rfl }
 rotate_left
 · exact p1_
 refine pure_ (i := 12) (N := some 30) (v := ?_) (a' := ?_) #[true,true,true,true,true,false,true,false,true,true,true,false,true,false,false,false,false,false,false,false] rfl rfl s2_ (fun _ _ _ h => h) (Or.inl ⟨by rfl, ?_⟩) ?_ ?_
 rotate_left
 { intro w'; go_simp; with_reducible rfl }
 rotate_left
 · exact p1_
 refine take_ (i := 5) (N := some 23) (v := ?_) (a' := ?_) #[true,true,true,true,true,true,true,false,true,true,true,false,true,false,false,false,false,false,false,false] rfl rfl s2_ (fun _ _ _ h => h) (Or.inl ⟨by rfl, ?_⟩) hHeld ?_ ?_
 rotate_left
 { rintro w' ⟨⟨s0, s1, s2⟩, s3⟩; go_simp; with_reducible rfl }
 rotate_left
 · exact p1_
 refine take_ (i := 11) (N := some 29) (v := ?_) (a' := ?_) #[true,true,true,true,true,true,true,false,true,true,true,true,true,false,false,false,false,false,false,false] rfl rfl s2_ (fun _ _ _ h => h) (Or.inl ⟨by rfl, ?_⟩) hHeld ?_ ?_
 rotate_left
 { rintro w' ⟨⟨s0, s1, s2⟩, s3⟩; go_simp; with_reducible rfl }
 rotate_left
 · exact p1_
 refine one_ (i := 7) (N := some 25) #[true,true,true,true,true,true,true,true,true,true,true,true,true,false,false,false,false,false,false,false] rfl rfl s2_ (by decide) (fun K hK => ?_)
 refine goes_ Try.func53 s2_ rfl #[.slice D0 l0_0.length d0, .func (.func 52) #[] #[.pointer (some ⟨g3, 0, none⟩)]] (by rfl) rfl rfl s3_ ?_
 refine (dropW k h mem P 5 1 rfl rfl hd).mono ?_
 clear P
 rintro e_ w1 ⟨E0, e0, rfl, P⟩
 refine ⟨_, rfl, ?_⟩
 refine hK.out _ _ ⟨P.held3 8 rfl, (P.c1 1 rfl).1⟩ (fun hHeld => ?_)
 clear hK K
 refine norm_ (a' := ?_) ?_ ?_; rotate_left; { show Act.put _ (some 25) _ = _; simp only [Act.put, List.setIfInBounds_toArray, List.set_cons_zero, List.set_cons_succ, i64_w, i32_w]; rfl }
 refine one_ (i := 13) (N := some 31) #[true,true,true,true,true,true,true,true,true,true,true,true,true,true,false,false,false,false,false,false] rfl rfl s2_ (by decide) (fun K hK => ?_)
 refine goes_ Try.func53 s2_ rfl #[.slice D1 l0_1.length d1, .func (.func 52) #[] #[.pointer (some ⟨g3, 0, none⟩)]] (by rfl) rfl rfl s3_ ?_
 refine (dropW k t mem P 6 1 rfl rfl hd2).mono ?_
 clear P
 rintro e_ w1 ⟨E1, e1, rfl, P⟩
 refine ⟨_, rfl, ?_⟩
 refine hK.out _ _ ⟨P.held3 8 rfl, (P.c1 1 rfl).1⟩ (fun hHeld => ?_)
 clear hK K
 refine norm_ (a' := ?_) ?_ ?_; rotate_left; { show Act.put _ (some 31) _ = _; simp only [Act.put, List.setIfInBounds_toArray, List.set_cons_zero, List.set_cons_succ, i64_w, i32_w]; rfl }
 refine pure_ (i := 14) (N := some 32) (v := ?_) (a' := ?_) #[true,true,true,true,true,true,true,true,true,true,true,true,true,true,true,false,false,false,false,false] rfl rfl s2_ (fun _ _ _ h => h) (Or.inl ⟨by rfl, ?_⟩) ?_ ?_
 rotate_left
 { intro w'; go_simp; with_reducible rfl }
 rotate_left
 · exact p1_
 refine pure_ (i := 15) (N := some 33) (v := ?_) (a' := ?_) #[true,true,true,true,true,true,true,true,true,true,true,true,true,true,true,true,false,false,false,false] rfl rfl s2_ (fun _ _ _ h => h) (Or.inl ⟨by rfl, ?_⟩) ?_ ?_
 rotate_left
 { intro w'; go_simp; with_reducible rfl }
 rotate_left
 · exact p1_
 refine last_ (i := 16) (N := none) #[true,true,true,true,true,true,true,true,true,true,true,true,true,true,true,true,true,false,false,false] rfl rfl s2_ (by decide) (fun K hK => ?_)
 obtain ⟨ce0, ce1, ce2, fe0, fe1, fe2⟩ := P.c3 8 rfl
 have P2 := P.set1 (x := .slice E0 h.length e0) (cs' := #[.slice E0 h.length e0, .slice D1 l0_1.length d1, .slice D2 l0_2.length d2]) 8 0 rfl rfl
 refine skip_ (w1 := ?_) (by rfl) rfl ?_ ?_; rotate_left; { go_simp; rfl }
 refine hK.out _ _ ?_
 clear hK K P ce0 ce1 ce2 fe0 fe1 fe2
 revert P2; generalize World.setCell _ _ _ = w1; intro P
 refine pure_ (i := 17) (N := some 34) (v := ?_) (a' := ?_) #[true,true,true,true,true,true,true,true,true,true,true,true,true,true,true,true,true,true,false,false] rfl rfl s2_ (fun _ _ _ h => h) (Or.inl ⟨by rfl, ?_⟩) ?_ ?_
 rotate_left
 { intro w'; go_simp; with_reducible rfl }
 rotate_left
 · exact p1_
 refine pure_ (i := 18) (N := some 35) (v := ?_) (a' := ?_) #[true,true,true,true,true,true,true,true,true,true,true,true,true,true,true,true,true,true,true,false] rfl rfl s2_ (fun _ _ _ h => h) (Or.inl ⟨by rfl, ?_⟩) ?_ ?_
 rotate_left
 { intro w'; go_simp; with_reducible rfl }
 rotate_left
 · exact p1_
 refine last_ (i := 19) (N := none) #[true,true,true,true,true,true,true,true,true,true,true,true,true,true,true,true,true,true,true,true] rfl rfl s2_ (by decide) (fun K hK => ?_)
 obtain ⟨ce0, ce1, ce2, fe0, fe1, fe2⟩ := P.c3 8 rfl
 have P2 := P.set1 (x := .slice E1 t.length e1) (cs' := #[.slice E0 h.length e0, .slice E1 t.length e1, .slice D2 l0_2.length d2]) 8 1 rfl rfl
 refine skip_ (w1 := ?_) (by rfl) rfl ?_ ?_; rotate_left; { go_simp; rfl }
 refine hK.out _ _ ?_
 clear hK K P ce0 ce1 ce2 fe0 fe1 fe2
 revert P2; generalize World.setCell _ _ _ = w1; intro P
 refine done_ s2_ ?_
 try go_wp2_with (fail)
 replace P := P.drew
 refine start_ (n := 14) (S := fun w' => C3 w' gq (.slice E0 h.length e0) (.slice E1 t.length e1) (.slice D2 l0_2.length d2) ∧ w'.cell? ⟨g3, 0, none⟩ = some (.int .i64 mem)) (ds := []) #[false,false,false,false,false,false,false,false,false,false,false,false,false,false] s2_ rfl rfl ⟨P.held3 8 rfl, (P.c1 1 rfl).1⟩ (fun hHeld => ?_)
 generalize World.drew _ = w1 at P hHeld ⊢
 refine pure_ (i := 0) (N := some 36) (v := ?_) (a' := ?_) #[true,false,false,false,false,false,false,false,false,false,false,false,false,false] rfl rfl s2_ (fun _ _ _ h => h) (Or.inl ⟨by rfl, ?_⟩) ?_ ?_
 rotate_left
 { intro w'; go_simp; with_reducible rfl }
 rotate_left
 · exact p1_
 refine pure_ (i := 1) (N := some 37) (v := ?_) (a' := ?_) #[true,true,false,false,false,false,false,false,false,false,false,false,false,false] rfl rfl s2_ (fun _ _ _ h => h) (Or.inl ⟨by rfl, ?_⟩) ?_ ?_
 rotate_left
 { intro w'; go_simp; with_reducible rfl }
 rotate_left
 · exact p1_
 refine pure_ (i := 2) (N := some 38) (v := ?_) (a' := ?_) #[true,true,true,false,false,false,false,false,false,false,false,false,false,false] rfl rfl s2_ (fun _ _ _ h => h) (Or.inl ⟨by rfl, ?_⟩) ?_ ?_
 rotate_left
 { intro w'; go_simp; with_reducible rfl }
 rotate_left
 · exact p1_
 refine pure_ (i := 5) (N := some 41) (v := ?_) (a' := ?_) #[true,true,true,false,false,true,false,false,false,false,false,false,false,false] rfl rfl s2_ (fun _ _ _ h => h) (Or.inl ⟨by rfl, ?_⟩) ?_ ?_
 rotate_left
 { intro w'; go_simp; with_reducible rfl }
 rotate_left
 · exact p1_
 refine pure_ (i := 6) (N := some 42) (v := ?_) (a' := ?_) #[true,true,true,false,false,true,true,false,false,false,false,false,false,false] rfl rfl s2_ (fun _ _ _ h => h) (Or.inl ⟨by rfl, ?_⟩) ?_ ?_
 rotate_left
 { intro w'; go_simp; with_reducible rfl }
 rotate_left
 · exact p1_
 refine pure_ (i := 7) (N := some 43) (v := ?_) (a' := ?_) #[true,true,true,false,false,true,true,true,false,false,false,false,false,false] rfl rfl s2_ (fun _ _ _ h => h) (Or.inl ⟨by rfl, ?_⟩) ?_ ?_
 rotate_left
 { intro w'; go_simp; with_reducible rfl }
 rotate_left
 · exact p1_
 refine pure_ (i := 11) (N := some 47) (v := ?_) (a' := ?_) #[true,true,true,false,false,true,true,true,false,false,false,true,false,false] rfl rfl s2_ (fun _ _ _ h => h) (Or.inl ⟨by rfl, ?_⟩) ?_ ?_
 rotate_left
 { intro w'; go_simp; with_reducible rfl }
 rotate_left
 · exact p1_
 refine take_ (i := 3) (N := some 39) (v := ?_) (a' := ?_) #[true,true,true,true,false,true,true,true,false,false,false,true,false,false] rfl rfl s2_ (fun _ _ _ h => h) (Or.inl ⟨by rfl, ?_⟩) hHeld ?_ ?_
 rotate_left
 { rintro w' ⟨⟨s0, s1, s2⟩, s3⟩; go_simp; with_reducible rfl }
 rotate_left
 · exact p1_
 refine pure_ (i := 4) (N := some 40) (v := ?_) (a' := ?_) #[true,true,true,true,true,true,true,true,false,false,false,true,false,false] rfl rfl s2_ (fun _ _ _ h => h) (Or.inl ⟨by rfl, ?_⟩) ?_ ?_
 rotate_left
 { intro w'; go_simp; with_reducible rfl }
 rotate_left
 · exact p1_
 refine take_ (i := 8) (N := some 44) (v := ?_) (a' := ?_) #[true,true,true,true,true,true,true,true,true,false,false,true,false,false] rfl rfl s2_ (fun _ _ _ h => h) (Or.inl ⟨by rfl, ?_⟩) hHeld ?_ ?_
 rotate_left
 { rintro w' ⟨⟨s0, s1, s2⟩, s3⟩; go_simp; with_reducible rfl }
 rotate_left
 · exact p1_
 refine pure_ (i := 9) (N := some 45) (v := ?_) (a' := ?_) #[true,true,true,true,true,true,true,true,true,true,false,true,false,false] rfl rfl s2_ (fun _ _ _ h => h) (Or.inl ⟨by rfl, ?_⟩) ?_ ?_
 rotate_left
 { intro w'; go_simp; with_reducible rfl }
 rotate_left
 · exact p1_
 refine pure_ (i := 10) (N := some 46) (v := ?_) (a' := ?_) #[true,true,true,true,true,true,true,true,true,true,true,true,false,false] rfl rfl s2_ (fun _ _ _ h => h) (Or.inl ⟨by rfl, ?_⟩) ?_ ?_
 rotate_left
 { intro w'; go_simp; with_reducible rfl }
 rotate_left
 · exact p1_
 refine pure_ (i := 12) (N := some 48) (v := ?_) (a' := ?_) #[true,true,true,true,true,true,true,true,true,true,true,true,true,false] rfl rfl s2_ (fun _ _ _ h => h) (Or.inl ⟨by rfl, ?_⟩) ?_ ?_
 rotate_left
 { intro w'; go_simp; with_reducible rfl }
 rotate_left
 · exact p1_
 refine pure_ (i := 13) (N := some 3) (v := ?_) (a' := ?_) #[true,true,true,true,true,true,true,true,true,true,true,true,true,true] rfl rfl s2_ (fun _ _ _ h => h) (Or.inl ⟨by rfl, ?_⟩) ?_ ?_
 rotate_left
 { intro w'; go_simp; with_reducible rfl }
 rotate_left
 · exact p1_
 refine done_ s2_ ?_
 obtain ⟨ce0, ce1, ce2, fe0, fe1, fe2⟩ := P.c3 8 rfl
 try go_wp2_with (first | (go_at_call 19; refine (validR k true P 5 6 7 rfl rfl rfl hg).mono ?_; clear P; rintro e w1 ⟨rfl, P⟩; obtain ⟨ce0, ce1, ce2, fe0, fe1, fe2⟩ := P.c3 8 rfl; obtain ⟨ce0b, ce1b, ce2b, fe0b, fe1b, fe2b⟩ := P.c3 4 rfl) | ((with_reducible refine gate_store (p := 4) rfl ?_); refine st3 P 4 rfl rfl rfl rfl (by go_simp; rfl) ?_; clear P; intro w1 P; obtain ⟨ce0, ce1, ce2, fe0, fe1, fe2⟩ := P.c3 2 rfl))
 (try simp only [Exit.inBlock, Exit.then])
 refine bodyPost_ret (results_ct rfl _ _ gr 27 #[.slice E0 h.length e0, .slice E1 t.length e1, .slice D2 l0_2.length d2] (0, 0) _ rfl (P.cell 4 rfl) Try.underlying27 rfl s2_) rfl ?_
 (try simp only [])
 try go_wp2_with (first | ((with_reducible refine gate_store (p := 4) rfl ?_); refine st3 P 2 rfl rfl rfl rfl (by go_simp; rfl) ?_; clear P; intro w1 P))
 refine bodyPost_ret (results_ct rfl _ _ g4 27 #[.slice E0 h.length e0, .slice E1 t.length e1, .slice D2 l0_2.length d2] (0, 0) _ rfl (P.cell 2 rfl) Try.underlying27 rfl s2_) rfl ?_
 exact ⟨_, _, _, _, _, _, rfl, Pool.tri (P.pick [5, 6, 7] _ (by decide) rfl)⟩

end Go.Proofs.Ytgfilednbllkmaa.QFnJoinedPresence
