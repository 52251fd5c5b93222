-- by hand, over one pool
import Derived.Test.YtdanachjdfiegaaQFnTakenx13
namespace Go.Proofs.Ytdanachjdfiegaa.QFnTaken
open Go.RowKit Go.Proofs.YtdanachjdfiegaaW.PrintWords Go.Proofs.YtdanachjdfiegaaW.PrintLast Go.Proofs.YtdanachjdfiegaaW.PrintMore
attribute [local go_sem] max2_int min2_int max_two min_two max_three min_three max_four min_four   -- for this text's walks alone
set_option linter.unusedVariables false
set_option linter.unusedSimpArgs false
set_option maxHeartbeats 40000000 in
set_option maxRecDepth 100000 in
theorem impl_ReturnTo.calls (k : Nat) (lim : Int) (A0 : Option Addr) (c0 : Nat) (xs : List S58) (tok : ByteArray) (A1 : Option Addr) (c1 : Nat) (tk : List S97) (i : Nat) (x : S58) (zs : List S97) (hz : zs = tk ++ x.f3) (w : World) (hr : Kd.C k58 w A0 xs.length xs) (hc : xs.length ≤ c0) (hr1 : Kd.C k97 w A1 tk.length tk) (hc1 : tk.length ≤ c1) (hv : impl_ValidPost.f k lim xs = some true) (hcl : impl_clonePost.f k lim xs = some (lim, xs)) (hat : impl_Post_at_n64.f k lim xs tok = some ((i : Int), true)) (hpk : impl_parcelsOk.f k tk = some true) (hx : xs[i]? = some x) (la : tk.length ≤ 100) (lb : x.f3.length ≤ 100) (hl : (zs.length : Int) ≤ lim) (hl2 : lim ≤ 1000) (ys : List S58) (hys : ys = (xs.set i ⟨x.f0, x.f1, x.f2, zs⟩)) (hg : impl_ValidPost.f k lim ys = some true) :
    Calls Try.prog 26 #[.agg #[.int .i64 lim, .slice A0 xs.length c0], .string tok, .slice A1 tk.length c1] w fun e w' => ∃ D d, e = .returned (.tuple #[.agg #[.int .i64 lim, .slice D ys.length d], .bool true]) ∧ Pool w w' [rS w.heap.size D ys.length d ys] := by
 have hu52 := Try.underlying52
 have hu54 := Try.underlying54
 have hu56 := Try.underlying56
 have hu58 := Try.underlying58
 have hu97 := Try.underlying97
 have hu140 := Try.underlying140
 have hi : i < xs.length := (List.getElem?_eq_some_iff.1 hx).1
 have HZ := Aside0.mk hz
 clear hz
 have HL := Aside0.mk (And.intro hl (And.intro hl2 (And.intro la lb)))
 clear hl hl2 la lb
 have HY := Aside0.mk (And.intro hys (And.intro (show ys[i]? = some ⟨x.f0, x.f1, x.f2, zs⟩ by rw [hys, List.getElem?_set_self hi]) (show ys.length = xs.length by rw [hys, List.length_set])))
 clear hys
 have P := Pool.nil w
 go_enter Try.func26, Try.ntmps26
 try go_wp2_with (first | ((with_reducible refine gate_dst (N := 3) rfl ?_); (try (refine gate_guard (by rfl) ?_; dsimp only)); refine bx_ 3 #[.int .i64 lim, .slice A0 xs.length c0] 54 ?_; intro g3 hg w1 hbox hb; replace P := P.box hg hbox hb; clear hb hbox hg; (try simp only [List.nil_append, List.cons_append, List.set_cons_zero, List.set_cons_succ] at P)) | ((with_reducible refine gate_dst (N := 4) rfl ?_); (try (refine gate_guard (by rfl) ?_; dsimp only)); refine bx_ 4 #[.string tok] 9 ?_; intro g4 hg w1 hbox hb; replace P := P.box hg hbox hb; clear hb hbox hg; (try simp only [List.nil_append, List.cons_append, List.set_cons_zero, List.set_cons_succ] at P)) | ((with_reducible refine gate_dst (N := 5) rfl ?_); (try (refine gate_guard (by rfl) ?_; dsimp only)); refine bx_ 5 #[.slice A1 tk.length c1] 56 ?_; intro g5 hg w1 hbox hb; replace P := P.box hg hbox hb; clear hb hbox hg; (try simp only [List.nil_append, List.cons_append, List.set_cons_zero, List.set_cons_succ] at P)) | ((with_reducible refine gate_dst (N := 6) rfl ?_); (try (refine gate_guard (by rfl) ?_; dsimp only)); refine bx_ 6 #[.int .i64 0, .slice none 0 0] 54 ?_; intro g6 hg w1 hbox hb; replace P := P.box hg hbox hb; clear hb hbox hg; (try simp only [List.nil_append, List.cons_append, List.set_cons_zero, List.set_cons_succ] at P); obtain ⟨ce0, ce1, fe0, fe1⟩ := P.c2 0 rfl))
 go_at_call 62
 go_in
 try go_wp2_with (first | ((with_reducible refine gate_dst (N := 2) rfl ?_); (try (refine gate_guard (by rfl) ?_; dsimp only)); refine bx_ 2 #[.int .i64 lim, .slice A0 xs.length c0] 54 ?_; intro gp hg w1 hbox hb; replace P := P.box hg hbox hb; clear hb hbox hg; (try simp only [List.nil_append, List.cons_append, List.set_cons_zero, List.set_cons_succ] at P)) | ((with_reducible refine gate_dst (N := 4) rfl ?_); (try (refine gate_guard (by rfl) ?_; dsimp only)); refine bx_ 4 #[.int .i64 0, .slice none 0 0] 54 ?_; intro gr hg w1 hbox hb; replace P := P.box hg hbox hb; clear hb hbox hg; (try simp only [List.nil_append, List.cons_append, List.set_cons_zero, List.set_cons_succ] at P); obtain ⟨ce0, ce1, fe0, fe1⟩ := P.c2 4 rfl) | ((with_reducible refine gate_dst (N := 8) rfl ?_); (with_reducible refine gate_callee (f := 28) rfl ?_); refine goesL_ (some 8) rfl rfl Try.func28 s2_ rfl #[.agg #[.int .i64 lim, .slice A0 xs.length c0]] rfl s3_ ?_; refine (validW k lim true P hr hc hv).mono ?_; clear P; rintro e w1 ⟨rfl, P⟩; refine ⟨_, rfl, ?_⟩; (try simp only [List.nil_append, List.cons_append, List.set_cons_zero, List.set_cons_succ] at P); obtain ⟨ce0, ce1, fe0, fe1⟩ := P.c2 4 rfl) | ((with_reducible refine gate_dst (N := 12) rfl ?_); (with_reducible refine gate_callee (f := 91) rfl ?_); refine goesL_ (some 12) rfl rfl Try.func91 s2_ rfl #[.agg #[.int .i64 lim, .slice A0 xs.length c0]] rfl s3_ ?_; refine (cloneW k lim P hr hc hcl).mono ?_; clear P; rintro e w1 ⟨D0, d, rfl, P⟩; refine ⟨_, rfl, ?_⟩; (try simp only [List.nil_append, List.cons_append, List.set_cons_zero, List.set_cons_succ] at P); obtain ⟨g, rfl⟩ := rS_some P 6 rfl (by omega)) | ((with_reducible refine gate_dst (N := 6) rfl ?_); (try (refine gate_guard (by rfl) ?_; dsimp only)); refine bx_ 6 #[.int .i64 0, .slice none 0 0] 54 ?_; intro gq hg w1 hbox hb; replace P := P.box hg hbox hb; clear hb hbox hg; (try simp only [List.nil_append, List.cons_append, List.set_cons_zero, List.set_cons_succ] at P); obtain ⟨ce0, ce1, fe0, fe1⟩ := P.c2 7 rfl) | ((with_reducible refine gate_store (p := 6) rfl ?_); refine st2 P 7 rfl rfl rfl rfl (by go_simp; rfl) ?_; clear P; intro w1 P; (try simp only [List.nil_append, List.cons_append, List.set_cons_zero, List.set_cons_succ] at P); obtain ⟨ce0, ce1, fe0, fe1⟩ := P.c2 7 rfl; obtain ⟨cv, fv⟩ := P.c1 1 rfl))
 go_at_call 66
 go_in
 try go_wp2_with (first | ((with_reducible refine gate_dst (N := 10) rfl ?_); (with_reducible refine gate_callee (f := 64) rfl ?_); refine goesL_ (some 10) rfl rfl Try.func64 s2_ rfl #[.pointer (some ⟨gq, 0, none⟩), .string tok] rfl s3_ ?_; refine (atR k lim tok (i : Int) true P 6 7 rfl rfl hat).mono ?_; clear P; rintro e w1 ⟨rfl, P⟩; refine ⟨_, rfl, ?_⟩; (try simp only [List.nil_append, List.cons_append, List.set_cons_zero, List.set_cons_succ] at P); obtain ⟨cv, fv⟩ := P.c1 2 rfl))
 try go_wp2_with (fail)
 refine (parcelsW k P hr1 hc1 hpk).mono ?_
 clear P
 rintro e w1 ⟨rfl, P⟩
 try go_wp2_with (fail)
 replace P := P.drew
 obtain ⟨A, c3, -, h3, -, f3, hc3, hC3⟩ := boxCells P 6 rfl hx
 refine start_ (n := 19) (S := fun w' => C2 w' gq (.int .i64 lim) (.slice (some ⟨g, 0, none⟩) xs.length d) ∧ w'.cell? ⟨g5, 0, none⟩ = some (.slice A1 tk.length c1) ∧ w'.cell? ⟨g, i * 4 + 3, none⟩ = some (.slice A x.f3.length c3)) (ds := [18]) #[false,false,false,false,false,false,false,false,false,false,false,false,false,false,false,false,false,false,false] s2_ rfl rfl ⟨P.held2 7 rfl, (P.c1 2 rfl).1, h3⟩ (fun hHeld => ?_)
 generalize World.drew _ = w1 at P hHeld h3 f3 hC3 ⊢
 have HC3 := Aside0.mk hC3
 clear hC3
 refine pure_ (i := 0) (N := some 20) (v := ?_) (a' := ?_) #[true,false,false,false,false,false,false,false,false,false,false,false,false,false,false,false,false,false,false] rfl rfl s2_ (fun _ _ _ h => h) (Or.inl ⟨by rfl, ?_⟩) ?_ ?_
 rotate_left
 { intro w'; go_simp; with_reducible rfl }
 rotate_left
 · exact p1_
 refine pure_ (i := 1) (N := some 21) (v := ?_) (a' := ?_) #[true,true,false,false,false,false,false,false,false,false,false,false,false,false,false,false,false,false,false] rfl rfl s2_ (fun _ _ _ h => h) (Or.inl ⟨by rfl, ?_⟩) ?_ ?_
 rotate_left
 { intro w'; go_simp; with_reducible rfl }
 rotate_left
 · exact p1_
 refine pure_ (i := 2) (N := some 22) (v := ?_) (a' := ?_) #[true,true,true,false,false,false,false,false,false,false,false,false,false,false,false,false,false,false,false] rfl rfl s2_ (fun _ _ _ h => h) (Or.inl ⟨by rfl, ?_⟩) ?_ ?_
 rotate_left
 { intro w'; go_simp; with_reducible rfl }
 rotate_left
 · exact p1_
 refine take_ (i := 3) (N := some 23) (v := ?_) (a' := ?_) #[true,true,true,true,false,false,false,false,false,false,false,false,false,false,false,false,false,false,false] rfl rfl s2_ (fun _ _ _ h => h) (Or.inl ⟨by rfl, ?_⟩) hHeld ?_ ?_
 rotate_left
 { rintro w' ⟨⟨s0, s1⟩, s2, s3⟩; go_simp; with_reducible rfl }
 rotate_left
 · exact p1_
 refine pure_ (i := 4) (N := some 24) (v := ?_) (a' := ?_) #[true,true,true,true,true,false,false,false,false,false,false,false,false,false,false,false,false,false,false] rfl rfl s2_ (fun _ _ _ h => h) (Or.inl ⟨by rfl, ?_⟩) ?_ ?_
 rotate_left
 { intro w'; go_simp; with_reducible rfl }
 rotate_left
 · exact p1_
 refine take_ (i := 5) (N := some 25) (v := ?_) (a' := ?_) #[true,true,true,true,true,true,false,false,false,false,false,false,false,false,false,false,false,false,false] rfl rfl s2_ (fun _ _ _ h => h) (Or.inl ⟨by rfl, ?_⟩) hHeld ?_ ?_
 rotate_left
 { rintro w' ⟨⟨s0, s1⟩, s2, s3⟩; go_simp; with_reducible rfl }
 rotate_left
 · exact p1_
 refine pure_ (i := 6) (N := some 26) (v := ?_) (a' := ?_) #[true,true,true,true,true,true,true,false,false,false,false,false,false,false,false,false,false,false,false] rfl rfl s2_ (fun _ _ _ h => h) (Or.inl ⟨by rfl, ?_⟩) ?_ ?_
 rotate_left
 { intro w'; go_simp; with_reducible rfl }
 rotate_left
 · exact p1_
 refine pure_ (i := 7) (N := some 27) (v := ?_) (a' := ?_) #[true,true,true,true,true,true,true,true,false,false,false,false,false,false,false,false,false,false,false] rfl rfl s2_ (fun _ _ _ h => h) (Or.inl ⟨by rfl, ?_⟩) ?_ ?_
 rotate_left
 { intro w'; go_simp; with_reducible rfl }
 rotate_left
 · exact p1_
 refine pure_ (i := 8) (N := some 28) (v := ?_) (a' := ?_) #[true,true,true,true,true,true,true,true,true,false,false,false,false,false,false,false,false,false,false] rfl rfl s2_ (fun _ _ _ h => h) (Or.inl ⟨by rfl, ?_⟩) ?_ ?_
 rotate_left
 { intro w'; go_simp; with_reducible rfl }
 rotate_left
 · exact p1_
 refine take_ (i := 9) (N := some 29) (v := ?_) (a' := ?_) #[true,true,true,true,true,true,true,true,true,true,false,false,false,false,false,false,false,false,false] rfl rfl s2_ (fun _ _ _ h => h) (Or.inl ⟨by rfl, ?_⟩) hHeld ?_ ?_
 rotate_left
 { rintro w' ⟨⟨s0, s1⟩, s2, s3⟩; go_simp; with_reducible rfl }
 rotate_left
 · exact p1_
 refine pure_ (i := 10) (N := some 30) (v := ?_) (a' := ?_) #[true,true,true,true,true,true,true,true,true,true,true,false,false,false,false,false,false,false,false] rfl rfl s2_ (fun _ _ _ h => h) (Or.inl ⟨by rfl, ?_⟩) ?_ ?_
 rotate_left
 { intro w'; go_simp; with_reducible rfl }
 rotate_left
 · exact p1_
 refine pure_ (i := 11) (N := some 31) (v := ?_) (a' := ?_) #[true,true,true,true,true,true,true,true,true,true,true,true,false,false,false,false,false,false,false] rfl rfl s2_ (fun _ _ _ h => h) (Or.inl ⟨by rfl, ?_⟩) ?_ ?_
 rotate_left
 { intro w'; go_simp; with_reducible rfl }
 rotate_left
 · exact p1_
 refine pure_ (i := 12) (N := some 32) (v := ?_) (a' := ?_) #[true,true,true,true,true,true,true,true,true,true,true,true,true,false,false,false,false,false,false] rfl rfl s2_ (fun _ _ _ h => h) (Or.inl ⟨by rfl, ?_⟩) ?_ ?_
 rotate_left
 { intro w'; go_simp; with_reducible rfl }
 rotate_left
 · exact p1_
 refine take_ (i := 13) (N := some 33) (v := ?_) (a' := ?_) #[true,true,true,true,true,true,true,true,true,true,true,true,true,true,false,false,false,false,false] rfl rfl s2_ (fun _ _ _ h => h) (Or.inl ⟨by rfl, ?_⟩) hHeld ?_ ?_
 rotate_left
 { rintro w' ⟨⟨s0, s1⟩, s2, s3⟩; go_simp; with_reducible rfl }
 rotate_left
 · exact p1_
 refine one_ (i := 14) (N := some 34) #[true,true,true,true,true,true,true,true,true,true,true,true,true,true,true,false,false,false,false] rfl rfl s2_ (by decide) (fun K hK => ?_)
 refine value_ (v := .slice (some ⟨w1.heap.size, 0, none⟩) 2 2) (w1 := w1.alloc (.cells #[.slice A1 tk.length c1, .slice A x.f3.length c3] 56)) s2_ rfl (by first | (go_simp; done) | (go_simp; rfl)) ?_
 have hb := below_alloc (Below.refl w1.heap.size w1) (.cells #[.slice A1 tk.length c1, .slice A x.f3.length c3] 56)
 have P2 := P.box (g := w1.heap.size) (cs := #[.slice A1 tk.length c1, .slice A x.f3.length c3]) (t := 56) rfl (heap_alloc_new w1 _) hb
 have h3b := (hb.cell (World.block_lt_of_cell? _ _ h3)).trans h3
 have hC3b := Kd.C_below HC3.out hb
 clear P hb; have P := P2; clear P2; (try simp only [List.nil_append, List.cons_append, List.set_cons_zero, List.set_cons_succ] at P)
 generalize w1.heap.size = gb at P ⊢; generalize World.alloc _ _ = w2 at P h3b hC3b ⊢
 clear h3 f3 HC3
 refine hK.out _ _ ⟨P.held2 7 rfl, (P.c1 2 rfl).1, h3b⟩ (fun hHeld => ?_)
 clear hK K
 refine norm_ (a' := ?_) ?_ ?_; rotate_left; { show Act.put _ (some 34) _ = _; simp only [Act.put, List.setIfInBounds_toArray, List.set_cons_zero, List.set_cons_succ, i64_w, i32_w]; rfl }
 refine one_ (i := 15) (N := some 35) #[true,true,true,true,true,true,true,true,true,true,true,true,true,true,true,true,false,false,false] rfl rfl s2_ (by decide) (fun K hK => ?_)
 refine goes_ Try.func68 s2_ rfl #[.slice (some ⟨gb, 0, none⟩) 2 2] (by rfl) rfl rfl s3_ ?_
 refine (concatW P HZ.out 8 rfl (Kd.C_below (Kd.C_below hr1 P.1) (Below.refl _ _)) hc1 hC3b hc3 HL.out.2.2.1 HL.out.2.2.2).mono ?_
 clear P
 rintro e_ w1 ⟨E, f, rfl, P, hb⟩
 (try simp only [List.nil_append, List.cons_append, List.set_cons_zero, List.set_cons_succ] at P)
 refine ⟨_, rfl, ?_⟩
 have h3c := (hb.cell (World.block_lt_of_cell? _ _ h3b)).trans h3b
 clear hb h3b hC3b
 refine hK.out _ _ ⟨P.held2 7 rfl, (P.c1 2 rfl).1, h3c⟩ (fun hHeld => ?_)
 clear hK K
 refine norm_ (a' := ?_) ?_ ?_; rotate_left; { show Act.put _ (some 35) _ = _; simp only [Act.put, List.setIfInBounds_toArray, List.set_cons_zero, List.set_cons_succ, i64_w, i32_w]; rfl }
 refine pure_ (i := 16) (N := some 36) (v := ?_) (a' := ?_) #[true,true,true,true,true,true,true,true,true,true,true,true,true,true,true,true,true,false,false] rfl rfl s2_ (fun _ _ _ h => h) (Or.inl ⟨by rfl, ?_⟩) ?_ ?_
 rotate_left
 { intro w'; go_simp; with_reducible rfl }
 rotate_left
 · exact p1_
 refine pure_ (i := 17) (N := some 37) (v := ?_) (a' := ?_) #[true,true,true,true,true,true,true,true,true,true,true,true,true,true,true,true,true,true,false] rfl rfl s2_ (fun _ _ _ h => h) (Or.inl ⟨by rfl, ?_⟩) ?_ ?_
 rotate_left
 { intro w'; go_simp; with_reducible rfl }
 rotate_left
 · exact p1_
 refine last_ (i := 18) (N := none) #[true,true,true,true,true,true,true,true,true,true,true,true,true,true,true,true,true,true,true] rfl rfl s2_ (by decide) (fun K hK => ?_)
 obtain ⟨A_, c3_, -, -, -, f3, -, -⟩ := boxCells P 6 rfl hx
 have P2 := Pool.putHeld P 6 9 rfl rfl (by decide) hx
 refine skip_ (w1 := ?_) (by rfl) rfl ?_ ?_; rotate_left; { go_simp; rfl }
 refine hK.out _ _ ?_
 clear hK K P
 revert P2; generalize World.setCell _ _ _ = w1; intro P
 (try simp only [List.nil_append, List.cons_append, List.set_cons_zero, List.set_cons_succ] at P)
 refine done_ s2_ ?_
 clear hHeld h3c hc3
 rw [← HY.out.1] at P
 have hx2 := HY.out.2.1
 try go_wp2_with (fail)
 replace P := P.drew
 refine start_ (n := 11) (S := fun w' => C2 w' gq (.int .i64 lim) (.slice (some ⟨g, 0, none⟩) xs.length d)) (ds := []) #[false,false,false,false,false,false,false,false,false,false,false] s2_ rfl rfl (P.held2 7 rfl) (fun hHeld => ?_)
 generalize World.drew _ = w1 at P hHeld ⊢
 refine pure_ (i := 0) (N := some 38) (v := ?_) (a' := ?_) #[true,false,false,false,false,false,false,false,false,false,false] rfl rfl s2_ (fun _ _ _ h => h) (Or.inl ⟨by rfl, ?_⟩) ?_ ?_
 rotate_left
 { intro w'; go_simp; with_reducible rfl }
 rotate_left
 · exact p1_
 refine pure_ (i := 1) (N := some 39) (v := ?_) (a' := ?_) #[true,true,false,false,false,false,false,false,false,false,false] rfl rfl s2_ (fun _ _ _ h => h) (Or.inl ⟨by rfl, ?_⟩) ?_ ?_
 rotate_left
 { intro w'; go_simp; with_reducible rfl }
 rotate_left
 · exact p1_
 refine pure_ (i := 2) (N := some 40) (v := ?_) (a' := ?_) #[true,true,true,false,false,false,false,false,false,false,false] rfl rfl s2_ (fun _ _ _ h => h) (Or.inl ⟨by rfl, ?_⟩) ?_ ?_
 rotate_left
 { intro w'; go_simp; with_reducible rfl }
 rotate_left
 · exact p1_
 refine take_ (i := 3) (N := some 41) (v := ?_) (a' := ?_) #[true,true,true,true,false,false,false,false,false,false,false] rfl rfl s2_ (fun _ _ _ h => h) (Or.inl ⟨by rfl, ?_⟩) hHeld ?_ ?_
 rotate_left
 { rintro w' ⟨s0, s1⟩; go_simp; with_reducible rfl }
 rotate_left
 · exact p1_
 refine pure_ (i := 4) (N := some 42) (v := ?_) (a' := ?_) #[true,true,true,true,true,false,false,false,false,false,false] rfl rfl s2_ (fun _ _ _ h => h) (Or.inl ⟨by rfl, ?_⟩) ?_ ?_
 rotate_left
 { intro w'; go_simp; with_reducible rfl }
 rotate_left
 · exact p1_
 refine pure_ (i := 5) (N := some 43) (v := ?_) (a' := ?_) #[true,true,true,true,true,true,false,false,false,false,false] rfl rfl s2_ (fun _ _ _ h => h) (Or.inl ⟨by rfl, ?_⟩) ?_ ?_
 rotate_left
 { intro w'; go_simp; with_reducible rfl }
 rotate_left
 · exact p1_
 refine pure_ (i := 6) (N := some 44) (v := ?_) (a' := ?_) #[true,true,true,true,true,true,true,false,false,false,false] rfl rfl s2_ (fun _ _ _ h => h) (Or.inl ⟨by rfl, ?_⟩) ?_ ?_
 rotate_left
 { intro w'; go_simp; with_reducible rfl }
 rotate_left
 · exact p1_
 refine pure_ (i := 7) (N := some 45) (v := ?_) (a' := ?_) #[true,true,true,true,true,true,true,true,false,false,false] rfl rfl s2_ (fun _ _ _ h => h) (Or.inl ⟨by rfl, ?_⟩) ?_ ?_
 rotate_left
 { intro w'; go_simp; with_reducible rfl }
 rotate_left
 · exact p1_
 refine pure_ (i := 8) (N := some 46) (v := ?_) (a' := ?_) #[true,true,true,true,true,true,true,true,true,false,false] rfl rfl s2_ (fun _ _ _ h => h) (Or.inl ⟨by rfl, ?_⟩) ?_ ?_
 rotate_left
 { intro w'; go_simp; with_reducible rfl }
 rotate_left
 · exact p1_
 refine take_ (i := 9) (N := some 47) (v := ?_) (a' := ?_) #[true,true,true,true,true,true,true,true,true,true,false] rfl rfl s2_ (fun _ _ _ h => h) (Or.inl ⟨by rfl, ?_⟩) hHeld ?_ ?_
 rotate_left
 { rintro w' ⟨s0, s1⟩; go_simp; with_reducible rfl }
 rotate_left
 · exact p1_
 refine one_ (i := 10) (N := some 48) #[true,true,true,true,true,true,true,true,true,true,true] rfl rfl s2_ (by decide) (fun K hK => ?_)
 refine goes_ Try.func69 s2_ rfl #[.pointer (some ⟨g, i * 4, none⟩), .int .i64 lim] (by rfl) rfl rfl s3_ ?_
 refine (trimP P lim 6 rfl hx2 HL.out.1 HL.out.2.1).mono ?_
 clear P
 rintro e_ w1 ⟨rfl, P⟩
 (try simp only [List.nil_append, List.cons_append, List.set_cons_zero, List.set_cons_succ] at P)
 refine ⟨_, rfl, ?_⟩
 refine hK.out _ _ (P.held2 7 rfl) (fun hHeld => ?_)
 clear hK K
 refine norm_ (a' := ?_) ?_ ?_; rotate_left; { show Act.put _ (some 48) _ = _; simp only [Act.put, List.setIfInBounds_toArray, List.set_cons_zero, List.set_cons_succ, i64_w, i32_w]; rfl }
 refine done_ s2_ ?_
 obtain ⟨ce0, ce1, fe0, fe1⟩ := P.c2 7 rfl
 try go_wp2_with (first | (go_at_call 28; refine (validR k lim true P 6 rfl hg).mono ?_; clear P; rintro e w1 ⟨rfl, P⟩; obtain ⟨ce0, ce1, fe0, fe1⟩ := P.c2 7 rfl; obtain ⟨ce0b, ce1b, fe0b, fe1b⟩ := P.c2 5 rfl) | ((with_reducible refine gate_store (p := 4) rfl ?_); refine st2 P 5 rfl rfl rfl rfl (by go_simp; rfl) ?_; clear P; intro w1 P; (try simp only [List.nil_append, List.cons_append, List.set_cons_zero, List.set_cons_succ] at P)))
 (try simp only [Exit.inBlock, Exit.then])
 refine bodyPost_ret (results_ct rfl _ _ gr 54 #[.int .i64 lim, .slice (some ⟨g, 0, none⟩) xs.length d] (0, 0) _ rfl (P.cell 5 rfl) Try.underlying54 rfl s2_) rfl ?_
 (try simp only [])
 obtain ⟨ce0, ce1, fe0, fe1⟩ := P.c2 3 rfl
 try go_wp2_with (first | ((with_reducible refine gate_store (p := 6) rfl ?_); refine st2 P 3 rfl rfl rfl rfl (by go_simp; rfl) ?_; clear P; intro w1 P; (try simp only [List.nil_append, List.cons_append, List.set_cons_zero, List.set_cons_succ] at P)))
 refine bodyPost_ret (results_list (rs := [.cell 6 54, .tmp 7]) rfl (by simp) (.cell g6 54 #[.int .i64 lim, .slice (some ⟨g, 0, none⟩) xs.length d] (0, 0) _ rfl (P.cell 3 rfl) Try.underlying54 rfl s2_ (.tmp .nil))) rfl ?_
 obtain ⟨hn9, hd9, hC9⟩ := rS_at P 6 rfl
 have P2 := P.pick [6] [rS w.heap.size (some ⟨g, 0, none⟩) xs.length d ys] (by decide) rfl
 rw [hn9] at P2 ⊢
 exact ⟨_, _, rfl, P2⟩

end Go.Proofs.Ytdanachjdfiegaa.QFnTaken
