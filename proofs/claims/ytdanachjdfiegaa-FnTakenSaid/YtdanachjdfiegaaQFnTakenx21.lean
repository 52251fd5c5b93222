-- by hand, over one pool
import Derived.Test.YtdanachjdfiegaaQFnTakenx20
namespace Go.Proofs.Ytdanachjdfiegaa.QFnTaken
open Go.RowKit Go.Proofs.YtdanachjdfiegaaW.PrintWords Go.Proofs.YtdanachjdfiegaaW.PrintLast Go.Proofs.YtdanachjdfiegaaW.PrintMore
attribute [local go_sem] max2_int min2_int max_two min_two max_three min_three max_four min_four   -- for this text's walks alone
set_option linter.unusedVariables false
set_option linter.unusedSimpArgs false
theorem heldC {w : World} {A : Option Addr} {c : Nat} {l : List S97} (h : l.length ≤ c ∧ Kd.C k97 w A l.length l) : l.length = l.length ∧ l.length ≤ c ∧ Kd.C k97 w A l.length l := ⟨rfl, h⟩
/-- What all that the law calls answers. -/
def laws_FnTaken.Ans (k : Nat) (l0 l1 : List Int) : Prop := laws_r8Long.f l0 l1 = some true ∨ (laws_r8Long.f l0 l1 = some false ∧ ∃ (lim : Int) (xs : List S58) (i : Nat) (cnt : Int) (x : S58) (ys : List S58) (tk : List S97) (bs ys2 : List S58) (rest : List S97) (y : S58),
  R8Is k l0 lim xs ∧ laws_r8At.f l1 0 (xs.length : Int) = some (i : Int) ∧ xs[i]? = some x ∧ laws_r8At.f l1 1 6 = some cnt ∧ TakeOk k lim xs x.f0 cnt ys tk x.f2 ∧ RetOk k lim ys x.f0 tk bs ∧ TakeOk k lim ys x.f0 64 ys2 rest 0 ∧ laws_r8Parcels.f k (tk ++ rest) x.f3 = some true ∧
  (if (x.f3.length : Int) < cnt then (x.f3.length : Int) else cnt) = (tk.length : Int) ∧ bs[i]? = some y ∧ laws_r8Parcels.f k y.f3 x.f3 = some true ∧ y.f2 = 0 ∧ impl_ValidPost.f k lim bs = some true ∧ tk.length + rest.length ≤ 900)
set_option maxHeartbeats 40000000 in
set_option maxRecDepth 100000 in
theorem laws_FnTaken.calls (k : Nat) (U0 : Option Addr) (u0 : Nat) (l0 : List Int) (U1 : Option Addr) (u1 : Nat) (l1 : List Int) (w : World) (hr0 : Kd.C (Kd.int .u8) w U0 l0.length l0) (hc0 : l0.length ≤ u0) (hr1 : Kd.C (Kd.int .u8) w U1 l1.length l1) (hc1 : l1.length ≤ u1) (H : laws_FnTaken.Ans k l0 l1) :
    Calls Try.prog 7 #[.slice U0 l0.length u0, .slice U1 l1.length u1] w fun e w' => e = .returned (.bool true) ∧ Below w.heap.size w w' := by
 have hu9 := Try.underlying9
 have hu22 := Try.underlying22
 have hu52 := Try.underlying52
 have hu54 := Try.underlying54
 have hu56 := Try.underlying56
 have hu58 := Try.underlying58
 have hu97 := Try.underlying97
 have P := Pool.nil w
 rcases H with hL | ⟨hL, H⟩
 {
 go_enter Try.func7, Try.ntmps7
 go_wp2_with (first | ((with_reducible refine gate_dst (N := 21) rfl ?_); (with_reducible refine gate_callee (f := 8) rfl ?_); refine goesL_ (some 21) rfl rfl Try.func8 s2_ rfl #[.slice U0 l0.length u0, .slice U1 l1.length u1] rfl s3_ ?_; refine (longW l0 l1 true P hr0 hc0 hr1 hc1 hL).mono ?_; clear P; rintro e w1 ⟨rfl, P⟩; refine ⟨_, rfl, ?_⟩; (try simp only [List.nil_append, List.cons_append, List.set_cons_zero, List.set_cons_succ] at P)))
 go_ret
 exact ⟨rfl, P.1⟩
 }
 obtain ⟨lim, xs, i, cnt, x, ys, tk, bs, ys2, rest, y, hR8, hA0, hx, hA1, hT1, hRt, hT2, hP1, hmin, hy, hP2, hm0, hV, hlt⟩ := H
 have hi : i < xs.length := (List.getElem?_eq_some_iff.1 hx).1
 have hib : i < bs.length := (List.getElem?_eq_some_iff.1 hy).1
 have HM := Aside0.mk hmin; have HL := Aside0.mk hlt; have HM0 := Aside0.mk hm0; clear hmin hlt hm0
 go_enter Try.func7, Try.ntmps7
 go_upto_region 10 with (first | ((with_reducible refine gate_dst (N := 21) rfl ?_); (with_reducible refine gate_callee (f := 8) rfl ?_); refine goesL_ (some 21) rfl rfl Try.func8 s2_ rfl #[.slice U0 l0.length u0, .slice U1 l1.length u1] rfl s3_ ?_; refine (longW l0 l1 false P hr0 hc0 hr1 hc1 hL).mono ?_; clear P; rintro e w1 ⟨rfl, P⟩; refine ⟨_, rfl, ?_⟩; (try simp only [List.nil_append, List.cons_append, List.set_cons_zero, List.set_cons_succ] at P)) | ((with_reducible refine gate_dst (N := 23) rfl ?_); (with_reducible refine gate_callee (f := 24) rfl ?_); refine goesL_ (some 23) rfl rfl Try.func24 s2_ rfl #[.slice U0 l0.length u0] rfl s3_ ?_; refine (r8R k l0 lim P hr0 hc0 hR8).mono ?_; clear P; rintro e w1 ⟨D, d, rfl, P⟩; refine ⟨_, rfl, ?_⟩; (try simp only [List.nil_append, List.cons_append, List.set_cons_zero, List.set_cons_succ] at P); obtain ⟨g, rfl⟩ := rS_some P 0 rfl (by omega); obtain ⟨A, c3, P2⟩ := seeHeld P 0 rfl hx; clear P; have P := P2; clear P2; (try simp only [List.nil_append, List.cons_append, List.set_cons_zero, List.set_cons_succ] at P)) | ((with_reducible refine gate_dst (N := 5) rfl ?_); (try (refine gate_guard (by rfl) ?_; dsimp only)); refine bx_ 5 #[.int .i64 0, .slice none 0 0] 54 ?_; intro g5 hg w1 hbox hb; replace P := P.box hg hbox hb; clear hb hbox hg; (try simp only [List.nil_append, List.cons_append, List.set_cons_zero, List.set_cons_succ] at P); obtain ⟨ce0, ce1, fe0, fe1⟩ := P.c2 1 rfl) | ((with_reducible refine gate_store (p := 5) rfl ?_); refine st2 P 1 rfl rfl rfl rfl (by go_simp; rfl) ?_; clear P; intro w1 P; (try simp only [List.nil_append, List.cons_append, List.set_cons_zero, List.set_cons_succ] at P); obtain ⟨ce0, ce1, fe0, fe1⟩ := P.c2 1 rfl) | ((with_reducible refine gate_dst (N := 28) rfl ?_); (with_reducible refine gate_callee (f := 10) rfl ?_); refine goesL_ (some 28) rfl rfl Try.func10 s2_ rfl #[.slice U1 l1.length u1, .int .i64 0, .int .i64 xs.length] rfl s3_ ?_; refine (atW l1 0 xs.length (i : Int) P hr1 hc1 hA0).mono ?_; clear P; rintro e w1 ⟨rfl, P⟩; refine ⟨_, rfl, ?_⟩; (try simp only [List.nil_append, List.cons_append, List.set_cons_zero, List.set_cons_succ] at P); obtain ⟨ce0, ce1, fe0, fe1⟩ := P.c2 1 rfl; obtain ⟨xe0, xe1, xe2, xe3⟩ := rP_cells P 0 rfl hx) | ((with_reducible refine gate_dst (N := 7) rfl ?_); (try (refine gate_guard (by rfl) ?_; dsimp only)); refine bx_ 7 #[.string ⟨#[]⟩, .int .i64 0, .int .i64 0, .slice none 0 0] 58 ?_; intro g7 hg w1 hbox hb; replace P := P.box hg hbox hb; clear hb hbox hg; (try simp only [List.nil_append, List.cons_append, List.set_cons_zero, List.set_cons_succ] at P); obtain ⟨⟨de0, de1, de2, de3⟩, df0, df1, df2, df3⟩ := Pool.c4 P 2 rfl) | ((with_reducible refine gate_store (p := 7) rfl ?_); refine st4 P 2 rfl rfl rfl rfl (by first | (go_simp; done) | (go_simp; rfl)) ?_; clear P; intro w1 P; (try simp only [List.nil_append, List.cons_append, List.set_cons_zero, List.set_cons_succ] at P)) | ((with_reducible refine gate_dst (N := 35) rfl ?_); (with_reducible refine gate_callee (f := 10) rfl ?_); refine goesL_ (some 35) rfl rfl Try.func10 s2_ rfl #[.slice U1 l1.length u1, .int .i64 1, .int .i64 6] rfl s3_ ?_; refine (atW l1 1 6 cnt P hr1 hc1 hA1).mono ?_; clear P; rintro e w1 ⟨rfl, P⟩; refine ⟨_, rfl, ?_⟩; (try simp only [List.nil_append, List.cons_append, List.set_cons_zero, List.set_cons_succ] at P); obtain ⟨ce0, ce1, fe0, fe1⟩ := P.c2 1 rfl; obtain ⟨⟨de0, de1, de2, de3⟩, df0, df1, df2, df3⟩ := Pool.c4 P 2 rfl) | ((with_reducible refine gate_dst (N := 41) rfl ?_); (with_reducible refine gate_callee (f := 25) rfl ?_); refine goesL_ (some 41) rfl rfl Try.func25 s2_ rfl #[.agg #[.int .i64 lim, .slice (some ⟨g, 0, none⟩) xs.length d], .string x.f0, .int .i64 cnt] rfl s3_ ?_; refine (takeR k lim x.f0 cnt x.f2 tk P (rP_reads P 0 rfl) hT1).mono ?_; clear P; rintro e w1 ⟨D1, d1, E1, f1, rfl, P⟩; refine ⟨_, rfl, ?_⟩; (try simp only [List.nil_append, List.cons_append, List.set_cons_zero, List.set_cons_succ] at P)) | ((with_reducible refine gate_dst (N := 9) rfl ?_); (try (refine gate_guard (by rfl) ?_; dsimp only)); refine bx_ 9 #[.int .i64 0, .slice none 0 0] 54 ?_; intro g9 hg w1 hbox hb; replace P := P.box hg hbox hb; clear hb hbox hg; (try simp only [List.nil_append, List.cons_append, List.set_cons_zero, List.set_cons_succ] at P); obtain ⟨ce0, ce1, fe0, fe1⟩ := P.c2 5 rfl) | ((with_reducible refine gate_store (p := 9) rfl ?_); refine st2 P 5 rfl rfl rfl rfl (by go_simp; rfl) ?_; clear P; intro w1 P; (try simp only [List.nil_append, List.cons_append, List.set_cons_zero, List.set_cons_succ] at P); obtain ⟨ce0, ce1, fe0, fe1⟩ := P.c2 5 rfl; obtain ⟨⟨de0, de1, de2, de3⟩, df0, df1, df2, df3⟩ := Pool.c4 P 2 rfl) | ((with_reducible refine gate_dst (N := 51) rfl ?_); (with_reducible refine gate_callee (f := 26) rfl ?_); refine goesL_ (some 51) rfl rfl Try.func26 s2_ rfl #[.agg #[.int .i64 lim, .slice D1 ys.length d1], .string x.f0, .slice E1 tk.length f1] rfl s3_ ?_; refine (retR k lim x.f0 tk P (rS_at P 3 rfl) 4 rfl hRt).mono ?_; clear P; rintro e w1 ⟨D2, d2, rfl, P⟩; refine ⟨_, rfl, ?_⟩; (try simp only [List.nil_append, List.cons_append, List.set_cons_zero, List.set_cons_succ] at P)) | ((with_reducible refine gate_dst (N := 13) rfl ?_); (try (refine gate_guard (by rfl) ?_; dsimp only)); refine bx_ 13 #[.int .i64 0, .slice none 0 0] 54 ?_; intro g13 hg w1 hbox hb; replace P := P.box hg hbox hb; clear hb hbox hg; (try simp only [List.nil_append, List.cons_append, List.set_cons_zero, List.set_cons_succ] at P); obtain ⟨ce0, ce1, fe0, fe1⟩ := P.c2 7 rfl) | ((with_reducible refine gate_store (p := 13) rfl ?_); refine st2 P 7 rfl rfl rfl rfl (by go_simp; rfl) ?_; clear P; intro w1 P; (try simp only [List.nil_append, List.cons_append, List.set_cons_zero, List.set_cons_succ] at P); obtain ⟨ce0, ce1, fe0, fe1⟩ := P.c2 5 rfl; obtain ⟨⟨de0, de1, de2, de3⟩, df0, df1, df2, df3⟩ := Pool.c4 P 2 rfl) | ((with_reducible refine gate_dst (N := 58) rfl ?_); (with_reducible refine gate_callee (f := 25) rfl ?_); refine goesL_ (some 58) rfl rfl Try.func25 s2_ rfl #[.agg #[.int .i64 lim, .slice D1 ys.length d1], .string x.f0, .int .i64 64] rfl s3_ ?_; refine (takeR k lim x.f0 64 0 rest P (rS_at P 3 rfl) hT2).mono ?_; clear P; rintro e w1 ⟨D3, d3, E3, f3, rfl, P⟩; refine ⟨_, rfl, ?_⟩; (try simp only [List.nil_append, List.cons_append, List.set_cons_zero, List.set_cons_succ] at P)) | ((with_reducible refine gate_dst (N := 15) rfl ?_); (try (refine gate_guard (by rfl) ?_; dsimp only)); refine bx_ 15 #[.int .i64 0, .slice none 0 0] 54 ?_; intro g15 hg w1 hbox hb; replace P := P.box hg hbox hb; clear hb hbox hg; (try simp only [List.nil_append, List.cons_append, List.set_cons_zero, List.set_cons_succ] at P); obtain ⟨ce0, ce1, fe0, fe1⟩ := P.c2 10 rfl) | ((with_reducible refine gate_store (p := 15) rfl ?_); refine st2 P 10 rfl rfl rfl rfl (by go_simp; rfl) ?_; clear P; intro w1 P; (try simp only [List.nil_append, List.cons_append, List.set_cons_zero, List.set_cons_succ] at P)))
 replace P : Pool w _ [rP w.heap.size g xs.length d xs i A x.f3.length c3, rbox g7 #[.string x.f0, .int .i64 x.f1, .int .i64 x.f2, .slice A x.f3.length c3] 58, rrow k97 97 w.heap.size (.slice E1 tk.length f1) tk, rrow k97 97 w.heap.size (.slice E3 rest.length f3) rest, rS w.heap.size D2 bs.length d2 bs, rbox g13 #[.int .i64 lim, .slice D2 bs.length d2] 54] := P.pick [0, 2, 4, 9, 6, 7] _ (by decide) rfl
 obtain ⟨gb, rfl⟩ := rS_some P 4 rfl (by omega)
 obtain ⟨Ab, cb, P2⟩ := seeHeld P 4 rfl hy
 clear P; have P := P2; clear P2; (try simp only [List.nil_append, List.cons_append, List.set_cons_zero, List.set_cons_succ] at P)
 have hmin := HM.out
 replace P := P.drew
 refine start_ (n := 41) (S := fun w' => C4 w' g7 (.string x.f0) (.int .i64 x.f1) (.int .i64 x.f2) (.slice A x.f3.length c3)) (ds := []) #[false,false,false,false,false,false,false,false,false,false,false,false,false,false,false,false,false,false,false,false,false,false,false,false,false,false,false,false,false,false,false,false,false,false,false,false,false,false,false,false,false] s2_ rfl rfl ((Pool.c4 P 1 rfl).1) (fun hHeld => ?_)
 generalize World.drew _ = w1 at P hHeld ⊢
 refine pure_ (i := 0) (N := some 63) (v := ?_) (a' := ?_) #[true,false,false,false,false,false,false,false,false,false,false,false,false,false,false,false,false,false,false,false,false,false,false,false,false,false,false,false,false,false,false,false,false,false,false,false,false,false,false,false,false] rfl rfl s2_ (fun _ _ _ h => h) (Or.inl ⟨by rfl, ?_⟩) ?_ ?_
 rotate_left
 { intro w'; go_simp; with_reducible rfl }
 rotate_left
 · exact p1_
 refine pure_ (i := 1) (N := some 64) (v := ?_) (a' := ?_) #[true,true,false,false,false,false,false,false,false,false,false,false,false,false,false,false,false,false,false,false,false,false,false,false,false,false,false,false,false,false,false,false,false,false,false,false,false,false,false,false,false] rfl rfl s2_ (fun _ _ _ h => h) (Or.inl ⟨by rfl, ?_⟩) ?_ ?_
 rotate_left
 { intro w'; go_simp; with_reducible rfl }
 rotate_left
 · exact p1_
 refine pure_ (i := 2) (N := some 65) (v := ?_) (a' := ?_) #[true,true,true,false,false,false,false,false,false,false,false,false,false,false,false,false,false,false,false,false,false,false,false,false,false,false,false,false,false,false,false,false,false,false,false,false,false,false,false,false,false] rfl rfl s2_ (fun _ _ _ h => h) (Or.inl ⟨by rfl, ?_⟩) ?_ ?_
 rotate_left
 { intro w'; go_simp; with_reducible rfl }
 rotate_left
 · exact p1_
 refine pure_ (i := 3) (N := some 66) (v := ?_) (a' := ?_) #[true,true,true,true,false,false,false,false,false,false,false,false,false,false,false,false,false,false,false,false,false,false,false,false,false,false,false,false,false,false,false,false,false,false,false,false,false,false,false,false,false] rfl rfl s2_ (fun _ _ _ h => h) (Or.inl ⟨by rfl, ?_⟩) ?_ ?_
 rotate_left
 { intro w'; go_simp; with_reducible rfl }
 rotate_left
 · exact p1_
 refine pure_ (i := 4) (N := some 67) (v := ?_) (a' := ?_) #[true,true,true,true,true,false,false,false,false,false,false,false,false,false,false,false,false,false,false,false,false,false,false,false,false,false,false,false,false,false,false,false,false,false,false,false,false,false,false,false,false] rfl rfl s2_ (fun _ _ _ h => h) (Or.inl ⟨by rfl, ?_⟩) ?_ ?_
 rotate_left
 { intro w'; go_simp; with_reducible rfl }
 rotate_left
 · exact p1_
 refine pure_ (i := 5) (N := some 68) (v := ?_) (a' := ?_) #[true,true,true,true,true,true,false,false,false,false,false,false,false,false,false,false,false,false,false,false,false,false,false,false,false,false,false,false,false,false,false,false,false,false,false,false,false,false,false,false,false] rfl rfl s2_ (fun _ _ _ h => h) (Or.inl ⟨by rfl, ?_⟩) ?_ ?_
 rotate_left
 { intro w'; go_simp; with_reducible rfl }
 rotate_left
 · exact p1_
 refine pure_ (i := 6) (N := some 69) (v := ?_) (a' := ?_) #[true,true,true,true,true,true,true,false,false,false,false,false,false,false,false,false,false,false,false,false,false,false,false,false,false,false,false,false,false,false,false,false,false,false,false,false,false,false,false,false,false] rfl rfl s2_ (fun _ _ _ h => h) (Or.inl ⟨by rfl, ?_⟩) ?_ ?_
 rotate_left
 { intro w'; go_simp; with_reducible rfl }
 rotate_left
 · exact p1_
 refine pure_ (i := 7) (N := some 70) (v := ?_) (a' := ?_) #[true,true,true,true,true,true,true,true,false,false,false,false,false,false,false,false,false,false,false,false,false,false,false,false,false,false,false,false,false,false,false,false,false,false,false,false,false,false,false,false,false] rfl rfl s2_ (fun _ _ _ h => h) (Or.inl ⟨by rfl, ?_⟩) ?_ ?_
 rotate_left
 { intro w'; go_simp; with_reducible rfl }
 rotate_left
 · exact p1_
 refine pure_ (i := 8) (N := some 71) (v := ?_) (a' := ?_) #[true,true,true,true,true,true,true,true,true,false,false,false,false,false,false,false,false,false,false,false,false,false,false,false,false,false,false,false,false,false,false,false,false,false,false,false,false,false,false,false,false] rfl rfl s2_ (fun _ _ _ h => h) (Or.inl ⟨by rfl, ?_⟩) ?_ ?_
 rotate_left
 { intro w'; go_simp; with_reducible rfl }
 rotate_left
 · exact p1_
 refine pure_ (i := 9) (N := some 72) (v := ?_) (a' := ?_) #[true,true,true,true,true,true,true,true,true,true,false,false,false,false,false,false,false,false,false,false,false,false,false,false,false,false,false,false,false,false,false,false,false,false,false,false,false,false,false,false,false] rfl rfl s2_ (fun _ _ _ h => h) (Or.inl ⟨by rfl, ?_⟩) ?_ ?_
 rotate_left
 { intro w'; go_simp; with_reducible rfl }
 rotate_left
 · exact p1_
 refine pure_ (i := 10) (N := some 73) (v := ?_) (a' := ?_) #[true,true,true,true,true,true,true,true,true,true,true,false,false,false,false,false,false,false,false,false,false,false,false,false,false,false,false,false,false,false,false,false,false,false,false,false,false,false,false,false,false] rfl rfl s2_ (fun _ _ _ h => h) (Or.inl ⟨by rfl, ?_⟩) ?_ ?_
 rotate_left
 { intro w'; go_simp; with_reducible rfl }
 rotate_left
 · exact p1_
 refine pure_ (i := 11) (N := some 74) (v := ?_) (a' := ?_) #[true,true,true,true,true,true,true,true,true,true,true,true,false,false,false,false,false,false,false,false,false,false,false,false,false,false,false,false,false,false,false,false,false,false,false,false,false,false,false,false,false] rfl rfl s2_ (fun _ _ _ h => h) (Or.inl ⟨by rfl, ?_⟩) ?_ ?_
 rotate_left
 { intro w'; go_simp; with_reducible rfl }
 rotate_left
 · exact p1_
 refine pure_ (i := 12) (N := some 75) (v := ?_) (a' := ?_) #[true,true,true,true,true,true,true,true,true,true,true,true,true,false,false,false,false,false,false,false,false,false,false,false,false,false,false,false,false,false,false,false,false,false,false,false,false,false,false,false,false] rfl rfl s2_ (fun _ _ _ h => h) (Or.inl ⟨by rfl, ?_⟩) ?_ ?_
 rotate_left
 { intro w'; go_simp; with_reducible rfl }
 rotate_left
 · exact p1_
 refine take_ (i := 13) (N := some 76) (v := ?_) (a' := ?_) #[true,true,true,true,true,true,true,true,true,true,true,true,true,true,false,false,false,false,false,false,false,false,false,false,false,false,false,false,false,false,false,false,false,false,false,false,false,false,false,false,false] rfl rfl s2_ (fun _ _ _ h => h) (Or.inl ⟨by rfl, ?_⟩) hHeld ?_ ?_
 rotate_left
 { rintro w' ⟨s0, s1, s2, s3⟩; go_simp; with_reducible rfl }
 rotate_left
 · exact p1_
 refine pure_ (i := 14) (N := some 77) (v := ?_) (a' := ?_) #[true,true,true,true,true,true,true,true,true,true,true,true,true,true,true,false,false,false,false,false,false,false,false,false,false,false,false,false,false,false,false,false,false,false,false,false,false,false,false,false,false] rfl rfl s2_ (fun _ _ _ h => h) (Or.inl ⟨by rfl, ?_⟩) ?_ ?_
 rotate_left
 { intro w'; go_simp; with_reducible rfl }
 rotate_left
 · exact p1_
 refine pure_ (i := 15) (N := some 78) (v := ?_) (a' := ?_) #[true,true,true,true,true,true,true,true,true,true,true,true,true,true,true,true,false,false,false,false,false,false,false,false,false,false,false,false,false,false,false,false,false,false,false,false,false,false,false,false,false] rfl rfl s2_ (fun _ _ _ h => h) (Or.inl ⟨by rfl, ?_⟩) ?_ ?_
 rotate_left
 { intro w'; go_simp; with_reducible rfl }
 rotate_left
 · exact p1_
 refine pure_ (i := 16) (N := some 79) (v := ?_) (a' := ?_) #[true,true,true,true,true,true,true,true,true,true,true,true,true,true,true,true,true,false,false,false,false,false,false,false,false,false,false,false,false,false,false,false,false,false,false,false,false,false,false,false,false] rfl rfl s2_ (fun _ _ _ h => h) (Or.inl ⟨by rfl, ?_⟩) ?_ ?_
 rotate_left
 { intro w'; go_simp; with_reducible rfl }
 rotate_left
 · exact p1_
 refine pure_ (i := 17) (N := some 80) (v := ?_) (a' := ?_) #[true,true,true,true,true,true,true,true,true,true,true,true,true,true,true,true,true,true,false,false,false,false,false,false,false,false,false,false,false,false,false,false,false,false,false,false,false,false,false,false,false] rfl rfl s2_ (fun _ _ _ h => h) (Or.inl ⟨by rfl, ?_⟩) ?_ ?_
 rotate_left
 { intro w'; go_simp; with_reducible rfl }
 rotate_left
 · exact p1_
 refine pure_ (i := 18) (N := some 81) (v := ?_) (a' := ?_) #[true,true,true,true,true,true,true,true,true,true,true,true,true,true,true,true,true,true,true,false,false,false,false,false,false,false,false,false,false,false,false,false,false,false,false,false,false,false,false,false,false] rfl rfl s2_ (fun _ _ _ h => h) (Or.inl ⟨by rfl, ?_⟩) ?_ ?_
 rotate_left
 { intro w'; go_simp; with_reducible rfl }
 rotate_left
 · exact p1_
 refine pure_ (i := 19) (N := some 82) (v := ?_) (a' := ?_) #[true,true,true,true,true,true,true,true,true,true,true,true,true,true,true,true,true,true,true,true,false,false,false,false,false,false,false,false,false,false,false,false,false,false,false,false,false,false,false,false,false] rfl rfl s2_ (fun _ _ _ h => h) (Or.inl ⟨by rfl, ?_⟩) ?_ ?_
 rotate_left
 { intro w'; go_simp; with_reducible rfl }
 rotate_left
 · exact p1_
 refine pure_ (i := 20) (N := some 83) (v := ?_) (a' := ?_) #[true,true,true,true,true,true,true,true,true,true,true,true,true,true,true,true,true,true,true,true,true,false,false,false,false,false,false,false,false,false,false,false,false,false,false,false,false,false,false,false,false] rfl rfl s2_ (fun _ _ _ h => h) (Or.inl ⟨by rfl, ?_⟩) ?_ ?_
 rotate_left
 { intro w'; go_simp; with_reducible rfl }
 rotate_left
 · exact p1_
 refine pure_ (i := 22) (N := some 85) (v := ?_) (a' := ?_) #[true,true,true,true,true,true,true,true,true,true,true,true,true,true,true,true,true,true,true,true,true,false,true,false,false,false,false,false,false,false,false,false,false,false,false,false,false,false,false,false,false] rfl rfl s2_ (fun _ _ _ h => h) (Or.inl ⟨by rfl, ?_⟩) ?_ ?_
 rotate_left
 { intro w'; go_simp; with_reducible rfl }
 rotate_left
 · exact p1_
 refine pure_ (i := 24) (N := some 87) (v := ?_) (a' := ?_) #[true,true,true,true,true,true,true,true,true,true,true,true,true,true,true,true,true,true,true,true,true,false,true,false,true,false,false,false,false,false,false,false,false,false,false,false,false,false,false,false,false] rfl rfl s2_ (fun _ _ _ h => h) (Or.inl ⟨by rfl, ?_⟩) ?_ ?_
 rotate_left
 { intro w'; go_simp; with_reducible rfl }
 rotate_left
 · exact p1_
 refine pure_ (i := 26) (N := some 89) (v := ?_) (a' := ?_) #[true,true,true,true,true,true,true,true,true,true,true,true,true,true,true,true,true,true,true,true,true,false,true,false,true,false,true,false,false,false,false,false,false,false,false,false,false,false,false,false,false] rfl rfl s2_ (fun _ _ _ h => h) (Or.inl ⟨by rfl, ?_⟩) ?_ ?_
 rotate_left
 { intro w'; go_simp; with_reducible rfl }
 rotate_left
 · exact p1_
 refine take_ (i := 27) (N := some 90) (v := ?_) (a' := ?_) #[true,true,true,true,true,true,true,true,true,true,true,true,true,true,true,true,true,true,true,true,true,false,true,false,true,false,true,true,false,false,false,false,false,false,false,false,false,false,false,false,false] rfl rfl s2_ (fun _ _ _ h => h) (Or.inl ⟨by rfl, ?_⟩) hHeld ?_ ?_
 rotate_left
 { rintro w' ⟨s0, s1, s2, s3⟩; go_simp; with_reducible rfl }
 rotate_left
 · exact p1_
 refine one_ (i := 21) (N := some 84) #[true,true,true,true,true,true,true,true,true,true,true,true,true,true,true,true,true,true,true,true,true,true,true,false,true,false,true,true,false,false,false,false,false,false,false,false,false,false,false,false,false] rfl rfl s2_ (by decide) (fun K hK => ?_)
 refine Kd.R_lit_step k97 _ 97 s2_ (N := 84) rfl (xs := []) (inner := []) (ok := fun _ => True) (okp := fun _ => True) (by first | (go_simp; done) | (go_simp; rfl)) (Reps.none _ _) (fun _ h => h) trivial (Below.refl _ _) (Nat.le_refl _) (by simp) ?_
 intro v_ w2 ho hb hg_ hnew_; obtain ⟨Z0, z0c, rfl, P2⟩ := newN P hb ho; clear P ho hb hg_ hnew_; have P := P2; clear P2; (try simp only [List.nil_append, List.cons_append, List.set_cons_zero, List.set_cons_succ] at P)
 refine hK.out _ _ ((Pool.c4 P 1 rfl).1) (fun hHeld => ?_)
 clear hK K
 refine norm_ (a' := ?_) ?_ ?_; rotate_left; { show Act.put _ (some 84) _ = _; simp only [Act.put, List.setIfInBounds_toArray, List.set_cons_zero, List.set_cons_succ, i64_w, i32_w]; rfl }
 refine one_ (i := 23) (N := some 86) #[true,true,true,true,true,true,true,true,true,true,true,true,true,true,true,true,true,true,true,true,true,true,true,true,true,false,true,true,false,false,false,false,false,false,false,false,false,false,false,false,false] rfl rfl s2_ (by decide) (fun K hK => ?_)
 refine appP_step P 6 rfl (P.reads 2 rfl) (by rfl) (.tmp 84) (.tmp 85) rfl rfl rfl (by have := HL.out; simp; omega) ?_
 clear P hHeld; intro Z1 z1c w2 z1 hz1 P; have HZ1 := Aside0.mk hz1; clear hz1; (try simp only [List.nil_append, List.cons_append, List.set_cons_zero, List.set_cons_succ] at P)
 refine hK.out _ _ ((Pool.c4 P 1 rfl).1) (fun hHeld => ?_)
 clear hK K
 refine norm_ (a' := ?_) ?_ ?_; rotate_left; { show Act.put _ (some 86) _ = _; simp only [Act.put, List.setIfInBounds_toArray, List.set_cons_zero, List.set_cons_succ, i64_w, i32_w]; rfl }
 refine one_ (i := 25) (N := some 88) #[true,true,true,true,true,true,true,true,true,true,true,true,true,true,true,true,true,true,true,true,true,true,true,true,true,true,true,true,false,false,false,false,false,false,false,false,false,false,false,false,false] rfl rfl s2_ (by decide) (fun K hK => ?_)
 refine appP_step P 6 rfl (P.reads 3 rfl) (by rfl) (.tmp 86) (.tmp 87) rfl rfl rfl (by have := HL.out; rw [HZ1.out]; simp; omega) ?_
 clear P hHeld; intro Z2 z2c w2 z2 hz2 P; have HZ2 := Aside0.mk hz2; clear hz2; (try simp only [List.nil_append, List.cons_append, List.set_cons_zero, List.set_cons_succ] at P)
 refine hK.out _ _ ((Pool.c4 P 1 rfl).1) (fun hHeld => ?_)
 clear hK K
 refine norm_ (a' := ?_) ?_ ?_; rotate_left; { show Act.put _ (some 88) _ = _; simp only [Act.put, List.setIfInBounds_toArray, List.set_cons_zero, List.set_cons_succ, i64_w, i32_w]; rfl }
 have hz : z2 = tk ++ rest := by rw [HZ2.out, HZ1.out]; rfl
 rw [← hz] at hP1; clear hz
 refine one_ (i := 28) (N := some 91) #[true,true,true,true,true,true,true,true,true,true,true,true,true,true,true,true,true,true,true,true,true,true,true,true,true,true,true,true,true,false,false,false,false,false,false,false,false,false,false,false,false] rfl rfl s2_ (by decide) (fun K hK => ?_)
 refine goes_ Try.func27 s2_ rfl #[.slice Z2 z2.length z2c, .slice A x.f3.length c3] (by rfl) rfl rfl s3_ ?_
 refine (parcW k true P (P.reads 6 rfl) (rP_held P 0 rfl hx) hP1).mono ?_
 clear P
 rintro e_ w2 ⟨rfl, P⟩
 (try simp only [List.nil_append, List.cons_append, List.set_cons_zero, List.set_cons_succ] at P)
 refine ⟨_, rfl, ?_⟩
 refine hK.out _ _ ((Pool.c4 P 1 rfl).1) (fun hHeld => ?_)
 clear hK K
 refine norm_ (a' := ?_) ?_ ?_; rotate_left; { show Act.put _ (some 91) _ = _; simp only [Act.put, List.setIfInBounds_toArray, List.set_cons_zero, List.set_cons_succ, i64_w, i32_w]; rfl }
 refine pure_ (i := 29) (N := some 92) (v := ?_) (a' := ?_) #[true,true,true,true,true,true,true,true,true,true,true,true,true,true,true,true,true,true,true,true,true,true,true,true,true,true,true,true,true,true,false,false,false,false,false,false,false,false,false,false,false] rfl rfl s2_ (fun _ _ _ h => h) (Or.inl ⟨by rfl, ?_⟩) ?_ ?_
 rotate_left
 { intro w'; go_simp; with_reducible rfl }
 rotate_left
 · exact p1_
 refine pure_ (i := 30) (N := some 93) (v := ?_) (a' := ?_) #[true,true,true,true,true,true,true,true,true,true,true,true,true,true,true,true,true,true,true,true,true,true,true,true,true,true,true,true,true,true,true,false,false,false,false,false,false,false,false,false,false] rfl rfl s2_ (fun _ _ _ h => h) (Or.inl ⟨by rfl, ?_⟩) ?_ ?_
 rotate_left
 { intro w'; go_simp; with_reducible rfl }
 rotate_left
 · exact p1_
 refine pure_ (i := 31) (N := some 94) (v := ?_) (a' := ?_) #[true,true,true,true,true,true,true,true,true,true,true,true,true,true,true,true,true,true,true,true,true,true,true,true,true,true,true,true,true,true,true,true,false,false,false,false,false,false,false,false,false] rfl rfl s2_ (fun _ _ _ h => h) (Or.inl ⟨by rfl, ?_⟩) ?_ ?_
 rotate_left
 { intro w'; go_simp; with_reducible rfl }
 rotate_left
 · exact p1_
 refine pure_ (i := 32) (N := some 95) (v := ?_) (a' := ?_) #[true,true,true,true,true,true,true,true,true,true,true,true,true,true,true,true,true,true,true,true,true,true,true,true,true,true,true,true,true,true,true,true,true,false,false,false,false,false,false,false,false] rfl rfl s2_ (fun _ _ _ h => h) (Or.inl ⟨by rfl, ?_⟩) ?_ ?_
 rotate_left
 { intro w'; go_simp; with_reducible rfl }
 rotate_left
 · exact p1_
 refine pure_ (i := 33) (N := some 96) (v := ?_) (a' := ?_) #[true,true,true,true,true,true,true,true,true,true,true,true,true,true,true,true,true,true,true,true,true,true,true,true,true,true,true,true,true,true,true,true,true,true,false,false,false,false,false,false,false] rfl rfl s2_ (fun _ _ _ h => h) (Or.inl ⟨by rfl, ?_⟩) ?_ ?_
 rotate_left
 { intro w'; go_simp; with_reducible rfl }
 rotate_left
 · exact p1_
 refine pure_ (i := 34) (N := some 97) (v := ?_) (a' := ?_) #[true,true,true,true,true,true,true,true,true,true,true,true,true,true,true,true,true,true,true,true,true,true,true,true,true,true,true,true,true,true,true,true,true,true,true,false,false,false,false,false,false] rfl rfl s2_ (fun _ _ _ h => h) (Or.inl ⟨by rfl, ?_⟩) ?_ ?_
 rotate_left
 { intro w'; go_simp; with_reducible rfl }
 rotate_left
 · exact p1_
 refine pure_ (i := 35) (N := some 98) (v := ?_) (a' := ?_) #[true,true,true,true,true,true,true,true,true,true,true,true,true,true,true,true,true,true,true,true,true,true,true,true,true,true,true,true,true,true,true,true,true,true,true,true,false,false,false,false,false] rfl rfl s2_ (fun _ _ _ h => h) (Or.inl ⟨by rfl, ?_⟩) ?_ ?_
 rotate_left
 { intro w'; go_simp; with_reducible rfl }
 rotate_left
 · exact p1_
 refine take_ (i := 36) (N := some 99) (v := ?_) (a' := ?_) #[true,true,true,true,true,true,true,true,true,true,true,true,true,true,true,true,true,true,true,true,true,true,true,true,true,true,true,true,true,true,true,true,true,true,true,true,true,false,false,false,false] rfl rfl s2_ (fun _ _ _ h => h) (Or.inl ⟨by rfl, ?_⟩) hHeld ?_ ?_
 rotate_left
 { rintro w' ⟨s0, s1, s2, s3⟩; go_simp; with_reducible rfl }
 rotate_left
 · exact p1_
 refine pure_ (i := 37) (N := some 100) (v := ?_) (a' := ?_) #[true,true,true,true,true,true,true,true,true,true,true,true,true,true,true,true,true,true,true,true,true,true,true,true,true,true,true,true,true,true,true,true,true,true,true,true,true,true,false,false,false] rfl rfl s2_ (fun _ _ _ h => h) (Or.inl ⟨by rfl, ?_⟩) ?_ ?_
 rotate_left
 { intro w'; go_simp; with_reducible rfl }
 rotate_left
 · exact p1_
 refine pure_ (i := 38) (N := some 101) (v := ?_) (a' := ?_) #[true,true,true,true,true,true,true,true,true,true,true,true,true,true,true,true,true,true,true,true,true,true,true,true,true,true,true,true,true,true,true,true,true,true,true,true,true,true,true,false,false] rfl rfl s2_ (fun _ _ _ h => h) (Or.inl ⟨by rfl, ?_⟩) ?_ ?_
 rotate_left
 { intro w'; go_simp; with_reducible rfl }
 rotate_left
 · exact p1_
 refine pure_ (i := 39) (N := some 102) (v := ?_) (a' := ?_) #[true,true,true,true,true,true,true,true,true,true,true,true,true,true,true,true,true,true,true,true,true,true,true,true,true,true,true,true,true,true,true,true,true,true,true,true,true,true,true,true,false] rfl rfl s2_ (fun _ _ _ h => h) (Or.inl ⟨by rfl, ?_⟩) ?_ ?_
 rotate_left
 { intro w'; go_simp; with_reducible rfl }
 rotate_left
 · exact p1_
 refine pure_ (i := 40) (N := some 103) (v := ?_) (a' := ?_) #[true,true,true,true,true,true,true,true,true,true,true,true,true,true,true,true,true,true,true,true,true,true,true,true,true,true,true,true,true,true,true,true,true,true,true,true,true,true,true,true,true] rfl rfl s2_ (fun _ _ _ h => h) (Or.inl ⟨by rfl, ?_⟩) ?_ ?_
 rotate_left
 { intro w'; go_simp; with_reducible rfl }
 rotate_left
 · exact p1_
 refine done_ s2_ ?_
 clear hHeld hmin
 replace P : Pool w _ [rP w.heap.size g xs.length d xs i A x.f3.length c3, rbox g7 #[.string x.f0, .int .i64 x.f1, .int .i64 x.f2, .slice A x.f3.length c3] 58, rP w.heap.size gb bs.length d2 bs i Ab y.f3.length cb, rbox g13 #[.int .i64 lim, .slice (some ⟨gb, 0, none⟩) bs.length d2] 54] := P.pick [0, 1, 4, 5] _ (by decide) rfl
 try go_wp2_with (fail)
 replace P := P.drew
 refine start_ (n := 23) (S := fun w' => C4 w' g7 (.string x.f0) (.int .i64 x.f1) (.int .i64 x.f2) (.slice A x.f3.length c3) ∧ C2 w' g13 (.int .i64 lim) (.slice (some ⟨gb, 0, none⟩) bs.length d2) ∧ w'.cell? ⟨gb, i * 4 + 2, none⟩ = some (.int .i64 0) ∧ w'.cell? ⟨gb, i * 4 + 3, none⟩ = some (.slice Ab y.f3.length cb)) (ds := []) #[false,false,false,false,false,false,false,false,false,false,false,false,false,false,false,false,false,false,false,false,false,false,false] s2_ rfl rfl ⟨(Pool.c4 P 1 rfl).1, P.held2 3 rfl, by rw [← HM0.out]; exact (rP_cells P 2 rfl hy).2.2.1, (rP_cells P 2 rfl hy).2.2.2⟩ (fun hHeld => ?_)
 generalize World.drew _ = w1 at P hHeld ⊢
 refine pure_ (i := 0) (N := some 104) (v := ?_) (a' := ?_) #[true,false,false,false,false,false,false,false,false,false,false,false,false,false,false,false,false,false,false,false,false,false,false] rfl rfl s2_ (fun _ _ _ h => h) (Or.inl ⟨by rfl, ?_⟩) ?_ ?_
 rotate_left
 { intro w'; go_simp; with_reducible rfl }
 rotate_left
 · exact p1_
 refine take_ (i := 1) (N := some 105) (v := ?_) (a' := ?_) #[true,true,false,false,false,false,false,false,false,false,false,false,false,false,false,false,false,false,false,false,false,false,false] rfl rfl s2_ (fun _ _ _ h => h) (Or.inl ⟨by rfl, ?_⟩) hHeld ?_ ?_
 rotate_left
 { rintro w' ⟨⟨s0, s1, s2, s3⟩, ⟨s4, s5⟩, s6, s7⟩; go_simp; with_reducible rfl }
 rotate_left
 · exact p1_
 refine pure_ (i := 2) (N := some 106) (v := ?_) (a' := ?_) #[true,true,true,false,false,false,false,false,false,false,false,false,false,false,false,false,false,false,false,false,false,false,false] rfl rfl s2_ (fun _ _ _ h => h) (Or.inl ⟨by rfl, ?_⟩) ?_ ?_
 rotate_left
 { intro w'; go_simp; with_reducible rfl }
 rotate_left
 · exact p1_
 refine pure_ (i := 3) (N := some 107) (v := ?_) (a' := ?_) #[true,true,true,true,false,false,false,false,false,false,false,false,false,false,false,false,false,false,false,false,false,false,false] rfl rfl s2_ (fun _ _ _ h => h) (Or.inl ⟨by rfl, ?_⟩) ?_ ?_
 rotate_left
 { intro w'; go_simp; with_reducible rfl }
 rotate_left
 · exact p1_
 refine pure_ (i := 4) (N := some 108) (v := ?_) (a' := ?_) #[true,true,true,true,true,false,false,false,false,false,false,false,false,false,false,false,false,false,false,false,false,false,false] rfl rfl s2_ (fun _ _ _ h => h) (Or.inl ⟨by rfl, ?_⟩) ?_ ?_
 rotate_left
 { intro w'; go_simp; with_reducible rfl }
 rotate_left
 · exact p1_
 refine take_ (i := 5) (N := some 109) (v := ?_) (a' := ?_) #[true,true,true,true,true,true,false,false,false,false,false,false,false,false,false,false,false,false,false,false,false,false,false] rfl rfl s2_ (fun _ _ _ h => h) (Or.inl ⟨by rfl, ?_⟩) hHeld ?_ ?_
 rotate_left
 { rintro w' ⟨⟨s0, s1, s2, s3⟩, ⟨s4, s5⟩, s6, s7⟩; go_simp; with_reducible rfl }
 rotate_left
 · exact p1_
 refine pure_ (i := 6) (N := some 110) (v := ?_) (a' := ?_) #[true,true,true,true,true,true,true,false,false,false,false,false,false,false,false,false,false,false,false,false,false,false,false] rfl rfl s2_ (fun _ _ _ h => h) (Or.inl ⟨by rfl, ?_⟩) ?_ ?_
 rotate_left
 { intro w'; go_simp; with_reducible rfl }
 rotate_left
 · exact p1_
 refine take_ (i := 7) (N := some 111) (v := ?_) (a' := ?_) #[true,true,true,true,true,true,true,true,false,false,false,false,false,false,false,false,false,false,false,false,false,false,false] rfl rfl s2_ (fun _ _ _ h => h) (Or.inl ⟨by rfl, ?_⟩) hHeld ?_ ?_
 rotate_left
 { rintro w' ⟨⟨s0, s1, s2, s3⟩, ⟨s4, s5⟩, s6, s7⟩; go_simp; with_reducible rfl }
 rotate_left
 · exact p1_
 refine one_ (i := 8) (N := some 112) #[true,true,true,true,true,true,true,true,true,false,false,false,false,false,false,false,false,false,false,false,false,false,false] rfl rfl s2_ (by decide) (fun K hK => ?_)
 refine goes_ Try.func27 s2_ rfl #[.slice Ab y.f3.length cb, .slice A x.f3.length c3] (by rfl) rfl rfl s3_ ?_
 refine (parcW k true P (heldC (rP_held P 2 rfl hy)) (rP_held P 0 rfl hx) hP2).mono ?_
 clear P
 rintro e_ w2 ⟨rfl, P⟩
 (try simp only [List.nil_append, List.cons_append, List.set_cons_zero, List.set_cons_succ] at P)
 refine ⟨_, rfl, ?_⟩
 refine hK.out _ _ ⟨(Pool.c4 P 1 rfl).1, P.held2 3 rfl, by rw [← HM0.out]; exact (rP_cells P 2 rfl hy).2.2.1, (rP_cells P 2 rfl hy).2.2.2⟩ (fun hHeld => ?_)
 clear hK K
 refine norm_ (a' := ?_) ?_ ?_; rotate_left; { show Act.put _ (some 112) _ = _; simp only [Act.put, List.setIfInBounds_toArray, List.set_cons_zero, List.set_cons_succ, i64_w, i32_w]; rfl }
 refine pure_ (i := 9) (N := some 113) (v := ?_) (a' := ?_) #[true,true,true,true,true,true,true,true,true,true,false,false,false,false,false,false,false,false,false,false,false,false,false] rfl rfl s2_ (fun _ _ _ h => h) (Or.inl ⟨by rfl, ?_⟩) ?_ ?_
 rotate_left
 { intro w'; go_simp; with_reducible rfl }
 rotate_left
 · exact p1_
 refine pure_ (i := 10) (N := some 114) (v := ?_) (a' := ?_) #[true,true,true,true,true,true,true,true,true,true,true,false,false,false,false,false,false,false,false,false,false,false,false] rfl rfl s2_ (fun _ _ _ h => h) (Or.inl ⟨by rfl, ?_⟩) ?_ ?_
 rotate_left
 { intro w'; go_simp; with_reducible rfl }
 rotate_left
 · exact p1_
 refine take_ (i := 11) (N := some 115) (v := ?_) (a' := ?_) #[true,true,true,true,true,true,true,true,true,true,true,true,false,false,false,false,false,false,false,false,false,false,false] rfl rfl s2_ (fun _ _ _ h => h) (Or.inl ⟨by rfl, ?_⟩) hHeld ?_ ?_
 rotate_left
 { rintro w' ⟨⟨s0, s1, s2, s3⟩, ⟨s4, s5⟩, s6, s7⟩; go_simp; with_reducible rfl }
 rotate_left
 · exact p1_
 refine pure_ (i := 12) (N := some 116) (v := ?_) (a' := ?_) #[true,true,true,true,true,true,true,true,true,true,true,true,true,false,false,false,false,false,false,false,false,false,false] rfl rfl s2_ (fun _ _ _ h => h) (Or.inl ⟨by rfl, ?_⟩) ?_ ?_
 rotate_left
 { intro w'; go_simp; with_reducible rfl }
 rotate_left
 · exact p1_
 refine pure_ (i := 13) (N := some 117) (v := ?_) (a' := ?_) #[true,true,true,true,true,true,true,true,true,true,true,true,true,true,false,false,false,false,false,false,false,false,false] rfl rfl s2_ (fun _ _ _ h => h) (Or.inl ⟨by rfl, ?_⟩) ?_ ?_
 rotate_left
 { intro w'; go_simp; with_reducible rfl }
 rotate_left
 · exact p1_
 refine pure_ (i := 14) (N := some 118) (v := ?_) (a' := ?_) #[true,true,true,true,true,true,true,true,true,true,true,true,true,true,true,false,false,false,false,false,false,false,false] rfl rfl s2_ (fun _ _ _ h => h) (Or.inl ⟨by rfl, ?_⟩) ?_ ?_
 rotate_left
 { intro w'; go_simp; with_reducible rfl }
 rotate_left
 · exact p1_
 refine take_ (i := 15) (N := some 119) (v := ?_) (a' := ?_) #[true,true,true,true,true,true,true,true,true,true,true,true,true,true,true,true,false,false,false,false,false,false,false] rfl rfl s2_ (fun _ _ _ h => h) (Or.inl ⟨by rfl, ?_⟩) hHeld ?_ ?_
 rotate_left
 { rintro w' ⟨⟨s0, s1, s2, s3⟩, ⟨s4, s5⟩, s6, s7⟩; go_simp; with_reducible rfl }
 rotate_left
 · exact p1_
 refine pure_ (i := 16) (N := some 120) (v := ?_) (a' := ?_) #[true,true,true,true,true,true,true,true,true,true,true,true,true,true,true,true,true,false,false,false,false,false,false] rfl rfl s2_ (fun _ _ _ h => h) (Or.inl ⟨by rfl, ?_⟩) ?_ ?_
 rotate_left
 { intro w'; go_simp; with_reducible rfl }
 rotate_left
 · exact p1_
 refine pure_ (i := 17) (N := some 121) (v := ?_) (a' := ?_) #[true,true,true,true,true,true,true,true,true,true,true,true,true,true,true,true,true,true,false,false,false,false,false] rfl rfl s2_ (fun _ _ _ h => h) (Or.inl ⟨by rfl, ?_⟩) ?_ ?_
 rotate_left
 { intro w'; go_simp; with_reducible rfl }
 rotate_left
 · exact p1_
 refine pure_ (i := 18) (N := some 122) (v := ?_) (a' := ?_) #[true,true,true,true,true,true,true,true,true,true,true,true,true,true,true,true,true,true,true,false,false,false,false] rfl rfl s2_ (fun _ _ _ h => h) (Or.inl ⟨by rfl, ?_⟩) ?_ ?_
 rotate_left
 { intro w'; go_simp; with_reducible rfl }
 rotate_left
 · exact p1_
 refine take_ (i := 19) (N := some 123) (v := ?_) (a' := ?_) #[true,true,true,true,true,true,true,true,true,true,true,true,true,true,true,true,true,true,true,true,false,false,false] rfl rfl s2_ (fun _ _ _ h => h) (Or.inl ⟨by rfl, ?_⟩) hHeld ?_ ?_
 rotate_left
 { rintro w' ⟨⟨s0, s1, s2, s3⟩, ⟨s4, s5⟩, s6, s7⟩; go_simp; with_reducible rfl }
 rotate_left
 · exact p1_
 refine one_ (i := 20) (N := some 124) #[true,true,true,true,true,true,true,true,true,true,true,true,true,true,true,true,true,true,true,true,true,false,false] rfl rfl s2_ (by decide) (fun K hK => ?_)
 refine goes_ Try.func28 s2_ rfl #[.agg #[.int .i64 lim, .slice (some ⟨gb, 0, none⟩) bs.length d2]] (by rfl) rfl rfl s3_ ?_
 refine (validL k lim true P (rP_reads P 2 rfl) hV).mono ?_
 clear P
 rintro e_ w2 ⟨rfl, P⟩
 (try simp only [List.nil_append, List.cons_append, List.set_cons_zero, List.set_cons_succ] at P)
 refine ⟨_, rfl, ?_⟩
 refine hK.out _ _ ⟨(Pool.c4 P 1 rfl).1, P.held2 3 rfl, by rw [← HM0.out]; exact (rP_cells P 2 rfl hy).2.2.1, (rP_cells P 2 rfl hy).2.2.2⟩ (fun hHeld => ?_)
 clear hK K
 refine norm_ (a' := ?_) ?_ ?_; rotate_left; { show Act.put _ (some 124) _ = _; simp only [Act.put, List.setIfInBounds_toArray, List.set_cons_zero, List.set_cons_succ, i64_w, i32_w]; rfl }
 refine pure_ (i := 21) (N := some 125) (v := ?_) (a' := ?_) #[true,true,true,true,true,true,true,true,true,true,true,true,true,true,true,true,true,true,true,true,true,true,false] rfl rfl s2_ (fun _ _ _ h => h) (Or.inl ⟨by rfl, ?_⟩) ?_ ?_
 rotate_left
 { intro w'; go_simp; with_reducible rfl }
 rotate_left
 · exact p1_
 refine pure_ (i := 22) (N := some 4) (v := ?_) (a' := ?_) #[true,true,true,true,true,true,true,true,true,true,true,true,true,true,true,true,true,true,true,true,true,true,true] rfl rfl s2_ (fun _ _ _ h => h) (Or.inl ⟨by rfl, ?_⟩) ?_ ?_
 rotate_left
 { intro w'; go_simp; with_reducible rfl }
 rotate_left
 · exact p1_
 refine done_ s2_ ?_
 try go_wp2_with (fail)
 go_ret
 exact ⟨rfl, P.1⟩
theorem ReadsInt.ofRow {k : IntKind} {w : World} {a : Option Addr} {len cap : Nat} {zs : List Int} (h : (a = none ∧ len = 0 ∧ cap = 0 ∧ zs = []) ∨ ∃ x, a = some x ∧ len ≤ cap ∧ cap ≤ maxLen ∧ zs.length = cap ∧ (∀ i, i < zs.length → w.cell? (x.add i) = some (.int k (zs.getD i 0))) ∧ ∀ n ∈ zs, (Lit.int k n).wf = true) :
    ∃ l : List Int, len = l.length ∧ ReadsInt w k a l.length l ∧ l.length ≤ maxLen ∧ ∀ x ∈ l, (Lit.int k x).wf = true := by
  rcases h with ⟨rfl, rfl, rfl, rfl⟩ | ⟨x, rfl, hl, hm, hz, hc, hw⟩
  · exact ⟨[], rfl, ReadsInt.nil _ _, Nat.zero_le _, fun x hx => by simp at hx⟩
  · have e : (zs.take len).length = len := by simp; omega
    have hm' : len ≤ maxLen := Nat.le_trans hl hm
    refine ⟨zs.take len, e.symm, ⟨rfl, by rw [e]; simpa [maxLen] using hm', fun _ => ⟨x, rfl, fun j hj => ?_⟩⟩, by rw [e]; exact hm', fun y hy => hw y (List.mem_of_mem_take hy)⟩
    rw [e] at hj
    rw [hc j (by omega)]
    simp [List.getD, List.getElem?_take, hj]
theorem ReadsInt.ofRowC {k : IntKind} {w : World} {a : Option Addr} {len cap : Nat} {zs : List Int} (h : (a = none ∧ len = 0 ∧ cap = 0 ∧ zs = []) ∨ ∃ x, a = some x ∧ len ≤ cap ∧ cap ≤ maxLen ∧ zs.length = cap ∧ (∀ i, i < zs.length → w.cell? (x.add i) = some (.int k (zs.getD i 0))) ∧ ∀ n ∈ zs, (Lit.int k n).wf = true) :
    ∃ l : List Int, len = l.length ∧ ReadsInt w k a l.length l ∧ l.length ≤ maxLen ∧ (∀ x ∈ l, (Lit.int k x).wf = true) ∧ l.length ≤ cap := by
  have hl : len ≤ cap := by
    rcases h with ⟨_, rfl, rfl, _⟩ | ⟨_, _, h, _⟩
    · exact Nat.le_refl _
    · exact h
  obtain ⟨l, e, h1, h2, h3⟩ := ReadsInt.ofRow h
  exact ⟨l, e, h1, h2, h3, e ▸ hl⟩
theorem Kd.C_of_reads {α : Type} {enc : α → Value} {d : α} {h1 : ∀ x, (enc x).oneCell' = true} {w : World} {A : Option Addr} {n : Nat} {xs : List α} (h : ReadsOf enc d w A n xs) : (Kd.scalar enc h1).C w A n xs := by
  refine ⟨h.1, h.2.1, fun hn => ?_⟩
  obtain ⟨ad, e, hc⟩ := h.2.2 hn
  refine ⟨ad, e, fun j p hj => ⟨[enc p], rfl, rfl, fun i u hu => ?_⟩⟩
  obtain ⟨hl, hp⟩ := List.getElem?_eq_some_iff.1 hj
  have h2 := hc j (by have := h.1; omega)
  rw [List.getD_eq_getElem?_getD, hj] at h2
  cases i with
  | zero =>
    have : enc p = u := by simpa using hu
    subst this
    simpa [Kd.scalar] using h2
  | succ i => simp at hu
def laws_FnTaken.Pure : Prop := ∀ l0 l1 : List Int, l0.length ≤ maxLen → l0.length * 1 ≤ 140737488351232 → (∀ n ∈ l0, (Lit.int .u8 n).wf = true) → l1.length ≤ maxLen → l1.length * 1 ≤ 140737488351232 → (∀ n ∈ l1, (Lit.int .u8 n).wf = true) → ∃ k, laws_FnTaken.Ans k l0 l1
theorem laws_FnTaken.walk (P : laws_FnTaken.Pure) (a0 : Option Addr) (len0 cap0 : Nat) (z0 : List Int) (a1 : Option Addr) (len1 cap1 : Nat) (z1 : List Int) (w : World) (w0 : (a0 = none ∧ len0 = 0 ∧ cap0 = 0 ∧ z0 = []) ∨ ∃ x, a0 = some x ∧ len0 ≤ cap0 ∧ cap0 ≤ maxLen ∧ z0.length = cap0 ∧ (∀ i, i < z0.length → w.cell? (x.add i) = some (.int .u8 (z0.getD i 0))) ∧ ∀ n ∈ z0, (Lit.int .u8 n).wf = true) (y0 : len0 * 1 ≤ 140737488351232) (w1 : (a1 = none ∧ len1 = 0 ∧ cap1 = 0 ∧ z1 = []) ∨ ∃ x, a1 = some x ∧ len1 ≤ cap1 ∧ cap1 ≤ maxLen ∧ z1.length = cap1 ∧ (∀ i, i < z1.length → w.cell? (x.add i) = some (.int .u8 (z1.getD i 0))) ∧ ∀ n ∈ z1, (Lit.int .u8 n).wf = true) (y1 : len1 * 1 ≤ 140737488351232) :
    Calls Try.prog 7 #[.slice a0 len0 cap0, .slice a1 len1 cap1] w fun e w' => e = .returned (.bool true) ∧ Below w.heap.size w w' := by
  obtain ⟨l0, rfl, hr0, hm0, hw0, hc0⟩ := ReadsInt.ofRowC w0
  obtain ⟨l1, rfl, hr1, hm1, hw1, hc1⟩ := ReadsInt.ofRowC w1
  obtain ⟨k, h⟩ := P l0 l1 hm0 y0 hw0 hm1 y1 hw1
  exact laws_FnTaken.calls k _ _ l0 _ _ l1 w (Kd.C_of_reads (d := (0 : Int)) (h1 := fun _ => rfl) hr0) hc0 (Kd.C_of_reads (d := (0 : Int)) (h1 := fun _ => rfl) hr1) hc1 h

end Go.Proofs.Ytdanachjdfiegaa.QFnTaken
