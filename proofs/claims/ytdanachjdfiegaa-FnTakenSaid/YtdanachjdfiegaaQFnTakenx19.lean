-- by hand, over one pool
import Derived.Test.YtdanachjdfiegaaQFnTakenx18
namespace Go.Proofs.Ytdanachjdfiegaa.QFnTaken
open Go.RowKit Go.Proofs.YtdanachjdfiegaaW.PrintWords Go.Proofs.YtdanachjdfiegaaW.PrintLast Go.Proofs.YtdanachjdfiegaaW.PrintMore
attribute [local go_sem] max2_int min2_int max_two min_two max_three min_three max_four min_four   -- for this text's walks alone
set_option linter.unusedVariables false
set_option linter.unusedSimpArgs false
/-- What R8Post draws. -/
def R8Is (k : Nat) (l : List Int) (lim : Int) (res : List S58) : Prop := ∃ (r0 a0 b0 : Int) (N : Nat) (n0 a1 b1 a2 b2 : Int) (xs : List S58), spec_l00Src_pick.f l 0 0 5 = some (r0, a0, b0) ∧ wrap64 (1 + r0) = lim ∧ spec_l00Src_pick.f l a0 b0 4 = some (n0, a1, b1) ∧ wrap64 (1 + n0) = (N : Int) ∧ N ≤ 1000 ∧ Draw1 k l lim N a1 b1 [] a2 b2 xs ∧ 0 < xs.length ∧ xs.length ≤ 1000 ∧ ∃ q, wrap64 (lim + 1) = q ∧ Draw2 l q xs a2 b2 res
theorem set_same {α : Type} {l : List α} {i : Nat} {x : α} (h : l[i]? = some x) : l.set i x = l := by
  obtain ⟨hi, rfl⟩ := List.getElem?_eq_some_iff.1 h
  exact List.set_getElem_self hi
theorem mapAt {qs : List (SB × List S97)} {i : Nat} {x : SB × List S97} (h : qs[i]? = some x) : (qs.map Prod.fst)[i]? = some x.1 := by rw [List.getElem?_map, h]; rfl
theorem mapNrow {b : Nat} {qs : List (SB × List S97)} {i : Nat} {x : SB × List S97} (h : qs[i]? = some x) : (qs.map (nrow b))[i]? = some (nrow b x) := by rw [List.getElem?_map, h]; rfl
theorem nrow_same {b : Nat} {L : List Res} {i : Nat} {x : SB × List S97} {ms : Int} (h : L[i]? = some (nrow b x)) : L.set i (nrow b (⟨x.1.f0, x.1.f1, ms, x.1.A, x.1.n, x.1.c⟩, x.2)) = L := set_same h
theorem draw2_at {s : List Int} {q : Int} {ps : List (SB × List S97)} {i : Nat} {a b : Int} {rest : List S58} {p : SB × List S97} (h : Draw2 s q ((ps.map entS).drop i) a b rest) (hp : ps[i]? = some p) :
    ∃ (n : Nat) (a1 b1 a2 b2 : Int) (hs : List S97) (ms a3 b3 : Int) (res' : List S58), n ≤ 1000 ∧ spec_l00Src_pick.f s a b q = some ((n : Int), a1, b1) ∧ Hold s n a1 b1 p.2 a2 b2 hs ∧ spec_l00Src_pick.f s a2 b2 3 = some (ms, a3, b3) ∧ rest = ⟨p.1.f0, p.1.f1, ms, hs⟩ :: res' ∧ Draw2 s q ((ps.map entS).drop (i + 1)) a3 b3 res' := by
  obtain ⟨hi, rfl⟩ := List.getElem?_eq_some_iff.1 hp
  rw [List.drop_eq_getElem_cons (by rw [List.length_map]; exact hi), List.getElem_map] at h
  exact h
theorem draw2_drop {s : List Int} {q : Int} {ps : List (SB × List S97)} {i : Nat} {a b : Int} {rest : List S58} {x : SB × List S97} (h : Draw2 s q ((ps.map entS).drop (i + 1)) a b rest) : Draw2 s q (((ps.set i x).map entS).drop (i + 1)) a b rest := by
  rw [List.map_set, List.drop_set_of_lt (by omega)]
  exact h
theorem draw2_take {ps : List (SB × List S97)} {i : Nat} {p x : SB × List S97} {ms : Int} {hs : List S97} {rest : List S58} (hi : i < ps.length) (h0 : x.1.f0 = p.1.f0) (h1 : x.1.f1 = p.1.f1) (h2 : x.2 = hs) :
    (ps.map entS).take i ++ ⟨p.1.f0, p.1.f1, ms, hs⟩ :: rest = ((ps.set i (⟨x.1.f0, x.1.f1, ms, x.1.A, x.1.n, x.1.c⟩, x.2)).map entS).take (i + 1) ++ rest := by
  rw [List.map_set, List.take_succ_eq_append_getElem (by simpa using hi), List.getElem_set_self, List.take_set_of_le (Nat.le_refl _), List.append_assoc, ← h0, ← h1, ← h2]
  rfl
theorem draw2_end {s : List Int} {q : Int} {ps : List (SB × List S97)} {i : Nat} {a b : Int} {res rest : List S58} (h : Draw2 s q ((ps.map entS).drop i) a b rest) (he : res = (ps.map entS).take i ++ rest) (hi : ps.length ≤ i) : res = ps.map entS := by
  rw [List.drop_eq_nil_of_le (by simpa using hi)] at h
  have h2 : rest = [] := h
  rw [he, h2, List.append_nil, List.take_of_length_le (by simpa using hi)]
set_option maxHeartbeats 40000000 in
set_option maxRecDepth 100000 in
theorem spec_R8Post.calls (k : Nat) (A : Option Addr) (c : Nat) (l : List Int) (lim : Int) (res : List S58) (w : World) (hr : Kd.C (Kd.int .u8) w A l.length l) (hc : l.length ≤ c) (H : R8Is k l lim res) :
    Calls Try.prog 24 #[.slice A l.length c] w fun e w' => ∃ D d, e = .returned (.agg #[.int .i64 lim, .slice D res.length d]) ∧ Pool w w' [rS w.heap.size D res.length d res] := by
 have hu9 := Try.underlying9
 have hu52 := Try.underlying52
 have hu54 := Try.underlying54
 have hu56 := Try.underlying56
 have hu58 := Try.underlying58
 have hu94 := Try.underlying94
 have hu97 := Try.underlying97
 have hu111 := Try.underlying111
 obtain ⟨r0, a0, b0, N, n0, a1, b1, a2, b2, xs, hp0, hl0, hp1, hN, hN2, hD1, hx0, hx1, q, hq, hD2⟩ := H
 subst hq; have HD1 := Aside0.mk hD1; have HD2 := Aside0.mk hD2; have HX := Aside0.mk (And.intro hx0 hx1); have HN := Aside0.mk hN2; clear hD1 hD2 hx0 hx1 hN2
 have P := Pool.nil w
 go_enter Try.func24, Try.ntmps24
 go_wp2_with (first | ((with_reducible refine gate_dst (N := 2) rfl ?_); (try (refine gate_guard (by rfl) ?_; dsimp only)); refine bx_ 2 #[.int .i64 0, .slice none 0 0] 54 ?_; intro g2 hg w1 hbox hb; replace P := P.box hg hbox hb; clear hb hbox hg; (try simp only [List.nil_append, List.cons_append, List.set_cons_zero, List.set_cons_succ] at P)) | ((with_reducible refine gate_dst (N := 13) rfl ?_); (with_reducible refine gate_callee (f := 29) rfl ?_); refine goesL_ (some 13) rfl rfl Try.func29 s2_ rfl #[.slice A l.length c] rfl s3_ ?_; refine (fromR P hr hc).mono ?_; clear P; rintro e w1 ⟨gs, rfl, P⟩; refine ⟨_, rfl, ?_⟩; (try simp only [List.nil_append, List.cons_append, List.set_cons_zero, List.set_cons_succ] at P)) | ((with_reducible refine gate_dst (N := 15) rfl ?_); (with_reducible refine gate_callee (f := 59) rfl ?_); refine goesL_ (some 15) rfl rfl Try.func59 s2_ rfl #[.pointer (some ⟨gs, 0, none⟩), .int .i64 5] rfl s3_ ?_; refine (pickR 5 r0 a0 b0 P 1 rfl hp0).mono ?_; clear P; rintro e w1 ⟨rfl, P⟩; refine ⟨_, rfl, ?_⟩; (try simp only [List.nil_append, List.cons_append, List.set_cons_zero, List.set_cons_succ] at P)) | ((with_reducible refine gate_dst (N := 17) rfl ?_); refine Kd.S_lit k58 _ 58 ?hg (N := 17) ?hd (xs := []) (inner := []) (ok := fun _ => True) (okp := fun _ => True) ?hr ?hp (fun _ hk => hk) trivial (Below.refl _ _) (Nat.le_refl _) (by simp) ?_; (case hd => rfl); (case hg => rfl); (case hr => first | (go_simp; done) | (go_simp; rfl)); (case hp => exact (Reps.none _ _)); intro v_ w1 ho hb hg_ hnew_; obtain ⟨D, d, rfl, P2⟩ := newS0 P hb ho; clear P ho hb hg_ hnew_; have P := P2; clear P2; (try simp only [List.nil_append, List.cons_append, List.set_cons_zero, List.set_cons_succ] at P)) | ((with_reducible refine gate_dst (N := 4) rfl ?_); (try (refine gate_guard (by rfl) ?_; dsimp only)); refine bx_ 4 #[.int .i64 0, .slice none 0 0] 54 ?_; intro g4 hg w1 hbox hb; replace P := P.box hg hbox hb; clear hb hbox hg; (try simp only [List.nil_append, List.cons_append, List.set_cons_zero, List.set_cons_succ] at P); obtain ⟨ce0, ce1, fe0, fe1⟩ := P.c2 3 rfl) | ((with_reducible refine gate_store (p := 4) rfl ?_); refine st2 P 3 rfl rfl rfl rfl (by go_simp; rfl) ?_; clear P; intro w1 P; (try simp only [List.nil_append, List.cons_append, List.set_cons_zero, List.set_cons_succ] at P)) | ((with_reducible refine gate_dst (N := 20) rfl ?_); (with_reducible refine gate_callee (f := 59) rfl ?_); refine goesL_ (some 20) rfl rfl Try.func59 s2_ rfl #[.pointer (some ⟨gs, 0, none⟩), .int .i64 4] rfl s3_ ?_; refine (pickR 4 n0 a1 b1 P 1 rfl hp1).mono ?_; clear P; rintro e w1 ⟨rfl, P⟩; refine ⟨_, rfl, ?_⟩; (try simp only [List.nil_append, List.cons_append, List.set_cons_zero, List.set_cons_succ] at P)))
 go_loopg [5] N (fun kq v5 w' => ∃ (a b : Int) (ys : List S58) (D : Option Addr) (d : Nat), v5 = .int .i64 (kq : Int) ∧ Aside0 (kq ≤ N) ∧ Aside0 (Draw1 k l lim kq a b ys a2 b2 xs) ∧ Pool w w' [rbox g2 #[.int .i64 0, .slice none 0 0] 54, rsrc w gs l a b, rS w.heap.size D ys.length d ys, rbox g4 #[.int .i64 lim, .slice D ys.length d] 54])
 case atStart => exact ⟨a1, b1, [], D, d, by first | rfl | (rw [← hN]; done) | (simp [hN]; done), ⟨Nat.le_refl _⟩, HD1, P⟩
 case round =>
 clear P hp0 hp1 hN
 obtain ⟨a, b, ys, D, d, rfl, HK, HV, P⟩ := hrel
 cases gk with
 | succ k1 =>
 {
 obtain ⟨tok, a3, b3, m, a4, b4, zs, ht, hm, hA, hD⟩ := HV.out
 have HD := Aside0.mk hD; clear hD HV
 have q1 : decide (((k1 + 1 : Nat) : Int) > 0) = true := decide_eq_true (by omega)
 have q1b : decide ((k1 : Int) + 1 > 0) = true := decide_eq_true (by omega)
 have q1c : decide (0 < (k1 : Int) + 1) = true := decide_eq_true (by omega)
 have hw : wrap64 (((k1 + 1 : Nat) : Int) - 1) = (k1 : Int) ∧ wrap64 (k1 : Int) = (k1 : Int) := by have := HK.out; have := HN.out; unfold wrap64; omega
 have HW := Aside0.mk hw; clear hw
 try go_wp2_with (first | ((with_reducible refine gate_dst (N := 27) rfl ?_); refine Kd.R_lit Kd.string _ 9 ?hg (N := 27) ?hd (xs := tk5) (inner := encs Value.string tk5) (ok := fun _ => True) (okp := fun _ => True) ?hr ?hp (fun _ hk => hk) trivial (Below.refl _ _) (Nat.le_refl _) (by decide) ?_; (case hd => rfl); (case hg => rfl); (case hr => first | (go_simp; done) | (go_simp; rfl) | (go_simp; refine ⟨?_, ?_⟩ <;> rfl)); (case hp => exact Kd.reps_scalar (enc := Value.string) tk5); intro v_ w1 ho hb hg_ hnew_; obtain ⟨E, Ed, rfl, P2⟩ := newQ rfl P hb ho; clear P ho hb hg_ hnew_; have P := P2; clear P2; (try simp only [List.nil_append, List.cons_append, List.set_cons_zero, List.set_cons_succ] at P)) | ((with_reducible refine gate_dst (N := 28) rfl ?_); (with_reducible refine gate_callee (f := 60) rfl ?_); refine goesL_ (some 28) rfl rfl Try.func60 s2_ rfl #[.pointer (some ⟨gs, 0, none⟩), .slice E tk5.length Ed] rfl s3_ ?_; refine (textR tk5 tok a3 b3 P 1 4 rfl rfl (by decide) ht).mono ?_; clear P; rintro e w1 ⟨rfl, P⟩; refine ⟨_, rfl, ?_⟩; (try simp only [List.nil_append, List.cons_append, List.set_cons_zero, List.set_cons_succ] at P); obtain ⟨ce0, ce1, fe0, fe1⟩ := P.c2 3 rfl))
 clear ht
 replace P : Pool w _ [rbox g2 #[.int .i64 0, .slice none 0 0] 54, rsrc w gs l a3 b3, rS w.heap.size D ys.length d ys, rbox g4 #[.int .i64 lim, .slice D ys.length d] 54] := P.pick [0, 1, 2, 3] _ (by decide) rfl
 obtain ⟨hv, hA⟩ := hA
 rcases hA with ⟨r, hr0, hf, hzy⟩ | ⟨hf, i0, hi0, hlen, hcp, hlt, hgt, hys, hg⟩
 {
 replace hzy := hzy.symm; subst hzy
 have HR0 := Aside0.mk hr0; clear hr0
 replace P := P.drew
 refine start_ (n := 12) (S := fun w' => C2 w' g4 (.int .i64 lim) (.slice D ys.length d)) (ds := []) #[false,false,false,false,false,false,false,false,false,false,false,false] s2_ rfl rfl (P.held2 3 rfl) (fun hHeld => ?_)
 generalize World.drew _ = w1 at P hHeld ⊢
 refine take_ (i := 0) (N := some 30) (v := ?_) (a' := ?_) #[true,false,false,false,false,false,false,false,false,false,false,false] rfl rfl s2_ (fun _ _ _ h => h) (Or.inl ⟨by rfl, ?_⟩) hHeld ?_ ?_
 rotate_left
 { rintro w' ⟨s0, s1⟩; go_simp; with_reducible rfl }
 rotate_left
 · exact p1_
 refine pure_ (i := 1) (N := some 31) (v := ?_) (a' := ?_) #[true,true,false,false,false,false,false,false,false,false,false,false] rfl rfl s2_ (fun _ _ _ h => h) (Or.inl ⟨by rfl, ?_⟩) ?_ ?_
 rotate_left
 { intro w'; go_simp; with_reducible rfl }
 rotate_left
 · exact p1_
 refine pure_ (i := 2) (N := some 32) (v := ?_) (a' := ?_) #[true,true,true,false,false,false,false,false,false,false,false,false] rfl rfl s2_ (fun _ _ _ h => h) (Or.inl ⟨by rfl, ?_⟩) ?_ ?_
 rotate_left
 { intro w'; go_simp; with_reducible rfl }
 rotate_left
 · exact p1_
 refine join_ (σ := Nat) 2 #[true,true,true,true,true,true,true,true,true,true,false,false] (fun s_ => [(33, .int .i64 m), (34, .int .i64 (wrap64 (1 + m))), (35, .tuple #[.agg #[.int .i64 0, .slice none 0 0], .bool false]), (29, .tuple #[.agg #[.int .i64 0, .slice none 0 0], .bool false]), (36, .agg #[.int .i64 0, .slice none 0 0]), (37, .bool false), (7, .pointer (some ⟨s_, 0, none⟩))]) (fun s_ w' => Pool w w' [rbox g2 #[.int .i64 0, .slice none 0 0] 54, rsrc w gs l a4 b4, rS w.heap.size D ys.length d ys, rbox g4 #[.int .i64 lim, .slice D ys.length d] 54, rbox s_ #[.int .i64 0, .slice none 0 0] 54]) ?_ ?_
 rotate_left
 {
 intro hCont
 refine two_ (i := 3) (j := 9) (Ni := some 33) (Nj := some 7) #[true,true,true,true,false,false,false,false,false,false,false,false] #[true,true,true,false,false,false,false,false,false,true,false,false] rfl rfl rfl rfl s2_ (by decide) (by decide) (fun K hK => ?_) (fun K hK => ?_)
 {
 refine goes_ Try.func59 s2_ rfl #[.pointer (some ⟨gs, 0, none⟩), .int .i64 4] (by rfl) rfl rfl s3_ ?_
 refine (pickR 4 m a4 b4 P 1 rfl hm).mono ?_
 clear P
 rintro e_ w1 ⟨rfl, P⟩
 (try simp only [List.nil_append, List.cons_append, List.set_cons_zero, List.set_cons_succ] at P)
 refine ⟨_, rfl, ?_⟩
 refine hK.out _ _ (P.held2 3 rfl) (fun hHeld => ?_)
 clear hK K
 refine norm_ (a' := ?_) ?_ ?_; rotate_left; { show Act.put _ (some 33) _ = _; simp only [Act.put, List.setIfInBounds_toArray, List.set_cons_zero, List.set_cons_succ, i64_w, i32_w]; rfl }
 refine pure_ (i := 4) (N := some 34) (v := ?_) (a' := ?_) #[true,true,true,true,true,false,false,false,false,false,false,false] rfl rfl s2_ (fun _ _ _ h => h) (Or.inl ⟨by rfl, ?_⟩) ?_ ?_
 rotate_left
 { intro w'; go_simp; with_reducible rfl }
 rotate_left
 · exact p1_
 refine two_ (i := 5) (j := 9) (Ni := some 35) (Nj := some 7) #[true,true,true,true,true,true,false,false,false,false,false,false] #[true,true,true,true,true,false,false,false,false,true,false,false] rfl rfl rfl rfl s2_ (by decide) (by decide) (fun K hK => ?_) (fun K hK => ?_)
 {
 refine goes_ Try.func61 s2_ rfl #[.agg #[.int .i64 lim, .slice D ys.length d], .string tok, .int .i64 (wrap64 (1 + m))] (by rfl) rfl rfl s3_ ?_
 refine (addN k lim tok _ r P 2 rfl hv hf HR0.out).mono ?_
 clear P
 rintro e_ w1 ⟨rfl, P⟩
 (try simp only [List.nil_append, List.cons_append, List.set_cons_zero, List.set_cons_succ] at P)
 refine ⟨_, rfl, ?_⟩
 refine hK.out _ _ (P.held2 3 rfl) (fun hHeld => ?_)
 clear hK K
 refine norm_ (a' := ?_) ?_ ?_; rotate_left; { show Act.put _ (some 35) _ = _; simp only [Act.put, List.setIfInBounds_toArray, List.set_cons_zero, List.set_cons_succ, i64_w, i32_w]; rfl }
 refine pure_ (i := 6) (N := some 29) (v := ?_) (a' := ?_) #[true,true,true,true,true,true,true,false,false,false,false,false] rfl rfl s2_ (fun _ _ _ h => h) (Or.inl ⟨by rfl, ?_⟩) ?_ ?_
 rotate_left
 { intro w'; go_simp; with_reducible rfl }
 rotate_left
 · exact p1_
 refine pure_ (i := 7) (N := some 36) (v := ?_) (a' := ?_) #[true,true,true,true,true,true,true,true,false,false,false,false] rfl rfl s2_ (fun _ _ _ h => h) (Or.inl ⟨by rfl, ?_⟩) ?_ ?_
 rotate_left
 { intro w'; go_simp; with_reducible rfl }
 rotate_left
 · exact p1_
 refine pure_ (i := 8) (N := some 37) (v := ?_) (a' := ?_) #[true,true,true,true,true,true,true,true,true,false,false,false] rfl rfl s2_ (fun _ _ _ h => h) (Or.inl ⟨by rfl, ?_⟩) ?_ ?_
 rotate_left
 { intro w'; go_simp; with_reducible rfl }
 rotate_left
 · exact p1_
 refine one_ (i := 9) (N := some 7) #[true,true,true,true,true,true,true,true,true,true,false,false] rfl rfl s2_ (by decide) (fun K hK => ?_)
 refine box_step ?hg (N := 7) ?hd (cs := #[.int .i64 0, .slice none 0 0]) (t := 54) ?hr ?_; (case hd => rfl); (case hg => rfl); (case hr => first | (go_simp; done) | (go_simp; rfl))
 intro g7 hg w1 hbox hb
 replace P := P.box hg hbox hb
 clear hb hbox hg
 (try simp only [List.nil_append, List.cons_append, List.set_cons_zero, List.set_cons_succ] at P)
 refine hK.out _ _ (P.held2 3 rfl) (fun hHeld => ?_)
 clear hK K
 refine norm_ (a' := ?_) ?_ ?_; rotate_left; { show Act.put _ (some 7) _ = _; simp only [Act.put, List.setIfInBounds_toArray, List.set_cons_zero, List.set_cons_succ, i64_w, i32_w]; rfl }
 exact norm_ (by simp only [putAll, Act.put, List.setIfInBounds_toArray, List.set_cons_zero, List.set_cons_succ]) (hCont g7 _ (P.pick [0, 1, 2, 3, 4] _ (by decide) rfl))
 }
 {
 refine box_step ?hg (N := 7) ?hd (cs := #[.int .i64 0, .slice none 0 0]) (t := 54) ?hr ?_; (case hd => rfl); (case hg => rfl); (case hr => first | (go_simp; done) | (go_simp; rfl))
 intro g7 hg w1 hbox hb
 replace P := P.box hg hbox hb
 clear hb hbox hg
 (try simp only [List.nil_append, List.cons_append, List.set_cons_zero, List.set_cons_succ] at P)
 refine hK.out _ _ (P.held2 3 rfl) (fun hHeld => ?_)
 clear hK K
 refine norm_ (a' := ?_) ?_ ?_; rotate_left; { show Act.put _ (some 7) _ = _; simp only [Act.put, List.setIfInBounds_toArray, List.set_cons_zero, List.set_cons_succ, i64_w, i32_w]; rfl }
 refine one_ (i := 5) (N := some 35) #[true,true,true,true,true,true,false,false,false,true,false,false] rfl rfl s2_ (by decide) (fun K hK => ?_)
 refine goes_ Try.func61 s2_ rfl #[.agg #[.int .i64 lim, .slice D ys.length d], .string tok, .int .i64 (wrap64 (1 + m))] (by rfl) rfl rfl s3_ ?_
 refine (addN k lim tok _ r P 2 rfl hv hf HR0.out).mono ?_
 clear P
 rintro e_ w1 ⟨rfl, P⟩
 (try simp only [List.nil_append, List.cons_append, List.set_cons_zero, List.set_cons_succ] at P)
 refine ⟨_, rfl, ?_⟩
 refine hK.out _ _ (P.held2 3 rfl) (fun hHeld => ?_)
 clear hK K
 refine norm_ (a' := ?_) ?_ ?_; rotate_left; { show Act.put _ (some 35) _ = _; simp only [Act.put, List.setIfInBounds_toArray, List.set_cons_zero, List.set_cons_succ, i64_w, i32_w]; rfl }
 refine pure_ (i := 6) (N := some 29) (v := ?_) (a' := ?_) #[true,true,true,true,true,true,true,false,false,true,false,false] rfl rfl s2_ (fun _ _ _ h => h) (Or.inl ⟨by rfl, ?_⟩) ?_ ?_
 rotate_left
 { intro w'; go_simp; with_reducible rfl }
 rotate_left
 · exact p1_
 refine pure_ (i := 7) (N := some 36) (v := ?_) (a' := ?_) #[true,true,true,true,true,true,true,true,false,true,false,false] rfl rfl s2_ (fun _ _ _ h => h) (Or.inl ⟨by rfl, ?_⟩) ?_ ?_
 rotate_left
 { intro w'; go_simp; with_reducible rfl }
 rotate_left
 · exact p1_
 refine pure_ (i := 8) (N := some 37) (v := ?_) (a' := ?_) #[true,true,true,true,true,true,true,true,true,true,false,false] rfl rfl s2_ (fun _ _ _ h => h) (Or.inl ⟨by rfl, ?_⟩) ?_ ?_
 rotate_left
 { intro w'; go_simp; with_reducible rfl }
 rotate_left
 · exact p1_
 exact norm_ (by simp only [putAll, Act.put, List.setIfInBounds_toArray, List.set_cons_zero, List.set_cons_succ]) (hCont g7 _ (P.pick [0, 1, 2, 3, 4] _ (by decide) rfl))
 }
 }
 {
 refine box_step ?hg (N := 7) ?hd (cs := #[.int .i64 0, .slice none 0 0]) (t := 54) ?hr ?_; (case hd => rfl); (case hg => rfl); (case hr => first | (go_simp; done) | (go_simp; rfl))
 intro g7 hg w1 hbox hb
 replace P := P.box hg hbox hb
 clear hb hbox hg
 (try simp only [List.nil_append, List.cons_append, List.set_cons_zero, List.set_cons_succ] at P)
 refine hK.out _ _ (P.held2 3 rfl) (fun hHeld => ?_)
 clear hK K
 refine norm_ (a' := ?_) ?_ ?_; rotate_left; { show Act.put _ (some 7) _ = _; simp only [Act.put, List.setIfInBounds_toArray, List.set_cons_zero, List.set_cons_succ, i64_w, i32_w]; rfl }
 refine one_ (i := 3) (N := some 33) #[true,true,true,true,false,false,false,false,false,true,false,false] rfl rfl s2_ (by decide) (fun K hK => ?_)
 refine goes_ Try.func59 s2_ rfl #[.pointer (some ⟨gs, 0, none⟩), .int .i64 4] (by rfl) rfl rfl s3_ ?_
 refine (pickR 4 m a4 b4 P 1 rfl hm).mono ?_
 clear P
 rintro e_ w1 ⟨rfl, P⟩
 (try simp only [List.nil_append, List.cons_append, List.set_cons_zero, List.set_cons_succ] at P)
 refine ⟨_, rfl, ?_⟩
 refine hK.out _ _ (P.held2 3 rfl) (fun hHeld => ?_)
 clear hK K
 refine norm_ (a' := ?_) ?_ ?_; rotate_left; { show Act.put _ (some 33) _ = _; simp only [Act.put, List.setIfInBounds_toArray, List.set_cons_zero, List.set_cons_succ, i64_w, i32_w]; rfl }
 refine pure_ (i := 4) (N := some 34) (v := ?_) (a' := ?_) #[true,true,true,true,true,false,false,false,false,true,false,false] rfl rfl s2_ (fun _ _ _ h => h) (Or.inl ⟨by rfl, ?_⟩) ?_ ?_
 rotate_left
 { intro w'; go_simp; with_reducible rfl }
 rotate_left
 · exact p1_
 refine one_ (i := 5) (N := some 35) #[true,true,true,true,true,true,false,false,false,true,false,false] rfl rfl s2_ (by decide) (fun K hK => ?_)
 refine goes_ Try.func61 s2_ rfl #[.agg #[.int .i64 lim, .slice D ys.length d], .string tok, .int .i64 (wrap64 (1 + m))] (by rfl) rfl rfl s3_ ?_
 refine (addN k lim tok _ r P 2 rfl hv hf HR0.out).mono ?_
 clear P
 rintro e_ w1 ⟨rfl, P⟩
 (try simp only [List.nil_append, List.cons_append, List.set_cons_zero, List.set_cons_succ] at P)
 refine ⟨_, rfl, ?_⟩
 refine hK.out _ _ (P.held2 3 rfl) (fun hHeld => ?_)
 clear hK K
 refine norm_ (a' := ?_) ?_ ?_; rotate_left; { show Act.put _ (some 35) _ = _; simp only [Act.put, List.setIfInBounds_toArray, List.set_cons_zero, List.set_cons_succ, i64_w, i32_w]; rfl }
 refine pure_ (i := 6) (N := some 29) (v := ?_) (a' := ?_) #[true,true,true,true,true,true,true,false,false,true,false,false] rfl rfl s2_ (fun _ _ _ h => h) (Or.inl ⟨by rfl, ?_⟩) ?_ ?_
 rotate_left
 { intro w'; go_simp; with_reducible rfl }
 rotate_left
 · exact p1_
 refine pure_ (i := 7) (N := some 36) (v := ?_) (a' := ?_) #[true,true,true,true,true,true,true,true,false,true,false,false] rfl rfl s2_ (fun _ _ _ h => h) (Or.inl ⟨by rfl, ?_⟩) ?_ ?_
 rotate_left
 { intro w'; go_simp; with_reducible rfl }
 rotate_left
 · exact p1_
 refine pure_ (i := 8) (N := some 37) (v := ?_) (a' := ?_) #[true,true,true,true,true,true,true,true,true,true,false,false] rfl rfl s2_ (fun _ _ _ h => h) (Or.inl ⟨by rfl, ?_⟩) ?_ ?_
 rotate_left
 { intro w'; go_simp; with_reducible rfl }
 rotate_left
 · exact p1_
 exact norm_ (by simp only [putAll, Act.put, List.setIfInBounds_toArray, List.set_cons_zero, List.set_cons_succ]) (hCont g7 _ (P.pick [0, 1, 2, 3, 4] _ (by decide) rfl))
 }
 }
 clear P hHeld
 rintro g7 w1 P
 refine norm_ (a' := ?_) ?_ ?_; rotate_left; { simp only [putAll, Act.put, List.setIfInBounds_toArray, List.set_cons_zero, List.set_cons_succ]; rfl }
 refine one_ (i := 10) (N := none) #[true,true,true,true,true,true,true,true,true,true,true,false] rfl rfl s2_ (by decide) (fun K hK => ?_)
 obtain ⟨ce0, ce1, fe0, fe1⟩ := P.c2 4 rfl
 have P2 := P.set2 (x := .int .i64 0) (y := .slice none 0 0) 4 rfl (P.base 4 rfl)
 refine skip_ (w1 := ?_) (by rfl) rfl ?_ ?_; rotate_left; { go_simp; rfl }
 clear P; revert P2; generalize World.setCell _ _ _ = w1; intro P
 (try simp only [List.nil_append, List.cons_append, List.set_cons_zero, List.set_cons_succ] at P)
 refine hK.out _ _ (P.held2 3 rfl) (fun hHeld => ?_)
 clear hK K
 refine pure_ (i := 11) (N := some 8) (v := ?_) (a' := ?_) #[true,true,true,true,true,true,true,true,true,true,true,true] rfl rfl s2_ (fun _ _ _ h => h) (Or.inl ⟨by rfl, ?_⟩) ?_ ?_
 rotate_left
 { intro w'; go_simp; with_reducible rfl }
 rotate_left
 · exact p1_
 refine done_ s2_ ?_
 clear hHeld ce0 ce1 fe0 fe1
 obtain ⟨ce0, ce1, fe0, fe1⟩ := P.c2 4 rfl
 obtain ⟨ce0b, ce1b, fe0b, fe1b⟩ := P.c2 3 rfl
 try go_wp2_with (fail)
 go_roundg k1
 case measure => omega
 case rel => exact ⟨a4, b4, ys, D, d, by first | exact congrArg _ HW.out.1 | (simp [HW.out.1, HW.out.2]; done), ⟨by have := HK.out; omega⟩, HD, P.pick [0, 1, 2, 3] _ (by decide) rfl⟩
 }
 {
 have HA := Aside0.mk (And.intro hi0 (And.intro hlen (And.intro hlt (And.intro hgt hys)))); clear hi0 hlen hlt hgt hys
 replace P := P.drew
 refine start_ (n := 12) (S := fun w' => C2 w' g4 (.int .i64 lim) (.slice D ys.length d)) (ds := []) #[false,false,false,false,false,false,false,false,false,false,false,false] s2_ rfl rfl (P.held2 3 rfl) (fun hHeld => ?_)
 generalize World.drew _ = w1 at P hHeld ⊢
 refine take_ (i := 0) (N := some 30) (v := ?_) (a' := ?_) #[true,false,false,false,false,false,false,false,false,false,false,false] rfl rfl s2_ (fun _ _ _ h => h) (Or.inl ⟨by rfl, ?_⟩) hHeld ?_ ?_
 rotate_left
 { rintro w' ⟨s0, s1⟩; go_simp; with_reducible rfl }
 rotate_left
 · exact p1_
 refine pure_ (i := 1) (N := some 31) (v := ?_) (a' := ?_) #[true,true,false,false,false,false,false,false,false,false,false,false] rfl rfl s2_ (fun _ _ _ h => h) (Or.inl ⟨by rfl, ?_⟩) ?_ ?_
 rotate_left
 { intro w'; go_simp; with_reducible rfl }
 rotate_left
 · exact p1_
 refine pure_ (i := 2) (N := some 32) (v := ?_) (a' := ?_) #[true,true,true,false,false,false,false,false,false,false,false,false] rfl rfl s2_ (fun _ _ _ h => h) (Or.inl ⟨by rfl, ?_⟩) ?_ ?_
 rotate_left
 { intro w'; go_simp; with_reducible rfl }
 rotate_left
 · exact p1_
 refine join_ (σ := Option Addr × Nat × Nat) 2 #[true,true,true,true,true,true,true,true,true,true,false,false] (fun s_ => [(33, .int .i64 m), (34, .int .i64 (wrap64 (1 + m))), (35, .tuple #[.agg #[.int .i64 lim, .slice s_.1 zs.length s_.2.1], .bool true]), (29, .tuple #[.agg #[.int .i64 lim, .slice s_.1 zs.length s_.2.1], .bool true]), (36, .agg #[.int .i64 lim, .slice s_.1 zs.length s_.2.1]), (37, .bool true), (7, .pointer (some ⟨s_.2.2, 0, none⟩))]) (fun s_ w' => Pool w w' [rbox g2 #[.int .i64 0, .slice none 0 0] 54, rsrc w gs l a4 b4, rS w.heap.size D ys.length d ys, rbox g4 #[.int .i64 lim, .slice D ys.length d] 54, rS w.heap.size s_.1 zs.length s_.2.1 zs, rbox s_.2.2 #[.int .i64 0, .slice none 0 0] 54]) ?_ ?_
 rotate_left
 {
 intro hCont
 refine two_ (i := 3) (j := 9) (Ni := some 33) (Nj := some 7) #[true,true,true,true,false,false,false,false,false,false,false,false] #[true,true,true,false,false,false,false,false,false,true,false,false] rfl rfl rfl rfl s2_ (by decide) (by decide) (fun K hK => ?_) (fun K hK => ?_)
 {
 refine goes_ Try.func59 s2_ rfl #[.pointer (some ⟨gs, 0, none⟩), .int .i64 4] (by rfl) rfl rfl s3_ ?_
 refine (pickR 4 m a4 b4 P 1 rfl hm).mono ?_
 clear P
 rintro e_ w1 ⟨rfl, P⟩
 (try simp only [List.nil_append, List.cons_append, List.set_cons_zero, List.set_cons_succ] at P)
 refine ⟨_, rfl, ?_⟩
 refine hK.out _ _ (P.held2 3 rfl) (fun hHeld => ?_)
 clear hK K
 refine norm_ (a' := ?_) ?_ ?_; rotate_left; { show Act.put _ (some 33) _ = _; simp only [Act.put, List.setIfInBounds_toArray, List.set_cons_zero, List.set_cons_succ, i64_w, i32_w]; rfl }
 refine pure_ (i := 4) (N := some 34) (v := ?_) (a' := ?_) #[true,true,true,true,true,false,false,false,false,false,false,false] rfl rfl s2_ (fun _ _ _ h => h) (Or.inl ⟨by rfl, ?_⟩) ?_ ?_
 rotate_left
 { intro w'; go_simp; with_reducible rfl }
 rotate_left
 · exact p1_
 refine two_ (i := 5) (j := 9) (Ni := some 35) (Nj := some 7) #[true,true,true,true,true,true,false,false,false,false,false,false] #[true,true,true,true,true,false,false,false,false,true,false,false] rfl rfl rfl rfl s2_ (by decide) (by decide) (fun K hK => ?_) (fun K hK => ?_)
 {
 refine goes_ Try.func61 s2_ rfl #[.agg #[.int .i64 lim, .slice D ys.length d], .string tok, .int .i64 (wrap64 (1 + m))] (by rfl) rfl rfl s3_ ?_
 refine (addR k lim tok _ i0 P 2 rfl hv hf HA.out.1 HA.out.2.1 hcp HA.out.2.2.1 HA.out.2.2.2.1 HA.out.2.2.2.2 hg).mono ?_
 clear P
 rintro e_ w1 ⟨D3, d3, rfl, P⟩
 (try simp only [List.nil_append, List.cons_append, List.set_cons_zero, List.set_cons_succ] at P)
 refine ⟨_, rfl, ?_⟩
 refine hK.out _ _ (P.held2 3 rfl) (fun hHeld => ?_)
 clear hK K
 refine norm_ (a' := ?_) ?_ ?_; rotate_left; { show Act.put _ (some 35) _ = _; simp only [Act.put, List.setIfInBounds_toArray, List.set_cons_zero, List.set_cons_succ, i64_w, i32_w]; rfl }
 refine pure_ (i := 6) (N := some 29) (v := ?_) (a' := ?_) #[true,true,true,true,true,true,true,false,false,false,false,false] rfl rfl s2_ (fun _ _ _ h => h) (Or.inl ⟨by rfl, ?_⟩) ?_ ?_
 rotate_left
 { intro w'; go_simp; with_reducible rfl }
 rotate_left
 · exact p1_
 refine pure_ (i := 7) (N := some 36) (v := ?_) (a' := ?_) #[true,true,true,true,true,true,true,true,false,false,false,false] rfl rfl s2_ (fun _ _ _ h => h) (Or.inl ⟨by rfl, ?_⟩) ?_ ?_
 rotate_left
 { intro w'; go_simp; with_reducible rfl }
 rotate_left
 · exact p1_
 refine pure_ (i := 8) (N := some 37) (v := ?_) (a' := ?_) #[true,true,true,true,true,true,true,true,true,false,false,false] rfl rfl s2_ (fun _ _ _ h => h) (Or.inl ⟨by rfl, ?_⟩) ?_ ?_
 rotate_left
 { intro w'; go_simp; with_reducible rfl }
 rotate_left
 · exact p1_
 refine one_ (i := 9) (N := some 7) #[true,true,true,true,true,true,true,true,true,true,false,false] rfl rfl s2_ (by decide) (fun K hK => ?_)
 refine box_step ?hg (N := 7) ?hd (cs := #[.int .i64 0, .slice none 0 0]) (t := 54) ?hr ?_; (case hd => rfl); (case hg => rfl); (case hr => first | (go_simp; done) | (go_simp; rfl))
 intro g7 hg w1 hbox hb
 replace P := P.box hg hbox hb
 clear hb hbox hg
 (try simp only [List.nil_append, List.cons_append, List.set_cons_zero, List.set_cons_succ] at P)
 refine hK.out _ _ (P.held2 3 rfl) (fun hHeld => ?_)
 clear hK K
 refine norm_ (a' := ?_) ?_ ?_; rotate_left; { show Act.put _ (some 7) _ = _; simp only [Act.put, List.setIfInBounds_toArray, List.set_cons_zero, List.set_cons_succ, i64_w, i32_w]; rfl }
 exact norm_ (by simp only [putAll, Act.put, List.setIfInBounds_toArray, List.set_cons_zero, List.set_cons_succ]) (hCont (D3, d3, g7) _ (P.pick [0, 1, 2, 3, 4, 5] _ (by decide) rfl))
 }
 {
 refine box_step ?hg (N := 7) ?hd (cs := #[.int .i64 0, .slice none 0 0]) (t := 54) ?hr ?_; (case hd => rfl); (case hg => rfl); (case hr => first | (go_simp; done) | (go_simp; rfl))
 intro g7 hg w1 hbox hb
 replace P := P.box hg hbox hb
 clear hb hbox hg
 (try simp only [List.nil_append, List.cons_append, List.set_cons_zero, List.set_cons_succ] at P)
 refine hK.out _ _ (P.held2 3 rfl) (fun hHeld => ?_)
 clear hK K
 refine norm_ (a' := ?_) ?_ ?_; rotate_left; { show Act.put _ (some 7) _ = _; simp only [Act.put, List.setIfInBounds_toArray, List.set_cons_zero, List.set_cons_succ, i64_w, i32_w]; rfl }
 refine one_ (i := 5) (N := some 35) #[true,true,true,true,true,true,false,false,false,true,false,false] rfl rfl s2_ (by decide) (fun K hK => ?_)
 refine goes_ Try.func61 s2_ rfl #[.agg #[.int .i64 lim, .slice D ys.length d], .string tok, .int .i64 (wrap64 (1 + m))] (by rfl) rfl rfl s3_ ?_
 refine (addR k lim tok _ i0 P 2 rfl hv hf HA.out.1 HA.out.2.1 hcp HA.out.2.2.1 HA.out.2.2.2.1 HA.out.2.2.2.2 hg).mono ?_
 clear P
 rintro e_ w1 ⟨D3, d3, rfl, P⟩
 (try simp only [List.nil_append, List.cons_append, List.set_cons_zero, List.set_cons_succ] at P)
 refine ⟨_, rfl, ?_⟩
 refine hK.out _ _ (P.held2 3 rfl) (fun hHeld => ?_)
 clear hK K
 refine norm_ (a' := ?_) ?_ ?_; rotate_left; { show Act.put _ (some 35) _ = _; simp only [Act.put, List.setIfInBounds_toArray, List.set_cons_zero, List.set_cons_succ, i64_w, i32_w]; rfl }
 refine pure_ (i := 6) (N := some 29) (v := ?_) (a' := ?_) #[true,true,true,true,true,true,true,false,false,true,false,false] rfl rfl s2_ (fun _ _ _ h => h) (Or.inl ⟨by rfl, ?_⟩) ?_ ?_
 rotate_left
 { intro w'; go_simp; with_reducible rfl }
 rotate_left
 · exact p1_
 refine pure_ (i := 7) (N := some 36) (v := ?_) (a' := ?_) #[true,true,true,true,true,true,true,true,false,true,false,false] rfl rfl s2_ (fun _ _ _ h => h) (Or.inl ⟨by rfl, ?_⟩) ?_ ?_
 rotate_left
 { intro w'; go_simp; with_reducible rfl }
 rotate_left
 · exact p1_
 refine pure_ (i := 8) (N := some 37) (v := ?_) (a' := ?_) #[true,true,true,true,true,true,true,true,true,true,false,false] rfl rfl s2_ (fun _ _ _ h => h) (Or.inl ⟨by rfl, ?_⟩) ?_ ?_
 rotate_left
 { intro w'; go_simp; with_reducible rfl }
 rotate_left
 · exact p1_
 exact norm_ (by simp only [putAll, Act.put, List.setIfInBounds_toArray, List.set_cons_zero, List.set_cons_succ]) (hCont (D3, d3, g7) _ (P.pick [0, 1, 2, 3, 5, 4] _ (by decide) rfl))
 }
 }
 {
 refine box_step ?hg (N := 7) ?hd (cs := #[.int .i64 0, .slice none 0 0]) (t := 54) ?hr ?_; (case hd => rfl); (case hg => rfl); (case hr => first | (go_simp; done) | (go_simp; rfl))
 intro g7 hg w1 hbox hb
 replace P := P.box hg hbox hb
 clear hb hbox hg
 (try simp only [List.nil_append, List.cons_append, List.set_cons_zero, List.set_cons_succ] at P)
 refine hK.out _ _ (P.held2 3 rfl) (fun hHeld => ?_)
 clear hK K
 refine norm_ (a' := ?_) ?_ ?_; rotate_left; { show Act.put _ (some 7) _ = _; simp only [Act.put, List.setIfInBounds_toArray, List.set_cons_zero, List.set_cons_succ, i64_w, i32_w]; rfl }
 refine one_ (i := 3) (N := some 33) #[true,true,true,true,false,false,false,false,false,true,false,false] rfl rfl s2_ (by decide) (fun K hK => ?_)
 refine goes_ Try.func59 s2_ rfl #[.pointer (some ⟨gs, 0, none⟩), .int .i64 4] (by rfl) rfl rfl s3_ ?_
 refine (pickR 4 m a4 b4 P 1 rfl hm).mono ?_
 clear P
 rintro e_ w1 ⟨rfl, P⟩
 (try simp only [List.nil_append, List.cons_append, List.set_cons_zero, List.set_cons_succ] at P)
 refine ⟨_, rfl, ?_⟩
 refine hK.out _ _ (P.held2 3 rfl) (fun hHeld => ?_)
 clear hK K
 refine norm_ (a' := ?_) ?_ ?_; rotate_left; { show Act.put _ (some 33) _ = _; simp only [Act.put, List.setIfInBounds_toArray, List.set_cons_zero, List.set_cons_succ, i64_w, i32_w]; rfl }
 refine pure_ (i := 4) (N := some 34) (v := ?_) (a' := ?_) #[true,true,true,true,true,false,false,false,false,true,false,false] rfl rfl s2_ (fun _ _ _ h => h) (Or.inl ⟨by rfl, ?_⟩) ?_ ?_
 rotate_left
 { intro w'; go_simp; with_reducible rfl }
 rotate_left
 · exact p1_
 refine one_ (i := 5) (N := some 35) #[true,true,true,true,true,true,false,false,false,true,false,false] rfl rfl s2_ (by decide) (fun K hK => ?_)
 refine goes_ Try.func61 s2_ rfl #[.agg #[.int .i64 lim, .slice D ys.length d], .string tok, .int .i64 (wrap64 (1 + m))] (by rfl) rfl rfl s3_ ?_
 refine (addR k lim tok _ i0 P 2 rfl hv hf HA.out.1 HA.out.2.1 hcp HA.out.2.2.1 HA.out.2.2.2.1 HA.out.2.2.2.2 hg).mono ?_
 clear P
 rintro e_ w1 ⟨D3, d3, rfl, P⟩
 (try simp only [List.nil_append, List.cons_append, List.set_cons_zero, List.set_cons_succ] at P)
 refine ⟨_, rfl, ?_⟩
 refine hK.out _ _ (P.held2 3 rfl) (fun hHeld => ?_)
 clear hK K
 refine norm_ (a' := ?_) ?_ ?_; rotate_left; { show Act.put _ (some 35) _ = _; simp only [Act.put, List.setIfInBounds_toArray, List.set_cons_zero, List.set_cons_succ, i64_w, i32_w]; rfl }
 refine pure_ (i := 6) (N := some 29) (v := ?_) (a' := ?_) #[true,true,true,true,true,true,true,false,false,true,false,false] rfl rfl s2_ (fun _ _ _ h => h) (Or.inl ⟨by rfl, ?_⟩) ?_ ?_
 rotate_left
 { intro w'; go_simp; with_reducible rfl }
 rotate_left
 · exact p1_
 refine pure_ (i := 7) (N := some 36) (v := ?_) (a' := ?_) #[true,true,true,true,true,true,true,true,false,true,false,false] rfl rfl s2_ (fun _ _ _ h => h) (Or.inl ⟨by rfl, ?_⟩) ?_ ?_
 rotate_left
 { intro w'; go_simp; with_reducible rfl }
 rotate_left
 · exact p1_
 refine pure_ (i := 8) (N := some 37) (v := ?_) (a' := ?_) #[true,true,true,true,true,true,true,true,true,true,false,false] rfl rfl s2_ (fun _ _ _ h => h) (Or.inl ⟨by rfl, ?_⟩) ?_ ?_
 rotate_left
 { intro w'; go_simp; with_reducible rfl }
 rotate_left
 · exact p1_
 exact norm_ (by simp only [putAll, Act.put, List.setIfInBounds_toArray, List.set_cons_zero, List.set_cons_succ]) (hCont (D3, d3, g7) _ (P.pick [0, 1, 2, 3, 5, 4] _ (by decide) rfl))
 }
 }
 clear P hHeld
 rintro ⟨D3, d3, g7⟩ w1 P
 refine norm_ (a' := ?_) ?_ ?_; rotate_left; { simp only [putAll, Act.put, List.setIfInBounds_toArray, List.set_cons_zero, List.set_cons_succ]; rfl }
 refine one_ (i := 10) (N := none) #[true,true,true,true,true,true,true,true,true,true,true,false] rfl rfl s2_ (by decide) (fun K hK => ?_)
 obtain ⟨ce0, ce1, fe0, fe1⟩ := P.c2 5 rfl
 have P2 := P.set2 (x := .int .i64 lim) (y := .slice D3 zs.length d3) 5 rfl (P.base 5 rfl)
 refine skip_ (w1 := ?_) (by rfl) rfl ?_ ?_; rotate_left; { go_simp; rfl }
 clear P; revert P2; generalize World.setCell _ _ _ = w1; intro P
 (try simp only [List.nil_append, List.cons_append, List.set_cons_zero, List.set_cons_succ] at P)
 refine hK.out _ _ (P.held2 3 rfl) (fun hHeld => ?_)
 clear hK K
 refine pure_ (i := 11) (N := some 8) (v := ?_) (a' := ?_) #[true,true,true,true,true,true,true,true,true,true,true,true] rfl rfl s2_ (fun _ _ _ h => h) (Or.inl ⟨by rfl, ?_⟩) ?_ ?_
 rotate_left
 { intro w'; go_simp; with_reducible rfl }
 rotate_left
 · exact p1_
 refine done_ s2_ ?_
 clear hHeld ce0 ce1 fe0 fe1
 obtain ⟨ce0, ce1, fe0, fe1⟩ := P.c2 5 rfl
 obtain ⟨ce0b, ce1b, fe0b, fe1b⟩ := P.c2 3 rfl
 try go_wp2_with (first | ((with_reducible refine gate_store (p := 4) rfl ?_); refine st2 P 3 rfl rfl rfl rfl (by go_simp; rfl) ?_; clear P; intro w1 P; (try simp only [List.nil_append, List.cons_append, List.set_cons_zero, List.set_cons_succ] at P)))
 go_roundg k1
 case measure => omega
 case rel => exact ⟨a4, b4, zs, D3, d3, by first | exact congrArg _ HW.out.1 | (simp [HW.out.1, HW.out.2]; done), ⟨by have := HK.out; omega⟩, HD, P.pick [0, 1, 4, 3] _ (by decide) rfl⟩
 }
 }
 | zero =>
 {
 obtain ⟨rfl, rfl, rfl⟩ := HV.out
 clear HV
 have q1 : decide (((0 : Nat) : Int) > 0) = false := by decide
 replace P : Pool w _ ([rbox g2 #[.int .i64 0, .slice none 0 0] 54, rsrc w gs l a b, rbox g4 #[.int .i64 lim, .slice D ys.length d] 54] ++ [rS w.heap.size D ys.length d ys]) := P.pick [0, 1, 3, 2] _ (by decide) rfl
 obtain ⟨G, rfl⟩ := rS_some P 3 rfl HX.out.1
 obtain ⟨ps0, hps0, P2⟩ := Pool.split P
 clear P; have P := P2; clear P2; (try simp only [List.nil_append, List.cons_append, List.set_cons_zero, List.set_cons_succ] at P)
 have HP0 := Aside0.mk hps0; have HL0 := Aside0.mk (show ps0.length = ys.length by rw [hps0, List.length_map]); clear hps0
 try go_wp2_with (fail)
 go_loopg [9] ys.length (fun kq v9 w' => ∃ (i : Nat) (a b : Int) (ps : List (SB × List S97)) (rest : List S58), v9 = .int .i64 (i : Int) ∧ Aside0 (i + kq = ys.length) ∧ Aside0 (ps.length = ys.length) ∧ Aside0 (Draw2 l (wrap64 (lim + 1)) ((ps.map entS).drop i) a b rest) ∧ Aside0 (res = (ps.map entS).take i ++ rest) ∧ Pool w w' (rbox g2 #[.int .i64 0, .slice none 0 0] 54 :: rsrc w gs l a b :: rbox g4 #[.int .i64 lim, .slice (some ⟨G, 0, none⟩) ys.length d] 54 :: rrow kB 58 w.heap.size (.slice (some ⟨G, 0, none⟩) ys.length d) (ps.map Prod.fst) :: ps.map (nrow w.heap.size)))
 case atStart => exact ⟨0, a, b, ps0, res, rfl, ⟨by omega⟩, HL0, ⟨by rw [← HP0.out]; exact HD2.out⟩, ⟨by simp⟩, P⟩
 case round =>
 clear P HD2
 obtain ⟨i, a, b, ps, rest, rfl, HI, HL, HV, HE, P⟩ := hrel
 cases gk with
 | succ k1 =>
 {
 have hi : i < ps.length := by have := HI.out; have := HL.out; omega
 obtain ⟨p, hp⟩ : ∃ p, ps[i]? = some p := ⟨_, List.getElem?_eq_getElem hi⟩
 obtain ⟨cn, a1, b1, a2, b2, hs, ms, a3, b3, rest2, hcn, hp1, hH, hp2, hrest, hD⟩ := draw2_at HV.out hp
 have HH := Aside0.mk hH; have HD := Aside0.mk (And.intro hrest hD); have HP := Aside0.mk hp; have HII := Aside0.mk hi; have HC := Aside0.mk hcn; clear hH hrest hD hp HV hi hcn
 have q1 : decide ((i : Int) < (ys.length : Int)) = true := decide_eq_true (by have := HI.out; omega)
 have q1b : ((i : Int) < (ys.length : Int)) = True := eq_true (by have := HI.out; omega)
 have q1c : decide (i < ys.length) = true := decide_eq_true (by have := HI.out; omega)
 have hwi : wrap64 ((i : Int) + 1) = ((i + 1 : Nat) : Int) := by have := HI.out; have := HX.out.2; unfold wrap64; omega
 have HWI := Aside0.mk hwi; clear hwi
 obtain ⟨ce0, ce1, fe0, fe1⟩ := P.c2 2 rfl
 try go_wp2_with (first | ((with_reducible refine gate_dst (N := 51) rfl ?_); (with_reducible refine gate_callee (f := 59) rfl ?_); refine goesL_ (some 51) rfl rfl Try.func59 s2_ rfl #[.pointer (some ⟨gs, 0, none⟩), .int .i64 (wrap64 (lim + 1))] rfl s3_ ?_; refine (pickR (wrap64 (lim + 1)) (cn : Int) a1 b1 P 1 rfl hp1).mono ?_; clear P; rintro e w1 ⟨rfl, P⟩; refine ⟨_, rfl, ?_⟩; (try simp only [List.nil_append, List.cons_append, List.set_cons_zero, List.set_cons_succ] at P); obtain ⟨ce0, ce1, fe0, fe1⟩ := P.c2 2 rfl))
 clear hp1
 go_loopg [10] cn (fun kq v10 w' => ∃ (a b : Int) (qs : List (SB × List S97)) (x : SB × List S97), v10 = .int .i64 (kq : Int) ∧ Aside0 (kq ≤ cn) ∧ Aside0 (Hold l kq a b x.2 a2 b2 hs) ∧ Aside0 (qs = ps.set i x ∧ x.1.f0 = p.1.f0 ∧ x.1.f1 = p.1.f1) ∧ Pool w w' (rbox g2 #[.int .i64 0, .slice none 0 0] 54 :: rsrc w gs l a b :: rbox g4 #[.int .i64 lim, .slice (some ⟨G, 0, none⟩) ys.length d] 54 :: rrow kB 58 w.heap.size (.slice (some ⟨G, 0, none⟩) ys.length d) (qs.map Prod.fst) :: qs.map (nrow w.heap.size)))
 case atStart => exact ⟨a1, b1, ps, p, rfl, ⟨Nat.le_refl _⟩, HH, ⟨(set_same HP.out).symm, rfl, rfl⟩, P⟩
 case round =>
 clear P HH
 obtain ⟨a, b, qs, x, rfl, HK, HH, HS, P⟩ := hrel
 have HQI := Aside0.mk (show qs[i]? = some x by rw [HS.out.1, List.getElem?_set_self HII.out])
 cases gk with
 | succ k2 =>
 {
 obtain ⟨hh, r, a3_, b3_, m, a4, b4, hr1, hm, hH2⟩ := HH.out
 have HHL := Aside0.mk hh; have HH2 := Aside0.mk hH2; clear hh hH2 HH
 have z1 : decide (((k2 + 1 : Nat) : Int) > 0) = true := decide_eq_true (by omega)
 have z1b : decide ((k2 : Int) + 1 > 0) = true := decide_eq_true (by omega)
 have z1c : decide (0 < (k2 : Int) + 1) = true := decide_eq_true (by omega)
 have hw : wrap64 (((k2 + 1 : Nat) : Int) - 1) = (k2 : Int) ∧ wrap64 (k2 : Int) = (k2 : Int) := by have := HK.out; have := HC.out; unfold wrap64; omega
 have HW := Aside0.mk hw; clear hw
 try go_wp2_with (first | ((with_reducible refine gate_dst (N := 57) rfl ?_); (with_reducible refine gate_callee (f := 59) rfl ?_); refine goesL_ (some 57) rfl rfl Try.func59 s2_ rfl #[.pointer (some ⟨gs, 0, none⟩), .int .i64 4] rfl s3_ ?_; refine (pickR 4 r a3_ b3_ P 1 rfl hr1).mono ?_; clear P; rintro e w1 ⟨rfl, P⟩; refine ⟨_, rfl, ?_⟩; (try simp only [List.nil_append, List.cons_append, List.set_cons_zero, List.set_cons_succ] at P)) | ((with_reducible refine gate_dst (N := 11) rfl ?_); refine bx_ 11 #[.int .i64 0, .int .i64 0] 97 ?_; intro g11 hg w1 hbox hb; replace P := Pool.rot (P.box hg hbox hb); clear hb hbox hg; (try simp only [List.nil_append, List.cons_append, List.set_cons_zero, List.set_cons_succ] at P); obtain ⟨ce0, ce1, fe0, fe1⟩ := P.c2 0 rfl) | ((with_reducible refine gate_store (p := 11) rfl ?_); refine st2 P 0 rfl rfl rfl rfl (by go_simp; rfl) ?_; clear P; intro w1 P; (try simp only [List.nil_append, List.cons_append, List.set_cons_zero, List.set_cons_succ] at P)) | ((with_reducible refine gate_dst (N := 61) rfl ?_); (with_reducible refine gate_callee (f := 59) rfl ?_); refine goesL_ (some 61) rfl rfl Try.func59 s2_ rfl #[.pointer (some ⟨gs, 0, none⟩), .int .i64 50] rfl s3_ ?_; refine (pickR 50 m a4 b4 P 2 rfl hm).mono ?_; clear P; rintro e w1 ⟨rfl, P⟩; refine ⟨_, rfl, ?_⟩; (try simp only [List.nil_append, List.cons_append, List.set_cons_zero, List.set_cons_succ] at P); obtain ⟨ce0, ce1, fe0, fe1⟩ := P.c2 0 rfl) | ((with_reducible refine gate_store (p := 63) rfl ?_); refine stc P 0 1 (x := .int .i64 (wrap64 (1 + m))) (cs' := #[.int .i64 (wrap64 (1 + r)), .int .i64 (wrap64 (1 + m))]) rfl rfl rfl rfl rfl (by first | (go_simp; done) | (go_simp; rfl)) ?_; clear P; intro w1 P; (try simp only [List.nil_append, List.cons_append, List.set_cons_zero, List.set_cons_succ] at P); ))
 replace P := P.drew
 refine start_ (n := 15) (S := fun w' => C2 w' g4 (.int .i64 lim) (.slice (some ⟨G, 0, none⟩) ys.length d) ∧ C2 w' g11 (.int .i64 (wrap64 (1 + r))) (.int .i64 (wrap64 (1 + m))) ∧ w'.cell? ⟨G, i * 4 + 3, none⟩ = some (.slice x.1.A x.1.n x.1.c)) (ds := [14]) #[false,false,false,false,false,false,false,false,false,false,false,false,false,false,false] s2_ rfl rfl ⟨P.held2 3 rfl, P.held2 0 rfl, (cellsB P 4 rfl (mapAt HQI.out)).2.2.2⟩ (fun hHeld => ?_)
 generalize World.drew _ = w1 at P hHeld ⊢
 refine pure_ (i := 0) (N := some 64) (v := ?_) (a' := ?_) #[true,false,false,false,false,false,false,false,false,false,false,false,false,false,false] rfl rfl s2_ (fun _ _ _ h => h) (Or.inl ⟨by rfl, ?_⟩) ?_ ?_
 rotate_left
 { intro w'; go_simp; with_reducible rfl }
 rotate_left
 · exact p1_
 refine take_ (i := 1) (N := some 65) (v := ?_) (a' := ?_) #[true,true,false,false,false,false,false,false,false,false,false,false,false,false,false] rfl rfl s2_ (fun _ _ _ h => h) (Or.inl ⟨by rfl, ?_⟩) hHeld ?_ ?_
 rotate_left
 { rintro w' ⟨⟨s0, s1⟩, ⟨s2, s3⟩, s4⟩; go_simp; with_reducible rfl }
 rotate_left
 · exact p1_
 refine pure_ (i := 2) (N := some 66) (v := ?_) (a' := ?_) #[true,true,true,false,false,false,false,false,false,false,false,false,false,false,false] rfl rfl s2_ (fun _ _ _ h => h) (Or.inl ⟨by rfl, ?_⟩) ?_ ?_
 rotate_left
 { intro w'; go_simp; with_reducible rfl }
 rotate_left
 · exact p1_
 refine pure_ (i := 3) (N := some 67) (v := ?_) (a' := ?_) #[true,true,true,true,false,false,false,false,false,false,false,false,false,false,false] rfl rfl s2_ (fun _ _ _ h => h) (Or.inl ⟨by rfl, ?_⟩) ?_ ?_
 rotate_left
 { intro w'; go_simp; with_reducible rfl }
 rotate_left
 · exact p1_
 refine take_ (i := 4) (N := some 68) (v := ?_) (a' := ?_) #[true,true,true,true,true,false,false,false,false,false,false,false,false,false,false] rfl rfl s2_ (fun _ _ _ h => h) (Or.inl ⟨by rfl, ?_⟩) hHeld ?_ ?_
 rotate_left
 { rintro w' ⟨⟨s0, s1⟩, ⟨s2, s3⟩, s4⟩; go_simp; with_reducible rfl }
 rotate_left
 · exact p1_
 refine pure_ (i := 5) (N := some 69) (v := ?_) (a' := ?_) #[true,true,true,true,true,true,false,false,false,false,false,false,false,false,false] rfl rfl s2_ (fun _ _ _ h => h) (Or.inl ⟨by rfl, ?_⟩) ?_ ?_
 rotate_left
 { intro w'; go_simp; with_reducible rfl }
 rotate_left
 · exact p1_
 refine pure_ (i := 6) (N := some 70) (v := ?_) (a' := ?_) #[true,true,true,true,true,true,true,false,false,false,false,false,false,false,false] rfl rfl s2_ (fun _ _ _ h => h) (Or.inl ⟨by rfl, ?_⟩) ?_ ?_
 rotate_left
 { intro w'; go_simp; with_reducible rfl }
 rotate_left
 · exact p1_
 refine pure_ (i := 7) (N := some 71) (v := ?_) (a' := ?_) #[true,true,true,true,true,true,true,true,false,false,false,false,false,false,false] rfl rfl s2_ (fun _ _ _ h => h) (Or.inl ⟨by rfl, ?_⟩) ?_ ?_
 rotate_left
 { intro w'; go_simp; with_reducible rfl }
 rotate_left
 · exact p1_
 refine take_ (i := 8) (N := some 72) (v := ?_) (a' := ?_) #[true,true,true,true,true,true,true,true,true,false,false,false,false,false,false] rfl rfl s2_ (fun _ _ _ h => h) (Or.inl ⟨by rfl, ?_⟩) hHeld ?_ ?_
 rotate_left
 { rintro w' ⟨⟨s0, s1⟩, ⟨s2, s3⟩, s4⟩; go_simp; with_reducible rfl }
 rotate_left
 · exact p1_
 refine take_ (i := 9) (N := some 73) (v := ?_) (a' := ?_) #[true,true,true,true,true,true,true,true,true,true,false,false,false,false,false] rfl rfl s2_ (fun _ _ _ h => h) (Or.inl ⟨by rfl, ?_⟩) hHeld ?_ ?_
 rotate_left
 { rintro w' ⟨⟨s0, s1⟩, ⟨s2, s3⟩, s4⟩; go_simp; with_reducible rfl }
 rotate_left
 · exact p1_
 refine one_ (i := 10) (N := some 74) #[true,true,true,true,true,true,true,true,true,true,true,false,false,false,false] rfl rfl s2_ (by decide) (fun K hK => ?_)
 refine value_ (v := .slice (some ⟨w1.heap.size, 0, none⟩) 1 1) (w1 := w1.alloc (.cells #[.int .i64 (wrap64 (1 + r)), .int .i64 (wrap64 (1 + m))] 97)) s2_ rfl (by first | (go_simp; done) | (go_simp; rfl)) ?_
 have P2 := P.below (below_alloc (Below.refl w1.heap.size w1) (.cells #[.int .i64 (wrap64 (1 + r)), .int .i64 (wrap64 (1 + m))] 97))
 refine hK.out _ _ ⟨P2.held2 3 rfl, P2.held2 0 rfl, (cellsB P2 4 rfl (mapAt HQI.out)).2.2.2⟩ (fun hHeld => ?_)
 clear hK K P2
 refine norm_ (a' := ?_) ?_ ?_; rotate_left; { show Act.put _ (some 74) _ = _; simp only [Act.put, List.setIfInBounds_toArray, List.set_cons_zero, List.set_cons_succ, i64_w, i32_w]; rfl }
 refine one_ (i := 11) (N := some 75) #[true,true,true,true,true,true,true,true,true,true,true,true,false,false,false] rfl rfl s2_ (by decide) (fun K hK => ?_)
 refine pushP_step P (i + 5) (show (qs.map (nrow w.heap.size))[i]? = some (rrow k97 97 w.heap.size (.slice x.1.A x.1.n x.1.c) x.2) by rw [List.getElem?_map, HQI.out]; rfl) ⟨wrap64 (1 + r), wrap64 (1 + m)⟩ (by rfl) (.tmp 72) (.tmp 74) rfl rfl rfl HHL.out ?_
 clear hHeld; intro A3 c3 w2 h3 hh3 P2
 replace P : Pool w w2 (rbox g11 #[.int .i64 (wrap64 (1 + r)), .int .i64 (wrap64 (1 + m))] 97 :: rbox g2 #[.int .i64 0, .slice none 0 0] 54 :: rsrc w gs l a4 b4 :: rbox g4 #[.int .i64 lim, .slice (some ⟨G, 0, none⟩) ys.length d] 54 :: rrow kB 58 w.heap.size (.slice (some ⟨G, 0, none⟩) ys.length d) (qs.map Prod.fst) :: (qs.map (nrow w.heap.size)).set i (rrow k97 97 w.heap.size (.slice A3 h3.length c3) h3)) := P2
 clear P2; have HH3 := Aside0.mk hh3; clear hh3
 refine hK.out _ _ ⟨P.held2 3 rfl, P.held2 0 rfl, (cellsB P 4 rfl (mapAt HQI.out)).2.2.2⟩ (fun hHeld => ?_)
 clear hK K
 refine norm_ (a' := ?_) ?_ ?_; rotate_left; { show Act.put _ (some 75) _ = _; simp only [Act.put, List.setIfInBounds_toArray, List.set_cons_zero, List.set_cons_succ, i64_w, i32_w]; rfl }
 refine pure_ (i := 12) (N := some 76) (v := ?_) (a' := ?_) #[true,true,true,true,true,true,true,true,true,true,true,true,true,false,false] rfl rfl s2_ (fun _ _ _ h => h) (Or.inl ⟨by rfl, ?_⟩) ?_ ?_
 rotate_left
 { intro w'; go_simp; with_reducible rfl }
 rotate_left
 · exact p1_
 refine pure_ (i := 13) (N := some 77) (v := ?_) (a' := ?_) #[true,true,true,true,true,true,true,true,true,true,true,true,true,true,false] rfl rfl s2_ (fun _ _ _ h => h) (Or.inl ⟨by rfl, ?_⟩) ?_ ?_
 rotate_left
 { intro w'; go_simp; with_reducible rfl }
 rotate_left
 · exact p1_
 refine last_ (i := 14) (N := none) #[true,true,true,true,true,true,true,true,true,true,true,true,true,true,true] rfl rfl s2_ (by decide) (fun K hK => ?_)
 have f3_ := (Pool.bcell P 4 rfl i x.1 (mapAt HQI.out)).2.2.2.2.2
 have P2 := Pool.bset P 4 rfl i x.1 (mapAt HQI.out) A3 h3.length c3
 refine skip_ (w1 := ?_) (by rfl) rfl ?_ ?_; rotate_left; { go_simp; rfl }
 refine hK.out _ _ ?_
 clear hK K P
 revert P2; generalize World.setCell _ _ _ = w1; intro P
 (try simp only [List.nil_append, List.cons_append, List.set_cons_zero, List.set_cons_succ] at P)
 clear hHeld f3_
 refine done_ s2_ ?_
 replace P := Pool.drop1 (A := []) P
 try go_wp2_with (fail)
 go_roundg k2
 case measure => omega
 case rel =>
 refine ⟨a4, b4, qs.set i (⟨x.1.f0, x.1.f1, x.1.f2, A3, h3.length, c3⟩, h3), (⟨x.1.f0, x.1.f1, x.1.f2, A3, h3.length, c3⟩, h3), by first | exact congrArg _ HW.out.1 | (simp [HW.out.1, HW.out.2]; done), ⟨by have := HK.out; omega⟩, ⟨by rw [HH3.out]; exact HH2.out⟩, ⟨by rw [HS.out.1, List.set_set], HS.out.2.1, HS.out.2.2⟩, ?_⟩
 rw [List.map_set, List.map_set]; exact P
 }
 | zero =>
 {
 obtain ⟨rfl, rfl, e3⟩ := HH.out
 have HX2 := Aside0.mk e3; clear e3 HH
 have z1 : decide (((0 : Nat) : Int) > 0) = false := by decide
 try go_wp2_with (fail)
 replace P := P.drew
 refine start_ (n := 8) (S := fun w' => C2 w' g4 (.int .i64 lim) (.slice (some ⟨G, 0, none⟩) ys.length d)) (ds := [7]) #[false,false,false,false,false,false,false,false] s2_ rfl rfl (P.held2 2 rfl) (fun hHeld => ?_)
 generalize World.drew _ = w1 at P hHeld ⊢
 refine pure_ (i := 0) (N := some 78) (v := ?_) (a' := ?_) #[true,false,false,false,false,false,false,false] rfl rfl s2_ (fun _ _ _ h => h) (Or.inl ⟨by rfl, ?_⟩) ?_ ?_
 rotate_left
 { intro w'; go_simp; with_reducible rfl }
 rotate_left
 · exact p1_
 refine take_ (i := 1) (N := some 79) (v := ?_) (a' := ?_) #[true,true,false,false,false,false,false,false] rfl rfl s2_ (fun _ _ _ h => h) (Or.inl ⟨by rfl, ?_⟩) hHeld ?_ ?_
 rotate_left
 { rintro w' ⟨s0, s1⟩; go_simp; with_reducible rfl }
 rotate_left
 · exact p1_
 refine pure_ (i := 2) (N := some 80) (v := ?_) (a' := ?_) #[true,true,true,false,false,false,false,false] rfl rfl s2_ (fun _ _ _ h => h) (Or.inl ⟨by rfl, ?_⟩) ?_ ?_
 rotate_left
 { intro w'; go_simp; with_reducible rfl }
 rotate_left
 · exact p1_
 refine pure_ (i := 3) (N := some 81) (v := ?_) (a' := ?_) #[true,true,true,true,false,false,false,false] rfl rfl s2_ (fun _ _ _ h => h) (Or.inl ⟨by rfl, ?_⟩) ?_ ?_
 rotate_left
 { intro w'; go_simp; with_reducible rfl }
 rotate_left
 · exact p1_
 refine one_ (i := 4) (N := some 82) #[true,true,true,true,true,false,false,false] rfl rfl s2_ (by decide) (fun K hK => ?_)
 refine goes_ Try.func59 s2_ rfl #[.pointer (some ⟨gs, 0, none⟩), .int .i64 3] (by rfl) rfl rfl s3_ ?_
 refine (pickR 3 ms a3 b3 P 1 rfl hp2).mono ?_
 clear P
 rintro e_ w1 ⟨rfl, P⟩
 (try simp only [List.nil_append, List.cons_append, List.set_cons_zero, List.set_cons_succ] at P)
 refine ⟨_, rfl, ?_⟩
 refine hK.out _ _ (P.held2 2 rfl) (fun hHeld => ?_)
 clear hK K
 refine norm_ (a' := ?_) ?_ ?_; rotate_left; { show Act.put _ (some 82) _ = _; simp only [Act.put, List.setIfInBounds_toArray, List.set_cons_zero, List.set_cons_succ, i64_w, i32_w]; rfl }
 refine pure_ (i := 5) (N := some 83) (v := ?_) (a' := ?_) #[true,true,true,true,true,true,false,false] rfl rfl s2_ (fun _ _ _ h => h) (Or.inl ⟨by rfl, ?_⟩) ?_ ?_
 rotate_left
 { intro w'; go_simp; with_reducible rfl }
 rotate_left
 · exact p1_
 refine pure_ (i := 6) (N := some 84) (v := ?_) (a' := ?_) #[true,true,true,true,true,true,true,false] rfl rfl s2_ (fun _ _ _ h => h) (Or.inl ⟨by rfl, ?_⟩) ?_ ?_
 rotate_left
 { intro w'; go_simp; with_reducible rfl }
 rotate_left
 · exact p1_
 refine last_ (i := 7) (N := none) #[true,true,true,true,true,true,true,true] rfl rfl s2_ (by decide) (fun K hK => ?_)
 obtain ⟨-, -, c2_, -, f2_, -⟩ := Pool.bcell P 3 rfl i x.1 (mapAt HQI.out)
 have P2 := Pool.bset2 P 3 rfl i x.1 (mapAt HQI.out) ms
 refine skip_ (w1 := ?_) (by rfl) rfl ?_ ?_; rotate_left; { go_simp; rfl }
 refine hK.out _ _ ?_
 clear hK K P
 revert P2; generalize World.setCell _ _ _ = w1; intro P
 (try simp only [List.nil_append, List.cons_append, List.set_cons_zero, List.set_cons_succ] at P)
 clear hHeld f2_ c2_
 refine done_ s2_ ?_
 try go_wp2_with (fail)
 go_roundg k1
 case measure => omega
 case rel =>
 refine ⟨i + 1, a3, b3, qs.set i (⟨x.1.f0, x.1.f1, ms, x.1.A, x.1.n, x.1.c⟩, x.2), rest2, congrArg _ HWI.out, ⟨by have := HI.out; omega⟩, ⟨by rw [List.length_set, HS.out.1, List.length_set]; exact HL.out⟩, ⟨?_⟩, ⟨?_⟩, ?_⟩
 · rw [HS.out.1, List.set_set]; exact draw2_drop HD.out.2
 · rw [HE.out, HD.out.1, HS.out.1, List.set_set]; exact draw2_take HII.out HS.out.2.1 HS.out.2.2 HX2.out
 · rw [List.map_set, List.map_set, nrow_same (mapNrow HQI.out)]; exact P
 }
 }
 | zero =>
 {
 have q1 : decide ((i : Int) < (ys.length : Int)) = false := decide_eq_false (by have := HI.out; omega)
 have q1c : decide (i < ys.length) = false := decide_eq_false (by have := HI.out; omega)
 have hres : res = ps.map entS := draw2_end HV.out HE.out (by have := HI.out; have := HL.out; omega)
 have HR := Aside0.mk hres; clear hres
 obtain ⟨ce0, ce1, fe0, fe1⟩ := P.c2 2 rfl
 obtain ⟨ce0b, ce1b, fe0b, fe1b⟩ := P.c2 0 rfl
 try go_wp2_with (first | ((with_reducible refine gate_store (p := 2) rfl ?_); refine st2 P 0 rfl rfl rfl rfl (by go_simp; rfl) ?_; clear P; intro w1 P; (try simp only [List.nil_append, List.cons_append, List.set_cons_zero, List.set_cons_succ] at P)))
 refine bodyPost_ret (results_single (r := .cell 2 54) rfl (.cell g2 54 #[.int .i64 lim, .slice (some ⟨G, 0, none⟩) ys.length d] (0, 0) _ rfl (P.cell 0 rfl) Try.underlying54 rfl s2_ .nil)) rfl ?_
 have P2 := Pool.join (L := [rbox g2 #[.int .i64 lim, .slice (some ⟨G, 0, none⟩) ys.length d] 54, rsrc w gs l a b, rbox g4 #[.int .i64 lim, .slice (some ⟨G, 0, none⟩) ys.length d] 54]) P
 rw [← HR.out] at P2
 obtain ⟨hn, hd, hC⟩ := rS_at P2 3 rfl
 have P3 := P2.pick [3] [rS w.heap.size (some ⟨G, 0, none⟩) ys.length d res] (by decide) rfl
 rw [hn] at P3 ⊢
 exact ⟨_, _, rfl, P3⟩
 }
 }

end Go.Proofs.Ytdanachjdfiegaa.QFnTaken
