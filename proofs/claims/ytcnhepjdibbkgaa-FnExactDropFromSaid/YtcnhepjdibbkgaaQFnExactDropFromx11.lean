-- by hand, over one pool
import Derived.Test.YtcnhepjdibbkgaaQFnExactDropFromx10
namespace Go.Proofs.Ytcnhepjdibbkgaa.QFnExactDropFrom
open Go.RowKit Go.Proofs.YtcnhepjdibbkgaaW.PrintWords Go.Proofs.YtcnhepjdibbkgaaW.PrintLast Go.Proofs.YtcnhepjdibbkgaaW.PrintMore
attribute [local go_sem] max2_int min2_int max_two min_two max_three min_three max_four min_four   -- for this text's walks alone
set_option linter.unusedVariables false
set_option linter.unusedSimpArgs false
set_option maxHeartbeats 40000000 in
set_option maxRecDepth 100000 in
theorem impl_DropFrom.calls (k : Nat) (A : Option Addr) (c : Nat) (xs : List S63) (q : Int) (r : List S63) (b : Bool) (w : World) (hr : Kd.C k63 w A xs.length xs) (hc : xs.length ≤ c) (H : impl_DropFrom.f k xs q = some (r, b)) :
    Calls Try.prog 41 #[.agg #[.slice A xs.length c], .int .i64 q] w fun e w' => ∃ v0_ : Value, e = .returned (.tuple #[.agg #[v0_], .bool b]) ∧ Kd.S k63 63 w' w.heap.size (fun _ => True) v0_ r ∧ Below w.heap.size w w' := by
 have hu29 := Try.underlying29
 have hu63 := Try.underlying63
 have P := Pool.nil w
 unfold impl_DropFrom.f at H
 obtain ⟨v, hv, H⟩ := Option.bind_eq_some_iff.mp H
 cases v with
 | false =>
   obtain ⟨rfl, rfl⟩ : [] = r ∧ false = b := by simpa using H
   go_enter Try.func41, Try.ntmps41
   try go_wp2_with (first | ((with_reducible refine gate_dst (N := 2) rfl ?_); (try (refine gate_guard (by rfl) ?_; dsimp only)); refine bx_ 2 #[.slice A xs.length c] 29 ?_; intro g2 hg w1 hbox hb; replace P := P.box hg hbox hb; clear hb hbox hg) | ((with_reducible refine gate_dst (N := 3) rfl ?_); (try (refine gate_guard (by rfl) ?_; dsimp only)); refine bx_ 3 #[.int .i64 q] 2 ?_; intro g3 hg w1 hbox hb; replace P := P.box hg hbox hb; clear hb hbox hg) | ((with_reducible refine gate_dst (N := 4) rfl ?_); (try (refine gate_guard (by rfl) ?_; dsimp only)); refine bx_ 4 #[.slice none 0 0] 29 ?_; intro g4 hg w1 hbox hb; replace P := P.box hg hbox hb; clear hb hbox hg; obtain ⟨ce, fe⟩ := P.c1 0 rfl) | ((with_reducible refine gate_callee (f := 17) rfl ?_); refine goesL_ (some 10) rfl rfl Try.func17 s2_ rfl #[.agg #[.slice A xs.length c]] rfl s3_ ?_; refine (validIx k false P hr hc hv).mono ?_; clear P; rintro e w1 ⟨rfl, P⟩; refine ⟨_, rfl, ?_⟩; obtain ⟨ce, fe⟩ := P.c1 2 rfl) | ((with_reducible refine gate_store (p := 4) rfl ?_); refine st1 P 2 rfl rfl rfl rfl (by go_simp; rfl) ?_; clear P; intro w1 P))
   refine bodyPost_ret (results_ct rfl _ _ g4 29 #[.slice none 0 0] (0, 0) _ rfl (P.cell 2 rfl) Try.underlying29 rfl s2_) rfl ?_
   exact ⟨_, rfl, Kd.S_nil _ _ _ _ _, P.1⟩
 | true =>
 rw [if_pos rfl] at H
 obtain ⟨u, hu, H⟩ := Option.bind_eq_some_iff.mp H
 cases u with
 | false =>
   obtain ⟨rfl, rfl⟩ : [] = r ∧ false = b := by simpa using H
   go_enter Try.func41, Try.ntmps41
   try go_wp2_with (first | ((with_reducible refine gate_dst (N := 2) rfl ?_); (try (refine gate_guard (by rfl) ?_; dsimp only)); refine bx_ 2 #[.slice A xs.length c] 29 ?_; intro g2 hg w1 hbox hb; replace P := P.box hg hbox hb; clear hb hbox hg) | ((with_reducible refine gate_dst (N := 3) rfl ?_); (try (refine gate_guard (by rfl) ?_; dsimp only)); refine bx_ 3 #[.int .i64 q] 2 ?_; intro g3 hg w1 hbox hb; replace P := P.box hg hbox hb; clear hb hbox hg) | ((with_reducible refine gate_dst (N := 4) rfl ?_); (try (refine gate_guard (by rfl) ?_; dsimp only)); refine bx_ 4 #[.slice none 0 0] 29 ?_; intro g4 hg w1 hbox hb; replace P := P.box hg hbox hb; clear hb hbox hg; obtain ⟨ce, fe⟩ := P.c1 0 rfl) | ((with_reducible refine gate_callee (f := 17) rfl ?_); refine goesL_ (some 10) rfl rfl Try.func17 s2_ rfl #[.agg #[.slice A xs.length c]] rfl s3_ ?_; refine (validIx k true P hr hc hv).mono ?_; clear P; rintro e w1 ⟨rfl, P⟩; refine ⟨_, rfl, ?_⟩; obtain ⟨ce, fe⟩ := P.c1 1 rfl) | (go_at_call 53; refine (isNum q false P hu).mono ?_; clear P; rintro e w1 ⟨rfl, P⟩; obtain ⟨ce, fe⟩ := P.c1 2 rfl) | ((with_reducible refine gate_store (p := 4) rfl ?_); refine st1 P 2 rfl rfl rfl rfl (by go_simp; rfl) ?_; clear P; intro w1 P))
   refine bodyPost_ret (results_ct rfl _ _ g4 29 #[.slice none 0 0] (0, 0) _ rfl (P.cell 2 rfl) Try.underlying29 rfl s2_) rfl ?_
   exact ⟨_, rfl, Kd.S_nil _ _ _ _ _, P.1⟩
 | true =>
 rw [if_pos rfl] at H
 obtain ⟨ys, hy, H⟩ := Option.bind_eq_some_iff.mp H
 obtain ⟨rfl, rfl⟩ : (ys.map (dropN q)).filter hasN = r ∧ true = b := by simpa using H
 clear H
 go_enter Try.func41, Try.ntmps41
 try go_wp2_with (first | ((with_reducible refine gate_dst (N := 2) rfl ?_); (try (refine gate_guard (by rfl) ?_; dsimp only)); refine bx_ 2 #[.slice A xs.length c] 29 ?_; intro g2 hg w1 hbox hb; replace P := P.box hg hbox hb; clear hb hbox hg) | ((with_reducible refine gate_dst (N := 3) rfl ?_); (try (refine gate_guard (by rfl) ?_; dsimp only)); refine bx_ 3 #[.int .i64 q] 2 ?_; intro g3 hg w1 hbox hb; replace P := P.box hg hbox hb; clear hb hbox hg) | ((with_reducible refine gate_dst (N := 4) rfl ?_); (try (refine gate_guard (by rfl) ?_; dsimp only)); refine bx_ 4 #[.slice none 0 0] 29 ?_; intro g4 hg w1 hbox hb; replace P := P.box hg hbox hb; clear hb hbox hg; obtain ⟨ce, fe⟩ := P.c1 0 rfl) | ((with_reducible refine gate_callee (f := 17) rfl ?_); refine goesL_ (some 10) rfl rfl Try.func17 s2_ rfl #[.agg #[.slice A xs.length c]] rfl s3_ ?_; refine (validIx k true P hr hc hv).mono ?_; clear P; rintro e w1 ⟨rfl, P⟩; refine ⟨_, rfl, ?_⟩; obtain ⟨ce, fe⟩ := P.c1 1 rfl) | (go_at_call 53; refine (isNum q true P hu).mono ?_; clear P; rintro e w1 ⟨rfl, P⟩; obtain ⟨ce, fe⟩ := P.c1 0 rfl) | ((with_reducible refine gate_callee (f := 81) rfl ?_); refine goesL_ (some 19) rfl rfl Try.func81 s2_ rfl #[.agg #[.slice A xs.length c]] rfl s3_ ?_; refine (cloneIx k ys P hr hc hy).mono ?_; clear P; rintro e w1 ⟨D, d, ps0, hps, rfl, P⟩; refine ⟨_, rfl, ?_⟩; have HPS := A_ hps; clear hps) | ((with_reducible refine gate_dst (N := 6) rfl ?_); refine bx_ 6 #[.slice none 0 0] 29 ?_; intro g6 hg w1 hbox hb; replace P := Pool.rot (P.box hg hbox hb); clear hb hbox hg; obtain ⟨ce, fe⟩ := P.c1 0 rfl) | ((with_reducible refine gate_store (p := 6) rfl ?_); refine st1 P 0 rfl rfl rfl rfl (by go_simp; rfl) ?_; clear P; intro w1 P; obtain ⟨ce, fe⟩ := P.c1 0 rfl))
 have hn : ps0.length = ys.length := by rw [HPS.out, List.length_map]
 have HN := A_ hn
 clear hn
 go_loopg [23] ys.length (fun kq v w' => ∃ (i : Nat) (ps : List (SF × List Int)), v = .int .i64 (i : Int) ∧ Aside0 (i + kq = ys.length) ∧ Aside0 (ps.map ent = (ys.take i).map (dropN q) ++ ys.drop i) ∧ Pool w w' (rbox g6 #[.slice D ps0.length d] 29 :: rbox g2 #[.slice A xs.length c] 29 :: rbox g3 #[.int .i64 q] 2 :: rbox g4 #[.slice none 0 0] 29 :: rrow kF 63 w.heap.size (.slice D ps0.length d) (ps.map Prod.fst) :: ps.map (nrow w.heap.size)))
 case atStart => exact ⟨0, ps0, rfl, ⟨by omega⟩, ⟨by rw [← HPS.out]; rfl⟩, P⟩
 case round =>
 clear P
 obtain ⟨i, ps, rfl, HI, HE, P⟩ := hrel
 have hl : ps.length = ys.length := by have e_ := congrArg List.length HE.out; simp at e_; have := HI.out; omega
 have hmax : ps.length ≤ maxLen := by have := Pool.rowLen P 4 rfl; simpa using this
 obtain ⟨ce, fe⟩ := P.c1 0 rfl
 cases gk with
 | succ k1 =>
   have hi : i < ps.length := by have := HI.out; omega
   have hin : i < ps0.length := by have := HN.out; omega
   obtain ⟨G, cap, eg, -, -, -⟩ := Kd.R_form (P.rown 4 rfl) (by simp; omega)
   injection eg with e1 e2 e3
   subst e1 e3
   obtain ⟨x0, x1, x2⟩ := Pool.ecell P 4 rfl i (by simpa using hi)
   simp only [List.getElem_map] at x0 x1 x2
   obtain ⟨p, hp⟩ : ∃ p, p = ps[i] := ⟨_, rfl⟩
   rw [← hp] at x0 x1
   have HP := A_ (show ps[i]? = some p by rw [hp]; exact List.getElem?_eq_getElem hi)
   clear hp
   have q1 : decide ((i : Int) < (ps0.length : Int)) = true := decide_eq_true (by omega)
   have q2 : ((i : Int) < (ps0.length : Int)) = True := eq_true (by omega)
   have HL := A_ hl
   have HMX := A_ hmax
   have HII := A_ hi
   clear hl hmax hi hin e2
   obtain ⟨p', hp'⟩ : ∃ p' : SF × List Int, p' = (⟨p.1.f0, p.1.A, (p.2.filter (fun n => !eqQ q n)).length, p.1.c⟩, p.2.filter (fun n => !eqQ q n)) := ⟨_, rfl⟩
   have HP' := A_ hp'
   clear hp'
   go_wp2_with (first | (go_at_call 82; refine (delP q P (i + 5) 2 (show (ps.map (nrow w.heap.size))[i]? = _ by rw [List.getElem?_map, HP.out]; rfl) rfl (by omega)).mono ?_; rintro e w1 ⟨rfl, P2⟩; replace P : Pool w w1 (rbox g6 #[.slice (some ⟨G, 0, none⟩) ps0.length d] 29 :: rbox g2 #[.slice A xs.length c] 29 :: rbox g3 #[.int .i64 q] 2 :: rbox g4 #[.slice none 0 0] 29 :: rrow kF 63 w.heap.size (.slice (some ⟨G, 0, none⟩) ps0.length d) (ps.map Prod.fst) :: (ps.map (nrow w.heap.size)).set i (nrow w.heap.size p')) := (by rw [HP'.out]; exact P2); clear P2; clear x0 x1 x2; obtain ⟨x0, x1, x2⟩ := Pool.ecell P 4 rfl i (by simpa using HII.out)) | ((with_reducible refine gate_store (p := 38) rfl ?_); refine store_event (p := 38) (w1 := World.setCell _ ⟨G, i * 2 + 1, none⟩ (.slice p.1.A (p.2.filter (fun n => !eqQ q n)).length p.1.c)) rfl rfl rfl (by first | (go_simp; done) | (go_simp; rfl)) ?_; intro w2 hw; have P3 := Pool.eset P 4 rfl i (by simpa using HII.out) p'.1 (by rw [HP'.out, List.getElem_map]; exact congrArg (fun z => z.1.f0) (Option.some.inj (HP.out.symm.trans (List.getElem?_eq_getElem HII.out)))); have hw2 : w2 = World.setCell _ ⟨G, i * 2 + 1, none⟩ (.slice p'.1.A p'.1.n p'.1.c) := (by rw [hw, HP'.out]); rw [← hw2] at P3; clear P hw hw2; have P := P3; clear P3))
   go_roundg k1
   case measure => omega
   case rel =>
   have hys : i < ys.length := by have := HL.out; have := HII.out; omega
   have h_ : wrap64 ((i : Int) + 1) = ((i + 1 : Nat) : Int) := by have := HMX.out; unfold maxLen at this; have := HII.out; unfold wrap64; omega
   have hpe : ent p = ys[i] := by
     have e1 : (ps.map ent)[i]? = some (ent p) := by rw [List.getElem?_map, HP.out]; rfl
     rw [HE.out, List.getElem?_append_right (by simp; omega)] at e1
     simp only [List.length_map, List.length_take, Nat.min_eq_left (Nat.le_of_lt hys), Nat.sub_self, List.getElem?_drop, Nat.add_zero] at e1
     rw [List.getElem?_eq_getElem hys] at e1
     exact (Option.some.inj e1).symm
   refine ⟨i + 1, ps.set i p', by first | exact congrArg _ h_ | (simp [h_]; done), ⟨by have := HI.out; omega⟩, ⟨?_⟩, by rw [List.map_set, List.map_set]; exact P⟩
   rw [List.map_set, HE.out, List.drop_eq_getElem_cons hys, List.take_succ_eq_append_getElem hys, List.map_append, List.append_assoc, List.set_append_right _ _ (by simp; omega)]
   simp only [List.length_map, List.length_take, Nat.min_eq_left (Nat.le_of_lt hys), Nat.sub_self, List.set_cons_zero, List.map_cons, List.map_nil, List.cons_append, List.nil_append]
   rw [← hpe, HP'.out]
   rfl
 | zero =>
   have q1 : decide (i < ps0.length) = false := decide_eq_false (by have := HI.out; have := HN.out; omega)
   have HL := A_ hl
   clear hl hmax
   try go_wp2_with (first | (go_at_call 84; refine (delEP P 4 rfl).mono ?_; clear P; rintro e w1 ⟨rfl, P⟩; obtain ⟨ce, fe⟩ := P.c1 0 rfl) | ((with_reducible refine gate_store (p := 43) rfl ?_); refine st1 P 0 rfl rfl rfl rfl (by go_simp; rfl) ?_; clear P; intro w1 P; obtain ⟨ce, fe⟩ := P.c1 0 rfl; obtain ⟨ceb, feb⟩ := P.c1 3 rfl) | ((with_reducible refine gate_store (p := 4) rfl ?_); refine st1 P 3 rfl rfl rfl rfl (by go_simp; rfl) ?_; clear P; intro w1 P))
   refine bodyPost_ret (results_ct rfl _ _ g4 29 #[.slice D ((ps.map Prod.fst).filter (fun n => !noN n)).length d] (0, 0) _ rfl (P.cell 3 rfl) Try.underlying29 rfl s2_) rfl ?_
   have hlen : ∀ p ∈ ps, p.1.n = p.2.length := by
     intro p hp
     obtain ⟨j, hj, rfl⟩ := List.mem_iff_getElem.mp hp
     exact (Pool.reads P (j + 5) (show (ps.map (nrow w.heap.size))[j]? = some (rrow (Kd.int .i64) 2 w.heap.size (.slice ps[j].1.A ps[j].1.n ps[j].1.c) ps[j].2) by rw [List.getElem?_map, List.getElem?_eq_getElem hj]; rfl)).1
   have hent : ps.map ent = ys.map (dropN q) := by
     have := HI.out
     rw [HE.out, List.drop_eq_nil_of_le (by omega), List.append_nil, List.take_of_length_le (by omega)]
   have hres : (ys.map (dropN q)).filter hasN = (ps.filter (fun p => !noN p.1)).map ent := by
     rw [← hent, List.filter_map]
     congr 1
     refine List.filter_congr (fun p hp => ?_)
     show (!((p.2.length : Int) == 0)) = !((p.1.n : Int) == 0)
     rw [hlen p hp]
   have hfst : (ps.map Prod.fst).filter (fun n => !noN n) = (ps.filter (fun p => !noN p.1)).map Prod.fst := List.filter_map
   rw [hfst] at P
   have Q := Pool.index (Pool.sublist P (.cons _ (.cons _ (.cons _ (.cons _ (.cons_cons _ (List.filter_sublist.map _)))))))
   refine ⟨_, rfl, ?_, P.1⟩
   rw [hres, hfst]
   exact Q

end Go.Proofs.Ytcnhepjdibbkgaa.QFnExactDropFrom
