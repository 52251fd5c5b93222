-- by hand, over one pool
import Derived.Test.YtgfilednbllkmaaQFnJoinedPresencex15
import Derived.Test.YtgfilednbllkmaaQFnJoinedPresencex18
namespace Go.Proofs.Ytgfilednbllkmaa.QFnJoinedPresence
open Go.RowKit Go.Proofs.YtgfilednbllkmaaW.PrintWords Go.Proofs.YtgfilednbllkmaaW.PrintLast Go.Proofs.YtgfilednbllkmaaW.PrintMore
attribute [local go_sem] max2_int min2_int max_two min_two max_three min_three max_four min_four   -- for this text's walks alone
set_option linter.unusedVariables false
set_option linter.unusedSimpArgs false
abbrev impl_SweepPresence.T : Bool := true
abbrev impl_SweepPresence.F : Bool := false
abbrev impl_SweepPresence.m0_ : Array Bool := #[F,F,F,F,F,F,F,F,F,F]
abbrev impl_SweepPresence.m1_ : Array Bool := #[T,F,F,F,F,F,F,F,F,F]
abbrev impl_SweepPresence.m2_ : Array Bool := #[T,T,F,F,F,F,F,F,F,F]
abbrev impl_SweepPresence.m3_ : Array Bool := #[T,T,T,F,F,F,F,F,F,F]
abbrev impl_SweepPresence.m4_ : Array Bool := #[T,T,T,T,F,F,F,F,F,F]
abbrev impl_SweepPresence.m5_ : Array Bool := #[T,T,T,T,T,F,F,F,F,F]
abbrev impl_SweepPresence.m6_ : Array Bool := #[T,T,T,T,T,T,F,F,F,F]
abbrev impl_SweepPresence.m7_ : Array Bool := #[T,T,T,T,T,T,T,F,F,F]
abbrev impl_SweepPresence.m8_ : Array Bool := #[T,T,T,T,T,T,T,T,F,F]
abbrev impl_SweepPresence.m9_ : Array Bool := #[T,T,T,T,T,T,T,T,T,F]
abbrev impl_SweepPresence.m10_ : Array Bool := #[T,T,T,T,T,T,T,T,T,T]
/-- What SweepPresence answers. -/
def impl_SweepPresence.f (k : Nat) (a b : List S63) (c : List S73) (now : Int) : Option (List S63 × List S63 × List S73 × Bool) :=
  (impl_ValidPresence.f k a b c).bind fun v => if v = true then ((impl_clonePresence.f a b c).bind fun q => ((impl_dropLeases_v0.f k q.1 now).bind fun h => ((impl_dropLeases_v4.f k q.2.1 now h q.2.1 q.2.2).bind fun t => ((impl_isTick.f now).bind fun i => if i = true then ((impl_ValidPresence.f k h t q.2.2).bind fun g => if g = true then some (h, t, q.2.2, true) else some ([], [], [], false)) else some ([], [], [], false))))) else some ([], [], [], false)
section
variable {w0 w w1 : World} {L : List Res} {A0 A1 A2 : Option Addr} {n0 n1 n2 c0 c1 c2 g1 g2 q2 : Nat} {a b : List S63} {c : List S73} {V2 : Value}
theorem dropW (k : Nat) (r : List S63) (now : Int) (P : Pool w0 w L) (i j : Nat) (hi : L[i]? = some (rrow k63 63 w0.heap.size (.slice A0 n0 c0) a)) (hj : L[j]? = some (rbox g1 #[.int .i64 now] 2)) (h : impl_dropLeases_v0.f k a now = some r) :
    Calls Try.prog 53 #[.slice A0 n0 c0, .func (.func 73) #[] #[.pointer (some ⟨g1, 0, none⟩)]] w fun e w' => ∃ D e0, e = .returned (.slice D r.length e0) ∧ Pool w0 w' (L.set i (rrow k63 63 w0.heap.size (.slice D r.length e0) r)) := by
  refine (impl_dropLeases_v0.calls k _ _ a g1 now r w0 w P.1 (P.cell j hj) (P.rown i hi) h).mono ?_
  rintro e w' ⟨v, rfl, g, hb, hk⟩
  obtain ⟨D, e0, rfl⟩ := Kd.R_slice g
  exact ⟨D, e0, rfl, P.row i hi rfl hb hk g⟩
theorem dropW2 (k : Nat) (r : List S63) (now : Int) (l1 : List S63) (l2 : List S73) (P : Pool w0 w L) (i j m p h : Nat) (hi : L[i]? = some (rrow k63 63 w0.heap.size (.slice A1 n1 c1) b)) (hj : L[j]? = some (rbox g1 #[.int .i64 now] 2)) (hm : L[m]? = some (rrow k63 63 w0.heap.size (.slice A0 n0 c0) a)) (hp : L[p]? = some (rbox g2 #[.slice A0 n0 c0, .slice A1 n1 c1, V2] 27)) (hq : L[h]? = some (rbox q2 #[.pointer (some ⟨g2, 0, none⟩)] 60)) (him : i ≠ m) (hf : impl_dropLeases_v4.f k b now a l1 l2 = some r) :
    Calls Try.prog 53 #[.slice A1 n1 c1, .func (.func 74) #[] #[.pointer (some ⟨g1, 0, none⟩), .pointer (some ⟨q2, 0, none⟩)]] w fun e w' => ∃ D e0, e = .returned (.slice D r.length e0) ∧ Pool w0 w' (L.set i (rrow k63 63 w0.heap.size (.slice D r.length e0) r)) := by
  have ha := P.rown m hm
  obtain ⟨rfl, hc0, _⟩ := P.reads m hm
  have hap : ∀ k_, some k_ = (Value.slice A0 a.length c0).ownBlock → ¬ some k_ = (Value.slice A1 n1 c1).ownBlock := by
    obtain ⟨_, f, hcc⟩ := P
    intro k_ e1 e2
    exact him (((hcc i _ hi).1 k_ e2.symm).1.1.symm.trans ((hcc m _ hm).1 k_ e1.symm).1.1)
  refine (impl_dropLeases_v4.calls k _ _ b g1 g2 q2 now _ _ a _ l1 _ l2 r w0 w P.1 (P.cell j hj) (P.cell p hp) (P.cell h hq) (P.rown i hi) (fun W' hk => by have h2 := Kd.R_reads' (Kd.R_kept ha hk hap); rw [h2.1]; exact h2.2.2) hc0 hf).mono ?_
  rintro e w' ⟨v, rfl, g, hb, hk⟩
  obtain ⟨D, e0, rfl⟩ := Kd.R_slice g
  exact ⟨D, e0, rfl, P.row i hi rfl hb hk g⟩
theorem stf {Pr : Program} {ops : Array Oper} {rest : List Oper} {o : Oper} {ac : Act} {Q : Exit → Act → World → Prop} {g p : Nat} {cs cs' : Array Value} {x : Value} {t t' : TypeId} {v : Operand} (h : Pool w0 w L) (i j : Nat) (hi : L[i]? = some (rbox g cs t)) (he : cs.setIfInBounds j x = cs') (hgd : o.guard = none) (ho : o.op = .store t' (.tmp p) v) (hN : o.dst = none)
    (hrun : (execOp ac.eval o).run Pr w = .ok .skip (w.setCell ⟨g, j, none⟩ x)) (hk : ∀ w', Pool w0 w' (L.set i (rbox g cs' t)) → wpList Pr ops Q rest ac w') : wpList Pr ops Q (o :: rest) ac w :=
  store_event hgd ho hN hrun (fun w' e => e ▸ hk _ (h.set1 i j hi he))
theorem tickW (q : Int) (r : Bool) (P : Pool w0 w L) (h : impl_isTick.f q = some r) : Calls Try.prog 45 #[.int .i64 q] w fun e w' => e = .returned (.bool r) ∧ Pool w0 w' L := by
  refine (impl_isTick.calls q r w h).mono ?_
  rintro e w' ⟨rfl, hb⟩
  exact ⟨rfl, P.below hb.below⟩
end
set_option maxHeartbeats 40000000 in
set_option maxRecDepth 100000 in
theorem impl_SweepPresence.pool (k : Nat) (A0_0 : Option Addr) (c0_0 : Nat) (l0_0 : List (S63)) (A0_1 : Option Addr) (c0_1 : Nat) (l0_1 : List (S63)) (A0_2 : Option Addr) (c0_2 : Nat) (l0_2 : List (S73)) (now : Int) (r1 r2 : List S63) (r3 : List S73) (r4 : Bool) (w : World) (hr0_0 : Kd.C k63 w A0_0 l0_0.length l0_0) (hc0_0 : l0_0.length ≤ c0_0) (hr0_1 : Kd.C k63 w A0_1 l0_1.length l0_1) (hc0_1 : l0_1.length ≤ c0_1) (hr0_2 : Kd.C k73 w A0_2 l0_2.length l0_2) (hc0_2 : l0_2.length ≤ c0_2) (H : impl_SweepPresence.f k l0_0 l0_1 l0_2 now = some (r1, r2, r3, r4)) :
    Calls Try.prog 31 #[.agg #[.slice A0_0 l0_0.length c0_0, .slice A0_1 l0_1.length c0_1, .slice A0_2 l0_2.length c0_2], .int .i64 now] w fun e w' => ∃ D0 e0 D1 e1 D2 e2, e = .returned (.tuple #[.agg #[.slice D0 r1.length e0, .slice D1 r2.length e1, .slice D2 r3.length e2], .bool r4]) ∧ Pool w w' [rp w.heap.size D0 r1.length e0 r1 D1 r2.length e1 r2 D2 r3.length e2 r3] := by
 have hu27 := Try.underlying27
 have hu63 := Try.underlying63
 have hu73 := Try.underlying73
 have P := Pool.nil w
 unfold impl_SweepPresence.f at H
 obtain ⟨v, hv, H⟩ := Option.bind_eq_some_iff.mp H
 cases v with
 | false =>
   obtain ⟨rfl, rfl, rfl, rfl⟩ : [] = r1 ∧ [] = r2 ∧ [] = r3 ∧ false = r4 := by simpa using H
   go_enter Try.func31, Try.ntmps31
   try go_wp2_with (first | ((with_reducible refine gate_dst (N := 2) rfl ?_); (try (refine gate_guard (by rfl) ?_; dsimp only)); refine bx_ 2 #[.slice A0_0 l0_0.length c0_0, .slice A0_1 l0_1.length c0_1, .slice A0_2 l0_2.length c0_2] 27 ?_; intro g2 hg w1 hbox hb; replace P := P.box hg hbox hb; clear hb hbox hg) | ((with_reducible refine gate_dst (N := 3) rfl ?_); (try (refine gate_guard (by rfl) ?_; dsimp only)); refine bx_ 3 #[.int .i64 now] 2 ?_; intro g3 hg w1 hbox hb; replace P := P.box hg hbox hb; clear hb hbox hg) | ((with_reducible refine gate_dst (N := 4) rfl ?_); (try (refine gate_guard (by rfl) ?_; dsimp only)); refine bx_ 4 #[.slice none 0 0, .slice none 0 0, .slice none 0 0] 27 ?_; intro g4 hg w1 hbox hb; replace P := P.box hg hbox hb; clear hb hbox hg; obtain ⟨ce0, ce1, ce2, fe0, fe1, fe2⟩ := P.c3 0 rfl))
   go_at_call 42
   go_in
   try go_wp2_with (first | ((with_reducible refine gate_dst (N := 2) rfl ?_); (try (refine gate_guard (by rfl) ?_; dsimp only)); refine bx_ 2 #[.slice A0_0 l0_0.length c0_0, .slice A0_1 l0_1.length c0_1, .slice A0_2 l0_2.length c0_2] 27 ?_; intro gp hg w1 hbox hb; replace P := P.box hg hbox hb; clear hb hbox hg) | ((with_reducible refine gate_dst (N := 4) rfl ?_); (try (refine gate_guard (by rfl) ?_; dsimp only)); refine bx_ 4 #[.slice none 0 0, .slice none 0 0, .slice none 0 0] 27 ?_; intro gr hg w1 hbox hb; replace P := P.box hg hbox hb; clear hb hbox hg; obtain ⟨ce0, ce1, ce2, fe0, fe1, fe2⟩ := P.c3 3 rfl) | ((with_reducible refine gate_callee (f := 19) rfl ?_); refine goesL_ (some 8) rfl rfl Try.func19 s2_ rfl #[.agg #[.slice A0_0 l0_0.length c0_0, .slice A0_1 l0_1.length c0_1, .slice A0_2 l0_2.length c0_2]] rfl s3_ ?_; refine (validW k false P hr0_0 hc0_0 hr0_1 hc0_1 hr0_2 hc0_2 hv).mono ?_; clear P; rintro e w1 ⟨rfl, P⟩; refine ⟨_, rfl, ?_⟩; obtain ⟨ce0, ce1, ce2, fe0, fe1, fe2⟩ := P.c3 4 rfl) | ((with_reducible refine gate_store (p := 4) rfl ?_); refine st3 P 4 rfl rfl rfl rfl (by go_simp; rfl) ?_; clear P; intro w1 P; obtain ⟨ce0, ce1, ce2, fe0, fe1, fe2⟩ := P.c3 2 rfl))
   (try simp only [Exit.inBlock, Exit.then])
   refine bodyPost_ret (results_ct rfl _ _ gr 27 #[.slice none 0 0, .slice none 0 0, .slice none 0 0] (0, 0) _ rfl (P.cell 4 rfl) Try.underlying27 rfl s2_) rfl ?_
   (try simp only [])
   try go_wp2_with (first | ((with_reducible refine gate_store (p := 4) rfl ?_); refine st3 P 2 rfl rfl rfl rfl (by go_simp; rfl) ?_; clear P; intro w1 P))
   refine bodyPost_ret (results_ct rfl _ _ g4 27 #[.slice none 0 0, .slice none 0 0, .slice none 0 0] (0, 0) _ rfl (P.cell 2 rfl) Try.underlying27 rfl s2_) rfl ?_
   exact ⟨_, _, _, _, _, _, rfl, P.nil3 _ _ _ rfl rfl rfl⟩
 | true =>
 rw [if_pos rfl] at H
 obtain ⟨⟨ca, cb, cc⟩, hc, H⟩ := Option.bind_eq_some_iff.mp H
 obtain ⟨h, hh, H⟩ := Option.bind_eq_some_iff.mp H
 obtain ⟨t, ht, H⟩ := Option.bind_eq_some_iff.mp H
 obtain ⟨i, hi, H⟩ := Option.bind_eq_some_iff.mp H
 simp only [] at hh ht H
 go_enter Try.func31, Try.ntmps31
 try go_wp2_with (first | ((with_reducible refine gate_dst (N := 2) rfl ?_); (try (refine gate_guard (by rfl) ?_; dsimp only)); refine bx_ 2 #[.slice A0_0 l0_0.length c0_0, .slice A0_1 l0_1.length c0_1, .slice A0_2 l0_2.length c0_2] 27 ?_; intro g2 hg w1 hbox hb; replace P := P.box hg hbox hb; clear hb hbox hg) | ((with_reducible refine gate_dst (N := 3) rfl ?_); (try (refine gate_guard (by rfl) ?_; dsimp only)); refine bx_ 3 #[.int .i64 now] 2 ?_; intro g3 hg w1 hbox hb; replace P := P.box hg hbox hb; clear hb hbox hg) | ((with_reducible refine gate_dst (N := 4) rfl ?_); (try (refine gate_guard (by rfl) ?_; dsimp only)); refine bx_ 4 #[.slice none 0 0, .slice none 0 0, .slice none 0 0] 27 ?_; intro g4 hg w1 hbox hb; replace P := P.box hg hbox hb; clear hb hbox hg; obtain ⟨ce0, ce1, ce2, fe0, fe1, fe2⟩ := P.c3 0 rfl))
 go_at_call 42
 go_in
 try go_wp2_with (first | ((with_reducible refine gate_dst (N := 2) rfl ?_); (try (refine gate_guard (by rfl) ?_; dsimp only)); refine bx_ 2 #[.slice A0_0 l0_0.length c0_0, .slice A0_1 l0_1.length c0_1, .slice A0_2 l0_2.length c0_2] 27 ?_; intro gp hg w1 hbox hb; replace P := P.box hg hbox hb; clear hb hbox hg) | ((with_reducible refine gate_dst (N := 4) rfl ?_); (try (refine gate_guard (by rfl) ?_; dsimp only)); refine bx_ 4 #[.slice none 0 0, .slice none 0 0, .slice none 0 0] 27 ?_; intro gr hg w1 hbox hb; replace P := P.box hg hbox hb; clear hb hbox hg; obtain ⟨ce0, ce1, ce2, fe0, fe1, fe2⟩ := P.c3 3 rfl) | ((with_reducible refine gate_callee (f := 19) rfl ?_); refine goesL_ (some 8) rfl rfl Try.func19 s2_ rfl #[.agg #[.slice A0_0 l0_0.length c0_0, .slice A0_1 l0_1.length c0_1, .slice A0_2 l0_2.length c0_2]] rfl s3_ ?_; refine (validW k true P hr0_0 hc0_0 hr0_1 hc0_1 hr0_2 hc0_2 hv).mono ?_; clear P; rintro e w1 ⟨rfl, P⟩; refine ⟨_, rfl, ?_⟩; obtain ⟨ce0, ce1, ce2, fe0, fe1, fe2⟩ := P.c3 3 rfl) | ((with_reducible refine gate_callee (f := 90) rfl ?_); refine goesL_ (some 12) rfl rfl Try.func90 s2_ rfl #[.agg #[.slice A0_0 l0_0.length c0_0, .slice A0_1 l0_1.length c0_1, .slice A0_2 l0_2.length c0_2]] rfl s3_ ?_; refine (cloneW ca cb cc P hr0_0 hc0_0 hr0_1 hc0_1 hr0_2 hc0_2 hc).mono ?_; clear P; rintro e w1 ⟨D0, d0, D1, d1, D2, d2, rfl, P⟩; refine ⟨_, rfl, ?_⟩) | ((with_reducible refine gate_dst (N := 6) rfl ?_); (try (refine gate_guard (by rfl) ?_; dsimp only)); refine bx_ 6 #[.slice none 0 0, .slice none 0 0, .slice none 0 0] 27 ?_; intro g6 hg w1 hbox hb; replace P := P.box hg hbox hb; clear hb hbox hg; obtain ⟨ce0, ce1, ce2, fe0, fe1, fe2⟩ := P.c3 8 rfl) | ((with_reducible refine gate_store (p := 6) rfl ?_); refine st3 P 8 rfl rfl rfl rfl (by go_simp; rfl) ?_; clear P; intro w1 P))
 go_at_call 72
 go_in
 go_wp2_with (first | ((with_reducible refine gate_dst (N := 2) rfl ?_); refine bx_ 2 #[.pointer (some ⟨g6, 0, none⟩)] 60 ?_; intro gq hg w1 hbox hb; replace P := P.box hg hbox hb; clear hb hbox hg; obtain ⟨ceq, feq⟩ := P.c1 9 rfl; obtain ⟨ce0, ce1, ce2, fe0, fe1, fe2⟩ := P.c3 8 rfl))
 clear ceq feq ce0 ce1 ce2 fe0 fe1 fe2
 replace P := P.drew
 refine start_ (n := 10) (S := fun w' => C3 w' g6 (.slice D0 ca.length d0) (.slice D1 cb.length d1) (.slice D2 cc.length d2) ∧ w'.cell? ⟨gq, 0, none⟩ = some (.pointer (some ⟨g6, 0, none⟩))) (ds := [9]) m0_ s2_ rfl rfl ⟨P.held3 8 rfl, (P.c1 9 rfl).1⟩ (fun hHeld => ?_)
 generalize World.drew _ = w1 at P hHeld ⊢
 refine take_ (i := 0) (N := some 4) (v := ?_) (a' := ?_) m1_ rfl rfl s2_ (fun _ _ _ h => h) (Or.inl ⟨by rfl, ?_⟩) hHeld ?_ ?_
 rotate_left
 { rintro w' ⟨⟨s0, s1, s2⟩, s3⟩; go_simp; with_reducible rfl }
 rotate_left
 · exact p1_
 refine take_ (i := 1) (N := some 5) (v := ?_) (a' := ?_) m2_ rfl rfl s2_ (fun _ _ _ h => h) (Or.inl ⟨by rfl, ?_⟩) hHeld ?_ ?_
 rotate_left
 { rintro w' ⟨⟨s0, s1, s2⟩, s3⟩; go_simp; with_reducible rfl }
 rotate_left
 · exact p1_
 refine pure_ (i := 2) (N := some 6) (v := ?_) (a' := ?_) m3_ rfl rfl s2_ (fun _ _ _ h => h) (Or.inl ⟨by rfl, ?_⟩) ?_ ?_
 rotate_left
 { intro w'; go_simp; with_reducible rfl }
 rotate_left
 · exact p1_
 refine pure_ (i := 3) (N := some 7) (v := ?_) (a' := ?_) m4_ rfl rfl s2_ (fun _ _ _ h => h) (Or.inl ⟨by rfl, ?_⟩) ?_ ?_
 rotate_left
 { intro w'; go_simp; with_reducible rfl }
 rotate_left
 · exact p1_
 refine take_ (i := 4) (N := some 8) (v := ?_) (a' := ?_) m5_ rfl rfl s2_ (fun _ _ _ h => h) (Or.inl ⟨by rfl, ?_⟩) hHeld ?_ ?_
 rotate_left
 { rintro w' ⟨⟨s0, s1, s2⟩, s3⟩; go_simp; with_reducible rfl }
 rotate_left
 · exact p1_
 refine pure_ (i := 5) (N := some 9) (v := ?_) (a' := ?_) m6_ rfl rfl s2_ (fun _ _ _ h => h) (Or.inl ⟨by rfl, ?_⟩) ?_ ?_
 rotate_left
 { intro w'; go_simp; with_reducible rfl }
 rotate_left
 · exact p1_
 refine one_ (i := 6) (N := some 10) m7_ rfl rfl s2_ (by decide) (fun K hK => ?_)
 refine goes_ Try.func53 s2_ rfl #[.slice D0 ca.length d0, .func (.func 73) #[] #[.pointer (some ⟨g3, 0, none⟩)]] (by rfl) rfl rfl s3_ ?_
 refine (dropW k h now P 5 1 rfl rfl hh).mono ?_
 clear P
 rintro e_ w1 ⟨E0, e0, rfl, P⟩
 refine ⟨_, rfl, ?_⟩
 refine hK.out _ _ ⟨P.held3 8 rfl, (P.c1 9 rfl).1⟩ (fun hHeld => ?_)
 clear hK K
 refine norm_ (a' := ?_) ?_ ?_; rotate_left; { show Act.put _ (some 10) _ = _; simp only [Act.put, List.setIfInBounds_toArray, List.set_cons_zero, List.set_cons_succ, i64_w, i32_w]; rfl }
 refine pure_ (i := 7) (N := some 11) (v := ?_) (a' := ?_) m8_ rfl rfl s2_ (fun _ _ _ h => h) (Or.inl ⟨by rfl, ?_⟩) ?_ ?_
 rotate_left
 { intro w'; go_simp; with_reducible rfl }
 rotate_left
 · exact p1_
 refine pure_ (i := 8) (N := some 12) (v := ?_) (a' := ?_) m9_ rfl rfl s2_ (fun _ _ _ h => h) (Or.inl ⟨by rfl, ?_⟩) ?_ ?_
 rotate_left
 { intro w'; go_simp; with_reducible rfl }
 rotate_left
 · exact p1_
 refine last_ (i := 9) (N := none) m10_ rfl rfl s2_ (by decide) (fun K hK => ?_)
 obtain ⟨ce0, ce1, ce2, fe0, fe1, fe2⟩ := P.c3 8 rfl
 have P2 := P.set1 (x := .slice E0 h.length e0) (cs' := #[.slice E0 h.length e0, .slice D1 cb.length d1, .slice D2 cc.length d2]) 8 0 rfl rfl
 refine skip_ (w1 := ?_) (by rfl) rfl ?_ ?_; rotate_left; { go_simp; rfl }
 refine hK.out _ _ ?_
 clear hK K P ce0 ce1 ce2 fe0 fe1 fe2
 revert P2; generalize World.setCell _ _ _ = w1; intro P
 refine done_ s2_ ?_
 try go_wp2_with (fail)
 replace P := P.drew
 refine start_ (n := 10) (S := fun w' => C3 w' g6 (.slice E0 h.length e0) (.slice D1 cb.length d1) (.slice D2 cc.length d2) ∧ w'.cell? ⟨gq, 0, none⟩ = some (.pointer (some ⟨g6, 0, none⟩))) (ds := [9]) m0_ s2_ rfl rfl ⟨P.held3 8 rfl, (P.c1 9 rfl).1⟩ (fun hHeld => ?_)
 generalize World.drew _ = w1 at P hHeld ⊢
 refine take_ (i := 0) (N := some 13) (v := ?_) (a' := ?_) m1_ rfl rfl s2_ (fun _ _ _ h => h) (Or.inl ⟨by rfl, ?_⟩) hHeld ?_ ?_
 rotate_left
 { rintro w' ⟨⟨s0, s1, s2⟩, s3⟩; go_simp; with_reducible rfl }
 rotate_left
 · exact p1_
 refine take_ (i := 1) (N := some 14) (v := ?_) (a' := ?_) m2_ rfl rfl s2_ (fun _ _ _ h => h) (Or.inl ⟨by rfl, ?_⟩) hHeld ?_ ?_
 rotate_left
 { rintro w' ⟨⟨s0, s1, s2⟩, s3⟩; go_simp; with_reducible rfl }
 rotate_left
 · exact p1_
 refine pure_ (i := 2) (N := some 15) (v := ?_) (a' := ?_) m3_ rfl rfl s2_ (fun _ _ _ h => h) (Or.inl ⟨by rfl, ?_⟩) ?_ ?_
 rotate_left
 { intro w'; go_simp; with_reducible rfl }
 rotate_left
 · exact p1_
 refine pure_ (i := 3) (N := some 16) (v := ?_) (a' := ?_) m4_ rfl rfl s2_ (fun _ _ _ h => h) (Or.inl ⟨by rfl, ?_⟩) ?_ ?_
 rotate_left
 { intro w'; go_simp; with_reducible rfl }
 rotate_left
 · exact p1_
 refine take_ (i := 4) (N := some 17) (v := ?_) (a' := ?_) m5_ rfl rfl s2_ (fun _ _ _ h => h) (Or.inl ⟨by rfl, ?_⟩) hHeld ?_ ?_
 rotate_left
 { rintro w' ⟨⟨s0, s1, s2⟩, s3⟩; go_simp; with_reducible rfl }
 rotate_left
 · exact p1_
 refine pure_ (i := 5) (N := some 18) (v := ?_) (a' := ?_) m6_ rfl rfl s2_ (fun _ _ _ h => h) (Or.inl ⟨by rfl, ?_⟩) ?_ ?_
 rotate_left
 { intro w'; go_simp; with_reducible rfl }
 rotate_left
 · exact p1_
 refine one_ (i := 6) (N := some 19) m7_ rfl rfl s2_ (by decide) (fun K hK => ?_)
 refine goes_ Try.func53 s2_ rfl #[.slice D1 cb.length d1, .func (.func 74) #[] #[.pointer (some ⟨g3, 0, none⟩), .pointer (some ⟨gq, 0, none⟩)]] (by rfl) rfl rfl s3_ ?_
 refine (dropW2 k t now cb cc P 6 1 5 8 9 rfl rfl rfl rfl rfl (by decide) ht).mono ?_
 clear P
 rintro e_ w1 ⟨E1, e1, rfl, P⟩
 refine ⟨_, rfl, ?_⟩
 refine hK.out _ _ ⟨P.held3 8 rfl, (P.c1 9 rfl).1⟩ (fun hHeld => ?_)
 clear hK K
 refine norm_ (a' := ?_) ?_ ?_; rotate_left; { show Act.put _ (some 19) _ = _; simp only [Act.put, List.setIfInBounds_toArray, List.set_cons_zero, List.set_cons_succ, i64_w, i32_w]; rfl }
 refine pure_ (i := 7) (N := some 20) (v := ?_) (a' := ?_) m8_ rfl rfl s2_ (fun _ _ _ h => h) (Or.inl ⟨by rfl, ?_⟩) ?_ ?_
 rotate_left
 { intro w'; go_simp; with_reducible rfl }
 rotate_left
 · exact p1_
 refine pure_ (i := 8) (N := some 21) (v := ?_) (a' := ?_) m9_ rfl rfl s2_ (fun _ _ _ h => h) (Or.inl ⟨by rfl, ?_⟩) ?_ ?_
 rotate_left
 { intro w'; go_simp; with_reducible rfl }
 rotate_left
 · exact p1_
 refine last_ (i := 9) (N := none) m10_ rfl rfl s2_ (by decide) (fun K hK => ?_)
 obtain ⟨ce0, ce1, ce2, fe0, fe1, fe2⟩ := P.c3 8 rfl
 have P2 := P.set1 (x := .slice E1 t.length e1) (cs' := #[.slice E0 h.length e0, .slice E1 t.length e1, .slice D2 cc.length d2]) 8 1 rfl rfl
 refine skip_ (w1 := ?_) (by rfl) rfl ?_ ?_; rotate_left; { go_simp; rfl }
 refine hK.out _ _ ?_
 clear hK K P ce0 ce1 ce2 fe0 fe1 fe2
 revert P2; generalize World.setCell _ _ _ = w1; intro P
 refine done_ s2_ ?_
 obtain ⟨ct, ft⟩ := P.c1 1 rfl
 cases i with
 | false =>
   obtain ⟨rfl, rfl, rfl, rfl⟩ : [] = r1 ∧ [] = r2 ∧ [] = r3 ∧ false = r4 := by simpa using H
   try go_wp2_with (first | ((with_reducible refine gate_callee (f := 45) rfl ?_); refine goesL_ (some 23) rfl rfl Try.func45 s2_ rfl #[.int .i64 now] rfl s3_ ?_; refine (tickW now false P hi).mono ?_; clear P; rintro e w1 ⟨rfl, P⟩; refine ⟨_, rfl, ?_⟩; obtain ⟨ce0, ce1, ce2, fe0, fe1, fe2⟩ := P.c3 8 rfl; obtain ⟨ce0b, ce1b, ce2b, fe0b, fe1b, fe2b⟩ := P.c3 4 rfl) | ((with_reducible refine gate_store (p := 4) rfl ?_); refine st3 P 4 rfl rfl rfl rfl (by go_simp; rfl) ?_; clear P; intro w1 P; obtain ⟨ce0, ce1, ce2, fe0, fe1, fe2⟩ := P.c3 2 rfl))
   (try simp only [Exit.inBlock, Exit.then])
   refine bodyPost_ret (results_ct rfl _ _ gr 27 #[.slice none 0 0, .slice none 0 0, .slice none 0 0] (0, 0) _ rfl (P.cell 4 rfl) Try.underlying27 rfl s2_) rfl ?_
   (try simp only [])
   try go_wp2_with (first | ((with_reducible refine gate_store (p := 4) rfl ?_); refine st3 P 2 rfl rfl rfl rfl (by go_simp; rfl) ?_; clear P; intro w1 P))
   refine bodyPost_ret (results_ct rfl _ _ g4 27 #[.slice none 0 0, .slice none 0 0, .slice none 0 0] (0, 0) _ rfl (P.cell 2 rfl) Try.underlying27 rfl s2_) rfl ?_
   exact ⟨_, _, _, _, _, _, rfl, P.nil3 _ _ _ rfl rfl rfl⟩
 | true =>
 rw [if_pos rfl] at H
 obtain ⟨g, hg, H⟩ := Option.bind_eq_some_iff.mp H
 cases g with
 | true =>
   obtain ⟨rfl, rfl, rfl, rfl⟩ : h = r1 ∧ t = r2 ∧ cc = r3 ∧ true = r4 := by simpa using H
   try go_wp2_with (first | ((with_reducible refine gate_callee (f := 45) rfl ?_); refine goesL_ (some 23) rfl rfl Try.func45 s2_ rfl #[.int .i64 now] rfl s3_ ?_; refine (tickW now true P hi).mono ?_; clear P; rintro e w1 ⟨rfl, P⟩; refine ⟨_, rfl, ?_⟩; obtain ⟨ce0, ce1, ce2, fe0, fe1, fe2⟩ := P.c3 8 rfl; obtain ⟨ce0b, ce1b, ce2b, fe0b, fe1b, fe2b⟩ := P.c3 4 rfl) | (go_at_call 19; refine (validR k true P 5 6 7 rfl rfl rfl hg).mono ?_; clear P; rintro e w1 ⟨rfl, P⟩; obtain ⟨ce0, ce1, ce2, fe0, fe1, fe2⟩ := P.c3 8 rfl; obtain ⟨ce0b, ce1b, ce2b, fe0b, fe1b, fe2b⟩ := P.c3 4 rfl) | ((with_reducible refine gate_store (p := 4) rfl ?_); refine st3 P 4 rfl rfl rfl rfl (by go_simp; rfl) ?_; clear P; intro w1 P; obtain ⟨ce0, ce1, ce2, fe0, fe1, fe2⟩ := P.c3 2 rfl))
   (try simp only [Exit.inBlock, Exit.then])
   refine bodyPost_ret (results_ct rfl _ _ gr 27 #[.slice E0 h.length e0, .slice E1 t.length e1, .slice D2 cc.length d2] (0, 0) _ rfl (P.cell 4 rfl) Try.underlying27 rfl s2_) rfl ?_
   (try simp only [])
   try go_wp2_with (first | ((with_reducible refine gate_store (p := 4) rfl ?_); refine st3 P 2 rfl rfl rfl rfl (by go_simp; rfl) ?_; clear P; intro w1 P))
   refine bodyPost_ret (results_ct rfl _ _ g4 27 #[.slice E0 h.length e0, .slice E1 t.length e1, .slice D2 cc.length d2] (0, 0) _ rfl (P.cell 2 rfl) Try.underlying27 rfl s2_) rfl ?_
   exact ⟨_, _, _, _, _, _, rfl, Pool.tri (P.pick [5, 6, 7] _ (by decide) rfl)⟩
 | false =>
   obtain ⟨rfl, rfl, rfl, rfl⟩ : [] = r1 ∧ [] = r2 ∧ [] = r3 ∧ false = r4 := by simpa using H
   try go_wp2_with (first | ((with_reducible refine gate_callee (f := 45) rfl ?_); refine goesL_ (some 23) rfl rfl Try.func45 s2_ rfl #[.int .i64 now] rfl s3_ ?_; refine (tickW now true P hi).mono ?_; clear P; rintro e w1 ⟨rfl, P⟩; refine ⟨_, rfl, ?_⟩; obtain ⟨ce0, ce1, ce2, fe0, fe1, fe2⟩ := P.c3 8 rfl; obtain ⟨ce0b, ce1b, ce2b, fe0b, fe1b, fe2b⟩ := P.c3 4 rfl) | (go_at_call 19; refine (validR k false P 5 6 7 rfl rfl rfl hg).mono ?_; clear P; rintro e w1 ⟨rfl, P⟩; obtain ⟨ce0, ce1, ce2, fe0, fe1, fe2⟩ := P.c3 8 rfl; obtain ⟨ce0b, ce1b, ce2b, fe0b, fe1b, fe2b⟩ := P.c3 4 rfl) | ((with_reducible refine gate_store (p := 4) rfl ?_); refine st3 P 4 rfl rfl rfl rfl (by go_simp; rfl) ?_; clear P; intro w1 P; obtain ⟨ce0, ce1, ce2, fe0, fe1, fe2⟩ := P.c3 2 rfl))
   (try simp only [Exit.inBlock, Exit.then])
   refine bodyPost_ret (results_ct rfl _ _ gr 27 #[.slice none 0 0, .slice none 0 0, .slice none 0 0] (0, 0) _ rfl (P.cell 4 rfl) Try.underlying27 rfl s2_) rfl ?_
   (try simp only [])
   try go_wp2_with (first | ((with_reducible refine gate_store (p := 4) rfl ?_); refine st3 P 2 rfl rfl rfl rfl (by go_simp; rfl) ?_; clear P; intro w1 P))
   refine bodyPost_ret (results_ct rfl _ _ g4 27 #[.slice none 0 0, .slice none 0 0, .slice none 0 0] (0, 0) _ rfl (P.cell 2 rfl) Try.underlying27 rfl s2_) rfl ?_
   exact ⟨_, _, _, _, _, _, rfl, P.nil3 _ _ _ rfl rfl rfl⟩

end Go.Proofs.Ytgfilednbllkmaa.QFnJoinedPresence
