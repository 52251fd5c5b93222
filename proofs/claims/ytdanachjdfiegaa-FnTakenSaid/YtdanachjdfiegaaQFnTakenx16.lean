-- by hand
import Derived.Test.YtdanachjdfiegaaQFnTakenx3
import Derived.Test.YtdanachjdfiegaaQFnTakenx4
import Derived.Test.YtdanachjdfiegaaQFnTakenx15
namespace Go.Proofs.Ytdanachjdfiegaa.QFnTaken
open Go.RowKit Go.Proofs.YtdanachjdfiegaaW.PrintWords Go.Proofs.YtdanachjdfiegaaW.PrintLast Go.Proofs.YtdanachjdfiegaaW.PrintMore
attribute [local go_sem] max2_int min2_int max_two min_two max_three min_three max_four min_four   -- for this text's walks alone
set_option linter.unusedVariables false
set_option linter.unusedSimpArgs false
section
variable {w0 w w1 : World} {L : List Res} {A B : Option Addr} {n m c d g : Nat} {xs ys : List S58}
/-- A cell of a variable is written. -/
theorem stc {Pr : Program} {ops : Array Oper} {rest : List Oper} {o : Oper} {ac : Act} {Q : Exit → Act → World → Prop} {p : Nat} {cs cs' : Array Value} {x : Value} {t t' : TypeId} {v : Operand} (h : Pool w0 w L) (i j : Nat) (hi : L[i]? = some (rbox g cs t)) (he : cs.setIfInBounds j x = cs') (hgd : o.guard = none) (ho : o.op = .store t' (.tmp p) v) (hN : o.dst = none)
    (hrun : (execOp ac.eval o).run Pr w = .ok .skip (w.setCell ⟨g, j, none⟩ x)) (hk : ∀ w', Pool w0 w' (L.set i (rbox g cs' t)) → wpList Pr ops Q rest ac w') : wpList Pr ops Q (o :: rest) ac w :=
  store_event hgd ho hN hrun (fun w' e => e ▸ hk _ (h.set1 i j hi he))
theorem newN {v : Value} (P : Pool w0 w L) (hb : Below w.heap.size w w1) (h : Kd.R k97 97 w1 w.heap.size (fun _ => True) v []) : ∃ D e0, v = .slice D 0 e0 ∧ Pool w0 w1 (L ++ [rrow k97 97 w0.heap.size (.slice D 0 e0) []]) := newP P hb h
theorem newB {v : Value} (P : Pool w0 w L) (hb : Below w.heap.size w w1) (g : Kd.R kB 58 w1 w.heap.size (fun _ => True) v []) : ∃ D e0, v = .slice D 0 e0 ∧ Pool w0 w1 (L ++ [rrow kB 58 w0.heap.size (.slice D 0 e0) []]) := by
  obtain ⟨D, e0, rfl⟩ := Kd.R_slice g
  exact ⟨D, e0, rfl, P.add hb _ (Kd.R_lower (Kd.R_mono (Kd.R_bound (Kd.R_tight rfl g)) (fun k hk => ⟨⟨hk.2.1, hk.2.2.1⟩, hk.1⟩)) (below_size P.1))⟩
theorem isP (k : Nat) (lim : Int) (P : Pool w0 w L) (j : Nat) (hj : L[j]? = some (rbox g #[.int .i64 lim, .slice A xs.length c] 54)) (hr : Kd.C k58 w0 A xs.length xs) (hc : xs.length ≤ c) (h : spec_l04Is.f k lim xs = some true) :
    Calls Try.prog 87 #[.pointer (some ⟨g, 0, none⟩)] w fun e w' => e = .returned (.bool true) ∧ Pool w0 w' L := by
  refine (spec_l04Is.calls k g lim _ _ xs true w (P.cell j hj) (Kd.C_below hr P.1) hc h).mono ?_
  rintro e w' ⟨rfl, hb⟩
  exact ⟨rfl, P.below hb⟩
theorem findP (k : Nat) (lim : Int) (tok : ByteArray) (r : Int) (P : Pool w0 w L) (j : Nat) (hj : L[j]? = some (rbox g #[.int .i64 lim, .slice A xs.length c] 54)) (hr : Kd.C k58 w0 A xs.length xs) (hc : xs.length ≤ c) (h : spec_l04Find.f k lim xs tok = some r) :
    Calls Try.prog 88 #[.pointer (some ⟨g, 0, none⟩), .string tok] w fun e w' => e = .returned (.int .i64 r) ∧ Pool w0 w' L := by
  refine (spec_l04Find.calls k g lim _ _ xs tok r w (P.cell j hj) (Kd.C_below hr P.1) hc h).mono ?_
  rintro e w' ⟨rfl, hb⟩
  exact ⟨rfl, P.below hb⟩
theorem copyP (k : Nat) (lim : Int) (P : Pool w0 w L) (j : Nat) (hj : L[j]? = some (rbox g #[.int .i64 lim, .slice A xs.length c] 54)) (hr : Kd.C k58 w0 A xs.length xs) (hc : xs.length ≤ c) (h : spec_l04Copy.f k lim xs = some (lim, xs)) :
    Calls Try.prog 89 #[.pointer (some ⟨g, 0, none⟩)] w fun e w' => ∃ D d, e = .returned (.agg #[.int .i64 lim, .slice D xs.length d]) ∧ Pool w0 w' (L ++ [rS w0.heap.size D xs.length d xs]) := by
  refine (spec_l04Copy.calls k g lim _ _ xs lim xs w (P.cell j hj) (Kd.C_below hr P.1) hc h).mono ?_
  rintro e w' ⟨v, rfl, hS, hb⟩
  obtain ⟨D, d, rfl, Q⟩ := rS_new P hb hS
  exact ⟨D, d, rfl, Q⟩
end
set_option maxHeartbeats 40000000 in
set_option maxRecDepth 100000 in
theorem spec_l04Give.ok (k : Nat) (lim : Int) (A0 : Option Addr) (c0 : Nat) (xs : List S58) (w : World) (hr : Kd.C k58 w A0 xs.length xs) (hc : xs.length ≤ c0) (hv : spec_l04Is.f k lim xs = some true) :
    Calls Try.prog 90 #[.agg #[.int .i64 lim, .slice A0 xs.length c0]] w fun e w' => e = .returned (.tuple #[.agg #[.int .i64 lim, .slice A0 xs.length c0], .bool true]) ∧ Below w.heap.size w w' := by
 have hu52 := Try.underlying52
 have hu54 := Try.underlying54
 have hu58 := Try.underlying58
 have P := Pool.nil w
 go_enter Try.func90, Try.ntmps90
 try go_wp2_with (first | ((with_reducible refine gate_dst (N := 1) rfl ?_); (try (refine gate_guard (by rfl) ?_; dsimp only)); refine bx_ 1 #[.int .i64 lim, .slice A0 xs.length c0] 54 ?_; intro g1 hg w1 hbox hb; replace P := P.box hg hbox hb; clear hb hbox hg; (try simp only [List.nil_append, List.cons_append, List.set_cons_zero, List.set_cons_succ] at P)) | ((with_reducible refine gate_dst (N := 2) rfl ?_); (try (refine gate_guard (by rfl) ?_; dsimp only)); refine bx_ 2 #[.int .i64 0, .slice none 0 0] 54 ?_; intro g2 hg w1 hbox hb; replace P := P.box hg hbox hb; clear hb hbox hg; (try simp only [List.nil_append, List.cons_append, List.set_cons_zero, List.set_cons_succ] at P)) | ((with_reducible refine gate_dst (N := 4) rfl ?_); (with_reducible refine gate_callee (f := 87) rfl ?_); refine goesL_ (some 4) rfl rfl Try.func87 s2_ rfl #[.pointer (some ⟨g1, 0, none⟩)] rfl s3_ ?_; refine (isP k lim P 0 rfl hr hc hv).mono ?_; clear P; rintro e w1 ⟨rfl, P⟩; refine ⟨_, rfl, ?_⟩; (try simp only [List.nil_append, List.cons_append, List.set_cons_zero, List.set_cons_succ] at P); obtain ⟨ce0, ce1, fe0, fe1⟩ := P.c2 0 rfl; obtain ⟨ce0b, ce1b, fe0b, fe1b⟩ := P.c2 1 rfl) | ((with_reducible refine gate_store (p := 2) rfl ?_); refine st2 P 1 rfl rfl rfl rfl (by go_simp; rfl) ?_; clear P; intro w1 P; (try simp only [List.nil_append, List.cons_append, List.set_cons_zero, List.set_cons_succ] at P)))
 refine bodyPost_ret (results_list (rs := [.cell 2 54, .tmp 3]) rfl (by simp) (.cell g2 54 #[.int .i64 lim, .slice A0 xs.length c0] (0, 0) _ rfl (P.cell 1 rfl) Try.underlying54 rfl s2_ (.tmp .nil))) rfl ?_
 exact ⟨rfl, P.1⟩
theorem giveP {w0 w : World} {L : List Res} {A : Option Addr} {n c : Nat} {xs : List S58} (k : Nat) (lim : Int) (P : Pool w0 w L) (j : Nat) (hj : L[j]? = some (rS w0.heap.size A n c xs)) (h : spec_l04Is.f k lim xs = some true) :
    Calls Try.prog 90 #[.agg #[.int .i64 lim, .slice A n c]] w fun e w' => e = .returned (.tuple #[.agg #[.int .i64 lim, .slice A n c], .bool true]) ∧ Pool w0 w' L := by
  obtain ⟨rfl, h1, h2⟩ := rS_at P j hj
  refine (spec_l04Give.ok k lim _ _ xs w h2 h1 h).mono ?_
  rintro e w' ⟨rfl, hb⟩
  exact ⟨rfl, P.below hb⟩
end Go.Proofs.Ytdanachjdfiegaa.QFnTaken
