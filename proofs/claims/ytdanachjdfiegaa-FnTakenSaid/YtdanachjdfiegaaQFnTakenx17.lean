-- by hand, over one pool
import Derived.Test.YtdanachjdfiegaaQFnTakenx16
namespace Go.Proofs.Ytdanachjdfiegaa.QFnTaken
open Go.RowKit Go.Proofs.YtdanachjdfiegaaW.PrintWords Go.Proofs.YtdanachjdfiegaaW.PrintLast Go.Proofs.YtdanachjdfiegaaW.PrintMore
attribute [local go_sem] max2_int min2_int max_two min_two max_three min_three max_four min_four   -- for this text's walks alone
set_option linter.unusedVariables false
set_option linter.unusedSimpArgs false
set_option maxHeartbeats 40000000 in
set_option maxRecDepth 100000 in
theorem spec_AddBox.no (k : Nat) (lim : Int) (A0 : Option Addr) (c0 : Nat) (xs : List S58) (tok : ByteArray) (mem r : Int) (w : World) (hr : Kd.C k58 w A0 xs.length xs) (hc : xs.length ≤ c0) (hv : spec_l04Is.f k lim xs = some true) (hf : spec_l04Find.f k lim xs tok = some r) (hj0 : r ≥ 0) :
    Calls Try.prog 61 #[.agg #[.int .i64 lim, .slice A0 xs.length c0], .string tok, .int .i64 mem] w fun e w' => e = .returned (.tuple #[.agg #[.int .i64 0, .slice none 0 0], .bool false]) ∧ Below w.heap.size w w' := by
 have hu52 := Try.underlying52
 have hu54 := Try.underlying54
 have hu56 := Try.underlying56
 have hu58 := Try.underlying58
 have hu97 := Try.underlying97
 have P := Pool.nil w
 go_enter Try.func61, Try.ntmps61
 have hj := decide_eq_true hj0
 try go_wp2_with (first | ((with_reducible refine gate_dst (N := 3) rfl ?_); (try (refine gate_guard (by rfl) ?_; dsimp only)); refine bx_ 3 #[.int .i64 lim, .slice A0 xs.length c0] 54 ?_; intro g3 hg w1 hbox hb; replace P := P.box hg hbox hb; clear hb hbox hg; (try simp only [List.nil_append, List.cons_append, List.set_cons_zero, List.set_cons_succ] at P)) | ((with_reducible refine gate_dst (N := 6) rfl ?_); (try (refine gate_guard (by rfl) ?_; dsimp only)); refine bx_ 6 #[.int .i64 0, .slice none 0 0] 54 ?_; intro g6 hg w1 hbox hb; replace P := P.box hg hbox hb; clear hb hbox hg; (try simp only [List.nil_append, List.cons_append, List.set_cons_zero, List.set_cons_succ] at P)) | ((with_reducible refine gate_dst (N := 12) rfl ?_); (with_reducible refine gate_callee (f := 87) rfl ?_); refine goesL_ (some 12) rfl rfl Try.func87 s2_ rfl #[.pointer (some ⟨g3, 0, none⟩)] rfl s3_ ?_; refine (isP k lim P 0 rfl hr hc hv).mono ?_; clear P; rintro e w1 ⟨rfl, P⟩; refine ⟨_, rfl, ?_⟩; (try simp only [List.nil_append, List.cons_append, List.set_cons_zero, List.set_cons_succ] at P)))
 try go_wp2_with (fail)
 refine (findP k lim tok r P 0 rfl hr hc hf).mono ?_
 clear P
 rintro e w1 ⟨rfl, P⟩
 obtain ⟨ce0, ce1, fe0, fe1⟩ := P.c2 1 rfl
 try go_wp2_with (first | ((with_reducible refine gate_store (p := 6) rfl ?_); refine st2 P 1 rfl rfl rfl rfl (by go_simp; rfl) ?_; clear P; intro w1 P; (try simp only [List.nil_append, List.cons_append, List.set_cons_zero, List.set_cons_succ] at P)))
 refine bodyPost_ret (results_list (rs := [.cell 6 54, .tmp 7]) rfl (by simp) (.cell g6 54 #[.int .i64 0, .slice none 0 0] (0, 0) _ rfl (P.cell 1 rfl) Try.underlying54 rfl s2_ (.tmp .nil))) rfl ?_
 exact ⟨rfl, P.1⟩
/-- What holds while a box is put to its place. -/
def AddInv (base : Nat) (tok : ByteArray) (mem : Int) (i0 : Nat) (ps : List (SB × List S97)) (put : Bool) (i : Nat) (bs : List SB) (rows : List Res) : Prop :=
  (put = false ∧ i ≤ i0 ∧ bs = (ps.take i).map Prod.fst ∧ rows = ps.map (nrow base)) ∨
  (put = true ∧ i0 < i ∧ ∃ q : SB × List S97, entS q = ⟨tok, mem, 0, []⟩ ∧ bs = (ps.take i0 ++ q :: (ps.take i).drop i0).map Prod.fst ∧ rows = ps.map (nrow base) ++ [nrow base q])
theorem AddInv.len {base : Nat} {tok : ByteArray} {mem : Int} {i0 : Nat} {ps : List (SB × List S97)} {put : Bool} {i : Nat} {bs : List SB} {rows : List Res} (h : AddInv base tok mem i0 ps put i bs rows) (hl : ps.length ≤ 900) (hi : i0 ≤ ps.length) : bs.length ≤ 1000 := by
  rcases h with ⟨-, -, rfl, -⟩ | ⟨-, -, q, -, rfl, -⟩
  · simp; omega
  · simp; omega
theorem AddInv.s1 {base : Nat} {tok : ByteArray} {mem : Int} {i0 i : Nat} {ps : List (SB × List S97)} {p : SB × List S97} {bs b3 : List SB} (hp : ps[i]? = some p) (h1 : i < i0) (h2 : bs = (ps.take i).map Prod.fst) (h3 : b3 = bs ++ [p.1]) : AddInv base tok mem i0 ps false (i + 1) b3 (ps.map (nrow base)) := by
  obtain ⟨hi, rfl⟩ := List.getElem?_eq_some_iff.1 hp
  exact .inl ⟨rfl, h1, by rw [h3, h2, List.take_succ_eq_append_getElem hi, List.map_append]; rfl, rfl⟩
theorem AddInv.s2 {base : Nat} {tok : ByteArray} {mem : Int} {i0 i : Nat} {ps : List (SB × List S97)} {p q : SB × List S97} {bs b4 b3 : List SB} (hp : ps[i]? = some p) (h1 : i = i0) (hq : entS q = ⟨tok, mem, 0, []⟩) (h2 : bs = (ps.take i).map Prod.fst) (h4 : b4 = bs ++ [q.1]) (h3 : b3 = b4 ++ [p.1]) : AddInv base tok mem i0 ps true (i + 1) b3 (ps.map (nrow base) ++ [nrow base q]) := by
  subst h1
  obtain ⟨hi, rfl⟩ := List.getElem?_eq_some_iff.1 hp
  refine .inr ⟨rfl, Nat.lt_succ_self _, q, hq, ?_, rfl⟩
  rw [h3, h4, h2, List.take_succ_eq_append_getElem hi, List.drop_append_of_le_length (by rw [List.length_take]; omega), List.drop_eq_nil_of_le (by rw [List.length_take]; omega)]
  simp
theorem AddInv.s3 {base : Nat} {tok : ByteArray} {mem : Int} {i0 i : Nat} {ps : List (SB × List S97)} {p q : SB × List S97} {bs b3 : List SB} (hp : ps[i]? = some p) (h1 : i0 < i) (hq : entS q = ⟨tok, mem, 0, []⟩) (h2 : bs = (ps.take i0 ++ q :: (ps.take i).drop i0).map Prod.fst) (h3 : b3 = bs ++ [p.1]) : AddInv base tok mem i0 ps true (i + 1) b3 (ps.map (nrow base) ++ [nrow base q]) := by
  obtain ⟨hi, rfl⟩ := List.getElem?_eq_some_iff.1 hp
  refine .inr ⟨rfl, by omega, q, hq, ?_, rfl⟩
  rw [h3, h2, List.take_succ_eq_append_getElem hi, List.drop_append_of_le_length (by rw [List.length_take]; omega)]
  simp
theorem AddInv.f {i0 i : Nat} {ps : List (SB × List S97)} {q : SB × List S97} {bs b4 : List SB} (h2 : bs = (ps.take i).map Prod.fst) (hi : i = ps.length) (h0 : i0 = ps.length) (h4 : b4 = bs ++ [q.1]) : b4 = (ps.take i0 ++ q :: ps.drop i0).map Prod.fst := by
  subst hi h0
  rw [h4, h2, List.take_length, List.drop_length]
  simp
theorem AddInv.e {xs ys : List S58} {tok : ByteArray} {mem : Int} {i0 : Nat} {ps : List (SB × List S97)} {q : SB × List S97} (h : xs = ps.map entS) (hy : ys = xs.take i0 ++ ⟨tok, mem, 0, []⟩ :: xs.drop i0) (hq : entS q = ⟨tok, mem, 0, []⟩) : ys = (ps.take i0 ++ q :: ps.drop i0).map entS := by
  rw [hy, h, ← hq, List.map_append, List.map_cons, List.map_take, List.map_drop]
theorem cellsB {w0 w : World} {L : List Res} {G n c j : Nat} {es : List SB} {x : SB} (P : Pool w0 w L) (i : Nat) (hi : L[i]? = some (rrow kB 58 w0.heap.size (.slice (some ⟨G, 0, none⟩) n c) es)) (hj : es[j]? = some x) :
    w.cell? ⟨G, j * 4, none⟩ = some (.string x.f0) ∧ w.cell? ⟨G, j * 4 + 1, none⟩ = some (.int .i64 x.f1) ∧ w.cell? ⟨G, j * 4 + 2, none⟩ = some (.int .i64 x.f2) ∧ w.cell? ⟨G, j * 4 + 3, none⟩ = some (.slice x.A x.n x.c) := by
  obtain ⟨h0, h1, h2, h3, -, -⟩ := Pool.bcell P i hi j x hj
  exact ⟨h0, h1, h2, h3⟩
theorem addDone {w0 w : World} {a b c d o : Res} {A : Option Addr} {n m i0 : Nat} {bs : List SB} {ps : List (SB × List S97)} {q : SB × List S97} {rows : List Res} (P : Pool w0 w (a :: b :: c :: d :: rrow kB 58 w0.heap.size (.slice A n m) bs :: o :: rows)) (hb : bs = (ps.take i0 ++ q :: ps.drop i0).map Prod.fst) (hr : rows = ps.map (nrow w0.heap.size) ++ [nrow w0.heap.size q]) :
    Pool w0 w [a, b, c, d, rS w0.heap.size A n m ((ps.take i0 ++ q :: ps.drop i0).map entS)] := by
  have P2 := Pool.drop1 (A := [a, b, c, d, rrow kB 58 w0.heap.size (.slice A n m) bs]) P
  rw [hr] at P2
  have e : [a, b, c, d, rrow kB 58 w0.heap.size (.slice A n m) bs] ++ (ps.map (nrow w0.heap.size) ++ [nrow w0.heap.size q]) = ([a, b, c, d, rrow kB 58 w0.heap.size (.slice A n m) bs] ++ (ps.take i0).map (nrow w0.heap.size)) ++ ((ps.drop i0).map (nrow w0.heap.size) ++ [nrow w0.heap.size q]) := by
    rw [List.append_assoc, ← List.append_assoc ((ps.take i0).map _), ← List.map_append, List.take_append_drop]
  rw [e] at P2
  have P3 := Pool.mid P2
  refine Pool.join (L := [a, b, c, d]) (ps := ps.take i0 ++ q :: ps.drop i0) ?_
  rw [← hb, List.map_append, List.map_cons]
  rw [List.append_assoc] at P3
  exact P3
set_option maxHeartbeats 40000000 in
set_option maxRecDepth 100000 in
theorem spec_AddBox.ok (k : Nat) (lim : Int) (A0 : Option Addr) (c0 : Nat) (xs : List S58) (tok : ByteArray) (mem : Int) (i0 : Nat) (w : World) (hr : Kd.C k58 w A0 xs.length xs) (hc : xs.length ≤ c0) (hv : spec_l04Is.f k lim xs = some true) (hi0 : i0 ≤ xs.length) (hf : spec_l04Find.f k lim xs tok = some (-1)) (hcp : spec_l04Copy.f k lim xs = some (lim, xs))
    (hlt : ∀ j x, j < i0 → xs[j]? = some x → Op.bytesLess x.f0.toList tok.toList = true) (hgt : ∀ x, xs[i0]? = some x → Op.bytesLess x.f0.toList tok.toList = false ∧ (x.f0.toList == tok.toList) = false) (hlen : xs.length ≤ 900) (ys : List S58) (hys : ys = xs.take i0 ++ ⟨tok, mem, 0, []⟩ :: xs.drop i0) (hg : spec_l04Is.f k lim ys = some true) :
    Calls Try.prog 61 #[.agg #[.int .i64 lim, .slice A0 xs.length c0], .string tok, .int .i64 mem] w fun e w' => ∃ D d, e = .returned (.tuple #[.agg #[.int .i64 lim, .slice D ys.length d], .bool true]) ∧ Kd.S k58 58 w' w.heap.size (fun _ => True) (.slice D ys.length d) ys ∧ Below w.heap.size w w' := by
 have hu52 := Try.underlying52
 have hu54 := Try.underlying54
 have hu56 := Try.underlying56
 have hu58 := Try.underlying58
 have hu97 := Try.underlying97
 have P := Pool.nil w
 go_enter Try.func61, Try.ntmps61
 have hj := decide_eq_false (show ¬ ((-1 : Int) ≥ 0) by decide)
 try go_wp2_with (first | ((with_reducible refine gate_dst (N := 3) rfl ?_); (try (refine gate_guard (by rfl) ?_; dsimp only)); refine bx_ 3 #[.int .i64 lim, .slice A0 xs.length c0] 54 ?_; intro g3 hg w1 hbox hb; replace P := P.box hg hbox hb; clear hb hbox hg; (try simp only [List.nil_append, List.cons_append, List.set_cons_zero, List.set_cons_succ] at P)) | ((with_reducible refine gate_dst (N := 6) rfl ?_); (try (refine gate_guard (by rfl) ?_; dsimp only)); refine bx_ 6 #[.int .i64 0, .slice none 0 0] 54 ?_; intro g6 hg w1 hbox hb; replace P := P.box hg hbox hb; clear hb hbox hg; (try simp only [List.nil_append, List.cons_append, List.set_cons_zero, List.set_cons_succ] at P)) | ((with_reducible refine gate_dst (N := 12) rfl ?_); (with_reducible refine gate_callee (f := 87) rfl ?_); refine goesL_ (some 12) rfl rfl Try.func87 s2_ rfl #[.pointer (some ⟨g3, 0, none⟩)] rfl s3_ ?_; refine (isP k lim P 0 rfl hr hc hv).mono ?_; clear P; rintro e w1 ⟨rfl, P⟩; refine ⟨_, rfl, ?_⟩; (try simp only [List.nil_append, List.cons_append, List.set_cons_zero, List.set_cons_succ] at P)))
 try go_wp2_with (fail)
 refine (findP k lim tok (-1) P 0 rfl hr hc hf).mono ?_
 clear P
 rintro e w1 ⟨rfl, P⟩
 obtain ⟨ce0, ce1, fe0, fe1⟩ := P.c2 0 rfl
 try go_wp2_with (first | ((with_reducible refine gate_dst (N := 20) rfl ?_); (with_reducible refine gate_callee (f := 89) rfl ?_); refine goesL_ (some 20) rfl rfl Try.func89 s2_ rfl #[.pointer (some ⟨g3, 0, none⟩)] rfl s3_ ?_; refine (copyP k lim P 0 rfl hr hc hcp).mono ?_; clear P; rintro e w1 ⟨D0, d0, rfl, P⟩; refine ⟨_, rfl, ?_⟩; (try simp only [List.nil_append, List.cons_append, List.set_cons_zero, List.set_cons_succ] at P)) | ((with_reducible refine gate_dst (N := 8) rfl ?_); (try (refine gate_guard (by rfl) ?_; dsimp only)); refine bx_ 8 #[.int .i64 0, .slice none 0 0] 54 ?_; intro g8 hg w1 hbox hb; replace P := P.box hg hbox hb; clear hb hbox hg; (try simp only [List.nil_append, List.cons_append, List.set_cons_zero, List.set_cons_succ] at P); obtain ⟨ce0, ce1, fe0, fe1⟩ := P.c2 3 rfl) | ((with_reducible refine gate_store (p := 8) rfl ?_); refine st2 P 3 rfl rfl rfl rfl (by go_simp; rfl) ?_; clear P; intro w1 P; (try simp only [List.nil_append, List.cons_append, List.set_cons_zero, List.set_cons_succ] at P); obtain ⟨ce0, ce1, fe0, fe1⟩ := P.c2 0 rfl) | ((with_reducible refine gate_dst (N := 23) rfl ?_); refine Kd.R_lit kB _ 58 ?hg (N := 23) ?hd (xs := []) (inner := []) (ok := fun _ => True) (okp := fun _ => True) ?hr ?hp (fun _ hk => hk) trivial (Below.refl _ _) (Nat.le_refl _) (by simp) ?_; (case hd => rfl); (case hg => rfl); (case hr => first | (go_simp; done) | (go_simp; rfl)); (case hp => exact (Reps.none _ _)); intro v_ w1 ho hb hg_ hnew_; obtain ⟨O, Oc, rfl, P2⟩ := newB P hb ho; clear P ho hb hg_ hnew_; have P := P2; clear P2; (try simp only [List.nil_append, List.cons_append, List.set_cons_zero, List.set_cons_succ] at P)) | ((with_reducible refine gate_dst (N := 9) rfl ?_); (try (refine gate_guard (by rfl) ?_; dsimp only)); refine bx_ 9 #[.int .i64 0, .slice none 0 0] 54 ?_; intro g9 hg w1 hbox hb; replace P := P.box hg hbox hb; clear hb hbox hg; (try simp only [List.nil_append, List.cons_append, List.set_cons_zero, List.set_cons_succ] at P); obtain ⟨ce0, ce1, fe0, fe1⟩ := P.c2 5 rfl) | ((with_reducible refine gate_store (p := 9) rfl ?_); refine st2 P 5 rfl rfl rfl rfl (by go_simp; rfl) ?_; clear P; intro w1 P; (try simp only [List.nil_append, List.cons_append, List.set_cons_zero, List.set_cons_succ] at P)))
 replace P : Pool w _ ([rbox g3 #[.int .i64 lim, .slice A0 xs.length c0] 54, rbox g6 #[.int .i64 0, .slice none 0 0] 54, rbox g8 #[.int .i64 lim, .slice D0 xs.length d0] 54, rbox g9 #[.int .i64 lim, .slice O 0 Oc] 54, rrow kB 58 w.heap.size (.slice O 0 Oc) []] ++ [rS w.heap.size D0 xs.length d0 xs]) := P.pick [0, 1, 3, 5, 4, 2] _ (by decide) rfl
 obtain ⟨ps, hps, P2⟩ := Pool.split P
 clear P; have P := P2; clear P2; (try simp only [List.nil_append, List.cons_append, List.set_cons_zero, List.set_cons_succ] at P)
 have HPS := Aside0.mk hps; have HPL := Aside0.mk (show ps.length = xs.length by rw [hps, List.length_map]); clear hps
 have HLE := Aside0.mk (And.intro hi0 hlen); clear hi0 hlen
 have HGT := Aside0.mk hgt; have HLT := Aside0.mk hlt; clear hgt hlt
 have HG := Aside0.mk hg; have HYS := Aside0.mk hys; clear hg hys
 go_loopg [10, 11] xs.length (fun kq v10 v11 w' => ∃ (put : Bool) (i : Nat) (bs : List SB) (rows : List Res) (D2 : Option Addr) (c2 : Nat), v10 = .bool put ∧ v11 = .int .i64 (i : Int) ∧ Aside0 (i + kq = xs.length) ∧ Aside0 (AddInv w.heap.size tok mem i0 ps put i bs rows) ∧ Pool w w' (rbox g3 #[.int .i64 lim, .slice A0 xs.length c0] 54 :: rbox g6 #[.int .i64 0, .slice none 0 0] 54 :: rbox g8 #[.int .i64 lim, .slice D0 xs.length d0] 54 :: rbox g9 #[.int .i64 lim, .slice D2 bs.length c2] 54 :: rrow kB 58 w.heap.size (.slice D2 bs.length c2) bs :: rrow kB 58 w.heap.size (.slice D0 xs.length d0) (ps.map Prod.fst) :: rows))
 case atStart => exact ⟨false, 0, [], _, O, Oc, rfl, rfl, ⟨by omega⟩, ⟨.inl ⟨rfl, Nat.zero_le _, rfl, rfl⟩⟩, P⟩
 case round =>
 clear P
 obtain ⟨put, i, bs, rows, D2, c2, rfl, rfl, HI, HV, P⟩ := hrel
 have HBL := Aside0.mk (show bs.length ≤ 1000 by have h1 := HV.out; have h2 := HLE.out.2; have h3 := HPL.out; have h4 := HI.out; have h5 := HLE.out.1; exact AddInv.len h1 (by omega) (by omega))
 cases gk with
 | succ k1 =>
 {
 have hi : i < ps.length := by have := HI.out; have := HPL.out; omega
 obtain ⟨G, cap, eg, -, -, -⟩ := Kd.R_form (P.rown 5 rfl) (by simp; omega)
 injection eg with e1 e2 e3
 subst e1 e3
 clear e2
 obtain ⟨p, hp⟩ : ∃ p, ps[i]? = some p := ⟨_, List.getElem?_eq_getElem hi⟩
 have HP := Aside0.mk hp
 have hpm : (ps.map Prod.fst)[i]? = some p.1 := by rw [List.getElem?_map, hp]; rfl
 have HPM := Aside0.mk hpm
 have hw1 : wrap64 ((i : Int) + 1) = ((i + 1 : Nat) : Int) := by have := HLE.out.2; have := HPL.out; unfold wrap64; omega
 have HW1 := Aside0.mk hw1
 have q1 : decide ((i : Int) < (xs.length : Int)) = true := decide_eq_true (by have := HPL.out; omega)
 have q2 : ((i : Int) < (xs.length : Int)) = True := eq_true (by have := HPL.out; omega)
 have HII := Aside0.mk hi
 clear hi hp hpm hw1
 obtain ⟨ce0, ce1, fe0, fe1⟩ := P.c2 2 rfl
 obtain ⟨ce0b, ce1b, fe0b, fe1b⟩ := P.c2 3 rfl
 have hxp : xs[i]? = some (entS p) := by rw [HPS.out, List.getElem?_map, HP.out]; rfl
 rcases HV.out with ⟨rfl, h1, h2, h3⟩ | ⟨rfl, h1, q, h0, h2, h3⟩
 {
 subst h3
 obtain ⟨x0, x1, x2, x3, -, -⟩ := Pool.bcell P 5 rfl i p.1 HPM.out
 by_cases h4 : i < i0
 {
 have hbl : Op.bytesLess p.1.f0.toList tok.toList = true := HLT.out i _ h4 hxp
 have H2 := Aside0.mk h2; have H4 := Aside0.mk h4; clear h1 h2 h4 hxp
 try go_wp2_with (fail)
 replace P := P.drew
 refine start_ (n := 11) (S := fun w' => C2 w' g8 (.int .i64 lim) (.slice (some ⟨G, 0, none⟩) xs.length d0) ∧ C2 w' g9 (.int .i64 lim) (.slice D2 bs.length c2) ∧ w'.cell? ⟨G, i * 4, none⟩ = some (.string p.1.f0) ∧ w'.cell? ⟨G, i * 4 + 1, none⟩ = some (.int .i64 p.1.f1) ∧ w'.cell? ⟨G, i * 4 + 2, none⟩ = some (.int .i64 p.1.f2) ∧ w'.cell? ⟨G, i * 4 + 3, none⟩ = some (.slice p.1.A p.1.n p.1.c)) (ds := [10]) #[false,false,false,false,false,false,false,false,false,false,false] s2_ rfl rfl ⟨P.held2 2 rfl, P.held2 3 rfl, cellsB P 5 rfl HPM.out⟩ (fun hHeld => ?_)
 generalize World.drew _ = w1 at P hHeld ⊢
 refine pure_ (i := 0) (N := some 53) (v := ?_) (a' := ?_) #[true,false,false,false,false,false,false,false,false,false,false] rfl rfl s2_ (fun _ _ _ h => h) (Or.inl ⟨by rfl, ?_⟩) ?_ ?_
 rotate_left
 { intro w'; go_simp; with_reducible rfl }
 rotate_left
 · exact p1_
 refine take_ (i := 1) (N := some 54) (v := ?_) (a' := ?_) #[true,true,false,false,false,false,false,false,false,false,false] rfl rfl s2_ (fun _ _ _ h => h) (Or.inl ⟨by rfl, ?_⟩) hHeld ?_ ?_
 rotate_left
 { rintro w' ⟨⟨s0, s1⟩, ⟨s2, s3⟩, s4, s5, s6, s7⟩; go_simp; with_reducible rfl }
 rotate_left
 · exact p1_
 refine pure_ (i := 2) (N := some 55) (v := ?_) (a' := ?_) #[true,true,true,false,false,false,false,false,false,false,false] rfl rfl s2_ (fun _ _ _ h => h) (Or.inl ⟨by rfl, ?_⟩) ?_ ?_
 rotate_left
 { intro w'; go_simp; with_reducible rfl }
 rotate_left
 · exact p1_
 refine take_ (i := 3) (N := some 56) (v := ?_) (a' := ?_) #[true,true,true,true,false,false,false,false,false,false,false] rfl rfl s2_ (fun _ _ _ h => h) (Or.inl ⟨by rfl, ?_⟩) hHeld ?_ ?_
 rotate_left
 { rintro w' ⟨⟨s0, s1⟩, ⟨s2, s3⟩, s4, s5, s6, s7⟩; go_simp; with_reducible rfl }
 rotate_left
 · exact p1_
 refine pure_ (i := 4) (N := some 57) (v := ?_) (a' := ?_) #[true,true,true,true,true,false,false,false,false,false,false] rfl rfl s2_ (fun _ _ _ h => h) (Or.inl ⟨by rfl, ?_⟩) ?_ ?_
 rotate_left
 { intro w'; go_simp; with_reducible rfl }
 rotate_left
 · exact p1_
 refine pure_ (i := 5) (N := some 58) (v := ?_) (a' := ?_) #[true,true,true,true,true,true,false,false,false,false,false] rfl rfl s2_ (fun _ _ _ h => h) (Or.inl ⟨by rfl, ?_⟩) ?_ ?_
 rotate_left
 { intro w'; go_simp; with_reducible rfl }
 rotate_left
 · exact p1_
 refine take_ (i := 6) (N := some 59) (v := ?_) (a' := ?_) #[true,true,true,true,true,true,true,false,false,false,false] rfl rfl s2_ (fun _ _ _ h => h) (Or.inl ⟨by rfl, ?_⟩) hHeld ?_ ?_
 rotate_left
 { rintro w' ⟨⟨s0, s1⟩, ⟨s2, s3⟩, s4, s5, s6, s7⟩; go_simp; with_reducible rfl }
 rotate_left
 · exact p1_
 refine one_ (i := 7) (N := some 60) #[true,true,true,true,true,true,true,true,false,false,false] rfl rfl s2_ (by decide) (fun K hK => ?_)
 refine value_ (v := .slice (some ⟨w1.heap.size, 0, none⟩) 1 1) (w1 := w1.alloc (.cells #[.string p.1.f0, .int .i64 p.1.f1, .int .i64 p.1.f2, .slice p.1.A p.1.n p.1.c] 58)) s2_ rfl (by first | (go_simp; done) | (go_simp; rfl)) ?_
 have P2 := P.below (below_alloc (Below.refl w1.heap.size w1) (.cells #[.string p.1.f0, .int .i64 p.1.f1, .int .i64 p.1.f2, .slice p.1.A p.1.n p.1.c] 58))
 refine hK.out _ _ ⟨P2.held2 2 rfl, P2.held2 3 rfl, cellsB P2 5 rfl HPM.out⟩ (fun hHeld => ?_)
 clear hK K P2
 refine norm_ (a' := ?_) ?_ ?_; rotate_left; { show Act.put _ (some 60) _ = _; simp only [Act.put, List.setIfInBounds_toArray, List.set_cons_zero, List.set_cons_succ, i64_w, i32_w]; rfl }
 refine one_ (i := 8) (N := some 61) #[true,true,true,true,true,true,true,true,true,false,false] rfl rfl s2_ (by decide) (fun K hK => ?_)
 refine pushB_step P 4 rfl p.1 (by rfl) (.tmp 54) (.tmp 60) rfl rfl rfl HBL.out ?_
 clear P hHeld; intro D3 c3 w1 b3 hb3 P; (try simp only [List.nil_append, List.cons_append, List.set_cons_zero, List.set_cons_succ] at P)
 have HB3 := Aside0.mk hb3; clear hb3
 refine hK.out _ _ ⟨P.held2 2 rfl, P.held2 3 rfl, cellsB P 5 rfl HPM.out⟩ (fun hHeld => ?_)
 clear hK K
 refine norm_ (a' := ?_) ?_ ?_; rotate_left; { show Act.put _ (some 61) _ = _; simp only [Act.put, List.setIfInBounds_toArray, List.set_cons_zero, List.set_cons_succ, i64_w, i32_w]; rfl }
 refine pure_ (i := 9) (N := some 62) (v := ?_) (a' := ?_) #[true,true,true,true,true,true,true,true,true,true,false] rfl rfl s2_ (fun _ _ _ h => h) (Or.inl ⟨by rfl, ?_⟩) ?_ ?_
 rotate_left
 { intro w'; go_simp; with_reducible rfl }
 rotate_left
 · exact p1_
 refine last_ (i := 10) (N := none) #[true,true,true,true,true,true,true,true,true,true,true] rfl rfl s2_ (by decide) (fun K hK => ?_)
 obtain ⟨ce0, ce1, fe0, fe1⟩ := P.c2 3 rfl
 have P2 := P.set1 (x := .slice D3 b3.length c3) (cs' := #[.int .i64 lim, .slice D3 b3.length c3]) 3 1 rfl rfl
 refine skip_ (w1 := ?_) (by rfl) rfl ?_ ?_; rotate_left; { go_simp; rfl }
 refine hK.out _ _ ?_
 clear hK K P
 revert P2; generalize World.setCell _ _ _ = w1; intro P
 (try simp only [List.nil_append, List.cons_append, List.set_cons_zero, List.set_cons_succ] at P)
 clear hHeld ce0 ce1 fe0 fe1
 refine done_ s2_ ?_
 try go_wp2_with (fail)
 go_roundg k1
 case measure => omega
 case rel => exact ⟨false, i + 1, b3, _, D3, c3, rfl, congrArg _ HW1.out, ⟨by have := HI.out; omega⟩, ⟨AddInv.s1 HP.out H4.out H2.out HB3.out⟩, P⟩
 }
 {
 have hie : i = i0 := by omega
 obtain ⟨hbl, hbe⟩ : Op.bytesLess p.1.f0.toList tok.toList = false ∧ (p.1.f0.toList == tok.toList) = false := HGT.out _ (by rw [← hie]; exact hxp)
 have H2 := Aside0.mk h2; have H4 := Aside0.mk hie; clear h1 h2 h4 hxp hie
 go_wp2_with (first | ((with_reducible refine gate_dst (N := 48) rfl ?_); refine Kd.R_lit k97 _ 97 ?hg (N := 48) ?hd (xs := []) (inner := []) (ok := fun _ => True) (okp := fun _ => True) ?hr ?hp (fun _ hk => hk) trivial (Below.refl _ _) (Nat.le_refl _) (by simp) ?_; (case hd => rfl); (case hg => rfl); (case hr => first | (go_simp; done) | (go_simp; rfl)); (case hp => exact (Reps.none _ _)); intro v_ w1 ho hb hg_ hnew_; obtain ⟨N, Nc, rfl, P2⟩ := newN P hb ho; clear P ho hb hg_ hnew_; have P := P2; clear P2; (try simp only [List.nil_append, List.cons_append, List.set_cons_zero, List.set_cons_succ] at P)) | ((with_reducible refine gate_builtin (b := .append) (xs := #[.tmp 45, .tmp 50]) rfl ?_); at_builtin; refine pushB P 4 rfl ⟨tok, mem, 0, N, 0, Nc⟩ rfl (.tmp 45) (.tmp 50) rfl rfl rfl (by have := HBL.out; omega) ?_; clear P; intro D4 c4 w1 b4 hb4 P; have HB4 := Aside0.mk hb4; clear hb4; (try simp only [List.nil_append, List.cons_append, List.set_cons_zero, List.set_cons_succ] at P); obtain ⟨ce0, ce1, fe0, fe1⟩ := P.c2 3 rfl) | ((with_reducible refine gate_store (p := 52) rfl ?_); refine stc P 3 1 (x := .slice D4 b4.length c4) (cs' := #[.int .i64 lim, .slice D4 b4.length c4]) rfl rfl rfl rfl rfl (by first | (go_simp; done) | (go_simp; rfl)) ?_; clear P; intro w1 P; (try simp only [List.nil_append, List.cons_append, List.set_cons_zero, List.set_cons_succ] at P); obtain ⟨ce0, ce1, fe0, fe1⟩ := P.c2 2 rfl; obtain ⟨ce0b, ce1b, fe0b, fe1b⟩ := P.c2 3 rfl))
 have HBL4 := Aside0.mk (show b4.length ≤ 1000 by rw [HB4.out, H2.out]; simp; have h2 := HLE.out.2; have h3 := HPL.out; omega)
 replace P := P.drew
 refine start_ (n := 11) (S := fun w' => C2 w' g8 (.int .i64 lim) (.slice (some ⟨G, 0, none⟩) xs.length d0) ∧ C2 w' g9 (.int .i64 lim) (.slice D4 b4.length c4) ∧ w'.cell? ⟨G, i * 4, none⟩ = some (.string p.1.f0) ∧ w'.cell? ⟨G, i * 4 + 1, none⟩ = some (.int .i64 p.1.f1) ∧ w'.cell? ⟨G, i * 4 + 2, none⟩ = some (.int .i64 p.1.f2) ∧ w'.cell? ⟨G, i * 4 + 3, none⟩ = some (.slice p.1.A p.1.n p.1.c)) (ds := [10]) #[false,false,false,false,false,false,false,false,false,false,false] s2_ rfl rfl ⟨P.held2 2 rfl, P.held2 3 rfl, cellsB P 5 rfl HPM.out⟩ (fun hHeld => ?_)
 generalize World.drew _ = w1 at P hHeld ⊢
 refine pure_ (i := 0) (N := some 53) (v := ?_) (a' := ?_) #[true,false,false,false,false,false,false,false,false,false,false] rfl rfl s2_ (fun _ _ _ h => h) (Or.inl ⟨by rfl, ?_⟩) ?_ ?_
 rotate_left
 { intro w'; go_simp; with_reducible rfl }
 rotate_left
 · exact p1_
 refine take_ (i := 1) (N := some 54) (v := ?_) (a' := ?_) #[true,true,false,false,false,false,false,false,false,false,false] rfl rfl s2_ (fun _ _ _ h => h) (Or.inl ⟨by rfl, ?_⟩) hHeld ?_ ?_
 rotate_left
 { rintro w' ⟨⟨s0, s1⟩, ⟨s2, s3⟩, s4, s5, s6, s7⟩; go_simp; with_reducible rfl }
 rotate_left
 · exact p1_
 refine pure_ (i := 2) (N := some 55) (v := ?_) (a' := ?_) #[true,true,true,false,false,false,false,false,false,false,false] rfl rfl s2_ (fun _ _ _ h => h) (Or.inl ⟨by rfl, ?_⟩) ?_ ?_
 rotate_left
 { intro w'; go_simp; with_reducible rfl }
 rotate_left
 · exact p1_
 refine take_ (i := 3) (N := some 56) (v := ?_) (a' := ?_) #[true,true,true,true,false,false,false,false,false,false,false] rfl rfl s2_ (fun _ _ _ h => h) (Or.inl ⟨by rfl, ?_⟩) hHeld ?_ ?_
 rotate_left
 { rintro w' ⟨⟨s0, s1⟩, ⟨s2, s3⟩, s4, s5, s6, s7⟩; go_simp; with_reducible rfl }
 rotate_left
 · exact p1_
 refine pure_ (i := 4) (N := some 57) (v := ?_) (a' := ?_) #[true,true,true,true,true,false,false,false,false,false,false] rfl rfl s2_ (fun _ _ _ h => h) (Or.inl ⟨by rfl, ?_⟩) ?_ ?_
 rotate_left
 { intro w'; go_simp; with_reducible rfl }
 rotate_left
 · exact p1_
 refine pure_ (i := 5) (N := some 58) (v := ?_) (a' := ?_) #[true,true,true,true,true,true,false,false,false,false,false] rfl rfl s2_ (fun _ _ _ h => h) (Or.inl ⟨by rfl, ?_⟩) ?_ ?_
 rotate_left
 { intro w'; go_simp; with_reducible rfl }
 rotate_left
 · exact p1_
 refine take_ (i := 6) (N := some 59) (v := ?_) (a' := ?_) #[true,true,true,true,true,true,true,false,false,false,false] rfl rfl s2_ (fun _ _ _ h => h) (Or.inl ⟨by rfl, ?_⟩) hHeld ?_ ?_
 rotate_left
 { rintro w' ⟨⟨s0, s1⟩, ⟨s2, s3⟩, s4, s5, s6, s7⟩; go_simp; with_reducible rfl }
 rotate_left
 · exact p1_
 refine one_ (i := 7) (N := some 60) #[true,true,true,true,true,true,true,true,false,false,false] rfl rfl s2_ (by decide) (fun K hK => ?_)
 refine value_ (v := .slice (some ⟨w1.heap.size, 0, none⟩) 1 1) (w1 := w1.alloc (.cells #[.string p.1.f0, .int .i64 p.1.f1, .int .i64 p.1.f2, .slice p.1.A p.1.n p.1.c] 58)) s2_ rfl (by first | (go_simp; done) | (go_simp; rfl)) ?_
 have P2 := P.below (below_alloc (Below.refl w1.heap.size w1) (.cells #[.string p.1.f0, .int .i64 p.1.f1, .int .i64 p.1.f2, .slice p.1.A p.1.n p.1.c] 58))
 refine hK.out _ _ ⟨P2.held2 2 rfl, P2.held2 3 rfl, cellsB P2 5 rfl HPM.out⟩ (fun hHeld => ?_)
 clear hK K P2
 refine norm_ (a' := ?_) ?_ ?_; rotate_left; { show Act.put _ (some 60) _ = _; simp only [Act.put, List.setIfInBounds_toArray, List.set_cons_zero, List.set_cons_succ, i64_w, i32_w]; rfl }
 refine one_ (i := 8) (N := some 61) #[true,true,true,true,true,true,true,true,true,false,false] rfl rfl s2_ (by decide) (fun K hK => ?_)
 refine pushB_step P 4 rfl p.1 (by rfl) (.tmp 54) (.tmp 60) rfl rfl rfl HBL4.out ?_
 clear P hHeld; intro D3 c3 w1 b3 hb3 P; (try simp only [List.nil_append, List.cons_append, List.set_cons_zero, List.set_cons_succ] at P)
 have HB3 := Aside0.mk hb3; clear hb3
 refine hK.out _ _ ⟨P.held2 2 rfl, P.held2 3 rfl, cellsB P 5 rfl HPM.out⟩ (fun hHeld => ?_)
 clear hK K
 refine norm_ (a' := ?_) ?_ ?_; rotate_left; { show Act.put _ (some 61) _ = _; simp only [Act.put, List.setIfInBounds_toArray, List.set_cons_zero, List.set_cons_succ, i64_w, i32_w]; rfl }
 refine pure_ (i := 9) (N := some 62) (v := ?_) (a' := ?_) #[true,true,true,true,true,true,true,true,true,true,false] rfl rfl s2_ (fun _ _ _ h => h) (Or.inl ⟨by rfl, ?_⟩) ?_ ?_
 rotate_left
 { intro w'; go_simp; with_reducible rfl }
 rotate_left
 · exact p1_
 refine last_ (i := 10) (N := none) #[true,true,true,true,true,true,true,true,true,true,true] rfl rfl s2_ (by decide) (fun K hK => ?_)
 obtain ⟨ce0, ce1, fe0, fe1⟩ := P.c2 3 rfl
 have P2 := P.set1 (x := .slice D3 b3.length c3) (cs' := #[.int .i64 lim, .slice D3 b3.length c3]) 3 1 rfl rfl
 refine skip_ (w1 := ?_) (by rfl) rfl ?_ ?_; rotate_left; { go_simp; rfl }
 refine hK.out _ _ ?_
 clear hK K P
 revert P2; generalize World.setCell _ _ _ = w1; intro P
 (try simp only [List.nil_append, List.cons_append, List.set_cons_zero, List.set_cons_succ] at P)
 clear hHeld ce0 ce1 fe0 fe1
 refine done_ s2_ ?_
 try go_wp2_with (fail)
 go_roundg k1
 case measure => omega
 case rel => exact ⟨true, i + 1, b3, _, D3, c3, rfl, congrArg _ HW1.out, ⟨by have := HI.out; omega⟩, ⟨AddInv.s2 (q := (⟨tok, mem, 0, N, 0, Nc⟩, [])) HP.out H4.out rfl H2.out HB4.out HB3.out⟩, P⟩
 }
 }
 {
 subst h3
 have H2 := Aside0.mk h2; have H4 := Aside0.mk h1; have H0 := Aside0.mk h0; clear h1 h2 h0 hxp
 try go_wp2_with (fail)
 replace P := P.drew
 refine start_ (n := 11) (S := fun w' => C2 w' g8 (.int .i64 lim) (.slice (some ⟨G, 0, none⟩) xs.length d0) ∧ C2 w' g9 (.int .i64 lim) (.slice D2 bs.length c2) ∧ w'.cell? ⟨G, i * 4, none⟩ = some (.string p.1.f0) ∧ w'.cell? ⟨G, i * 4 + 1, none⟩ = some (.int .i64 p.1.f1) ∧ w'.cell? ⟨G, i * 4 + 2, none⟩ = some (.int .i64 p.1.f2) ∧ w'.cell? ⟨G, i * 4 + 3, none⟩ = some (.slice p.1.A p.1.n p.1.c)) (ds := [10]) #[false,false,false,false,false,false,false,false,false,false,false] s2_ rfl rfl ⟨P.held2 2 rfl, P.held2 3 rfl, cellsB P 5 rfl HPM.out⟩ (fun hHeld => ?_)
 generalize World.drew _ = w1 at P hHeld ⊢
 refine pure_ (i := 0) (N := some 53) (v := ?_) (a' := ?_) #[true,false,false,false,false,false,false,false,false,false,false] rfl rfl s2_ (fun _ _ _ h => h) (Or.inl ⟨by rfl, ?_⟩) ?_ ?_
 rotate_left
 { intro w'; go_simp; with_reducible rfl }
 rotate_left
 · exact p1_
 refine take_ (i := 1) (N := some 54) (v := ?_) (a' := ?_) #[true,true,false,false,false,false,false,false,false,false,false] rfl rfl s2_ (fun _ _ _ h => h) (Or.inl ⟨by rfl, ?_⟩) hHeld ?_ ?_
 rotate_left
 { rintro w' ⟨⟨s0, s1⟩, ⟨s2, s3⟩, s4, s5, s6, s7⟩; go_simp; with_reducible rfl }
 rotate_left
 · exact p1_
 refine pure_ (i := 2) (N := some 55) (v := ?_) (a' := ?_) #[true,true,true,false,false,false,false,false,false,false,false] rfl rfl s2_ (fun _ _ _ h => h) (Or.inl ⟨by rfl, ?_⟩) ?_ ?_
 rotate_left
 { intro w'; go_simp; with_reducible rfl }
 rotate_left
 · exact p1_
 refine take_ (i := 3) (N := some 56) (v := ?_) (a' := ?_) #[true,true,true,true,false,false,false,false,false,false,false] rfl rfl s2_ (fun _ _ _ h => h) (Or.inl ⟨by rfl, ?_⟩) hHeld ?_ ?_
 rotate_left
 { rintro w' ⟨⟨s0, s1⟩, ⟨s2, s3⟩, s4, s5, s6, s7⟩; go_simp; with_reducible rfl }
 rotate_left
 · exact p1_
 refine pure_ (i := 4) (N := some 57) (v := ?_) (a' := ?_) #[true,true,true,true,true,false,false,false,false,false,false] rfl rfl s2_ (fun _ _ _ h => h) (Or.inl ⟨by rfl, ?_⟩) ?_ ?_
 rotate_left
 { intro w'; go_simp; with_reducible rfl }
 rotate_left
 · exact p1_
 refine pure_ (i := 5) (N := some 58) (v := ?_) (a' := ?_) #[true,true,true,true,true,true,false,false,false,false,false] rfl rfl s2_ (fun _ _ _ h => h) (Or.inl ⟨by rfl, ?_⟩) ?_ ?_
 rotate_left
 { intro w'; go_simp; with_reducible rfl }
 rotate_left
 · exact p1_
 refine take_ (i := 6) (N := some 59) (v := ?_) (a' := ?_) #[true,true,true,true,true,true,true,false,false,false,false] rfl rfl s2_ (fun _ _ _ h => h) (Or.inl ⟨by rfl, ?_⟩) hHeld ?_ ?_
 rotate_left
 { rintro w' ⟨⟨s0, s1⟩, ⟨s2, s3⟩, s4, s5, s6, s7⟩; go_simp; with_reducible rfl }
 rotate_left
 · exact p1_
 refine one_ (i := 7) (N := some 60) #[true,true,true,true,true,true,true,true,false,false,false] rfl rfl s2_ (by decide) (fun K hK => ?_)
 refine value_ (v := .slice (some ⟨w1.heap.size, 0, none⟩) 1 1) (w1 := w1.alloc (.cells #[.string p.1.f0, .int .i64 p.1.f1, .int .i64 p.1.f2, .slice p.1.A p.1.n p.1.c] 58)) s2_ rfl (by first | (go_simp; done) | (go_simp; rfl)) ?_
 have P2 := P.below (below_alloc (Below.refl w1.heap.size w1) (.cells #[.string p.1.f0, .int .i64 p.1.f1, .int .i64 p.1.f2, .slice p.1.A p.1.n p.1.c] 58))
 refine hK.out _ _ ⟨P2.held2 2 rfl, P2.held2 3 rfl, cellsB P2 5 rfl HPM.out⟩ (fun hHeld => ?_)
 clear hK K P2
 refine norm_ (a' := ?_) ?_ ?_; rotate_left; { show Act.put _ (some 60) _ = _; simp only [Act.put, List.setIfInBounds_toArray, List.set_cons_zero, List.set_cons_succ, i64_w, i32_w]; rfl }
 refine one_ (i := 8) (N := some 61) #[true,true,true,true,true,true,true,true,true,false,false] rfl rfl s2_ (by decide) (fun K hK => ?_)
 refine pushB_step P 4 rfl p.1 (by rfl) (.tmp 54) (.tmp 60) rfl rfl rfl HBL.out ?_
 clear P hHeld; intro D3 c3 w1 b3 hb3 P; (try simp only [List.nil_append, List.cons_append, List.set_cons_zero, List.set_cons_succ] at P)
 have HB3 := Aside0.mk hb3; clear hb3
 refine hK.out _ _ ⟨P.held2 2 rfl, P.held2 3 rfl, cellsB P 5 rfl HPM.out⟩ (fun hHeld => ?_)
 clear hK K
 refine norm_ (a' := ?_) ?_ ?_; rotate_left; { show Act.put _ (some 61) _ = _; simp only [Act.put, List.setIfInBounds_toArray, List.set_cons_zero, List.set_cons_succ, i64_w, i32_w]; rfl }
 refine pure_ (i := 9) (N := some 62) (v := ?_) (a' := ?_) #[true,true,true,true,true,true,true,true,true,true,false] rfl rfl s2_ (fun _ _ _ h => h) (Or.inl ⟨by rfl, ?_⟩) ?_ ?_
 rotate_left
 { intro w'; go_simp; with_reducible rfl }
 rotate_left
 · exact p1_
 refine last_ (i := 10) (N := none) #[true,true,true,true,true,true,true,true,true,true,true] rfl rfl s2_ (by decide) (fun K hK => ?_)
 obtain ⟨ce0, ce1, fe0, fe1⟩ := P.c2 3 rfl
 have P2 := P.set1 (x := .slice D3 b3.length c3) (cs' := #[.int .i64 lim, .slice D3 b3.length c3]) 3 1 rfl rfl
 refine skip_ (w1 := ?_) (by rfl) rfl ?_ ?_; rotate_left; { go_simp; rfl }
 refine hK.out _ _ ?_
 clear hK K P
 revert P2; generalize World.setCell _ _ _ = w1; intro P
 (try simp only [List.nil_append, List.cons_append, List.set_cons_zero, List.set_cons_succ] at P)
 clear hHeld ce0 ce1 fe0 fe1
 refine done_ s2_ ?_
 try go_wp2_with (fail)
 go_roundg k1
 case measure => omega
 case rel => exact ⟨true, i + 1, b3, _, D3, c3, rfl, congrArg _ HW1.out, ⟨by have := HI.out; omega⟩, ⟨AddInv.s3 HP.out H4.out H0.out H2.out HB3.out⟩, P⟩
 }
 }
 | zero =>
 {
 have q1 : decide ((i : Int) < (xs.length : Int)) = false := decide_eq_false (by have := HI.out; omega)
 have q2 : decide (i < xs.length) = false := decide_eq_false (by have := HI.out; omega)
 rcases HV.out with ⟨rfl, h1, h2, h3⟩ | ⟨rfl, h1, q, h0, h2, h3⟩
 {
 subst h3
 have hie : i0 = ps.length := by have := HI.out; have := HPL.out; have := HLE.out.1; omega
 have H2 := Aside0.mk h2; have HIE := Aside0.mk hie; clear h1 h2 hie
 obtain ⟨ce0, ce1, fe0, fe1⟩ := P.c2 2 rfl
 obtain ⟨ce0b, ce1b, fe0b, fe1b⟩ := P.c2 3 rfl
 go_wp2_with (first | ((with_reducible refine gate_dst (N := 69) rfl ?_); refine Kd.R_lit k97 _ 97 ?hg (N := 69) ?hd (xs := []) (inner := []) (ok := fun _ => True) (okp := fun _ => True) ?hr ?hp (fun _ hk => hk) trivial (Below.refl _ _) (Nat.le_refl _) (by simp) ?_; (case hd => rfl); (case hg => rfl); (case hr => first | (go_simp; done) | (go_simp; rfl)); (case hp => exact (Reps.none _ _)); intro v_ w1 ho hb hg_ hnew_; obtain ⟨N, Nc, rfl, P2⟩ := newN P hb ho; clear P ho hb hg_ hnew_; have P := P2; clear P2; (try simp only [List.nil_append, List.cons_append, List.set_cons_zero, List.set_cons_succ] at P)) | ((with_reducible refine gate_builtin (b := .append) (xs := #[.tmp 66, .tmp 71]) rfl ?_); at_builtin; refine pushB P 4 rfl ⟨tok, mem, 0, N, 0, Nc⟩ rfl (.tmp 66) (.tmp 71) rfl rfl rfl (by have := HBL.out; omega) ?_; clear P; intro D4 c4 w1 b4 hb4 P; have HB4 := Aside0.mk hb4; clear hb4; (try simp only [List.nil_append, List.cons_append, List.set_cons_zero, List.set_cons_succ] at P); obtain ⟨ce0, ce1, fe0, fe1⟩ := P.c2 3 rfl) | ((with_reducible refine gate_store (p := 73) rfl ?_); refine stc P 3 1 (x := .slice D4 b4.length c4) (cs' := #[.int .i64 lim, .slice D4 b4.length c4]) rfl rfl rfl rfl rfl (by first | (go_simp; done) | (go_simp; rfl)) ?_; clear P; intro w1 P; (try simp only [List.nil_append, List.cons_append, List.set_cons_zero, List.set_cons_succ] at P); have HE := Aside0.mk (show ys = (ps.take i0 ++ (⟨tok, mem, 0, N, 0, Nc⟩, []) :: ps.drop i0).map entS from AddInv.e HPS.out HYS.out rfl); have HB5 := Aside0.mk (show b4 = (ps.take i0 ++ (⟨tok, mem, 0, N, 0, Nc⟩, []) :: ps.drop i0).map Prod.fst from AddInv.f H2.out (by have := HI.out; have := HPL.out; omega) HIE.out HB4.out); have P2 := addDone P HB5.out rfl; clear P; have P := P2; clear P2; rw [← HE.out] at P; obtain ⟨ce0, ce1, fe0, fe1⟩ := P.c2 3 rfl; obtain ⟨ce0b, ce1b, fe0b, fe1b⟩ := P.c2 1 rfl) | ((with_reducible refine gate_dst (N := 75) rfl ?_); (with_reducible refine gate_callee (f := 90) rfl ?_); refine goesL_ (some 75) rfl rfl Try.func90 s2_ rfl #[.agg #[.int .i64 lim, .slice D4 b4.length c4]] rfl s3_ ?_; refine (giveP k lim P 4 rfl HG.out).mono ?_; clear P; rintro e w1 ⟨rfl, P⟩; refine ⟨_, rfl, ?_⟩; (try simp only [List.nil_append, List.cons_append, List.set_cons_zero, List.set_cons_succ] at P); obtain ⟨ce0, ce1, fe0, fe1⟩ := P.c2 1 rfl) | ((with_reducible refine gate_store (p := 6) rfl ?_); refine st2 P 1 rfl rfl rfl rfl (by go_simp; rfl) ?_; clear P; intro w1 P; (try simp only [List.nil_append, List.cons_append, List.set_cons_zero, List.set_cons_succ] at P)))
 refine bodyPost_ret (results_list (rs := [.cell 6 54, .tmp 7]) rfl (by simp) (.cell g6 54 #[.int .i64 lim, .slice D4 b4.length c4] (0, 0) _ rfl (P.cell 1 rfl) Try.underlying54 rfl s2_ (.tmp .nil))) rfl ?_
 obtain ⟨hn, hd, -⟩ := rS_at P 4 rfl
 obtain ⟨ok_, hS⟩ := P.get 4 _ rfl
 have hS2 : Kd.S k58 58 _ w.heap.size ok_ (.slice D4 b4.length c4) ys := hS
 rw [hn] at hS2 ⊢
 exact ⟨_, _, rfl, Kd.S_mono hS2 (fun _ _ => trivial), P.1⟩
 }
 {
 subst h3
 have HE := Aside0.mk (show ys = (ps.take i0 ++ q :: ps.drop i0).map entS from AddInv.e HPS.out HYS.out h0)
 have HB5 := Aside0.mk (show bs = (ps.take i0 ++ q :: ps.drop i0).map Prod.fst by rw [h2, List.take_of_length_le (show ps.length ≤ i by have := HI.out; have := HPL.out; omega)])
 clear h1 h2 h0
 have P2 := addDone P HB5.out rfl; clear P; have P := P2; clear P2; rw [← HE.out] at P; obtain ⟨ce0, ce1, fe0, fe1⟩ := P.c2 3 rfl; obtain ⟨ce0b, ce1b, fe0b, fe1b⟩ := P.c2 1 rfl
 obtain ⟨ce0c, ce1c, fe0c, fe1c⟩ := P.c2 2 rfl
 go_wp2_with (first | ((with_reducible refine gate_dst (N := 75) rfl ?_); (with_reducible refine gate_callee (f := 90) rfl ?_); refine goesL_ (some 75) rfl rfl Try.func90 s2_ rfl #[.agg #[.int .i64 lim, .slice D2 bs.length c2]] rfl s3_ ?_; refine (giveP k lim P 4 rfl HG.out).mono ?_; clear P; rintro e w1 ⟨rfl, P⟩; refine ⟨_, rfl, ?_⟩; (try simp only [List.nil_append, List.cons_append, List.set_cons_zero, List.set_cons_succ] at P); obtain ⟨ce0, ce1, fe0, fe1⟩ := P.c2 1 rfl) | ((with_reducible refine gate_store (p := 6) rfl ?_); refine st2 P 1 rfl rfl rfl rfl (by go_simp; rfl) ?_; clear P; intro w1 P; (try simp only [List.nil_append, List.cons_append, List.set_cons_zero, List.set_cons_succ] at P)))
 refine bodyPost_ret (results_list (rs := [.cell 6 54, .tmp 7]) rfl (by simp) (.cell g6 54 #[.int .i64 lim, .slice D2 bs.length c2] (0, 0) _ rfl (P.cell 1 rfl) Try.underlying54 rfl s2_ (.tmp .nil))) rfl ?_
 obtain ⟨hn, hd, -⟩ := rS_at P 4 rfl
 obtain ⟨ok_, hS⟩ := P.get 4 _ rfl
 have hS2 : Kd.S k58 58 _ w.heap.size ok_ (.slice D2 bs.length c2) ys := hS
 rw [hn] at hS2 ⊢
 exact ⟨_, _, rfl, Kd.S_mono hS2 (fun _ _ => trivial), P.1⟩
 }
 }

end Go.Proofs.Ytdanachjdfiegaa.QFnTaken
