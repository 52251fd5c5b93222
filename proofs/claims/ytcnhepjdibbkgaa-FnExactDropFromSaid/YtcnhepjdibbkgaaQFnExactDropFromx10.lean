-- by hand, over one pool
import Derived.Test.YtcnhepjdibbkgaaQFnExactDropFromx0
import Derived.Test.YtcnhepjdibbkgaaQFnExactDropFromx6
import Derived.Test.YtcnhepjdibbkgaaQFnExactDropFromx7
import Derived.Test.YtcnhepjdibbkgaaQFnExactDropFromx8
import Derived.Test.YtcnhepjdibbkgaaPl
import Derived.Test.YtcnhepjdibbkgaaCl
namespace Go.Proofs.Ytcnhepjdibbkgaa.QFnExactDropFrom
open Go.RowKit Go.Proofs.YtcnhepjdibbkgaaW.PrintWords Go.Proofs.YtcnhepjdibbkgaaW.PrintLast Go.Proofs.YtcnhepjdibbkgaaW.PrintMore
attribute [local go_sem] max2_int min2_int max_two min_two max_three min_three max_four min_four   -- for this text's walks alone
set_option linter.unusedVariables false
set_option linter.unusedSimpArgs false
/-- What holds while a row of one's own is thinned out in place. -/
structure Thin {α : Type} (d : Kd α) (e : Nat) (w0 w : World) (S : Nat → Prop) (v : Value) (xs : List α) (wc : World) : Prop where
  r : d.R e wc w0.heap.size S v xs
  l : Below w0.heap.size w0 wc
  k : Kept w wc S
section
variable {α : Type} {d : Kd α} {e g1 : Nat} {o : Obj} {w0 w wc w1 : World} {S : Nat → Prop} {v v' : Value} {xs ys : List α}
theorem Thin.below (s : Thin d e w0 w S v xs wc) (hb : Below wc.heap.size wc w1) : Thin d e w0 w S v xs w1 := ⟨Kd.R_below s.r hb, below_step s.l hb, s.k.below hb⟩
theorem Thin.box (s : Thin d e w0 w S v xs wc) (hb : w.heap[g1]? = some o) (hne : ¬ S g1) : wc.heap[g1]? = some o := blk_kept hb s.k hne
theorem Thin.grown (s : Thin d e w0 w S v xs wc) (hg : wc.grownBy w1 v.ownBlock) (hr : d.R e w1 w0.heap.size S v' ys) : Thin d e w0 w S v' ys w1 :=
  ⟨hr, s.l.grown hg (below_size s.l) (fun k hk => Kd.R_base s.r k hk), Kept.of_grown hg s.k (fun k e => .inl (s.r.1 k e))⟩
end
/-- DeleteFunc over numbers: those that are the captured one go. -/
def slices_DelI.l0 : Nat → List Int → Int → Int → Int → Option (List Int)
  | 0, _, _, _, _ => none
  | k + 1, x, i, j, q => if j < (x.length : Int) then (if 0 ≤ j then (if (rd x j == q) = true then (slices_DelI.l0 k x i (wrap64 (j + 1)) q) else (if 0 ≤ i then (if i < (x.length : Int) then (slices_DelI.l0 k (x.set i.toNat (rd x j)) (wrap64 (i + 1)) (wrap64 (j + 1)) q) else none) else none)) else none) else (if 0 ≤ i then (if i ≤ (x.length : Int) then some ((x.take i.toNat ++ List.replicate (x.length - i.toNat) 0).take i.toNat) else none) else none)
def slices_DelI.f (k : Nat) (x : List Int) (q : Int) : Option (List Int) := (slices_IndexFunc_int64_int64_v2.f k x q).bind fun t => (if t = (-1) then some x else (slices_DelI.l0 k x t (wrap64 (t + 1)) q))
set_option maxHeartbeats 8000000 in
set_option maxRecDepth 100000 in
theorem slices_DelI.calls (k : Nat) (A : Option Addr) (c : Nat) (x : List Int) (g1 : Nat) (q : Int) (r : List Int) (w0 w : World) (S : Nat → Prop) (hB : Below w0.heap.size w0 w) (hb1 : w.heap[g1]? = some (.cells #[.int .i64 q] 2 (0, 0))) (hne : ¬ S g1) (ho : (Kd.int .i64).R 2 w w0.heap.size S (.slice A x.length c) x) (h : slices_DelI.f k x q = some r) :
    Calls Try.prog 82 #[.slice A x.length c, .func (.func 83) #[] #[.pointer (some ⟨g1, 0, none⟩)]] w fun e w' => e = .returned (.slice A r.length c) ∧ Thin (Kd.int .i64) 2 w0 w S (.slice A r.length c) r w' := by
 have s := A_ (show Thin (Kd.int .i64) 2 w0 w S (.slice A x.length c) x w from ⟨ho, hB, Kept.refl w S⟩)
 have HB1 := A_ hb1
 have HN := A_ hne
 clear ho hB hb1 hne
 unfold slices_DelI.f at h
 obtain ⟨t, ht, H⟩ := Option.bind_eq_some_iff.mp h
 clear h
 by_cases c4 : t = -1
 {
 rw [if_pos c4] at H
 have c4b0 : (t == (-1)) = true := beq_iff_eq.mpr c4
 have c4b1 : (t != (-1)) = false := bne_eq_false_iff_eq.mpr c4
 clear c4
 obtain rfl := Option.some.inj H
 go_enter Try.func82, Try.ntmps82
 go_wp2_with (first | ((with_reducible refine gate_callee (f := 103) rfl ?_); refine goesL_ (some 10) rfl rfl Try.func103 s2_ rfl #[.slice A x.length c, .func (.func 83) #[] #[.pointer (some ⟨g1, 0, none⟩)]] rfl s3_ ?_; refine (slices_IndexFunc_int64_int64_v2.calls k _ _ x g1 q t _ HB1.out (Kd.R_reads' s.out.r).2.2 (Kd.R_reads' s.out.r).2.1 ht).mono ?_; rintro e w1 ⟨rfl, hb⟩; refine ⟨_, rfl, ?_⟩; replace s := A_ (s.out.below hb); clear hb))
 go_ret
 exact ⟨rfl, s.out⟩}
 {
 rw [if_neg c4] at H
 have c4b0 : (t == (-1)) = false := beq_eq_false_iff_ne.mpr c4
 have c4b1 : (t != (-1)) = true := bne_iff_ne.mpr c4
 clear c4
 have H' := A_ H
 clear H
 go_enter Try.func82, Try.ntmps82
 go_wp2_with (first | ((with_reducible refine gate_callee (f := 103) rfl ?_); refine goesL_ (some 10) rfl rfl Try.func103 s2_ rfl #[.slice A x.length c, .func (.func 83) #[] #[.pointer (some ⟨g1, 0, none⟩)]] rfl s3_ ?_; refine (slices_IndexFunc_int64_int64_v2.calls k _ _ x g1 q t _ HB1.out (Kd.R_reads' s.out.r).2.2 (Kd.R_reads' s.out.r).2.1 ht).mono ?_; rintro e w1 ⟨rfl, hb⟩; refine ⟨_, rfl, ?_⟩; replace s := A_ (s.out.below hb); clear hb))
 go_loopg [5, 6] k (fun kq v5 v6 w' => ∃ (y : List Int) (i j : Int), v5 = .int .i64 i ∧ v6 = .int .i64 j ∧ Aside0 (slices_DelI.l0 kq y i j q = some r) ∧ Aside0 (kq ≤ k) ∧ Aside0 (Thin (Kd.int .i64) 2 w0 w S (.slice A x.length c) y w'))
 case atStart => exact ⟨x, t, wrap64 (t + 1), s1_, s1_, H', ⟨Nat.le_refl _⟩, s⟩
 case round =>
 clear H' s ht
 try clear c4b0
 try clear c4b1
 obtain ⟨y, i, j, rfl, rfl, HA, HK1, s⟩ := hrel
 have hl := (Kd.R_reads' s.out.r).1
 have s1 := s.out
 rw [hl] at s1
 have s' := A_ s1
 clear s s1
 simp only [hl]
 cases gk with
 | zero => exact absurd HA.out (by simp [slices_DelI.l0])
 | succ k1 =>
 have H := HA.out
 clear HA
 simp only [slices_DelI.l0] at H
 by_cases c9 : j < (y.length : Int)
 {
 rw [if_pos c9] at H
 by_cases c10 : 0 ≤ j
 {
 rw [if_pos c10] at H
 obtain ⟨g, cap, eg, hg0, hg1, hg2⟩ := Kd.R_form s'.out.r (by omega)
 injection eg with e1 e2 e3
 subst e1
 subst e3
 obtain ⟨ad, ea, hx⟩ := Kd.at_int (Kd.R_reads' s'.out.r).2.2 j c10 c9
 cases ea
 simp only [add_plain] at hx
 have c9b := decide_eq_true c9
 have c10b := decide_eq_true c10
 have hB2 := s'.out.box HB1.out HN.out
 have GB := A_ hg0
 clear hg0 hg1 hg2 e2
 by_cases c12 : (rd y j == q) = true
 {
 rw [if_pos c12] at H
 have H' := A_ H
 have HP : impl_DropFrom_1_v3.f (rd y j) q = some true := congrArg some c12
 clear H c12
 replace c9 := eq_true c9
 replace c10 := eq_true c10
 go_wp2_with (first | (go_at_call 83; refine (impl_DropFrom_1_v3.calls (rd y j) g1 q true _ hB2 HP).mono ?_; rintro e w1 ⟨rfl, hb⟩; replace s' := A_ (s'.out.below hb); clear hb))
 simp only [← hl]
 go_roundg k1
 case measure => have := HK1.out; omega
 case rel => exact ⟨y, i, wrap64 (j + 1), s1_, s1_, H', ⟨by have := HK1.out; omega⟩, by rw [hl]; exact s'⟩}
 {
 rw [if_neg c12] at H
 have HP : impl_DropFrom_1_v3.f (rd y j) q = some false := congrArg some ((Bool.not_eq_true _).mp c12)
 clear c12
 by_cases c17 : 0 ≤ i
 {
 rw [if_pos c17] at H
 by_cases c18 : i < (y.length : Int)
 {
 rw [if_pos c18] at H
 have H' := A_ H
 clear H
 have c17b := decide_eq_true c17
 have c18b := decide_eq_true c18
 have HC17 := A_ c17
 have HC18 := A_ c18
 replace c9 := eq_true c9
 replace c10 := eq_true c10
 replace c17 := eq_true c17
 replace c18 := eq_true c18
 go_wp2_with (first | (go_at_call 83; refine (impl_DropFrom_1_v3.calls (rd y j) g1 q false _ hB2 HP).mono ?_; rintro e w1 ⟨rfl, hb⟩; replace s' := A_ (s'.out.below hb); clear hb; obtain ⟨ce, hcl, hM, hcc, hfr⟩ := Kd.R_elem s'.out.r 0 i HC17.out HC18.out; obtain rfl : ce = [.int .i64 (rd y i)] := hM; have hx2 := hcc 0 _ rfl; have hf2 := hfr 0; simp only [show (Kd.int .i64).sz = 1 from rfl, Nat.mul_one, Nat.add_zero] at hx2 hf2; clear hcl hcc hfr) | ((with_reducible refine gate_store (t := 2) (p := 33) rfl ?_); refine store_event (t := 2) (p := 33) (w1 := World.setCell _ ⟨g, i.toNat, none⟩ (.int .i64 (rd y j))) rfl rfl rfl (by first | (go_simp; done) | (go_simp; rfl)) ?_; intro w2 hw; have hp := Kd.R_putg s'.out.r i (rd y j); have hp' : (Kd.int .i64).R 2 w2 w0.heap.size S (.slice (some ⟨g, 0, none⟩) y.length c) (y.set i.toNat (rd y j)) ∧ World.grownBy _ w2 (some g) := (by rw [hw]; exact hp); replace s' := A_ (s'.out.grown hp'.2 hp'.1); clear hp hp' hw hx2 hf2))
 simp only [← hl]
 go_roundg k1
 case measure => have := HK1.out; omega
 case rel => exact ⟨y.set i.toNat (rd y j), wrap64 (i + 1), wrap64 (j + 1), s1_, s1_, H', ⟨by have := HK1.out; omega⟩, by rw [hl]; exact s'⟩}
 { rw [if_neg c18] at H; exact absurd H (by simp) }}
 { rw [if_neg c17] at H; exact absurd H (by simp) }}}
 { rw [if_neg c10] at H; exact absurd H (by simp) }}
 {
 rw [if_neg c9] at H
 by_cases c27 : 0 ≤ i
 {
 rw [if_pos c27] at H
 by_cases c28 : i ≤ (y.length : Int)
 {
 rw [if_pos c28] at H
 obtain ⟨dr, hd⟩ : ∃ dr : List Int, dr = y.drop i.toNat := ⟨_, rfl⟩
 obtain ⟨z, hz⟩ : ∃ z : List Int, z = y.take i.toNat ++ List.replicate (y.length - i.toNat) 0 := ⟨_, rfl⟩
 rw [← hz] at H
 obtain ⟨u, hu⟩ : ∃ u : List Int, u = z.take i.toNat := ⟨_, rfl⟩
 rw [← hu] at H
 obtain rfl : u = r := Option.some.inj H
 clear H
 have Nz := A_ hz
 have Nu := A_ hu
 have hy : dr.length = y.length - i.toNat := by rw [hd, List.length_drop]
 have hroom : y.length ≤ c := (Kd.R_reads' s'.out.r).2.1
 have hzl : z.length = y.length := by rw [hz, List.length_append, List.length_take, List.length_replicate]; omega
 have hul : u.length = i.toNat := by rw [hu, List.length_take]; omega
 clear hz hu
 obtain ⟨i0, hi0, _, hsz0, _⟩ := info_parts info2
 have hcut := cut_from (P := Try.prog) 53 2 .i64 Try.underlying53 hi0 1 hsz0 A y.length c i c27 c28
 have hcut2 := cut_to (P := Try.prog) 53 2 .i64 Try.underlying53 hi0 A y.length c i c27 c28 hroom
 rw [← hul] at hcut2
 obtain ⟨A3, hA3⟩ : ∃ A1, A1 = (if c = i.toNat then A else (A : Option Addr).map (·.add (i.toNat * 1))) := ⟨_, rfl⟩
 obtain ⟨c3, hc3⟩ : ∃ c1, c1 = c - i.toNat := ⟨_, rfl⟩
 rw [← hy, ← hA3, ← hc3] at hcut
 have KA := A_ hA3
 have KY := A_ hy
 have KL := A_ (show i.toNat ≤ y.length by omega)
 have KZ := A_ hzl
 have KU := A_ hul
 have c9b := decide_eq_false c9
 have c27b := decide_eq_true c27
 have c28b := decide_eq_true c28
 have c27e := eq_true c27
 have c28e := eq_true c28
 clear hd hy hroom hzl hul hi0 hsz0 hA3 hc3 c9 c27 c28
 go_wp2_with (first | ((with_reducible refine gate_builtin (b := .clear) (xs := #[.tmp 38]) rfl ?_); refine Kd.R_clear (Kd.int .i64) (w0 := w0) w0.heap.size rfl (.tmp 38) 53 2 (.int .i64 0) 8 rfl Try.underlying53 info2 rfl (by decide) (A := A) (n := y.length) (c := c) (k := i.toNat) (xs := y) 0 rfl KA.out KY.out rfl s'.out.r KL.out s'.out.l (below_size s'.out.l) ?_; intro w2 ho hb hg; rw [← Nz.out] at ho; have s2 := A_ (s'.out.grown hg ho); clear ho hb hg s'; have s3 := Kd.R_take (m := i.toNat) s2.out.r (by rw [KZ.out]; exact KL.out); rw [← Nu.out, ← KU.out] at s3; have s4 := A_ (show Thin (Kd.int .i64) 2 w0 w S (.slice A u.length c) u w2 from ⟨s3, s2.out.l, s2.out.k⟩); clear s2 s3))
 go_ret
 exact ⟨rfl, s4.out⟩}
 { rw [if_neg c28] at H; exact absurd H (by simp) }}
 { rw [if_neg c27] at H; exact absurd H (by simp) }}}
/-- An entry as its cells have it: the word, and the slice as such. -/
structure SF where
  f0 : ByteArray
  A : Option Addr
  n : Nat
  c : Nat
def zF : SF := ⟨⟨#[]⟩, none, 0, 0⟩
def kF : Kd SF := Kd.iso (Kd.pair Kd.string (Kd.scalar (fun t : Option Addr × Nat × Nat => Value.slice t.1 t.2.1 t.2.2) (fun _ => rfl))) (fun x : SF => (x.f0, x.A, x.n, x.c))
theorem kF_open {w : World} {x : SF} {cs : List Value} (h : kF.K w x cs) : cs = [.string x.f0, .slice x.A x.n x.c] := by
  obtain ⟨_, _, rfl, rfl, rfl⟩ := h
  rfl
theorem kF_openM {w : World} {base : Nat} {ok : Nat → Prop} {x : SF} {cs : List Value} (h : kF.M w base ok x cs) : cs = [.string x.f0, .slice x.A x.n x.c] := by
  obtain ⟨_, _, rfl, rfl, rfl⟩ := h
  rfl
theorem kF_mkM (w : World) (base : Nat) (ok : Nat → Prop) (x : SF) : kF.M w base ok x [.string x.f0, .slice x.A x.n x.c] := ⟨[.string x.f0], [.slice x.A x.n x.c], rfl, rfl, rfl⟩
def rdF (xs : List SF) (i : Int) : SF := xs.getD i.toNat zF
theorem at_TF {w : World} {A : Option Addr} {n : Nat} {xs : List SF} (h : Kd.C kF w A n xs) (i : Int) (h0 : 0 ≤ i) (h1 : i < n) : ∃ ad, A = some ad ∧ w.cell? (ad.add (i.toNat * 2)) = some (.string (rdF xs i).f0) ∧ w.cell? ⟨(ad.add (i.toNat * 2)).block, (ad.add (i.toNat * 2)).off + 1, none⟩ = some (.slice (rdF xs i).A (rdF xs i).n (rdF xs i).c) := by
  obtain ⟨ad, c, e, _, hK, hc0⟩ := Kd.C_get h zF i h0 h1
  have hc : ∀ j u, c[j]? = some u → w.cell? (ad.add (i.toNat * 2 + j)) = some u := hc0
  obtain rfl := kF_open hK
  exact ⟨ad, e, hc 0 _ rfl, by rw [← add_field _ _ 1 (by omega)]; exact hc 1 _ rfl⟩
/-- Has an entry no numbers? -/
theorem noNumbers (s : ByteArray) (A : Option Addr) (n c : Nat) (b : Bool) (w : World) (hb : ((n : Int) == 0) = b) :
    Calls Try.prog 85 #[.agg #[.string s, .slice A n c]] w fun e w' => e = .returned (.bool b) ∧ Below w.heap.size w w' := by
  have hu63 := Try.underlying63
  have HB := A_ (Below.refl w.heap.size w)
  go_enter Try.func85, Try.ntmps85
  go_wp2_with (first | ((with_reducible refine gate_dst (N := 1) rfl ?_); refine bx_ 1 #[.string s, .slice A n c] 63 ?_; intro g hg w1 hbox hb; have BK := A_ hbox; have h0 := c1_ BK 0 (.string s); have h1 := c1_ BK 1 (.slice A n c); have f0 := f1_ BK 0; have f1 := f1_ BK 1; replace HB := A_ (below_step (y1_ HB.out) hb); clear hb hbox hg))
  go_ret
  exact ⟨by first | rfl | (rw [← hb]; rfl) | simp_all, y1_ HB.out⟩
/-- The first entry without numbers, or -1. -/
def slices_IdxE.l0 : Nat → List SF → Int → Option Int
  | 0, _, _ => none
  | k + 1, x, j => if j < (x.length : Int) then (if 0 ≤ j then (if (((rdF x j).n : Int) == 0) = true then some j else (slices_IdxE.l0 k x (wrap64 (j + 1)))) else none) else some (-1)
set_option maxHeartbeats 8000000 in
set_option maxRecDepth 100000 in
theorem slices_IdxE.calls (k : Nat) (A : Option Addr) (c : Nat) (x : List SF) (r : Int) (w : World) (hr : Kd.C kF w A x.length x) (hc : x.length ≤ c) (h : slices_IdxE.l0 k x 0 = some r) :
    Calls Try.prog 104 #[.slice A x.length c, .func (.func 85) #[] #[]] w fun e w' => e = .returned (.int .i64 r) ∧ Below w.heap.size w w' := by
  have hu63 := Try.underlying63
  have HR := A_ hr
  have HC := A_ hc
  clear hr hc
  have HB := A_ (Below.refl w.heap.size w)
  have H' := A_ h
  clear h
  go_enter Try.func104, Try.ntmps104
  go_wp2
  go_loopg [8] k (fun kq v8 w' => ∃ (j : Int), v8 = .int .i64 j ∧ Aside0 (slices_IdxE.l0 kq x j = some r) ∧ Aside0 (kq ≤ k) ∧ Aside0 (Below w.heap.size w w'))
  case atStart => exact ⟨0, s1_, H', ⟨Nat.le_refl _⟩, HB⟩
  case round =>
  clear H' HB
  obtain ⟨j, rfl, HA, HK1, HB⟩ := hrel
  cases gk with
  | zero => exact absurd HA.out (by simp [slices_IdxE.l0])
  | succ k1 =>
  have H := HA.out
  clear HA
  simp only [slices_IdxE.l0] at H
  by_cases c3 : j < (x.length : Int)
  · rw [if_pos c3] at H
    by_cases c4 : 0 ≤ j
    · rw [if_pos c4] at H
      obtain ⟨ad, ea, hx0, hx1⟩ := at_TF (Kd.C_below HR.out HB.out) j c4 c3
      cases ea
      have c3b := decide_eq_true c3
      have c4b := decide_eq_true c4
      replace c3 := eq_true c3
      replace c4 := eq_true c4
      by_cases c7 : (((rdF x j).n : Int) == 0) = true
      · rw [if_pos c7] at H
        obtain rfl := Option.some.inj H
        have C7 := A_ c7
        clear c7 H
        go_wp2_with (first | (go_at_call 85; refine (noNumbers _ _ _ _ true _ C7.out).mono ?_; rintro e w1 ⟨rfl, hb⟩; replace HB := A_ (below_step (y1_ HB.out) hb); clear hb))
        go_ret
        exact ⟨rfl, HB.out⟩
      · rw [if_neg c7] at H
        have H' := A_ H
        have C7 := A_ ((Bool.not_eq_true _).mp c7)
        clear c7 H
        go_wp2_with (first | (go_at_call 85; refine (noNumbers _ _ _ _ false _ C7.out).mono ?_; rintro e w1 ⟨rfl, hb⟩; replace HB := A_ (below_step (y1_ HB.out) hb); clear hb))
        go_roundg k1
        case measure => have := HK1.out; omega
        case rel => exact ⟨wrap64 (j + 1), s1_, H', ⟨by have := HK1.out; omega⟩, HB⟩
    · rw [if_neg c4] at H
      exact absurd H (by simp)
  · rw [if_neg c3] at H
    have c3b := decide_eq_false c3
    clear c3
    obtain rfl := Option.some.inj H
    go_wp2
    go_ret
    exact ⟨rfl, HB.out⟩
/-- DeleteFunc over entries: those without numbers go. -/
def slices_DelE.l0 : Nat → List SF → Int → Int → Option (List SF)
  | 0, _, _, _ => none
  | k + 1, x, i, j => if j < (x.length : Int) then (if 0 ≤ j then (if (((rdF x j).n : Int) == 0) = true then (slices_DelE.l0 k x i (wrap64 (j + 1))) else (if 0 ≤ i then (if i < (x.length : Int) then (slices_DelE.l0 k (x.set i.toNat (rdF x j)) (wrap64 (i + 1)) (wrap64 (j + 1))) else none) else none)) else none) else (if 0 ≤ i then (if i ≤ (x.length : Int) then some ((x.take i.toNat ++ List.replicate (x.length - i.toNat) zF).take i.toNat) else none) else none)
def slices_DelE.f (k : Nat) (x : List SF) : Option (List SF) := (slices_IdxE.l0 k x 0).bind fun t => (if t = (-1) then some x else (slices_DelE.l0 k x t (wrap64 (t + 1))))
set_option maxHeartbeats 8000000 in
set_option maxRecDepth 100000 in
theorem slices_DelE.calls (k : Nat) (A : Option Addr) (c : Nat) (x : List SF) (r : List SF) (w0 w : World) (S : Nat → Prop) (hB : Below w0.heap.size w0 w) (hS : ∀ k_, S k_ → some k_ = (Value.slice A x.length c).ownBlock) (ho : kF.R 63 w w0.heap.size S (.slice A x.length c) x) (h : slices_DelE.f k x = some r) :
    Calls Try.prog 84 #[.slice A x.length c, .func (.func 85) #[] #[]] w fun e w' => e = .returned (.slice A r.length c) ∧ Thin kF 63 w0 w S (.slice A r.length c) r w' := by
 have s := A_ (show Thin kF 63 w0 w S (.slice A x.length c) x w from ⟨ho, hB, Kept.refl w S⟩)
 have HS := A_ hS
 have hu63 := Try.underlying63
 clear ho hB hS
 unfold slices_DelE.f at h
 obtain ⟨t, ht, H⟩ := Option.bind_eq_some_iff.mp h
 clear h
 by_cases c4 : t = -1
 {
 rw [if_pos c4] at H
 have c4b0 : (t == (-1)) = true := beq_iff_eq.mpr c4
 have c4b1 : (t != (-1)) = false := bne_eq_false_iff_eq.mpr c4
 clear c4
 obtain rfl := Option.some.inj H
 go_enter Try.func84, Try.ntmps84
 go_wp2_with (first | ((with_reducible refine gate_callee (f := 104) rfl ?_); refine goesL_ (some 10) rfl rfl Try.func104 s2_ rfl #[.slice A x.length c, .func (.func 85) #[] #[]] rfl s3_ ?_; refine (slices_IdxE.calls k _ _ x t _ (Kd.R_reads' s.out.r).2.2 (Kd.R_reads' s.out.r).2.1 ht).mono ?_; rintro e w1 ⟨rfl, hb⟩; refine ⟨_, rfl, ?_⟩; replace s := A_ (s.out.below hb); clear hb))
 go_ret
 exact ⟨rfl, s.out⟩}
 {
 rw [if_neg c4] at H
 have c4b0 : (t == (-1)) = false := beq_eq_false_iff_ne.mpr c4
 have c4b1 : (t != (-1)) = true := bne_iff_ne.mpr c4
 clear c4
 have H' := A_ H
 clear H
 go_enter Try.func84, Try.ntmps84
 go_wp2_with (first | ((with_reducible refine gate_callee (f := 104) rfl ?_); refine goesL_ (some 10) rfl rfl Try.func104 s2_ rfl #[.slice A x.length c, .func (.func 85) #[] #[]] rfl s3_ ?_; refine (slices_IdxE.calls k _ _ x t _ (Kd.R_reads' s.out.r).2.2 (Kd.R_reads' s.out.r).2.1 ht).mono ?_; rintro e w1 ⟨rfl, hb⟩; refine ⟨_, rfl, ?_⟩; replace s := A_ (s.out.below hb); clear hb))
 go_loopg [5, 6] k (fun kq v5 v6 w' => ∃ (y : List SF) (i j : Int), v5 = .int .i64 i ∧ v6 = .int .i64 j ∧ Aside0 (slices_DelE.l0 kq y i j = some r) ∧ Aside0 (kq ≤ k) ∧ Aside0 (Thin kF 63 w0 w S (.slice A x.length c) y w'))
 case atStart => exact ⟨x, t, wrap64 (t + 1), s1_, s1_, H', ⟨Nat.le_refl _⟩, s⟩
 case round =>
 clear H' s ht
 try clear c4b0
 try clear c4b1
 obtain ⟨y, i, j, rfl, rfl, HA, HK1, s⟩ := hrel
 have hl := (Kd.R_reads' s.out.r).1
 have s1 := s.out
 rw [hl] at s1
 have s' := A_ s1
 clear s s1
 simp only [hl]
 cases gk with
 | zero => exact absurd HA.out (by simp [slices_DelE.l0])
 | succ k1 =>
 have H := HA.out
 clear HA
 simp only [slices_DelE.l0] at H
 by_cases c9 : j < (y.length : Int)
 {
 rw [if_pos c9] at H
 by_cases c10 : 0 ≤ j
 {
 rw [if_pos c10] at H
 obtain ⟨g, cap, eg, hg0, hg1, hg2⟩ := Kd.R_form s'.out.r (by omega)
 injection eg with e1 e2 e3
 subst e1
 subst e3
 obtain ⟨ad, ea, hx, hxb⟩ := at_TF (Kd.R_reads' s'.out.r).2.2 j c10 c9
 cases ea
 simp only [add_plain] at hx hxb
 have c9b := decide_eq_true c9
 have c10b := decide_eq_true c10
 have GB := A_ hg0
 have GL := A_ hg1
 clear hg0 hg1 hg2 e2
 by_cases c12 : (((rdF y j).n : Int) == 0) = true
 {
 rw [if_pos c12] at H
 have H' := A_ H
 have HP := A_ c12
 clear H c12
 replace c9 := eq_true c9
 replace c10 := eq_true c10
 go_wp2_with (first | ((with_reducible refine gate_dst (N := 7) rfl ?_); refine bx_ 7 #[.string ⟨#[]⟩, .slice none 0 0] 63 ?_; intro g7 hg w1 hbox hb; have BK := A_ hbox; have HW := A_ hb; have HG := A_ hg; have y0 := c1_ BK 0 (.string ⟨#[]⟩); have y1 := c1_ BK 1 (.slice none 0 0); have y2 := f1_ BK 0; have y3 := f1_ BK 1; clear hb hbox hg) | ((with_reducible refine gate_store (t := 63) (p := 7) rfl ?_); refine store_event (t := 63) (p := 7) (w1 := World.setCell (World.setCell _ ⟨g7, 0, none⟩ (.string (rdF y j).f0)) ⟨g7, 1, none⟩ (.slice (rdF y j).A (rdF y j).n (rdF y j).c)) rfl rfl rfl (by first | (go_simp; done) | (go_simp; rfl)) ?_; intro w2 hw; have hb2 : Below (World.heap _).size _ w2 := (by rw [hw]; exact (HW.out.setCell (Nat.le_of_eq HG.out.symm) _).setCell (Nat.le_of_eq HG.out.symm) _); have bk2 : w2.heap[g7]? = some (.cells #[.string (rdF y j).f0, .slice (rdF y j).A (rdF y j).n (rdF y j).c] 63 (0, 0)) := (by rw [hw]; exact blk_put (blk_put BK.out 0 _ rfl) 1 _ rfl); have GN := A_ (show g7 ≠ g from (by rw [HG.out]; exact Nat.ne_of_gt GL.out)); clear BK HW y0 y1 y2 y3; have BK := A_ bk2; have y0 := c1_ BK 0 (.string (rdF y j).f0); have y1 := c1_ BK 1 (.slice (rdF y j).A (rdF y j).n (rdF y j).c); have y2 := f1_ BK 0; have y3 := f1_ BK 1; replace s' := A_ (s'.out.below hb2); clear hb2 bk2 hw) | (go_at_call 85; refine (noNumbers _ _ _ _ true _ HP.out).mono ?_; rintro e w3 ⟨rfl, hb⟩; replace s' := A_ (s'.out.below hb); clear hb))
 simp only [← hl]
 go_roundg k1
 case measure => have := HK1.out; omega
 case rel => exact ⟨y, i, wrap64 (j + 1), s1_, s1_, H', ⟨by have := HK1.out; omega⟩, by rw [hl]; exact s'⟩}
 {
 rw [if_neg c12] at H
 have HP := A_ ((Bool.not_eq_true _).mp c12)
 clear c12
 by_cases c17 : 0 ≤ i
 {
 rw [if_pos c17] at H
 by_cases c18 : i < (y.length : Int)
 {
 rw [if_pos c18] at H
 have H' := A_ H
 clear H
 have c17b := decide_eq_true c17
 have c18b := decide_eq_true c18
 have HC17 := A_ c17
 have HC18 := A_ c18
 replace c9 := eq_true c9
 replace c10 := eq_true c10
 replace c17 := eq_true c17
 replace c18 := eq_true c18
 go_wp2_with (first | ((with_reducible refine gate_dst (N := 7) rfl ?_); refine bx_ 7 #[.string ⟨#[]⟩, .slice none 0 0] 63 ?_; intro g7 hg w1 hbox hb; have BK := A_ hbox; have HW := A_ hb; have HG := A_ hg; have y0 := c1_ BK 0 (.string ⟨#[]⟩); have y1 := c1_ BK 1 (.slice none 0 0); have y2 := f1_ BK 0; have y3 := f1_ BK 1; clear hb hbox hg) | ((with_reducible refine gate_store (t := 63) (p := 7) rfl ?_); refine store_event (t := 63) (p := 7) (w1 := World.setCell (World.setCell _ ⟨g7, 0, none⟩ (.string (rdF y j).f0)) ⟨g7, 1, none⟩ (.slice (rdF y j).A (rdF y j).n (rdF y j).c)) rfl rfl rfl (by first | (go_simp; done) | (go_simp; rfl)) ?_; intro w2 hw; have hb2 : Below (World.heap _).size _ w2 := (by rw [hw]; exact (HW.out.setCell (Nat.le_of_eq HG.out.symm) _).setCell (Nat.le_of_eq HG.out.symm) _); have bk2 : w2.heap[g7]? = some (.cells #[.string (rdF y j).f0, .slice (rdF y j).A (rdF y j).n (rdF y j).c] 63 (0, 0)) := (by rw [hw]; exact blk_put (blk_put BK.out 0 _ rfl) 1 _ rfl); have GN := A_ (show g7 ≠ g from (by rw [HG.out]; exact Nat.ne_of_gt GL.out)); clear BK HW y0 y1 y2 y3; have BK := A_ bk2; have y0 := c1_ BK 0 (.string (rdF y j).f0); have y1 := c1_ BK 1 (.slice (rdF y j).A (rdF y j).n (rdF y j).c); have y2 := f1_ BK 0; have y3 := f1_ BK 1; replace s' := A_ (s'.out.below hb2); clear hb2 bk2 hw) | (go_at_call 85; refine (noNumbers _ _ _ _ false _ HP.out).mono ?_; rintro e w3 ⟨rfl, hb⟩; replace s' := A_ (s'.out.below hb); replace BK := A_ (blk_below BK.out hb); clear hb; have y0 := c1_ BK 0 (.string (rdF y j).f0); have y1 := c1_ BK 1 (.slice (rdF y j).A (rdF y j).n (rdF y j).c); obtain ⟨ce, hcl, hM, hcc, hfr⟩ := Kd.R_elem s'.out.r zF i HC17.out HC18.out; obtain rfl := kF_openM hM; have HPP := A_ (Kd.R_seg s'.out.r i HC17.out HC18.out (seg := [.string (rdF y j).f0, .slice (rdF y j).A (rdF y j).n (rdF y j).c]) (j := 0) hcl hcc (show 2 ≤ 2 by decide) (x' := rdF y j) (kF_mkM _ _ _ (rdF y j)) (fun _ hk => hk)); have hx2 := hcc 0 _ rfl; have hf2 := hfr 0; have hx3 := hcc 1 _ rfl; have hf3 := hfr 1; simp only [show kF.sz = 2 from rfl, Nat.add_zero] at hx2 hf2 hx3 hf3; clear hcl hcc hfr) | ((with_reducible refine gate_store (t := 63) (p := 33) rfl ?_); refine store_event (t := 63) (p := 33) (w1 := World.setCell (World.setCell _ ⟨g, i.toNat * 2, none⟩ (.string (rdF y j).f0)) ⟨g, i.toNat * 2 + 1, none⟩ (.slice (rdF y j).A (rdF y j).n (rdF y j).c)) rfl rfl rfl (by first | (go_simp; done) | (go_simp; rfl)) ?_; intro w4 hw; have hp' : kF.R 63 w4 w0.heap.size S (.slice (some ⟨g, 0, none⟩) y.length c) (y.set i.toNat (rdF y j)) ∧ World.grownBy _ w4 (some g) := (by rw [hw]; exact HPP.out); replace s' := A_ (s'.out.grown hp'.2 hp'.1); clear hp' hw hx2 hf2 hx3 hf3))
 simp only [← hl]
 go_roundg k1
 case measure => have := HK1.out; omega
 case rel => exact ⟨y.set i.toNat (rdF y j), wrap64 (i + 1), wrap64 (j + 1), s1_, s1_, H', ⟨by have := HK1.out; omega⟩, by rw [hl]; exact s'⟩}
 { rw [if_neg c18] at H; exact absurd H (by simp) }}
 { rw [if_neg c17] at H; exact absurd H (by simp) }}}
 { rw [if_neg c10] at H; exact absurd H (by simp) }}
 {
 rw [if_neg c9] at H
 by_cases c27 : 0 ≤ i
 {
 rw [if_pos c27] at H
 by_cases c28 : i ≤ (y.length : Int)
 {
 rw [if_pos c28] at H
 obtain ⟨dr, hd⟩ : ∃ dr : List SF, dr = y.drop i.toNat := ⟨_, rfl⟩
 obtain ⟨z, hz⟩ : ∃ z : List SF, z = y.take i.toNat ++ List.replicate (y.length - i.toNat) zF := ⟨_, rfl⟩
 rw [← hz] at H
 obtain ⟨u, hu⟩ : ∃ u : List SF, u = z.take i.toNat := ⟨_, rfl⟩
 rw [← hu] at H
 obtain rfl : u = r := Option.some.inj H
 clear H
 have Nz := A_ hz
 have Nu := A_ hu
 have hy : dr.length = y.length - i.toNat := by rw [hd, List.length_drop]
 have hroom : y.length ≤ c := (Kd.R_reads' s'.out.r).2.1
 have hzl : z.length = y.length := by rw [hz, List.length_append, List.length_take, List.length_replicate]; omega
 have hul : u.length = i.toNat := by rw [hu, List.length_take]; omega
 clear hz hu
 obtain ⟨i0, hi0, _, hsz0, _⟩ := info_parts info63
 have hcut := cut_from (P := Try.prog) 27 63 .i64 Try.underlying27 hi0 2 hsz0 A y.length c i c27 c28
 have hcut2 := cut_to (P := Try.prog) 27 63 .i64 Try.underlying27 hi0 A y.length c i c27 c28 hroom
 rw [← hul] at hcut2
 obtain ⟨A3, hA3⟩ : ∃ A1, A1 = (if c = i.toNat then A else (A : Option Addr).map (·.add (i.toNat * 2))) := ⟨_, rfl⟩
 obtain ⟨c3, hc3⟩ : ∃ c1, c1 = c - i.toNat := ⟨_, rfl⟩
 rw [← hy, ← hA3, ← hc3] at hcut
 have KA := A_ hA3
 have KY := A_ hy
 have KL := A_ (show i.toNat ≤ y.length by omega)
 have KZ := A_ hzl
 have KU := A_ hul
 have c9b := decide_eq_false c9
 have c27b := decide_eq_true c27
 have c28b := decide_eq_true c28
 have c27e := eq_true c27
 have c28e := eq_true c28
 clear hd hy hroom hzl hul hi0 hsz0 hA3 hc3 c9 c27 c28
 go_wp2_with (first | ((with_reducible refine gate_builtin (b := .clear) (xs := #[.tmp 38]) rfl ?_); refine Kd.R_clear kF (w0 := w0) w0.heap.size rfl (.tmp 38) 27 63 (.agg #[(.string ⟨#[]⟩), (.slice none 0 0)]) 40 rfl Try.underlying27 info63 rfl (by decide) (A := A) (n := y.length) (c := c) (k := i.toNat) (xs := y) zF rfl KA.out KY.out (kF_mkM _ _ _ zF) s'.out.r KL.out s'.out.l (below_size s'.out.l) ?_; intro w2 ho hb hg; rw [← Nz.out] at ho; have s2 := A_ (s'.out.grown hg ho); clear ho hb hg s'; have s3 := Kd.R_take (m := i.toNat) s2.out.r (by rw [KZ.out]; exact KL.out); rw [← Nu.out, ← KU.out] at s3; have s4 := A_ (show Thin kF 63 w0 w S (.slice A u.length c) u w2 from ⟨s3, s2.out.l, s2.out.k⟩); clear s2 s3))
 go_ret
 exact ⟨rfl, s4.out⟩}
 { rw [if_neg c28] at H; exact absurd H (by simp) }}
 { rw [if_neg c27] at H; exact absurd H (by simp) }}}
/-- An entry with its cells' slice: as the program's data, and its numbers as one of the pool. -/
def ent (p : SF × List Int) : S63 := ⟨p.1.f0, p.2⟩
def nrow (base : Nat) (p : SF × List Int) : Res := rrow (Kd.int .i64) 2 base (.slice p.1.A p.1.n p.1.c) p.2
section
variable {w0 w w1 : World} {L : List Res} {v : Value} {ok : Nat → Prop} {xs : List S63} {ps : List (SF × List Int)}
theorem choose_l {β : Type} {p : Nat → β → Prop} : ∀ n, (∀ i, i < n → ∃ b, p i b) → ∃ l : List β, l.length = n ∧ ∀ i b, l[i]? = some b → p i b
  | 0, _ => ⟨[], rfl, fun i b h => by simp at h⟩
  | n + 1, h => by
    obtain ⟨l, hl, hp⟩ := choose_l n (fun i hi => h i (by omega))
    obtain ⟨b, hb⟩ := h n (by omega)
    refine ⟨l ++ [b], by simp [hl], fun i c hc => ?_⟩
    rcases Nat.lt_or_ge i l.length with hi | hi
    · rw [List.getElem?_append_left hi] at hc
      exact hp i c hc
    · rw [List.getElem?_append_right hi] at hc
      have h0 : i - l.length = 0 := by
        rcases Nat.eq_zero_or_pos (i - l.length) with h0 | h0
        · exact h0
        · rw [List.getElem?_eq_none (by simp; omega)] at hc
          cases hc
      rw [h0] at hc
      simp at hc
      subst hc
      have : i = n := by omega
      subst this
      exact hb
/-- A row of entries of one's own, taken apart. -/
theorem Pool.entries (P : Pool w0 w L) (hb : Below w.heap.size w w1) (hS : Kd.S k63 63 w1 w.heap.size ok v xs) :
    ∃ ps : List (SF × List Int), xs = ps.map ent ∧ Pool w0 w1 (L ++ rrow kF 63 w0.heap.size v (ps.map Prod.fst) :: ps.map (nrow w0.heap.size)) := by
  obtain ⟨f, h0, inner, hown, hrep⟩ := hS
  have hlen : xs.zipIdx.length = xs.length := by simp
  have key : ∀ i, i < xs.length → ∃ q : SF × List Int, xs[i]? = some (ent q) ∧ (inner.drop (i * 2)).take 2 = [.string q.1.f0, .slice q.1.A q.1.n q.1.c] ∧ (Kd.int .i64).R 2 w1 w.heap.size (fun k => (ok k ∧ some k ≠ v.ownBlock) ∧ f k = i) (.slice q.1.A q.1.n q.1.c) q.2 := by
    intro i hi
    have hz : xs[i]? = some xs[i] := List.getElem?_eq_getElem hi
    have hm := hrep.2 i _ (Kd.zip_at hz)
    have hm2 : k63.M w1 w.heap.size (fun k => (ok k ∧ some k ≠ v.ownBlock) ∧ f k = i) xs[i] ((inner.drop (i * 2)).take 2) := hm
    obtain ⟨v1, e1, hr⟩ := k63_openM hm2
    obtain ⟨A, c, rfl⟩ := Kd.R_slice hr
    exact ⟨(⟨xs[i].f0, A, xs[i].f1.length, c⟩, xs[i].f1), hz, e1, hr⟩
  obtain ⟨ps, hl, hp⟩ := choose_l xs.length key
  have hx : xs = ps.map ent := by
    refine List.ext_getElem? (fun i => ?_)
    rw [List.getElem?_map]
    rcases Nat.lt_or_ge i ps.length with hi | hi
    · rw [List.getElem?_eq_getElem hi]
      exact (hp i _ (List.getElem?_eq_getElem hi)).1
    · rw [List.getElem?_eq_none hi, List.getElem?_eq_none (by omega)]
      rfl
  refine ⟨ps, hx, ?_⟩
  obtain ⟨q0, c, hc⟩ := P
  have bs := below_size q0
  have bw := below_size hb
  have hR : kF.R 63 w1 w.heap.size (fun k => some k = v.ownBlock) v (ps.map Prod.fst) := by
    refine ⟨fun k hk => hk.symm, inner, ?_, ?_, fun j p hj => ?_⟩
    · rw [show (ps.map Prod.fst).length = xs.zipIdx.length by rw [hlen]; simp [hl]]
      exact hown
    · rw [hrep.1]
      simp [hl]
      rfl
    · rw [List.getElem?_map] at hj
      obtain ⟨q, hq, rfl⟩ := Option.map_eq_some_iff.mp hj
      have e := (hp j q hq).2.1
      show kF.M w1 w.heap.size _ q.1 ((inner.drop (j * 2)).take 2)
      rw [e]
      exact kF_mkM _ _ _ _
  have hRb := Kd.R_bound hR
  refine ⟨below_step q0 hb, fun k => if k < w.heap.size then c k else if some k = v.ownBlock then L.length else L.length + 1 + f k, fun j r hj => ?_⟩
  rcases Nat.lt_or_ge j L.length with hlt | hge
  · rw [List.getElem?_append_left hlt] at hj
    refine r.mono (r.step (hc j r hj) (fun k hk hlt => hb.block k hlt)) (fun k hk => ⟨?_, hk.2.1, Nat.lt_of_lt_of_le hk.2.2 bw⟩)
    simp only [if_pos hk.2.2]
    exact hk.1
  · rw [List.getElem?_append_right hge] at hj
    match he : j - L.length, hj with
    | 0, hj =>
      obtain rfl : rrow kF 63 w0.heap.size v (ps.map Prod.fst) = r := by simpa using hj
      refine Kd.R_lower (Kd.R_mono hRb (fun k hk => ⟨⟨?_, Nat.le_trans bs hk.2.1, hk.2.2.1⟩, hk.1⟩)) bs
      have := hk.2.1
      simp only [if_neg (Nat.not_lt.mpr this), if_pos hk.1]
      omega
    | i + 1, hj =>
      rw [List.getElem?_cons_succ, List.getElem?_map] at hj
      obtain ⟨q, hq, rfl⟩ := Option.map_eq_some_iff.mp hj
      have hr := (hp i q hq).2.2
      have hrb := Kd.R_bound (Kd.R_tight rfl hr)
      refine Kd.R_lower (Kd.R_mono hrb (fun k hk => ⟨⟨?_, Nat.le_trans bs hk.2.1, hk.2.2.1⟩, hk.1⟩)) bs
      have h1 := hk.2.1
      have h2 := hr.1 k hk.1.symm
      simp only [if_neg (Nat.not_lt.mpr h1), if_neg h2.1.2, h2.2]
      omega
/-- And put together again. -/
theorem Pool.index (P : Pool w0 w (rrow kF 63 w0.heap.size v (ps.map Prod.fst) :: ps.map (nrow w0.heap.size))) : Kd.S k63 63 w w0.heap.size (fun _ => True) v (ps.map ent) := by
  obtain ⟨q0, c, hc⟩ := P
  obtain ⟨h0, inner, hown, hrep⟩ := hc 0 _ rfl
  have hz : (ps.map ent).zipIdx.length = (ps.map Prod.fst).length := by simp
  refine ⟨fun k => c k - 1, fun _ _ => trivial, inner, by rw [hz]; exact hown, ?_, fun j p hj => ?_⟩
  · rw [hrep.1, hz]
    rfl
  · rw [List.getElem?_zipIdx, List.getElem?_map] at hj
    obtain ⟨z1, hz1, rfl⟩ := Option.map_eq_some_iff.mp hj
    obtain ⟨q, hq, rfl⟩ := Option.map_eq_some_iff.mp hz1
    have hf : (ps.map Prod.fst)[j]? = some q.1 := by rw [List.getElem?_map, hq]; rfl
    have e : (inner.drop (j * 2)).take 2 = [.string q.1.f0, .slice q.1.A q.1.n q.1.c] := kF_openM (hrep.2 j _ hf)
    have hn : (rrow kF 63 w0.heap.size v (ps.map Prod.fst) :: ps.map (nrow w0.heap.size))[j + 1]? = some (nrow w0.heap.size q) := by rw [List.getElem?_cons_succ, List.getElem?_map, hq]; rfl
    have hr := hc (j + 1) _ hn
    show k63.M w w0.heap.size (fun k => (True ∧ some k ≠ v.ownBlock) ∧ c k - 1 = 0 + j) (ent q) ((inner.drop (j * 2)).take 2)
    rw [e]
    refine k63_mkM _ _ _ (ent q) (Kd.R_mono hr (fun k hk => ⟨⟨trivial, fun e => ?_⟩, by rw [hk.1.1]; omega⟩))
    have := (h0 k e.symm).1.1
    have := hk.1.1
    omega
theorem Pool.rowLen {α : Type} {d : Kd α} {e : Nat} {x : List α} (P : Pool w0 w L) (i : Nat) (hi : L[i]? = some (rrow d e w0.heap.size v x)) : x.length ≤ maxLen := by
  obtain ⟨inner, h1, h2⟩ := Kd.R_own (P.rown i hi)
  rcases h2 with ⟨_, h⟩ | ⟨g, cap, cur, _, _, _, hn, hcap, _⟩
  · omega
  · exact Nat.le_trans hn hcap
end
/-- Is a number the one that goes? -/
abbrev eqQ (q n : Int) : Bool := n == q
abbrev noN (e : SF) : Bool := (e.n : Int) == 0
theorem rd_at (y : List Int) (j : Nat) (h : j < y.length) : rd y (j : Int) = y[j] := by
  simp [rd, List.getD, h]
theorem idxI (l : List Int) (q : Int) (hl : l.length ≤ maxLen) : ∀ d i, i + d = l.length → ∀ k, d < k → (∃ t : Nat, i ≤ t ∧ ∃ h : t < l.length, eqQ q l[t] = true ∧ (∀ s, i ≤ s → ∀ h2 : s < t, eqQ q (l[s]'(by omega)) = false) ∧ slices_IndexFunc_int64_int64_v2.l0 k l (l.length : Int) (i : Int) q = some (t : Int)) ∨ ((∀ s, i ≤ s → ∀ h : s < l.length, eqQ q l[s] = false) ∧ slices_IndexFunc_int64_int64_v2.l0 k l (l.length : Int) (i : Int) q = some (-1)) := by
  unfold maxLen at hl
  intro d
  induction d with
  | zero =>
    intro i hi k hk
    obtain ⟨k, rfl⟩ : ∃ m, k = m + 1 := ⟨k - 1, by omega⟩
    refine .inr ⟨fun s h1 h2 => by omega, ?_⟩
    simp only [slices_IndexFunc_int64_int64_v2.l0]
    rw [if_neg (by omega)]
  | succ d ih =>
    intro i hi k hk
    obtain ⟨k, rfl⟩ : ∃ m, k = m + 1 := ⟨k - 1, by omega⟩
    have hlt : i < l.length := by omega
    have hw : wrap64 ((i : Int) + 1) = ((i + 1 : Nat) : Int) := by unfold wrap64; omega
    simp only [slices_IndexFunc_int64_int64_v2.l0]
    rw [if_pos (by omega), if_pos (by omega), if_pos (by omega), rd_at l i hlt]
    by_cases c : eqQ q l[i] = true
    · exact .inl ⟨i, Nat.le_refl _, hlt, c, fun s h1 h2 => by omega, by unfold impl_DropFrom_1_v3.f; rw [Option.bind_some]; exact if_pos c⟩
    · have cf : eqQ q l[i] = false := (Bool.not_eq_true _).mp c
      rcases ih (i + 1) (by omega) k (by omega) with ⟨t, h1, h2, h3, h4, h5⟩ | ⟨h4, h5⟩
      · refine .inl ⟨t, by omega, h2, h3, fun s g1 g2 => ?_, by unfold impl_DropFrom_1_v3.f; rw [Option.bind_some, hw]; exact (if_neg c).trans h5⟩
        rcases Nat.lt_or_ge s (i + 1) with g | g
        · obtain rfl : s = i := by omega
          exact cf
        · exact h4 s g g2
      · refine .inr ⟨fun s g1 g2 => ?_, by unfold impl_DropFrom_1_v3.f; rw [Option.bind_some, hw]; exact (if_neg c).trans h5⟩
        rcases Nat.lt_or_ge s (i + 1) with g | g
        · obtain rfl : s = i := by omega
          exact cf
        · exact h4 s g g2
theorem delI (x : List Int) (q : Int) (hl : x.length ≤ maxLen) : ∀ d j, j + d = x.length → ∀ k, d < k → ∀ (i : Nat) (y : List Int), i ≤ j → y.length = x.length → y.take i = (x.take j).filter (fun n => !eqQ q n) → y.drop j = x.drop j → slices_DelI.l0 k y (i : Int) (j : Int) q = some (x.filter (fun n => !eqQ q n)) := by
  unfold maxLen at hl
  intro d
  induction d with
  | zero =>
    intro j hj k hk i y hij hy ht hd
    obtain ⟨k, rfl⟩ : ∃ m, k = m + 1 := ⟨k - 1, by omega⟩
    simp only [slices_DelI.l0]
    rw [if_neg (by omega), if_pos (by omega), if_pos (by omega), Int.toNat_natCast, List.take_append_of_le_length (by rw [List.length_take]; omega), List.take_take, Nat.min_self, ht, List.take_of_length_le (by omega)]
  | succ d ih =>
    intro j hj k hk i y hij hy ht hd
    obtain ⟨k, rfl⟩ : ∃ m, k = m + 1 := ⟨k - 1, by omega⟩
    have hx : j < x.length := by omega
    have hjy : j < y.length := by omega
    have hwj : wrap64 ((j : Int) + 1) = ((j + 1 : Nat) : Int) := by unfold wrap64; omega
    have hwi : wrap64 ((i : Int) + 1) = ((i + 1 : Nat) : Int) := by unfold wrap64; omega
    rw [List.drop_eq_getElem_cons hx, List.drop_eq_getElem_cons hjy] at hd
    injection hd with e1 e2
    simp only [slices_DelI.l0]
    rw [if_pos (by omega), if_pos (by omega), rd_at y j hjy, e1, hwj, hwi]
    have hf : (x.take (j + 1)).filter (fun n => !eqQ q n) = (x.take j).filter (fun n => !eqQ q n) ++ (if eqQ q x[j] = true then [] else [x[j]]) := by
      rw [List.take_succ_eq_append_getElem hx, List.filter_append]
      congr 1
      by_cases c : eqQ q x[j] = true
      · simp [c]
      · simp [(Bool.not_eq_true _).mp c]
    by_cases c : eqQ q x[j] = true
    · rw [if_pos c] at hf ⊢
      exact ih (j + 1) (by omega) k (by omega) i y (by omega) hy (by rw [hf, List.append_nil]; exact ht) e2
    · rw [if_neg c] at hf ⊢
      rw [if_pos (by omega), if_pos (by omega), Int.toNat_natCast]
      refine ih (j + 1) (by omega) k (by omega) (i + 1) _ (by omega) (by rw [List.length_set]; exact hy) ?_ ?_
      · rw [hf, ← ht, List.take_succ_eq_append_getElem (by rw [List.length_set]; omega), List.take_set_of_le (Nat.le_refl _)]
        simp
      · rw [List.drop_set_of_lt (by omega)]
        exact e2
theorem delAllI (x : List Int) (q : Int) (hl : x.length ≤ maxLen) : ∃ k, slices_DelI.f k x q = some (x.filter (fun n => !eqQ q n)) := by
  refine ⟨x.length + 1, ?_⟩
  unfold slices_DelI.f
  have hm := hl
  unfold maxLen at hm
  rcases idxI x q hl x.length 0 (by omega) (x.length + 1) (by omega) with ⟨t, h1, h2, h3, h4, h5⟩ | ⟨h4, h5⟩
  · have e : slices_IndexFunc_int64_int64_v2.f (x.length + 1) x q = some (t : Int) := h5
    rw [e, Option.bind_some, if_neg (by omega)]
    have hw : wrap64 ((t : Int) + 1) = ((t + 1 : Nat) : Int) := by unfold wrap64; omega
    rw [hw]
    refine delI x q hl (x.length - (t + 1)) (t + 1) (by omega) (x.length + 1) (by omega) t x (by omega) rfl ?_ rfl
    rw [List.take_succ_eq_append_getElem h2, List.filter_append]
    simp only [List.filter_cons, h3, List.filter_nil, Bool.not_true, Bool.false_eq_true, if_false, List.append_nil]
    refine (List.filter_eq_self.mpr (fun n hn => ?_)).symm
    obtain ⟨s, hs, rfl⟩ := List.mem_iff_getElem.mp hn
    rw [List.length_take] at hs
    rw [List.getElem_take, h4 s (by omega) (by omega)]
    rfl
  · have e : slices_IndexFunc_int64_int64_v2.f (x.length + 1) x q = some (-1) := h5
    rw [e, Option.bind_some, if_pos rfl]
    congr 1
    refine (List.filter_eq_self.mpr (fun n hn => ?_)).symm
    obtain ⟨s, hs, rfl⟩ := List.mem_iff_getElem.mp hn
    rw [h4 s (by omega) hs]
    rfl
theorem rdF_at (y : List SF) (j : Nat) (h : j < y.length) : rdF y (j : Int) = y[j] := by
  simp [rdF, List.getD, h]
theorem idxE (l : List SF) (hl : l.length ≤ maxLen) : ∀ d i, i + d = l.length → ∀ k, d < k → (∃ t : Nat, i ≤ t ∧ ∃ h : t < l.length, noN l[t] = true ∧ (∀ s, i ≤ s → ∀ h2 : s < t, noN (l[s]'(by omega)) = false) ∧ slices_IdxE.l0 k l (i : Int) = some (t : Int)) ∨ ((∀ s, i ≤ s → ∀ h : s < l.length, noN l[s] = false) ∧ slices_IdxE.l0 k l (i : Int) = some (-1)) := by
  unfold maxLen at hl
  intro d
  induction d with
  | zero =>
    intro i hi k hk
    obtain ⟨k, rfl⟩ : ∃ m, k = m + 1 := ⟨k - 1, by omega⟩
    refine .inr ⟨fun s h1 h2 => by omega, ?_⟩
    simp only [slices_IdxE.l0]
    rw [if_neg (by omega)]
  | succ d ih =>
    intro i hi k hk
    obtain ⟨k, rfl⟩ : ∃ m, k = m + 1 := ⟨k - 1, by omega⟩
    have hlt : i < l.length := by omega
    have hw : wrap64 ((i : Int) + 1) = ((i + 1 : Nat) : Int) := by unfold wrap64; omega
    simp only [slices_IdxE.l0]
    rw [if_pos (by omega), if_pos (by omega), rdF_at l i hlt]
    by_cases c : noN l[i] = true
    · exact .inl ⟨i, Nat.le_refl _, hlt, c, fun s h1 h2 => by omega, if_pos c⟩
    · have cf : noN l[i] = false := (Bool.not_eq_true _).mp c
      rcases ih (i + 1) (by omega) k (by omega) with ⟨t, h1, h2, h3, h4, h5⟩ | ⟨h4, h5⟩
      · refine .inl ⟨t, by omega, h2, h3, fun s g1 g2 => ?_, by rw [hw]; exact (if_neg c).trans h5⟩
        rcases Nat.lt_or_ge s (i + 1) with g | g
        · obtain rfl : s = i := by omega
          exact cf
        · exact h4 s g g2
      · refine .inr ⟨fun s g1 g2 => ?_, by rw [hw]; exact (if_neg c).trans h5⟩
        rcases Nat.lt_or_ge s (i + 1) with g | g
        · obtain rfl : s = i := by omega
          exact cf
        · exact h4 s g g2
theorem delE (x : List SF) (hl : x.length ≤ maxLen) : ∀ d j, j + d = x.length → ∀ k, d < k → ∀ (i : Nat) (y : List SF), i ≤ j → y.length = x.length → y.take i = (x.take j).filter (fun n => !noN n) → y.drop j = x.drop j → slices_DelE.l0 k y (i : Int) (j : Int) = some (x.filter (fun n => !noN n)) := by
  unfold maxLen at hl
  intro d
  induction d with
  | zero =>
    intro j hj k hk i y hij hy ht hd
    obtain ⟨k, rfl⟩ : ∃ m, k = m + 1 := ⟨k - 1, by omega⟩
    simp only [slices_DelE.l0]
    rw [if_neg (by omega), if_pos (by omega), if_pos (by omega), Int.toNat_natCast, List.take_append_of_le_length (by rw [List.length_take]; omega), List.take_take, Nat.min_self, ht, List.take_of_length_le (by omega)]
  | succ d ih =>
    intro j hj k hk i y hij hy ht hd
    obtain ⟨k, rfl⟩ : ∃ m, k = m + 1 := ⟨k - 1, by omega⟩
    have hx : j < x.length := by omega
    have hjy : j < y.length := by omega
    have hwj : wrap64 ((j : Int) + 1) = ((j + 1 : Nat) : Int) := by unfold wrap64; omega
    have hwi : wrap64 ((i : Int) + 1) = ((i + 1 : Nat) : Int) := by unfold wrap64; omega
    rw [List.drop_eq_getElem_cons hx, List.drop_eq_getElem_cons hjy] at hd
    injection hd with e1 e2
    simp only [slices_DelE.l0]
    rw [if_pos (by omega), if_pos (by omega), rdF_at y j hjy, e1, hwj, hwi]
    have hf : (x.take (j + 1)).filter (fun n => !noN n) = (x.take j).filter (fun n => !noN n) ++ (if noN x[j] = true then [] else [x[j]]) := by
      rw [List.take_succ_eq_append_getElem hx, List.filter_append]
      congr 1
      by_cases c : noN x[j] = true
      · simp [c]
      · simp [(Bool.not_eq_true _).mp c]
    by_cases c : noN x[j] = true
    · rw [if_pos c] at hf ⊢
      exact ih (j + 1) (by omega) k (by omega) i y (by omega) hy (by rw [hf, List.append_nil]; exact ht) e2
    · rw [if_neg c] at hf ⊢
      rw [if_pos (by omega), if_pos (by omega), Int.toNat_natCast]
      refine ih (j + 1) (by omega) k (by omega) (i + 1) _ (by omega) (by rw [List.length_set]; exact hy) ?_ ?_
      · rw [hf, ← ht, List.take_succ_eq_append_getElem (by rw [List.length_set]; omega), List.take_set_of_le (Nat.le_refl _)]
        simp
      · rw [List.drop_set_of_lt (by omega)]
        exact e2
theorem delAllE (x : List SF) (hl : x.length ≤ maxLen) : ∃ k, slices_DelE.f k x = some (x.filter (fun n => !noN n)) := by
  refine ⟨x.length + 1, ?_⟩
  unfold slices_DelE.f
  have hm := hl
  unfold maxLen at hm
  rcases idxE x hl x.length 0 (by omega) (x.length + 1) (by omega) with ⟨t, h1, h2, h3, h4, h5⟩ | ⟨h4, h5⟩
  · have e : slices_IdxE.l0 (x.length + 1) x 0 = some (t : Int) := h5
    rw [e, Option.bind_some, if_neg (by omega)]
    have hw : wrap64 ((t : Int) + 1) = ((t + 1 : Nat) : Int) := by unfold wrap64; omega
    rw [hw]
    refine delE x hl (x.length - (t + 1)) (t + 1) (by omega) (x.length + 1) (by omega) t x (by omega) rfl ?_ rfl
    rw [List.take_succ_eq_append_getElem h2, List.filter_append]
    simp only [List.filter_cons, h3, List.filter_nil, Bool.not_true, Bool.false_eq_true, if_false, List.append_nil]
    refine (List.filter_eq_self.mpr (fun n hn => ?_)).symm
    obtain ⟨s, hs, rfl⟩ := List.mem_iff_getElem.mp hn
    rw [List.length_take] at hs
    rw [List.getElem_take, h4 s (by omega) (by omega)]
    rfl
  · have e : slices_IdxE.l0 (x.length + 1) x 0 = some (-1) := h5
    rw [e, Option.bind_some, if_pos rfl]
    congr 1
    refine (List.filter_eq_self.mpr (fun n hn => ?_)).symm
    obtain ⟨s, hs, rfl⟩ := List.mem_iff_getElem.mp hn
    rw [h4 s (by omega) hs]
    rfl
section
variable {w0 w w1 : World} {L : List Res} {A : Option Addr} {n c g1 G : Nat} {x : List Int} {es : List SF} {xs : List S63}
theorem delP (q : Int) (P : Pool w0 w L) (i j : Nat) (hi : L[i]? = some (rrow (Kd.int .i64) 2 w0.heap.size (.slice A n c) x)) (hj : L[j]? = some (rbox g1 #[.int .i64 q] 2)) (hij : i ≠ j) :
    Calls Try.prog 82 #[.slice A n c, .func (.func 83) #[] #[.pointer (some ⟨g1, 0, none⟩)]] w fun e w' => e = .returned (.slice A (x.filter (fun n => !eqQ q n)).length c) ∧ Pool w0 w' (L.set i (rrow (Kd.int .i64) 2 w0.heap.size (.slice A (x.filter (fun n => !eqQ q n)).length c) (x.filter (fun n => !eqQ q n)))) := by
  obtain ⟨rfl, hc, hC⟩ := P.reads i hi
  obtain ⟨k, hk⟩ := delAllI x q (Pool.rowLen P i hi)
  refine (slices_DelI.calls k A c x g1 q _ w0 w (fun k_ => some k_ = (Value.slice A x.length c).ownBlock) P.1 (P.cell j hj) (P.apart i j hi hj hij) (P.rown i hi) hk).mono ?_
  rintro e w' ⟨rfl, s⟩
  exact ⟨rfl, P.turn i _ _ hi (fun k_ => some k_ = (Value.slice A x.length c).ownBlock) s.l s.k (fun ok hok => Kd.R_mono (Kd.R_tight rfl s.r) (fun k_ hk_ => ⟨hok k_ (s.r.1 k_ hk_.symm), hk_⟩)) (fun ok hF k_ hk_ => (hF.1 k_ hk_.symm).1)⟩
theorem delEP (P : Pool w0 w L) (i : Nat) (hi : L[i]? = some (rrow kF 63 w0.heap.size (.slice A n c) es)) :
    Calls Try.prog 84 #[.slice A n c, .func (.func 85) #[] #[]] w fun e w' => e = .returned (.slice A (es.filter (fun n => !noN n)).length c) ∧ Pool w0 w' (L.set i (rrow kF 63 w0.heap.size (.slice A (es.filter (fun n => !noN n)).length c) (es.filter (fun n => !noN n)))) := by
  obtain ⟨rfl, hc, hC⟩ := P.reads i hi
  obtain ⟨k, hk⟩ := delAllE es (Pool.rowLen P i hi)
  refine (slices_DelE.calls k A c es _ w0 w (fun k_ => some k_ = (Value.slice A es.length c).ownBlock) P.1 (fun k_ h => h) (P.rown i hi) hk).mono ?_
  rintro e w' ⟨rfl, s⟩
  exact ⟨rfl, P.turn i _ _ hi (fun k_ => some k_ = (Value.slice A es.length c).ownBlock) s.l s.k (fun ok hok => Kd.R_mono (Kd.R_tight rfl s.r) (fun k_ hk_ => ⟨hok k_ (s.r.1 k_ hk_.symm), hk_⟩)) (fun ok hF k_ hk_ => (hF.1 k_ hk_.symm).1)⟩
theorem Pool.ecell (P : Pool w0 w L) (i : Nat) (hi : L[i]? = some (rrow kF 63 w0.heap.size (.slice (some ⟨G, 0, none⟩) n c) es)) (j : Nat) (hj : j < es.length) :
    w.cell? ⟨G, j * 2, none⟩ = some (.string es[j].f0) ∧ w.cell? ⟨G, j * 2 + 1, none⟩ = some (.slice es[j].A es[j].n es[j].c) ∧ w.frozen? ⟨G, j * 2 + 1, none⟩ = false := by
  have hr := P.rown i hi
  have hn := (Kd.R_reads' hr).1
  obtain ⟨ce, hcl, hM, hcc, hfr⟩ := Kd.R_elem hr zF (j : Int) (by omega) (by omega)
  obtain rfl := kF_openM hM
  have e : es.getD (j : Int).toNat zF = es[j] := by simp [List.getD, hj]
  have h0 := hcc 0 _ rfl
  have h1 := hcc 1 _ rfl
  rw [e] at h0 h1
  exact ⟨h0, h1, hfr 1⟩
theorem Pool.eset (P : Pool w0 w L) (i : Nat) (hi : L[i]? = some (rrow kF 63 w0.heap.size (.slice (some ⟨G, 0, none⟩) n c) es)) (j : Nat) (hj : j < es.length) (x' : SF) (hf : x'.f0 = es[j].f0) :
    Pool w0 (w.setCell ⟨G, j * 2 + 1, none⟩ (.slice x'.A x'.n x'.c)) (L.set i (rrow kF 63 w0.heap.size (.slice (some ⟨G, 0, none⟩) n c) (es.set j x'))) := by
  have hr := P.rown i hi
  have hn := (Kd.R_reads' hr).1
  obtain ⟨ce, hcl, hM, hcc, hfr⟩ := Kd.R_elem hr zF (j : Int) (by omega) (by omega)
  obtain rfl := kF_openM hM
  have e : es.getD (j : Int).toNat zF = es[j] := by simp [List.getD, hj]
  have h := Kd.R_seg hr (j : Int) (by omega) (by omega) (seg := [.slice x'.A x'.n x'.c]) (j := 1) hcl hcc (show 2 ≤ 2 by decide) (x' := x') (okp := fun k => some k = (Value.slice (some ⟨G, 0, none⟩) n c).ownBlock ∧ k ≠ G) (by rw [e, ← hf]; exact kF_mkM _ _ _ x') (fun _ hk => hk)
  have h1 : kF.R 63 (w.setCell ⟨G, j * 2 + 1, none⟩ (.slice x'.A x'.n x'.c)) w0.heap.size (fun k => some k = (Value.slice (some ⟨G, 0, none⟩) n c).ownBlock) (.slice (some ⟨G, 0, none⟩) n c) (es.set j x') := h.1
  refine P.turn i _ _ hi (fun k => k = G) (below_set P.1 (Kd.R_base hr G rfl)) ⟨by simp, fun k _ hk => Below.heap_setCell _ _ _ _ hk⟩ (fun ok hok => Kd.R_mono h1 (fun k hk => ⟨hok k (by simpa [Value.ownBlock] using hk), hk⟩)) (fun ok hF k hk => ?_)
  subst hk
  exact (hF.1 k rfl).1
theorem validIx (k : Nat) (r : Bool) (P : Pool w0 w L) (hr : Kd.C k63 w0 A xs.length xs) (hc : xs.length ≤ c) (h : impl_ValidIndex.f k xs = some r) :
    Calls Try.prog 17 #[.agg #[.slice A xs.length c]] w fun e w' => e = .returned (.bool r) ∧ Pool w0 w' L := by
  refine (impl_ValidIndex.calls k _ _ xs r w (Kd.C_below hr P.1) hc h).mono ?_
  rintro e w' ⟨rfl, hb⟩
  exact ⟨rfl, P.below hb⟩
theorem isNum (q : Int) (r : Bool) (P : Pool w0 w L) (h : impl_isNumber.f q = some r) :
    Calls Try.prog 53 #[.int .i64 q] w fun e w' => e = .returned (.bool r) ∧ Pool w0 w' L := by
  refine (impl_isNumber.calls q r w h).mono ?_
  rintro e w' ⟨rfl, hb⟩
  exact ⟨rfl, P.below hb.below⟩
theorem cloneIx (k : Nat) (ys : List S63) (P : Pool w0 w L) (hr : Kd.C k63 w0 A xs.length xs) (hc : xs.length ≤ c) (h : impl_cloneIndex.f k xs = some ys) :
    Calls Try.prog 81 #[.agg #[.slice A xs.length c]] w fun e w' => ∃ D d ps, ys = List.map ent ps ∧ e = .returned (.agg #[.slice D ps.length d]) ∧ Pool w0 w' (L ++ rrow kF 63 w0.heap.size (.slice D ps.length d) (ps.map Prod.fst) :: ps.map (nrow w0.heap.size)) := by
  refine (impl_cloneIndex.calls k _ _ xs ys w (Kd.C_below hr P.1) hc h).mono ?_
  rintro e w' ⟨v, rfl, hS, hb⟩
  obtain ⟨D, d, rfl⟩ := Kd.S_slice hS
  obtain ⟨ps, rfl, Q⟩ := Pool.entries P hb hS
  rw [List.length_map] at Q ⊢
  exact ⟨D, d, ps, rfl, rfl, Q⟩
end
/-- What becomes of the entries: the number goes, and who has none goes too. -/
def dropN (q : Int) (e : S63) : S63 := ⟨e.f0, e.f1.filter (fun n => !eqQ q n)⟩
def hasN (e : S63) : Bool := !((e.f1.length : Int) == 0)
def impl_DropFrom.f (k : Nat) (xs : List S63) (q : Int) : Option (List S63 × Bool) :=
  (impl_ValidIndex.f k xs).bind fun t => if t = true then ((impl_isNumber.f q).bind fun u => if u = true then ((impl_cloneIndex.f k xs).bind fun ys => some ((ys.map (dropN q)).filter hasN, true)) else some ([], false)) else some ([], false)
end Go.Proofs.Ytcnhepjdibbkgaa.QFnExactDropFrom
