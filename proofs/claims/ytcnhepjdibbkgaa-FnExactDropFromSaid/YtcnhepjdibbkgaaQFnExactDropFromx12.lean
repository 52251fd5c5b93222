-- by hand, over one pool
import Derived.Test.YtcnhepjdibbkgaaQFnExactDropFromx0
import Derived.Test.YtcnhepjdibbkgaaQFnExactDropFromx1
import Derived.Test.YtcnhepjdibbkgaaQFnExactDropFromx2
import Derived.Test.YtcnhepjdibbkgaaQFnExactDropFromx5
import Derived.Test.YtcnhepjdibbkgaaQFnExactDropFromx9
import Derived.Test.YtcnhepjdibbkgaaQFnExactDropFromx11
import Derived.Test.YtcnhepjdibbkgaaOpn
namespace Go.Proofs.Ytcnhepjdibbkgaa.QFnExactDropFrom
open Go.Proofs.Ytcnhepjdibbkgaa.Opn
open Go.RowKit Go.Proofs.YtcnhepjdibbkgaaW.PrintWords Go.Proofs.YtcnhepjdibbkgaaW.PrintLast Go.Proofs.YtcnhepjdibbkgaaW.PrintMore
attribute [local go_sem] max2_int min2_int max_two min_two max_three min_three max_four min_four   -- for this text's walks alone
set_option linter.unusedVariables false
set_option linter.unusedSimpArgs false
/-! #### struct type 24 -/
structure S24 where
  f0 : (List S108)
def z24 : S24 := ⟨([] : List S108)⟩
def k24 : Kd S24 := Kd.iso (Kd.slice 108 k108) (fun x : S24 => x.f0)
theorem k24_open {w : World} {x : S24} {cs : List Value} (h : k24.K w x cs) : ∃ A0 c0, cs = [.slice A0 x.f0.length c0] ∧ x.f0.length ≤ c0 ∧ k108.C w A0 x.f0.length x.f0 := by
  obtain ⟨A0, c0, rfl, l0, g0⟩ := h
  exact ⟨A0, c0, rfl, l0, g0⟩
theorem k24_openM {w : World} {base : Nat} {ok : Nat → Prop} {x : S24} {cs : List Value} (h : k24.M w base ok x cs) : ∃ v0, cs = [v0] ∧ k108.R 108 w base ok v0 x.f0 := by
  obtain ⟨v0, rfl, g0⟩ := h
  exact ⟨v0, rfl, g0⟩
theorem k24_mk (w : World) (x : S24) {A0 : Option Addr} {c0 : Nat} (l0 : x.f0.length ≤ c0) (g0 : k108.C w A0 x.f0.length x.f0) : k24.K w x [.slice A0 x.f0.length c0] := ⟨A0, c0, rfl, l0, g0⟩
theorem k24_mkM (w : World) (base : Nat) (ok : Nat → Prop) (x : S24) {v0 : Value} (g0 : k108.R 108 w base ok v0 x.f0) : k24.M w base ok x [v0] := ⟨v0, rfl, g0⟩
def rd_T24 (xs : List S24) (i : Int) : S24 := xs.getD i.toNat z24
theorem at_T24 {w : World} {A : Option Addr} {n : Nat} {xs : List S24} (h : Kd.C k24 w A n xs) (i : Int) (h0 : 0 ≤ i) (h1 : i < n) : ∃ ad A0 c0, A = some ad ∧ w.cell? (ad.add i.toNat) = some (.slice A0 (rd_T24 xs i).f0.length c0) ∧ (rd_T24 xs i).f0.length ≤ c0 ∧ k108.C w A0 (rd_T24 xs i).f0.length (rd_T24 xs i).f0 := by
  obtain ⟨ad, c, e, _, hK, hc0⟩ := Kd.C_get h z24 i h0 h1
  have hc : ∀ j u, c[j]? = some u → w.cell? (ad.add (i.toNat * 1 + j)) = some u := hc0
  obtain ⟨A0, c0, rfl, l0, g0⟩ := k24_open hK
  exact ⟨ad, A0, c0, e, by have hq := hc 0 _ rfl; rwa [Nat.mul_one, Nat.add_zero] at hq, l0, g0⟩

def fit108 (x : S108) : Prop := (x.f0.size ≤ 140737488351232) ∧ (x.f1.length ≤ maxLen ∧ x.f1.length * 8 ≤ 140737488351232 ∧ ∀ y0_ ∈ x.f1, (Lit.int .i64 y0_).wf = true)
theorem opens108 : Opens Try.prog 108 k108 fit108 := by
  have h := opens_struct (P := Try.prog) Try.underlying108 (by kernel_rfl) (opensF_cons (by kernel_rfl) (by kernel_rfl) (opens_string Try.underlying9) (opensF_one (by kernel_rfl) (by kernel_rfl) (opens_slice (B := 8) Try.underlying53 (by kernel_rfl) (by kernel_rfl) (opens_int Try.underlying2))))
  exact opens_iso (fun x : S108 => (x.f0, x.f1)) (fun p_ => ⟨p_.1, p_.2⟩) (fun _ => rfl) h
def fit24 (x : S24) : Prop := (x.f0.length ≤ maxLen ∧ x.f0.length * 40 ≤ 140737488351232 ∧ ∀ y0_ ∈ x.f0, fit108 y0_)
theorem opens24 : Opens Try.prog 24 k24 fit24 := by
  have h := opens_struct (P := Try.prog) Try.underlying24 (by kernel_rfl) (opensF_one (by kernel_rfl) (by kernel_rfl) (opens_slice (B := 40) Try.underlying22 (by kernel_rfl) (by kernel_rfl) opens108))
  exact opens_iso (fun x : S24 => x.f0) (fun p_ => ⟨p_⟩) (fun _ => rfl) h
set_option maxHeartbeats 8000000 in
set_option maxRecDepth 100000 in
theorem laws_markIndex.own2 (k : Nat) (P0_0_ : Nat → Prop) (u9000_ : Value) (l0_0 : List (S63)) (a1 : Int) (r1 : Int) (w0 w : World) (hB : Below w0.heap.size w0 w) (ho0_0 : Kd.S k63 63 w w0.heap.size P0_0_ u9000_ l0_0) (r2 : List (S63)) (h : laws_markEntryS.f k l0_0 a1 = some (r1, r2)) :
    Calls Try.prog 32 #[.agg #[u9000_], .int .i64 a1] w fun e w' => e = .returned (.int .i64 r1) ∧ Kd.S k63 63 w' w0.heap.size (fun k_ => (P0_0_ k_ ∨ w.heap.size ≤ k_)) u9000_ r2 ∧ Below w0.heap.size w0 w' ∧ Kept w w' (fun k_ => P0_0_ k_) := by
  have hu29 := Try.underlying29
  obtain ⟨A, c, e0⟩ := Kd.S_slice ho0_0
  subst e0
  have HO := A_ ho0_0
  have HB := A_ hB
  clear hB ho0_0
  have HH := A_ h
  clear h
  go_enter Try.func32, Try.ntmps32
  go_wp2_with (first | ((with_reducible refine gate_dst (N := 2) rfl ?_); refine box_event ?hg (N := 2) ?hd (cs := #[.slice A l0_0.length c]) (t := 29) ?hr ?_; (case hd => rfl); (case hg => rfl); (case hr => first | (go_simp; done) | (go_simp; rfl)); intro gb hg w1 hbox hb; have hcz : w1.cell? ⟨gb, 0, none⟩ = some (.slice A l0_0.length c) := (blk_cell hbox 0).trans rfl; have hfz := blk_frozen hbox 0; have HO1 := A_ (Kd.S_below HO.out hb); have HB1 := A_ (below_step HB.out hb); have HBb := A_ hb; clear hb hg hbox) | ((with_reducible refine gate_callee (f := 76) rfl ?_); refine goesL_ (some 8) rfl rfl Try.func76 (by kernel_rfl) rfl #[.slice A l0_0.length c, .int .i64 a1] rfl (by (try simp only [List.map_toArray, List.map_cons, List.map_nil]); first | done | rfl) ?_; (refine (laws_markEntryS.calls k P0_0_ (.slice A l0_0.length c) l0_0 a1 r1 r2 w0 _ HB1.out HO1.out HH.out).mono ?_); rintro e w2 ⟨rfl, ho, hb, hkp⟩; refine ⟨_, rfl, ?_⟩; have HO2 := A_ ho; have HB2 := A_ hb; have HK2 := A_ hkp; clear ho hb hkp))
  go_ret
  exact ⟨rfl, Kd.S_mono HO2.out (fun k_ hk_ => hk_.imp id (fun h_ => Nat.le_trans HBb.out.size h_)), HB2.out, Nat.le_trans HBb.out.size HK2.out.1, fun i_ hi_ hn_ => (HK2.out.2 i_ (Nat.lt_of_lt_of_le hi_ HBb.out.size) hn_).trans (HBb.out.block i_ hi_)⟩
/-- A row of entries, each with numbers of its own, as one of the pool's. -/
def rS (base : Nat) (D : Option Addr) (n d : Nat) (xs : List S63) : Res where
  F w ok := Kd.S k63 63 w base ok (.slice D n d) xs
  step h hm := Kd.S_step h hm
  mono h hm := Kd.S_mono h hm
section
variable {w0 w w1 : World} {L : List Res} {A B : Option Addr} {n m c d : Nat} {xs ys : List S63}
theorem Pool.turnS (h0 : Below w0.heap.size w0 w) (f : Nat → Nat) (hc : ∀ (i : Nat) (r : Res), L[i]? = some r → r.F w (fun k => f k = i ∧ w0.heap.size ≤ k ∧ k < w.heap.size)) (i : Nat) (r' : Res) (hb : Below w0.heap.size w0 w1) (hk : Kept w w1 (fun k => f k = i ∧ w0.heap.size ≤ k ∧ k < w.heap.size))
    (hr : r'.F w1 (fun k => ((f k = i ∧ w0.heap.size ≤ k ∧ k < w.heap.size) ∨ w.heap.size ≤ k) ∧ w0.heap.size ≤ k ∧ k < w1.heap.size)) : Pool w0 w1 (L.set i r') := by
  refine ⟨hb, fun k => if w.heap.size ≤ k then i else f k, fun j q hj => ?_⟩
  rw [List.getElem?_set] at hj
  by_cases e : i = j
  · subst e
    rw [if_pos rfl] at hj
    split at hj
    · have e2 : r' = q := by simpa using hj
      subst e2
      refine r'.mono hr (fun k hk' => ⟨?_, hk'.2⟩)
      show (if w.heap.size ≤ k then i else f k) = i
      rcases hk'.1 with h | h
      · rw [if_neg (by omega)]
        exact h.1
      · rw [if_pos h]
    · cases hj
  · rw [if_neg e] at hj
    refine q.mono (q.step (hc j q hj) (fun k hk' hlt => hk.2 k hlt (fun hs => e (hs.1.symm.trans hk'.1)))) (fun k hk' => ⟨?_, hk'.2.1, Nat.lt_of_lt_of_le hk'.2.2 hk.1⟩)
    show (if w.heap.size ≤ k then i else f k) = j
    rw [if_neg (by omega)]
    exact hk'.1
theorem rS_new (P : Pool w0 w L) (hb : Below w.heap.size w w1) {v : Value} {ok : Nat → Prop} (hS : Kd.S k63 63 w1 w.heap.size ok v xs) : ∃ D d, v = .slice D xs.length d ∧ Pool w0 w1 (L ++ [rS w0.heap.size D xs.length d xs]) := by
  obtain ⟨D, d, rfl⟩ := Kd.S_slice hS
  exact ⟨D, d, rfl, P.add hb _ (Kd.S_lower (Kd.S_mono (Kd.S_bound hS) (fun k hk => ⟨hk.2.1, hk.2.2.1⟩)) (below_size P.1))⟩
theorem rS_at (P : Pool w0 w L) (i : Nat) (hi : L[i]? = some (rS w0.heap.size A n c xs)) : n = xs.length ∧ n ≤ c ∧ Kd.C k63 w A xs.length xs := by
  obtain ⟨ok, h⟩ := P.get i _ hi
  exact Kd.S_reads' h
theorem szI {l : List S108} (k : Nat) (t : Int) (P : Pool w0 w L) (hr : Kd.C k108 w0 A l.length l) (hc : l.length ≤ c) (h : laws_szIndex.f k l 1048576 = some t) :
    Calls Try.prog 11 #[.agg #[.slice A l.length c], .int .i64 1048576] w fun e w' => e = .returned (.int .i64 t) ∧ Pool w0 w' L := by
  refine (laws_szIndex.calls k _ _ l _ t w (Kd.C_below hr P.1) hc h).mono ?_
  rintro e w' ⟨rfl, hb⟩
  exact ⟨rfl, P.below hb⟩
theorem toI {l : List S108} (k : Nat) (xs : List S63) (P : Pool w0 w L) (hr : Kd.C k108 w0 A l.length l) (hc : l.length ≤ c) (h : laws_toIndex.f k l = some xs) :
    Calls Try.prog 13 #[.agg #[.slice A l.length c]] w fun e w' => ∃ D d, e = .returned (.agg #[.slice D xs.length d]) ∧ Pool w0 w' (L ++ [rS w0.heap.size D xs.length d xs]) := by
  refine (laws_toIndex.calls k _ _ l xs w (Kd.C_below hr P.1) hc h).mono ?_
  rintro e w' ⟨v, rfl, hS, hb⟩
  obtain ⟨D, d, rfl, Q⟩ := rS_new P hb hS
  exact ⟨D, d, rfl, Q⟩
theorem eqI (k : Nat) (r : Bool) (P : Pool w0 w L) (i j : Nat) (hi : L[i]? = some (rS w0.heap.size A n c xs)) (hj : L[j]? = some (rS w0.heap.size B m d ys)) (h : laws_eqIndex.f k xs ys = some r) :
    Calls Try.prog 15 #[.agg #[.slice A n c], .agg #[.slice B m d]] w fun e w' => e = .returned (.bool r) ∧ Pool w0 w' L := by
  obtain ⟨rfl, h1, h2⟩ := rS_at P i hi
  obtain ⟨rfl, h3, h4⟩ := rS_at P j hj
  refine (laws_eqIndex.calls k _ _ xs _ _ ys r w h2 h1 h4 h3 h).mono ?_
  rintro e w' ⟨rfl, hb⟩
  exact ⟨rfl, P.below hb⟩
theorem heldI (k : Nat) (q r : Int) (P : Pool w0 w L) (i : Nat) (hi : L[i]? = some (rS w0.heap.size A n c xs)) (h : laws_heldIndex.f k xs q = some r) :
    Calls Try.prog 42 #[.agg #[.slice A n c], .int .i64 q] w fun e w' => e = .returned (.int .i64 r) ∧ Pool w0 w' L := by
  obtain ⟨rfl, h1, h2⟩ := rS_at P i hi
  refine (laws_heldIndex.calls k _ _ xs q r w h2 h1 h).mono ?_
  rintro e w' ⟨rfl, hb⟩
  exact ⟨rfl, P.below hb⟩
theorem markI (k : Nat) (q r : Int) (ys : List S63) (P : Pool w0 w L) (i : Nat) (hi : L[i]? = some (rS w0.heap.size A n c xs)) (h : laws_markEntryS.f k xs q = some (r, ys)) :
    Calls Try.prog 32 #[.agg #[.slice A n c], .int .i64 q] w fun e w' => e = .returned (.int .i64 r) ∧ Pool w0 w' (L.set i (rS w0.heap.size A n c ys)) := by
  obtain ⟨h0, f, hc⟩ := P
  refine (laws_markIndex.own2 k (fun k_ => f k_ = i ∧ w0.heap.size ≤ k_ ∧ k_ < w.heap.size) (.slice A n c) xs q r w0 w h0 (hc i _ hi) ys h).mono ?_
  rintro e w' ⟨rfl, hS, hb, hk⟩
  exact ⟨rfl, Pool.turnS h0 f hc i _ hb hk (Kd.S_mono (Kd.S_bound hS) (fun k_ hk_ => ⟨hk_.1, hk_.2.1, hk_.2.2.1⟩))⟩
theorem specD (k : Nat) (q : Int) (r : List S63) (b : Bool) (P : Pool w0 w L) (i : Nat) (hi : L[i]? = some (rS w0.heap.size A n c xs)) (h : spec_DropFrom.f k xs q = some (r, b)) :
    Calls Try.prog 40 #[.agg #[.slice A n c], .int .i64 q] w fun e w' => ∃ D d, e = .returned (.tuple #[.agg #[.slice D r.length d], .bool b]) ∧ Pool w0 w' (L ++ [rS w0.heap.size D r.length d r]) := by
  obtain ⟨rfl, h1, h2⟩ := rS_at P i hi
  refine (spec_DropFrom.calls k _ _ xs q r b w h2 h1 h).mono ?_
  rintro e w' ⟨v, rfl, hS, hb⟩
  obtain ⟨D, d, rfl, Q⟩ := rS_new P hb hS
  exact ⟨D, d, rfl, Q⟩
theorem implD (k : Nat) (q : Int) (r : List S63) (b : Bool) (P : Pool w0 w L) (i : Nat) (hi : L[i]? = some (rS w0.heap.size A n c xs)) (h : impl_DropFrom.f k xs q = some (r, b)) :
    Calls Try.prog 41 #[.agg #[.slice A n c], .int .i64 q] w fun e w' => ∃ D d, e = .returned (.tuple #[.agg #[.slice D r.length d], .bool b]) ∧ Pool w0 w' (L ++ [rS w0.heap.size D r.length d r]) := by
  obtain ⟨rfl, h1, h2⟩ := rS_at P i hi
  refine (impl_DropFrom.calls k _ _ xs q r b w h2 h1 h).mono ?_
  rintro e w' ⟨v, rfl, hS, hb⟩
  obtain ⟨D, d, rfl, Q⟩ := rS_new P hb hS
  exact ⟨D, d, rfl, Q⟩
end
abbrev laws_FnExactDropFrom.T : Bool := true
abbrev laws_FnExactDropFrom.F : Bool := false
/-- What all that the law calls answers, where it ends well. -/
def laws_FnExactDropFrom.Ans (k : Nat) (l : List (S108)) (q : Int) : Prop :=
  ∃ t, laws_szIndex.f k l 1048576 = some t ∧ (t < 0 ∨ ¬ t < 0 ∧ ∃ a r b v am s rm, laws_toIndex.f k l = some a ∧ spec_DropFrom.f k a q = some (r, b) ∧ impl_DropFrom.f k a q = some (r, b) ∧ laws_eqIndex.f k r r = some true ∧ laws_eqIndex.f k a a = some true ∧
    laws_markEntryS.f k a 1 = some (v, am) ∧ ¬ v < 0 ∧ laws_markEntryS.f k r 1 = some (s, rm) ∧ laws_heldIndex.f k rm 1 = some s ∧ ¬ s < 0)
def laws_FnExactDropFrom.Pure : Prop := ∀ (l : List (S108)) (q : Int), (l.length ≤ maxLen ∧ l.length * 40 ≤ 140737488351232 ∧ ∀ y0_ ∈ l, fit108 y0_) → ((Lit.int .i64 q).wf = true) → ∃ k, laws_FnExactDropFrom.Ans k l q
set_option maxHeartbeats 40000000 in
set_option maxRecDepth 100000 in
theorem laws_FnExactDropFrom.walk (Pr : laws_FnExactDropFrom.Pure) (A0 : Option Addr) (c0 : Nat) (l : List (S108)) (q : Int) (w : World) (hr : Kd.C k108 w A0 l.length l) (hc : l.length ≤ c0) (F0 : l.length ≤ maxLen ∧ l.length * 40 ≤ 140737488351232 ∧ ∀ y0_ ∈ l, fit108 y0_) (F1 : (Lit.int .i64 q).wf = true) :
    Calls Try.prog 10 #[.agg #[.slice A0 l.length c0], .int .i64 q] w fun e w' => e = .returned (.bool true) ∧ Below w.heap.size w w' := by
 obtain ⟨k, H⟩ := Pr l q F0 F1
 clear Pr F0 F1
 have hu24 := Try.underlying24
 have hu29 := Try.underlying29
 have P := Pool.nil w
 obtain ⟨t, hz, H⟩ := H
 rcases H with hq | ⟨hq, a, r, b, v, am, s, rm, hT, hS, hI, hE, hEA, hM, hv, hMR, hH, hs⟩
 · have q1 := decide_eq_true hq
   clear hq
   go_enter Try.func10, Try.ntmps10
   go_wp2_with (first | ((with_reducible refine gate_dst (N := 2) rfl ?_); refine bx_ 2 #[.slice A0 l.length c0] 24 ?_; intro g2 hg w1 hbox hb; replace P := P.box hg hbox hb; clear hb hbox hg; obtain ⟨ce, fe⟩ := P.c1 0 rfl) | ((with_reducible refine gate_callee (f := 11) rfl ?_); refine goesL_ (some 18) rfl rfl Try.func11 s2_ rfl #[.agg #[.slice A0 l.length c0], .int .i64 1048576] rfl s3_ ?_; refine (szI k t P hr hc hz).mono ?_; clear P; rintro e w1 ⟨rfl, P⟩; refine ⟨_, rfl, ?_⟩; obtain ⟨ce, fe⟩ := P.c1 0 rfl))
   go_ret
   exact ⟨rfl, P.1⟩
 have q1 := decide_eq_false hq
 have qv := decide_eq_false hv
 have qs := decide_eq_false hs
 clear hq hv hs
 go_enter Try.func10, Try.ntmps10
 go_upto_region 10 with (first | ((with_reducible refine gate_dst (N := 2) rfl ?_); refine bx_ 2 #[.slice A0 l.length c0] 24 ?_; intro g2 hg w1 hbox hb; replace P := P.box hg hbox hb; clear hb hbox hg; obtain ⟨ce, fe⟩ := P.c1 0 rfl) | ((with_reducible refine gate_callee (f := 11) rfl ?_); refine goesL_ (some 18) rfl rfl Try.func11 s2_ rfl #[.agg #[.slice A0 l.length c0], .int .i64 1048576] rfl s3_ ?_; refine (szI k t P hr hc hz).mono ?_; clear P; rintro e w1 ⟨rfl, P⟩; refine ⟨_, rfl, ?_⟩; obtain ⟨ce, fe⟩ := P.c1 0 rfl) | ((with_reducible refine gate_callee (f := 13) rfl ?_); refine goesL_ (some 23) rfl rfl Try.func13 s2_ rfl #[.agg #[.slice A0 l.length c0]] rfl s3_ ?_; refine (toI k a P hr hc hT).mono ?_; clear P; rintro e w1 ⟨B, Bd, rfl, P⟩; refine ⟨_, rfl, ?_⟩) | ((with_reducible refine gate_callee (f := 40) rfl ?_); refine goesL_ (some 25) rfl rfl Try.func40 s2_ rfl #[.agg #[.slice B a.length Bd], .int .i64 q] rfl s3_ ?_; refine (specD k q r b P 1 rfl hS).mono ?_; clear P; rintro e w1 ⟨G, Gd, rfl, P⟩; refine ⟨_, rfl, ?_⟩) | ((with_reducible refine gate_dst (N := 6) rfl ?_); (try (refine gate_guard (by rfl) ?_; dsimp only)); refine bx_ 6 #[.slice none 0 0] 29 ?_; intro g6 hg w1 hbox hb; replace P := P.box hg hbox hb; clear hb hbox hg; obtain ⟨ce, fe⟩ := P.c1 3 rfl) | ((with_reducible refine gate_store (p := 6) rfl ?_); refine st1 P 3 rfl rfl rfl rfl (by go_simp; rfl) ?_; clear P; intro w1 P; obtain ⟨ce, fe⟩ := P.c1 0 rfl) | ((with_reducible refine gate_callee (f := 13) rfl ?_); refine goesL_ (some 29) rfl rfl Try.func13 s2_ rfl #[.agg #[.slice A0 l.length c0]] rfl s3_ ?_; refine (toI k a P hr hc hT).mono ?_; clear P; rintro e w1 ⟨E, Ed, rfl, P⟩; refine ⟨_, rfl, ?_⟩) | ((with_reducible refine gate_dst (N := 8) rfl ?_); (try (refine gate_guard (by rfl) ?_; dsimp only)); refine bx_ 8 #[.slice none 0 0] 29 ?_; intro g8 hg w1 hbox hb; replace P := P.box hg hbox hb; clear hb hbox hg; obtain ⟨ce, fe⟩ := P.c1 5 rfl) | ((with_reducible refine gate_store (p := 8) rfl ?_); refine st1 P 5 rfl rfl rfl rfl (by go_simp; rfl) ?_; clear P; intro w1 P; obtain ⟨ce, fe⟩ := P.c1 5 rfl) | ((with_reducible refine gate_callee (f := 41) rfl ?_); refine goesL_ (some 33) rfl rfl Try.func41 s2_ rfl #[.agg #[.slice E a.length Ed], .int .i64 q] rfl s3_ ?_; refine (implD k q r b P 4 rfl hI).mono ?_; clear P; rintro e w1 ⟨I, Id, rfl, P⟩; refine ⟨_, rfl, ?_⟩) | ((with_reducible refine gate_dst (N := 9) rfl ?_); (try (refine gate_guard (by rfl) ?_; dsimp only)); refine bx_ 9 #[.slice none 0 0] 29 ?_; intro g9 hg w1 hbox hb; replace P := P.box hg hbox hb; clear hb hbox hg; obtain ⟨ce, fe⟩ := P.c1 7 rfl) | ((with_reducible refine gate_store (p := 9) rfl ?_); refine st1 P 7 rfl rfl rfl rfl (by go_simp; rfl) ?_; clear P; intro w1 P; obtain ⟨ce, fe⟩ := P.c1 7 rfl; obtain ⟨ceb, feb⟩ := P.c1 3 rfl) | ((with_reducible refine gate_callee (f := 15) rfl ?_); refine goesL_ (some 38) rfl rfl Try.func15 s2_ rfl #[.agg #[.slice I r.length Id], .agg #[.slice G r.length Gd]] rfl s3_ ?_; refine (eqI k true P 6 2 rfl rfl hE).mono ?_; clear P; rintro e w1 ⟨rfl, P⟩; refine ⟨_, rfl, ?_⟩))
 replace P : Pool w _ [rbox g2 #[.slice A0 l.length c0] 24, rS w.heap.size G r.length Gd r, rbox g6 #[.slice G r.length Gd] 29, rS w.heap.size E a.length Ed a, rbox g8 #[.slice E a.length Ed] 29, rS w.heap.size I r.length Id r, rbox g9 #[.slice I r.length Id] 29] := P.pick [0, 2, 3, 4, 5, 6, 7] _ (by decide) rfl
 replace P := P.drew
 refine start_ (n := 5) (S := fun w' => w'.cell? ⟨g8, 0, none⟩ = some (.slice E a.length Ed) ∧ w'.cell? ⟨g2, 0, none⟩ = some (.slice A0 l.length c0)) (ds := []) #[F,F,F,F,F] s2_ rfl rfl ⟨(P.c1 4 rfl).1, (P.c1 0 rfl).1⟩ (fun hHeld => ?_)
 generalize World.drew _ = w1 at P hHeld ⊢
 refine take_ (i := 0) (N := some 45) (v := ?_) (a' := ?_) #[T,F,F,F,F] rfl rfl s2_ (fun _ _ _ h => h) (Or.inl ⟨by rfl, ?_⟩) hHeld ?_ ?_
 rotate_left
 { rintro w' ⟨s0, s1⟩; go_simp; with_reducible rfl }
 rotate_left
 · exact p1_
 refine take_ (i := 1) (N := some 46) (v := ?_) (a' := ?_) #[T,T,F,F,F] rfl rfl s2_ (fun _ _ _ h => h) (Or.inl ⟨by rfl, ?_⟩) hHeld ?_ ?_
 rotate_left
 { rintro w' ⟨s0, s1⟩; go_simp; with_reducible rfl }
 rotate_left
 · exact p1_
 refine one_ (i := 2) (N := some 47) #[T,T,T,F,F] rfl rfl s2_ (by decide) (fun K hK => ?_)
 refine goes_ Try.func13 s2_ rfl #[.agg #[.slice A0 l.length c0]] (by rfl) rfl rfl s3_ ?_
 refine (toI k a P hr hc hT).mono ?_
 clear P
 rintro e w1 ⟨U, Ud, rfl, P⟩
 refine ⟨_, rfl, ?_⟩
 refine hK.out _ _ ⟨(P.c1 4 rfl).1, (P.c1 0 rfl).1⟩ (fun hHeld => ?_)
 clear hK K
 refine norm_ (a' := ?_) ?_ ?_; rotate_left; { show Act.put _ (some 47) _ = _; simp only [Act.put, List.setIfInBounds_toArray, List.set_cons_zero, List.set_cons_succ, i64_w, i32_w]; rfl }
 refine one_ (i := 3) (N := some 48) #[T,T,T,T,F] rfl rfl s2_ (by decide) (fun K hK => ?_)
 refine goes_ Try.func15 s2_ rfl #[.agg #[.slice E a.length Ed], .agg #[.slice U a.length Ud]] (by rfl) rfl rfl s3_ ?_
 refine (eqI k true P 3 7 rfl rfl hEA).mono ?_
 clear P
 rintro e w1 ⟨rfl, P⟩
 refine ⟨_, rfl, ?_⟩
 refine hK.out _ _ ⟨(P.c1 4 rfl).1, (P.c1 0 rfl).1⟩ (fun hHeld => ?_)
 clear hK K
 refine norm_ (a' := ?_) ?_ ?_; rotate_left; { show Act.put _ (some 48) _ = _; simp only [Act.put, List.setIfInBounds_toArray, List.set_cons_zero, List.set_cons_succ, i64_w, i32_w]; rfl }
 refine pure_ (i := 4) (N := some 49) (v := ?_) (a' := ?_) #[T,T,T,T,T] rfl rfl s2_ (fun _ _ _ h => h) (Or.inl ⟨by rfl, ?_⟩) ?_ ?_
 rotate_left
 { intro w'; go_simp; with_reducible rfl }
 rotate_left
 · exact p1_
 refine done_ s2_ ?_
 clear hHeld
 replace P : Pool w _ [rbox g2 #[.slice A0 l.length c0] 24, rS w.heap.size G r.length Gd r, rbox g6 #[.slice G r.length Gd] 29, rS w.heap.size E a.length Ed a, rbox g8 #[.slice E a.length Ed] 29, rS w.heap.size I r.length Id r, rbox g9 #[.slice I r.length Id] 29] := P.pick [0, 1, 2, 3, 4, 5, 6] _ (by decide) rfl
 obtain ⟨ce, fe⟩ := P.c1 4 rfl
 try go_wp2_with (first | ((with_reducible refine gate_callee (f := 32) rfl ?_); refine goesL_ (some 52) rfl rfl Try.func32 s2_ rfl #[.agg #[.slice E a.length Ed], .int .i64 1] rfl s3_ ?_; refine (markI k 1 v am P 3 rfl hM).mono ?_; clear P; rintro e w1 ⟨rfl, P⟩; refine ⟨_, rfl, ?_⟩; obtain ⟨ce, fe⟩ := P.c1 6 rfl; obtain ⟨ceb, feb⟩ := P.c1 2 rfl) | (go_at_call 15; refine (eqI k true P 5 1 rfl rfl hE).mono ?_; clear P; rintro e w1 ⟨rfl, P⟩; obtain ⟨ce, fe⟩ := P.c1 6 rfl) | ((with_reducible refine gate_callee (f := 32) rfl ?_); refine goesL_ (some 68) rfl rfl Try.func32 s2_ rfl #[.agg #[.slice I r.length Id], .int .i64 1] rfl s3_ ?_; refine (markI k 1 s rm P 5 rfl hMR).mono ?_; clear P; rintro e w1 ⟨rfl, P⟩; refine ⟨_, rfl, ?_⟩; obtain ⟨ce, fe⟩ := P.c1 6 rfl) | ((with_reducible refine gate_callee (f := 42) rfl ?_); refine goesL_ (some 71) rfl rfl Try.func42 s2_ rfl #[.agg #[.slice I r.length Id], .int .i64 1] rfl s3_ ?_; refine (heldI k 1 s P 5 rfl hH).mono ?_; clear P; rintro e w1 ⟨rfl, P⟩; refine ⟨_, rfl, ?_⟩; obtain ⟨ce, fe⟩ := P.c1 0 rfl) | ((with_reducible refine gate_callee (f := 13) rfl ?_); refine goesL_ (some 79) rfl rfl Try.func13 s2_ rfl #[.agg #[.slice A0 l.length c0]] rfl s3_ ?_; refine (toI k a P hr hc hT).mono ?_; clear P; rintro e w1 ⟨B, Bd, rfl, P⟩; refine ⟨_, rfl, ?_⟩) | ((with_reducible refine gate_callee (f := 41) rfl ?_); refine goesL_ (some 81) rfl rfl Try.func41 s2_ rfl #[.agg #[.slice B a.length Bd], .int .i64 q] rfl s3_ ?_; refine (implD k q r b P 7 rfl hI).mono ?_; clear P; rintro e w1 ⟨J, Jd, rfl, P⟩; refine ⟨_, rfl, ?_⟩) | ((with_reducible refine gate_dst (N := 14) rfl ?_); (try (refine gate_guard (by rfl) ?_; dsimp only)); refine bx_ 14 #[.slice none 0 0] 29 ?_; intro g14 hg w1 hbox hb; replace P := P.box hg hbox hb; clear hb hbox hg; obtain ⟨ce, fe⟩ := P.c1 9 rfl) | ((with_reducible refine gate_store (p := 14) rfl ?_); refine st1 P 9 rfl rfl rfl rfl (by go_simp; rfl) ?_; clear P; intro w1 P; obtain ⟨ce, fe⟩ := P.c1 9 rfl; obtain ⟨ceb, feb⟩ := P.c1 2 rfl) | ((with_reducible refine gate_callee (f := 15) rfl ?_); refine goesL_ (some 86) rfl rfl Try.func15 s2_ rfl #[.agg #[.slice J r.length Jd], .agg #[.slice G r.length Gd]] rfl s3_ ?_; refine (eqI k true P 8 1 rfl rfl hE).mono ?_; clear P; rintro e w1 ⟨rfl, P⟩; refine ⟨_, rfl, ?_⟩; obtain ⟨ce, fe⟩ := P.c1 6 rfl) | ((with_reducible refine gate_callee (f := 42) rfl ?_); refine goesL_ (some 95) rfl rfl Try.func42 s2_ rfl #[.agg #[.slice I r.length Id], .int .i64 1] rfl s3_ ?_; refine (heldI k 1 s P 5 rfl hH).mono ?_; clear P; rintro e w1 ⟨rfl, P⟩; refine ⟨_, rfl, ?_⟩))
 go_ret
 exact ⟨rfl, P.1⟩

end Go.Proofs.Ytcnhepjdibbkgaa.QFnExactDropFrom
