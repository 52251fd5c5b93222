-- by hand
import Derived.Test.YtdanachjdfiegaaQFnTakenx9
import Derived.Test.YtdanachjdfiegaaQFnTakenx12
namespace Go.Proofs.Ytdanachjdfiegaa.QFnTaken
open Go.RowKit Go.Proofs.YtdanachjdfiegaaW.PrintWords Go.Proofs.YtdanachjdfiegaaW.PrintLast Go.Proofs.YtdanachjdfiegaaW.PrintMore
attribute [local go_sem] max2_int min2_int max_two min_two max_three min_three max_four min_four   -- for this text's walks alone
set_option linter.unusedVariables false
set_option linter.unusedSimpArgs false
/-- Nothing. -/
def rnil : Res where
  F _ _ := True
  step _ _ := trivial
  mono _ _ := trivial
section
variable {w0 w w1 : World} {L : List Res} {A B : Option Addr} {n m c d g i : Nat} {xs ys : List S58} {x : S58}
/-- The cells of a box of a row of one's own. -/
theorem boxCells (P : Pool w0 w L) (j : Nat) (hj : L[j]? = some (rS w0.heap.size (some ⟨g, 0, none⟩) n d xs)) (hx : xs[i]? = some x) :
    ∃ A c3, w.cell? ⟨g, i * 4 + 2, none⟩ = some (.int .i64 x.f2) ∧ w.cell? ⟨g, i * 4 + 3, none⟩ = some (.slice A x.f3.length c3) ∧ w.frozen? ⟨g, i * 4 + 2, none⟩ = false ∧ w.frozen? ⟨g, i * 4 + 3, none⟩ = false ∧ x.f3.length ≤ c3 ∧ Kd.C k97 w A x.f3.length x.f3 := by
  obtain ⟨ok, hS⟩ := P.get j _ hj
  have hi := (List.getElem?_eq_some_iff.1 hx).1
  obtain ⟨hN, _, _⟩ := Kd.S_reads' hS
  have hxe : xs.getD (i : Int).toNat z58 = x := by
    show xs.getD i z58 = x
    rw [List.getD_eq_getElem?_getD, hx]; rfl
  obtain ⟨oki, c, hcl, hM, hcells, hfr, hoki, hH⟩ := Kd.S_elem hS z58 (i : Int) (by omega) (by omega)
  rw [hxe] at hM
  obtain ⟨v3, rfl, hR⟩ := k58_openM hM
  obtain ⟨A, c3, rfl⟩ := Kd.R_slice hR
  obtain ⟨-, h3, hC⟩ := Kd.R_reads' hR
  exact ⟨A, c3, hcells 2 _ rfl, hcells 3 _ rfl, hfr 2, hfr 3, h3, hC⟩
/-- A row of parcels of the pool becomes a box's. -/
theorem Pool.putHeld (P : Pool w0 w L) (j q : Nat) {v : Value} {ps : List S97} (hj : L[j]? = some (rS w0.heap.size (some ⟨g, 0, none⟩) n d xs)) (hq : L[q]? = some (rrow k97 97 w0.heap.size v ps)) (hjq : j ≠ q) (hx : xs[i]? = some x) :
    Pool w0 (w.setCell ⟨g, i * 4 + 3, none⟩ v) ((L.set q rnil).set j (rS w0.heap.size (some ⟨g, 0, none⟩) n d (xs.set i ⟨x.f0, x.f1, x.f2, ps⟩))) := by
  obtain ⟨h0, c, hc⟩ := P
  have hS : Kd.S k58 58 w w0.heap.size (fun k => c k = j ∧ w0.heap.size ≤ k ∧ k < w.heap.size) (.slice (some ⟨g, 0, none⟩) n d) xs := hc j _ hj
  have hR : Kd.R k97 97 w w0.heap.size (fun k => (c k = q ∧ w0.heap.size ≤ k ∧ k < w.heap.size) ∧ some k = v.ownBlock) v ps := hc q _ hq
  have hgo : c g = j ∧ w0.heap.size ≤ g ∧ g < w.heap.size := (Kd.S_R hS).1 g rfl
  have hi := (List.getElem?_eq_some_iff.1 hx).1
  obtain ⟨hN, _, _⟩ := Kd.S_reads' hS
  have hxe : xs.getD (i : Int).toNat z58 = x := by
    show xs.getD i z58 = x
    rw [List.getD_eq_getElem?_getD, hx]; rfl
  have hS2 : Kd.S k58 58 w w0.heap.size (fun k => ((c k = j ∨ c k = q) ∧ w0.heap.size ≤ k ∧ k < w.heap.size) ∧ ¬ c k = q) (.slice (some ⟨g, 0, none⟩) n d) xs := Kd.S_mono hS (fun k hk => ⟨⟨.inl hk.1, hk.2⟩, fun e => hjq (hk.1.symm.trans e)⟩)
  obtain ⟨oki, cs, hcl, hM, hcells, hfr, hoki, hH⟩ := Kd.S_elem hS2 z58 (i : Int) (by omega) (by omega)
  rw [hxe] at hM
  obtain ⟨v3, rfl, hR3⟩ := k58_openM hM
  have hseg := Kd.S_seg (d := k58) (okg := fun k => c k = q ∧ w0.heap.size ≤ k ∧ k < w.heap.size) (okp := fun k => (c k = q ∧ w0.heap.size ≤ k ∧ k < w.heap.size) ∧ some k = v.ownBlock) (seg := [v]) (j := 3) (x' := ⟨x.f0, x.f1, x.f2, ps⟩)
    (Kd.H_mono (ok' := fun k => ((c k = j ∨ c k = q) ∧ w0.heap.size ≤ k ∧ k < w.heap.size) ∧ ¬ (c k = q ∧ w0.heap.size ≤ k ∧ k < w.heap.size)) hH (fun k hk => ⟨hk.1, fun e => hk.2 e.1⟩)) (by omega) (by omega) (by show 3 + 1 ≤ 4; omega) (k58_mkM _ _ _ ⟨x.f0, x.f1, x.f2, ps⟩ hR) (fun k hk => .inr hk.1) (fun k hk => ⟨⟨.inr hk.1, hk.2⟩, fun e => by subst e; exact hjq (hgo.1.symm.trans hk.1)⟩)
  have hsame : ∀ k, k ≠ g → (w.setCell ⟨g, i * 4 + 3, none⟩ v).heap[k]? = w.heap[k]? := fun k hk => Below.heap_setCell _ _ _ _ hk
  refine ⟨below_set h0 hgo.2.1, fun k => if c k = q then j else c k, fun t r ht => ?_⟩
  have hj2 : j < L.length := (List.getElem?_eq_some_iff.1 hj).1
  rw [List.getElem?_set] at ht
  by_cases e : j = t
  · subst e
    rw [if_pos rfl, if_pos (by simpa using hj2)] at ht
    obtain rfl := Option.some.inj ht
    refine Kd.S_mono hseg.1 (fun k hk => ⟨?_, hk.2.1, by simpa using hk.2.2⟩)
    rcases hk.1 with h | h
    · show (if c k = q then j else c k) = j
      split
      · rfl
      · exact h
    · show (if c k = q then j else c k) = j
      rw [if_pos h]
  · rw [if_neg e, List.getElem?_set] at ht
    by_cases e2 : q = t
    · subst e2
      rw [if_pos rfl] at ht
      split at ht
      · obtain rfl := Option.some.inj ht
        trivial
      · cases ht
    · rw [if_neg e2] at ht
      refine r.mono (r.step (hc t r ht) (fun k hk hlt => hsame k (fun e3 => by subst e3; exact e (hgo.1.symm.trans hk.1)))) (fun k hk => ⟨?_, hk.2.1, by simpa using hk.2.2⟩)
      show (if c k = q then j else c k) = t
      rw [if_neg (fun e3 => e2 (e3.symm.trans hk.1))]
      exact hk.1
theorem concatW {gb : Nat} (P : Pool w0 w L) {a b l : List S97} {A1 : Option Addr} {c0 c1 : Nat} (hl : l = a ++ b) (q : Nat) (hq : L[q]? = some (rbox gb #[.slice A a.length c0, .slice A1 b.length c1] 56)) (hr0 : Kd.C k97 w A a.length a) (hc0 : a.length ≤ c0) (hr1 : Kd.C k97 w A1 b.length b) (hc1 : b.length ≤ c1) (la : a.length ≤ 100) (lb : b.length ≤ 100) :
    Calls Try.prog 68 #[.slice (some ⟨gb, 0, none⟩) 2 2] w fun e w' => ∃ D e0, e = .returned (.slice D l.length e0) ∧ Pool w0 w' (L ++ [rrow k97 97 w0.heap.size (.slice D l.length e0) l]) ∧ Below w.heap.size w w' := by
  subst hl
  refine (impl_Concat.calls gb _ _ a _ _ b w (P.cell q hq) hr0 hc0 hr1 hc1 la lb).mono ?_
  rintro e w' ⟨v, rfl, hR, hb⟩
  obtain ⟨D, e0, rfl, hP⟩ := newP P hb hR
  exact ⟨D, e0, rfl, hP, hb⟩
theorem parcelsW (k : Nat) (P : Pool w0 w L) {a : List S97} (hr0 : Kd.C k97 w0 A a.length a) (hc0 : a.length ≤ c) (h : impl_parcelsOk.f k a = some true) :
    Calls Try.prog 67 #[.slice A a.length c] w fun e w' => e = .returned (.bool true) ∧ Pool w0 w' L := by
  refine (impl_parcelsOk.calls k _ _ a true w (Kd.C_below hr0 P.1) hc0 h).mono ?_
  rintro e w' ⟨rfl, hb⟩
  exact ⟨rfl, P.below hb⟩
/-- (*Box).trim, where there is not too much. -/
theorem trimP (P : Pool w0 w L) (lim : Int) (j : Nat) (hj : L[j]? = some (rS w0.heap.size (some ⟨g, 0, none⟩) n d xs)) (hx : xs[i]? = some x) (hl : (x.f3.length : Int) ≤ lim) (hl2 : lim ≤ 1000) :
    Calls Try.prog 69 #[.pointer (some ⟨g, i * 4, none⟩), .int .i64 lim] w fun e w' => e = .returned (.tuple #[]) ∧ Pool w0 w' L := by
  have hu56 := Try.underlying56
  have hu58 := Try.underlying58
  obtain ⟨A, c3, h2, h3, f2, f3, -, -⟩ := boxCells P j hj hx
  have hw : wrap64 ((x.f3.length : Int) - lim) = (x.f3.length : Int) - lim := by unfold wrap64; omega
  have hd : decide ((x.f3.length : Int) - lim > 0) = false := decide_eq_false (by omega)
  have hd2 : ¬ (lim < (x.f3.length : Int)) := by omega
  have HP := Aside0.mk P
  clear P hx hl hl2
  go_enter Try.func69, Try.ntmps69
  go_wp2
  go_end0
  exact ⟨rfl, by first | exact HP.out | exact HP.out.drew⟩
end
end Go.Proofs.Ytdanachjdfiegaa.QFnTaken
