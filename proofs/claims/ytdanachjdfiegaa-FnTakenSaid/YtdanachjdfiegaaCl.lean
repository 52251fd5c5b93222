/- A word of this session's own: 'clear(xs[k:])', xs a row of the call's own (nil and a row without room let in): the elements from k on are zero then. -/
import Derived.Test.YtdanachjdfiegaaWWords
namespace Go.Proofs.YtdanachjdfiegaaW.PrintWords
open Go.RowKit
set_option linter.unusedVariables false
set_option linter.unusedSimpArgs false
/-! Three stores into one block, one behind the other. -/
theorem Kd.R_far3 {α : Type} {d : Kd α} {e : Nat} {w : World} {base : Nat} {ok : Nat → Prop} {v : Value} {xs : List α} (h : d.R e w base ok v xs) {g : Nat} (hok : ∀ k, ok k → k ≠ g) {i j l : Nat} {a b c : Value} : d.R e (((w.setCell ⟨g, i, none⟩ a).setCell ⟨g, j, none⟩ b).setCell ⟨g, l, none⟩ c) base ok v xs :=
  Kd.R_far (p := ⟨g, l, none⟩) (Kd.R_far (p := ⟨g, j, none⟩) (Kd.R_far (p := ⟨g, i, none⟩) h hok a) hok b) hok c
theorem blk_put3 {w : World} {g : Nat} {t : TypeId} {cs cs' : Array Value} (h : w.heap[g]? = some (.cells cs t (0, 0))) {i j l : Nat} {a b c : Value} (e : ((cs.setIfInBounds i a).setIfInBounds j b).setIfInBounds l c = cs') : (((w.setCell ⟨g, i, none⟩ a).setCell ⟨g, j, none⟩ b).setCell ⟨g, l, none⟩ c).heap[g]? = some (.cells cs' t (0, 0)) :=
  blk_put (blk_put (blk_put h i a rfl) j b rfl) l c e
theorem blk_far3 {w : World} {g : Nat} {t : TypeId} {cs : Array Value} (h : w.heap[g]? = some (.cells cs t (0, 0))) {g' : Nat} (hp : g ≠ g') {i j l : Nat} {a b c : Value} : (((w.setCell ⟨g', i, none⟩ a).setCell ⟨g', j, none⟩ b).setCell ⟨g', l, none⟩ c).heap[g]? = some (.cells cs t (0, 0)) :=
  blk_far (p := ⟨g', l, none⟩) (blk_far (p := ⟨g', j, none⟩) (blk_far (p := ⟨g', i, none⟩) h hp a) hp b) hp c
namespace Kd
section
variable {P : Program} {α : Type}
theorem R_clear_run (d : Kd α) {W : World} (base : Nat) (t ty e : TypeId) (z : Value) (bytes : Nat) (ht : P.underlying t = some (.slice e)) (hinfo : (P.info? e).map (fun i => (i.zero, i.size, i.bytes)) = some (some z, d.sz, bytes)) (hz : z.cells.size = d.sz) (hs0 : 0 < d.sz)
    {A : Option Addr} {n c k : Nat} {xs : List α} {z0 : α} {ok : Nat → Prop} (hzero : d.M W base (fun _ => False) z0 z.cells.toList) (HO : d.R e W base ok (.slice A n c) xs) (hk : k ≤ xs.length) {A2 : Option Addr} (hA : A2 = if c = k then A else A.map (·.add (k * d.sz))) (m c2 : Nat) (hm : m = n - k) :
    ∃ w1, (Builtin.clear_ #[t] ty #[.slice A2 m c2]).run P W = .ok (.tuple #[]) w1 ∧ d.R e w1 base ok (.slice A n c) (xs.take k ++ List.replicate (xs.length - k) z0) ∧ W.grownBy w1 (Value.slice A n c).ownBlock := by
  obtain ⟨hn, hnc, _⟩ := R_reads' HO
  obtain ⟨i0, hi, hzz⟩ := Option.map_eq_some_iff.1 hinfo
  simp only [Prod.mk.injEq] at hzz
  obtain ⟨hz0, hz1, hz2⟩ := hzz
  rcases Nat.eq_zero_or_pos m with h0 | hp
  · have hkx : xs.take k ++ List.replicate (xs.length - k) z0 = xs := by
      have hk2 : k = xs.length := by omega
      subst hk2
      simp
    refine ⟨W, ?_, by rw [hkx]; exact HO, World.grownBy.refl W _⟩
    subst h0
    cases A2 <;> simp [Builtin.clear_, run_underlying ht]
  · obtain ⟨hok, inner, hown, hr⟩ := HO
    have hin : inner.length = n * d.sz := by rw [hr.1, hn]
    rcases hown.2 with ⟨hv, _⟩ | ⟨g, cap, cur, hv, hb, hh, hnc', hcm, hcs, htake⟩
    · injection hv with _ h1 _
      omega
    injection hv with ha h1 hc
    subst ha; subst hc
    have hckn : c ≠ k := by omega
    rw [if_neg hckn, Option.map_some] at hA
    subst hA
    obtain ⟨zs, hzs⟩ : ∃ zs, zs = (Builtin.zeroCells z.cells m).toList := ⟨_, rfl⟩
    have hzl : zs.length = m * d.sz := by rw [hzs, Array.length_toList, size_zeroCells, hz]
    have hks : k * d.sz + m * d.sz = n * d.sz := by rw [← Nat.add_mul]; congr 1; omega
    have hle : n * d.sz ≤ c * d.sz := Nat.mul_le_mul_right _ hnc
    have hnM : Reps (d.M W base (fun _ => False)) d.sz (List.replicate m z0) zs := by
      have h := reps_made hz hs0 hzero m
      rw [hzs, show Builtin.zeroCells z.cells m = madeCells z.cells (m * d.sz) by unfold Builtin.zeroCells madeCells; rw [hz]]
      exact h
    have hone : ∀ u ∈ zs, u.oneCell' = true := by
      intro u hu
      obtain ⟨q, hq, rfl⟩ := List.mem_iff_getElem.1 hu
      have hql : q / d.sz < (List.replicate m z0).length := by
        rw [Nat.div_lt_iff_lt_mul hs0, List.length_replicate, ← hzl]
        exact hq
      refine d.K_one (d.K_of_M (hnM.2 (q / d.sz) _ (List.getElem?_eq_getElem hql))) _ ?_
      rw [List.mem_iff_getElem?]
      refine ⟨q % d.sz, ?_⟩
      rw [List.getElem?_take, if_pos (Nat.mod_lt _ hs0), List.getElem?_drop, Nat.mul_comm, Nat.div_add_mod, List.getElem?_eq_getElem hq]
    have hst := run_storeCells_cells (P := P) g (0 + k * d.sz) zs 0 W (fun j hj => by rw [cell_of_row W g _ cur e (0, 0) hh, Array.getElem?_eq_getElem (by omega)]; rfl) (fun j _ => blk_frozen hh _) hone
    simp only [Nat.add_zero] at hst
    have hzv : (zeroValue e).run P W = .ok z W := by simp [zeroValue, typeInfo, hi, hz0]
    have hrun : (Builtin.clear_ #[t] ty #[.slice (some ((⟨g, 0, none⟩ : Addr).add (k * d.sz))) m c2]).run P W = .ok (.tuple #[]) (W.setCells g (0 + k * d.sz) zs) := by
      obtain ⟨m', rfl⟩ : ∃ m', m = m' + 1 := ⟨m - 1, by omega⟩
      rw [add_at]
      have hst2 := hst
      rw [hzs] at hst2
      rw [Nat.zero_add] at hst2 ⊢
      simp [Builtin.clear_, run_underlying ht, hzv, hst2]
      rw [hzs]
    obtain ⟨cur', h3, h4, h5⟩ := setCells_row zs (0 + k * d.sz) W cur hh (by omega)
    obtain ⟨s1, s2, s3, s4⟩ := setCells_same g zs (0 + k * d.sz) W
    have hfar : ∀ k', k' ≠ g → (W.setCells g (0 + k * d.sz) zs).heap[k']? = W.heap[k']? := fun k' hk' => setCells_far zs _ k' hk'
    have hgo : some g = (Value.slice (some ⟨g, 0, none⟩) n c).ownBlock := rfl
    have hmv : ∀ p q, d.M W base (fun k' => ok k' ∧ some k' ≠ (Value.slice (some ⟨g, 0, none⟩) n c).ownBlock) p q → d.M (W.setCells g (0 + k * d.sz) zs) base (fun k' => ok k' ∧ some k' ≠ (Value.slice (some ⟨g, 0, none⟩) n c).ownBlock) p q := fun p q hp =>
      d.M_move (fun k' hk' => hfar k' (fun he => hk'.2 (by rw [← hgo, he]))) hp
    have hmz : ∀ p q, d.M W base (fun _ => False) p q → d.M (W.setCells g (0 + k * d.sz) zs) base (fun k' => ok k' ∧ some k' ≠ (Value.slice (some ⟨g, 0, none⟩) n c).ownBlock) p q := fun p q hp =>
      d.M_mono (fun k' hk' => hk'.elim) (d.M_move (fun k' hk' => hk'.elim) hp)
    have hlen : (xs.take k ++ List.replicate (xs.length - k) z0).length = n := by rw [List.length_append, List.length_take, List.length_replicate]; omega
    have hmx : xs.length - k = m := by omega
    refine ⟨_, hrun, ⟨hok, inner.take (k * d.sz) ++ zs, ⟨?_, .inr ⟨g, c, cur', by rw [hlen], hb, h3, by rw [hlen]; exact hnc, hcm, by rw [h4, hcs], ?_⟩⟩, ?_⟩, ⟨s1, s2, s3, by rw [s4]; exact Nat.le_refl _, fun k' _ hk' => hfar k' (fun he => hk' (by rw [he]; rfl))⟩⟩
    · rw [List.length_append, List.length_take, hzl, hlen]
      omega
    · rw [h5, hlen, Nat.zero_add, ← hks]
      have h6 : cur.toList.take (k * d.sz) = inner.take (k * d.sz) := by
        rw [← htake, List.take_take, ← hn, Nat.min_eq_left (by omega)]
      rw [h6]
      exact List.take_left' (by rw [List.length_append, List.length_take, hzl]; omega)
    · rw [hmx]
      exact reps_append ((reps_take hr hk).imp_ hmv) (hnM.imp_ hmz)
end
section
variable {P : Program} {ops : Array Oper} {rest : List Oper} {o : Oper} {a : Act} {Q : Exit → Act → World → Prop} {Kc : Act → World → Prop} {α : Type}
theorem R_clear (d : Kd α) {w0 W : World} (base : Nat) (hgd : o.guard = none) (x : Operand) (t e : TypeId) (z : Value) (bytes : Nat) (ho : o.op = .call { callee := .builtin .clear, args := #[x], argTypes := #[t] })
    (ht : P.underlying t = some (.slice e)) (hinfo : (P.info? e).map (fun i => (i.zero, i.size, i.bytes)) = some (some z, d.sz, bytes)) (hz : z.cells.size = d.sz) (hs0 : 0 < d.sz)
    {A A2 : Option Addr} {n c k m c2 : Nat} {xs : List α} {ok : Nat → Prop} (z0 : α) (hx : a.eval x = .slice A2 m c2) (hA : A2 = if c = k then A else A.map (·.add (k * d.sz))) (hm : m = n - k) (hzero : d.M W base (fun _ => False) z0 z.cells.toList)
    (HO : d.R e W base ok (.slice A n c) xs) (hk : k ≤ xs.length) (HB : Below base w0 W) (hbase : base ≤ W.heap.size)
    (h : ∀ w1, d.R e w1 base ok (.slice A n c) (xs.take k ++ List.replicate (xs.length - k) z0) → Below base w0 w1 → W.grownBy w1 (Value.slice A n c).ownBlock → wpList P ops Q rest (a.put o.dst (.tuple #[])) w1) : wpList P ops Q (o :: rest) a W := by
  obtain ⟨w1, hr, h1, h2⟩ := R_clear_run (P := P) d base t o.type e z bytes ht hinfo hz hs0 hzero HO hk hA m c2 hm
  refine wpList_plain hgd fun K hK => ?_
  unfold Oper.wp execOp
  simp only [ho, resolve, invoke, builtin, Sem.run_bind, Sem.run_pure, Result.andThen_ok, List.map_toArray, List.map_cons, List.map_nil, hx, hr]
  exact hK _ _ (h w1 h1 (HB.grown h2 hbase (fun k hk => R_base HO k hk)) h2)
end
end Kd
end Go.Proofs.YtdanachjdfiegaaW.PrintWords
