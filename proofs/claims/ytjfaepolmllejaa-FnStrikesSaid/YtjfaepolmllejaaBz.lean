-- rows of bytes that a conversion of a string made: as the own rows, but for the mark behind their cells (a text of this work)
import Derived.Test.YtjfaepolmllejaaWWords
import Derived.Test.YtjfaepolmllejaaWMore
import Derived.Lib.ConvBytes
set_option linter.unusedVariables false
namespace Go.Proofs.YtjfaepolmllejaaW.PrintWords.Kd
open Go.RowKit
/-- A row of bytes of the call's own whose block carries a conversion's mark behind its cells. -/
def B (_d : Kd Int) (e : Nat) (w : World) (base : Nat) (ok : Nat → Prop) (v : Value) (xs : List Int) : Prop :=
  ∃ g cap cur, v = .slice (some ⟨g, 0, none⟩) xs.length cap ∧ ok g ∧ base ≤ g ∧ w.heap[g]? = some (.cells cur e (cur.size, cur.size + 1)) ∧ xs.length ≤ cap ∧ cur.size = cap ∧ cur.toList.take xs.length = xs.map (Value.int .u8)
section
variable {d : Kd Int} {e : Nat} {w w1 : World} {base : Nat} {ok ok' : Nat → Prop} {v : Value} {xs : List Int}
theorem B_mono (h : Kd.B d e w base ok v xs) (hok : ∀ k, ok k → ok' k) : Kd.B d e w base ok' v xs := by
  obtain ⟨g, cap, cur, hv, ho, hr⟩ := h
  exact ⟨g, cap, cur, hv, hok g ho, hr⟩
theorem B_lower {base' : Nat} (h : Kd.B d e w base ok v xs) (hb : base' ≤ base) : Kd.B d e w base' ok v xs := by
  obtain ⟨g, cap, cur, hv, ho, h1, hr⟩ := h
  exact ⟨g, cap, cur, hv, ho, Nat.le_trans hb h1, hr⟩
theorem B_step (h : Kd.B d e w base ok v xs) (hm : ∀ k, ok k → k < w.heap.size → w1.heap[k]? = w.heap[k]?) : Kd.B d e w1 base ok v xs := by
  obtain ⟨g, cap, cur, hv, ho, h1, h2, hr⟩ := h
  exact ⟨g, cap, cur, hv, ho, h1, (hm g ho (Array.getElem?_eq_some_iff.1 h2).1).trans h2, hr⟩
theorem B_below (h : Kd.B d e w base ok v xs) (hb : Below w.heap.size w w1) : Kd.B d e w1 base ok v xs := B_step h (fun k _ hk => hb.block k hk)
theorem B_far (h : Kd.B d e w base ok v xs) {p : Addr} (hok : ∀ k, ok k → k ≠ p.block) (u : Value) : Kd.B d e (w.setCell p u) base ok v xs := B_step h (fun k ho _ => Below.heap_setCell w p u k (hok k ho))
theorem B_marked (h : Kd.B d e w base ok v xs) {g t : Nat} {cells : Array Value} (hb : w.heap[g]? = some (.cells cells t (0, 0))) : some g ≠ v.ownBlock := by
  obtain ⟨g', cap, cur, rfl, ho, h1, h2, hr⟩ := h
  intro e'
  have e2 : g = g' := by simpa [Value.ownBlock] using e'
  subst e2
  rw [hb] at h2
  injection h2 with h2
  injection h2 with _ _ h3
  injection h3 with _ h4
  omega
theorem B_ne (h : Kd.B d e w base ok v xs) {g t : Nat} {cells : Array Value} (hb : w.heap[g]? = some (.cells cells t (0, 0))) (ht : e ≠ t) : some g ≠ v.ownBlock := B_marked h hb
theorem B_away (h : Kd.B d e w base ok v xs) {g : Nat} (hok : ∀ k, ok k → k ≠ g) : some g ≠ v.ownBlock := by
  obtain ⟨g', cap, cur, rfl, ho, _⟩ := h
  intro e'
  have e2 : g = g' := by simpa [Value.ownBlock] using e'
  exact hok _ ho e2.symm
theorem B_types (h : Kd.B d e w base ok v xs) {g t : Nat} {cells : Array Value} (hb : w.heap[g]? = some (.cells cells t (0, 0))) (ht : ∀ q, q ∈ e :: d.E → q ≠ t) : Kd.B d e w base (fun k => ok k ∧ k ≠ g) v xs := by
  have hne := B_marked h hb
  obtain ⟨g', cap, cur, rfl, ho, hr⟩ := h
  exact ⟨g', cap, cur, rfl, ⟨ho, fun e' => hne (by rw [← e']; rfl)⟩, hr⟩
theorem B_elderB (h : Kd.B d e w base ok v xs) (a : Nat) (ha : w.heap.size ≤ a) : Kd.B d e w base (fun k => ok k ∧ k ≠ a) v xs := by
  obtain ⟨g, cap, cur, hv, ho, h1, h2, hr⟩ := h
  have := (Array.getElem?_eq_some_iff.1 h2).1
  exact ⟨g, cap, cur, hv, ⟨ho, by omega⟩, h1, h2, hr⟩
theorem B_alloc (h : Kd.B d e w base ok v xs) (o : Obj) : Kd.B d e (w.alloc o) base ok v xs := B_below h (below_alloc (Below.refl _ _) o)
theorem B_drew (h : Kd.B d e w base ok v xs) : Kd.B d e w.drew base ok v xs := B_below h (below_drew (Below.refl _ _))
theorem B_drewN (h : Kd.B d e w base ok v xs) (m : Nat) : Kd.B d e (w.drewN m) base ok v xs := B_below h (pw_below_drewN (Below.refl _ _) m)
theorem B_at {m : Nat} {w' : World} (hq : w.drewN m = w') (h : Kd.B d e w base ok v xs) : Kd.B d e w' base ok v xs := by subst hq; exact B_drewN h m
theorem B_lt (h : Kd.B d e w base ok v xs) : ∀ k, v.ownBlock = some k → k < w.heap.size := by
  obtain ⟨g, cap, cur, rfl, ho, h1, h2, hr⟩ := h
  intro k hk
  have e2 : g = k := by simpa [Value.ownBlock] using hk
  subst e2
  exact (Array.getElem?_eq_some_iff.1 h2).1
theorem B_base (h : Kd.B d e w base ok v xs) : ∀ k, v.ownBlock = some k → base ≤ k := by
  obtain ⟨g, cap, cur, rfl, ho, h1, h2, hr⟩ := h
  intro k hk
  have e2 : g = k := by simpa [Value.ownBlock] using hk
  subst e2
  exact h1
theorem B_slice (h : Kd.B d e w base ok v xs) : ∃ A c, v = .slice A xs.length c := by
  obtain ⟨g, cap, cur, rfl, _⟩ := h
  exact ⟨_, _, rfl⟩
theorem B_reads' {A : Option Addr} {n c : Nat} (h : Kd.B d e w base ok (.slice A n c) xs) : n = xs.length ∧ n ≤ c := by
  obtain ⟨g, cap, cur, hv, ho, h1, h2, h3, _⟩ := h
  injection hv with _ e1 e2
  subst e1 e2
  exact ⟨rfl, h3⟩
theorem B_form (h : Kd.B d e w base ok v xs) (hp : 0 < xs.length) : ∃ g cap, v = .slice (some ⟨g, 0, none⟩) xs.length cap ∧ base ≤ g ∧ g < w.heap.size ∧ ∃ cells, w.heap[g]? = some (.cells cells e (cells.size, cells.size + 1)) := by
  obtain ⟨g, cap, cur, rfl, ho, h1, h2, _⟩ := h
  exact ⟨g, cap, rfl, h1, (Array.getElem?_eq_some_iff.1 h2).1, cur, h2⟩
theorem B_celln {g n cap : Nat} (z : Int) (h : Kd.B d e w base ok (.slice (some ⟨g, 0, none⟩) n cap) xs) (i : Int) (h0 : 0 ≤ i) (hi : i < n) : w.cell? ⟨g, i.toNat, none⟩ = some (.int .u8 (rdOf z xs i)) ∧ w.frozen? ⟨g, i.toNat, none⟩ = false := by
  obtain ⟨g', cap', cur, hv, ho, h1, h2, h3, h4, h5⟩ := h
  injection hv with e1 e2 e3
  injection e1 with e1
  injection e1 with e1
  subst e1 e2 e3
  have hl : i.toNat < xs.length := by omega
  have hc : i.toNat < cur.size := by omega
  refine ⟨?_, by simp [World.frozen?, h2]; omega⟩
  rw [show rdOf z xs i = xs[i.toNat] by unfold rdOf; simp [List.getD, List.getElem?_eq_getElem hl]]
  rw [cell_of_row w g i.toNat cur e _ h2, Array.getElem?_eq_getElem hc]
  have h6 : (cur.toList.take xs.length)[i.toNat]? = some (.int .u8 xs[i.toNat]) := by rw [h5, List.getElem?_map, List.getElem?_eq_getElem hl]; rfl
  rw [List.getElem?_take_of_lt hl, Array.getElem?_toList, Array.getElem?_eq_getElem hc] at h6
  exact h6
theorem B_putg {g n cap : Nat} (h : Kd.B d e w base ok (.slice (some ⟨g, 0, none⟩) n cap) xs) (i : Int) (x : Int) : Kd.B d e (w.setCell ⟨g, i.toNat, none⟩ (.int .u8 x)) base ok (.slice (some ⟨g, 0, none⟩) n cap) (xs.set i.toNat x) ∧ w.grownBy (w.setCell ⟨g, i.toNat, none⟩ (.int .u8 x)) (some g) := by
  obtain ⟨g', cap', cur, hv, ho, h1, h2, h3, h4, h5⟩ := h
  injection hv with e1 e2 e3
  injection e1 with e1
  injection e1 with e1
  subst e1 e2 e3
  have hset : (w.setCell ⟨g, i.toNat, none⟩ (.int .u8 x)).heap[g]? = some (.cells (cur.setIfInBounds i.toNat (.int .u8 x)) e ((cur.setIfInBounds i.toNat (.int .u8 x)).size, (cur.setIfInBounds i.toNat (.int .u8 x)).size + 1)) := by
    rw [setCell_eq_setRow w g i.toNat cur e _ _ h2]
    rw [setRow_heap w g cur _ e _ h2]
    simp
  refine ⟨⟨g, cap, cur.setIfInBounds i.toNat (.int .u8 x), by simp, ho, h1, hset, by simpa using h3, by simpa using h4, ?_⟩, ?_⟩
  · rw [Array.toList_setIfInBounds, List.length_set, List.take_set, h5, List.map_set]
  · exact ⟨rfl, rfl, rfl, by simp, fun k _ hk => Below.heap_setCell w _ _ k (fun he => hk (by rw [he]))⟩
theorem B_over' {W w1 : World} {u : Value} (h : Kd.B d e W base ok u xs) {e' : Nat} (hty : ∀ k, v.ownBlock = some k → ∃ cells, W.heap[k]? = some (.cells cells e' (0, 0))) (ht : ∀ q, q ∈ e :: d.E → q ≠ e') (hg : W.grownBy w1 v.ownBlock) : Kd.B d e w1 base ok u xs := by
  have hm : ∀ k, v.ownBlock = some k → some k ≠ u.ownBlock := fun k hk => by
    obtain ⟨cells, hc⟩ := hty k hk
    exact B_marked h hc
  obtain ⟨g, cap, cur, rfl, ho, h1, h2, hr⟩ := h
  exact ⟨g, cap, cur, rfl, ho, h1, (hg.block g (Array.getElem?_eq_some_iff.1 h2).1 (fun he => hm g he.symm rfl)).trans h2, hr⟩
/-- A row of bytes has been written: any plain row stays. -/
theorem R_overB {α : Type} {d' : Kd α} {e' base' : Nat} {ok' : Nat → Prop} {u : Value} {ys : List α} (h : d'.R e' w base' ok' u ys) (hB : Kd.B d e w base ok v xs) (hg : w.grownBy w1 v.ownBlock) : d'.R e' w1 base' ok' u ys := by
  refine R_mono (R_move (R_bound h) (fun k hk => hg.block k hk.2.2.1 (fun he => ?_))) (fun _ hk => hk.1)
  obtain ⟨_, _, _, q, _, cells, hc⟩ := hk
  exact B_marked hB hc he
theorem B_string {P : Program} {e' src dst : TypeId} (hs : P.underlying src = some (.slice e')) (he : P.underlying e' = some (.int .u8)) (hd : P.underlying dst = some .string) (h : Kd.B d e w base ok v xs) : (convert src dst v).run P w = .ok (.string (strOfNums xs)) w := by
  obtain ⟨g, cap, cur, rfl, ho, h1, h2, h3, h4, h5⟩ := h
  refine run_convert_bytes_arg w src e' hs he g 0 xs.length cap xs rfl (fun i hi => ?_) dst hd
  have hc : i < cur.size := by omega
  have h6 : (cur.toList.take xs.length)[i]? = some (.int .u8 xs[i]) := by rw [h5, List.getElem?_map, List.getElem?_eq_getElem hi]; rfl
  rw [List.getElem?_take_of_lt hi, Array.getElem?_toList] at h6
  rw [Nat.zero_add, cell_of_row w g i cur e _ h2, h6]
  simp [List.getD, List.getElem?_eq_getElem hi]
end
theorem B_new (W : World) (e : TypeId) (s : ByteArray) (base : Nat) (hb : base ≤ W.heap.size) {ok : Nat → Prop} (hok : ok W.heap.size) (d : Kd Int) : Kd.B d e (Lib.bytesWorld W e s) base ok (.slice (some ⟨W.heap.size, 0, none⟩) s.size (grownCap W s.size 0 e)) (bytesOf s) := by
  have hz : (Lib.bytesCells W e s).size = grownCap W s.size 0 e := by
    have := grownCap_ge W s.size 0 e
    simp [Lib.bytesCells]
    have h2 : s.data.size = s.size := rfl
    omega
  refine ⟨W.heap.size, grownCap W s.size 0 e, Lib.bytesCells W e s, by rw [bytesOf_length], hok, hb, Lib.bytesWorld_at_new W e s, by rw [bytesOf_length]; exact grownCap_ge W s.size 0 e, hz, ?_⟩
  rw [bytesOf_length]
  simp [Lib.bytesCells, bytesOf]
/-- '[]byte(s)'. -/
theorem B_conv {P : Program} {ops : Array Oper} {rest : List Oper} {o : Oper} {a : Act} {Q : Exit → Act → World → Prop} {w0 W : World} (base : Nat) (e : TypeId) (hgd : o.guard = none) {N : Tmp} (hd : o.dst = some N) (src dst : TypeId) (x : Operand) (ho : o.op = .convert src dst x) (s : ByteArray) (hx : a.eval x = .string s)
    {u : TypeDesc} (hs : P.underlying src = some u) (ht : P.underlying dst = some (.slice e)) (he : P.underlying e = some (.int .u8)) {ok okp : Nat → Prop} (hok : ∀ k, okp k → ok k) (hfresh : ok W.heap.size) (HB : Below base w0 W) (hbase : base ≤ W.heap.size)
    (h : ∀ v1 w1, Kd.B (Kd.int .u8) e w1 base ok v1 (bytesOf s) → Below base w0 w1 → W.heap.size ≤ w1.heap.size → (∃ b, v1.ownBlock = some b ∧ W.heap.size ≤ b) → wpList P ops Q rest (a.put o.dst v1) w1) : wpList P ops Q (o :: rest) a W := by
  refine wpList_plain hgd fun K hK => ?_
  have hr := Lib.run_convert_string_bytes W src dst e s hs ht he
  unfold Oper.wp execOp
  simp only [ho, hx, hr, Sem.run_bind, Sem.run_pure, Result.andThen_ok]
  exact hK _ _ (h _ _ (B_new W e s base hbase hfresh _) (bytes_below HB hbase e s) (by rw [Lib.bytesWorld_size]; omega) ⟨W.heap.size, rfl, Nat.le_refl _⟩)
end Go.Proofs.YtjfaepolmllejaaW.PrintWords.Kd
