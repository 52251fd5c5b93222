-- written by a program of this session, on the lines of the kit's print
import Derived.Test.YtjfaepolmllejaaQFnStrikesx0
import Derived.Test.YtjfaepolmllejaaQFnStrikesx1
import Derived.Test.YtjfaepolmllejaaQFnStrikesx2
import Derived.Test.YtjfaepolmllejaaQFnStrikesx5
namespace Go.Proofs.Ytjfaepolmllejaa.QFnStrikes
open Go.RowKit Go.Proofs.YtjfaepolmllejaaW.PrintWords Go.Proofs.YtjfaepolmllejaaW.PrintLast Go.Proofs.YtjfaepolmllejaaW.PrintMore
attribute [local go_sem] max2_int min2_int max_two min_two max_three min_three max_four min_four   -- for this text's walks alone
set_option linter.unusedVariables false
set_option linter.unusedSimpArgs false

/-! ### impl_WorstMembers: function 41 -/
/-- Is the key there; what stands at it; how two members are compared. -/
def impl_WorstMembers.hasK (m : List (Int × Int)) (x : Int) : Bool := m.any fun p => p.1 == x
def impl_WorstMembers.valK (m : List (Int × Int)) (x : Int) : Int := ((m.find? fun p => p.1 == x).map Prod.snd).getD 0
def impl_WorstMembers.cmpK (m : List (Int × Int)) (x y : Int) : Int := if impl_WorstMembers.valK m y < impl_WorstMembers.valK m x then -1 else if impl_WorstMembers.valK m x < impl_WorstMembers.valK m y then 1 else if x < y then -1 else if y < x then 1 else 0
def impl_WorstMembers.fitK (l : List Int) : Bool := decide (l.length < 4611686018427387904) && l.all fun x => decide (0 ≤ x ∧ x ≤ 1000)
def impl_WorstMembers.srt (m : List (Int × Int)) (l : List Int) : Option (List Int) :=
  if impl_WorstMembers.fitK l = true then some (((l.map fun x => (⟨x.toNat % 1001, Nat.mod_lt _ (by decide)⟩ : Fin 1001)).mergeSort fun x y => !decide (impl_WorstMembers.cmpK m (y.val : Int) (x.val : Int) < 0)).map fun x => (x.val : Int)) else none
/-- Block g is a map of these members and points. -/
def impl_WorstMembers.MP (w : World) (g : Nat) (m : List (Int × Int)) : Prop :=
  ∃ D : DataW Unit, w.ownsMap Try.prog 2 (plainElem Try.prog 2) g m.length D ∧ ∀ x : Int, 0 ≤ x → x ≤ 1000 → Maps.has D (.int .i64 x) = impl_WorstMembers.hasK m x ∧ D.atKey (.int .i64 x) (.lit (.int .i64 0)) = .lit (.int .i64 (impl_WorstMembers.valK m x))
section
variable {w w1 : World} {g : Nat} {m : List (Int × Int)}
theorem impl_WorstMembers.mp_map (h : impl_WorstMembers.MP w g m) : ∃ es clock, w.heap[g]? = some (.map es clock) := by
  obtain ⟨D, ⟨es, clock, hb, _⟩, _⟩ := h
  exact ⟨es, clock, hb⟩
theorem impl_WorstMembers.mp_lt (h : impl_WorstMembers.MP w g m) : g < w.heap.size := by
  obtain ⟨D, ho, _⟩ := h
  exact ho.lt
theorem impl_WorstMembers.mp_move (h : impl_WorstMembers.MP w g m) (e : w1.heap[g]? = w.heap[g]?) : impl_WorstMembers.MP w1 g m := by
  obtain ⟨D, ⟨es, clock, hb, F, hs, hD⟩, hv⟩ := h
  exact ⟨D, ⟨es, clock, e.trans hb, F, hs, hD⟩, hv⟩
theorem impl_WorstMembers.mp_below (h : impl_WorstMembers.MP w g m) (hb : Below w.heap.size w w1) : impl_WorstMembers.MP w1 g m := impl_WorstMembers.mp_move h (hb.block g (impl_WorstMembers.mp_lt h))
theorem impl_WorstMembers.mp_alloc (h : impl_WorstMembers.MP w g m) (o : Obj) : impl_WorstMembers.MP (w.alloc o) g m := impl_WorstMembers.mp_below h (below_alloc (Below.refl _ _) o)
theorem impl_WorstMembers.mp_drew (h : impl_WorstMembers.MP w g m) : impl_WorstMembers.MP w.drew g m := impl_WorstMembers.mp_move h rfl
theorem impl_WorstMembers.mp_drewN (h : impl_WorstMembers.MP w g m) (n : Nat) : impl_WorstMembers.MP (w.drewN n) g m := impl_WorstMembers.mp_move h rfl
theorem impl_WorstMembers.mp_set (h : impl_WorstMembers.MP w g m) {g' j : Nat} {u : Value} (hne : g ≠ g') : impl_WorstMembers.MP (w.setCell ⟨g', j, none⟩ u) g m := impl_WorstMembers.mp_move h (Below.heap_setCell w ⟨g', j, none⟩ u g hne)
theorem impl_WorstMembers.mp_grown (h : impl_WorstMembers.MP w g m) {row : Option Nat} (hg : w.grownBy w1 row) (hne : some g ≠ row) : impl_WorstMembers.MP w1 g m := impl_WorstMembers.mp_move h (hg.block g (impl_WorstMembers.mp_lt h) hne)
theorem impl_WorstMembers.mp_ne (h : impl_WorstMembers.MP w g m) {g' : Nat} {cs : Array Value} {t : TypeId} {fr : Nat × Nat} (hb : w.heap[g']? = some (.cells cs t fr)) : g ≠ g' := by
  obtain ⟨es, clock, hm⟩ := impl_WorstMembers.mp_map h
  intro e
  subst e
  rw [hm] at hb
  cases hb
theorem impl_WorstMembers.mp_row (h : impl_WorstMembers.MP w g m) {α : Type} {d : Kd α} {e base : Nat} {ok : Nat → Prop} {v : Value} {xs : List α} (hr : d.R e w base ok v xs) : some g ≠ v.ownBlock := by
  intro hv
  obtain ⟨cells, hc⟩ := Kd.R_typed hr g hv.symm
  exact impl_WorstMembers.mp_ne h hc rfl
theorem impl_WorstMembers.row_mp (h : impl_WorstMembers.MP w g m) (hg : w.grownBy w1 (some g)) {α : Type} {d : Kd α} {e base : Nat} {ok : Nat → Prop} {v : Value} {xs : List α} (hr : d.R e w base ok v xs) : d.R e w1 base ok v xs := by
  refine Kd.R_mono (Kd.R_step (Kd.R_bound hr) (fun k hk hlt => hg.block k hlt ?_)) (fun k hk => hk.1)
  intro e
  injection e with e
  obtain ⟨_, _, _, q, _, cells, hc⟩ := hk
  exact impl_WorstMembers.mp_ne h hc e.symm
theorem impl_WorstMembers.mp_new (W : World) : impl_WorstMembers.MP (W.alloc (.map #[] 0)) W.heap.size [] :=
  ⟨_, World.ownsMap_made W Try.prog 2 (plainElem Try.prog 2), fun x _ _ => ⟨rfl, rfl⟩⟩
theorem impl_WorstMembers.wf_small {x : Int} (h0 : 0 ≤ x) (h1 : x ≤ 1000000) : (Lit.int .i64 x).wf = true := by
  simp [Lit.wf, IntKind.min, IntKind.max, IntKind.signed, IntKind.bits]
  omega
theorem impl_WorstMembers.zero2 (W : World) : (zeroValue 2).run Try.prog W = .ok (.int .i64 0) W := by kernel_rfl
theorem impl_WorstMembers.mp_put (H : impl_WorstMembers.MP w g m) {x n : Int} (h0 : 0 ≤ x) (h1 : x ≤ 1000) (n0 : 0 ≤ n) (n1 : n ≤ 1000000) (hn : impl_WorstMembers.hasK m x = false) (hl : m.length < maxLen) :
    ∃ w', (Instr.mapUpdate 90 (.map (some g)) (.int .i64 x) (.int .i64 n)).run Try.prog w = .ok () w' ∧ impl_WorstMembers.MP w' g (m ++ [(x, n)]) ∧ w.grownBy w' (some g) := by
  obtain ⟨D, ho, hv⟩ := H
  obtain ⟨w', hrun, ho', hg⟩ := ho.update (Maps.int_keyed Try.underlying2) Try.underlying90 hl (Maps.keyOf_int_mk Try.underlying2 (impl_WorstMembers.wf_small h0 (by omega))) (plainElem_int Try.underlying2 (impl_WorstMembers.wf_small n0 n1))
  refine ⟨w', hrun, ⟨_, by simpa using ho', fun y y0 y1 => ?_⟩, hg⟩
  by_cases e : y = x
  · subst e
    rw [Maps.has_put_same (k := Lit.int .i64 y) ho.isMap trivial, Maps.atKey_put_same (k := Lit.int .i64 y) ho.isMap trivial]
    have hf : m.find? (fun p => p.1 == y) = none := by
      rw [List.find?_eq_none]
      intro p hp hq
      have : impl_WorstMembers.hasK m y = true := by unfold impl_WorstMembers.hasK; exact List.any_eq_true.2 ⟨p, hp, hq⟩
      rw [hn] at this
      cases this
    refine ⟨by simp [impl_WorstMembers.hasK], ?_⟩
    simp [impl_WorstMembers.valK, List.find?_append, hf]
  · have e2 : (Lit.int .i64 y) ≠ Lit.int .i64 x := by intro h; injection h with _ h; exact e h
    have e3 : (x == y) = false := by simpa using fun h => e h.symm
    rw [Maps.has_put_other e2, Maps.atKey_put_other e2, (hv y y0 y1).1, (hv y y0 y1).2]
    refine ⟨by simp [impl_WorstMembers.hasK, e3], ?_⟩
    simp [impl_WorstMembers.valK, List.find?_append, e3]
end
theorem impl_WorstMembers.look2 {w : World} {ops : Array Oper} {rest : List Oper} {o : Oper} {a : Act} {Q : Exit → Act → World → Prop} {g : Nat} {m : List (Int × Int)} (hg : o.guard = none) (q x : Operand) (hop : o.op = Op.lookup 90 q x true)
    (hm : a.eval q = .map (some g)) (H : impl_WorstMembers.MP w g m) {y : Int} (hx : a.eval x = .int .i64 y) (h0 : 0 ≤ y) (h1 : y ≤ 1000) (b : Bool) (hb : impl_WorstMembers.hasK m y = b)
    (hK : ∀ c : Int, wpList Try.prog ops Q rest (a.put o.dst (.tuple #[.int .i64 c, .bool b])) w) : wpList Try.prog ops Q (o :: rest) a w := by
  obtain ⟨D, ho, hv⟩ := H
  refine wpList_lookup_own_ok_int w hg q x 90 hop 2 2 .i64 (Maps.int_keyed Try.underlying2) Try.underlying90 Try.underlying2 (impl_WorstMembers.zero2 w) g _ D hm ho (.int .i64 y) (.int .i64 y) hx (Maps.keyOf_int_mk Try.underlying2 (impl_WorstMembers.wf_small h0 (by omega))) ?_
  intro c _ _
  rw [(hv y h0 h1).1, hb]
  exact hK c
theorem impl_WorstMembers.look1 {w : World} {ops : Array Oper} {rest : List Oper} {o : Oper} {a : Act} {Q : Exit → Act → World → Prop} {g : Nat} {m : List (Int × Int)} (hg : o.guard = none) (q x : Operand) (hop : o.op = Op.lookup 90 q x false)
    (hm : a.eval q = .map (some g)) (H : impl_WorstMembers.MP w g m) {y : Int} (hx : a.eval x = .int .i64 y) (h0 : 0 ≤ y) (h1 : y ≤ 1000)
    (hK : wpList Try.prog ops Q rest (a.put o.dst (.int .i64 (impl_WorstMembers.valK m y))) w) : wpList Try.prog ops Q (o :: rest) a w := by
  obtain ⟨D, ho, hv⟩ := H
  refine wpList_lookup_own_int w hg q x 90 hop 2 2 .i64 (Maps.int_keyed Try.underlying2) Try.underlying90 Try.underlying2 (impl_WorstMembers.zero2 w) g _ D hm ho (.int .i64 y) (.int .i64 y) hx (Maps.keyOf_int_mk Try.underlying2 (impl_WorstMembers.wf_small h0 (by omega))) ?_
  intro c hc _
  rw [(hv y h0 h1).2] at hc
  injection hc with hc
  injection hc with _ hc
  rw [← hc]
  exact hK
theorem impl_WorstMembers.store {w : World} {ops : Array Oper} {rest : List Oper} {o : Oper} {a : Act} {Q : Exit → Act → World → Prop} {g : Nat} {m : List (Int × Int)} (hg : o.guard = none) (q x v : Operand) (hop : o.op = Op.mapUpdate 90 q x v)
    (hm : a.eval q = .map (some g)) (H : impl_WorstMembers.MP w g m) {y n : Int} (hx : a.eval x = .int .i64 y) (hv : a.eval v = .int .i64 n) (h0 : 0 ≤ y) (h1 : y ≤ 1000) (n0 : 0 ≤ n) (n1 : n ≤ 1000000) (hn : impl_WorstMembers.hasK m y = false) (hl : m.length < maxLen)
    (hK : ∀ w', impl_WorstMembers.MP w' g (m ++ [(y, n)]) → w.grownBy w' (some g) → wpList Try.prog ops Q rest (a.put o.dst undef) w') : wpList Try.prog ops Q (o :: rest) a w := by
  refine wpList_plain hg fun K' hK' => ?_
  obtain ⟨w', hrun, r1, r2⟩ := impl_WorstMembers.mp_put H h0 h1 n0 n1 hn hl
  unfold Oper.wp
  simp [execOp, hop, hm, hx, hv, hrun, Result.andThen]
  exact hK' _ _ (hK w' r1 r2)
theorem impl_WorstMembers.made {w : World} {ops : Array Oper} {rest : List Oper} {o : Oper} {a : Act} {Q : Exit → Act → World → Prop} (hg : o.guard = none) (hop : o.op = Op.makeMap 90 none)
    (hK : ∀ g w', g = w.heap.size → impl_WorstMembers.MP w' g [] → Below w.heap.size w w' → wpList Try.prog ops Q rest (a.put o.dst (.map (some g))) w') : wpList Try.prog ops Q (o :: rest) a w := by
  refine Kd.event_run hg (w1 := w.alloc (.map #[] 0)) ?_ (hK _ _ rfl (impl_WorstMembers.mp_new w) (below_alloc (Below.refl _ _) _))
  simp only [execOp, hop]
  first | rfl | (go_simp; rfl) | (simp [run_makeMap]; rfl)
theorem impl_WorstMembers.two_row (W : World) (a b : Int) : Kd.C (Kd.int .i64) (W.alloc (.cells #[.int .i64 a, .int .i64 b] 3)) (some ⟨W.heap.size, 0, none⟩) [a, b].length [a, b] := by
  have h : Kd.R (Kd.int .i64) 3 (W.alloc (.cells #[.int .i64 a, .int .i64 b] 3)) 0 (fun _ => True) (.slice (some ⟨W.heap.size, 0, none⟩) 2 2) [a, b] :=
    ⟨fun _ _ => trivial, [.int .i64 a, .int .i64 b], ⟨rfl, .inr ⟨W.heap.size, 2, #[.int .i64 a, .int .i64 b], rfl, Nat.zero_le _, blk_new _ _, Nat.le_refl 2, by decide, rfl, rfl⟩⟩, rfl, by
      intro j p hj
      match j, hj with
      | 0, hj => cases hj; rfl
      | 1, hj => cases hj; rfl⟩
  exact (Kd.R_reads' h).2.2
theorem impl_WorstMembers.cmp_f (a b : Int) : cmp_Compare_int64_n83.f a b = some (if a < b then -1 else if b < a then 1 else 0) := by
  unfold cmp_Compare_int64_n83.f cmp_isNaN_int64_n107.f
  simp only [Option.bind_some, bne_self_eq_false, Bool.false_eq_true, if_false]
  by_cases h : a < b
  · rw [if_pos h, if_pos h]
  · rw [if_neg h, if_neg h]
    by_cases h2 : b < a
    · rw [if_pos h2, if_pos h2]
    · rw [if_neg h2, if_neg h2]
theorem impl_WorstMembers.or2 (a b : Int) : cmp_Or_int_n82.f 3 [a, b] = some (if a = 0 then b else a) := by
  have w1 : wrap64 (0 + 1) = 1 := by unfold wrap64; omega
  have w2 : wrap64 (1 + 1) = 2 := by unfold wrap64; omega
  have r0 : rd [a, b] 0 = a := rfl
  have r1 : rd [a, b] 1 = b := rfl
  unfold cmp_Or_int_n82.f
  rw [cmp_Or_int_n82.l0, w1, cmp_Or_int_n82.l0, w2, cmp_Or_int_n82.l0, r0, r1]
  simp only [List.length_cons, List.length_nil]
  by_cases h : a = 0
  · by_cases h2 : b = 0 <;> simp [h, h2]
  · simp [h]
theorem impl_WorstMembers.or_f (m : List (Int × Int)) (x y : Int) : cmp_Or_int_n82.f 3 [if impl_WorstMembers.valK m y < impl_WorstMembers.valK m x then -1 else if impl_WorstMembers.valK m x < impl_WorstMembers.valK m y then 1 else 0, if x < y then -1 else if y < x then 1 else 0] = some (impl_WorstMembers.cmpK m x y) := by
  rw [impl_WorstMembers.or2]
  unfold impl_WorstMembers.cmpK
  by_cases h1 : impl_WorstMembers.valK m y < impl_WorstMembers.valK m x
  · simp [h1]
  · by_cases h2 : impl_WorstMembers.valK m x < impl_WorstMembers.valK m y <;> simp [h1, h2]
theorem impl_WorstMembers.grown2 (W : World) (a c : Nat) (o : Obj) : (((W.drewN a).alloc o).drewN c) = Sort.grow (W.drewN (a + c)) #[o] := by
  simp only [World.alloc, World.drewN, Sort.grow]
  congr 1
  omega
set_option maxHeartbeats 2000000 in
theorem impl_WorstMembers.clos (gO gM : Nat) (m : List (Int × Int)) (W : World) (hm : impl_WorstMembers.MP W gM m) (hb : W.heap[gO]? = some (.cells #[.map (some gM)] 90 (0, 0))) (x y : Fin 1001) :
    Calls Try.prog 81 #[.int .i64 (x.val : Int), .int .i64 (y.val : Int), .pointer (some ⟨gO, 0, none⟩)] W fun e w' => e = .returned (.int .i64 (impl_WorstMembers.cmpK m (x.val : Int) (y.val : Int))) ∧ ∃ q os, w' = Sort.grow (W.drewN q) os := by
  obtain ⟨X, hX⟩ : ∃ X : Int, X = (x.val : Int) := ⟨_, rfl⟩
  obtain ⟨Y, hY⟩ : ∃ Y : Int, Y = (y.val : Int) := ⟨_, rfl⟩
  have bX : 0 ≤ X ∧ X ≤ 1000 := by have := x.isLt; omega
  have bY : 0 ≤ Y ∧ Y ≤ 1000 := by have := y.isLt; omega
  rw [← hX, ← hY]
  clear hX hY
  have HM := Aside0.mk hm
  have BX := Aside0.mk bX
  have BY := Aside0.mk bY
  have hc : W.cell? ⟨gO, 0, none⟩ = some (.map (some gM)) := blk_cell hb 0
  clear hm bX bY hb
  obtain ⟨V, hV⟩ : ∃ V : Int → Int, V = impl_WorstMembers.valK m := ⟨_, rfl⟩
  have HC := Aside0.mk (impl_WorstMembers.cmp_f (V Y) (V X))
  have HD := Aside0.mk (impl_WorstMembers.cmp_f X Y)
  have HE := Aside0.mk (impl_WorstMembers.or_f m X Y)
  rw [← hV] at HE
  have HV := Aside0.mk hV
  clear hV
  generalize (if V Y < V X then (-1 : Int) else if V X < V Y then 1 else 0) = c1 at HC HE
  generalize (if X < Y then (-1 : Int) else if Y < X then 1 else 0) = c2 at HD HE
  generalize impl_WorstMembers.cmpK m X Y = R at HE ⊢
  have HO : ∀ a, Calls Try.prog 82 #[.slice (some ⟨W.heap.size, 0, none⟩) 2 2] ((W.drewN a).alloc (.cells #[.int .i64 c1, .int .i64 c2] 3)) fun e w' => e = .returned (.int .i64 R) ∧ Drawn0 ((W.drewN a).alloc (.cells #[.int .i64 c1, .int .i64 c2] 3)) w' := fun a => cmp_Or_int_n82.calls 3 _ 2 [c1, c2] R _ (impl_WorstMembers.two_row _ c1 c2) (Nat.le_refl _) HE.out
  go_enter Try.func81, Try.ntmps81
  go_wp2_with (first
    | ((with_reducible refine gate_dst (N := 8) rfl ?_); refine impl_WorstMembers.look1 rfl (.tmp 6) (.tmp 7) rfl rfl HM.out rfl BY.out.1 BY.out.2 ?_; rw [← HV.out])
    | ((with_reducible refine gate_dst (N := 11) rfl ?_); refine impl_WorstMembers.look1 rfl (.tmp 9) (.tmp 10) rfl rfl HM.out rfl BX.out.1 BX.out.2 ?_; rw [← HV.out])
    | (go_at_call 83; (with_reducible refine (cmp_Compare_int64_n83.calls (V Y) (V X) c1 _ HC.out).mono ?_); rintro e w' ⟨rfl, ⟨nd1, rfl⟩⟩)
    | (go_at_call 83; (with_reducible refine (cmp_Compare_int64_n83.calls X Y c2 _ HD.out).mono ?_); rintro e w' ⟨rfl, ⟨nd2, rfl⟩⟩)
    | (go_at_call 82; (with_reducible refine (HO _).mono ?_); rintro e w' ⟨rfl, ⟨nd3, rfl⟩⟩))
  go_ret
  exact ⟨rfl, _, _, impl_WorstMembers.grown2 _ _ _ _⟩
def impl_WorstMembers.enc (x : Fin 1001) : Value := .int .i64 (x.val : Int)
theorem impl_WorstMembers.back {w : World} {e base : Nat} {ok : Nat → Prop} {g n cap : Nat} {l0 : List Int} (h : Kd.R (Kd.int .i64) e w base ok (.slice (some ⟨g, 0, none⟩) n cap) l0) (m : List (Fin 1001)) (hm : m.length = l0.length) (q : Nat) (os : Array Obj) :
    Kd.R (Kd.int .i64) e (sortWorld impl_WorstMembers.enc w g 0 q m.toArray os) base ok (.slice (some ⟨g, 0, none⟩) n cap) (m.map fun x => (x.val : Int)) := by
  have hs : (Kd.int .i64 : Kd Int).sz = 1 := rfl
  obtain ⟨hok, inner, ⟨hl, hn | ⟨g', cap', cur, hv, hb, hh, hnc, hcm, hcs, ht⟩⟩, hr⟩ := h
  · cases hn.1
  · injection hv with h1 h2 h3
    injection h1 with h1
    injection h1 with h1
    subst h1 h2 h3
    rw [hs, Nat.mul_one] at hl hcs ht
    have hgs : g < w.heap.size := (Array.getElem?_eq_some_iff.1 hh).1
    have hz : (Sort.putCells impl_WorstMembers.enc 0 m.toArray cur).size = cur.size := by simp [Sort.putCells]
    refine ⟨hok, (m.map fun x => Value.int .i64 (x.val : Int)), ⟨by simp [hs], .inr ⟨g, cap, Sort.putCells impl_WorstMembers.enc 0 m.toArray cur, by simp [hm], hb, ?_, by simp; omega, hcm, by rw [hz, hs, Nat.mul_one]; exact hcs, ?_⟩⟩, by simp [hs], ?_⟩
    · show (Array.append (w.heap.modify g (Sort.onCells (Sort.putCells impl_WorstMembers.enc 0 m.toArray))) os)[g]? = _
      rw [show Array.append (w.heap.modify g (Sort.onCells (Sort.putCells impl_WorstMembers.enc 0 m.toArray))) os = w.heap.modify g (Sort.onCells (Sort.putCells impl_WorstMembers.enc 0 m.toArray)) ++ os from rfl, Array.getElem?_append_left (by simpa using hgs), Array.getElem?_modify, if_pos rfl, hh]
      rfl
    · rw [hs, Nat.mul_one, List.length_map]
      apply List.ext_getElem?
      intro j
      by_cases hj : j < m.length
      · have hj2 : j < cur.size := by rw [hcs]; omega
        rw [List.getElem?_take_of_lt hj]
        simp only [Sort.putCells, Array.getElem?_toList, Array.getElem?_mapIdx, Array.getElem?_eq_getElem hj2, Option.map_some, List.size_toArray, Nat.zero_add, Nat.zero_le, true_and, if_pos hj, Nat.sub_zero, List.getElem?_map, List.getElem?_eq_getElem hj]
        rw [getElem!_pos m.toArray j (by simpa using hj)]
        rfl
      · rw [List.getElem?_eq_none (by simp; omega), List.getElem?_eq_none (by simp; omega)]
    · intro j p hp
      rw [List.getElem?_map] at hp
      obtain ⟨x, hx, rfl⟩ := Option.map_eq_some_iff.1 hp
      have hj : j < m.length := (List.getElem?_eq_some_iff.1 hx).1
      show ((List.map (fun x => Value.int .i64 (x.val : Int)) m).drop (j * 1)).take 1 = [Value.int .i64 (x.val : Int)]
      rw [Nat.mul_one, List.drop_eq_getElem_cons (by simpa using hj)]
      have : m[j] = x := by rw [List.getElem?_eq_getElem hj] at hx; exact Option.some.inj hx
      simp [this]
theorem impl_WorstMembers.holds {w : World} {e base : Nat} {ok : Nat → Prop} {g n cap : Nat} {l0 : List Int} (h : Kd.R (Kd.int .i64) e w base ok (.slice (some ⟨g, 0, none⟩) n cap) l0) (m : List (Fin 1001)) (hm : (m.map fun x => (x.val : Int)) = l0) :
    Sort.Holds impl_WorstMembers.enc w g 0 m.toArray ∧ g < w.heap.size ∧ n = l0.length ∧ base ≤ g ∧ ok g := by
  have hs : (Kd.int .i64 : Kd Int).sz = 1 := rfl
  obtain ⟨hok, inner, ⟨hl, hn | ⟨g', cap', cur, hv, hb, hh, hnc, hcm, hcs, ht⟩⟩, hr⟩ := h
  · cases hn.1
  · injection hv with h1 h2 h3
    injection h1 with h1
    injection h1 with h1
    subst h1 h2 h3
    rw [hs, Nat.mul_one] at hl hcs ht
    refine ⟨fun j hj => ?_, (Array.getElem?_eq_some_iff.1 hh).1, rfl, hb, hok g rfl⟩
    subst hm
    have hj2 : j < m.length := by simpa using hj
    have hj3 : j < cur.size := by rw [hcs]; simp at hnc; omega
    refine ⟨?_, by rw [Nat.zero_add]; exact blk_frozen hh j⟩
    have h1 : ((inner.drop (j * 1)).take 1) = [Value.int .i64 (m[j].val : Int)] := hr.2 j (m[j].val : Int) (by rw [List.getElem?_map, List.getElem?_eq_getElem hj2]; rfl)
    have h2 : inner[j]? = some (Value.int .i64 (m[j].val : Int)) := by
      have h3 : ((inner.drop (j * 1)).take 1)[0]? = some (Value.int .i64 (m[j].val : Int)) := by rw [h1]; rfl
      simpa using h3
    rw [← ht, List.getElem?_take_of_lt (by simpa using hj2)] at h2
    rw [Nat.zero_add, cell_of_row w g j cur e (0, 0) hh]
    rw [getElem!_pos _ j (by simpa using hj2)]
    simpa [impl_WorstMembers.enc] using h2
theorem impl_WorstMembers.lt_iff (m : List (Int × Int)) (x y : Int) : impl_WorstMembers.cmpK m x y < 0 ↔ impl_WorstMembers.valK m y < impl_WorstMembers.valK m x ∨ (impl_WorstMembers.valK m x = impl_WorstMembers.valK m y ∧ x < y) := by
  unfold impl_WorstMembers.cmpK
  split
  · constructor
    · intro _; left; assumption
    · intro _; omega
  · split
    · constructor
      · intro h; omega
      · intro h; omega
    · split
      · constructor
        · intro _; right; constructor
          · omega
          · assumption
        · intro _; omega
      · split
        · constructor
          · intro h; omega
          · intro h; omega
        · constructor
          · intro h; omega
          · intro h; omega
theorem impl_WorstMembers.swo (m : List (Int × Int)) : Sort.SWO (ltOf fun x y : Fin 1001 => impl_WorstMembers.cmpK m (x.val : Int) (y.val : Int)) where
  irrefl x := by simp only [ltOf, decide_eq_false_iff_not, impl_WorstMembers.lt_iff]; omega
  trans x y z h1 h2 := by simp only [ltOf, decide_eq_true_eq, impl_WorstMembers.lt_iff] at *; omega
  ntrans x y z h1 h2 := by simp only [ltOf, decide_eq_false_iff_not, impl_WorstMembers.lt_iff] at *; omega
section
open Go.Shelf
def impl_WorstMembers.lays_ren : Go.Shelf.Ren := ⟨fun | 6 => 80 | 15 => 106 | 14 => 105 | 28 => 119 | 29 => 120 | 20 => 111 | 21 => 112 | 22 => 113 | 23 => 114 | 24 => 115 | 25 => 116 | 26 => 117 | 27 => 118 | 46 => 130 | 47 => 131 | 48 => 132 | 49 => 133 | 50 => 134 | 57 => 139 | n => n, fun | 22 => 27 | 24 => 2 | 25 => 94 | 3 => 3 | 39 => 111 | 0 => 0 | 53 => 123 | 55 => 105 | 4 => 4 | 46 => 116 | 45 => 115 | 50 => 120 | 5 => 5 | 9 => 9 | 66 => 131 | 70 => 135 | 76 => 139 | 77 => 140 | n => n, fun | n => n⟩
theorem impl_WorstMembers.lays : Go.Proofs.SlLaysF.n6 Try.prog impl_WorstMembers.lays_ren := {
  mixed := by kernel_rfl
  f6 := ⟨Try.f80.name, by decide, Try.func80.trans (congrArg some (by kernel_rfl))⟩
  f14 := ⟨Try.f105.name, by decide, Try.func105.trans (congrArg some (by kernel_rfl))⟩
  f15 := Try.func106.trans (congrArg some (by kernel_rfl))
  f20 := ⟨Try.f111.name, by decide, Try.func111.trans (congrArg some (by kernel_rfl))⟩
  f21 := ⟨Try.f112.name, by decide, Try.func112.trans (congrArg some (by kernel_rfl))⟩
  f22 := ⟨Try.f113.name, by decide, Try.func113.trans (congrArg some (by kernel_rfl))⟩
  f23 := ⟨Try.f114.name, by decide, Try.func114.trans (congrArg some (by kernel_rfl))⟩
  f24 := ⟨Try.f115.name, by decide, Try.func115.trans (congrArg some (by kernel_rfl))⟩
  f25 := ⟨Try.f116.name, by decide, Try.func116.trans (congrArg some (by kernel_rfl))⟩
  f26 := ⟨Try.f117.name, by decide, Try.func117.trans (congrArg some (by kernel_rfl))⟩
  f27 := ⟨Try.f118.name, by decide, Try.func118.trans (congrArg some (by kernel_rfl))⟩
  f28 := Try.func119.trans (congrArg some (by kernel_rfl))
  f29 := Try.func120.trans (congrArg some (by kernel_rfl))
  f46 := ⟨Try.f130.name, by decide, Try.func130.trans (congrArg some (by kernel_rfl))⟩
  f47 := Try.func131.trans (congrArg some (by kernel_rfl))
  f48 := Try.func132.trans (congrArg some (by kernel_rfl))
  f49 := ⟨Try.f133.name, by decide, Try.func133.trans (congrArg some (by kernel_rfl))⟩
  f50 := ⟨Try.f134.name, by decide, Try.func134.trans (congrArg some (by kernel_rfl))⟩
  f57 := ⟨Try.f139.name, by decide, Try.func139.trans (congrArg some (by kernel_rfl))⟩
  t0 := Try.underlying0
  a0 := Try.isAgg0
  z0 := Try.sizeOf0
  v0 := Try.zeroValue0
  t3 := Try.underlying3
  a3 := Try.isAgg3
  z3 := Try.sizeOf3
  v3 := Try.zeroValue3
  t4 := Try.underlying4
  a4 := Try.isAgg4
  z4 := Try.sizeOf4
  v4 := Try.zeroValue4
  t5 := Try.underlying5
  a5 := Try.isAgg5
  z5 := Try.sizeOf5
  v5 := Try.zeroValue5
  t9 := Try.underlying9
  a9 := Try.isAgg9
  z9 := Try.sizeOf9
  v9 := Try.zeroValue9
  t22 := Try.underlying27
  a22 := Try.isAgg27
  z22 := Try.sizeOf27
  v22 := Try.zeroValue27
  a24 := Try.isAgg2
  z24 := Try.sizeOf2
  t25 := Try.underlying94
  a25 := Try.isAgg94
  z25 := Try.sizeOf94
  v25 := Try.zeroValue94
  t39 := Try.underlying111
  a39 := Try.isAgg111
  z39 := Try.sizeOf111
  v39 := Try.zeroValue111
  t45 := Try.underlying115
  a45 := Try.isAgg115
  z45 := Try.sizeOf115
  v45 := Try.zeroValue115
  t46 := Try.underlying116
  a46 := Try.isAgg116
  z46 := Try.sizeOf116
  v46 := Try.zeroValue116
  t50 := Try.underlying120
  a50 := Try.isAgg120
  z50 := Try.sizeOf120
  v50 := Try.zeroValue120
  t53 := Try.underlying123
  a53 := Try.isAgg123
  z53 := Try.sizeOf123
  v53 := Try.zeroValue123
  t55 := Try.underlying105
  a55 := Try.isAgg105
  z55 := Try.sizeOf105
  v55 := Try.zeroValue105
  t66 := Try.underlying131
  a66 := Try.isAgg131
  z66 := Try.sizeOf131
  v66 := Try.zeroValue131
  t70 := Try.underlying135
  a70 := Try.isAgg135
  z70 := Try.sizeOf135
  v70 := Try.zeroValue135
  t76 := Try.underlying139
  a76 := Try.isAgg139
  z76 := Try.sizeOf139
  v76 := Try.zeroValue139
  t77 := Try.underlying140
  a77 := Try.isAgg140
  z77 := Try.sizeOf140
  v77 := Try.zeroValue140 }
theorem impl_WorstMembers.sorts (m : List (Int × Int)) (gO gM : Nat) (v0 : Value) (l r : List Int) (w0 w : World) (hB : Below w0.heap.size w0 w) (hM : impl_WorstMembers.MP w gM m) (hO : w.heap[gO]? = some (.cells #[.map (some gM)] 90 (0, 0)))
    (ho : Kd.R (Kd.int .i64) 2 w w0.heap.size (fun _ => True) v0 l) (h : impl_WorstMembers.srt m l = some r) :
    Calls Try.prog 80 #[v0, .func (.func 81) #[] #[.pointer (some ⟨gO, 0, none⟩)]] w fun e w' => e = .returned (.tuple #[]) ∧ Kd.R (Kd.int .i64) 2 w' w0.heap.size (fun _ => True) v0 r ∧ Below w0.heap.size w0 w' := by
  unfold impl_WorstMembers.srt at h
  split at h
  · rename_i hf
    unfold impl_WorstMembers.fitK at hf
    simp only [Bool.and_eq_true, decide_eq_true_eq, List.all_eq_true] at hf
    obtain ⟨hl, hx⟩ := hf
    obtain rfl := Option.some.inj h
    clear h
    obtain ⟨d, hd⟩ : ∃ d : List (Fin 1001), d = l.map fun x => (⟨x.toNat % 1001, Nat.mod_lt _ (by decide)⟩ : Fin 1001) := ⟨_, rfl⟩
    have hback : (d.map fun x => (x.val : Int)) = l := by
      rw [hd, List.map_map]
      conv => rhs; rw [← List.map_id l]
      apply List.map_congr_left
      intro x hxl
      have := hx x hxl
      simp only [Function.comp, id]
      omega
    rw [← hd]
    clear hd
    have hlen : d.length = l.length := by rw [← hback]; simp
    have hsh : (v0 = .slice none 0 0 ∧ l.length = 0) ∨ ∃ g n cap, v0 = .slice (some ⟨g, 0, none⟩) n cap := by
      obtain ⟨_, inner, ⟨_, hn | ⟨g, cap, cur, hv, _⟩⟩, _⟩ := ho
      · exact .inl hn
      · exact .inr ⟨g, _, cap, hv⟩
    rcases hsh with ⟨rfl, h0⟩ | ⟨g, n, cap, rfl⟩
    · have hl0 := List.eq_nil_of_length_eq_zero h0
      subst hl0
      have hd0 : d = [] := List.eq_nil_of_length_eq_zero (by simpa using hlen)
      subst hd0
      refine (AnyF.slices_SortFunc_none { impl_WorstMembers.lays with } none 0 _ w).mono ?_
      rintro e w' ⟨rfl, rfl⟩
      exact ⟨rfl, by simpa using Kd.R_nil (Kd.int .i64) 2 w' w0.heap.size _, hB⟩
    · obtain ⟨hH, hg, hn, hb, _⟩ := impl_WorstMembers.holds ho d hback
      subst hn
      have eg : ∀ args w, (callFunc 81 args).run Try.prog w = .ok (.enter 81 args) w := enters_of Try.func81 (by kernel_rfl) rfl
      have hgM : gM ≠ g := by
        have := impl_WorstMembers.mp_row hM ho
        intro e
        exact this (by rw [e]; rfl)
      have hgO : gO ≠ g := by
        have := Kd.R_ne ho hO (by decide)
        intro e
        exact this (by rw [e]; rfl)
      have hcmp : CmpLays1 Try.prog 81 #[.pointer (some ⟨gO, 0, none⟩)] impl_WorstMembers.enc (fun x y : Fin 1001 => impl_WorstMembers.cmpK m (x.val : Int) (y.val : Int)) g 0 d.toArray.size w := by
        intro q os dk hs x y
        have hkeep : ∀ i, i < w.heap.size → i ≠ g → (sortWorld impl_WorstMembers.enc w g 0 q dk os).heap[i]? = w.heap[i]? := by
          intro i hi hne
          show (w.heap.modify g (Sort.onCells _) ++ os)[i]? = _
          rw [Array.getElem?_append_left (by simpa using hi), Array.getElem?_modify, if_neg (Ne.symm hne)]
        exact impl_WorstMembers.clos gO gM m _ (impl_WorstMembers.mp_move hM (hkeep gM (impl_WorstMembers.mp_lt hM) hgM)) ((hkeep gO (blk_lt hO) hgO).trans hO) x y
      have hc := Any.slices_SortFunc_total impl_WorstMembers.lays impl_WorstMembers.enc (fun _ => rfl) (fun x y : Fin 1001 => impl_WorstMembers.cmpK m (x.val : Int) (y.val : Int)) (impl_WorstMembers.swo m) 81 #[.pointer (some ⟨gO, 0, none⟩)] g 0 cap d.toArray w eg hcmp hH hg (by simpa [hlen] using hl) (by
        intro x y h1 h2
        simp only [ltOf, decide_eq_false_iff_not, impl_WorstMembers.lt_iff] at h1 h2
        apply Fin.ext
        omega)
      rw [List.size_toArray, hlen] at hc
      refine hc.mono ?_
      rintro e w' ⟨rfl, q, os, rfl⟩
      have hsz : (sortWorld impl_WorstMembers.enc w g 0 q (d.mergeSort fun x y => !(ltOf fun x y : Fin 1001 => impl_WorstMembers.cmpK m (x.val : Int) (y.val : Int)) y x).toArray os).heap.size = w.heap.size + os.size := by simp [sortWorld]
      have hbl : ∀ i, i < w.heap.size → i ≠ g → (sortWorld impl_WorstMembers.enc w g 0 q (d.mergeSort fun x y => !(ltOf fun x y : Fin 1001 => impl_WorstMembers.cmpK m (x.val : Int) (y.val : Int)) y x).toArray os).heap[i]? = w.heap[i]? := by
        intro i hi hne
        show (w.heap.modify g (Sort.onCells _) ++ os)[i]? = _
        rw [Array.getElem?_append_left (by simpa using hi), Array.getElem?_modify, if_neg (Ne.symm hne)]
      exact ⟨rfl, impl_WorstMembers.back ho _ (by simp [hlen]) q os, ⟨hB.1, hB.2, hB.3, by rw [hsz]; have := hB.size; omega, fun i hi => (hbl i (by have := hB.size; omega) (by omega)).trans (hB.block i hi)⟩⟩
  · cases h
end
mutual
def impl_WorstMembers.j0 : Nat → List (S45) → Int → Int → Int → Bool → Option (List Int × Bool)
  | 0, _, _, _, _, _ => none
  | k + 1, x0, x1, x2, x3, x34 => if x34 = true then (some (([] : List Int), false)) else (impl_WorstMembers.l0 k x0 x1 x2 x3 ([] : List (Int × Int)) (([] : List Int)) x0 (x0.length : Int) 0)
def impl_WorstMembers.l0 : Nat → List (S45) → Int → Int → Int → List (Int × Int) → List Int → List (S45) → Int → Int → Option (List Int × Bool)
  | 0, _, _, _, _, _, _, _, _, _ => none
  | k + 1, x0, x1, x2, x3, x10, x11, x37, x38, x39 => if x39 < x38 then (if 0 ≤ x39 then (if x39 < (x37.length : Int) then ((impl_points.f k x0 ((rd_T45 x37 x39).f0) x1 x2).bind fun t150 => (if (0 ≤ (rd_T45 x37 x39).f0 ∧ (rd_T45 x37 x39).f0 ≤ 1000) ∧ t150 ≤ 1000000 then (if t150 > 0 then (if impl_WorstMembers.hasK x10 ((rd_T45 x37 x39).f0) = true then (impl_WorstMembers.l0 k x0 x1 x2 x3 x10 x11 x37 x38 (wrap64 (x39 + 1))) else (if x11.length < 17592186044416 ∧ x10.length < 17592186044416 then (impl_WorstMembers.l0 k x0 x1 x2 x3 (x10 ++ [((rd_T45 x37 x39).f0, t150)]) (x11 ++ [(rd_T45 x37 x39).f0]) x37 x38 (wrap64 (x39 + 1))) else (none))) else (impl_WorstMembers.l0 k x0 x1 x2 x3 x10 x11 x37 x38 (wrap64 (x39 + 1)))) else (none))) else (none)) else (none)) else ((impl_WorstMembers.srt x10 x11).bind fun t144 => (if 0 ≤ (mn x3 (x11.length : Int)) then (if (mn x3 (x11.length : Int)) ≤ (x11.length : Int) then (some ((t144.take ((mn x3 (x11.length : Int)) : Int).toNat), true)) else (none)) else (none)))
end
def impl_WorstMembers.f (k : Nat) (l0 : List (S45)) (a1 : Int) (a2 : Int) (a3 : Int) : Option (List Int × Bool) := (impl_AreStrikes.f k l0).bind fun t136 => (if t136 = true then ((impl_isTick.f a1).bind fun t137 => (if t137 = true then ((impl_in.f a2 1 1000000).bind fun t138 => (if t138 = true then ((impl_in.f a3 0 64).bind fun t139 => (impl_WorstMembers.j0 k l0 a1 a2 a3 (!t139))) else (impl_WorstMembers.j0 k l0 a1 a2 a3 true))) else (impl_WorstMembers.j0 k l0 a1 a2 a3 true))) else (impl_WorstMembers.j0 k l0 a1 a2 a3 true))
theorem impl_WorstMembers.mono_l : ∀ k, (∀ y0 y1 y2 y3 y4, LeO (impl_WorstMembers.j0 k y0 y1 y2 y3 y4) (impl_WorstMembers.j0 (k + 1) y0 y1 y2 y3 y4)) ∧ (∀ y0 y1 y2 y3 y4 y5 y6 y7 y8, LeO (impl_WorstMembers.l0 k y0 y1 y2 y3 y4 y5 y6 y7 y8) (impl_WorstMembers.l0 (k + 1) y0 y1 y2 y3 y4 y5 y6 y7 y8))
  | 0 => ⟨fun _ _ _ _ _ r h => by simp [impl_WorstMembers.j0] at h, fun _ _ _ _ _ _ _ _ _ r h => by simp [impl_WorstMembers.l0] at h⟩
  | k + 1 => by
    obtain ⟨ih0, ih1⟩ := impl_WorstMembers.mono_l k
    refine ⟨?_, ?_⟩
    · intro y0 y1 y2 y3 y4
      unfold impl_WorstMembers.j0
      repeat' first
      | (with_reducible exact ih0 _ _ _ _ _)
      | (with_reducible exact ih1 _ _ _ _ _ _ _ _ _)
      | (with_reducible exact impl_AreStrikes.mono _ _)
      | (with_reducible exact impl_points.mono _ _ _ _ _)
      | (with_reducible exact LeO.refl _)
      | (with_reducible exact LeO.none _)
      | (with_reducible refine LeO.ite ?_ ?_)
      | (with_reducible refine LeO.bind ?_ (fun _ => ?_))
      | exact ih0 _ _ _ _ _
      | exact ih1 _ _ _ _ _ _ _ _ _
      | exact impl_AreStrikes.mono _ _
      | exact impl_points.mono _ _ _ _ _
      | exact LeO.none _
      | refine LeO.ite ?_ ?_
      | refine LeO.bind ?_ (fun _ => ?_)
    · intro y0 y1 y2 y3 y4 y5 y6 y7 y8
      unfold impl_WorstMembers.l0
      repeat' first
      | (with_reducible exact ih0 _ _ _ _ _)
      | (with_reducible exact ih1 _ _ _ _ _ _ _ _ _)
      | (with_reducible exact impl_AreStrikes.mono _ _)
      | (with_reducible exact impl_points.mono _ _ _ _ _)
      | (with_reducible exact LeO.refl _)
      | (with_reducible exact LeO.none _)
      | (with_reducible refine LeO.ite ?_ ?_)
      | (with_reducible refine LeO.bind ?_ (fun _ => ?_))
      | exact ih0 _ _ _ _ _
      | exact ih1 _ _ _ _ _ _ _ _ _
      | exact impl_AreStrikes.mono _ _
      | exact impl_points.mono _ _ _ _ _
      | exact LeO.none _
      | refine LeO.ite ?_ ?_
      | refine LeO.bind ?_ (fun _ => ?_)
theorem impl_WorstMembers.mono : ∀ a0 a1 a2 a3 k, LeO (impl_WorstMembers.f k a0 a1 a2 a3) (impl_WorstMembers.f (k + 1) a0 a1 a2 a3) := by
  intro a0 a1 a2 a3 k
  obtain ⟨ih0, ih1⟩ := impl_WorstMembers.mono_l k
  unfold impl_WorstMembers.f
  repeat' first
      | (with_reducible exact ih0 _ _ _ _ _)
      | (with_reducible exact ih1 _ _ _ _ _ _ _ _ _)
      | (with_reducible exact impl_AreStrikes.mono _ _)
      | (with_reducible exact impl_points.mono _ _ _ _ _)
      | (with_reducible exact LeO.refl _)
      | (with_reducible exact LeO.none _)
      | (with_reducible refine LeO.ite ?_ ?_)
      | (with_reducible refine LeO.bind ?_ (fun _ => ?_))
      | exact ih0 _ _ _ _ _
      | exact ih1 _ _ _ _ _ _ _ _ _
      | exact impl_AreStrikes.mono _ _
      | exact impl_points.mono _ _ _ _ _
      | exact LeO.none _
      | refine LeO.ite ?_ ?_
      | refine LeO.bind ?_ (fun _ => ?_)
abbrev impl_WorstMembers.T : Bool := true
abbrev impl_WorstMembers.F : Bool := false
theorem impl_WorstMembers.s1_ {P : Prop} (h : P := by first | rfl | (simp; done) | (simp [*]; done)) : P := h
theorem impl_WorstMembers.s2_ {P : Prop} (h : P := by kernel_rfl) : P := h
theorem impl_WorstMembers.s3_ {P : Prop} (h : P := by (try simp only [List.map_toArray, List.map_cons, List.map_nil]); first | done | rfl | (simp only [List.length_drop, List.length_take]; rfl)) : P := h
theorem impl_WorstMembers.b1_ {P Q : Prop} (q : Q) (h : Q → P := by intro q_; (with_reducible repeat (first | refine blk_drewN ?_ _ | refine blk_drew ?_ | refine blk_alloc ?_ _)); exact q_) : P := h q
theorem impl_WorstMembers.b2_ {P Q : Prop} (q : Q) (h : Q → P := by intro q_; (with_reducible repeat (first | apply Kd.R_alloc | apply Kd.R_drewN | apply Kd.R_drew)); exact q_) : P := h q
theorem impl_WorstMembers.y1_ {P Q : Prop} (q : Q) (h : Q → P := by intro q_; repeat (first | (with_reducible first | exact q_ | apply below_alloc | apply pw_below_drewN | apply below_drew1) | exact q_)) : P := h q
theorem impl_WorstMembers.y2_ {P Q : Prop} (q : Q) (h : Q → P := by intro q_; repeat (first | exact q_ | (with_reducible refine Kd.C_alloc ?_ _) | (with_reducible refine Kd.C_drewN ?_ _) | (with_reducible refine Kd.C_drew ?_))) : P := h q
theorem impl_WorstMembers.b6_ {w w' W : World} {k : Nat} (hg : k = W.heap.size) (q : Aside0 (Below w.heap.size w w')) (h : Below w.heap.size w w' → Below w.heap.size w W := by intro q_; repeat (first | (with_reducible first | exact q_ | apply below_alloc | apply pw_below_drewN | apply below_drew1) | exact q_)) : Aside0 (w.heap.size ≤ k) := ⟨by rw [hg]; exact below_size (h q.out)⟩
theorem impl_WorstMembers.bx_ {P : Program} {ops : Array Oper} {rest : List Oper} {o : Oper} {a : Act} {Q : Exit → Act → World → Prop} {W : World} (N : Tmp) (cs : Array Value) (t : TypeId) (h : ∀ g, g = W.heap.size → ∀ w1, w1.heap[g]? = some (.cells cs t (0, 0)) → Below W.heap.size W w1 → wpList P ops Q rest (a.put o.dst (.pointer (some ⟨g, 0, none⟩))) w1) (hgd : o.guard = none := by rfl) (hd : o.dst = some N := by rfl) (hrun : (execOp a.eval o).run P W = .ok (.value (.pointer (some ⟨W.heap.size, 0, none⟩))) (W.alloc (.cells cs t (0, 0))) := by first | (go_simp; done) | (go_simp; rfl)) : wpList P ops Q (o :: rest) a W := box_event hgd hd hrun h
theorem impl_WorstMembers.c1_ {w : World} {g : Nat} {t : TypeId} {cs : Array Value} (q : Aside0 (w.heap[g]? = some (.cells cs t (0, 0)))) (i : Nat) (v : Value) (h : cs[i]? = some v := by rfl) : w.cell? ⟨g, i, none⟩ = some v := (blk_cell q.out i).trans h
theorem impl_WorstMembers.f1_ {w : World} {g : Nat} {t : TypeId} {cs : Array Value} (q : Aside0 (w.heap[g]? = some (.cells cs t (0, 0)))) (i : Nat) : w.frozen? ⟨g, i, none⟩ = false := blk_frozen q.out i
theorem impl_WorstMembers.r1_ {α : Type} {d : Kd α} {e base : Nat} {ok : Nat → Prop} {v : Value} {xs : List α} {w W w1 : World} (q : Aside0 (d.R e w base ok v xs)) (hb : Below W.heap.size W w1) (h : d.R e w base ok v xs → d.R e W base ok v xs := by intro q_; (with_reducible repeat (first | apply Kd.R_alloc | apply Kd.R_drewN | apply Kd.R_drew)); exact q_) : Aside0 (d.R e w1 base ok v xs) := ⟨Kd.R_below (h q.out) hb⟩
theorem impl_WorstMembers.m0_ {w W : World} {g : Nat} {m : List (Int × Int)} (q : Aside0 (impl_WorstMembers.MP w g m)) (h : impl_WorstMembers.MP w g m → impl_WorstMembers.MP W g m := by intro q_; (with_reducible repeat (first | apply impl_WorstMembers.mp_alloc | apply impl_WorstMembers.mp_drewN | apply impl_WorstMembers.mp_drew)); exact q_) : impl_WorstMembers.MP W g m := h q.out
theorem impl_WorstMembers.m1_ {w W w1 : World} {g : Nat} {m : List (Int × Int)} (q : Aside0 (impl_WorstMembers.MP w g m)) (hb : Below W.heap.size W w1) (h : impl_WorstMembers.MP w g m → impl_WorstMembers.MP W g m := by intro q_; (with_reducible repeat (first | apply impl_WorstMembers.mp_alloc | apply impl_WorstMembers.mp_drewN | apply impl_WorstMembers.mp_drew)); exact q_) : Aside0 (impl_WorstMembers.MP w1 g m) := ⟨impl_WorstMembers.mp_below (h q.out) hb⟩
theorem impl_WorstMembers.m5_ {w W w1 : World} {g : Nat} {m : List (Int × Int)} {row : Option Nat} (q : Aside0 (impl_WorstMembers.MP w g m)) (hg : W.grownBy w1 row) (hne : some g ≠ row) (h : impl_WorstMembers.MP w g m → impl_WorstMembers.MP W g m := by intro q_; (with_reducible repeat (first | apply impl_WorstMembers.mp_alloc | apply impl_WorstMembers.mp_drewN | apply impl_WorstMembers.mp_drew)); exact q_) : Aside0 (impl_WorstMembers.MP w1 g m) := ⟨impl_WorstMembers.mp_grown (h q.out) hg hne⟩
theorem impl_WorstMembers.m4_ {w W : World} {g k : Nat} {m : List (Int × Int)} (hg : k = W.heap.size) (q : Aside0 (impl_WorstMembers.MP w g m)) (h : impl_WorstMembers.MP w g m → impl_WorstMembers.MP W g m := by intro q_; (with_reducible repeat (first | apply impl_WorstMembers.mp_alloc | apply impl_WorstMembers.mp_drewN | apply impl_WorstMembers.mp_drew)); exact q_) : Aside0 (g ≠ k) := ⟨by rw [hg]; exact Nat.ne_of_lt (impl_WorstMembers.mp_lt (h q.out))⟩
theorem impl_WorstMembers.b3_ {w w1 W : World} {g : Nat} {o : Obj} (q : Aside0 (w.heap[g]? = some o)) (hb : Below W.heap.size W w1) (h : w.heap[g]? = some o → W.heap[g]? = some o := by intro q_; (with_reducible repeat (first | refine blk_drewN ?_ _ | refine blk_drew ?_ | refine blk_alloc ?_ _)); exact q_) : Aside0 (w1.heap[g]? = some o) := ⟨blk_below (h q.out) hb⟩
theorem impl_WorstMembers.b4_ {w W : World} {g k : Nat} {o : Obj} (hg : k = W.heap.size) (q : Aside0 (w.heap[g]? = some o)) (h : w.heap[g]? = some o → W.heap[g]? = some o := by intro q_; (with_reducible repeat (first | refine blk_drewN ?_ _ | refine blk_drew ?_ | refine blk_alloc ?_ _)); exact q_) : Aside0 (g ≠ k) := ⟨by rw [hg]; exact Nat.ne_of_lt (blk_lt (h q.out))⟩
theorem impl_WorstMembers.bk_set {w : World} {g g' j : Nat} {o : Obj} {u : Value} (h : w.heap[g]? = some o) (hne : g ≠ g') : (w.setCell ⟨g', j, none⟩ u).heap[g]? = some o := (Below.heap_setCell w ⟨g', j, none⟩ u g hne).trans h
set_option maxHeartbeats 8000000 in
set_option maxRecDepth 100000 in
theorem impl_WorstMembers.calls (k : Nat) (A0 : Option Addr) (c0 : Nat) (l0 : List (S45)) (a1 : Int) (a2 : Int) (a3 : Int) (r1 : List Int) (r2 : Bool) (w : World) (hr0 : Kd.C k45 w A0 l0.length l0) (hc0 : l0.length ≤ c0) (h : impl_WorstMembers.f k l0 a1 a2 a3 = some (r1, r2)) :
    Calls Try.prog 41 #[.slice A0 l0.length c0, .int .i64 a1, .int .i64 a2, .int .i64 a3] w fun e w' => ∃ v0_ : Value, e = .returned (.tuple #[v0_, .bool r2]) ∧ Kd.R (Kd.int .i64) 2 w' w.heap.size (fun _ => True) v0_ r1 ∧ Below w.heap.size w w' := by
 have hu45 := Try.underlying45
 have HR0 := Aside0.mk hr0
 have HC0 := Aside0.mk hc0
 clear hr0 hc0
 have HB := Aside0.mk (Below.refl w.heap.size w)
 have H : ((impl_AreStrikes.f k l0).bind fun t136 => (if t136 = true then ((impl_isTick.f a1).bind fun t137 => (if t137 = true then ((impl_in.f a2 1 1000000).bind fun t138 => (if t138 = true then ((impl_in.f a3 0 64).bind fun t139 => (impl_WorstMembers.j0 k l0 a1 a2 a3 (!t139))) else (impl_WorstMembers.j0 k l0 a1 a2 a3 true))) else (impl_WorstMembers.j0 k l0 a1 a2 a3 true))) else (impl_WorstMembers.j0 k l0 a1 a2 a3 true))) = some (r1, r2) := h
 clear h
 have HC5 := Aside0.mk H
 clear H
 go_enter Try.func41, Try.ntmps41
 go_upto_region 1 with (fail)
 go_cut [34] (fun v34 wc => ∃ (kq : Nat) (x34_4 : Bool), v34 = .bool x34_4 ∧ Aside0 (impl_WorstMembers.j0 kq l0 a1 a2 a3 x34_4 = some (r1, r2)) ∧ Aside0 (kq ≤ k) ∧ Aside0 (Below w.heap.size w wc))
 case first =>
  skip
  {
 have H := HC5.out
 clear HC5
 replace H := Option.bind_eq_some_iff.mp H
 obtain ⟨t136, A60, H⟩ := H
 replace H : (if t136 = true then ((impl_isTick.f a1).bind fun t137 => (if t137 = true then ((impl_in.f a2 1 1000000).bind fun t138 => (if t138 = true then ((impl_in.f a3 0 64).bind fun t139 => (impl_WorstMembers.j0 k l0 a1 a2 a3 (!t139))) else (impl_WorstMembers.j0 k l0 a1 a2 a3 true))) else (impl_WorstMembers.j0 k l0 a1 a2 a3 true))) else (impl_WorstMembers.j0 k l0 a1 a2 a3 true)) = some (r1, r2) := H
 have A6 := Aside0.mk A60
 clear A60
 by_cases c7 : t136 = true
 {
 subst c7
 have H1 : ((impl_isTick.f a1).bind fun t137 => (if t137 = true then ((impl_in.f a2 1 1000000).bind fun t138 => (if t138 = true then ((impl_in.f a3 0 64).bind fun t139 => (impl_WorstMembers.j0 k l0 a1 a2 a3 (!t139))) else (impl_WorstMembers.j0 k l0 a1 a2 a3 true))) else (impl_WorstMembers.j0 k l0 a1 a2 a3 true))) = some (r1, r2) := by rw [if_pos rfl] at H; exact H
 clear H
 have H := H1
 clear H1
 replace H := Option.bind_eq_some_iff.mp H
 obtain ⟨t137, A80, H⟩ := H
 replace H : (if t137 = true then ((impl_in.f a2 1 1000000).bind fun t138 => (if t138 = true then ((impl_in.f a3 0 64).bind fun t139 => (impl_WorstMembers.j0 k l0 a1 a2 a3 (!t139))) else (impl_WorstMembers.j0 k l0 a1 a2 a3 true))) else (impl_WorstMembers.j0 k l0 a1 a2 a3 true)) = some (r1, r2) := H
 have A8 := Aside0.mk A80
 clear A80
 by_cases c9 : t137 = true
 {
 subst c9
 have H1 : ((impl_in.f a2 1 1000000).bind fun t138 => (if t138 = true then ((impl_in.f a3 0 64).bind fun t139 => (impl_WorstMembers.j0 k l0 a1 a2 a3 (!t139))) else (impl_WorstMembers.j0 k l0 a1 a2 a3 true))) = some (r1, r2) := by rw [if_pos rfl] at H; exact H
 clear H
 have H := H1
 clear H1
 replace H := Option.bind_eq_some_iff.mp H
 obtain ⟨t138, A100, H⟩ := H
 replace H : (if t138 = true then ((impl_in.f a3 0 64).bind fun t139 => (impl_WorstMembers.j0 k l0 a1 a2 a3 (!t139))) else (impl_WorstMembers.j0 k l0 a1 a2 a3 true)) = some (r1, r2) := H
 have A10 := Aside0.mk A100
 clear A100
 by_cases c11 : t138 = true
 {
 subst c11
 have H1 : ((impl_in.f a3 0 64).bind fun t139 => (impl_WorstMembers.j0 k l0 a1 a2 a3 (!t139))) = some (r1, r2) := by rw [if_pos rfl] at H; exact H
 clear H
 have H := H1
 clear H1
 replace H := Option.bind_eq_some_iff.mp H
 obtain ⟨t139, A120, H⟩ := H
 replace H : (impl_WorstMembers.j0 k l0 a1 a2 a3 (!t139)) = some (r1, r2) := H
 have A12 := Aside0.mk A120
 clear A120
 have H' := Aside0.mk H
 clear H
 go_wp2_with (first | ((with_reducible refine gate_callee (f := 42) rfl ?_); refine goesL_ (some 18) rfl rfl Try.func42 s2_ rfl #[.slice A0 l0.length c0] rfl s3_ ?_; (with_reducible refine (impl_AreStrikes.calls k _ _ l0 true _ ?side1 ?side2 A6.out).mono ?_); (case side1 => exact y2_ (Kd.C_below HR0.out HB.out)); (case side2 => exact HC0.out); rintro e w13 ⟨rfl, hb⟩; refine ⟨_, rfl, ?_⟩; replace HB := Aside0.mk (below_step (y1_ HB.out) hb); (try clear hb); (try clear hb2); (try clear hk); (try clear hi)) | (go_at_call 67; (with_reducible refine (impl_isTick.calls a1 true _ A8.out).mono ?_); rintro e w' ⟨rfl, ⟨nd, rfl⟩⟩) | (go_at_call 61; (with_reducible refine (impl_in.calls a2 1 1000000 true _ A10.out).mono ?_); rintro e w' ⟨rfl, ⟨nd, rfl⟩⟩) | (go_at_call 61; (with_reducible refine (impl_in.calls a3 0 64 t139 _ A12.out).mono ?_); rintro e w' ⟨rfl, ⟨nd, rfl⟩⟩))
 go_meet
 case rel => exact ⟨_, (!t139), s1_, H', ⟨by first | omega | exact Nat.le_refl _⟩, ⟨by repeat (first | (with_reducible first | exact HB.out | apply below_alloc | apply pw_below_drewN | apply below_drew1) | exact HB.out)⟩⟩}
 {
 replace c11 := Bool.eq_false_iff.mpr c11
 subst c11
 have H1 : (impl_WorstMembers.j0 k l0 a1 a2 a3 true) = some (r1, r2) := by rw [if_neg (show ¬ (false = true) by decide)] at H; exact H
 clear H
 have H := H1
 clear H1
 have H' := Aside0.mk H
 clear H
 go_wp2_with (first | ((with_reducible refine gate_callee (f := 42) rfl ?_); refine goesL_ (some 18) rfl rfl Try.func42 s2_ rfl #[.slice A0 l0.length c0] rfl s3_ ?_; (with_reducible refine (impl_AreStrikes.calls k _ _ l0 true _ ?side1 ?side2 A6.out).mono ?_); (case side1 => exact y2_ (Kd.C_below HR0.out HB.out)); (case side2 => exact HC0.out); rintro e w14 ⟨rfl, hb⟩; refine ⟨_, rfl, ?_⟩; replace HB := Aside0.mk (below_step (y1_ HB.out) hb); (try clear hb); (try clear hb2); (try clear hk); (try clear hi)) | (go_at_call 67; (with_reducible refine (impl_isTick.calls a1 true _ A8.out).mono ?_); rintro e w' ⟨rfl, ⟨nd, rfl⟩⟩) | (go_at_call 61; (with_reducible refine (impl_in.calls a2 1 1000000 false _ A10.out).mono ?_); rintro e w' ⟨rfl, ⟨nd, rfl⟩⟩))
 go_meet
 case rel => exact ⟨_, (true), s1_, H', ⟨by first | omega | exact Nat.le_refl _⟩, ⟨by repeat (first | (with_reducible first | exact HB.out | apply below_alloc | apply pw_below_drewN | apply below_drew1) | exact HB.out)⟩⟩}}
 {
 replace c9 := Bool.eq_false_iff.mpr c9
 subst c9
 have H1 : (impl_WorstMembers.j0 k l0 a1 a2 a3 true) = some (r1, r2) := by rw [if_neg (show ¬ (false = true) by decide)] at H; exact H
 clear H
 have H := H1
 clear H1
 have H' := Aside0.mk H
 clear H
 go_wp2_with (first | ((with_reducible refine gate_callee (f := 42) rfl ?_); refine goesL_ (some 18) rfl rfl Try.func42 s2_ rfl #[.slice A0 l0.length c0] rfl s3_ ?_; (with_reducible refine (impl_AreStrikes.calls k _ _ l0 true _ ?side1 ?side2 A6.out).mono ?_); (case side1 => exact y2_ (Kd.C_below HR0.out HB.out)); (case side2 => exact HC0.out); rintro e w15 ⟨rfl, hb⟩; refine ⟨_, rfl, ?_⟩; replace HB := Aside0.mk (below_step (y1_ HB.out) hb); (try clear hb); (try clear hb2); (try clear hk); (try clear hi)) | (go_at_call 67; (with_reducible refine (impl_isTick.calls a1 false _ A8.out).mono ?_); rintro e w' ⟨rfl, ⟨nd, rfl⟩⟩))
 go_meet
 case rel => exact ⟨_, (true), s1_, H', ⟨by first | omega | exact Nat.le_refl _⟩, ⟨by repeat (first | (with_reducible first | exact HB.out | apply below_alloc | apply pw_below_drewN | apply below_drew1) | exact HB.out)⟩⟩}}
 {
 replace c7 := Bool.eq_false_iff.mpr c7
 subst c7
 have H1 : (impl_WorstMembers.j0 k l0 a1 a2 a3 true) = some (r1, r2) := by rw [if_neg (show ¬ (false = true) by decide)] at H; exact H
 clear H
 have H := H1
 clear H1
 have H' := Aside0.mk H
 clear H
 go_wp2_with (first | ((with_reducible refine gate_callee (f := 42) rfl ?_); refine goesL_ (some 18) rfl rfl Try.func42 s2_ rfl #[.slice A0 l0.length c0] rfl s3_ ?_; (with_reducible refine (impl_AreStrikes.calls k _ _ l0 false _ ?side1 ?side2 A6.out).mono ?_); (case side1 => exact y2_ (Kd.C_below HR0.out HB.out)); (case side2 => exact HC0.out); rintro e w16 ⟨rfl, hb⟩; refine ⟨_, rfl, ?_⟩; replace HB := Aside0.mk (below_step (y1_ HB.out) hb); (try clear hb); (try clear hb2); (try clear hk); (try clear hi)))
 go_meet
 case rel => exact ⟨_, (true), s1_, H', ⟨by first | omega | exact Nat.le_refl _⟩, ⟨by repeat (first | (with_reducible first | exact HB.out | apply below_alloc | apply pw_below_drewN | apply below_drew1) | exact HB.out)⟩⟩}}
 case rest =>
  skip
  {
 clear HC5
 try clear c1
 try clear p2
 try clear c4
 try clear c7
 try clear c9
 try clear c11
 obtain ⟨kq, x34_4, rfl, HA, HJ4, HB⟩ := hcut
 cases kq with
 | zero => exact absurd HA.out (by simp [impl_WorstMembers.j0])
 | succ kj4 =>
  skip
  {
 have H := HA.out
 clear HA
 simp only [impl_WorstMembers.j0] at H
 by_cases c17 : x34_4 = true
 {
 subst c17
 have H1 : (some (([] : List Int), false)) = some (r1, r2) := by rw [if_pos rfl] at H; exact H
 clear H
 have H := H1
 clear H1
 simp only [Option.some.injEq, Prod.mk.injEq] at H
 obtain ⟨rfl, rfl⟩ := H
 go_wp2
 go_ret2
 exact ⟨_, by first | rfl | (simp [errW_none, errW_some] <;> rfl) | (simp [*, errW_none, errW_some] <;> rfl), by first | exact Kd.R_nil _ _ _ _ _ | exact Kd.N_nil _ _ _ _ _ | exact Kd.V_nil _ _ _ _ _ | exact Kd.Q_nil _ _ _ _ _ | exact Kd.S_nil _ _ _ _ _, by repeat (first | (with_reducible first | exact HB.out | apply below_alloc | apply pw_below_drewN | apply below_drew1) | exact HB.out)⟩}
 {
 replace c17 := Bool.eq_false_iff.mpr c17
 subst c17
 have H1 : (impl_WorstMembers.l0 kj4 l0 a1 a2 a3 ([] : List (Int × Int)) (([] : List Int)) l0 (l0.length : Int) 0) = some (r1, r2) := by rw [if_neg (show ¬ (false = true) by decide)] at H; exact H
 clear H
 have H := H1
 clear H1
 obtain ⟨y140, hy140⟩ : ∃ y_ : List Int, y_ = (([] : List Int)) := ⟨_, rfl⟩
 replace H : (impl_WorstMembers.l0 kj4 l0 a1 a2 a3 ([] : List (Int × Int)) y140 l0 (l0.length : Int) 0) = some (r1, r2) := by first | (rw [hy140]; with_reducible exact H) | (have H2_ := (Option.bind_some _ _).symm.trans H; rw [hy140]; with_reducible exact H2_) | (have H2_ := (Option.bind_some _ _).symm.trans H; with_reducible exact H2_) | with_reducible exact H | (rw [hy140]; exact H) | exact H
 have Ny140 := Aside0.mk hy140
 clear hy140
 have H' := Aside0.mk H
 clear H
 go_wp2_with (first | ((with_reducible refine gate_dst (N := 35) rfl ?_); refine impl_WorstMembers.made rfl rfl ?_; intro gM wM hgM hmp hb; have GWM := b6_ hgM HB; have HM := Aside0.mk hmp; replace HB := Aside0.mk (below_step (y1_ HB.out) hb); clear hb hmp hgM) | ((with_reducible refine gate_dst (N := 36) rfl ?_); refine Kd.R_lit (Kd.int .i64) _ 2 ?hg (N := 36) ?hd (xs := ([] : List Int)) (inner := []) (ok := fun _ => True) (okp := fun _ => True) ?hr ?hp (fun _ hk => hk) trivial (Below.refl _ _) (Nat.le_refl _) (by simp) ?_; (case hd => rfl); (case hg => rfl); (case hr => first | (go_simp; done) | (go_simp; rfl)); (case hp => exact (Reps.none _ _)); intro v141 w18 ho19 hb hg_ hnew_; clear hg_ hnew_; (first | rw [← Ny140.out] at ho19 | (simp only [Int.reduceToNat] at ho19; rw [← Ny140.out] at ho19)); have HO142 := Aside0.mk (Kd.R_lower ho19 (below_size (y1_ HB.out))); replace HM := m1_ HM hb; replace HB := Aside0.mk (below_step (y1_ HB.out) hb); clear hb ho19) | ((with_reducible refine gate_dst (N := 10) rfl ?_); refine bx_ 10 #[.map none] 90 ?_; intro gO hg wO hbox hb; have GWO := b6_ hg HB; replace HO142 := r1_ HO142 hb; replace HM := m1_ HM hb; replace HB := Aside0.mk (below_step (y1_ HB.out) hb); have BKO := Aside0.mk (hbox); clear hb hbox hg; have hczO := c1_ BKO 0 (.map none); have hfzO := f1_ BKO 0))
 go_loopg [11, 39] kj4 (fun kq v11 v39 w' => ∃ (x10_2 : List (Int × Int)) (x11_2 : List Int) (x39_2 : Int), v39 = .int .i64 x39_2 ∧ Aside0 (impl_WorstMembers.l0 kq l0 a1 a2 a3 x10_2 x11_2 l0 (l0.length : Int) x39_2 = some (r1, r2)) ∧ Aside0 (kq ≤ kj4) ∧ Aside0 (Kd.R (Kd.int .i64) 2 w' w.heap.size (fun _ => True) v11 x11_2) ∧ Aside0 (Below w.heap.size w w') ∧ Aside0 (impl_WorstMembers.MP w' gM x10_2) ∧ Aside0 (w'.heap[gO]? = some (.cells #[.map (some gM)] 90 (0, 0))))
 case atStart => exact ⟨[], (y140), (0), s1_, H', ⟨Nat.le_refl _⟩, ⟨by (with_reducible repeat (first | apply Kd.R_alloc | apply Kd.R_drewN | apply Kd.R_drew)); exact Kd.R_mono (Kd.R_far (p := ⟨gO, 0, none⟩) (Kd.R_types HO142.out BKO.out (by decide)) (fun _ hk => hk.2) _) (fun _ h_ => h_.1)⟩, ⟨by repeat (first | (with_reducible first | exact HB.out | apply below_alloc | apply pw_below_drewN | apply below_drew1 | refine below_set ?_ GWO.out) | exact HB.out)⟩, ⟨by (with_reducible repeat (first | apply impl_WorstMembers.mp_drewN | apply impl_WorstMembers.mp_drew)); exact impl_WorstMembers.mp_set HM.out (impl_WorstMembers.mp_ne HM.out BKO.out)⟩, ⟨by (with_reducible repeat (first | refine blk_drewN ?_ _ | refine blk_drew ?_)); exact blk_put BKO.out 0 _ rfl⟩⟩
 case round =>
  skip
  {
 clear H'
 try clear c1
 try clear p2
 try clear c4
 try clear c7
 try clear c9
 try clear c11
 try clear c17
 try clear p2
 obtain ⟨x10_2, x11_2, x39_2, rfl, HA, HK2, HO_11, HB, HM, BKO⟩ := hrel
 cases gk with
 | zero => exact absurd HA.out (by simp [impl_WorstMembers.l0])
 | succ k2 =>
  skip
  {
 have H := HA.out
 clear HA
 simp only [impl_WorstMembers.l0] at H
 by_cases c20 : x39_2 < (l0.length : Int)
 {
 rw [if_pos c20] at H
 have c20b0 : decide (x39_2 < (l0.length : Int)) = true := decide_eq_true c20
 clear c20
 by_cases c21 : 0 ≤ x39_2
 {
 rw [if_pos c21] at H
 have c21b0 : decide (0 ≤ x39_2) = true := decide_eq_true c21
 clear c21
 by_cases c22 : x39_2 < (l0.length : Int)
 {
 rw [if_pos c22] at H
 have c22b0 : decide (x39_2 < (l0.length : Int)) = true := decide_eq_true c22
 clear c22
 replace H := Option.bind_eq_some_iff.mp H
 obtain ⟨t150, A230, H⟩ := H
 replace H : (if (0 ≤ (rd_T45 l0 x39_2).f0 ∧ (rd_T45 l0 x39_2).f0 ≤ 1000) ∧ t150 ≤ 1000000 then (if t150 > 0 then (if impl_WorstMembers.hasK x10_2 ((rd_T45 l0 x39_2).f0) = true then (impl_WorstMembers.l0 k2 l0 a1 a2 a3 x10_2 x11_2 l0 (l0.length : Int) (wrap64 (x39_2 + 1))) else (if x11_2.length < 17592186044416 ∧ x10_2.length < 17592186044416 then (impl_WorstMembers.l0 k2 l0 a1 a2 a3 (x10_2 ++ [((rd_T45 l0 x39_2).f0, t150)]) (x11_2 ++ [(rd_T45 l0 x39_2).f0]) l0 (l0.length : Int) (wrap64 (x39_2 + 1))) else (none))) else (impl_WorstMembers.l0 k2 l0 a1 a2 a3 x10_2 x11_2 l0 (l0.length : Int) (wrap64 (x39_2 + 1)))) else (none)) = some (r1, r2) := H
 have A23 := Aside0.mk A230
 clear A230
 by_cases cW : (0 ≤ (rd_T45 l0 x39_2).f0 ∧ (rd_T45 l0 x39_2).f0 ≤ 1000) ∧ t150 ≤ 1000000
 {
 rw [if_pos cW] at H
 have CW := Aside0.mk cW
 clear cW
 by_cases c25 : t150 > 0
 {
 rw [if_pos c25] at H
 have CP := Aside0.mk c25
 have c25b0 : decide (0 < t150) = true := decide_eq_true c25
 clear c25
 by_cases c26 : impl_WorstMembers.hasK x10_2 ((rd_T45 l0 x39_2).f0) = true
 {
 rw [if_pos c26] at H
 have HS := Aside0.mk c26
 clear c26
 have H' := Aside0.mk H
 clear H
 have p148 : 0 ≤ (x39_2 : Int) := of_decide_eq_true (by first | (with_reducible assumption) | assumption)
 have q148 : x39_2 < (l0.length : Int) := of_decide_eq_true (by first | (with_reducible assumption) | assumption)
 obtain ⟨ad148, e148, hx148_0, hx148_1, hx148_2⟩ := at_T45 HR0.out x39_2 p148 q148
 cases e148
 replace hx148_0 := (HB.out.cell (World.block_lt_of_cell? w _ hx148_0)).trans hx148_0
 replace hx148_1 := (HB.out.cell (World.block_lt_of_cell? w _ hx148_1)).trans hx148_1
 replace hx148_2 := (HB.out.cell (World.block_lt_of_cell? w _ hx148_2)).trans hx148_2
 replace p148 := eq_true p148
 replace q148 := eq_true q148
 go_wp2_with (first | ((with_reducible refine gate_dst (N := 13) rfl ?_); refine bx_ 13 #[.int .i64 0, .int .i64 0, .int .i64 0] 45 ?_; intro gb149 hg w27 hbox hb; have GE149 := b6_ hg HB; have NEO := b4_ hg BKO; have NEM := m4_ hg HM; replace HO_11 := r1_ HO_11 hb; replace HM := m1_ HM hb; replace BKO := b3_ BKO hb; replace HB := Aside0.mk (below_step (y1_ HB.out) hb); have BK149 := Aside0.mk (hbox); clear hb hbox hg; have hcz28_0 := c1_ BK149 0 (.int .i64 (0)); have hcz28_1 := c1_ BK149 1 (.int .i64 (0)); have hcz28_2 := c1_ BK149 2 (.int .i64 (0)); have hfz28_0 := f1_ BK149 0; have hfz28_1 := f1_ BK149 1; have hfz28_2 := f1_ BK149 2; skip) | ((with_reducible refine gate_callee (f := 79) rfl ?_); refine goesL_ (some 48) rfl rfl Try.func79 s2_ rfl #[.slice (some ad148) l0.length c0, .int .i64 ((rd_T45 l0 x39_2).f0), .int .i64 a1, .int .i64 a2] rfl s3_ ?_; (with_reducible refine (impl_points.calls k2 _ _ l0 ((rd_T45 l0 x39_2).f0) a1 a2 t150 _ ?side1 ?side2 A23.out).mono ?_); (case side1 => exact Kd.C_below HR0.out (by repeat (first | (with_reducible first | exact HB.out | apply below_alloc | apply pw_below_drewN | apply below_drew1 | refine below_set ?_ GE149.out) | exact HB.out))); (case side2 => exact HC0.out); rintro e w29 ⟨rfl, hb⟩; refine ⟨_, rfl, ?_⟩; replace HO_11 := Aside0.mk (Kd.R_below (by (with_reducible repeat (first | apply Kd.R_alloc | apply Kd.R_drewN | apply Kd.R_drew)); exact (Kd.R_mono (Kd.R_far3 (g := gb149) (Kd.R_types HO_11.out BK149.out (by decide)) (fun _ hk => hk.2)) (fun _ h_ => h_.1))) hb); replace HM := Aside0.mk (impl_WorstMembers.mp_below (g := gM) (m := x10_2) (by (with_reducible repeat (first | apply impl_WorstMembers.mp_drewN | apply impl_WorstMembers.mp_drew | refine impl_WorstMembers.mp_set ?_ NEM.out)); exact HM.out) hb); replace BKO := Aside0.mk (blk_below (g := gO) (o := .cells #[.map (some gM)] 90 (0, 0)) (by (with_reducible repeat (first | refine blk_drewN ?_ _ | refine blk_drew ?_ | refine impl_WorstMembers.bk_set ?_ NEO.out)); exact BKO.out) hb); replace BK149 := Aside0.mk (blk_below (g := gb149) (o := .cells #[.int .i64 ((rd_T45 l0 x39_2).f0), .int .i64 ((rd_T45 l0 x39_2).f1), .int .i64 ((rd_T45 l0 x39_2).f2)] 45 (0, 0)) (by (with_reducible repeat (first | refine blk_drewN ?_ _ | refine blk_drew ?_ | refine blk_alloc ?_ _)); refine blk_put3 (cs := #[.int .i64 0, .int .i64 0, .int .i64 0]) ?_ rfl; (with_reducible repeat (first | refine blk_drewN ?_ _ | refine blk_drew ?_ | refine blk_alloc ?_ _)); exact BK149.out) hb); replace HB := Aside0.mk (below_step (by repeat (first | (with_reducible first | exact HB.out | apply below_alloc | apply pw_below_drewN | apply below_drew1 | refine below_set ?_ GE149.out) | exact HB.out)) hb); (try clear hb); have hcz30_0 := c1_ BK149 0 (.int .i64 ((rd_T45 l0 x39_2).f0)); have hcz30_1 := c1_ BK149 1 (.int .i64 ((rd_T45 l0 x39_2).f1)); have hcz30_2 := c1_ BK149 2 (.int .i64 ((rd_T45 l0 x39_2).f2)); have hfz30_0 := f1_ BK149 0; have hfz30_1 := f1_ BK149 1; have hfz30_2 := f1_ BK149 2; have hcO := c1_ BKO 0 (.map (some gM)); obtain ⟨Ao31, co31, eo31⟩ := Kd.R_slice HO_11.out; subst eo31) | ((with_reducible refine gate_dst (N := 53) rfl ?_); refine impl_WorstMembers.look2 rfl (.tmp 50) (.tmp 52) rfl rfl (m0_ HM) rfl CW.out.1.1 CW.out.1.2 true HS.out ?_; intro cv))
 go_roundg k2
 case measure => have := HJ4.out; have := HK2.out; omega
 case rel => exact ⟨x10_2, x11_2, (wrap64 (x39_2 + 1)), s1_, H', ⟨by have := HJ4.out; have := HK2.out; omega⟩, ⟨b2_ HO_11.out⟩, ⟨by repeat (first | (with_reducible first | exact HB.out | apply below_alloc | apply pw_below_drewN | apply below_drew1) | exact HB.out)⟩, ⟨by (with_reducible repeat (first | apply impl_WorstMembers.mp_drewN | apply impl_WorstMembers.mp_drew)); exact HM.out⟩, ⟨b1_ BKO.out⟩⟩}
 {
 rw [if_neg c26] at H
 replace c26 := Bool.eq_false_iff.mpr c26
 have HS := Aside0.mk c26
 clear c26
 by_cases c32 : x11_2.length < 17592186044416 ∧ x10_2.length < 17592186044416
 {
 rw [if_pos c32] at H
 have LMc32 := Aside0.mk c32
 clear c32
 obtain ⟨y152, hy152⟩ : ∃ y_ : List Int, y_ = (x11_2 ++ [(rd_T45 l0 x39_2).f0]) := ⟨_, rfl⟩
 rw [← hy152] at H
 have Ny152 := Aside0.mk hy152
 clear hy152
 have H' := Aside0.mk H
 clear H
 have p148 : 0 ≤ (x39_2 : Int) := of_decide_eq_true (by first | (with_reducible assumption) | assumption)
 have q148 : x39_2 < (l0.length : Int) := of_decide_eq_true (by first | (with_reducible assumption) | assumption)
 obtain ⟨ad148, e148, hx148_0, hx148_1, hx148_2⟩ := at_T45 HR0.out x39_2 p148 q148
 cases e148
 replace hx148_0 := (HB.out.cell (World.block_lt_of_cell? w _ hx148_0)).trans hx148_0
 replace hx148_1 := (HB.out.cell (World.block_lt_of_cell? w _ hx148_1)).trans hx148_1
 replace hx148_2 := (HB.out.cell (World.block_lt_of_cell? w _ hx148_2)).trans hx148_2
 replace p148 := eq_true p148
 replace q148 := eq_true q148
 go_wp2_with (first | ((with_reducible refine gate_dst (N := 13) rfl ?_); refine bx_ 13 #[.int .i64 0, .int .i64 0, .int .i64 0] 45 ?_; intro gb149 hg w27 hbox hb; have GE149 := b6_ hg HB; have NEO := b4_ hg BKO; have NEM := m4_ hg HM; replace HO_11 := r1_ HO_11 hb; replace HM := m1_ HM hb; replace BKO := b3_ BKO hb; replace HB := Aside0.mk (below_step (y1_ HB.out) hb); have BK149 := Aside0.mk (hbox); clear hb hbox hg; have hcz28_0 := c1_ BK149 0 (.int .i64 (0)); have hcz28_1 := c1_ BK149 1 (.int .i64 (0)); have hcz28_2 := c1_ BK149 2 (.int .i64 (0)); have hfz28_0 := f1_ BK149 0; have hfz28_1 := f1_ BK149 1; have hfz28_2 := f1_ BK149 2; skip) | ((with_reducible refine gate_callee (f := 79) rfl ?_); refine goesL_ (some 48) rfl rfl Try.func79 s2_ rfl #[.slice (some ad148) l0.length c0, .int .i64 ((rd_T45 l0 x39_2).f0), .int .i64 a1, .int .i64 a2] rfl s3_ ?_; (with_reducible refine (impl_points.calls k2 _ _ l0 ((rd_T45 l0 x39_2).f0) a1 a2 t150 _ ?side1 ?side2 A23.out).mono ?_); (case side1 => exact Kd.C_below HR0.out (by repeat (first | (with_reducible first | exact HB.out | apply below_alloc | apply pw_below_drewN | apply below_drew1 | refine below_set ?_ GE149.out) | exact HB.out))); (case side2 => exact HC0.out); rintro e w29 ⟨rfl, hb⟩; refine ⟨_, rfl, ?_⟩; replace HO_11 := Aside0.mk (Kd.R_below (by (with_reducible repeat (first | apply Kd.R_alloc | apply Kd.R_drewN | apply Kd.R_drew)); exact (Kd.R_mono (Kd.R_far3 (g := gb149) (Kd.R_types HO_11.out BK149.out (by decide)) (fun _ hk => hk.2)) (fun _ h_ => h_.1))) hb); replace HM := Aside0.mk (impl_WorstMembers.mp_below (g := gM) (m := x10_2) (by (with_reducible repeat (first | apply impl_WorstMembers.mp_drewN | apply impl_WorstMembers.mp_drew | refine impl_WorstMembers.mp_set ?_ NEM.out)); exact HM.out) hb); replace BKO := Aside0.mk (blk_below (g := gO) (o := .cells #[.map (some gM)] 90 (0, 0)) (by (with_reducible repeat (first | refine blk_drewN ?_ _ | refine blk_drew ?_ | refine impl_WorstMembers.bk_set ?_ NEO.out)); exact BKO.out) hb); replace BK149 := Aside0.mk (blk_below (g := gb149) (o := .cells #[.int .i64 ((rd_T45 l0 x39_2).f0), .int .i64 ((rd_T45 l0 x39_2).f1), .int .i64 ((rd_T45 l0 x39_2).f2)] 45 (0, 0)) (by (with_reducible repeat (first | refine blk_drewN ?_ _ | refine blk_drew ?_ | refine blk_alloc ?_ _)); refine blk_put3 (cs := #[.int .i64 0, .int .i64 0, .int .i64 0]) ?_ rfl; (with_reducible repeat (first | refine blk_drewN ?_ _ | refine blk_drew ?_ | refine blk_alloc ?_ _)); exact BK149.out) hb); replace HB := Aside0.mk (below_step (by repeat (first | (with_reducible first | exact HB.out | apply below_alloc | apply pw_below_drewN | apply below_drew1 | refine below_set ?_ GE149.out) | exact HB.out)) hb); (try clear hb); have hcz30_0 := c1_ BK149 0 (.int .i64 ((rd_T45 l0 x39_2).f0)); have hcz30_1 := c1_ BK149 1 (.int .i64 ((rd_T45 l0 x39_2).f1)); have hcz30_2 := c1_ BK149 2 (.int .i64 ((rd_T45 l0 x39_2).f2)); have hfz30_0 := f1_ BK149 0; have hfz30_1 := f1_ BK149 1; have hfz30_2 := f1_ BK149 2; have hcO := c1_ BKO 0 (.map (some gM)); obtain ⟨Ao31, co31, eo31⟩ := Kd.R_slice HO_11.out; subst eo31) | ((with_reducible refine gate_dst (N := 53) rfl ?_); refine impl_WorstMembers.look2 rfl (.tmp 50) (.tmp 52) rfl rfl (m0_ HM) rfl CW.out.1.1 CW.out.1.2 false HS.out ?_; intro cv) | (at_mapUpdate; refine impl_WorstMembers.store rfl (.tmp 62) (.tmp 64) (.tmp 65) rfl rfl (m0_ HM) rfl rfl CW.out.1.1 CW.out.1.2 (Int.le_of_lt CP.out) CW.out.2 HS.out ?hl ?_; (case hl => have := LMc32.out.2; unfold maxLen; omega); intro w37 hmp hgr; replace HO_11 := Aside0.mk (impl_WorstMembers.row_mp HM.out hgr HO_11.out); replace BK149 := Aside0.mk (blk_grown (b1_ BK149.out) hgr (fun e_ => NEM.out (Option.some.inj e_).symm)); replace HB := Aside0.mk ((y1_ HB.out : Below w.heap.size w _).grown hgr (below_size (y1_ HB.out)) (fun k_ hk_ => by cases hk_; exact GWM.out)); replace BKO := Aside0.mk (blk_grown (b1_ BKO.out) hgr (fun e_ => impl_WorstMembers.mp_ne HM.out BKO.out (Option.some.inj e_).symm)); replace HM := Aside0.mk hmp; clear hmp hgr; have hcz37_0 := c1_ BK149 0 (.int .i64 ((rd_T45 l0 x39_2).f0)); have hcz37_1 := c1_ BK149 1 (.int .i64 ((rd_T45 l0 x39_2).f1)); have hcz37_2 := c1_ BK149 2 (.int .i64 ((rd_T45 l0 x39_2).f2)); have hfz37_0 := f1_ BK149 0; have hfz37_1 := f1_ BK149 1; have hfz37_2 := f1_ BK149 2; have hcO2 := c1_ BKO 0 (.map (some gM))) | ((with_reducible refine gate_builtin (b := .append) (xs := #[.tmp 66, .tmp 69]) rfl ?_); at_builtin; refine Kd.R_append (Kd.int .i64) (w0 := w) w.heap.size rfl (.tmp 66) (.tmp 69) 27 2 (.int .i64 0) 8 rfl Try.underlying27 info2 rfl (by decide) (by omega) (.slice Ao31 x11_2.length co31) x11_2 ((rd_T45 l0 x39_2).f0) [.int .i64 ((rd_T45 l0 x39_2).f0)] (fun _ => True) (fun _ => False) rfl rfl ?aP (fun _ hk => hk.elim) ?aF ?aO ?aB ?aS ?aL ?_; (case aP => exact rfl); (case aB => exact (y1_ HB.out)); (case aF => exact (fun _ _ => trivial)); (case aO => exact (b2_ HO_11.out)); (case aS => exact (below_size (y1_ HB.out))); (case aL => have := LMc32.out.1; omega); intro v153 w38 ho hb hg hat; rw [← Ny152.out] at ho; have HMn := impl_WorstMembers.mp_row HM.out HO_11.out; replace HM := m5_ HM hg HMn; clear HMn; replace BKO := Aside0.mk (blk_grown (g := gO) (b1_ BKO.out) hg (Kd.R_ne HO_11.out BKO.out (by decide))); replace HB := Aside0.mk (hb); have HO154 := Aside0.mk (ho); clear HO_11; clear ho hb hg hat))
 go_roundg k2
 case measure => have := HJ4.out; have := HK2.out; omega
 case rel => exact ⟨(x10_2 ++ [((rd_T45 l0 x39_2).f0, t150)]), y152, (wrap64 (x39_2 + 1)), s1_, H', ⟨by have := HJ4.out; have := HK2.out; omega⟩, ⟨b2_ HO154.out⟩, ⟨by repeat (first | (with_reducible first | exact HB.out | apply below_alloc | apply pw_below_drewN | apply below_drew1) | exact HB.out)⟩, ⟨by (with_reducible repeat (first | apply impl_WorstMembers.mp_drewN | apply impl_WorstMembers.mp_drew)); exact HM.out⟩, ⟨b1_ BKO.out⟩⟩}
 {
 rw [if_neg c32] at H
 exact absurd H (by simp)}}}
 {
 rw [if_neg c25] at H
 have c25b0 : decide (0 < t150) = false := decide_eq_false c25
 clear c25
 obtain ⟨bS, hS⟩ : ∃ b, impl_WorstMembers.hasK x10_2 ((rd_T45 l0 x39_2).f0) = b := ⟨_, rfl⟩
 have HS := Aside0.mk hS
 clear hS
 have H' := Aside0.mk H
 clear H
 have p148 : 0 ≤ (x39_2 : Int) := of_decide_eq_true (by first | (with_reducible assumption) | assumption)
 have q148 : x39_2 < (l0.length : Int) := of_decide_eq_true (by first | (with_reducible assumption) | assumption)
 obtain ⟨ad148, e148, hx148_0, hx148_1, hx148_2⟩ := at_T45 HR0.out x39_2 p148 q148
 cases e148
 replace hx148_0 := (HB.out.cell (World.block_lt_of_cell? w _ hx148_0)).trans hx148_0
 replace hx148_1 := (HB.out.cell (World.block_lt_of_cell? w _ hx148_1)).trans hx148_1
 replace hx148_2 := (HB.out.cell (World.block_lt_of_cell? w _ hx148_2)).trans hx148_2
 replace p148 := eq_true p148
 replace q148 := eq_true q148
 go_wp2_with (first | ((with_reducible refine gate_dst (N := 13) rfl ?_); refine bx_ 13 #[.int .i64 0, .int .i64 0, .int .i64 0] 45 ?_; intro gb149 hg w27 hbox hb; have GE149 := b6_ hg HB; have NEO := b4_ hg BKO; have NEM := m4_ hg HM; replace HO_11 := r1_ HO_11 hb; replace HM := m1_ HM hb; replace BKO := b3_ BKO hb; replace HB := Aside0.mk (below_step (y1_ HB.out) hb); have BK149 := Aside0.mk (hbox); clear hb hbox hg; have hcz28_0 := c1_ BK149 0 (.int .i64 (0)); have hcz28_1 := c1_ BK149 1 (.int .i64 (0)); have hcz28_2 := c1_ BK149 2 (.int .i64 (0)); have hfz28_0 := f1_ BK149 0; have hfz28_1 := f1_ BK149 1; have hfz28_2 := f1_ BK149 2; skip) | ((with_reducible refine gate_callee (f := 79) rfl ?_); refine goesL_ (some 48) rfl rfl Try.func79 s2_ rfl #[.slice (some ad148) l0.length c0, .int .i64 ((rd_T45 l0 x39_2).f0), .int .i64 a1, .int .i64 a2] rfl s3_ ?_; (with_reducible refine (impl_points.calls k2 _ _ l0 ((rd_T45 l0 x39_2).f0) a1 a2 t150 _ ?side1 ?side2 A23.out).mono ?_); (case side1 => exact Kd.C_below HR0.out (by repeat (first | (with_reducible first | exact HB.out | apply below_alloc | apply pw_below_drewN | apply below_drew1 | refine below_set ?_ GE149.out) | exact HB.out))); (case side2 => exact HC0.out); rintro e w29 ⟨rfl, hb⟩; refine ⟨_, rfl, ?_⟩; replace HO_11 := Aside0.mk (Kd.R_below (by (with_reducible repeat (first | apply Kd.R_alloc | apply Kd.R_drewN | apply Kd.R_drew)); exact (Kd.R_mono (Kd.R_far3 (g := gb149) (Kd.R_types HO_11.out BK149.out (by decide)) (fun _ hk => hk.2)) (fun _ h_ => h_.1))) hb); replace HM := Aside0.mk (impl_WorstMembers.mp_below (g := gM) (m := x10_2) (by (with_reducible repeat (first | apply impl_WorstMembers.mp_drewN | apply impl_WorstMembers.mp_drew | refine impl_WorstMembers.mp_set ?_ NEM.out)); exact HM.out) hb); replace BKO := Aside0.mk (blk_below (g := gO) (o := .cells #[.map (some gM)] 90 (0, 0)) (by (with_reducible repeat (first | refine blk_drewN ?_ _ | refine blk_drew ?_ | refine impl_WorstMembers.bk_set ?_ NEO.out)); exact BKO.out) hb); replace BK149 := Aside0.mk (blk_below (g := gb149) (o := .cells #[.int .i64 ((rd_T45 l0 x39_2).f0), .int .i64 ((rd_T45 l0 x39_2).f1), .int .i64 ((rd_T45 l0 x39_2).f2)] 45 (0, 0)) (by (with_reducible repeat (first | refine blk_drewN ?_ _ | refine blk_drew ?_ | refine blk_alloc ?_ _)); refine blk_put3 (cs := #[.int .i64 0, .int .i64 0, .int .i64 0]) ?_ rfl; (with_reducible repeat (first | refine blk_drewN ?_ _ | refine blk_drew ?_ | refine blk_alloc ?_ _)); exact BK149.out) hb); replace HB := Aside0.mk (below_step (by repeat (first | (with_reducible first | exact HB.out | apply below_alloc | apply pw_below_drewN | apply below_drew1 | refine below_set ?_ GE149.out) | exact HB.out)) hb); (try clear hb); have hcz30_0 := c1_ BK149 0 (.int .i64 ((rd_T45 l0 x39_2).f0)); have hcz30_1 := c1_ BK149 1 (.int .i64 ((rd_T45 l0 x39_2).f1)); have hcz30_2 := c1_ BK149 2 (.int .i64 ((rd_T45 l0 x39_2).f2)); have hfz30_0 := f1_ BK149 0; have hfz30_1 := f1_ BK149 1; have hfz30_2 := f1_ BK149 2; have hcO := c1_ BKO 0 (.map (some gM)); obtain ⟨Ao31, co31, eo31⟩ := Kd.R_slice HO_11.out; subst eo31) | ((with_reducible refine gate_dst (N := 53) rfl ?_); refine impl_WorstMembers.look2 rfl (.tmp 50) (.tmp 52) rfl rfl (m0_ HM) rfl CW.out.1.1 CW.out.1.2 bS HS.out ?_; intro cv))
 go_roundg k2
 case measure => have := HJ4.out; have := HK2.out; omega
 case rel => exact ⟨x10_2, x11_2, (wrap64 (x39_2 + 1)), s1_, H', ⟨by have := HJ4.out; have := HK2.out; omega⟩, ⟨b2_ HO_11.out⟩, ⟨by repeat (first | (with_reducible first | exact HB.out | apply below_alloc | apply pw_below_drewN | apply below_drew1) | exact HB.out)⟩, ⟨by (with_reducible repeat (first | apply impl_WorstMembers.mp_drewN | apply impl_WorstMembers.mp_drew)); exact HM.out⟩, ⟨b1_ BKO.out⟩⟩}}
 {
 rw [if_neg cW] at H
 exact absurd H (by simp)}}
 {
 rw [if_neg c22] at H
 exact absurd H (by simp)}}
 {
 rw [if_neg c21] at H
 exact absurd H (by simp)}}
 {
 rw [if_neg c20] at H
 have c20b0 : decide (x39_2 < (l0.length : Int)) = false := decide_eq_false c20
 clear c20
 replace H := Option.bind_eq_some_iff.mp H
 obtain ⟨t144, A440, H⟩ := H
 replace H : (if 0 ≤ (mn a3 (x11_2.length : Int)) then (if (mn a3 (x11_2.length : Int)) ≤ (x11_2.length : Int) then (some ((t144.take ((mn a3 (x11_2.length : Int)) : Int).toNat), true)) else (none)) else (none)) = some (r1, r2) := H
 have A44 := Aside0.mk A440
 clear A440
 obtain ⟨ji45, hji45⟩ : ∃ j_ : Int, (mn a3 (x11_2.length : Int)) = j_ := ⟨_, rfl⟩
 replace H : (if 0 ≤ (ji45) then (if (ji45) ≤ (x11_2.length : Int) then (some ((t144.take ((ji45) : Int).toNat), true)) else (none)) else (none)) = some (r1, r2) := by first | (rw [hji45] at H; exact H) | (simp only [hji45] at H ⊢; exact H)
 (try rw [hji45] at A44)
 have hji45_ : (if (x11_2.length : Int) < a3 then (x11_2.length : Int) else a3) = ji45 := hji45
 by_cases c46 : 0 ≤ (ji45)
 {
 rw [if_pos c46] at H
 have c46b0 := eq_true c46
 have c46b1 : decide (0 ≤ (ji45)) = true := decide_eq_true c46
 clear c46
 by_cases c47 : (ji45) ≤ (x11_2.length : Int)
 {
 rw [if_pos c47] at H
 have c47b0 := eq_true c47
 have c47b1 : decide ((ji45) ≤ (x11_2.length : Int)) = true := decide_eq_true c47
 clear c47
 obtain ⟨y145, hy145⟩ : ∃ y_ : List Int, y_ = (t144.take ((ji45) : Int).toNat) := ⟨_, rfl⟩
 replace H : (some (y145, true)) = some (r1, r2) := by first | (rw [hy145]; with_reducible exact H) | (have H2_ := (Option.bind_some _ _).symm.trans H; rw [hy145]; with_reducible exact H2_) | (have H2_ := (Option.bind_some _ _).symm.trans H; with_reducible exact H2_) | with_reducible exact H | (rw [hy145]; exact H) | exact H
 have Ny145 := Aside0.mk hy145
 clear hy145
 simp only [Option.some.injEq, Prod.mk.injEq] at H
 obtain ⟨rfl, rfl⟩ := H
 obtain ⟨Ao48, co48, eo48⟩ := Kd.R_slice HO_11.out
 subst eo48
 go_wp2_with (first | ((with_reducible refine gate_callee (f := 80) rfl ?_); refine goesL_ (some 74) rfl rfl Try.func80 s2_ rfl #[.slice Ao48 x11_2.length co48, .func (.func 81) #[] #[.pointer (some ⟨gO, 0, none⟩)]] rfl s3_ ?_; (refine (impl_WorstMembers.sorts x10_2 gO gM (.slice Ao48 x11_2.length co48) x11_2 t144 w _ ?side1 ?side2 ?side3 ?side4 A44.out).mono ?_); (case side1 => exact y1_ HB.out); (case side2 => exact m0_ HM); (case side3 => exact b1_ BKO.out); (case side4 => exact b2_ HO_11.out); rintro e w49 ⟨rfl, hy0, hb⟩; refine ⟨_, rfl, ?_⟩; replace HO_11 := Aside0.mk hy0; replace HB := Aside0.mk (hb); (try clear hb); (try clear hy0); have q50 : ((ji45) : Int) ≤ ((x11_2.length : Int) : Int) := of_decide_eq_true (by first | (with_reducible assumption) | assumption); obtain ⟨i050, hi050, _, hsz50, _⟩ := info_parts info2; have hcut50 := cut_to (P := Try.prog) 27 2 .i64 Try.underlying27 hi050 Ao48 x11_2.length co48 (ji45) (of_decide_eq_true (by first | (with_reducible assumption) | assumption)) q50 (Kd.R_reads' HO_11.out).2.1; have hr50 := Kd.R_take (m := ((ji45) : Int).toNat) HO_11.out (by have hln_ := (Kd.R_reads' HO_11.out).1; omega); have hy50 : y145.length = ((ji45) : Int).toNat := (by have hln_ := (Kd.R_reads' HO_11.out).1; rw [Ny145.out, List.length_take]; omega); rw [← Ny145.out] at hr50; rw [← hy50] at hr50 hcut50; clear hy50 hi050 hsz50 HO_11; have HO147 := Aside0.mk hr50; clear hr50; replace q50 := eq_true q50))
 go_ret2
 exact ⟨_, by first | rfl | (simp [errW_none, errW_some] <;> rfl) | (simp only [← hji45]; first | rfl | (simp [errW_none, errW_some] <;> rfl)) | (simp [*, errW_none, errW_some] <;> rfl), by (with_reducible repeat (first | apply Kd.R_alloc | apply Kd.R_drewN | apply Kd.R_drew)); exact HO147.out, by repeat (first | (with_reducible first | exact HB.out | apply below_alloc | apply pw_below_drewN | apply below_drew1) | exact HB.out)⟩}
 {
 rw [if_neg c47] at H
 exact absurd H (by simp)}}
 {
 rw [if_neg c46] at H
 exact absurd H (by simp)}}}}}}}

/-! ### impl_PointsOf: function 43 -/
abbrev impl_PointsOf.T : Bool := true
abbrev impl_PointsOf.F : Bool := false
theorem impl_PointsOf.s2_ {P : Prop} (h : P := by kernel_rfl) : P := h
theorem impl_PointsOf.s3_ {P : Prop} (h : P := by (try simp only [List.map_toArray, List.map_cons, List.map_nil]); first | done | rfl | (simp only [List.length_drop, List.length_take]; rfl)) : P := h
theorem impl_PointsOf.y1_ {P Q : Prop} (q : Q) (h : Q → P := by intro q_; repeat (first | (with_reducible first | exact q_ | apply below_alloc | apply pw_below_drewN | apply below_drew1) | exact q_)) : P := h q
def impl_PointsOf.f (k : Nat) (l0 : List (S45)) (a1 : Int) (a2 : Int) (a3 : Int) : Option (Int × Bool) := (impl_AreStrikes.f k l0).bind fun t182 => (if t182 = true then ((impl_isMember.f a1).bind fun t183 => (if t183 = true then ((impl_isTick.f a2).bind fun t184 => (if t184 = true then ((impl_in.f a3 1 1000000).bind fun t185 => (if t185 = true then ((impl_points.f k l0 a1 a2 a3).bind fun t186 => (some (t186, true))) else (some (0, false)))) else (some (0, false)))) else (some (0, false)))) else (some (0, false)))
theorem impl_PointsOf.mono : ∀ a0 a1 a2 a3 k, LeO (impl_PointsOf.f k a0 a1 a2 a3) (impl_PointsOf.f (k + 1) a0 a1 a2 a3) := by
  intro a0 a1 a2 a3 k
  unfold impl_PointsOf.f
  repeat' first
      | (with_reducible exact impl_AreStrikes.mono _ _)
      | (with_reducible exact impl_points.mono _ _ _ _ _)
      | (with_reducible exact LeO.refl _)
      | (with_reducible exact LeO.none _)
      | (with_reducible refine LeO.ite ?_ ?_)
      | (with_reducible refine LeO.bind ?_ (fun _ => ?_))
      | exact impl_AreStrikes.mono _ _
      | exact impl_points.mono _ _ _ _ _
      | exact LeO.none _
      | refine LeO.ite ?_ ?_
      | refine LeO.bind ?_ (fun _ => ?_)
set_option maxHeartbeats 8000000 in
set_option maxRecDepth 100000 in
theorem impl_PointsOf.calls (k : Nat) (A0 : Option Addr) (c0 : Nat) (l0 : List (S45)) (a1 : Int) (a2 : Int) (a3 : Int) (r1 : Int) (r2 : Bool) (w : World) (hr0 : Kd.C k45 w A0 l0.length l0) (hc0 : l0.length ≤ c0) (h : impl_PointsOf.f k l0 a1 a2 a3 = some (r1, r2)) :
    Calls Try.prog 43 #[.slice A0 l0.length c0, .int .i64 a1, .int .i64 a2, .int .i64 a3] w fun e w' => e = .returned (.tuple #[.int .i64 r1, .bool r2]) ∧ Below w.heap.size w w' := by
 have HR0 := Aside0.mk hr0
 have HC0 := Aside0.mk hc0
 clear hr0 hc0
 have HB := Aside0.mk (Below.refl w.heap.size w)
 have H : ((impl_AreStrikes.f k l0).bind fun t182 => (if t182 = true then ((impl_isMember.f a1).bind fun t183 => (if t183 = true then ((impl_isTick.f a2).bind fun t184 => (if t184 = true then ((impl_in.f a3 1 1000000).bind fun t185 => (if t185 = true then ((impl_points.f k l0 a1 a2 a3).bind fun t186 => (some (t186, true))) else (some (0, false)))) else (some (0, false)))) else (some (0, false)))) else (some (0, false)))) = some (r1, r2) := h
 clear h
 replace H := Option.bind_eq_some_iff.mp H
 obtain ⟨t182, A50, H⟩ := H
 replace H : (if t182 = true then ((impl_isMember.f a1).bind fun t183 => (if t183 = true then ((impl_isTick.f a2).bind fun t184 => (if t184 = true then ((impl_in.f a3 1 1000000).bind fun t185 => (if t185 = true then ((impl_points.f k l0 a1 a2 a3).bind fun t186 => (some (t186, true))) else (some (0, false)))) else (some (0, false)))) else (some (0, false)))) else (some (0, false))) = some (r1, r2) := H
 have A5 := Aside0.mk A50
 clear A50
 by_cases c6 : t182 = true
 {
 subst c6
 have H1 : ((impl_isMember.f a1).bind fun t183 => (if t183 = true then ((impl_isTick.f a2).bind fun t184 => (if t184 = true then ((impl_in.f a3 1 1000000).bind fun t185 => (if t185 = true then ((impl_points.f k l0 a1 a2 a3).bind fun t186 => (some (t186, true))) else (some (0, false)))) else (some (0, false)))) else (some (0, false)))) = some (r1, r2) := by rw [if_pos rfl] at H; exact H
 clear H
 have H := H1
 clear H1
 replace H := Option.bind_eq_some_iff.mp H
 obtain ⟨t183, A70, H⟩ := H
 replace H : (if t183 = true then ((impl_isTick.f a2).bind fun t184 => (if t184 = true then ((impl_in.f a3 1 1000000).bind fun t185 => (if t185 = true then ((impl_points.f k l0 a1 a2 a3).bind fun t186 => (some (t186, true))) else (some (0, false)))) else (some (0, false)))) else (some (0, false))) = some (r1, r2) := H
 have A7 := Aside0.mk A70
 clear A70
 by_cases c8 : t183 = true
 {
 subst c8
 have H1 : ((impl_isTick.f a2).bind fun t184 => (if t184 = true then ((impl_in.f a3 1 1000000).bind fun t185 => (if t185 = true then ((impl_points.f k l0 a1 a2 a3).bind fun t186 => (some (t186, true))) else (some (0, false)))) else (some (0, false)))) = some (r1, r2) := by rw [if_pos rfl] at H; exact H
 clear H
 have H := H1
 clear H1
 replace H := Option.bind_eq_some_iff.mp H
 obtain ⟨t184, A90, H⟩ := H
 replace H : (if t184 = true then ((impl_in.f a3 1 1000000).bind fun t185 => (if t185 = true then ((impl_points.f k l0 a1 a2 a3).bind fun t186 => (some (t186, true))) else (some (0, false)))) else (some (0, false))) = some (r1, r2) := H
 have A9 := Aside0.mk A90
 clear A90
 by_cases c10 : t184 = true
 {
 subst c10
 have H1 : ((impl_in.f a3 1 1000000).bind fun t185 => (if t185 = true then ((impl_points.f k l0 a1 a2 a3).bind fun t186 => (some (t186, true))) else (some (0, false)))) = some (r1, r2) := by rw [if_pos rfl] at H; exact H
 clear H
 have H := H1
 clear H1
 replace H := Option.bind_eq_some_iff.mp H
 obtain ⟨t185, A110, H⟩ := H
 replace H : (if t185 = true then ((impl_points.f k l0 a1 a2 a3).bind fun t186 => (some (t186, true))) else (some (0, false))) = some (r1, r2) := H
 have A11 := Aside0.mk A110
 clear A110
 by_cases c12 : t185 = true
 {
 subst c12
 have H1 : ((impl_points.f k l0 a1 a2 a3).bind fun t186 => (some (t186, true))) = some (r1, r2) := by rw [if_pos rfl] at H; exact H
 clear H
 have H := H1
 clear H1
 replace H := Option.bind_eq_some_iff.mp H
 obtain ⟨t186, A130, H⟩ := H
 replace H : (some (t186, true)) = some (r1, r2) := H
 have A13 := Aside0.mk A130
 clear A130
 simp only [Option.some.injEq, Prod.mk.injEq] at H
 obtain ⟨rfl, rfl⟩ := H
 go_enter Try.func43, Try.ntmps43
 go_wp2_with (first | ((with_reducible refine gate_callee (f := 42) rfl ?_); refine goesL_ (some 11) rfl rfl Try.func42 s2_ rfl #[.slice A0 l0.length c0] rfl s3_ ?_; (with_reducible refine (impl_AreStrikes.calls k _ _ l0 true _ ?side1 ?side2 A5.out).mono ?_); (case side1 => repeat (first | exact HR0.out | (with_reducible refine Kd.C_alloc ?_ _) | (with_reducible refine Kd.C_drewN ?_ _) | (with_reducible refine Kd.C_drew ?_))); (case side2 => exact HC0.out); rintro e w14 ⟨rfl, hb⟩; refine ⟨_, rfl, ?_⟩; replace HB := Aside0.mk (below_step (y1_ HB.out) hb); (try clear hb); (try clear hb2); (try clear hk); (try clear hi)) | (go_at_call 84; (with_reducible refine (impl_isMember.calls a1 true _ A7.out).mono ?_); rintro e w' ⟨rfl, ⟨nd, rfl⟩⟩) | (go_at_call 67; (with_reducible refine (impl_isTick.calls a2 true _ A9.out).mono ?_); rintro e w' ⟨rfl, ⟨nd, rfl⟩⟩) | (go_at_call 61; (with_reducible refine (impl_in.calls a3 1 1000000 true _ A11.out).mono ?_); rintro e w' ⟨rfl, ⟨nd, rfl⟩⟩) | ((with_reducible refine gate_callee (f := 79) rfl ?_); refine goesL_ (some 32) rfl rfl Try.func79 s2_ rfl #[.slice A0 l0.length c0, .int .i64 a1, .int .i64 a2, .int .i64 a3] rfl s3_ ?_; (with_reducible refine (impl_points.calls k _ _ l0 a1 a2 a3 t186 _ ?side1 ?side2 A13.out).mono ?_); (case side1 => repeat (first | exact (Kd.C_below HR0.out (y1_ HB.out)) | (with_reducible refine Kd.C_alloc ?_ _) | (with_reducible refine Kd.C_drewN ?_ _) | (with_reducible refine Kd.C_drew ?_))); (case side2 => exact HC0.out); rintro e w15 ⟨rfl, hb⟩; refine ⟨_, rfl, ?_⟩; replace HB := Aside0.mk (below_step (y1_ HB.out) hb); (try clear hb); (try clear hb2); (try clear hk); (try clear hi)))
 go_ret2
 exact ⟨by first | rfl | (simp [errW_none, errW_some] <;> rfl) | (simp [*, errW_none, errW_some] <;> rfl), by repeat (first | (with_reducible first | exact HB.out | apply below_alloc | apply pw_below_drewN | apply below_drew1) | exact HB.out)⟩}
 {
 replace c12 := Bool.eq_false_iff.mpr c12
 subst c12
 have H1 : (some (0, false)) = some (r1, r2) := by rw [if_neg (show ¬ (false = true) by decide)] at H; exact H
 clear H
 have H := H1
 clear H1
 simp only [Option.some.injEq, Prod.mk.injEq] at H
 obtain ⟨rfl, rfl⟩ := H
 go_enter Try.func43, Try.ntmps43
 go_wp2_with (first | ((with_reducible refine gate_callee (f := 42) rfl ?_); refine goesL_ (some 11) rfl rfl Try.func42 s2_ rfl #[.slice A0 l0.length c0] rfl s3_ ?_; (with_reducible refine (impl_AreStrikes.calls k _ _ l0 true _ ?side1 ?side2 A5.out).mono ?_); (case side1 => repeat (first | exact HR0.out | (with_reducible refine Kd.C_alloc ?_ _) | (with_reducible refine Kd.C_drewN ?_ _) | (with_reducible refine Kd.C_drew ?_))); (case side2 => exact HC0.out); rintro e w16 ⟨rfl, hb⟩; refine ⟨_, rfl, ?_⟩; replace HB := Aside0.mk (below_step (y1_ HB.out) hb); (try clear hb); (try clear hb2); (try clear hk); (try clear hi)) | (go_at_call 84; (with_reducible refine (impl_isMember.calls a1 true _ A7.out).mono ?_); rintro e w' ⟨rfl, ⟨nd, rfl⟩⟩) | (go_at_call 67; (with_reducible refine (impl_isTick.calls a2 true _ A9.out).mono ?_); rintro e w' ⟨rfl, ⟨nd, rfl⟩⟩) | (go_at_call 61; (with_reducible refine (impl_in.calls a3 1 1000000 false _ A11.out).mono ?_); rintro e w' ⟨rfl, ⟨nd, rfl⟩⟩))
 go_ret2
 exact ⟨by first | rfl | (simp [errW_none, errW_some] <;> rfl) | (simp [*, errW_none, errW_some] <;> rfl), by repeat (first | (with_reducible first | exact HB.out | apply below_alloc | apply pw_below_drewN | apply below_drew1) | exact HB.out)⟩}}
 {
 replace c10 := Bool.eq_false_iff.mpr c10
 subst c10
 have H1 : (some (0, false)) = some (r1, r2) := by rw [if_neg (show ¬ (false = true) by decide)] at H; exact H
 clear H
 have H := H1
 clear H1
 simp only [Option.some.injEq, Prod.mk.injEq] at H
 obtain ⟨rfl, rfl⟩ := H
 go_enter Try.func43, Try.ntmps43
 go_wp2_with (first | ((with_reducible refine gate_callee (f := 42) rfl ?_); refine goesL_ (some 11) rfl rfl Try.func42 s2_ rfl #[.slice A0 l0.length c0] rfl s3_ ?_; (with_reducible refine (impl_AreStrikes.calls k _ _ l0 true _ ?side1 ?side2 A5.out).mono ?_); (case side1 => repeat (first | exact HR0.out | (with_reducible refine Kd.C_alloc ?_ _) | (with_reducible refine Kd.C_drewN ?_ _) | (with_reducible refine Kd.C_drew ?_))); (case side2 => exact HC0.out); rintro e w17 ⟨rfl, hb⟩; refine ⟨_, rfl, ?_⟩; replace HB := Aside0.mk (below_step (y1_ HB.out) hb); (try clear hb); (try clear hb2); (try clear hk); (try clear hi)) | (go_at_call 84; (with_reducible refine (impl_isMember.calls a1 true _ A7.out).mono ?_); rintro e w' ⟨rfl, ⟨nd, rfl⟩⟩) | (go_at_call 67; (with_reducible refine (impl_isTick.calls a2 false _ A9.out).mono ?_); rintro e w' ⟨rfl, ⟨nd, rfl⟩⟩))
 go_ret2
 exact ⟨by first | rfl | (simp [errW_none, errW_some] <;> rfl) | (simp [*, errW_none, errW_some] <;> rfl), by repeat (first | (with_reducible first | exact HB.out | apply below_alloc | apply pw_below_drewN | apply below_drew1) | exact HB.out)⟩}}
 {
 replace c8 := Bool.eq_false_iff.mpr c8
 subst c8
 have H1 : (some (0, false)) = some (r1, r2) := by rw [if_neg (show ¬ (false = true) by decide)] at H; exact H
 clear H
 have H := H1
 clear H1
 simp only [Option.some.injEq, Prod.mk.injEq] at H
 obtain ⟨rfl, rfl⟩ := H
 go_enter Try.func43, Try.ntmps43
 go_wp2_with (first | ((with_reducible refine gate_callee (f := 42) rfl ?_); refine goesL_ (some 11) rfl rfl Try.func42 s2_ rfl #[.slice A0 l0.length c0] rfl s3_ ?_; (with_reducible refine (impl_AreStrikes.calls k _ _ l0 true _ ?side1 ?side2 A5.out).mono ?_); (case side1 => repeat (first | exact HR0.out | (with_reducible refine Kd.C_alloc ?_ _) | (with_reducible refine Kd.C_drewN ?_ _) | (with_reducible refine Kd.C_drew ?_))); (case side2 => exact HC0.out); rintro e w18 ⟨rfl, hb⟩; refine ⟨_, rfl, ?_⟩; replace HB := Aside0.mk (below_step (y1_ HB.out) hb); (try clear hb); (try clear hb2); (try clear hk); (try clear hi)) | (go_at_call 84; (with_reducible refine (impl_isMember.calls a1 false _ A7.out).mono ?_); rintro e w' ⟨rfl, ⟨nd, rfl⟩⟩))
 go_ret2
 exact ⟨by first | rfl | (simp [errW_none, errW_some] <;> rfl) | (simp [*, errW_none, errW_some] <;> rfl), by repeat (first | (with_reducible first | exact HB.out | apply below_alloc | apply pw_below_drewN | apply below_drew1) | exact HB.out)⟩}}
 {
 replace c6 := Bool.eq_false_iff.mpr c6
 subst c6
 have H1 : (some (0, false)) = some (r1, r2) := by rw [if_neg (show ¬ (false = true) by decide)] at H; exact H
 clear H
 have H := H1
 clear H1
 simp only [Option.some.injEq, Prod.mk.injEq] at H
 obtain ⟨rfl, rfl⟩ := H
 go_enter Try.func43, Try.ntmps43
 go_wp2_with (first | ((with_reducible refine gate_callee (f := 42) rfl ?_); refine goesL_ (some 11) rfl rfl Try.func42 s2_ rfl #[.slice A0 l0.length c0] rfl s3_ ?_; (with_reducible refine (impl_AreStrikes.calls k _ _ l0 false _ ?side1 ?side2 A5.out).mono ?_); (case side1 => repeat (first | exact HR0.out | (with_reducible refine Kd.C_alloc ?_ _) | (with_reducible refine Kd.C_drewN ?_ _) | (with_reducible refine Kd.C_drew ?_))); (case side2 => exact HC0.out); rintro e w19 ⟨rfl, hb⟩; refine ⟨_, rfl, ?_⟩; replace HB := Aside0.mk (below_step (y1_ HB.out) hb); (try clear hb); (try clear hb2); (try clear hk); (try clear hi)))
 go_ret2
 exact ⟨by first | rfl | (simp [errW_none, errW_some] <;> rfl) | (simp [*, errW_none, errW_some] <;> rfl), by repeat (first | (with_reducible first | exact HB.out | apply below_alloc | apply pw_below_drewN | apply below_drew1) | exact HB.out)⟩}

end Go.Proofs.Ytjfaepolmllejaa.QFnStrikes
