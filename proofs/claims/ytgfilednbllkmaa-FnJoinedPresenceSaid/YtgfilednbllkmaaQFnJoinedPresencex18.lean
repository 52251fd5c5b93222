-- written by a program of this session, on the lines of the kit's print
import Derived.Test.YtgfilednbllkmaaQFnJoinedPresencex0
import Derived.Test.YtgfilednbllkmaaQFnJoinedPresencex11
namespace Go.Proofs.Ytgfilednbllkmaa.QFnJoinedPresence
open Go.RowKit Go.Proofs.YtgfilednbllkmaaW.PrintWords Go.Proofs.YtgfilednbllkmaaW.PrintLast Go.Proofs.YtgfilednbllkmaaW.PrintMore
attribute [local go_sem] max2_int min2_int max_two min_two max_three min_three max_four min_four   -- for this text's walks alone
set_option linter.unusedVariables false
set_option linter.unusedSimpArgs false

theorem add_add (a : Addr) (i j : Nat) : (a.add i).add j = a.add (i + j) := by
  unfold Addr.add
  by_cases h1 : i = 0 <;> by_cases h2 : j = 0 <;> simp [h1, h2, Nat.add_assoc]
section
variable {α : Type} {d : Kd α} {e base n c : Nat} {ok oki S S2 : Nat → Prop} {w w0 W W1 W2 : World} {v : Value} {A : Option Addr} {xs : List α} {i : Int} {cs : List Value}
theorem Kd.C_kept_call (h : ∀ W', Kept w W' S → d.C W' A n xs) (hk : Kept w W S) (hs : ∀ k, S2 k → S k ∨ w.heap.size ≤ k) : ∀ W', Kept W W' S2 → d.C W' A n xs := fun W' hk' => h W' (hk.then_ hk' hs)
end
section
variable {P : Program}
theorem cut_to (t e : TypeId) (kh : IntKind) {i : TypeInfo} (ht : P.underlying t = some (.slice e)) (hi : P.info? e = some i) (A : Option Addr) (n c : Nat) (j : Int) (h0 : 0 ≤ j) (hm : j ≤ n) (hc : n ≤ c) :
    ∀ W : World, (Instr.slice t (.slice A n c) none (some (.int kh j)) none).run P W = .ok (.slice A j.toNat c) W := by
  intro W
  have hel : P.elem t = e := by simp [Program.elem, ht]
  have hu : P.underlying t = some (.slice (P.elem t)) := by rw [hel]; exact ht
  have ha : (A.map fun x => x.add 0) = A := by cases A <;> simp [Addr.add]
  rw [run_slice_h W t A n c hu kh j h0 (by omega), hel]
  simp [sizeOf, typeInfo, hi, sliced, Result.andThen, ha]
theorem cut_from (t e : TypeId) (kl : IntKind) {i : TypeInfo} (ht : P.underlying t = some (.slice e)) (hi : P.info? e = some i) (size : Nat) (hsz : i.size = size) (A : Option Addr) (n c : Nat) (j : Int) (h0 : 0 ≤ j) (hm : j ≤ n) :
    ∀ W : World, (Instr.slice t (.slice A n c) (some (.int kl j)) none none).run P W = .ok (.slice (if c = j.toNat then A else A.map (·.add (j.toNat * size))) (n - j.toNat) (c - j.toNat)) W := by
  intro W
  have hel : P.elem t = e := by simp [Program.elem, ht]
  have hu : P.underlying t = some (.slice (P.elem t)) := by rw [hel]; exact ht
  rw [run_slice_l W t A n c hu kl j h0 hm, hel]
  simp [sizeOf, typeInfo, hi, hsz, sliced, Result.andThen]
end
section
variable {α : Type} {k : Kd α} {w : World} {A : Option Addr} {xs : List α} {m c : Nat}
theorem Kd.C_drop (h : k.C w A xs.length xs) (hm : m ≤ xs.length) (hc : xs.length ≤ c) : k.C w (if c = m then A else A.map (·.add (m * k.sz))) (xs.drop m).length (xs.drop m) := by
  have hl : (xs.drop m).length = xs.length - m := List.length_drop
  refine ⟨rfl, by rw [hl]; have := h.2.1; omega, fun hp => ?_⟩
  rw [hl] at hp
  obtain ⟨ad, rfl, hcell⟩ := h.2.2 (by omega)
  rw [if_neg (by omega)]
  refine ⟨ad.add (m * k.sz), rfl, fun j p hj => ?_⟩
  rw [List.getElem?_drop] at hj
  obtain ⟨cs, h1, h2, h3⟩ := hcell (m + j) p hj
  refine ⟨cs, h1, h2, fun i u hu => ?_⟩
  rw [add_add, show m * k.sz + (j * k.sz + i) = (m + j) * k.sz + i by rw [Nat.add_mul]; omega]
  exact h3 i u hu
end
/-! ### impl_SweepPresence_1_1_v3: function 73 -/
def impl_SweepPresence_1_1_v3.f (a0_0 : Int) (a0_1 : Int) (a1_0 : Int) : Option (Bool) := some (decide (a0_1 ≤ a1_0))
set_option maxHeartbeats 8000000 in
set_option maxRecDepth 100000 in
theorem impl_SweepPresence_1_1_v3.calls (a0_0 : Int) (a0_1 : Int) (g1_ : Nat) (a1_0 : Int) (r : Bool) (w : World) (hbk1 : w.heap[g1_]? = some (.cells #[.int .i64 a1_0] 2 (0, 0))) (h : impl_SweepPresence_1_1_v3.f a0_0 a0_1 a1_0 = some r) :
    Calls Try.prog 73 #[.agg #[.int .i64 a0_0, .int .i64 a0_1], .pointer (some ⟨g1_, 0, none⟩)] w fun e w' => e = .returned (.bool r) ∧ Below w.heap.size w w' := by
  have hu63 := Try.underlying63
  have BK1 := A_ hbk1
  clear hbk1
  have HB := A_ (Below.refl w.heap.size w)
  have H : (some (decide (a0_1 ≤ a1_0))) = some r := h
  clear h
  obtain rfl := Option.some.inj H
  go_enter Try.func73, Try.ntmps73
  go_wp2_with (first | ((with_reducible refine gate_dst (N := 2) rfl ?_); refine box_event ?hg (N := 2) ?hd (cs := #[.int .i64 a0_0, .int .i64 a0_1]) (t := 63) ?hr ?_; (case hd => rfl); (case hg => rfl); (case hr => first | (go_simp; done) | (go_simp; rfl)); intro gb237 hg w3 hbox hb; have GW237 := A_ ((by rw [hg]; exact (below_size (y1_ HB.out)) : w.heap.size ≤ gb237)); have GE237 := A_ ((by rw [hg]; exact (below_size (y1_ HB.out)) : w.heap.size ≤ gb237)); have NB1_237 := A_ ((by rw [hg]; exact Nat.ne_of_lt (blk_lt (g := g1_) (o := .cells #[.int .i64 a1_0] 2 (0, 0)) (b1_ BK1.out)) : g1_ ≠ gb237)); have NB237_1 := A_ ((by rw [hg]; exact Nat.ne_of_gt (blk_lt (g := g1_) (o := .cells #[.int .i64 a1_0] 2 (0, 0)) (b1_ BK1.out)) : gb237 ≠ g1_)); replace BK1 := A_ (blk_below (g := g1_) (o := .cells #[.int .i64 a1_0] 2 (0, 0)) (b1_ BK1.out) hb); replace HB := A_ (below_step (y1_ HB.out) hb); have BK237 := A_ (hbox); clear hb hbox hg; have hnb4 := NB237_1.out; have hnc4 := NB1_237.out; have hcz5_0 : w3.cell? ⟨gb237, 0, none⟩ = some (.int .i64 a0_0) := (blk_cell BK237.out 0).trans rfl; have hcz5_1 : w3.cell? ⟨gb237, 1, none⟩ = some (.int .i64 a0_1) := (blk_cell BK237.out 1).trans rfl; have hfz5_0 := blk_frozen BK237.out 0; have hfz5_1 := blk_frozen BK237.out 1; have hcz6_0 : w3.cell? ⟨g1_, 0, none⟩ = some (.int .i64 a1_0) := (blk_cell BK1.out 0).trans rfl; have hfz6_0 := blk_frozen BK1.out 0))
  go_ret
  exact ⟨e1_, y1_ HB.out⟩

/-! ### impl_Lease_v2: function 118 -/
def impl_Lease_v2.l0 : Nat → List (S63) → Int → Int → Int → Option (Int)
  | 0, _, _, _, _ => none
  | k + 1, x0, x7, x8, x65000 => if x8 < x7 then (if 0 ≤ x8 then (if x8 < (x0.length : Int) then ((impl_SweepPresence_1_1_v3.f ((rd_T63 x0 x8).f0) ((rd_T63 x0 x8).f1) x65000).bind fun t239 => (if t239 = true then (some x8) else (impl_Lease_v2.l0 k x0 x7 (wrap64 (x8 + 1)) x65000))) else (none)) else (none)) else (some (-1))
def impl_Lease_v2.f (k : Nat) (l0 : List (S63)) (a1_0 : Int) : Option (Int) := impl_Lease_v2.l0 k l0 (l0.length : Int) 0 a1_0
theorem impl_Lease_v2.mono_l : ∀ k, (∀ y0 y1 y2 y3, LeO (impl_Lease_v2.l0 k y0 y1 y2 y3) (impl_Lease_v2.l0 (k + 1) y0 y1 y2 y3))
  | 0 => fun _ _ _ _ r h => by simp [impl_Lease_v2.l0] at h
  | k + 1 => by
    have ih0 := impl_Lease_v2.mono_l k
    · intro y0 y1 y2 y3
      unfold impl_Lease_v2.l0
      repeat' first
      | (with_reducible exact ih0 _ _ _ _)
      | (with_reducible exact LeO.refl _)
      | (with_reducible exact LeO.none _)
      | (with_reducible refine LeO.ite ?_ ?_)
      | (with_reducible refine LeO.bind ?_ (fun _ => ?_))
      | exact ih0 _ _ _ _
      | exact LeO.none _
      | refine LeO.ite ?_ ?_
      | refine LeO.bind ?_ (fun _ => ?_)
theorem impl_Lease_v2.mono : ∀ a0 a1 k, LeO (impl_Lease_v2.f k a0 a1) (impl_Lease_v2.f (k + 1) a0 a1) := by
  intro a0 a1 k
  have ih0 := impl_Lease_v2.mono_l k
  unfold impl_Lease_v2.f
  repeat' first
      | (with_reducible exact ih0 _ _ _ _)
      | (with_reducible exact LeO.refl _)
      | (with_reducible exact LeO.none _)
      | (with_reducible refine LeO.ite ?_ ?_)
      | (with_reducible refine LeO.bind ?_ (fun _ => ?_))
      | exact ih0 _ _ _ _
      | exact LeO.none _
      | refine LeO.ite ?_ ?_
      | refine LeO.bind ?_ (fun _ => ?_)
set_option maxHeartbeats 8000000 in
set_option maxRecDepth 100000 in
theorem impl_Lease_v2.calls (k : Nat) (A0 : Option Addr) (c0 : Nat) (l0 : List (S63)) (g1_0_ : Nat) (a1_0 : Int) (r : Int) (w : World) (hbk1_0 : w.heap[g1_0_]? = some (.cells #[.int .i64 a1_0] 2 (0, 0))) (hr0 : Kd.C k63 w A0 l0.length l0) (hc0 : l0.length ≤ c0) (h : impl_Lease_v2.f k l0 a1_0 = some r) :
    Calls Try.prog 118 #[.slice A0 l0.length c0, .func (.func 73) #[] #[.pointer (some ⟨g1_0_, 0, none⟩)]] w fun e w' => e = .returned (.int .i64 r) ∧ Below w.heap.size w w' := by
  have hu63 := Try.underlying63
  have HR0 := A_ hr0
  have HC0 := A_ hc0
  clear hr0 hc0
  have BK64 := A_ hbk1_0
  clear hbk1_0
  have HB := A_ (Below.refl w.heap.size w)
  have H : (impl_Lease_v2.l0 k l0 (l0.length : Int) 0 a1_0) = some r := h
  clear h
  have H' := A_ H
  clear H
  go_enter Try.func118, Try.ntmps118
  go_wp2
  go_loopg [8] k (fun kq v8 w' => ∃ (x8_1 : Int), v8 = .int .i64 x8_1 ∧ Aside0 (impl_Lease_v2.l0 kq l0 (l0.length : Int) x8_1 a1_0 = some r) ∧ Aside0 (kq ≤ k) ∧ Aside0 (w'.heap[g1_0_]? = some (.cells #[.int .i64 a1_0] 2 (0, 0))) ∧ Aside0 (Below w.heap.size w w'))
  case atStart => exact ⟨(0), (by first | rfl | (simp; done) | (simp [*]; done)), H', ⟨Nat.le_refl _⟩, ⟨b1_ BK64.out⟩, ⟨y1_ HB.out⟩⟩
  case round =>
    clear H'
    try clear p2
    obtain ⟨x8_1, rfl, HA, HK1, BK64, HB⟩ := hrel
    cases gk with
    | zero => exact absurd HA.out (by simp [impl_Lease_v2.l0])
    | succ k1 =>
      have H := HA.out
      clear HA
      simp only [impl_Lease_v2.l0] at H
      by_cases c3 : x8_1 < (l0.length : Int)
      · rw [if_pos c3] at H
        have c3b0 : decide (x8_1 < (l0.length : Int)) = true := decide_eq_true c3
        clear c3
        by_cases c4 : 0 ≤ x8_1
        · rw [if_pos c4] at H
          have c4b0 : decide (0 ≤ x8_1) = true := decide_eq_true c4
          clear c4
          by_cases c5 : x8_1 < (l0.length : Int)
          · rw [if_pos c5] at H
            have c5b0 : decide (x8_1 < (l0.length : Int)) = true := decide_eq_true c5
            clear c5
            replace H := Option.bind_eq_some_iff.mp H
            obtain ⟨t239, A60, H⟩ := H
            replace H : (if t239 = true then (some x8_1) else (impl_Lease_v2.l0 k1 l0 (l0.length : Int) (wrap64 (x8_1 + 1)) a1_0)) = some r := H
            have A6 := A_ A60
            clear A60
            by_cases c7 : t239 = true
            · subst c7
              have H1 : (some x8_1) = some r := by rw [if_pos rfl] at H; exact H
              clear H
              have H := H1
              clear H1
              obtain rfl := Option.some.inj H
              have p238 : 0 ≤ (x8_1 : Int) := o1_
              have q238 : x8_1 < (l0.length : Int) := o1_
              obtain ⟨ad238, e238, hx238_0, hx238_1⟩ := at_T63 HR0.out x8_1 p238 q238
              cases e238
              replace hx238_0 := (HB.out.cell (World.block_lt_of_cell? w _ hx238_0)).trans hx238_0
              replace hx238_1 := (HB.out.cell (World.block_lt_of_cell? w _ hx238_1)).trans hx238_1
              replace p238 := eq_true p238
              replace q238 := eq_true q238
              go_wp2_with (first | (go_at_call 73; (with_reducible refine (impl_SweepPresence_1_1_v3.calls ((rd_T63 l0 x8_1).f0) ((rd_T63 l0 x8_1).f1) g1_0_ a1_0 true _ ?side1 A6.out).mono ?_); (case side1 => exact (b1_ BK64.out)); rintro e w8 ⟨rfl, hb⟩; replace BK64 := A_ (blk_below (g := g1_0_) (o := .cells #[.int .i64 a1_0] 2 (0, 0)) (b1_ BK64.out) hb); replace HB := A_ (below_step (y1_ HB.out) hb); (try clear hb); (try clear hb2); (try clear hk); (try clear hi)))
              go_ret
              exact ⟨e1_, y1_ HB.out⟩
            · replace c7 := Bool.eq_false_iff.mpr c7
              subst c7
              have H1 : (impl_Lease_v2.l0 k1 l0 (l0.length : Int) (wrap64 (x8_1 + 1)) a1_0) = some r := by rw [if_neg (show ¬ (false = true) by decide)] at H; exact H
              clear H
              have H := H1
              clear H1
              have H' := A_ H
              clear H
              have p238 : 0 ≤ (x8_1 : Int) := o1_
              have q238 : x8_1 < (l0.length : Int) := o1_
              obtain ⟨ad238, e238, hx238_0, hx238_1⟩ := at_T63 HR0.out x8_1 p238 q238
              cases e238
              replace hx238_0 := (HB.out.cell (World.block_lt_of_cell? w _ hx238_0)).trans hx238_0
              replace hx238_1 := (HB.out.cell (World.block_lt_of_cell? w _ hx238_1)).trans hx238_1
              replace p238 := eq_true p238
              replace q238 := eq_true q238
              go_wp2_with (first | (go_at_call 73; (with_reducible refine (impl_SweepPresence_1_1_v3.calls ((rd_T63 l0 x8_1).f0) ((rd_T63 l0 x8_1).f1) g1_0_ a1_0 false _ ?side1 A6.out).mono ?_); (case side1 => exact (b1_ BK64.out)); rintro e w9 ⟨rfl, hb⟩; replace BK64 := A_ (blk_below (g := g1_0_) (o := .cells #[.int .i64 a1_0] 2 (0, 0)) (b1_ BK64.out) hb); replace HB := A_ (below_step (y1_ HB.out) hb); (try clear hb); (try clear hb2); (try clear hk); (try clear hi)))
              go_roundg k1
              case measure => have := HK1.out; omega
              case rel => exact ⟨(wrap64 (x8_1 + 1)), (by first | rfl | (simp; done) | (simp [*]; done)), H', ⟨by have := HK1.out; omega⟩, ⟨b1_ BK64.out⟩, ⟨y1_ HB.out⟩⟩
          · rw [if_neg c5] at H
            exact absurd H (by simp)
        · rw [if_neg c4] at H
          exact absurd H (by simp)
      · rw [if_neg c3] at H
        have c3b0 : decide (x8_1 < (l0.length : Int)) = false := decide_eq_false c3
        clear c3
        obtain rfl := Option.some.inj H
        go_wp2
        go_ret
        exact ⟨e1_, y1_ HB.out⟩

/-! ### impl_Lease_v1: function 96 -/
abbrev impl_Lease_v1.T : Bool := true
abbrev impl_Lease_v1.F : Bool := false
def impl_Lease_v1.l0 : Nat → List (S63) → Int → Int → Int → Option ((List (S63)))
  | 0, _, _, _, _ => none
  | k + 1, x0, x5, x6, x65000 => if x6 < (x0.length : Int) then (if 0 ≤ x6 then ((impl_SweepPresence_1_1_v3.f ((rd_T63 x0 x6).f0) ((rd_T63 x0 x6).f1) x65000).bind fun t240 => (if t240 = true then (impl_Lease_v1.l0 k x0 x5 (wrap64 (x6 + 1)) x65000) else (if 0 ≤ x5 then (if x5 < (x0.length : Int) then (impl_Lease_v1.l0 k (x0.set (x5 : Int).toNat (⟨(rd_T63 x0 x6).f0, (rd_T63 x0 x6).f1⟩ : S63)) (wrap64 (x5 + 1)) (wrap64 (x6 + 1)) x65000) else (none)) else (none)))) else (none)) else (if 0 ≤ x5 then (if x5 ≤ (x0.length : Int) then (some ((x0.take (x5 : Int).toNat ++ List.replicate (x0.length - (x5 : Int).toNat) z63).take (x5 : Int).toNat)) else (none)) else (none))
def impl_Lease_v1.f (k : Nat) (l0 : List (S63)) (a1_0 : Int) : Option ((List (S63))) := (impl_Lease_v2.f k l0 a1_0).bind fun t237 => (if t237 = (-1) then (some l0) else (impl_Lease_v1.l0 k l0 t237 (wrap64 (t237 + 1)) a1_0))
theorem impl_Lease_v1.mono_l : ∀ k, (∀ y0 y1 y2 y3, LeO (impl_Lease_v1.l0 k y0 y1 y2 y3) (impl_Lease_v1.l0 (k + 1) y0 y1 y2 y3))
  | 0 => fun _ _ _ _ r h => by simp [impl_Lease_v1.l0] at h
  | k + 1 => by
    have ih0 := impl_Lease_v1.mono_l k
    · intro y0 y1 y2 y3
      unfold impl_Lease_v1.l0
      repeat' first
      | (with_reducible exact ih0 _ _ _ _)
      | (with_reducible exact impl_Lease_v2.mono _ _ _)
      | (with_reducible exact LeO.refl _)
      | (with_reducible exact LeO.none _)
      | (with_reducible refine LeO.ite ?_ ?_)
      | (with_reducible refine LeO.bind ?_ (fun _ => ?_))
      | exact ih0 _ _ _ _
      | exact impl_Lease_v2.mono _ _ _
      | exact LeO.none _
      | refine LeO.ite ?_ ?_
      | refine LeO.bind ?_ (fun _ => ?_)
theorem impl_Lease_v1.mono : ∀ a0 a1 k, LeO (impl_Lease_v1.f k a0 a1) (impl_Lease_v1.f (k + 1) a0 a1) := by
  intro a0 a1 k
  have ih0 := impl_Lease_v1.mono_l k
  unfold impl_Lease_v1.f
  repeat' first
      | (with_reducible exact ih0 _ _ _ _)
      | (with_reducible exact impl_Lease_v2.mono _ _ _)
      | (with_reducible exact LeO.refl _)
      | (with_reducible exact LeO.none _)
      | (with_reducible refine LeO.ite ?_ ?_)
      | (with_reducible refine LeO.bind ?_ (fun _ => ?_))
      | exact ih0 _ _ _ _
      | exact impl_Lease_v2.mono _ _ _
      | exact LeO.none _
      | refine LeO.ite ?_ ?_
      | refine LeO.bind ?_ (fun _ => ?_)
set_option maxHeartbeats 8000000 in
set_option maxRecDepth 100000 in
theorem impl_Lease_v1.calls (k : Nat) (P0_ : Nat → Prop) (u9000_ : Value) (l0 : List (S63)) (g1_0_ : Nat) (a1_0 : Int) (r : List (S63)) (w0 w : World) (hB : Below w0.heap.size w0 w) (hbk1_0 : w.heap[g1_0_]? = some (.cells #[.int .i64 a1_0] 2 (0, 0))) (ho0 : Kd.R k63 63 w w0.heap.size P0_ u9000_ l0) (h : impl_Lease_v1.f k l0 a1_0 = some r) :
    Calls Try.prog 96 #[u9000_, .func (.func 73) #[] #[.pointer (some ⟨g1_0_, 0, none⟩)]] w fun e w' => ∃ v0_ : Value, e = .returned (v0_) ∧ Kd.R k63 63 w' w0.heap.size (fun k_ => (P0_ k_ ∨ w.heap.size ≤ k_)) v0_ r ∧ Below w0.heap.size w0 w' ∧ Kept w w' (fun k_ => P0_ k_) := by
 have hu63 := Try.underlying63
 have HO0 := A_ (show Kd.R k63 63 w w0.heap.size (fun k_ => (P0_ k_ ∨ w.heap.size ≤ k_)) u9000_ l0 from Kd.R_mono ho0 (fun k_ hk => (.inl hk)))
 have BK64 := A_ hbk1_0
 clear hbk1_0
 have HK := A_ (Kept.refl w (fun k_ => P0_ k_))
 have HW0 := A_ hB.size
 have HB := A_ hB
 clear hB
 have H : ((impl_Lease_v2.f k l0 a1_0).bind fun t237 => (if t237 = (-1) then (some l0) else (impl_Lease_v1.l0 k l0 t237 (wrap64 (t237 + 1)) a1_0))) = some r := h
 clear h
 replace H := Option.bind_eq_some_iff.mp H
 obtain ⟨t237, A30, H⟩ := H
 replace H : (if t237 = (-1) then (some l0) else (impl_Lease_v1.l0 k l0 t237 (wrap64 (t237 + 1)) a1_0)) = some r := H
 have A3 := A_ A30
 clear A30
 by_cases c4 : t237 = (-1)
 {
 rw [if_pos c4] at H
 have c4b0 : (t237 == (-1)) = true := beq_iff_eq.mpr c4
 have c4b1 : (t237 != (-1)) = false := bne_eq_false_iff_eq.mpr c4
 clear c4
 obtain rfl := Option.some.inj H
 obtain ⟨Ao5, co5, eo5⟩ := Kd.R_slice HO0.out
 subst eo5
 go_enter Try.func96, Try.ntmps96
 go_wp2_with (first | ((with_reducible refine gate_callee (f := 118) rfl ?_); refine goesL_ (some 10) rfl rfl Try.func118 (by kernel_rfl) rfl #[.slice Ao5 l0.length co5, .func (.func 73) #[] #[.pointer (some ⟨g1_0_, 0, none⟩)]] rfl (by (try simp only [List.map_toArray, List.map_cons, List.map_nil]); first | done | rfl | (simp only [List.length_drop, List.length_take]; rfl)) ?_; (with_reducible refine (impl_Lease_v2.calls k _ _ l0 g1_0_ a1_0 t237 _ ?side1 ?side2 ?side3 A3.out).mono ?_); (case side1 => exact (b1_ BK64.out)); (case side2 => repeat (first | exact (Kd.R_reads' HO0.out).2.2 | (with_reducible refine Kd.C_alloc ?_ _) | (with_reducible refine Kd.C_drewN ?_ _) | (with_reducible refine Kd.C_drew ?_))); (case side3 => exact (Kd.R_reads' HO0.out).2.1); rintro e w6 ⟨rfl, hb⟩; refine ⟨_, rfl, ?_⟩; replace HO0 := A_ (Kd.R_below (b2_ HO0.out) hb); replace BK64 := b3_ BK64 hb; replace HK := A_ (Kept.below (S := (fun k_ => P0_ k_)) (by repeat (first | (with_reducible first | exact HK.out | apply Kept.alloc | apply Kept.drewN | apply Kept.drew) | exact HK.out)) hb); replace HB := A_ (below_step (y1_ HB.out) hb); (try clear hb); (try clear hb2); (try clear hk); (try clear hi)))
 go_ret
 exact ⟨_, e1_, b2_ HO0.out, y1_ HB.out, by repeat (first | (with_reducible first | exact HK.out | apply Kept.alloc | apply Kept.drewN | apply Kept.drew) | exact HK.out)⟩}
 {
 rw [if_neg c4] at H
 have c4b0 : (t237 == (-1)) = false := beq_eq_false_iff_ne.mpr c4
 have c4b1 : (t237 != (-1)) = true := bne_iff_ne.mpr c4
 have H' := A_ H
 clear H
 obtain ⟨Ao7, co7, eo7⟩ := Kd.R_slice HO0.out
 subst eo7
 go_enter Try.func96, Try.ntmps96
 go_wp2_with (first | ((with_reducible refine gate_callee (f := 118) rfl ?_); refine goesL_ (some 10) rfl rfl Try.func118 (by kernel_rfl) rfl #[.slice Ao7 l0.length co7, .func (.func 73) #[] #[.pointer (some ⟨g1_0_, 0, none⟩)]] rfl (by (try simp only [List.map_toArray, List.map_cons, List.map_nil]); first | done | rfl | (simp only [List.length_drop, List.length_take]; rfl)) ?_; (with_reducible refine (impl_Lease_v2.calls k _ _ l0 g1_0_ a1_0 t237 _ ?side1 ?side2 ?side3 A3.out).mono ?_); (case side1 => exact (b1_ BK64.out)); (case side2 => repeat (first | exact (Kd.R_reads' HO0.out).2.2 | (with_reducible refine Kd.C_alloc ?_ _) | (with_reducible refine Kd.C_drewN ?_ _) | (with_reducible refine Kd.C_drew ?_))); (case side3 => exact (Kd.R_reads' HO0.out).2.1); rintro e w8 ⟨rfl, hb⟩; refine ⟨_, rfl, ?_⟩; replace HO0 := A_ (Kd.R_below (b2_ HO0.out) hb); replace BK64 := b3_ BK64 hb; replace HK := A_ (Kept.below (S := (fun k_ => P0_ k_)) (by repeat (first | (with_reducible first | exact HK.out | apply Kept.alloc | apply Kept.drewN | apply Kept.drew) | exact HK.out)) hb); replace HB := A_ (below_step (y1_ HB.out) hb); (try clear hb); (try clear hb2); (try clear hk); (try clear hi)))
 go_loopg [5, 6] k (fun kq v5 v6 w' => ∃ (x0_1 : List (S63)) (x5_1 : Int) (x6_1 : Int), v5 = .int .i64 x5_1 ∧ v6 = .int .i64 x6_1 ∧ Aside0 (impl_Lease_v1.l0 kq x0_1 x5_1 x6_1 a1_0 = some r) ∧ Aside0 (kq ≤ k) ∧ Aside0 (Kd.R k63 63 w' w0.heap.size (fun k_ => (P0_ k_ ∨ w.heap.size ≤ k_)) (.slice Ao7 l0.length co7) x0_1) ∧ Aside0 (w'.heap[g1_0_]? = some (.cells #[.int .i64 a1_0] 2 (0, 0))) ∧ Aside0 (Kept w w' (fun k_ => P0_ k_)) ∧ Aside0 (Below w0.heap.size w0 w'))
 case atStart => exact ⟨(l0), (t237), (wrap64 (t237 + 1)), s1_, s1_, H', ⟨Nat.le_refl _⟩, ⟨b2_ HO0.out⟩, ⟨b1_ BK64.out⟩, ⟨by repeat (first | (with_reducible first | exact HK.out | apply Kept.alloc | apply Kept.drewN | apply Kept.drew) | exact HK.out)⟩, ⟨y1_ HB.out⟩⟩
 case round =>
  skip
  {
 clear H'
 try clear p2
 try clear c4
 try clear c4b0
 try clear c4b1
 try clear p6
 try clear c7
 obtain ⟨x0_1, x5_1, x6_1, rfl, rfl, HA, HK1, HO_0, BK64, HK, HB⟩ := hrel
 have hl0_1 := (Kd.R_reads' HO_0.out).1
 rw [hl0_1] at HO_0
 (try simp only [hl0_1])
 (try simp only [hl0_1] at BK64)
 cases gk with
 | zero => exact absurd HA.out (by simp [impl_Lease_v1.l0])
 | succ k1 =>
  skip
  {
 have H := HA.out
 clear HA
 simp only [impl_Lease_v1.l0] at H
 by_cases c9 : x6_1 < (x0_1.length : Int)
 {
 rw [if_pos c9] at H
 have c9b0 : decide (x6_1 < (x0_1.length : Int)) = true := decide_eq_true c9
 clear c9
 by_cases c10 : 0 ≤ x6_1
 {
 rw [if_pos c10] at H
 have c10b0 : decide (0 ≤ x6_1) = true := decide_eq_true c10
 clear c10
 replace H := Option.bind_eq_some_iff.mp H
 obtain ⟨t240, A110, H⟩ := H
 replace H : (if t240 = true then (impl_Lease_v1.l0 k1 x0_1 x5_1 (wrap64 (x6_1 + 1)) a1_0) else (if 0 ≤ x5_1 then (if x5_1 < (x0_1.length : Int) then (impl_Lease_v1.l0 k1 (x0_1.set (x5_1 : Int).toNat (⟨(rd_T63 x0_1 x6_1).f0, (rd_T63 x0_1 x6_1).f1⟩ : S63)) (wrap64 (x5_1 + 1)) (wrap64 (x6_1 + 1)) a1_0) else (none)) else (none))) = some r := H
 have A11 := A_ A110
 clear A110
 by_cases c12 : t240 = true
 {
 subst c12
 have H1 : (impl_Lease_v1.l0 k1 x0_1 x5_1 (wrap64 (x6_1 + 1)) a1_0) = some r := by rw [if_pos rfl] at H; exact H
 clear H
 have H := H1
 clear H1
 have H' := A_ H
 clear H
 have p238 : 0 ≤ (x6_1 : Int) := o1_
 have q238 : x6_1 < (x0_1.length : Int) := o1_
 obtain ⟨ad238, e238, hx238_0, hx238_1⟩ := at_T63 (Kd.R_reads' HO_0.out).2.2 x6_1 p238 q238
 cases e238
 replace p238 := eq_true p238
 replace q238 := eq_true q238
 go_wp2_with (first | ((with_reducible refine gate_dst (N := 7) rfl ?_); refine box_event ?hg (N := 7) ?hd (cs := #[.int .i64 0, .int .i64 0]) (t := 63) ?hr ?_; (case hd => rfl); (case hg => rfl); (case hr => first | (go_simp; done) | (go_simp; rfl)); intro gb239 hg w13 hbox hb; have GW239 := A_ ((by rw [hg]; exact (by first | exact HK.out.1 | exact (show Kept w _ (fun k_ => P0_ k_) from by repeat (first | (with_reducible first | exact HK.out | apply Kept.alloc | apply Kept.drewN | apply Kept.drew) | exact HK.out)).1) : w.heap.size ≤ gb239)); have GE239 := A_ ((by rw [hg]; exact (below_size (y1_ HB.out)) : w0.heap.size ≤ gb239)); have NB64_239 := b4_ hg BK64; have NB239_64 := b5_ hg BK64; replace HO_0 := A_ (Kd.R_below (Kd.R_elderB (b2_ HO_0.out) gb239 (Nat.le_of_eq hg.symm)) hb); replace BK64 := b3_ BK64 hb; replace HK := A_ (Kept.below (S := (fun k_ => P0_ k_)) (by repeat (first | (with_reducible first | exact HK.out | apply Kept.alloc | apply Kept.drewN | apply Kept.drew) | exact HK.out)) hb); replace HB := A_ (below_step (y1_ HB.out) hb); have BK239 := A_ (hbox); clear hb hbox hg; have hnb14 := NB239_64.out; have hnc14 := NB64_239.out; have hcz15_0 := c1_ BK239 0 (.int .i64 0); have hcz15_1 := c1_ BK239 1 (.int .i64 0); have hfz15_0 := f1_ BK239 0; have hfz15_1 := f1_ BK239 1) | (go_at_call 73; (with_reducible refine (impl_SweepPresence_1_1_v3.calls ((rd_T63 x0_1 x6_1).f0) ((rd_T63 x0_1 x6_1).f1) g1_0_ a1_0 true _ ?side1 A11.out).mono ?_); (case side1 => exact (by refine b1_ ?_; refine blk_far ?_ NB64_239.out _; refine b1_ ?_; refine blk_far ?_ NB64_239.out _; refine b1_ ?_; exact BK64.out)); rintro e w16 ⟨rfl, hb⟩; replace HO_0 := A_ (Kd.R_below (by refine b2_ ?_; exact (Kd.R_mono (Kd.R_far (p := ⟨gb239, 1, none⟩) (Kd.R_far (p := ⟨gb239, 0, none⟩) (Kd.R_mono HO_0.out (fun k_ hk => (⟨hk, hk.2⟩ : _ ∧ k_ ≠ gb239))) (fun _ hk => hk.2) (.int .i64 ((rd_T63 x0_1 x6_1).f0))) (fun _ hk => hk.2) (.int .i64 ((rd_T63 x0_1 x6_1).f1))) (fun _ h_ => h_.1))) hb); replace BK64 := A_ (blk_below (g := g1_0_) (o := .cells #[.int .i64 a1_0] 2 (0, 0)) (by refine b1_ ?_; refine blk_far ?_ NB64_239.out _; refine b1_ ?_; refine blk_far ?_ NB64_239.out _; refine b1_ ?_; exact BK64.out) hb); replace BK239 := A_ (blk_below (g := gb239) (o := .cells #[.int .i64 ((rd_T63 x0_1 x6_1).f0), .int .i64 ((rd_T63 x0_1 x6_1).f1)] 63 (0, 0)) (by refine b1_ ?_; refine blk_put (cs := #[.int .i64 ((rd_T63 x0_1 x6_1).f0), .int .i64 0]) ?_ 1 _ rfl; refine b1_ ?_; refine blk_put (cs := #[.int .i64 0, .int .i64 0]) ?_ 0 _ rfl; refine b1_ ?_; exact BK239.out) hb); replace HK := A_ (Kept.below (S := (fun k_ => P0_ k_)) (by repeat (first | (with_reducible first | exact HK.out | apply Kept.alloc | apply Kept.drewN | apply Kept.drew | refine Kept.setCell ?_ (.inr GW239.out) _) | exact HK.out)) hb); replace HB := A_ (below_step (by repeat (first | (with_reducible first | exact HB.out | apply below_alloc | apply pw_below_drewN | apply below_drew1 | refine below_set ?_ GE239.out) | exact HB.out)) hb); (try clear hb); (try clear hb2); (try clear hk); (try clear hi)))
 (try simp only [← hl0_1])
 go_roundg k1
 case measure => have := HK1.out; omega
 case rel => exact ⟨(x0_1), (x5_1), (wrap64 (x6_1 + 1)), s1_, s1_, H', ⟨by have := HK1.out; omega⟩, ⟨by (try simp only [hl0_1]); refine b2_ ?_; exact Kd.R_mono HO_0.out (fun _ hk => hk.1)⟩, ⟨by (try simp only [hl0_1]); refine b1_ ?_; exact BK64.out⟩, ⟨by repeat (first | (with_reducible first | exact HK.out | apply Kept.alloc | apply Kept.drewN | apply Kept.drew) | exact HK.out)⟩, ⟨y1_ HB.out⟩⟩}
 {
 replace c12 := Bool.eq_false_iff.mpr c12
 subst c12
 have H1 : (if 0 ≤ x5_1 then (if x5_1 < (x0_1.length : Int) then (impl_Lease_v1.l0 k1 (x0_1.set (x5_1 : Int).toNat (⟨(rd_T63 x0_1 x6_1).f0, (rd_T63 x0_1 x6_1).f1⟩ : S63)) (wrap64 (x5_1 + 1)) (wrap64 (x6_1 + 1)) a1_0) else (none)) else (none)) = some r := by rw [if_neg (show ¬ (false = true) by decide)] at H; exact H
 clear H
 have H := H1
 clear H1
 by_cases c17 : 0 ≤ x5_1
 {
 rw [if_pos c17] at H
 have c17b0 : decide (0 ≤ x5_1) = true := decide_eq_true c17
 clear c17
 by_cases c18 : x5_1 < (x0_1.length : Int)
 {
 rw [if_pos c18] at H
 have c18b0 : decide (x5_1 < (x0_1.length : Int)) = true := decide_eq_true c18
 clear c18
 obtain ⟨y241, hy241⟩ : ∃ y_ : List (S63), y_ = (x0_1.set (x5_1 : Int).toNat (⟨(rd_T63 x0_1 x6_1).f0, (rd_T63 x0_1 x6_1).f1⟩ : S63)) := ⟨_, rfl⟩
 replace H : (impl_Lease_v1.l0 k1 y241 (wrap64 (x5_1 + 1)) (wrap64 (x6_1 + 1)) a1_0) = some r := by first | (rw [hy241]; with_reducible exact H) | (have H2_ := (Option.bind_some _ _).symm.trans H; rw [hy241]; with_reducible exact H2_) | (have H2_ := (Option.bind_some _ _).symm.trans H; with_reducible exact H2_) | with_reducible exact H | (rw [hy241]; exact H) | exact H
 have Ny241 := A_ hy241
 clear hy241
 have H' := A_ H
 clear H
 have p238 : 0 ≤ (x6_1 : Int) := o1_
 have q238 : x6_1 < (x0_1.length : Int) := o1_
 obtain ⟨ad238, e238, hx238_0, hx238_1⟩ := at_T63 (Kd.R_reads' HO_0.out).2.2 x6_1 p238 q238
 cases e238
 replace p238 := eq_true p238
 replace q238 := eq_true q238
 go_wp2_with (first | ((with_reducible refine gate_dst (N := 7) rfl ?_); refine box_event ?hg (N := 7) ?hd (cs := #[.int .i64 0, .int .i64 0]) (t := 63) ?hr ?_; (case hd => rfl); (case hg => rfl); (case hr => first | (go_simp; done) | (go_simp; rfl)); intro gb239 hg w20 hbox hb; have GW239 := A_ ((by rw [hg]; exact (by first | exact HK.out.1 | exact (show Kept w _ (fun k_ => P0_ k_) from by repeat (first | (with_reducible first | exact HK.out | apply Kept.alloc | apply Kept.drewN | apply Kept.drew) | exact HK.out)).1) : w.heap.size ≤ gb239)); have GE239 := A_ ((by rw [hg]; exact (below_size (y1_ HB.out)) : w0.heap.size ≤ gb239)); have NB64_239 := b4_ hg BK64; have NB239_64 := b5_ hg BK64; replace HO_0 := A_ (Kd.R_below (Kd.R_elderB (b2_ HO_0.out) gb239 (Nat.le_of_eq hg.symm)) hb); replace BK64 := b3_ BK64 hb; replace HK := A_ (Kept.below (S := (fun k_ => P0_ k_)) (by repeat (first | (with_reducible first | exact HK.out | apply Kept.alloc | apply Kept.drewN | apply Kept.drew) | exact HK.out)) hb); replace HB := A_ (below_step (y1_ HB.out) hb); have BK239 := A_ (hbox); clear hb hbox hg; have hnb21 := NB239_64.out; have hnc21 := NB64_239.out; have hcz22_0 := c1_ BK239 0 (.int .i64 0); have hcz22_1 := c1_ BK239 1 (.int .i64 0); have hfz22_0 := f1_ BK239 0; have hfz22_1 := f1_ BK239 1) | (go_at_call 73; (with_reducible refine (impl_SweepPresence_1_1_v3.calls ((rd_T63 x0_1 x6_1).f0) ((rd_T63 x0_1 x6_1).f1) g1_0_ a1_0 false _ ?side1 A11.out).mono ?_); (case side1 => exact (by refine b1_ ?_; refine blk_far ?_ NB64_239.out _; refine b1_ ?_; refine blk_far ?_ NB64_239.out _; refine b1_ ?_; exact BK64.out)); rintro e w23 ⟨rfl, hb⟩; replace HO_0 := A_ (Kd.R_below (by refine b2_ ?_; exact (Kd.R_mono (Kd.R_far (p := ⟨gb239, 1, none⟩) (Kd.R_far (p := ⟨gb239, 0, none⟩) (Kd.R_mono HO_0.out (fun k_ hk => (⟨hk, hk.2⟩ : _ ∧ k_ ≠ gb239))) (fun _ hk => hk.2) (.int .i64 ((rd_T63 x0_1 x6_1).f0))) (fun _ hk => hk.2) (.int .i64 ((rd_T63 x0_1 x6_1).f1))) (fun _ h_ => h_.1))) hb); replace BK64 := A_ (blk_below (g := g1_0_) (o := .cells #[.int .i64 a1_0] 2 (0, 0)) (by refine b1_ ?_; refine blk_far ?_ NB64_239.out _; refine b1_ ?_; refine blk_far ?_ NB64_239.out _; refine b1_ ?_; exact BK64.out) hb); replace BK239 := A_ (blk_below (g := gb239) (o := .cells #[.int .i64 ((rd_T63 x0_1 x6_1).f0), .int .i64 ((rd_T63 x0_1 x6_1).f1)] 63 (0, 0)) (by refine b1_ ?_; refine blk_put (cs := #[.int .i64 ((rd_T63 x0_1 x6_1).f0), .int .i64 0]) ?_ 1 _ rfl; refine b1_ ?_; refine blk_put (cs := #[.int .i64 0, .int .i64 0]) ?_ 0 _ rfl; refine b1_ ?_; exact BK239.out) hb); replace HK := A_ (Kept.below (S := (fun k_ => P0_ k_)) (by repeat (first | (with_reducible first | exact HK.out | apply Kept.alloc | apply Kept.drewN | apply Kept.drew | refine Kept.setCell ?_ (.inr GW239.out) _) | exact HK.out)) hb); replace HB := A_ (below_step (by repeat (first | (with_reducible first | exact HB.out | apply below_alloc | apply pw_below_drewN | apply below_drew1 | refine below_set ?_ GE239.out) | exact HB.out)) hb); (try clear hb); (try clear hb2); (try clear hk); (try clear hi); have hcz24_0 := c1_ BK239 0 (.int .i64 ((rd_T63 x0_1 x6_1).f0)); have hcz24_1 := c1_ BK239 1 (.int .i64 ((rd_T63 x0_1 x6_1).f1)); have hfz24_0 := f1_ BK239 0; have hfz24_1 := f1_ BK239 1; have p19 : 0 ≤ (x5_1 : Int) := o1_; have q19 : (x5_1 : Int) < ((x0_1.length : Int) : Int) := o1_; obtain ⟨go19, co19, eo19, gb19, gl19, cl19, HG19⟩ := Kd.R_form HO_0.out (by omega); (first | cases eo19 | (injection eo19 with ea_ en_ ec_; (first | subst ea_ | (injection ea_ with ea_; subst ea_)); subst ec_; clear en_)); have GB19 := A_ gb19; have GG19 := A_ HG19; clear gb19 gl19 HG19; have HMgo19 := A_ (show (P0_ go19 ∨ w.heap.size ≤ go19) from (HO_0.out.1 _ rfl).1); (first | simp only [add_plain] at hx238_0 | skip); (first | simp only [add_plain] at hx238_1 | skip); obtain ⟨ce19, hcl19, hM19, hcc19, hfr19⟩ := Kd.R_elem HO_0.out z63 (x5_1 : Int) p19 q19; obtain rfl := k63_openM hM19; have hx19_0 : w23.cell? ⟨go19, (x5_1 : Int).toNat * 2, none⟩ = some (.int .i64 ((rd_T63 x0_1 x5_1).f0)) := hcc19 0 _ rfl; have hx19_1 : w23.cell? ⟨go19, (x5_1 : Int).toNat * 2 + 1, none⟩ = some (.int .i64 ((rd_T63 x0_1 x5_1).f1)) := hcc19 1 _ rfl; have hf19_0 : w23.frozen? ⟨go19, (x5_1 : Int).toNat * 2, none⟩ = false := hfr19 0; have hf19_1 : w23.frozen? ⟨go19, (x5_1 : Int).toNat * 2 + 1, none⟩ = false := hfr19 1; clear hcl19 hcc19 hfr19 hM19; replace p19 := eq_true p19; replace q19 := eq_true q19; have HX25 := A_ (show Kd.R k63 63 w23 w0.heap.size (fun k_ => (P0_ k_ ∨ w.heap.size ≤ k_) ∧ k_ ≠ gb239) (.slice (some ⟨go19, 0, none⟩) x0_1.length co7) x0_1 from (b2_ HO_0.out)); obtain ⟨ce25, hcl25, hM25, hcc25, hfr25⟩ := Kd.R_elem HX25.out z63 (x5_1 : Int) (o1_) (by have h_ : (x5_1 : Int) < ((x0_1.length : Int) : Int) := o1_; first | exact h_ | (have e_ := (Kd.R_reads' HO_0.out).1; omega) | simpa using h_); obtain rfl := k63_openM hM25; have HP25 := Kd.R_seg HX25.out (x5_1 : Int) (o1_) (by have h_ : (x5_1 : Int) < ((x0_1.length : Int) : Int) := o1_; first | exact h_ | (have e_ := (Kd.R_reads' HO_0.out).1; omega) | simpa using h_) (seg := [.int .i64 ((rd_T63 x0_1 x6_1).f0), .int .i64 ((rd_T63 x0_1 x6_1).f1)]) (j := 0) hcl25 hcc25 (show 2 ≤ 2 from by decide) (x' := (⟨(rd_T63 x0_1 x6_1).f0, (rd_T63 x0_1 x6_1).f1⟩ : S63)) (k63_mkM _ _ _ (⟨(rd_T63 x0_1 x6_1).f0, (rd_T63 x0_1 x6_1).f1⟩ : S63) ) (fun _ hk => hk); have hx25_0 := hcc25 0 _ rfl; (try simp only [show (k63).sz = 2 from rfl, Nat.mul_one, Nat.add_zero] at hx25_0); have hf25_0 := hfr25 0; (try simp only [show (k63).sz = 2 from rfl, Nat.mul_one, Nat.add_zero] at hf25_0); have hx25_1 := hcc25 1 _ rfl; (try simp only [show (k63).sz = 2 from rfl, Nat.mul_one, Nat.add_zero] at hx25_1); have hf25_1 := hfr25 1; (try simp only [show (k63).sz = 2 from rfl, Nat.mul_one, Nat.add_zero] at hf25_1); clear hcl25 hcc25 hfr25 hM25) | ((with_reducible refine gate_store (t := 63) (p := 33) rfl ?_); refine store_event (t := 63) (p := 33) (v := ?vo_w26) (w1 := ((w23.setCell ⟨go19, (x5_1 : Int).toNat * 2, none⟩ (.int .i64 ((rd_T63 x0_1 x6_1).f0))).setCell ⟨go19, (x5_1 : Int).toNat * 2 + 1, none⟩ (.int .i64 ((rd_T63 x0_1 x6_1).f1)))) ?hg ?ho ?hn ?hr ?_; (case ho => rfl); (case hg => rfl); (case hn => rfl); (case hr => first | (go_simp; done) | (go_simp; rfl)); intro w26 hw; have hg : w23.grownBy w26 (some go19) := (by rw [hw]; exact HP25.2); have hp_ : Kd.R k63 63 w26 w0.heap.size (fun k_ => (P0_ k_ ∨ w.heap.size ≤ k_) ∧ k_ ≠ gb239) (.slice (some ⟨go19, 0, none⟩) x0_1.length co7) y241 := (by rw [hw, Ny241.out]; exact HP25.1); clear HP25; have n0_ := A_ (hp_); have n1_ := A_ (blk_grown (g := g1_0_) (o := .cells #[.int .i64 a1_0] 2 (0, 0)) (b1_ BK64.out) hg (Kd.R_ne HO_0.out BK64.out (by decide))); have n2_ := A_ (blk_grown (g := gb239) (o := .cells #[.int .i64 ((rd_T63 x0_1 x6_1).f0), .int .i64 ((rd_T63 x0_1 x6_1).f1)] 63 (0, 0)) (b1_ BK239.out) hg (Kd.R_away HO_0.out (fun _ hk => hk.2))); have n3_ := A_ ((by rw [hw]; exact below_set (below_set (HB.out) GB19.out) GB19.out : Below w0.heap.size w0 w26)); have n4_ := A_ (Kept.of_grown (S := (fun k_ => P0_ k_)) hg (by repeat (first | (with_reducible first | exact HK.out | apply Kept.alloc | apply Kept.drewN | apply Kept.drew) | exact HK.out)) (fun k_ e_ => (HO_0.out.1 k_ e_).1)); clear HO_0; clear BK64; clear BK239; clear HB; clear HK; have HO_0 := n0_; have BK64 := n1_; have BK239 := n2_; have HB := n3_; have HK := n4_; clear n0_ n1_ n2_ n3_ n4_; clear hg hw hp_))
 (try simp only [← hl0_1])
 go_roundg k1
 case measure => have := HK1.out; omega
 case rel => exact ⟨(y241), (wrap64 (x5_1 + 1)), (wrap64 (x6_1 + 1)), s1_, s1_, H', ⟨by have := HK1.out; omega⟩, ⟨by (try simp only [hl0_1]); refine b2_ ?_; exact Kd.R_mono HO_0.out (fun _ hk => hk.1)⟩, ⟨by (try simp only [hl0_1]); refine b1_ ?_; exact BK64.out⟩, ⟨by repeat (first | (with_reducible first | exact HK.out | apply Kept.alloc | apply Kept.drewN | apply Kept.drew) | exact HK.out)⟩, ⟨y1_ HB.out⟩⟩}
 {
 rw [if_neg c18] at H
 exact absurd H (by simp)}}
 {
 rw [if_neg c17] at H
 exact absurd H (by simp)}}}
 {
 rw [if_neg c10] at H
 exact absurd H (by simp)}}
 {
 rw [if_neg c9] at H
 have c9b0 : decide (x6_1 < (x0_1.length : Int)) = false := decide_eq_false c9
 clear c9
 by_cases c27 : 0 ≤ x5_1
 {
 rw [if_pos c27] at H
 have c27b0 := eq_true c27
 have c27b1 : decide (0 ≤ x5_1) = true := decide_eq_true c27
 clear c27
 by_cases c28 : x5_1 ≤ (x0_1.length : Int)
 {
 rw [if_pos c28] at H
 have c28b0 := eq_true c28
 have c28b1 : decide (x5_1 ≤ (x0_1.length : Int)) = true := decide_eq_true c28
 clear c28
 obtain ⟨y242, hy242⟩ : ∃ y_ : List (S63), y_ = (x0_1.drop (x5_1 : Int).toNat) := ⟨_, rfl⟩
 replace H : (some ((x0_1.take (x5_1 : Int).toNat ++ List.replicate (x0_1.length - (x5_1 : Int).toNat) z63).take (x5_1 : Int).toNat)) = some r := by first | (rw [hy242]; with_reducible exact H) | (have H2_ := (Option.bind_some _ _).symm.trans H; rw [hy242]; with_reducible exact H2_) | (have H2_ := (Option.bind_some _ _).symm.trans H; with_reducible exact H2_) | with_reducible exact H | (rw [hy242]; exact H) | exact H
 have Ny242 := A_ hy242
 clear hy242
 obtain ⟨y246, hy246⟩ : ∃ y_ : List (S63), y_ = (x0_1.take (x5_1 : Int).toNat ++ List.replicate (x0_1.length - (x5_1 : Int).toNat) z63) := ⟨_, rfl⟩
 replace H : (some (y246.take (x5_1 : Int).toNat)) = some r := by first | (rw [hy246]; with_reducible exact H) | (have H2_ := (Option.bind_some _ _).symm.trans H; rw [hy246]; with_reducible exact H2_) | (have H2_ := (Option.bind_some _ _).symm.trans H; with_reducible exact H2_) | with_reducible exact H | (rw [hy246]; exact H) | exact H
 have Ny246 := A_ hy246
 clear hy246
 have c29b0 := eq_true (o1_ : x5_1 ≤ (x0_1.length : Int))
 obtain ⟨y247, hy247⟩ : ∃ y_ : List (S63), y_ = (y246.take (x5_1 : Int).toNat) := ⟨_, rfl⟩
 replace H : (some y247) = some r := by first | (rw [hy247]; with_reducible exact H) | (have H2_ := (Option.bind_some _ _).symm.trans H; rw [hy247]; with_reducible exact H2_) | (have H2_ := (Option.bind_some _ _).symm.trans H; with_reducible exact H2_) | with_reducible exact H | (rw [hy247]; exact H) | exact H
 have Ny247 := A_ hy247
 clear hy247
 obtain rfl := Option.some.inj H
 have q30 : (x5_1 : Int) ≤ ((x0_1.length : Int) : Int) := o1_
 obtain ⟨i030, hi030, _, hsz30, _⟩ := info_parts info63
 have hroom30 : x0_1.length ≤ co7 := (Kd.R_reads' HO_0.out).2.1
 have hC30 : Kd.C k63 _ Ao7 x0_1.length x0_1 := (Kd.R_reads' HO_0.out).2.2
 have q030 : (0 : Int) ≤ (x5_1 : Int) := o1_
 have hcut30 := cut_from (P := Try.prog) 24 63 .i64 Try.underlying24 hi030 2 hsz30 Ao7 x0_1.length co7 x5_1 q030 q30
 have hr30 := Kd.C_drop (m := (x5_1 : Int).toNat) (c := co7) hC30 (by omega) hroom30
 obtain ⟨A30, hA30⟩ : ∃ A1, A1 = (if co7 = (x5_1 : Int).toNat then Ao7 else (Ao7 : Option Addr).map (·.add ((x5_1 : Int).toNat * 2))) := ⟨_, rfl⟩
 obtain ⟨c30, hc30⟩ : ∃ c1, c1 = co7 - (x5_1 : Int).toNat := ⟨_, rfl⟩
 have hy30 : y242.length = x0_1.length - (x5_1 : Int).toNat := (by rw [Ny242.out, List.length_drop] <;> omega)
 rw [show (x0_1).drop (x5_1 : Int).toNat = y242 from Ny242.out.symm] at hr30
 replace hr30 : Kd.C k63 _ A30 y242.length y242 := (by rw [hA30]; exact hr30)
 rw [← hy30, ← hA30, ← hc30] at hcut30
 have HR245 := A_ hr30
 have HC245 := A_ (show y242.length ≤ c30 from by rw [hy30, hc30]; exact Nat.sub_le_sub_right hroom30 _)
 clear hr30 hC30 hroom30 hi030 hsz30 hc30
 have KY30 := A_ hy30
 have KA30 := A_ hA30
 clear hy30 hA30
 have KL30 := A_ (show (x5_1 : Int).toNat ≤ x0_1.length from by omega)
 replace q30 := eq_true q30
 go_wp2_with (first | ((with_reducible refine gate_builtin (b := .clear) (xs := #[.tmp 38]) rfl ?_); refine Kd.R_clear k63 (w0 := w0) w0.heap.size rfl (.tmp 38) 24 63 (.agg #[(.int .i64 0), (.int .i64 0)]) 16 rfl Try.underlying24 info63 rfl (by decide) (A := Ao7) (n := x0_1.length) (c := co7) (k := (x5_1 : Int).toNat) (xs := x0_1) z63 rfl KA30.out KY30.out (k63_mkM _ _ _ z63 ) (b2_ HO_0.out) KL30.out (y1_ HB.out) (below_size (y1_ HB.out)) ?_; intro w31 ho hb hg; rw [← Ny246.out] at ho; have n0_ := A_ (ho); have n1_ := A_ (blk_grown (g := g1_0_) (o := .cells #[.int .i64 a1_0] 2 (0, 0)) (b1_ BK64.out) hg (Kd.R_ne HO_0.out BK64.out (by decide))); have n2_ := A_ (hb); have n3_ := A_ (Kept.of_grown (S := (fun k_ => P0_ k_)) hg (by repeat (first | (with_reducible first | exact HK.out | apply Kept.alloc | apply Kept.drewN | apply Kept.drew) | exact HK.out)) (fun k_ e_ => (HO_0.out.1 k_ e_))); clear HO_0; clear BK64; clear HB; clear HK; have HO_0 := n0_; have BK64 := n1_; have HB := n2_; have HK := n3_; clear n0_ n1_ n2_ n3_; clear ho hb hg; have q32 : (x5_1 : Int) ≤ ((x0_1.length : Int) : Int) := o1_; obtain ⟨i032, hi032, _, hsz32, _⟩ := info_parts info63; have hcut32 := cut_to (P := Try.prog) 24 63 .i64 Try.underlying24 hi032 Ao7 x0_1.length co7 x5_1 (o1_) q32 (Kd.R_reads' HO_0.out).2.1; have hr32 := Kd.R_take (m := (x5_1 : Int).toNat) HO_0.out (by have hln_ := (Kd.R_reads' HO_0.out).1; omega); have hy32 : y247.length = (x5_1 : Int).toNat := (by have hln_ := (Kd.R_reads' HO_0.out).1; rw [Ny247.out, List.length_take]; omega); rw [← Ny247.out] at hr32; rw [← hy32] at hr32 hcut32; clear hy32 hi032 hsz32 HO_0; have HO249 := A_ hr32; clear hr32; replace q32 := eq_true q32))
 go_ret
 exact ⟨_, e1_, b2_ HO249.out, y1_ HB.out, by repeat (first | (with_reducible first | exact HK.out | apply Kept.alloc | apply Kept.drewN | apply Kept.drew) | exact HK.out)⟩}
 {
 rw [if_neg c28] at H
 exact absurd H (by simp)}}
 {
 rw [if_neg c27] at H
 exact absurd H (by simp)}}}}}

/-! ### impl_dropLeases_v0: function 53 -/
def impl_dropLeases_v0.f (k : Nat) (l0 : List (S63)) (a1_0 : Int) : Option ((List (S63))) := (impl_Lease_v1.f k l0 a1_0).bind fun t237 => (some t237)
theorem impl_dropLeases_v0.mono : ∀ a0 a1 k, LeO (impl_dropLeases_v0.f k a0 a1) (impl_dropLeases_v0.f (k + 1) a0 a1) := by
  intro a0 a1 k
  unfold impl_dropLeases_v0.f
  repeat' first
      | (with_reducible exact impl_Lease_v1.mono _ _ _)
      | (with_reducible exact LeO.refl _)
      | (with_reducible exact LeO.none _)
      | (with_reducible refine LeO.ite ?_ ?_)
      | (with_reducible refine LeO.bind ?_ (fun _ => ?_))
      | exact impl_Lease_v1.mono _ _ _
      | exact LeO.none _
      | refine LeO.ite ?_ ?_
      | refine LeO.bind ?_ (fun _ => ?_)
set_option maxHeartbeats 8000000 in
set_option maxRecDepth 100000 in
theorem impl_dropLeases_v0.calls (k : Nat) (P0_ : Nat → Prop) (u9000_ : Value) (l0 : List (S63)) (g1_0_ : Nat) (a1_0 : Int) (r : List (S63)) (w0 w : World) (hB : Below w0.heap.size w0 w) (hbk1_0 : w.heap[g1_0_]? = some (.cells #[.int .i64 a1_0] 2 (0, 0))) (ho0 : Kd.R k63 63 w w0.heap.size P0_ u9000_ l0) (h : impl_dropLeases_v0.f k l0 a1_0 = some r) :
    Calls Try.prog 53 #[u9000_, .func (.func 73) #[] #[.pointer (some ⟨g1_0_, 0, none⟩)]] w fun e w' => ∃ v0_ : Value, e = .returned (v0_) ∧ Kd.R k63 63 w' w0.heap.size (fun k_ => (P0_ k_ ∨ w.heap.size ≤ k_)) v0_ r ∧ Below w0.heap.size w0 w' ∧ Kept w w' (fun k_ => P0_ k_) := by
  have HO0 := A_ (show Kd.R k63 63 w w0.heap.size (fun k_ => (P0_ k_ ∨ w.heap.size ≤ k_)) u9000_ l0 from Kd.R_mono ho0 (fun k_ hk => (.inl hk)))
  have BK64 := A_ hbk1_0
  clear hbk1_0
  have HK := A_ (Kept.refl w (fun k_ => P0_ k_))
  have HW0 := A_ hB.size
  have HB := A_ hB
  clear hB
  have H : ((impl_Lease_v1.f k l0 a1_0).bind fun t237 => (some t237)) = some r := h
  clear h
  replace H := Option.bind_eq_some_iff.mp H
  obtain ⟨t237, A30, H⟩ := H
  replace H : (some t237) = some r := H
  have A3 := A_ A30
  clear A30
  obtain rfl := Option.some.inj H
  obtain ⟨Ao4, co4, eo4⟩ := Kd.R_slice HO0.out
  subst eo4
  go_enter Try.func53, Try.ntmps53
  go_wp2_with (first | ((with_reducible refine gate_callee (f := 96) rfl ?_); refine goesL_ (some 7) rfl rfl Try.func96 (by kernel_rfl) rfl #[.slice Ao4 l0.length co4, .func (.func 73) #[] #[.pointer (some ⟨g1_0_, 0, none⟩)]] rfl (by (try simp only [List.map_toArray, List.map_cons, List.map_nil]); first | done | rfl | (simp only [List.length_drop, List.length_take]; rfl)) ?_; (with_reducible refine (impl_Lease_v1.calls k (fun k_ => some k_ = (.slice Ao4 l0.length co4 : Value).ownBlock) (.slice Ao4 l0.length co4) l0 g1_0_ a1_0 t237 w0 _ ?side1 ?side2 ?side3 A3.out).mono ?_); (case side1 => exact y1_ HB.out); (case side2 => exact (b1_ BK64.out)); (case side3 => exact Kd.R_tight rfl HO0.out); rintro e w5 ⟨v238, rfl, ho0, hb, hkp⟩; refine ⟨_, rfl, ?_⟩; replace BK64 := A_ (blk_kept (b1_ BK64.out) hkp (fun hs_ => (fun e_ => (Kd.R_ne HO0.out BK64.out (by decide)) e_) hs_)); have HO239 := A_ (Kd.R_mono (ok' := fun k_ => (P0_ k_ ∨ w.heap.size ≤ k_)) ho0 (fun k_ hk_ => Or.elim hk_ (fun hs_ => (HO0.out.1 k_ (hs_).symm)) (fun hn_ => (.inr (Nat.le_trans (by first | exact HK.out.1 | exact (show Kept w _ (fun k_ => P0_ k_) from by repeat (first | (with_reducible first | exact HK.out | apply Kept.alloc | apply Kept.drewN | apply Kept.drew) | exact HK.out)).1) hn_))))); replace HK := A_ (Kept.then_ (S := (fun k_ => P0_ k_)) (by repeat (first | (with_reducible first | exact HK.out | apply Kept.alloc | apply Kept.drewN | apply Kept.drew) | exact HK.out)) hkp (fun k_ hs_ => (fun e_ => (HO0.out.1 k_ e_.symm)) hs_)); replace HB := A_ (hb); clear HO0; (try clear hb); (try clear hkp); (try clear ho0)))
  go_ret
  exact ⟨_, e1_, b2_ HO239.out, y1_ HB.out, by repeat (first | (with_reducible first | exact HK.out | apply Kept.alloc | apply Kept.drewN | apply Kept.drew) | exact HK.out)⟩

/-! ### impl_Lease_int64_v8: function 91 -/
abbrev impl_Lease_int64_v8.T : Bool := true
abbrev impl_Lease_int64_v8.F : Bool := false
def impl_Lease_int64_v8.l0 : Nat → List (S63) → Int → Int → Int → Int → Option (Int × Bool)
  | 0, _, _, _, _, _ => none
  | k + 1, x0, x1, x8, x9, x10 => if x9 < x10 then (if 0 ≤ (wrap64 ((IntKind.u64.wrap (wrap64 (x9 + x10))) / 2)) then (if (wrap64 ((IntKind.u64.wrap (wrap64 (x9 + x10))) / 2)) < (x0.length : Int) then ((impl_until_1_n95.f ((rd_T63 x0 (wrap64 ((IntKind.u64.wrap (wrap64 (x9 + x10))) / 2))).f0) ((rd_T63 x0 (wrap64 ((IntKind.u64.wrap (wrap64 (x9 + x10))) / 2))).f1) x1).bind fun t242 => (if t242 < 0 then (impl_Lease_int64_v8.l0 k x0 x1 x8 (wrap64 ((wrap64 ((IntKind.u64.wrap (wrap64 (x9 + x10))) / 2)) + 1)) x10) else (impl_Lease_int64_v8.l0 k x0 x1 x8 x9 (wrap64 ((IntKind.u64.wrap (wrap64 (x9 + x10))) / 2))))) else (none)) else (none)) else (if x9 < x8 then (if 0 ≤ x9 then (if x9 < (x0.length : Int) then ((impl_until_1_n95.f ((rd_T63 x0 x9).f0) ((rd_T63 x0 x9).f1) x1).bind fun t244 => (some (x9, (t244 == 0)))) else (none)) else (none)) else (some (x9, false)))
def impl_Lease_int64_v8.f (k : Nat) (l0 : List (S63)) (a1 : Int)  : Option (Int × Bool) := impl_Lease_int64_v8.l0 k l0 a1 (l0.length : Int) 0 (l0.length : Int)
theorem impl_Lease_int64_v8.mono_l : ∀ k, (∀ y0 y1 y2 y3 y4, LeO (impl_Lease_int64_v8.l0 k y0 y1 y2 y3 y4) (impl_Lease_int64_v8.l0 (k + 1) y0 y1 y2 y3 y4))
  | 0 => fun _ _ _ _ _ r h => by simp [impl_Lease_int64_v8.l0] at h
  | k + 1 => by
    have ih0 := impl_Lease_int64_v8.mono_l k
    · intro y0 y1 y2 y3 y4
      unfold impl_Lease_int64_v8.l0
      repeat' first
      | (with_reducible exact ih0 _ _ _ _ _)
      | (with_reducible exact LeO.refl _)
      | (with_reducible exact LeO.none _)
      | (with_reducible refine LeO.ite ?_ ?_)
      | (with_reducible refine LeO.bind ?_ (fun _ => ?_))
      | exact ih0 _ _ _ _ _
      | exact LeO.none _
      | refine LeO.ite ?_ ?_
      | refine LeO.bind ?_ (fun _ => ?_)
theorem impl_Lease_int64_v8.mono : ∀ a0 a1 k, LeO (impl_Lease_int64_v8.f k a0 a1) (impl_Lease_int64_v8.f (k + 1) a0 a1) := by
  intro a0 a1 k
  have ih0 := impl_Lease_int64_v8.mono_l k
  unfold impl_Lease_int64_v8.f
  repeat' first
      | (with_reducible exact ih0 _ _ _ _ _)
      | (with_reducible exact LeO.refl _)
      | (with_reducible exact LeO.none _)
      | (with_reducible refine LeO.ite ?_ ?_)
      | (with_reducible refine LeO.bind ?_ (fun _ => ?_))
      | exact ih0 _ _ _ _ _
      | exact LeO.none _
      | refine LeO.ite ?_ ?_
      | refine LeO.bind ?_ (fun _ => ?_)
set_option maxHeartbeats 8000000 in
set_option maxRecDepth 100000 in
theorem impl_Lease_int64_v8.calls (k : Nat) (A0 : Option Addr) (c0 : Nat) (l0 : List (S63)) (a1 : Int)  (r1 : Int) (r2 : Bool) (w : World) (hr0 : Kd.C k63 w A0 l0.length l0) (hc0 : l0.length ≤ c0) (h : impl_Lease_int64_v8.f k l0 a1 = some (r1, r2)) :
    Calls Try.prog 91 #[.slice A0 l0.length c0, .int .i64 a1, .func (.func 95) #[] #[]] w fun e w' => e = .returned (.tuple #[.int .i64 r1, .bool r2]) ∧ Below w.heap.size w w' := by
 have hu63 := Try.underlying63
 have HR0 := A_ hr0
 have HC0 := A_ hc0
 clear hr0 hc0
 have HB := A_ (Below.refl w.heap.size w)
 have H : (impl_Lease_int64_v8.l0 k l0 a1 (l0.length : Int) 0 (l0.length : Int)) = some (r1, r2) := h
 clear h
 have H' := A_ H
 clear H
 go_enter Try.func91, Try.ntmps91
 go_wp2
 go_loopg [9, 10] k (fun kq v9 v10 w' => ∃ (x9_1 : Int) (x10_1 : Int), v9 = .int .i64 x9_1 ∧ v10 = .int .i64 x10_1 ∧ Aside0 (impl_Lease_int64_v8.l0 kq l0 a1 (l0.length : Int) x9_1 x10_1 = some (r1, r2)) ∧ Aside0 (kq ≤ k) ∧ Aside0 (Below w.heap.size w w'))
 case atStart => exact ⟨(0), ((l0.length : Int)), s1_, s1_, H', ⟨Nat.le_refl _⟩, ⟨y1_ HB.out⟩⟩
 case round =>
  skip
  {
 clear H'
 try clear p2
 obtain ⟨x9_1, x10_1, rfl, rfl, HA, HK1, HB⟩ := hrel
 cases gk with
 | zero => exact absurd HA.out (by simp [impl_Lease_int64_v8.l0])
 | succ k1 =>
  skip
  {
 have H := HA.out
 clear HA
 simp only [impl_Lease_int64_v8.l0] at H
 by_cases c4 : x9_1 < x10_1
 {
 rw [if_pos c4] at H
 have c4b0 : decide (x9_1 < x10_1) = true := decide_eq_true c4
 clear c4
 obtain ⟨ji5, hji5⟩ : ∃ j_ : Int, (wrap64 ((IntKind.u64.wrap (wrap64 (x9_1 + x10_1))) / 2)) = j_ := ⟨_, rfl⟩
 replace H : (if 0 ≤ (ji5) then (if (ji5) < (l0.length : Int) then ((impl_until_1_n95.f ((rd_T63 l0 (ji5)).f0) ((rd_T63 l0 (ji5)).f1) a1).bind fun t242 => (if t242 < 0 then (impl_Lease_int64_v8.l0 k1 l0 a1 (l0.length : Int) (wrap64 ((ji5) + 1)) x10_1) else (impl_Lease_int64_v8.l0 k1 l0 a1 (l0.length : Int) x9_1 ji5))) else (none)) else (none)) = some (r1, r2) := by first | (rw [hji5] at H; exact H) | (simp only [hji5] at H ⊢; exact H)
 have hji5w : (IntKind.i64.wrap ((IntKind.u64.wrap (wrap64 (x9_1 + x10_1))) / 2)) = ji5 := (i64_w _).trans hji5
 by_cases c6 : 0 ≤ (ji5)
 {
 rw [if_pos c6] at H
 have c6b0 : decide (0 ≤ (ji5)) = true := decide_eq_true c6
 clear c6
 by_cases c7 : (ji5) < (l0.length : Int)
 {
 rw [if_pos c7] at H
 have c7b0 : decide ((ji5) < (l0.length : Int)) = true := decide_eq_true c7
 clear c7
 replace H := Option.bind_eq_some_iff.mp H
 obtain ⟨t242, A80, H⟩ := H
 replace H : (if t242 < 0 then (impl_Lease_int64_v8.l0 k1 l0 a1 (l0.length : Int) (wrap64 ((ji5) + 1)) x10_1) else (impl_Lease_int64_v8.l0 k1 l0 a1 (l0.length : Int) x9_1 ji5)) = some (r1, r2) := H
 have A8 := A_ A80
 clear A80
 by_cases c9 : t242 < 0
 {
 rw [if_pos c9] at H
 have c9b0 : decide (t242 < 0) = true := decide_eq_true c9
 clear c9
 have H' := A_ H
 clear H
 have p241 : 0 ≤ ((ji5) : Int) := o1_
 have q241 : (ji5) < (l0.length : Int) := o1_
 obtain ⟨ad241, e241, hx241_0, hx241_1⟩ := at_T63 HR0.out (ji5) p241 q241
 cases e241
 replace hx241_0 := (HB.out.cell (World.block_lt_of_cell? w _ hx241_0)).trans hx241_0
 replace hx241_1 := (HB.out.cell (World.block_lt_of_cell? w _ hx241_1)).trans hx241_1
 replace p241 := eq_true p241
 replace q241 := eq_true q241
 go_wp2_with (first | (go_at_call 95; (with_reducible refine (impl_until_1_n95.calls ((rd_T63 l0 (ji5)).f0) ((rd_T63 l0 (ji5)).f1) a1 t242 _ A8.out).mono ?_); rintro e w10 ⟨rfl, hb⟩; replace HB := A_ (below_step (y1_ HB.out) hb); (try clear hb); (try clear hb2); (try clear hk); (try clear hi)))
 go_roundg k1
 case measure => have := HK1.out; omega
 case rel => exact ⟨(wrap64 ((ji5) + 1)), (x10_1), (by first | rfl | (simp; done) | (simp only [← hji5] <;> (first | rfl | simp)) | (simp [*]; done)), s1_, H', ⟨by have := HK1.out; omega⟩, ⟨y1_ HB.out⟩⟩}
 {
 rw [if_neg c9] at H
 have c9b0 : decide (t242 < 0) = false := decide_eq_false c9
 clear c9
 have H' := A_ H
 clear H
 have p241 : 0 ≤ ((ji5) : Int) := o1_
 have q241 : (ji5) < (l0.length : Int) := o1_
 obtain ⟨ad241, e241, hx241_0, hx241_1⟩ := at_T63 HR0.out (ji5) p241 q241
 cases e241
 replace hx241_0 := (HB.out.cell (World.block_lt_of_cell? w _ hx241_0)).trans hx241_0
 replace hx241_1 := (HB.out.cell (World.block_lt_of_cell? w _ hx241_1)).trans hx241_1
 replace p241 := eq_true p241
 replace q241 := eq_true q241
 go_wp2_with (first | (go_at_call 95; (with_reducible refine (impl_until_1_n95.calls ((rd_T63 l0 (ji5)).f0) ((rd_T63 l0 (ji5)).f1) a1 t242 _ A8.out).mono ?_); rintro e w11 ⟨rfl, hb⟩; replace HB := A_ (below_step (y1_ HB.out) hb); (try clear hb); (try clear hb2); (try clear hk); (try clear hi)))
 go_roundg k1
 case measure => have := HK1.out; omega
 case rel => exact ⟨(x9_1), (ji5), s1_, (by first | rfl | (simp; done) | (simp only [← hji5] <;> (first | rfl | simp)) | (simp [*]; done)), H', ⟨by have := HK1.out; omega⟩, ⟨y1_ HB.out⟩⟩}}
 {
 rw [if_neg c7] at H
 exact absurd H (by simp)}}
 {
 rw [if_neg c6] at H
 exact absurd H (by simp)}}
 {
 rw [if_neg c4] at H
 have c4b0 : decide (x9_1 < x10_1) = false := decide_eq_false c4
 clear c4
 by_cases c12 : x9_1 < (l0.length : Int)
 {
 rw [if_pos c12] at H
 have c12b0 : decide (x9_1 < (l0.length : Int)) = true := decide_eq_true c12
 clear c12
 by_cases c13 : 0 ≤ x9_1
 {
 rw [if_pos c13] at H
 have c13b0 : decide (0 ≤ x9_1) = true := decide_eq_true c13
 clear c13
 by_cases c14 : x9_1 < (l0.length : Int)
 {
 rw [if_pos c14] at H
 have c14b0 : decide (x9_1 < (l0.length : Int)) = true := decide_eq_true c14
 clear c14
 replace H := Option.bind_eq_some_iff.mp H
 obtain ⟨t244, A150, H⟩ := H
 replace H : (some (x9_1, (t244 == 0))) = some (r1, r2) := H
 have A15 := A_ A150
 clear A150
 simp only [Option.some.injEq, Prod.mk.injEq] at H
 obtain ⟨rfl, rfl⟩ := H
 have p243 : 0 ≤ (x9_1 : Int) := o1_
 have q243 : x9_1 < (l0.length : Int) := o1_
 obtain ⟨ad243, e243, hx243_0, hx243_1⟩ := at_T63 HR0.out x9_1 p243 q243
 cases e243
 replace hx243_0 := (HB.out.cell (World.block_lt_of_cell? w _ hx243_0)).trans hx243_0
 replace hx243_1 := (HB.out.cell (World.block_lt_of_cell? w _ hx243_1)).trans hx243_1
 replace p243 := eq_true p243
 replace q243 := eq_true q243
 go_wp2_with (first | (go_at_call 95; (with_reducible refine (impl_until_1_n95.calls ((rd_T63 l0 x9_1).f0) ((rd_T63 l0 x9_1).f1) a1 t244 _ A15.out).mono ?_); rintro e w16 ⟨rfl, hb⟩; replace HB := A_ (below_step (y1_ HB.out) hb); (try clear hb); (try clear hb2); (try clear hk); (try clear hi)))
 go_ret2
 exact ⟨e1_, y1_ HB.out⟩}
 {
 rw [if_neg c14] at H
 exact absurd H (by simp)}}
 {
 rw [if_neg c13] at H
 exact absurd H (by simp)}}
 {
 rw [if_neg c12] at H
 have c12b0 : decide (x9_1 < (l0.length : Int)) = false := decide_eq_false c12
 clear c12
 simp only [Option.some.injEq, Prod.mk.injEq] at H
 obtain ⟨rfl, rfl⟩ := H
 go_wp2
 go_ret2
 exact ⟨e1_, y1_ HB.out⟩}}}}

/-! ### impl_until_n49: function 49 -/
def impl_until_n49.f (k : Nat) (l0 : List (S63)) (a1 : Int) : Option (Int) := (impl_Lease_int64_v8.f k l0 a1).bind fun bt245 => (if bt245.2 = true then (if 0 ≤ bt245.1 then (if bt245.1 < (l0.length : Int) then (some ((rd_T63 l0 bt245.1).f1)) else (none)) else (none)) else (some (-1)))
theorem impl_until_n49.mono : ∀ a0 a1 k, LeO (impl_until_n49.f k a0 a1) (impl_until_n49.f (k + 1) a0 a1) := by
  intro a0 a1 k
  unfold impl_until_n49.f
  repeat' first
      | (with_reducible exact impl_Lease_int64_v8.mono _ _ _)
      | (with_reducible exact LeO.refl _)
      | (with_reducible exact LeO.none _)
      | (with_reducible refine LeO.ite ?_ ?_)
      | (with_reducible refine LeO.bind ?_ (fun _ => ?_))
      | exact impl_Lease_int64_v8.mono _ _ _
      | exact LeO.none _
      | refine LeO.ite ?_ ?_
      | refine LeO.bind ?_ (fun _ => ?_)
set_option maxHeartbeats 8000000 in
set_option maxRecDepth 100000 in
theorem impl_until_n49.calls (k : Nat) (A0 : Option Addr) (c0 : Nat) (l0 : List (S63)) (a1 : Int) (r : Int) (w : World) (hr0 : Kd.C k63 w A0 l0.length l0) (hc0 : l0.length ≤ c0) (h : impl_until_n49.f k l0 a1 = some r) :
    Calls Try.prog 49 #[.slice A0 l0.length c0, .int .i64 a1] w fun e w' => e = .returned (.int .i64 r) ∧ Below w.heap.size w w' := by
  have HR0 := A_ hr0
  have HC0 := A_ hc0
  clear hr0 hc0
  have HB := A_ (Below.refl w.heap.size w)
  have H : ((impl_Lease_int64_v8.f k l0 a1).bind fun bt245 => (if bt245.2 = true then (if 0 ≤ bt245.1 then (if bt245.1 < (l0.length : Int) then (some ((rd_T63 l0 bt245.1).f1)) else (none)) else (none)) else (some (-1)))) = some r := h
  clear h
  replace H := Option.bind_eq_some_iff.mp H
  obtain ⟨⟨t245, t246⟩, A30, H⟩ := H
  replace H : (if t246 = true then (if 0 ≤ t245 then (if t245 < (l0.length : Int) then (some ((rd_T63 l0 t245).f1)) else (none)) else (none)) else (some (-1))) = some r := H
  have A3 := A_ A30
  clear A30
  by_cases c4 : t246 = true
  · subst c4
    have H1 : (if 0 ≤ t245 then (if t245 < (l0.length : Int) then (some ((rd_T63 l0 t245).f1)) else (none)) else (none)) = some r := by rw [if_pos rfl] at H; exact H
    clear H
    have H := H1
    clear H1
    by_cases c5 : 0 ≤ t245
    · rw [if_pos c5] at H
      have c5b0 : decide (0 ≤ t245) = true := decide_eq_true c5
      clear c5
      by_cases c6 : t245 < (l0.length : Int)
      · rw [if_pos c6] at H
        have c6b0 : decide (t245 < (l0.length : Int)) = true := decide_eq_true c6
        clear c6
        obtain rfl := Option.some.inj H
        go_enter Try.func49, Try.ntmps49
        go_wp2_with (first | ((with_reducible refine gate_callee (f := 91) rfl ?_); refine goesL_ (some 10) rfl rfl Try.func91 (by kernel_rfl) rfl #[.slice A0 l0.length c0, .int .i64 a1, .func (.func 95) #[] #[]] rfl (by (try simp only [List.map_toArray, List.map_cons, List.map_nil]); first | done | rfl | (simp only [List.length_drop, List.length_take]; rfl)) ?_; (with_reducible refine (impl_Lease_int64_v8.calls k _ _ l0 a1  t245 true _ ?side1 ?side2 A3.out).mono ?_); (case side1 => repeat (first | exact HR0.out | (with_reducible refine Kd.C_alloc ?_ _) | (with_reducible refine Kd.C_drewN ?_ _) | (with_reducible refine Kd.C_drew ?_))); (case side2 => exact HC0.out); rintro e w7 ⟨rfl, hb⟩; refine ⟨_, rfl, ?_⟩; replace HB := A_ (below_step (y1_ HB.out) hb); (try clear hb); (try clear hb2); (try clear hk); (try clear hi); have p247 : 0 ≤ (t245 : Int) := o1_; have q247 : t245 < (l0.length : Int) := o1_; obtain ⟨ad247, e247, hx247_0, hx247_1⟩ := at_T63 HR0.out t245 p247 q247; cases e247; replace hx247_0 := (HB.out.cell (World.block_lt_of_cell? w _ hx247_0)).trans hx247_0; replace hx247_1 := (HB.out.cell (World.block_lt_of_cell? w _ hx247_1)).trans hx247_1; replace p247 := eq_true p247; replace q247 := eq_true q247))
        go_ret
        exact ⟨e1_, y1_ HB.out⟩
      · rw [if_neg c6] at H
        exact absurd H (by simp)
    · rw [if_neg c5] at H
      exact absurd H (by simp)
  · replace c4 := Bool.eq_false_iff.mpr c4
    subst c4
    have H1 : (some (-1)) = some r := by rw [if_neg (show ¬ (false = true) by decide)] at H; exact H
    clear H
    have H := H1
    clear H1
    obtain rfl := Option.some.inj H
    go_enter Try.func49, Try.ntmps49
    go_wp2_with (first | ((with_reducible refine gate_callee (f := 91) rfl ?_); refine goesL_ (some 10) rfl rfl Try.func91 (by kernel_rfl) rfl #[.slice A0 l0.length c0, .int .i64 a1, .func (.func 95) #[] #[]] rfl (by (try simp only [List.map_toArray, List.map_cons, List.map_nil]); first | done | rfl | (simp only [List.length_drop, List.length_take]; rfl)) ?_; (with_reducible refine (impl_Lease_int64_v8.calls k _ _ l0 a1  t245 false _ ?side1 ?side2 A3.out).mono ?_); (case side1 => repeat (first | exact HR0.out | (with_reducible refine Kd.C_alloc ?_ _) | (with_reducible refine Kd.C_drewN ?_ _) | (with_reducible refine Kd.C_drew ?_))); (case side2 => exact HC0.out); rintro e w8 ⟨rfl, hb⟩; refine ⟨_, rfl, ?_⟩; replace HB := A_ (below_step (y1_ HB.out) hb); (try clear hb); (try clear hb2); (try clear hk); (try clear hi)))
    go_ret
    exact ⟨e1_, y1_ HB.out⟩

/-! ### impl_SweepPresence_1_2_v7: function 74 -/
abbrev impl_SweepPresence_1_2_v7.T : Bool := true
abbrev impl_SweepPresence_1_2_v7.F : Bool := false
abbrev impl_SweepPresence_1_2_v7.m0_ : Array Bool := #[F,F,F,F,F,F,F,F,F,F,F,F,F,F,F]
abbrev impl_SweepPresence_1_2_v7.m1_ : Array Bool := #[T,F,F,F,F,F,F,F,F,F,F,F,F,F,F]
abbrev impl_SweepPresence_1_2_v7.m2_ : Array Bool := #[T,T,F,F,F,F,F,F,F,F,F,F,F,F,F]
abbrev impl_SweepPresence_1_2_v7.m3_ : Array Bool := #[T,T,T,F,F,F,F,F,F,F,F,F,F,F,F]
abbrev impl_SweepPresence_1_2_v7.m4_ : Array Bool := #[T,T,T,T,F,F,F,F,F,F,F,F,F,F,F]
abbrev impl_SweepPresence_1_2_v7.m5_ : Array Bool := #[T,T,T,T,T,F,F,F,F,F,F,F,F,F,F]
abbrev impl_SweepPresence_1_2_v7.m6_ : Array Bool := #[T,T,T,T,T,T,F,F,F,F,F,F,F,F,F]
abbrev impl_SweepPresence_1_2_v7.m7_ : Array Bool := #[T,T,T,T,T,T,T,F,F,F,F,F,F,F,F]
abbrev impl_SweepPresence_1_2_v7.m8_ : Array Bool := #[T,T,T,T,T,T,T,T,F,F,F,F,F,F,F]
abbrev impl_SweepPresence_1_2_v7.m9_ : Array Bool := #[T,T,T,T,T,T,T,T,T,T,F,F,F,F,F]
abbrev impl_SweepPresence_1_2_v7.m10_ : Array Bool := #[T,T,T,T,T,T,T,T,T,T,T,F,F,F,F]
abbrev impl_SweepPresence_1_2_v7.m11_ : Array Bool := #[T,T,T,T,T,T,T,T,T,T,T,T,F,F,F]
abbrev impl_SweepPresence_1_2_v7.m12_ : Array Bool := #[T,T,T,T,T,T,T,T,T,T,T,T,T,F,F]
abbrev impl_SweepPresence_1_2_v7.m13_ : Array Bool := #[T,T,T,T,T,T,T,T,T,T,T,T,T,T,F]
abbrev impl_SweepPresence_1_2_v7.m14_ : Array Bool := #[T,T,T,T,T,T,T,T,T,T,T,T,T,T,T]
def impl_SweepPresence_1_2_v7.f (k : Nat) (a0_0 : Int) (a0_1 : Int) (a1_0 : Int) (l2_0 : List (S63)) (l2_1 : List (S63)) (l2_2 : List (S73)) : Option (Bool) := if a0_1 ≤ a1_0 then (some true) else ((impl_until_n49.f k l2_0 a0_0).bind fun t249 => (some (decide (t249 < 0))))
theorem impl_SweepPresence_1_2_v7.mono : ∀ a0 a1 a2 a3 a4 a5 k, LeO (impl_SweepPresence_1_2_v7.f k a0 a1 a2 a3 a4 a5) (impl_SweepPresence_1_2_v7.f (k + 1) a0 a1 a2 a3 a4 a5) := by
  intro a0 a1 a2 a3 a4 a5 k
  unfold impl_SweepPresence_1_2_v7.f
  repeat' first
      | (with_reducible exact impl_until_n49.mono _ _ _)
      | (with_reducible exact LeO.refl _)
      | (with_reducible exact LeO.none _)
      | (with_reducible refine LeO.ite ?_ ?_)
      | (with_reducible refine LeO.bind ?_ (fun _ => ?_))
      | exact impl_until_n49.mono _ _ _
      | exact LeO.none _
      | refine LeO.ite ?_ ?_
      | refine LeO.bind ?_ (fun _ => ?_)
def impl_SweepPresence_1_2_v7.T1 : Bool × List (List Nat × List Nat) := (true, [([], []), ([0], [0]), ([], []), ([1, 2], [1, 2]), ([3], [3]), ([4], [4]), ([5, 4], [4, 5]), ([6, 4], [4, 6]), ([7, 4], [4, 7]), ([4], [4]), ([9, 4], [4, 9]), ([8, 10, 4, 4], [4, 8, 10]), ([11, 4], [4, 11]), ([4, 12], [4, 12]), ([13, 11, 0, 1, 2, 3, 4, 5, 6, 7, 8, 9, 10, 11, 12, 13], [13])])
def impl_SweepPresence_1_2_v7.B1 : List Nat := [0, 1, 0, 7, 15, 31, 63, 127, 255, 31, 543, 2047, 4095, 8191, 16383]
theorem impl_SweepPresence_1_2_v7.tab1 : rtab .any (opsOf Try.f74 1) = impl_SweepPresence_1_2_v7.T1 := by kernel_rfl
theorem impl_SweepPresence_1_2_v7.bits1 : waitsOk impl_SweepPresence_1_2_v7.T1.2 impl_SweepPresence_1_2_v7.B1 = true := by kernel_rfl
set_option maxHeartbeats 8000000 in
set_option maxRecDepth 100000 in
theorem impl_SweepPresence_1_2_v7.calls (k : Nat) (a0_0 : Int) (a0_1 : Int) (g1_ : Nat) (a1_0 : Int) (g2_ : Nat) (q2_ : Nat) (A2_0 : Option Addr) (c2_0 : Nat) (l2_0 : List (S63)) (V2_1 : Value) (l2_1 : List (S63)) (V2_2 : Value) (l2_2 : List (S73)) (r : Bool) (w : World) (hbk1 : w.heap[g1_]? = some (.cells #[.int .i64 a1_0] 2 (0, 0))) (hbk2 : w.heap[g2_]? = some (.cells #[.slice A2_0 l2_0.length c2_0, V2_1, V2_2] 27 (0, 0))) (hbq : w.heap[q2_]? = some (.cells #[.pointer (some ⟨g2_, 0, none⟩)] 60 (0, 0))) (hr2_0 : Kd.C k63 w A2_0 l2_0.length l2_0) (hc2_0 : l2_0.length ≤ c2_0) (h : impl_SweepPresence_1_2_v7.f k a0_0 a0_1 a1_0 l2_0 l2_1 l2_2 = some r) :
    Calls Try.prog 74 #[.agg #[.int .i64 a0_0, .int .i64 a0_1], .pointer (some ⟨g1_, 0, none⟩), .pointer (some ⟨q2_, 0, none⟩)] w fun e w' => e = .returned (.bool r) ∧ Below w.heap.size w w' := by
 have hu63 := Try.underlying63
 have HR2_0 := A_ hr2_0
 have HC2_0 := A_ hc2_0
 clear hr2_0 hc2_0
 have BK1 := A_ hbk1
 clear hbk1
 have BK2 := A_ hbk2
 have BK66 := A_ hbq
 clear hbk2
 clear hbq
 have HB := A_ (Below.refl w.heap.size w)
 have H : (if a0_1 ≤ a1_0 then (some true) else ((impl_until_n49.f k l2_0 a0_0).bind fun t249 => (some (decide (t249 < 0))))) = some r := h
 clear h
 by_cases c4 : a0_1 ≤ a1_0
 {
 rw [if_pos c4] at H
 have c4b0 : decide (a0_1 ≤ a1_0) = true := decide_eq_true c4
 clear c4
 obtain rfl := Option.some.inj H
 go_enter Try.func74, Try.ntmps74
 try go_wp2_with (first | ((with_reducible refine gate_dst (N := 3) rfl ?_); refine box_event ?hg (N := 3) ?hd (cs := #[.int .i64 a0_0, .int .i64 a0_1]) (t := 63) ?hr ?_; (case hd => rfl); (case hg => rfl); (case hr => first | (go_simp; done) | (go_simp; rfl)); intro gb248 hg w5 hbox hb; have GW248 := b6_ hg HB; have GE248 := b6_ hg HB; have NB1_248 := b4_ hg BK1; have NB248_1 := b5_ hg BK1; have NB2_248 := b4_ hg BK2; have NB66_248 := b4_ hg BK66; have NB248_2 := b5_ hg BK2; have NB248_66 := b5_ hg BK66; replace BK1 := b3_ BK1 hb; replace BK2 := b3_ BK2 hb; replace BK66 := b3_ BK66 hb; replace HB := A_ (below_step (y1_ HB.out) hb); have BK248 := A_ (hbox); clear hb hbox hg))
 replace BK1 := A_ (blk_drew BK1.out)
 replace BK2 := A_ (blk_drew BK2.out)
 replace BK66 := A_ (blk_drew BK66.out)
 replace BK248 := A_ (blk_drew BK248.out)
 replace HB := A_ (below_drew1 HB.out)
 refine start_ (n := 15) (S := fun w' => w'.cell? ⟨gb248, 0, none⟩ = some (.int .i64 a0_0) ∧ w'.cell? ⟨gb248, 1, none⟩ = some (.int .i64 a0_1) ∧ w'.cell? ⟨g1_, 0, none⟩ = some (.int .i64 a1_0)) (ds := []) m0_ s2_ rfl rfl ⟨(blk_cell BK248.out 0).trans rfl, (blk_cell BK248.out 1).trans rfl, (blk_cell BK1.out 0).trans rfl⟩ (fun hHeld => ?_); refine with_tabW impl_SweepPresence_1_2_v7.tab1 impl_SweepPresence_1_2_v7.bits1 (fun HT_ HW_ => ?_)
 generalize w5.drew = w6 at BK1 BK2 BK66 BK248 HB hHeld ⊢
 refine pu_ 0 5 m1_ (any_of HT_.out s2_) ?_
 refine take_ (i := 1) (N := some 6) (v := ?_) (a' := ?_) m2_ rfl rfl (take_ofW HT_.out HW_.out s2_) (fun _ _ _ h => h) (Or.inl ⟨by rfl, ?_⟩) hHeld ?_ ?_
 rotate_left
 {
 rintro w' ⟨s0, s1, s2⟩
 go_simp
 with_reducible rfl}
 rotate_left
 · exact p1_
 refine take_ (i := 2) (N := some 7) (v := ?_) (a' := ?_) m3_ rfl rfl (take_ofW HT_.out HW_.out s2_) (fun _ _ _ h => h) (Or.inl ⟨by rfl, ?_⟩) hHeld ?_ ?_
 rotate_left
 {
 rintro w' ⟨s0, s1, s2⟩
 go_simp
 with_reducible rfl}
 rotate_left
 · exact p1_
 refine pu_ 3 8 m4_ (any_of HT_.out s2_) ?_
 refine pu_ 4 9 m5_ (any_of HT_.out s2_) ?_
 refine pn_ 5 10 m6_ (any_of HT_.out s2_) ?_
 refine pn_ 6 11 m7_ (any_of HT_.out s2_) ?_
 refine pn_ 7 12 m8_ (any_of HT_.out s2_) ?_
 refine pn_ 8 13 #[T,T,T,T,T,T,T,T,T,F,F,F,F,F,F] (any_of HT_.out s2_) ?_
 refine pn_ 9 14 m9_ (any_of HT_.out s2_) ?_
 refine pn_ 10 15 m10_ (any_of HT_.out s2_) ?_
 refine pn_ 11 16 m11_ (any_of HT_.out s2_) ?_
 refine pn_ 12 17 m12_ (any_of HT_.out s2_) ?_
 refine pu_ 13 18 m13_ (any_of HT_.out s2_) ?_
 refine pu_ 14 4 m14_ (any_of HT_.out s2_) ?_
 refine done_ (done_of HT_.out s2_) ?_
 try go_wp2
 go_ret
 exact ⟨e1_, y1_ HB.out⟩}
 {
 rw [if_neg c4] at H
 have c4b0 : decide (a0_1 ≤ a1_0) = false := decide_eq_false c4
 clear c4
 replace H := Option.bind_eq_some_iff.mp H
 obtain ⟨t249, A70, H⟩ := H
 replace H : (some (decide (t249 < 0))) = some r := H
 have A7 := A_ A70
 clear A70
 obtain rfl := Option.some.inj H
 go_enter Try.func74, Try.ntmps74
 try go_wp2_with (first | ((with_reducible refine gate_dst (N := 3) rfl ?_); refine box_event ?hg (N := 3) ?hd (cs := #[.int .i64 a0_0, .int .i64 a0_1]) (t := 63) ?hr ?_; (case hd => rfl); (case hg => rfl); (case hr => first | (go_simp; done) | (go_simp; rfl)); intro gb248 hg w8 hbox hb; have GW248 := b6_ hg HB; have GE248 := b6_ hg HB; have NB1_248 := b4_ hg BK1; have NB248_1 := b5_ hg BK1; have NB2_248 := b4_ hg BK2; have NB66_248 := b4_ hg BK66; have NB248_2 := b5_ hg BK2; have NB248_66 := b5_ hg BK66; replace BK1 := b3_ BK1 hb; replace BK2 := b3_ BK2 hb; replace BK66 := b3_ BK66 hb; replace HB := A_ (below_step (y1_ HB.out) hb); have BK248 := A_ (hbox); clear hb hbox hg))
 replace BK1 := A_ (blk_drew BK1.out)
 replace BK2 := A_ (blk_drew BK2.out)
 replace BK66 := A_ (blk_drew BK66.out)
 replace BK248 := A_ (blk_drew BK248.out)
 replace HB := A_ (below_drew1 HB.out)
 refine start_ (n := 15) (S := fun w' => w'.cell? ⟨gb248, 0, none⟩ = some (.int .i64 a0_0) ∧ w'.cell? ⟨gb248, 1, none⟩ = some (.int .i64 a0_1) ∧ w'.cell? ⟨g1_, 0, none⟩ = some (.int .i64 a1_0) ∧ w'.cell? ⟨g2_, 0, none⟩ = some (.slice A2_0 l2_0.length c2_0) ∧ w'.cell? ⟨g2_, 1, none⟩ = some (V2_1) ∧ w'.cell? ⟨g2_, 2, none⟩ = some (V2_2) ∧ w'.cell? ⟨q2_, 0, none⟩ = some (.pointer (some ⟨g2_, 0, none⟩))) (ds := []) m0_ s2_ rfl rfl ⟨(blk_cell BK248.out 0).trans rfl, (blk_cell BK248.out 1).trans rfl, (blk_cell BK1.out 0).trans rfl, (blk_cell BK2.out 0).trans rfl, (blk_cell BK2.out 1).trans rfl, (blk_cell BK2.out 2).trans rfl, (blk_cell BK66.out 0).trans rfl⟩ (fun hHeld => ?_); refine with_tabW impl_SweepPresence_1_2_v7.tab1 impl_SweepPresence_1_2_v7.bits1 (fun HT_ HW_ => ?_)
 generalize w8.drew = w9 at BK1 BK2 BK66 BK248 HB hHeld ⊢
 refine pu_ 0 5 m1_ (any_of HT_.out s2_) ?_
 refine take_ (i := 1) (N := some 6) (v := ?_) (a' := ?_) m2_ rfl rfl (take_ofW HT_.out HW_.out s2_) (fun _ _ _ h => h) (Or.inl ⟨by rfl, ?_⟩) hHeld ?_ ?_
 rotate_left
 {
 rintro w' ⟨s0, s1, s2, s3, s4, s5, s6⟩
 go_simp
 with_reducible rfl}
 rotate_left
 · exact p1_
 refine take_ (i := 2) (N := some 7) (v := ?_) (a' := ?_) m3_ rfl rfl (take_ofW HT_.out HW_.out s2_) (fun _ _ _ h => h) (Or.inl ⟨by rfl, ?_⟩) hHeld ?_ ?_
 rotate_left
 {
 rintro w' ⟨s0, s1, s2, s3, s4, s5, s6⟩
 go_simp
 with_reducible rfl}
 rotate_left
 · exact p1_
 refine pu_ 3 8 m4_ (any_of HT_.out s2_) ?_
 refine pu_ 4 9 m5_ (any_of HT_.out s2_) ?_
 refine take_ (i := 5) (N := some 10) (v := ?_) (a' := ?_) m6_ rfl rfl (take_ofW HT_.out HW_.out s2_) (fun _ _ _ h => h) (Or.inl ⟨by rfl, ?_⟩) hHeld ?_ ?_
 rotate_left
 {
 rintro w' ⟨s0, s1, s2, s3, s4, s5, s6⟩
 go_simp
 with_reducible rfl}
 rotate_left
 · exact p1_
 refine pu_ 6 11 m7_ (any_of HT_.out s2_) ?_
 refine pu_ 7 12 m8_ (any_of HT_.out s2_) ?_
 refine pu_ 9 14 #[T,T,T,T,T,T,T,T,F,T,F,F,F,F,F] (any_of HT_.out s2_) ?_
 refine take_ (i := 8) (N := some 13) (v := ?_) (a' := ?_) m9_ rfl rfl (take_ofW HT_.out HW_.out s2_) (fun _ _ _ h => h) (Or.inl ⟨by rfl, ?_⟩) hHeld ?_ ?_
 rotate_left
 {
 rintro w' ⟨s0, s1, s2, s3, s4, s5, s6⟩
 go_simp
 with_reducible rfl}
 rotate_left
 · exact p1_
 refine take_ (i := 10) (N := some 15) (v := ?_) (a' := ?_) m10_ rfl rfl (take_ofW HT_.out HW_.out s2_) (fun _ _ _ h => h) (Or.inl ⟨by rfl, ?_⟩) hHeld ?_ ?_
 rotate_left
 {
 rintro w' ⟨s0, s1, s2, s3, s4, s5, s6⟩
 go_simp
 with_reducible rfl}
 rotate_left
 · exact p1_
 refine one_ (i := 11) (N := some 16) m11_ rfl rfl (one_of HT_.out s2_) (by decide) (fun K hK => ?_)
 refine goes_ Try.func49 s2_ rfl #[.slice A2_0 l2_0.length c2_0, .int .i64 a0_0] (by rfl) rfl rfl (by (try simp only [List.map_toArray, List.map_cons, List.map_nil]); first | done | rfl | (simp only [List.length_drop, List.length_take]; rfl)) ?_
 with_reducible refine (impl_until_n49.calls k _ _ l2_0 a0_0 t249 _ ?side1 ?side2 A7.out).mono ?_
 (case side1 => repeat (first | exact (Kd.C_below HR2_0.out HB.out) | (with_reducible refine Kd.C_alloc ?_ _) | (with_reducible refine Kd.C_drewN ?_ _) | (with_reducible refine Kd.C_drew ?_)))
 (case side2 => exact HC2_0.out)
 rintro e w10 ⟨rfl, hb⟩
 refine ⟨_, rfl, ?_⟩
 replace BK1 := b3_ BK1 hb
 replace BK2 := b3_ BK2 hb
 replace BK66 := b3_ BK66 hb
 replace BK248 := b3_ BK248 hb
 replace HB := A_ (below_step (y1_ HB.out) hb)
 (try clear hb)
 (try clear hb2)
 (try clear hk)
 (try clear hi)
 refine hK.out _ _ ⟨(blk_cell BK248.out 0).trans rfl, (blk_cell BK248.out 1).trans rfl, (blk_cell BK1.out 0).trans rfl, (blk_cell BK2.out 0).trans rfl, (blk_cell BK2.out 1).trans rfl, (blk_cell BK2.out 2).trans rfl, (blk_cell BK66.out 0).trans rfl⟩ (fun hHeld => ?_)
 clear hK K
 refine norm_ (a' := ?_) ?_ ?_
 rotate_left
 {
 show Act.put _ (some 16) _ = _
 simp only [Act.put, List.setIfInBounds_toArray, List.set_cons_zero, List.set_cons_succ, i64_w, i32_w]
 rfl}
 refine pu_ 12 17 m12_ (any_of HT_.out s2_) ?_
 refine pu_ 13 18 m13_ (any_of HT_.out s2_) ?_
 refine pu_ 14 4 m14_ (any_of HT_.out s2_) ?_
 refine done_ (done_of HT_.out s2_) ?_
 try go_wp2
 go_ret
 exact ⟨e1_, y1_ HB.out⟩}

/-! ### impl_Lease_v6: function 118 -/
abbrev impl_Lease_v6.T : Bool := true
abbrev impl_Lease_v6.F : Bool := false
def impl_Lease_v6.l0 : Nat → List (S63) → Int → Int → Int → List (S63) → List (S63) → List (S73) → Option (Int)
  | 0, _, _, _, _, _, _, _ => none
  | k + 1, x0, x7, x8, x65000, x66000, x66001, x66002 => if x8 < x7 then (if 0 ≤ x8 then (if x8 < (x0.length : Int) then ((impl_SweepPresence_1_2_v7.f k ((rd_T63 x0 x8).f0) ((rd_T63 x0 x8).f1) x65000 x66000 x66001 x66002).bind fun t251 => (if t251 = true then (some x8) else (impl_Lease_v6.l0 k x0 x7 (wrap64 (x8 + 1)) x65000 x66000 x66001 x66002))) else (none)) else (none)) else (some (-1))
def impl_Lease_v6.f (k : Nat) (l0 : List (S63)) (a1_0 : Int) (l1_1 : List (S63)) (l1_2 : List (S63)) (l1_3 : List (S73)) : Option (Int) := impl_Lease_v6.l0 k l0 (l0.length : Int) 0 a1_0 l1_1 l1_2 l1_3
theorem impl_Lease_v6.mono_l : ∀ k, (∀ y0 y1 y2 y3 y4 y5 y6, LeO (impl_Lease_v6.l0 k y0 y1 y2 y3 y4 y5 y6) (impl_Lease_v6.l0 (k + 1) y0 y1 y2 y3 y4 y5 y6))
  | 0 => fun _ _ _ _ _ _ _ r h => by simp [impl_Lease_v6.l0] at h
  | k + 1 => by
    have ih0 := impl_Lease_v6.mono_l k
    · intro y0 y1 y2 y3 y4 y5 y6
      unfold impl_Lease_v6.l0
      repeat' first
      | (with_reducible exact ih0 _ _ _ _ _ _ _)
      | (with_reducible exact impl_SweepPresence_1_2_v7.mono _ _ _ _ _ _ _)
      | (with_reducible exact LeO.refl _)
      | (with_reducible exact LeO.none _)
      | (with_reducible refine LeO.ite ?_ ?_)
      | (with_reducible refine LeO.bind ?_ (fun _ => ?_))
      | exact ih0 _ _ _ _ _ _ _
      | exact impl_SweepPresence_1_2_v7.mono _ _ _ _ _ _ _
      | exact LeO.none _
      | refine LeO.ite ?_ ?_
      | refine LeO.bind ?_ (fun _ => ?_)
theorem impl_Lease_v6.mono : ∀ a0 a1 a2 a3 a4 k, LeO (impl_Lease_v6.f k a0 a1 a2 a3 a4) (impl_Lease_v6.f (k + 1) a0 a1 a2 a3 a4) := by
  intro a0 a1 a2 a3 a4 k
  have ih0 := impl_Lease_v6.mono_l k
  unfold impl_Lease_v6.f
  repeat' first
      | (with_reducible exact ih0 _ _ _ _ _ _ _)
      | (with_reducible exact impl_SweepPresence_1_2_v7.mono _ _ _ _ _ _ _)
      | (with_reducible exact LeO.refl _)
      | (with_reducible exact LeO.none _)
      | (with_reducible refine LeO.ite ?_ ?_)
      | (with_reducible refine LeO.bind ?_ (fun _ => ?_))
      | exact ih0 _ _ _ _ _ _ _
      | exact impl_SweepPresence_1_2_v7.mono _ _ _ _ _ _ _
      | exact LeO.none _
      | refine LeO.ite ?_ ?_
      | refine LeO.bind ?_ (fun _ => ?_)
set_option maxHeartbeats 8000000 in
set_option maxRecDepth 100000 in
theorem impl_Lease_v6.calls (k : Nat) (A0 : Option Addr) (c0 : Nat) (l0 : List (S63)) (g1_0_ : Nat) (g1_1_ : Nat) (q1_1_ : Nat) (a1_0 : Int) (A1_1 : Option Addr) (c1_1 : Nat) (l1_1 : List (S63)) (V1_2 : Value) (l1_2 : List (S63)) (V1_3 : Value) (l1_3 : List (S73)) (r : Int) (w : World) (hbk1_0 : w.heap[g1_0_]? = some (.cells #[.int .i64 a1_0] 2 (0, 0))) (hbk1_1 : w.heap[g1_1_]? = some (.cells #[.slice A1_1 l1_1.length c1_1, V1_2, V1_3] 27 (0, 0))) (hbq : w.heap[q1_1_]? = some (.cells #[.pointer (some ⟨g1_1_, 0, none⟩)] 60 (0, 0))) (hr0 : Kd.C k63 w A0 l0.length l0) (hc0 : l0.length ≤ c0) (hr1_1 : Kd.C k63 w A1_1 l1_1.length l1_1) (hc1_1 : l1_1.length ≤ c1_1) (h : impl_Lease_v6.f k l0 a1_0 l1_1 l1_2 l1_3 = some r) :
    Calls Try.prog 118 #[.slice A0 l0.length c0, .func (.func 74) #[] #[.pointer (some ⟨g1_0_, 0, none⟩), .pointer (some ⟨q1_1_, 0, none⟩)]] w fun e w' => e = .returned (.int .i64 r) ∧ Below w.heap.size w w' := by
 have hu63 := Try.underlying63
 have HR0 := A_ hr0
 have HC0 := A_ hc0
 clear hr0 hc0
 have HR1_1 := A_ hr1_1
 have HC1_1 := A_ hc1_1
 clear hr1_1 hc1_1
 have BK64 := A_ hbk1_0
 clear hbk1_0
 have BK65 := A_ hbk1_1
 have BK66 := A_ hbq
 clear hbk1_1
 clear hbq
 have HB := A_ (Below.refl w.heap.size w)
 have H : (impl_Lease_v6.l0 k l0 (l0.length : Int) 0 a1_0 l1_1 l1_2 l1_3) = some r := h
 clear h
 have H' := A_ H
 clear H
 go_enter Try.func118, Try.ntmps118
 go_wp2
 go_loopg [8] k (fun kq v8 w' => ∃ (x8_1 : Int), v8 = .int .i64 x8_1 ∧ Aside0 (impl_Lease_v6.l0 kq l0 (l0.length : Int) x8_1 a1_0 l1_1 l1_2 l1_3 = some r) ∧ Aside0 (kq ≤ k) ∧ Aside0 (w'.heap[g1_0_]? = some (.cells #[.int .i64 a1_0] 2 (0, 0))) ∧ Aside0 (w'.heap[g1_1_]? = some (.cells #[(.slice A1_1 l1_1.length c1_1), (V1_2), (V1_3)] 27 (0, 0))) ∧ Aside0 (w'.heap[q1_1_]? = some (.cells #[.pointer (some ⟨g1_1_, 0, none⟩)] 60 (0, 0))) ∧ Aside0 (Below w.heap.size w w'))
 case atStart => exact ⟨(0), (by first | rfl | (simp; done) | (simp [*]; done)), H', ⟨Nat.le_refl _⟩, ⟨b1_ BK64.out⟩, ⟨b1_ BK65.out⟩, ⟨b1_ BK66.out⟩, ⟨y1_ HB.out⟩⟩
 case round =>
  skip
  {
 clear H'
 try clear c1
 try clear p2
 obtain ⟨x8_1, rfl, HA, HK1, BK64, BK65, BK66, HB⟩ := hrel
 cases gk with
 | zero => exact absurd HA.out (by simp [impl_Lease_v6.l0])
 | succ k1 =>
  skip
  {
 have H := HA.out
 clear HA
 simp only [impl_Lease_v6.l0] at H
 by_cases c3 : x8_1 < (l0.length : Int)
 {
 rw [if_pos c3] at H
 have c3b0 : decide (x8_1 < (l0.length : Int)) = true := decide_eq_true c3
 clear c3
 by_cases c4 : 0 ≤ x8_1
 {
 rw [if_pos c4] at H
 have c4b0 : decide (0 ≤ x8_1) = true := decide_eq_true c4
 clear c4
 by_cases c5 : x8_1 < (l0.length : Int)
 {
 rw [if_pos c5] at H
 have c5b0 : decide (x8_1 < (l0.length : Int)) = true := decide_eq_true c5
 clear c5
 replace H := Option.bind_eq_some_iff.mp H
 obtain ⟨t251, A60, H⟩ := H
 replace H : (if t251 = true then (some x8_1) else (impl_Lease_v6.l0 k1 l0 (l0.length : Int) (wrap64 (x8_1 + 1)) a1_0 l1_1 l1_2 l1_3)) = some r := H
 have A6 := A_ A60
 clear A60
 by_cases c7 : t251 = true
 {
 subst c7
 have H1 : (some x8_1) = some r := by rw [if_pos rfl] at H; exact H
 clear H
 have H := H1
 clear H1
 obtain rfl := Option.some.inj H
 have p250 : 0 ≤ (x8_1 : Int) := o1_
 have q250 : x8_1 < (l0.length : Int) := o1_
 obtain ⟨ad250, e250, hx250_0, hx250_1⟩ := at_T63 HR0.out x8_1 p250 q250
 cases e250
 replace hx250_0 := (HB.out.cell (World.block_lt_of_cell? w _ hx250_0)).trans hx250_0
 replace hx250_1 := (HB.out.cell (World.block_lt_of_cell? w _ hx250_1)).trans hx250_1
 replace p250 := eq_true p250
 replace q250 := eq_true q250
 go_wp2_with (first | (go_at_call 74; (with_reducible refine (impl_SweepPresence_1_2_v7.calls k1 ((rd_T63 l0 x8_1).f0) ((rd_T63 l0 x8_1).f1) g1_0_ a1_0 g1_1_ q1_1_ A1_1 c1_1 l1_1 V1_2 l1_2 V1_3 l1_3 true _ ?side1 ?side2 ?sideq ?side3 ?side4 A6.out).mono ?_); (case side1 => exact (b1_ BK64.out)); (case side2 => exact (b1_ BK65.out)); (case sideq => exact (b1_ BK66.out)); (case side3 => exact y2_ (Kd.C_below HR1_1.out HB.out)); (case side4 => exact HC1_1.out); rintro e w8 ⟨rfl, hb⟩; replace BK64 := b3_ BK64 hb; replace BK65 := b3_ BK65 hb; replace BK66 := b3_ BK66 hb; replace HB := A_ (below_step (y1_ HB.out) hb); (try clear hb); (try clear hb2); (try clear hk); (try clear hi)))
 go_ret
 exact ⟨e1_, y1_ HB.out⟩}
 {
 replace c7 := Bool.eq_false_iff.mpr c7
 subst c7
 have H1 : (impl_Lease_v6.l0 k1 l0 (l0.length : Int) (wrap64 (x8_1 + 1)) a1_0 l1_1 l1_2 l1_3) = some r := by rw [if_neg (show ¬ (false = true) by decide)] at H; exact H
 clear H
 have H := H1
 clear H1
 have H' := A_ H
 clear H
 have p250 : 0 ≤ (x8_1 : Int) := o1_
 have q250 : x8_1 < (l0.length : Int) := o1_
 obtain ⟨ad250, e250, hx250_0, hx250_1⟩ := at_T63 HR0.out x8_1 p250 q250
 cases e250
 replace hx250_0 := (HB.out.cell (World.block_lt_of_cell? w _ hx250_0)).trans hx250_0
 replace hx250_1 := (HB.out.cell (World.block_lt_of_cell? w _ hx250_1)).trans hx250_1
 replace p250 := eq_true p250
 replace q250 := eq_true q250
 go_wp2_with (first | (go_at_call 74; (with_reducible refine (impl_SweepPresence_1_2_v7.calls k1 ((rd_T63 l0 x8_1).f0) ((rd_T63 l0 x8_1).f1) g1_0_ a1_0 g1_1_ q1_1_ A1_1 c1_1 l1_1 V1_2 l1_2 V1_3 l1_3 false _ ?side1 ?side2 ?sideq ?side3 ?side4 A6.out).mono ?_); (case side1 => exact (b1_ BK64.out)); (case side2 => exact (b1_ BK65.out)); (case sideq => exact (b1_ BK66.out)); (case side3 => exact y2_ (Kd.C_below HR1_1.out HB.out)); (case side4 => exact HC1_1.out); rintro e w9 ⟨rfl, hb⟩; replace BK64 := b3_ BK64 hb; replace BK65 := b3_ BK65 hb; replace BK66 := b3_ BK66 hb; replace HB := A_ (below_step (y1_ HB.out) hb); (try clear hb); (try clear hb2); (try clear hk); (try clear hi)))
 go_roundg k1
 case measure => have := HK1.out; omega
 case rel => exact ⟨(wrap64 (x8_1 + 1)), (by first | rfl | (simp; done) | (simp [*]; done)), H', ⟨by have := HK1.out; omega⟩, ⟨b1_ BK64.out⟩, ⟨b1_ BK65.out⟩, ⟨b1_ BK66.out⟩, ⟨y1_ HB.out⟩⟩}}
 {
 rw [if_neg c5] at H
 exact absurd H (by simp)}}
 {
 rw [if_neg c4] at H
 exact absurd H (by simp)}}
 {
 rw [if_neg c3] at H
 have c3b0 : decide (x8_1 < (l0.length : Int)) = false := decide_eq_false c3
 clear c3
 obtain rfl := Option.some.inj H
 go_wp2
 go_ret
 exact ⟨e1_, y1_ HB.out⟩}}}

/-! ### impl_Lease_v5: function 96 -/
abbrev impl_Lease_v5.T : Bool := true
abbrev impl_Lease_v5.F : Bool := false
def impl_Lease_v5.l0 : Nat → List (S63) → Int → Int → Int → List (S63) → List (S63) → List (S73) → Option ((List (S63)))
  | 0, _, _, _, _, _, _, _ => none
  | k + 1, x0, x5, x6, x65000, x66000, x66001, x66002 => if x6 < (x0.length : Int) then (if 0 ≤ x6 then ((impl_SweepPresence_1_2_v7.f k ((rd_T63 x0 x6).f0) ((rd_T63 x0 x6).f1) x65000 x66000 x66001 x66002).bind fun t240 => (if t240 = true then (impl_Lease_v5.l0 k x0 x5 (wrap64 (x6 + 1)) x65000 x66000 x66001 x66002) else (if 0 ≤ x5 then (if x5 < (x0.length : Int) then (impl_Lease_v5.l0 k (x0.set (x5 : Int).toNat (⟨(rd_T63 x0 x6).f0, (rd_T63 x0 x6).f1⟩ : S63)) (wrap64 (x5 + 1)) (wrap64 (x6 + 1)) x65000 x66000 x66001 x66002) else (none)) else (none)))) else (none)) else (if 0 ≤ x5 then (if x5 ≤ (x0.length : Int) then (some ((x0.take (x5 : Int).toNat ++ List.replicate (x0.length - (x5 : Int).toNat) z63).take (x5 : Int).toNat)) else (none)) else (none))
def impl_Lease_v5.f (k : Nat) (l0 : List (S63)) (a1_0 : Int) (l1_1 : List (S63)) (l1_2 : List (S63)) (l1_3 : List (S73)) : Option ((List (S63))) := (impl_Lease_v6.f k l0 a1_0 l1_1 l1_2 l1_3).bind fun t237 => (if t237 = (-1) then (some l0) else (impl_Lease_v5.l0 k l0 t237 (wrap64 (t237 + 1)) a1_0 l1_1 l1_2 l1_3))
theorem impl_Lease_v5.mono_l : ∀ k, (∀ y0 y1 y2 y3 y4 y5 y6, LeO (impl_Lease_v5.l0 k y0 y1 y2 y3 y4 y5 y6) (impl_Lease_v5.l0 (k + 1) y0 y1 y2 y3 y4 y5 y6))
  | 0 => fun _ _ _ _ _ _ _ r h => by simp [impl_Lease_v5.l0] at h
  | k + 1 => by
    have ih0 := impl_Lease_v5.mono_l k
    · intro y0 y1 y2 y3 y4 y5 y6
      unfold impl_Lease_v5.l0
      repeat' first
      | (with_reducible exact ih0 _ _ _ _ _ _ _)
      | (with_reducible exact impl_Lease_v6.mono _ _ _ _ _ _)
      | (with_reducible exact impl_SweepPresence_1_2_v7.mono _ _ _ _ _ _ _)
      | (with_reducible exact LeO.refl _)
      | (with_reducible exact LeO.none _)
      | (with_reducible refine LeO.ite ?_ ?_)
      | (with_reducible refine LeO.bind ?_ (fun _ => ?_))
      | exact ih0 _ _ _ _ _ _ _
      | exact impl_Lease_v6.mono _ _ _ _ _ _
      | exact impl_SweepPresence_1_2_v7.mono _ _ _ _ _ _ _
      | exact LeO.none _
      | refine LeO.ite ?_ ?_
      | refine LeO.bind ?_ (fun _ => ?_)
theorem impl_Lease_v5.mono : ∀ a0 a1 a2 a3 a4 k, LeO (impl_Lease_v5.f k a0 a1 a2 a3 a4) (impl_Lease_v5.f (k + 1) a0 a1 a2 a3 a4) := by
  intro a0 a1 a2 a3 a4 k
  have ih0 := impl_Lease_v5.mono_l k
  unfold impl_Lease_v5.f
  repeat' first
      | (with_reducible exact ih0 _ _ _ _ _ _ _)
      | (with_reducible exact impl_Lease_v6.mono _ _ _ _ _ _)
      | (with_reducible exact impl_SweepPresence_1_2_v7.mono _ _ _ _ _ _ _)
      | (with_reducible exact LeO.refl _)
      | (with_reducible exact LeO.none _)
      | (with_reducible refine LeO.ite ?_ ?_)
      | (with_reducible refine LeO.bind ?_ (fun _ => ?_))
      | exact ih0 _ _ _ _ _ _ _
      | exact impl_Lease_v6.mono _ _ _ _ _ _
      | exact impl_SweepPresence_1_2_v7.mono _ _ _ _ _ _ _
      | exact LeO.none _
      | refine LeO.ite ?_ ?_
      | refine LeO.bind ?_ (fun _ => ?_)
set_option maxHeartbeats 8000000 in
set_option maxRecDepth 100000 in
theorem impl_Lease_v5.calls (k : Nat) (P0_ : Nat → Prop) (u9000_ : Value) (l0 : List (S63)) (g1_0_ : Nat) (g1_1_ : Nat) (q1_1_ : Nat) (a1_0 : Int) (A1_1 : Option Addr) (c1_1 : Nat) (l1_1 : List (S63)) (V1_2 : Value) (l1_2 : List (S63)) (V1_3 : Value) (l1_3 : List (S73)) (r : List (S63)) (w0 w : World) (hB : Below w0.heap.size w0 w) (hbk1_0 : w.heap[g1_0_]? = some (.cells #[.int .i64 a1_0] 2 (0, 0))) (hbk1_1 : w.heap[g1_1_]? = some (.cells #[.slice A1_1 l1_1.length c1_1, V1_2, V1_3] 27 (0, 0))) (hbq : w.heap[q1_1_]? = some (.cells #[.pointer (some ⟨g1_1_, 0, none⟩)] 60 (0, 0))) (ho0 : Kd.R k63 63 w w0.heap.size P0_ u9000_ l0) (hr1_1 : ∀ W_, Kept w W_ (fun k_ => P0_ k_) → Kd.C k63 W_ A1_1 l1_1.length l1_1) (hc1_1 : l1_1.length ≤ c1_1) (h : impl_Lease_v5.f k l0 a1_0 l1_1 l1_2 l1_3 = some r) :
    Calls Try.prog 96 #[u9000_, .func (.func 74) #[] #[.pointer (some ⟨g1_0_, 0, none⟩), .pointer (some ⟨q1_1_, 0, none⟩)]] w fun e w' => ∃ v0_ : Value, e = .returned (v0_) ∧ Kd.R k63 63 w' w0.heap.size (fun k_ => (P0_ k_ ∨ w.heap.size ≤ k_)) v0_ r ∧ Below w0.heap.size w0 w' ∧ Kept w w' (fun k_ => P0_ k_) := by
 have hu63 := Try.underlying63
 have HO0 := A_ (show Kd.R k63 63 w w0.heap.size (fun k_ => (P0_ k_ ∨ w.heap.size ≤ k_)) u9000_ l0 from Kd.R_mono ho0 (fun k_ hk => (.inl hk)))
 have HR1_1 := A_ hr1_1
 have HC1_1 := A_ hc1_1
 clear hr1_1 hc1_1
 have BK64 := A_ hbk1_0
 clear hbk1_0
 have BK65 := A_ hbk1_1
 have BK66 := A_ hbq
 clear hbk1_1
 clear hbq
 have HK := A_ (Kept.refl w (fun k_ => P0_ k_))
 have HW0 := A_ hB.size
 have HB := A_ hB
 clear hB
 have H : ((impl_Lease_v6.f k l0 a1_0 l1_1 l1_2 l1_3).bind fun t237 => (if t237 = (-1) then (some l0) else (impl_Lease_v5.l0 k l0 t237 (wrap64 (t237 + 1)) a1_0 l1_1 l1_2 l1_3))) = some r := h
 clear h
 replace H := Option.bind_eq_some_iff.mp H
 obtain ⟨t237, A30, H⟩ := H
 replace H : (if t237 = (-1) then (some l0) else (impl_Lease_v5.l0 k l0 t237 (wrap64 (t237 + 1)) a1_0 l1_1 l1_2 l1_3)) = some r := H
 have A3 := A_ A30
 clear A30
 by_cases c4 : t237 = (-1)
 {
 rw [if_pos c4] at H
 have c4b0 : (t237 == (-1)) = true := beq_iff_eq.mpr c4
 have c4b1 : (t237 != (-1)) = false := bne_eq_false_iff_eq.mpr c4
 clear c4
 obtain rfl := Option.some.inj H
 obtain ⟨Ao5, co5, eo5⟩ := Kd.R_slice HO0.out
 subst eo5
 go_enter Try.func96, Try.ntmps96
 go_wp2_with (first | ((with_reducible refine gate_callee (f := 118) rfl ?_); refine goesL_ (some 10) rfl rfl Try.func118 (by kernel_rfl) rfl #[.slice Ao5 l0.length co5, .func (.func 74) #[] #[.pointer (some ⟨g1_0_, 0, none⟩), .pointer (some ⟨q1_1_, 0, none⟩)]] rfl (by (try simp only [List.map_toArray, List.map_cons, List.map_nil]); first | done | rfl | (simp only [List.length_drop, List.length_take]; rfl)) ?_; (with_reducible refine (impl_Lease_v6.calls k _ _ l0 g1_0_ g1_1_ q1_1_ a1_0 A1_1 c1_1 l1_1 V1_2 l1_2 V1_3 l1_3 t237 _ ?side1 ?side2 ?sideq ?side3 ?side4 ?side5 ?side6 A3.out).mono ?_); (case side1 => exact (b1_ BK64.out)); (case side2 => exact (b1_ BK65.out)); (case sideq => exact (b1_ BK66.out)); (case side3 => repeat (first | exact (Kd.R_reads' HO0.out).2.2 | (with_reducible refine Kd.C_alloc ?_ _) | (with_reducible refine Kd.C_drewN ?_ _) | (with_reducible refine Kd.C_drew ?_))); (case side4 => exact (Kd.R_reads' HO0.out).2.1); (case side5 => exact HR1_1.out _ (by repeat (first | (with_reducible first | exact HK.out | apply Kept.alloc | apply Kept.drewN | apply Kept.drew) | exact HK.out))); (case side6 => exact HC1_1.out); rintro e w6 ⟨rfl, hb⟩; refine ⟨_, rfl, ?_⟩; replace HO0 := A_ (Kd.R_below (b2_ HO0.out) hb); replace BK64 := b3_ BK64 hb; replace BK65 := b3_ BK65 hb; replace BK66 := b3_ BK66 hb; replace HK := A_ (Kept.below (S := (fun k_ => P0_ k_)) (by repeat (first | (with_reducible first | exact HK.out | apply Kept.alloc | apply Kept.drewN | apply Kept.drew) | exact HK.out)) hb); replace HB := A_ (below_step (y1_ HB.out) hb); (try clear hb); (try clear hb2); (try clear hk); (try clear hi)))
 go_ret
 exact ⟨_, e1_, b2_ HO0.out, y1_ HB.out, by repeat (first | (with_reducible first | exact HK.out | apply Kept.alloc | apply Kept.drewN | apply Kept.drew) | exact HK.out)⟩}
 {
 rw [if_neg c4] at H
 have c4b0 : (t237 == (-1)) = false := beq_eq_false_iff_ne.mpr c4
 have c4b1 : (t237 != (-1)) = true := bne_iff_ne.mpr c4
 have H' := A_ H
 clear H
 obtain ⟨Ao7, co7, eo7⟩ := Kd.R_slice HO0.out
 subst eo7
 go_enter Try.func96, Try.ntmps96
 go_wp2_with (first | ((with_reducible refine gate_callee (f := 118) rfl ?_); refine goesL_ (some 10) rfl rfl Try.func118 (by kernel_rfl) rfl #[.slice Ao7 l0.length co7, .func (.func 74) #[] #[.pointer (some ⟨g1_0_, 0, none⟩), .pointer (some ⟨q1_1_, 0, none⟩)]] rfl (by (try simp only [List.map_toArray, List.map_cons, List.map_nil]); first | done | rfl | (simp only [List.length_drop, List.length_take]; rfl)) ?_; (with_reducible refine (impl_Lease_v6.calls k _ _ l0 g1_0_ g1_1_ q1_1_ a1_0 A1_1 c1_1 l1_1 V1_2 l1_2 V1_3 l1_3 t237 _ ?side1 ?side2 ?sideq ?side3 ?side4 ?side5 ?side6 A3.out).mono ?_); (case side1 => exact (b1_ BK64.out)); (case side2 => exact (b1_ BK65.out)); (case sideq => exact (b1_ BK66.out)); (case side3 => repeat (first | exact (Kd.R_reads' HO0.out).2.2 | (with_reducible refine Kd.C_alloc ?_ _) | (with_reducible refine Kd.C_drewN ?_ _) | (with_reducible refine Kd.C_drew ?_))); (case side4 => exact (Kd.R_reads' HO0.out).2.1); (case side5 => exact HR1_1.out _ (by repeat (first | (with_reducible first | exact HK.out | apply Kept.alloc | apply Kept.drewN | apply Kept.drew) | exact HK.out))); (case side6 => exact HC1_1.out); rintro e w8 ⟨rfl, hb⟩; refine ⟨_, rfl, ?_⟩; replace HO0 := A_ (Kd.R_below (b2_ HO0.out) hb); replace BK64 := b3_ BK64 hb; replace BK65 := b3_ BK65 hb; replace BK66 := b3_ BK66 hb; replace HK := A_ (Kept.below (S := (fun k_ => P0_ k_)) (by repeat (first | (with_reducible first | exact HK.out | apply Kept.alloc | apply Kept.drewN | apply Kept.drew) | exact HK.out)) hb); replace HB := A_ (below_step (y1_ HB.out) hb); (try clear hb); (try clear hb2); (try clear hk); (try clear hi)))
 go_loopg [5, 6] k (fun kq v5 v6 w' => ∃ (x0_1 : List (S63)) (x5_1 : Int) (x6_1 : Int), v5 = .int .i64 x5_1 ∧ v6 = .int .i64 x6_1 ∧ Aside0 (impl_Lease_v5.l0 kq x0_1 x5_1 x6_1 a1_0 l1_1 l1_2 l1_3 = some r) ∧ Aside0 (kq ≤ k) ∧ Aside0 (Kd.R k63 63 w' w0.heap.size (fun k_ => (P0_ k_ ∨ w.heap.size ≤ k_)) (.slice Ao7 l0.length co7) x0_1) ∧ Aside0 (w'.heap[g1_0_]? = some (.cells #[.int .i64 a1_0] 2 (0, 0))) ∧ Aside0 (w'.heap[g1_1_]? = some (.cells #[(.slice A1_1 l1_1.length c1_1), (V1_2), (V1_3)] 27 (0, 0))) ∧ Aside0 (w'.heap[q1_1_]? = some (.cells #[.pointer (some ⟨g1_1_, 0, none⟩)] 60 (0, 0))) ∧ Aside0 (Kept w w' (fun k_ => P0_ k_)) ∧ Aside0 (Below w0.heap.size w0 w'))
 case atStart => exact ⟨(l0), (t237), (wrap64 (t237 + 1)), s1_, s1_, H', ⟨Nat.le_refl _⟩, ⟨b2_ HO0.out⟩, ⟨b1_ BK64.out⟩, ⟨b1_ BK65.out⟩, ⟨b1_ BK66.out⟩, ⟨by repeat (first | (with_reducible first | exact HK.out | apply Kept.alloc | apply Kept.drewN | apply Kept.drew) | exact HK.out)⟩, ⟨y1_ HB.out⟩⟩
 case round =>
  skip
  {
 clear H'
 try clear c1
 try clear p2
 try clear c4
 try clear c4b0
 try clear c4b1
 try clear p6
 try clear c7
 obtain ⟨x0_1, x5_1, x6_1, rfl, rfl, HA, HK1, HO_0, BK64, BK65, BK66, HK, HB⟩ := hrel
 have hl0_1 := (Kd.R_reads' HO_0.out).1
 rw [hl0_1] at HO_0
 (try simp only [hl0_1])
 (try simp only [hl0_1] at BK64)
 (try simp only [hl0_1] at BK65)
 (try simp only [hl0_1] at BK66)
 cases gk with
 | zero => exact absurd HA.out (by simp [impl_Lease_v5.l0])
 | succ k1 =>
  skip
  {
 have H := HA.out
 clear HA
 simp only [impl_Lease_v5.l0] at H
 by_cases c9 : x6_1 < (x0_1.length : Int)
 {
 rw [if_pos c9] at H
 have c9b0 : decide (x6_1 < (x0_1.length : Int)) = true := decide_eq_true c9
 clear c9
 by_cases c10 : 0 ≤ x6_1
 {
 rw [if_pos c10] at H
 have c10b0 : decide (0 ≤ x6_1) = true := decide_eq_true c10
 clear c10
 replace H := Option.bind_eq_some_iff.mp H
 obtain ⟨t240, A110, H⟩ := H
 replace H : (if t240 = true then (impl_Lease_v5.l0 k1 x0_1 x5_1 (wrap64 (x6_1 + 1)) a1_0 l1_1 l1_2 l1_3) else (if 0 ≤ x5_1 then (if x5_1 < (x0_1.length : Int) then (impl_Lease_v5.l0 k1 (x0_1.set (x5_1 : Int).toNat (⟨(rd_T63 x0_1 x6_1).f0, (rd_T63 x0_1 x6_1).f1⟩ : S63)) (wrap64 (x5_1 + 1)) (wrap64 (x6_1 + 1)) a1_0 l1_1 l1_2 l1_3) else (none)) else (none))) = some r := H
 have A11 := A_ A110
 clear A110
 by_cases c12 : t240 = true
 {
 subst c12
 have H1 : (impl_Lease_v5.l0 k1 x0_1 x5_1 (wrap64 (x6_1 + 1)) a1_0 l1_1 l1_2 l1_3) = some r := by rw [if_pos rfl] at H; exact H
 clear H
 have H := H1
 clear H1
 have H' := A_ H
 clear H
 have p238 : 0 ≤ (x6_1 : Int) := o1_
 have q238 : x6_1 < (x0_1.length : Int) := o1_
 obtain ⟨ad238, e238, hx238_0, hx238_1⟩ := at_T63 (Kd.R_reads' HO_0.out).2.2 x6_1 p238 q238
 cases e238
 replace p238 := eq_true p238
 replace q238 := eq_true q238
 go_wp2_with (first | ((with_reducible refine gate_dst (N := 7) rfl ?_); refine box_event ?hg (N := 7) ?hd (cs := #[.int .i64 0, .int .i64 0]) (t := 63) ?hr ?_; (case hd => rfl); (case hg => rfl); (case hr => first | (go_simp; done) | (go_simp; rfl)); intro gb239 hg w13 hbox hb; have GW239 := A_ ((by rw [hg]; exact (by first | exact HK.out.1 | exact (show Kept w _ (fun k_ => P0_ k_) from by repeat (first | (with_reducible first | exact HK.out | apply Kept.alloc | apply Kept.drewN | apply Kept.drew) | exact HK.out)).1) : w.heap.size ≤ gb239)); have GE239 := A_ ((by rw [hg]; exact (below_size (y1_ HB.out)) : w0.heap.size ≤ gb239)); have NB64_239 := b4_ hg BK64; have NB239_64 := b5_ hg BK64; have NB65_239 := b4_ hg BK65; have NB66_239 := b4_ hg BK66; have NB239_65 := b5_ hg BK65; have NB239_66 := b5_ hg BK66; replace HO_0 := A_ (Kd.R_below (Kd.R_elderB (b2_ HO_0.out) gb239 (Nat.le_of_eq hg.symm)) hb); replace BK64 := b3_ BK64 hb; replace BK65 := b3_ BK65 hb; replace BK66 := b3_ BK66 hb; replace HK := A_ (Kept.below (S := (fun k_ => P0_ k_)) (by repeat (first | (with_reducible first | exact HK.out | apply Kept.alloc | apply Kept.drewN | apply Kept.drew) | exact HK.out)) hb); replace HB := A_ (below_step (y1_ HB.out) hb); have BK239 := A_ (hbox); clear hb hbox hg; have hnb14 := NB239_64.out; have hnc14 := NB64_239.out; have hnb15 := NB239_65.out; have hnb15q := NB239_66.out; have hnc15 := NB65_239.out; have hnc15q := NB66_239.out; have hcz16_0 := c1_ BK239 0 (.int .i64 0); have hcz16_1 := c1_ BK239 1 (.int .i64 0); have hfz16_0 := f1_ BK239 0; have hfz16_1 := f1_ BK239 1) | (go_at_call 74; (with_reducible refine (impl_SweepPresence_1_2_v7.calls k1 ((rd_T63 x0_1 x6_1).f0) ((rd_T63 x0_1 x6_1).f1) g1_0_ a1_0 g1_1_ q1_1_ A1_1 c1_1 l1_1 V1_2 l1_2 V1_3 l1_3 true _ ?side1 ?side2 ?sideq ?side3 ?side4 A11.out).mono ?_); (case side1 => exact (by refine b1_ ?_; refine blk_far ?_ NB64_239.out _; refine b1_ ?_; refine blk_far ?_ NB64_239.out _; refine b1_ ?_; exact BK64.out)); (case side2 => exact (by refine b1_ ?_; refine blk_far ?_ NB65_239.out _; refine b1_ ?_; refine blk_far ?_ NB65_239.out _; refine b1_ ?_; exact BK65.out)); (case sideq => exact (by refine b1_ ?_; refine blk_far ?_ NB66_239.out _; refine b1_ ?_; refine blk_far ?_ NB66_239.out _; refine b1_ ?_; exact BK66.out)); (case side3 => exact HR1_1.out _ (by repeat (first | (with_reducible first | exact HK.out | apply Kept.alloc | apply Kept.drewN | apply Kept.drew | refine Kept.setCell ?_ (.inr GW239.out) _) | exact HK.out))); (case side4 => exact HC1_1.out); rintro e w17 ⟨rfl, hb⟩; replace HO_0 := A_ (Kd.R_below (by refine b2_ ?_; exact (Kd.R_mono (Kd.R_far (p := ⟨gb239, 1, none⟩) (Kd.R_far (p := ⟨gb239, 0, none⟩) (Kd.R_mono HO_0.out (fun k_ hk => (⟨hk, hk.2⟩ : _ ∧ k_ ≠ gb239))) (fun _ hk => hk.2) (.int .i64 ((rd_T63 x0_1 x6_1).f0))) (fun _ hk => hk.2) (.int .i64 ((rd_T63 x0_1 x6_1).f1))) (fun _ h_ => h_.1))) hb); replace BK64 := A_ (blk_below (g := g1_0_) (o := .cells #[.int .i64 a1_0] 2 (0, 0)) (by refine b1_ ?_; refine blk_far ?_ NB64_239.out _; refine b1_ ?_; refine blk_far ?_ NB64_239.out _; refine b1_ ?_; exact BK64.out) hb); replace BK65 := A_ (blk_below (g := g1_1_) (o := .cells #[.slice A1_1 l1_1.length c1_1, V1_2, V1_3] 27 (0, 0)) (by refine b1_ ?_; refine blk_far ?_ NB65_239.out _; refine b1_ ?_; refine blk_far ?_ NB65_239.out _; refine b1_ ?_; exact BK65.out) hb); replace BK66 := A_ (blk_below (g := q1_1_) (o := .cells #[.pointer (some ⟨g1_1_, 0, none⟩)] 60 (0, 0)) (by refine b1_ ?_; refine blk_far ?_ NB66_239.out _; refine b1_ ?_; refine blk_far ?_ NB66_239.out _; refine b1_ ?_; exact BK66.out) hb); replace BK239 := A_ (blk_below (g := gb239) (o := .cells #[.int .i64 ((rd_T63 x0_1 x6_1).f0), .int .i64 ((rd_T63 x0_1 x6_1).f1)] 63 (0, 0)) (by refine b1_ ?_; refine blk_put (cs := #[.int .i64 ((rd_T63 x0_1 x6_1).f0), .int .i64 0]) ?_ 1 _ rfl; refine b1_ ?_; refine blk_put (cs := #[.int .i64 0, .int .i64 0]) ?_ 0 _ rfl; refine b1_ ?_; exact BK239.out) hb); replace HK := A_ (Kept.below (S := (fun k_ => P0_ k_)) (by repeat (first | (with_reducible first | exact HK.out | apply Kept.alloc | apply Kept.drewN | apply Kept.drew | refine Kept.setCell ?_ (.inr GW239.out) _) | exact HK.out)) hb); replace HB := A_ (below_step (by repeat (first | (with_reducible first | exact HB.out | apply below_alloc | apply pw_below_drewN | apply below_drew1 | refine below_set ?_ GE239.out) | exact HB.out)) hb); (try clear hb); (try clear hb2); (try clear hk); (try clear hi)))
 (try simp only [← hl0_1])
 go_roundg k1
 case measure => have := HK1.out; omega
 case rel => exact ⟨(x0_1), (x5_1), (wrap64 (x6_1 + 1)), s1_, s1_, H', ⟨by have := HK1.out; omega⟩, ⟨by (try simp only [hl0_1]); refine b2_ ?_; exact Kd.R_mono HO_0.out (fun _ hk => hk.1)⟩, ⟨by (try simp only [hl0_1]); refine b1_ ?_; exact BK64.out⟩, ⟨by (try simp only [hl0_1]); refine b1_ ?_; exact BK65.out⟩, ⟨by (try simp only [hl0_1]); refine b1_ ?_; exact BK66.out⟩, ⟨by repeat (first | (with_reducible first | exact HK.out | apply Kept.alloc | apply Kept.drewN | apply Kept.drew) | exact HK.out)⟩, ⟨y1_ HB.out⟩⟩}
 {
 replace c12 := Bool.eq_false_iff.mpr c12
 subst c12
 have H1 : (if 0 ≤ x5_1 then (if x5_1 < (x0_1.length : Int) then (impl_Lease_v5.l0 k1 (x0_1.set (x5_1 : Int).toNat (⟨(rd_T63 x0_1 x6_1).f0, (rd_T63 x0_1 x6_1).f1⟩ : S63)) (wrap64 (x5_1 + 1)) (wrap64 (x6_1 + 1)) a1_0 l1_1 l1_2 l1_3) else (none)) else (none)) = some r := by rw [if_neg (show ¬ (false = true) by decide)] at H; exact H
 clear H
 have H := H1
 clear H1
 by_cases c18 : 0 ≤ x5_1
 {
 rw [if_pos c18] at H
 have c18b0 : decide (0 ≤ x5_1) = true := decide_eq_true c18
 clear c18
 by_cases c19 : x5_1 < (x0_1.length : Int)
 {
 rw [if_pos c19] at H
 have c19b0 : decide (x5_1 < (x0_1.length : Int)) = true := decide_eq_true c19
 clear c19
 obtain ⟨y241, hy241⟩ : ∃ y_ : List (S63), y_ = (x0_1.set (x5_1 : Int).toNat (⟨(rd_T63 x0_1 x6_1).f0, (rd_T63 x0_1 x6_1).f1⟩ : S63)) := ⟨_, rfl⟩
 replace H : (impl_Lease_v5.l0 k1 y241 (wrap64 (x5_1 + 1)) (wrap64 (x6_1 + 1)) a1_0 l1_1 l1_2 l1_3) = some r := by first | (rw [hy241]; with_reducible exact H) | (have H2_ := (Option.bind_some _ _).symm.trans H; rw [hy241]; with_reducible exact H2_) | (have H2_ := (Option.bind_some _ _).symm.trans H; with_reducible exact H2_) | with_reducible exact H | (rw [hy241]; exact H) | exact H
 have Ny241 := A_ hy241
 clear hy241
 have H' := A_ H
 clear H
 have p238 : 0 ≤ (x6_1 : Int) := o1_
 have q238 : x6_1 < (x0_1.length : Int) := o1_
 obtain ⟨ad238, e238, hx238_0, hx238_1⟩ := at_T63 (Kd.R_reads' HO_0.out).2.2 x6_1 p238 q238
 cases e238
 replace p238 := eq_true p238
 replace q238 := eq_true q238
 go_wp2_with (first | ((with_reducible refine gate_dst (N := 7) rfl ?_); refine box_event ?hg (N := 7) ?hd (cs := #[.int .i64 0, .int .i64 0]) (t := 63) ?hr ?_; (case hd => rfl); (case hg => rfl); (case hr => first | (go_simp; done) | (go_simp; rfl)); intro gb239 hg w21 hbox hb; have GW239 := A_ ((by rw [hg]; exact (by first | exact HK.out.1 | exact (show Kept w _ (fun k_ => P0_ k_) from by repeat (first | (with_reducible first | exact HK.out | apply Kept.alloc | apply Kept.drewN | apply Kept.drew) | exact HK.out)).1) : w.heap.size ≤ gb239)); have GE239 := A_ ((by rw [hg]; exact (below_size (y1_ HB.out)) : w0.heap.size ≤ gb239)); have NB64_239 := b4_ hg BK64; have NB239_64 := b5_ hg BK64; have NB65_239 := b4_ hg BK65; have NB66_239 := b4_ hg BK66; have NB239_65 := b5_ hg BK65; have NB239_66 := b5_ hg BK66; replace HO_0 := A_ (Kd.R_below (Kd.R_elderB (b2_ HO_0.out) gb239 (Nat.le_of_eq hg.symm)) hb); replace BK64 := b3_ BK64 hb; replace BK65 := b3_ BK65 hb; replace BK66 := b3_ BK66 hb; replace HK := A_ (Kept.below (S := (fun k_ => P0_ k_)) (by repeat (first | (with_reducible first | exact HK.out | apply Kept.alloc | apply Kept.drewN | apply Kept.drew) | exact HK.out)) hb); replace HB := A_ (below_step (y1_ HB.out) hb); have BK239 := A_ (hbox); clear hb hbox hg; have hnb22 := NB239_64.out; have hnc22 := NB64_239.out; have hnb23 := NB239_65.out; have hnb23q := NB239_66.out; have hnc23 := NB65_239.out; have hnc23q := NB66_239.out; have hcz24_0 := c1_ BK239 0 (.int .i64 0); have hcz24_1 := c1_ BK239 1 (.int .i64 0); have hfz24_0 := f1_ BK239 0; have hfz24_1 := f1_ BK239 1) | (go_at_call 74; (with_reducible refine (impl_SweepPresence_1_2_v7.calls k1 ((rd_T63 x0_1 x6_1).f0) ((rd_T63 x0_1 x6_1).f1) g1_0_ a1_0 g1_1_ q1_1_ A1_1 c1_1 l1_1 V1_2 l1_2 V1_3 l1_3 false _ ?side1 ?side2 ?sideq ?side3 ?side4 A11.out).mono ?_); (case side1 => exact (by refine b1_ ?_; refine blk_far ?_ NB64_239.out _; refine b1_ ?_; refine blk_far ?_ NB64_239.out _; refine b1_ ?_; exact BK64.out)); (case side2 => exact (by refine b1_ ?_; refine blk_far ?_ NB65_239.out _; refine b1_ ?_; refine blk_far ?_ NB65_239.out _; refine b1_ ?_; exact BK65.out)); (case sideq => exact (by refine b1_ ?_; refine blk_far ?_ NB66_239.out _; refine b1_ ?_; refine blk_far ?_ NB66_239.out _; refine b1_ ?_; exact BK66.out)); (case side3 => exact HR1_1.out _ (by repeat (first | (with_reducible first | exact HK.out | apply Kept.alloc | apply Kept.drewN | apply Kept.drew | refine Kept.setCell ?_ (.inr GW239.out) _) | exact HK.out))); (case side4 => exact HC1_1.out); rintro e w25 ⟨rfl, hb⟩; replace HO_0 := A_ (Kd.R_below (by refine b2_ ?_; exact (Kd.R_mono (Kd.R_far (p := ⟨gb239, 1, none⟩) (Kd.R_far (p := ⟨gb239, 0, none⟩) (Kd.R_mono HO_0.out (fun k_ hk => (⟨hk, hk.2⟩ : _ ∧ k_ ≠ gb239))) (fun _ hk => hk.2) (.int .i64 ((rd_T63 x0_1 x6_1).f0))) (fun _ hk => hk.2) (.int .i64 ((rd_T63 x0_1 x6_1).f1))) (fun _ h_ => h_.1))) hb); replace BK64 := A_ (blk_below (g := g1_0_) (o := .cells #[.int .i64 a1_0] 2 (0, 0)) (by refine b1_ ?_; refine blk_far ?_ NB64_239.out _; refine b1_ ?_; refine blk_far ?_ NB64_239.out _; refine b1_ ?_; exact BK64.out) hb); replace BK65 := A_ (blk_below (g := g1_1_) (o := .cells #[.slice A1_1 l1_1.length c1_1, V1_2, V1_3] 27 (0, 0)) (by refine b1_ ?_; refine blk_far ?_ NB65_239.out _; refine b1_ ?_; refine blk_far ?_ NB65_239.out _; refine b1_ ?_; exact BK65.out) hb); replace BK66 := A_ (blk_below (g := q1_1_) (o := .cells #[.pointer (some ⟨g1_1_, 0, none⟩)] 60 (0, 0)) (by refine b1_ ?_; refine blk_far ?_ NB66_239.out _; refine b1_ ?_; refine blk_far ?_ NB66_239.out _; refine b1_ ?_; exact BK66.out) hb); replace BK239 := A_ (blk_below (g := gb239) (o := .cells #[.int .i64 ((rd_T63 x0_1 x6_1).f0), .int .i64 ((rd_T63 x0_1 x6_1).f1)] 63 (0, 0)) (by refine b1_ ?_; refine blk_put (cs := #[.int .i64 ((rd_T63 x0_1 x6_1).f0), .int .i64 0]) ?_ 1 _ rfl; refine b1_ ?_; refine blk_put (cs := #[.int .i64 0, .int .i64 0]) ?_ 0 _ rfl; refine b1_ ?_; exact BK239.out) hb); replace HK := A_ (Kept.below (S := (fun k_ => P0_ k_)) (by repeat (first | (with_reducible first | exact HK.out | apply Kept.alloc | apply Kept.drewN | apply Kept.drew | refine Kept.setCell ?_ (.inr GW239.out) _) | exact HK.out)) hb); replace HB := A_ (below_step (by repeat (first | (with_reducible first | exact HB.out | apply below_alloc | apply pw_below_drewN | apply below_drew1 | refine below_set ?_ GE239.out) | exact HB.out)) hb); (try clear hb); (try clear hb2); (try clear hk); (try clear hi); have hcz26_0 := c1_ BK239 0 (.int .i64 ((rd_T63 x0_1 x6_1).f0)); have hcz26_1 := c1_ BK239 1 (.int .i64 ((rd_T63 x0_1 x6_1).f1)); have hfz26_0 := f1_ BK239 0; have hfz26_1 := f1_ BK239 1; have p20 : 0 ≤ (x5_1 : Int) := o1_; have q20 : (x5_1 : Int) < ((x0_1.length : Int) : Int) := o1_; obtain ⟨go20, co20, eo20, gb20, gl20, cl20, HG20⟩ := Kd.R_form HO_0.out (by omega); (first | cases eo20 | (injection eo20 with ea_ en_ ec_; (first | subst ea_ | (injection ea_ with ea_; subst ea_)); subst ec_; clear en_)); have GB20 := A_ gb20; have GG20 := A_ HG20; clear gb20 gl20 HG20; have HMgo20 := A_ (show (P0_ go20 ∨ w.heap.size ≤ go20) from (HO_0.out.1 _ rfl).1); (first | simp only [add_plain] at hx238_0 | skip); (first | simp only [add_plain] at hx238_1 | skip); obtain ⟨ce20, hcl20, hM20, hcc20, hfr20⟩ := Kd.R_elem HO_0.out z63 (x5_1 : Int) p20 q20; obtain rfl := k63_openM hM20; have hx20_0 : w25.cell? ⟨go20, (x5_1 : Int).toNat * 2, none⟩ = some (.int .i64 ((rd_T63 x0_1 x5_1).f0)) := hcc20 0 _ rfl; have hx20_1 : w25.cell? ⟨go20, (x5_1 : Int).toNat * 2 + 1, none⟩ = some (.int .i64 ((rd_T63 x0_1 x5_1).f1)) := hcc20 1 _ rfl; have hf20_0 : w25.frozen? ⟨go20, (x5_1 : Int).toNat * 2, none⟩ = false := hfr20 0; have hf20_1 : w25.frozen? ⟨go20, (x5_1 : Int).toNat * 2 + 1, none⟩ = false := hfr20 1; clear hcl20 hcc20 hfr20 hM20; replace p20 := eq_true p20; replace q20 := eq_true q20; have HX27 := A_ (show Kd.R k63 63 w25 w0.heap.size (fun k_ => (P0_ k_ ∨ w.heap.size ≤ k_) ∧ k_ ≠ gb239) (.slice (some ⟨go20, 0, none⟩) x0_1.length co7) x0_1 from (b2_ HO_0.out)); obtain ⟨ce27, hcl27, hM27, hcc27, hfr27⟩ := Kd.R_elem HX27.out z63 (x5_1 : Int) (o1_) (by have h_ : (x5_1 : Int) < ((x0_1.length : Int) : Int) := o1_; first | exact h_ | (have e_ := (Kd.R_reads' HO_0.out).1; omega) | simpa using h_); obtain rfl := k63_openM hM27; have HP27 := Kd.R_seg HX27.out (x5_1 : Int) (o1_) (by have h_ : (x5_1 : Int) < ((x0_1.length : Int) : Int) := o1_; first | exact h_ | (have e_ := (Kd.R_reads' HO_0.out).1; omega) | simpa using h_) (seg := [.int .i64 ((rd_T63 x0_1 x6_1).f0), .int .i64 ((rd_T63 x0_1 x6_1).f1)]) (j := 0) hcl27 hcc27 (show 2 ≤ 2 from by decide) (x' := (⟨(rd_T63 x0_1 x6_1).f0, (rd_T63 x0_1 x6_1).f1⟩ : S63)) (k63_mkM _ _ _ (⟨(rd_T63 x0_1 x6_1).f0, (rd_T63 x0_1 x6_1).f1⟩ : S63) ) (fun _ hk => hk); have hx27_0 := hcc27 0 _ rfl; (try simp only [show (k63).sz = 2 from rfl, Nat.mul_one, Nat.add_zero] at hx27_0); have hf27_0 := hfr27 0; (try simp only [show (k63).sz = 2 from rfl, Nat.mul_one, Nat.add_zero] at hf27_0); have hx27_1 := hcc27 1 _ rfl; (try simp only [show (k63).sz = 2 from rfl, Nat.mul_one, Nat.add_zero] at hx27_1); have hf27_1 := hfr27 1; (try simp only [show (k63).sz = 2 from rfl, Nat.mul_one, Nat.add_zero] at hf27_1); clear hcl27 hcc27 hfr27 hM27) | ((with_reducible refine gate_store (t := 63) (p := 33) rfl ?_); refine store_event (t := 63) (p := 33) (v := ?vo_w28) (w1 := ((w25.setCell ⟨go20, (x5_1 : Int).toNat * 2, none⟩ (.int .i64 ((rd_T63 x0_1 x6_1).f0))).setCell ⟨go20, (x5_1 : Int).toNat * 2 + 1, none⟩ (.int .i64 ((rd_T63 x0_1 x6_1).f1)))) ?hg ?ho ?hn ?hr ?_; (case ho => rfl); (case hg => rfl); (case hn => rfl); (case hr => first | (go_simp; done) | (go_simp; rfl)); intro w28 hw; have hg : w25.grownBy w28 (some go20) := (by rw [hw]; exact HP27.2); have hp_ : Kd.R k63 63 w28 w0.heap.size (fun k_ => (P0_ k_ ∨ w.heap.size ≤ k_) ∧ k_ ≠ gb239) (.slice (some ⟨go20, 0, none⟩) x0_1.length co7) y241 := (by rw [hw, Ny241.out]; exact HP27.1); clear HP27; have n0_ := A_ (hp_); have n1_ := A_ (blk_grown (g := g1_0_) (o := .cells #[.int .i64 a1_0] 2 (0, 0)) (b1_ BK64.out) hg (Kd.R_ne HO_0.out BK64.out (by decide))); have n2_ := A_ (blk_grown (g := g1_1_) (o := .cells #[.slice A1_1 l1_1.length c1_1, V1_2, V1_3] 27 (0, 0)) (b1_ BK65.out) hg (Kd.R_ne HO_0.out BK65.out (by decide))); have n2q_ := A_ (blk_grown (g := q1_1_) (o := .cells #[.pointer (some ⟨g1_1_, 0, none⟩)] 60 (0, 0)) (b1_ BK66.out) hg (Kd.R_ne HO_0.out BK66.out (by decide))); have n3_ := A_ (blk_grown (g := gb239) (o := .cells #[.int .i64 ((rd_T63 x0_1 x6_1).f0), .int .i64 ((rd_T63 x0_1 x6_1).f1)] 63 (0, 0)) (b1_ BK239.out) hg (Kd.R_away HO_0.out (fun _ hk => hk.2))); have n4_ := A_ ((by rw [hw]; exact below_set (below_set (HB.out) GB20.out) GB20.out : Below w0.heap.size w0 w28)); have n5_ := A_ (Kept.of_grown (S := (fun k_ => P0_ k_)) hg (by repeat (first | (with_reducible first | exact HK.out | apply Kept.alloc | apply Kept.drewN | apply Kept.drew) | exact HK.out)) (fun k_ e_ => (HO_0.out.1 k_ e_).1)); clear HO_0; clear BK64; clear BK65; clear BK66; clear BK239; clear HB; clear HK; have HO_0 := n0_; have BK64 := n1_; have BK65 := n2_; have BK66 := n2q_; have BK239 := n3_; have HB := n4_; have HK := n5_; clear n0_ n1_ n2_ n3_ n4_ n5_ n2q_; clear hg hw hp_))
 (try simp only [← hl0_1])
 go_roundg k1
 case measure => have := HK1.out; omega
 case rel => exact ⟨(y241), (wrap64 (x5_1 + 1)), (wrap64 (x6_1 + 1)), s1_, s1_, H', ⟨by have := HK1.out; omega⟩, ⟨by (try simp only [hl0_1]); refine b2_ ?_; exact Kd.R_mono HO_0.out (fun _ hk => hk.1)⟩, ⟨by (try simp only [hl0_1]); refine b1_ ?_; exact BK64.out⟩, ⟨by (try simp only [hl0_1]); refine b1_ ?_; exact BK65.out⟩, ⟨by (try simp only [hl0_1]); refine b1_ ?_; exact BK66.out⟩, ⟨by repeat (first | (with_reducible first | exact HK.out | apply Kept.alloc | apply Kept.drewN | apply Kept.drew) | exact HK.out)⟩, ⟨y1_ HB.out⟩⟩}
 {
 rw [if_neg c19] at H
 exact absurd H (by simp)}}
 {
 rw [if_neg c18] at H
 exact absurd H (by simp)}}}
 {
 rw [if_neg c10] at H
 exact absurd H (by simp)}}
 {
 rw [if_neg c9] at H
 have c9b0 : decide (x6_1 < (x0_1.length : Int)) = false := decide_eq_false c9
 clear c9
 by_cases c29 : 0 ≤ x5_1
 {
 rw [if_pos c29] at H
 have c29b0 := eq_true c29
 have c29b1 : decide (0 ≤ x5_1) = true := decide_eq_true c29
 clear c29
 by_cases c30 : x5_1 ≤ (x0_1.length : Int)
 {
 rw [if_pos c30] at H
 have c30b0 := eq_true c30
 have c30b1 : decide (x5_1 ≤ (x0_1.length : Int)) = true := decide_eq_true c30
 clear c30
 obtain ⟨y242, hy242⟩ : ∃ y_ : List (S63), y_ = (x0_1.drop (x5_1 : Int).toNat) := ⟨_, rfl⟩
 replace H : (some ((x0_1.take (x5_1 : Int).toNat ++ List.replicate (x0_1.length - (x5_1 : Int).toNat) z63).take (x5_1 : Int).toNat)) = some r := by first | (rw [hy242]; with_reducible exact H) | (have H2_ := (Option.bind_some _ _).symm.trans H; rw [hy242]; with_reducible exact H2_) | (have H2_ := (Option.bind_some _ _).symm.trans H; with_reducible exact H2_) | with_reducible exact H | (rw [hy242]; exact H) | exact H
 have Ny242 := A_ hy242
 clear hy242
 obtain ⟨y246, hy246⟩ : ∃ y_ : List (S63), y_ = (x0_1.take (x5_1 : Int).toNat ++ List.replicate (x0_1.length - (x5_1 : Int).toNat) z63) := ⟨_, rfl⟩
 replace H : (some (y246.take (x5_1 : Int).toNat)) = some r := by first | (rw [hy246]; with_reducible exact H) | (have H2_ := (Option.bind_some _ _).symm.trans H; rw [hy246]; with_reducible exact H2_) | (have H2_ := (Option.bind_some _ _).symm.trans H; with_reducible exact H2_) | with_reducible exact H | (rw [hy246]; exact H) | exact H
 have Ny246 := A_ hy246
 clear hy246
 have c31b0 := eq_true (o1_ : x5_1 ≤ (x0_1.length : Int))
 obtain ⟨y247, hy247⟩ : ∃ y_ : List (S63), y_ = (y246.take (x5_1 : Int).toNat) := ⟨_, rfl⟩
 replace H : (some y247) = some r := by first | (rw [hy247]; with_reducible exact H) | (have H2_ := (Option.bind_some _ _).symm.trans H; rw [hy247]; with_reducible exact H2_) | (have H2_ := (Option.bind_some _ _).symm.trans H; with_reducible exact H2_) | with_reducible exact H | (rw [hy247]; exact H) | exact H
 have Ny247 := A_ hy247
 clear hy247
 obtain rfl := Option.some.inj H
 have q32 : (x5_1 : Int) ≤ ((x0_1.length : Int) : Int) := o1_
 obtain ⟨i032, hi032, _, hsz32, _⟩ := info_parts info63
 have hroom32 : x0_1.length ≤ co7 := (Kd.R_reads' HO_0.out).2.1
 have hC32 : Kd.C k63 _ Ao7 x0_1.length x0_1 := (Kd.R_reads' HO_0.out).2.2
 have q032 : (0 : Int) ≤ (x5_1 : Int) := o1_
 have hcut32 := cut_from (P := Try.prog) 24 63 .i64 Try.underlying24 hi032 2 hsz32 Ao7 x0_1.length co7 x5_1 q032 q32
 have hr32 := Kd.C_drop (m := (x5_1 : Int).toNat) (c := co7) hC32 (by omega) hroom32
 obtain ⟨A32, hA32⟩ : ∃ A1, A1 = (if co7 = (x5_1 : Int).toNat then Ao7 else (Ao7 : Option Addr).map (·.add ((x5_1 : Int).toNat * 2))) := ⟨_, rfl⟩
 obtain ⟨c32, hc32⟩ : ∃ c1, c1 = co7 - (x5_1 : Int).toNat := ⟨_, rfl⟩
 have hy32 : y242.length = x0_1.length - (x5_1 : Int).toNat := (by rw [Ny242.out, List.length_drop] <;> omega)
 rw [show (x0_1).drop (x5_1 : Int).toNat = y242 from Ny242.out.symm] at hr32
 replace hr32 : Kd.C k63 _ A32 y242.length y242 := (by rw [hA32]; exact hr32)
 rw [← hy32, ← hA32, ← hc32] at hcut32
 have HR245 := A_ hr32
 have HC245 := A_ (show y242.length ≤ c32 from by rw [hy32, hc32]; exact Nat.sub_le_sub_right hroom32 _)
 clear hr32 hC32 hroom32 hi032 hsz32 hc32
 have KY32 := A_ hy32
 have KA32 := A_ hA32
 clear hy32 hA32
 have KL32 := A_ (show (x5_1 : Int).toNat ≤ x0_1.length from by omega)
 replace q32 := eq_true q32
 go_wp2_with (first | ((with_reducible refine gate_builtin (b := .clear) (xs := #[.tmp 38]) rfl ?_); refine Kd.R_clear k63 (w0 := w0) w0.heap.size rfl (.tmp 38) 24 63 (.agg #[(.int .i64 0), (.int .i64 0)]) 16 rfl Try.underlying24 info63 rfl (by decide) (A := Ao7) (n := x0_1.length) (c := co7) (k := (x5_1 : Int).toNat) (xs := x0_1) z63 rfl KA32.out KY32.out (k63_mkM _ _ _ z63 ) (b2_ HO_0.out) KL32.out (y1_ HB.out) (below_size (y1_ HB.out)) ?_; intro w33 ho hb hg; rw [← Ny246.out] at ho; have n0_ := A_ (ho); have n1_ := A_ (blk_grown (g := g1_0_) (o := .cells #[.int .i64 a1_0] 2 (0, 0)) (b1_ BK64.out) hg (Kd.R_ne HO_0.out BK64.out (by decide))); have n2_ := A_ (blk_grown (g := g1_1_) (o := .cells #[.slice A1_1 l1_1.length c1_1, V1_2, V1_3] 27 (0, 0)) (b1_ BK65.out) hg (Kd.R_ne HO_0.out BK65.out (by decide))); have n2q_ := A_ (blk_grown (g := q1_1_) (o := .cells #[.pointer (some ⟨g1_1_, 0, none⟩)] 60 (0, 0)) (b1_ BK66.out) hg (Kd.R_ne HO_0.out BK66.out (by decide))); have n3_ := A_ (hb); have n4_ := A_ (Kept.of_grown (S := (fun k_ => P0_ k_)) hg (by repeat (first | (with_reducible first | exact HK.out | apply Kept.alloc | apply Kept.drewN | apply Kept.drew) | exact HK.out)) (fun k_ e_ => (HO_0.out.1 k_ e_))); clear HO_0; clear BK64; clear BK65; clear BK66; clear HB; clear HK; have HO_0 := n0_; have BK64 := n1_; have BK65 := n2_; have BK66 := n2q_; have HB := n3_; have HK := n4_; clear n0_ n1_ n2_ n3_ n4_ n2q_; clear ho hb hg; have q34 : (x5_1 : Int) ≤ ((x0_1.length : Int) : Int) := o1_; obtain ⟨i034, hi034, _, hsz34, _⟩ := info_parts info63; have hcut34 := cut_to (P := Try.prog) 24 63 .i64 Try.underlying24 hi034 Ao7 x0_1.length co7 x5_1 (o1_) q34 (Kd.R_reads' HO_0.out).2.1; have hr34 := Kd.R_take (m := (x5_1 : Int).toNat) HO_0.out (by have hln_ := (Kd.R_reads' HO_0.out).1; omega); have hy34 : y247.length = (x5_1 : Int).toNat := (by have hln_ := (Kd.R_reads' HO_0.out).1; rw [Ny247.out, List.length_take]; omega); rw [← Ny247.out] at hr34; rw [← hy34] at hr34 hcut34; clear hy34 hi034 hsz34 HO_0; have HO249 := A_ hr34; clear hr34; replace q34 := eq_true q34))
 go_ret
 exact ⟨_, e1_, b2_ HO249.out, y1_ HB.out, by repeat (first | (with_reducible first | exact HK.out | apply Kept.alloc | apply Kept.drewN | apply Kept.drew) | exact HK.out)⟩}
 {
 rw [if_neg c30] at H
 exact absurd H (by simp)}}
 {
 rw [if_neg c29] at H
 exact absurd H (by simp)}}}}}

/-! ### impl_dropLeases_v4: function 53 -/
def impl_dropLeases_v4.f (k : Nat) (l0 : List (S63)) (a1_0 : Int) (l1_1 : List (S63)) (l1_2 : List (S63)) (l1_3 : List (S73)) : Option ((List (S63))) := (impl_Lease_v5.f k l0 a1_0 l1_1 l1_2 l1_3).bind fun t237 => (some t237)
theorem impl_dropLeases_v4.mono : ∀ a0 a1 a2 a3 a4 k, LeO (impl_dropLeases_v4.f k a0 a1 a2 a3 a4) (impl_dropLeases_v4.f (k + 1) a0 a1 a2 a3 a4) := by
  intro a0 a1 a2 a3 a4 k
  unfold impl_dropLeases_v4.f
  repeat' first
      | (with_reducible exact impl_Lease_v5.mono _ _ _ _ _ _)
      | (with_reducible exact LeO.refl _)
      | (with_reducible exact LeO.none _)
      | (with_reducible refine LeO.ite ?_ ?_)
      | (with_reducible refine LeO.bind ?_ (fun _ => ?_))
      | exact impl_Lease_v5.mono _ _ _ _ _ _
      | exact LeO.none _
      | refine LeO.ite ?_ ?_
      | refine LeO.bind ?_ (fun _ => ?_)
set_option maxHeartbeats 8000000 in
set_option maxRecDepth 100000 in
theorem impl_dropLeases_v4.calls (k : Nat) (P0_ : Nat → Prop) (u9000_ : Value) (l0 : List (S63)) (g1_0_ : Nat) (g1_1_ : Nat) (q1_1_ : Nat) (a1_0 : Int) (A1_1 : Option Addr) (c1_1 : Nat) (l1_1 : List (S63)) (V1_2 : Value) (l1_2 : List (S63)) (V1_3 : Value) (l1_3 : List (S73)) (r : List (S63)) (w0 w : World) (hB : Below w0.heap.size w0 w) (hbk1_0 : w.heap[g1_0_]? = some (.cells #[.int .i64 a1_0] 2 (0, 0))) (hbk1_1 : w.heap[g1_1_]? = some (.cells #[.slice A1_1 l1_1.length c1_1, V1_2, V1_3] 27 (0, 0))) (hbq : w.heap[q1_1_]? = some (.cells #[.pointer (some ⟨g1_1_, 0, none⟩)] 60 (0, 0))) (ho0 : Kd.R k63 63 w w0.heap.size P0_ u9000_ l0) (hr1_1 : ∀ W_, Kept w W_ (fun k_ => P0_ k_) → Kd.C k63 W_ A1_1 l1_1.length l1_1) (hc1_1 : l1_1.length ≤ c1_1) (h : impl_dropLeases_v4.f k l0 a1_0 l1_1 l1_2 l1_3 = some r) :
    Calls Try.prog 53 #[u9000_, .func (.func 74) #[] #[.pointer (some ⟨g1_0_, 0, none⟩), .pointer (some ⟨q1_1_, 0, none⟩)]] w fun e w' => ∃ v0_ : Value, e = .returned (v0_) ∧ Kd.R k63 63 w' w0.heap.size (fun k_ => (P0_ k_ ∨ w.heap.size ≤ k_)) v0_ r ∧ Below w0.heap.size w0 w' ∧ Kept w w' (fun k_ => P0_ k_) := by
  have HO0 := A_ (show Kd.R k63 63 w w0.heap.size (fun k_ => (P0_ k_ ∨ w.heap.size ≤ k_)) u9000_ l0 from Kd.R_mono ho0 (fun k_ hk => (.inl hk)))
  have HR1_1 := A_ hr1_1
  have HC1_1 := A_ hc1_1
  clear hr1_1 hc1_1
  have BK64 := A_ hbk1_0
  clear hbk1_0
  have BK65 := A_ hbk1_1
  have BK66 := A_ hbq
  clear hbk1_1
  clear hbq
  have HK := A_ (Kept.refl w (fun k_ => P0_ k_))
  have HW0 := A_ hB.size
  have HB := A_ hB
  clear hB
  have H : ((impl_Lease_v5.f k l0 a1_0 l1_1 l1_2 l1_3).bind fun t237 => (some t237)) = some r := h
  clear h
  replace H := Option.bind_eq_some_iff.mp H
  obtain ⟨t237, A30, H⟩ := H
  replace H : (some t237) = some r := H
  have A3 := A_ A30
  clear A30
  obtain rfl := Option.some.inj H
  obtain ⟨Ao4, co4, eo4⟩ := Kd.R_slice HO0.out
  subst eo4
  go_enter Try.func53, Try.ntmps53
  go_wp2_with (first | ((with_reducible refine gate_callee (f := 96) rfl ?_); refine goesL_ (some 7) rfl rfl Try.func96 (by kernel_rfl) rfl #[.slice Ao4 l0.length co4, .func (.func 74) #[] #[.pointer (some ⟨g1_0_, 0, none⟩), .pointer (some ⟨q1_1_, 0, none⟩)]] rfl (by (try simp only [List.map_toArray, List.map_cons, List.map_nil]); first | done | rfl | (simp only [List.length_drop, List.length_take]; rfl)) ?_; (with_reducible refine (impl_Lease_v5.calls k (fun k_ => some k_ = (.slice Ao4 l0.length co4 : Value).ownBlock) (.slice Ao4 l0.length co4) l0 g1_0_ g1_1_ q1_1_ a1_0 A1_1 c1_1 l1_1 V1_2 l1_2 V1_3 l1_3 t237 w0 _ ?side1 ?side2 ?side3 ?sideq ?side4 ?side5 ?side6 A3.out).mono ?_); (case side1 => exact y1_ HB.out); (case side2 => exact (b1_ BK64.out)); (case side3 => exact (b1_ BK65.out)); (case sideq => exact (b1_ BK66.out)); (case side4 => exact Kd.R_tight rfl HO0.out); (case side5 => exact Kd.C_kept_call HR1_1.out (by repeat (first | (with_reducible first | exact HK.out | apply Kept.alloc | apply Kept.drewN | apply Kept.drew) | exact HK.out)) (fun k_ hs_ => (fun e_ => (HO0.out.1 k_ e_.symm)) hs_)); (case side6 => exact HC1_1.out); rintro e w5 ⟨v238, rfl, ho0, hb, hkp⟩; refine ⟨_, rfl, ?_⟩; replace BK64 := A_ (blk_kept (b1_ BK64.out) hkp (fun hs_ => (fun e_ => (Kd.R_ne HO0.out BK64.out (by decide)) e_) hs_)); replace BK65 := A_ (blk_kept (b1_ BK65.out) hkp (fun hs_ => (fun e_ => (Kd.R_ne HO0.out BK65.out (by decide)) e_) hs_)); replace BK66 := A_ (blk_kept (b1_ BK66.out) hkp (fun hs_ => (fun e_ => (Kd.R_ne HO0.out BK66.out (by decide)) e_) hs_)); have HO239 := A_ (Kd.R_mono (ok' := fun k_ => (P0_ k_ ∨ w.heap.size ≤ k_)) ho0 (fun k_ hk_ => Or.elim hk_ (fun hs_ => (HO0.out.1 k_ (hs_).symm)) (fun hn_ => (.inr (Nat.le_trans (by first | exact HK.out.1 | exact (show Kept w _ (fun k_ => P0_ k_) from by repeat (first | (with_reducible first | exact HK.out | apply Kept.alloc | apply Kept.drewN | apply Kept.drew) | exact HK.out)).1) hn_))))); replace HK := A_ (Kept.then_ (S := (fun k_ => P0_ k_)) (by repeat (first | (with_reducible first | exact HK.out | apply Kept.alloc | apply Kept.drewN | apply Kept.drew) | exact HK.out)) hkp (fun k_ hs_ => (fun e_ => (HO0.out.1 k_ e_.symm)) hs_)); replace HB := A_ (hb); clear HO0; (try clear hb); (try clear hkp); (try clear ho0)))
  go_ret
  exact ⟨_, e1_, b2_ HO239.out, y1_ HB.out, by repeat (first | (with_reducible first | exact HK.out | apply Kept.alloc | apply Kept.drewN | apply Kept.drew) | exact HK.out)⟩

end Go.Proofs.Ytgfilednbllkmaa.QFnJoinedPresence
