/- SameIndex: the program and the reference answer alike, for every two indexes. -/
import Derived.Test.YtcnhepjdibbkgaaQFnExactSameIndexx4
namespace Go.Proofs.Ytcnhepjdibbkgaa.Pure
open Go.RowKit Go.Proofs.Ytcnhepjdibbkgaa.QFnExactSameIndex Go.Proofs.YtcnhepjdibbkgaaW.PrintWords Go.Proofs.YtcnhepjdibbkgaaW.PrintLast Go.Proofs.YtcnhepjdibbkgaaW.PrintMore
set_option linter.unusedVariables false

theorem w64 {n : Int} (h1 : -9223372036854775808 ≤ n) (h2 : n ≤ 9223372036854775807) : wrap64 n = n := by
  unfold wrap64
  omega
theorem wf64 {n : Int} (h : (Lit.int .i64 n).wf = true) : -9223372036854775808 ≤ n ∧ n ≤ 9223372036854775807 := by
  simp [Lit.wf, IntKind.min, IntKind.max, IntKind.signed, IntKind.bits] at h
  omega

theorem ev_pos {α : Type} {c : Prop} [Decidable c] {g f : Nat → Option α} {r : α} (h : c) (e : Ev g r) : Ev (fun k => if c then g k else f k) r := Ev.congr (fun _ => if_pos h) e
theorem ev_neg {α : Type} {c : Prop} [Decidable c] {g f : Nat → Option α} {r : α} (h : ¬ c) (e : Ev f r) : Ev (fun k => if c then g k else f k) r := Ev.congr (fun _ => if_neg h) e
theorem ev_b {α β : Type} {o : Option α} {a : α} {f : Nat → α → Option β} {r : β} (h : o = some a) (e : Ev (fun k => f k a) r) : Ev (fun k => o.bind (f k)) r := by subst h; exact e
theorem ev_eq {α : Type} {g : Nat → Option α} {r q : α} (e : Ev g r) (h : r = q) : Ev g q := h ▸ e
theorem ev_some {α : Type} {r q : α} (h : r = q) : Ev (fun _ => some r) q := h ▸ Ev.now r
/-- Down from a list's end. -/
theorem idx_ind {α : Type} (l : List α) (P : Nat → Prop) (hend : P l.length) (hstep : ∀ i, i < l.length → P (i + 1) → P i) : ∀ i, i ≤ l.length → P i := by
  have key : ∀ d i, i + d = l.length → P i := by
    intro d
    induction d with
    | zero => intro i h; have : i = l.length := by omega
              rw [this]; exact hend
    | succ d ih => intro i h; exact hstep i (by omega) (ih (i + 1) (by omega))
  intro i h
  exact key (l.length - i) i (by omega)
theorem rd_at (l : List Int) (i : Nat) (h : i < l.length) : rd l (i : Int) = l[i] := by
  simp [rd, List.getD, h]
theorem rdOf_at {α : Type} (d : α) (l : List α) (i : Nat) (h : i < l.length) : rdOf d l (i : Int) = l[i] := by
  simp [rdOf, List.getD, h]
theorem drop_at {α : Type} (l : List α) (i : Nat) (h : i < l.length) : l.drop i = l[i] :: l.drop (i + 1) := List.drop_eq_getElem_cons h
theorem wsucc {i n : Nat} (h : i < n) (hn : n ≤ 9223372036854775807) : wrap64 ((i : Int) + 1) = ((i + 1 : Nat) : Int) := by
  rw [w64 (by omega) (by omega)]; rfl

theorem toInts (l : List Int) (hl : l.length ≤ 100000000) : Ev (fun k => laws_toInt64S.f k l) l := by
  have key := idx_ind l (fun i => ∀ x : List Int, x.length = l.length → (∀ j, j < i → x[j]? = l[j]?) → Ev (fun k => laws_toInt64S.l0 k l x (i : Int)) l) ?_ ?_
  · unfold laws_toInt64S.f
    refine ev_pos (by omega) (ev_pos (by omega) ?_)
    exact key 0 (Nat.zero_le _) _ (by simp) (fun j h => by omega)
  · intro x hx hj
    refine Ev.step (fun k => by rw [laws_toInt64S.l0]) ?_
    refine ev_neg (by omega) (ev_some ?_)
    apply List.ext_getElem?
    intro j
    rcases Nat.lt_or_ge j l.length with h | h
    · exact hj j h
    · rw [List.getElem?_eq_none (by omega), List.getElem?_eq_none (by omega)]
  · intro i hi ih x hx hj
    refine Ev.step (fun k => by rw [laws_toInt64S.l0]) ?_
    refine ev_pos (by omega) (ev_pos (by omega) (ev_pos (by omega) ?_))
    rw [wsucc hi (by omega), rd_at l i hi]
    refine ih _ (by simp [hx]) ?_
    intro j hj2
    by_cases e : j = i
    · subst e
      simp [hx, hi]
    · simp only [Int.toNat_natCast]
      rw [List.getElem?_set_ne (by omega)]
      exact hj j (by omega)
theorem eqInts (l : List Int) (hl : l.length ≤ 100000000) : Ev (fun k => laws_eqInt64S.f k l l) true := by
  unfold laws_eqInt64S.f
  refine ev_pos rfl ?_
  refine idx_ind l (fun i => Ev (fun k => laws_eqInt64S.l0 k l l (i : Int)) true) ?_ ?_ 0 (Nat.zero_le _)
  · refine Ev.step (fun k => by rw [laws_eqInt64S.l0]) ?_
    exact ev_neg (by omega) (Ev.now _)
  · intro i hi ih
    refine Ev.step (fun k => by rw [laws_eqInt64S.l0]) ?_
    refine ev_pos (by omega) (ev_pos (by omega) (ev_pos (by omega) (ev_pos rfl ?_)))
    rw [wsucc hi (by omega)]
    exact ih

theorem rdIEntry (l : List S108) (i : Nat) (h : i < l.length) : rd_T108 l (i : Int) = l[i] := by
  simp [rd_T108, List.getD, h]
theorem rdOEntry (l : List S63) (i : Nat) (h : i < l.length) : rd_T63 l (i : Int) = l[i] := by
  simp [rd_T63, List.getD, h]
/-- An entry's size taken away. -/
theorem szEntry1 (s : ByteArray) (m : List Int) (x : Int) (hs : s.size ≤ 140737488351232) (hm : m.length ≤ 9223372036854775) (h0 : 0 ≤ x) (h1 : x ≤ 1048576) :
    laws_szEntry.f s m x = some (if x - (s.size : Int) - (m.length : Int) < 0 then -1 else x - (s.size : Int) - (m.length : Int)) := by
  unfold laws_szEntry.f laws_szInt64S.f
  rw [w64 (n := x - (s.size : Int)) (by omega) (by omega)]
  by_cases c : x - (s.size : Int) < 0
  · rw [if_pos c, if_pos (by omega)]
  · rw [if_neg c, w64 (by omega) (by omega)]
    by_cases c2 : x - (s.size : Int) - (m.length : Int) < 0
    · simp [c2]
    · simp [c2]
def fitEntry (y : S108) : Prop := y.f0.size ≤ 140737488351232 ∧ y.f1.length ≤ 9223372036854775
theorem szIndexEvX (l : List S108) (hl : l.length ≤ 9223372036854775807) (hf : ∀ y ∈ l, fitEntry y) (a : Int) (ha0 : 0 ≤ a) (ha1 : a ≤ 1048576) : ∃ v, Ev (fun k => laws_szIndex.f k l a) v ∧ v ≤ 1048576 ∧ (0 ≤ v → l.length ≤ 1048576 ∧ ∀ y ∈ l, y.f1.length ≤ 1048576) := by
  have key := idx_ind l (fun i => ∀ x : Int, 0 ≤ x → x ≤ 1048576 → ∃ v, Ev (fun k => laws_szEntryS.l0 k l x (i : Int)) v ∧ v ≤ 1048576 ∧ (0 ≤ v → ∀ y ∈ l.drop i, y.f1.length ≤ 1048576)) ?_ ?_ 0 (Nat.zero_le _)
  · unfold laws_szIndex.f laws_szEntryS.f
    rw [w64 (by omega) (by omega)]
    by_cases h : l.length ≤ a.toNat
    · obtain ⟨v, hv, hv1, hb⟩ := key (a - (l.length : Int)) (by omega) (by omega)
      by_cases c : v < 0
      · exact ⟨-1, Ev.bind (ev_neg (by omega) hv) (ev_pos c (Ev.now _)), by omega, fun z => by omega⟩
      · exact ⟨v, Ev.bind (ev_neg (by omega) hv) (ev_neg c (Ev.now _)), hv1, fun _ => ⟨by omega, by simpa using hb (by omega)⟩⟩
    · exact ⟨-1, Ev.bind (ev_pos (by omega) (Ev.now (-1))) (ev_pos (by omega) (Ev.now _)), by omega, fun z => by omega⟩
  · intro x _ _
    exact ⟨x, Ev.step (fun k => by rw [laws_szEntryS.l0]) (ev_neg (by omega) (Ev.now _)), by omega, fun _ y hy => by simp at hy⟩
  · intro i hi ih x h0 h1
    have hz := hf l[i] (List.getElem_mem hi)
    have e := szEntry1 l[i].f0 l[i].f1 x hz.1 hz.2 h0 h1
    by_cases h : x - (l[i].f0.size : Int) - (l[i].f1.length : Int) < 0
    · rw [if_pos h] at e
      refine ⟨-1, Ev.step (fun k => by rw [laws_szEntryS.l0]) ?_, by omega, fun z => by omega⟩
      rw [rdIEntry l i hi]
      exact ev_pos (by omega) (ev_pos (by omega) (ev_b e (ev_pos (by omega) (Ev.now _))))
    · rw [if_neg h] at e
      obtain ⟨v, hv, hv1, hb⟩ := ih (x - (l[i].f0.size : Int) - (l[i].f1.length : Int)) (by omega) (by omega)
      refine ⟨v, Ev.step (fun k => by rw [laws_szEntryS.l0]) ?_, hv1, ?_⟩
      · rw [rdIEntry l i hi, wsucc hi hl]
        exact ev_pos (by omega) (ev_pos (by omega) (ev_b e (ev_neg h hv)))
      · intro z y hy
        rw [drop_at l i hi] at hy
        rcases List.mem_cons.mp hy with rfl | hy
        · omega
        · exact hb z y hy
theorem szIndexEv (l : List S108) (hl : l.length ≤ 9223372036854775807) (hf : ∀ y ∈ l, fitEntry y) : ∃ v, Ev (fun k => laws_szIndex.f k l 1048576) v ∧ (0 ≤ v → l.length ≤ 1048576 ∧ ∀ y ∈ l, y.f1.length ≤ 1048576) := by
  obtain ⟨v, h1, _, h3⟩ := szIndexEvX l hl hf 1048576 (by omega) (by omega)
  exact ⟨v, h1, h3⟩
def cvEntry (x : S108) : S63 := ⟨x.f0, x.f1⟩
theorem toIndexEv (l : List S108) (hl : l.length ≤ 100000000) (hf : ∀ y ∈ l, y.f1.length ≤ 100000000) : Ev (fun k => laws_toIndex.f k l) (l.map cvEntry) := by
  have key := idx_ind l (fun i => ∀ x : List S63, x.length = l.length → (∀ j, j < i → x[j]? = (l.map cvEntry)[j]?) → Ev (fun k => laws_toEntryS.l0 k l x (i : Int)) (l.map cvEntry)) ?_ ?_
  · unfold laws_toIndex.f laws_toEntryS.f
    refine Ev.bind (ev_pos (by omega) (ev_pos (by omega) ?_)) (Ev.now _)
    exact key 0 (Nat.zero_le _) _ (by simp) (fun j h => by omega)
  · intro x hx hj
    refine Ev.step (fun k => by rw [laws_toEntryS.l0]) ?_
    refine ev_neg (by omega) (ev_some ?_)
    apply List.ext_getElem?
    intro j
    rcases Nat.lt_or_ge j l.length with h | h
    · exact hj j h
    · rw [List.getElem?_eq_none (by omega), List.getElem?_eq_none (by simpa using h)]
  · intro i hi ih x hx hj
    refine Ev.step (fun k => by rw [laws_toEntryS.l0]) ?_
    unfold laws_toEntry.f
    rw [rdIEntry l i hi]
    refine ev_pos (by omega) (ev_pos (by omega) (Ev.bind (Ev.bind (toInts l[i].f1 (hf _ (List.getElem_mem hi))) (Ev.now _)) (ev_pos (by omega) ?_)))
    rw [wsucc hi (by omega)]
    refine ih _ (by simp [hx]) ?_
    intro j hj2
    by_cases e : j = i
    · subst e
      simp [hx, hi, cvEntry]
    · simp only [Int.toNat_natCast]
      rw [List.getElem?_set_ne (by omega)]
      exact hj j (by omega)
theorem eqIndexEv (l : List S63) (hl : l.length ≤ 100000000) (hf : ∀ y ∈ l, y.f1.length ≤ 100000000) : Ev (fun k => laws_eqIndex.f k l l) true := by
  unfold laws_eqIndex.f laws_eqEntryS.f
  refine Ev.bind (ev_pos rfl ?_) (ev_pos rfl (Ev.now _))
  refine idx_ind l (fun i => Ev (fun k => laws_eqEntryS.l0 k l l (i : Int)) true) ?_ ?_ 0 (Nat.zero_le _)
  · refine Ev.step (fun k => by rw [laws_eqEntryS.l0]) ?_
    exact ev_neg (by omega) (Ev.now _)
  · intro i hi ih
    refine Ev.step (fun k => by rw [laws_eqEntryS.l0]) ?_
    unfold laws_eqEntry.f
    rw [rdOEntry l i hi, wsucc hi (by omega)]
    exact ev_pos (by omega) (ev_pos (by omega) (ev_pos (by omega) (Ev.bind (ev_pos rfl (Ev.bind (eqInts l[i].f1 (hf _ (List.getElem_mem hi))) (ev_pos rfl (Ev.now _)))) (ev_pos rfl ih))))

/-- Alike, one by one. -/
def zipAll {α : Type} (eq : α → α → Bool) : List α → List α → Bool
  | x :: r, y :: q => eq x y && zipAll eq r q
  | _, _ => true
theorem zip_at {α : Type} (eq : α → α → Bool) {l m : List α} {i : Nat} (h : i < l.length) (hm : i < m.length) : zipAll eq (l.drop i) (m.drop i) = (eq l[i] m[i] && zipAll eq (l.drop (i + 1)) (m.drop (i + 1))) := by
  rw [drop_at l i h, drop_at m i hm]; rfl
def sameInts (l m : List Int) : Bool := decide (l.length = m.length) && zipAll (fun a b => decide (a = b)) l m
theorem specInts (l m : List Int) (hl : l.length ≤ 100000000) : Ev (fun k => spec_l00Same.f k l m) (sameInts l m) := by
  unfold spec_l00Same.f sameInts
  by_cases h : l.length = m.length
  · refine ev_pos (by omega) ?_
    rw [decide_eq_true h, Bool.true_and]
    refine idx_ind l (fun i => Ev (fun k => spec_l00Same.l0 k l m (i : Int)) (zipAll (fun a b => decide (a = b)) (l.drop i) (m.drop i))) ?_ ?_ 0 (Nat.zero_le _)
    · refine Ev.step (fun k => by rw [spec_l00Same.l0]) ?_
      refine ev_neg (by omega) (ev_some ?_)
      simp [zipAll]
    · intro i hi ih
      refine Ev.step (fun k => by rw [spec_l00Same.l0]) ?_
      rw [zip_at _ hi (by omega), wsucc hi (by omega), rd_at l i hi, rd_at m i (by omega)]
      refine ev_pos (by omega) (ev_pos (by omega) (ev_pos (by omega) ?_))
      by_cases c : l[i] = m[i]'(by omega)
      · refine ev_pos c ?_
        simp only [decide_eq_true c, Bool.true_and]; exact ih
      · refine ev_neg c (ev_some ?_)
        simp only [decide_eq_false c, Bool.false_and]
  · refine ev_neg (by omega) (ev_some ?_)
    rw [decide_eq_false h, Bool.false_and]
theorem implInts (l m : List Int) (hl : l.length ≤ 100000000) : Ev (fun k => slices_Equal_int64_int64_n48.f k l m) (sameInts l m) := by
  unfold slices_Equal_int64_int64_n48.f sameInts
  by_cases h : l.length = m.length
  · refine ev_pos (by omega) ?_
    rw [decide_eq_true h, Bool.true_and]
    refine idx_ind l (fun i => Ev (fun k => slices_Equal_int64_int64_n48.l0 k l m (l.length : Int) (i : Int)) (zipAll (fun a b => decide (a = b)) (l.drop i) (m.drop i))) ?_ ?_ 0 (Nat.zero_le _)
    · refine Ev.step (fun k => by rw [slices_Equal_int64_int64_n48.l0]) ?_
      refine ev_neg (by omega) (ev_some ?_)
      simp [zipAll]
    · intro i hi ih
      refine Ev.step (fun k => by rw [slices_Equal_int64_int64_n48.l0]) ?_
      rw [zip_at _ hi (by omega), wsucc hi (by omega), rd_at l i hi, rd_at m i (by omega)]
      refine ev_pos (by omega) (ev_pos (by omega) (ev_pos (by omega) (ev_pos (by omega) ?_)))
      by_cases c : l[i] = m[i]'(by omega)
      · refine ev_pos c ?_
        simp only [decide_eq_true c, Bool.true_and]; exact ih
      · refine ev_neg c (ev_some ?_)
        simp only [decide_eq_false c, Bool.false_and]
  · refine ev_neg (by omega) (ev_some ?_)
    rw [decide_eq_false h, Bool.false_and]
def sameEnt (x y : S63) : Bool := decide (x.f0.toList = y.f0.toList) && sameInts x.f1 y.f1
def sameV (l m : List S63) : Bool := decide (l.length = m.length) && zipAll sameEnt l m
theorem specSame (l m : List S63) (hl : l.length ≤ 100000000) (hf : ∀ y ∈ l, y.f1.length ≤ 100000000) : Ev (fun k => spec_SameIndex.f k l m) (sameV l m) := by
  unfold spec_SameIndex.f sameV
  by_cases h : l.length = m.length
  · refine ev_pos (by omega) ?_
    rw [decide_eq_true h, Bool.true_and]
    refine idx_ind l (fun i => Ev (fun k => spec_SameIndex.l0 k (i : Int) l m) (zipAll sameEnt (l.drop i) (m.drop i))) ?_ ?_ 0 (Nat.zero_le _)
    · refine Ev.step (fun k => by rw [spec_SameIndex.l0]) ?_
      refine ev_neg (by omega) (ev_some ?_)
      simp [zipAll]
    · intro i hi ih
      refine Ev.step (fun k => by rw [spec_SameIndex.l0]) ?_
      rw [zip_at _ hi (by omega), wsucc hi (by omega), rdOEntry l i hi, rdOEntry m i (by omega)]
      refine ev_pos (by omega) (ev_pos (by omega) (ev_pos (by omega) ?_))
      by_cases c : l[i].f0.toList = (m[i]'(by omega)).f0.toList
      · refine ev_pos c (Ev.bind (specInts _ _ (hf _ (List.getElem_mem hi))) ?_)
        by_cases d : sameInts l[i].f1 (m[i]'(by omega)).f1 = true
        · refine ev_pos d ?_
          simp only [sameEnt, decide_eq_true c, d, Bool.true_and]; exact ih
        · refine ev_neg d (ev_some ?_)
          rw [Bool.not_eq_true] at d
          simp only [sameEnt, d, Bool.and_false, Bool.false_and]
      · refine ev_neg c (ev_some ?_)
        simp only [sameEnt, decide_eq_false c, Bool.false_and]
  · refine ev_neg (by omega) (ev_some ?_)
    rw [decide_eq_false h, Bool.false_and]
theorem implSame (l m : List S63) (hl : l.length ≤ 100000000) (hf : ∀ y ∈ l, y.f1.length ≤ 100000000) : Ev (fun k => impl_SameIndex.f k l m) (sameV l m) := by
  unfold impl_SameIndex.f impl_Entry_v0.f sameV
  refine Ev.bind (r := _) ?_ (Ev.now _)
  by_cases h : l.length = m.length
  · refine ev_pos (by omega) ?_
    rw [decide_eq_true h, Bool.true_and]
    refine idx_ind l (fun i => Ev (fun k => impl_Entry_v0.l0 k m l (l.length : Int) (i : Int)) (zipAll sameEnt (l.drop i) (m.drop i))) ?_ ?_ 0 (Nat.zero_le _)
    · refine Ev.step (fun k => by rw [impl_Entry_v0.l0]) ?_
      refine ev_neg (by omega) (ev_some ?_)
      simp [zipAll]
    · intro i hi ih
      have one : Ev (fun k => impl_SameIndex_1_n47.f k l[i].f0 l[i].f1 (m[i]'(by omega)).f0 (m[i]'(by omega)).f1) (sameEnt l[i] (m[i]'(by omega))) := by
        unfold impl_SameIndex_1_n47.f sameEnt
        by_cases c : l[i].f0.toList = (m[i]'(by omega)).f0.toList
        · refine ev_pos c (Ev.bind (implInts _ _ (hf _ (List.getElem_mem hi))) (ev_some ?_))
          rw [decide_eq_true c, Bool.true_and]
        · refine ev_neg c (ev_some ?_)
          rw [decide_eq_false c, Bool.false_and]
      refine Ev.step (fun k => by rw [impl_Entry_v0.l0]) ?_
      rw [zip_at _ hi (by omega), wsucc hi (by omega), rdOEntry l i hi, rdOEntry m i (by omega)]
      refine ev_pos (by omega) (ev_pos (by omega) (ev_pos (by omega) (ev_pos (by omega) (Ev.bind one ?_))))
      by_cases c : sameEnt l[i] (m[i]'(by omega)) = true
      · refine ev_pos c ?_
        simp only [c, Bool.true_and]; exact ih
      · refine ev_neg c (ev_some ?_)
        rw [Bool.not_eq_true] at c
        simp only [c, Bool.false_and]
  · refine ev_neg (by omega) (ev_some ?_)
    rw [decide_eq_false h, Bool.false_and]
theorem FnExactSameIndex : laws_FnExactSameIndex.Pure := by
  intro l m hl hm
  refine Ev.rounds ?_
  have bl : l.length ≤ 9223372036854775807 := by have := hl.1; unfold maxLen at this; omega
  have bm : m.length ≤ 9223372036854775807 := by have := hm.1; unfold maxLen at this; omega
  have fl : ∀ y ∈ l, fitEntry y := fun y hy => ⟨(hl.2.2 y hy).1, by have := (hl.2.2 y hy).2.2.1; omega⟩
  have fm : ∀ y ∈ m, fitEntry y := fun y hy => ⟨(hm.2.2 y hy).1, by have := (hm.2.2 y hy).2.2.1; omega⟩
  obtain ⟨v, hv, hv1, hb⟩ := szIndexEvX l bl fl 1048576 (by omega) (by omega)
  unfold laws_FnExactSameIndex.f
  refine Ev.bind hv ?_
  by_cases h : v < 0
  · exact ev_pos h (Ev.now _)
  · have h2 := hb (by omega)
    obtain ⟨u, hu, _, hc⟩ := szIndexEvX m bm fm v (by omega) hv1
    refine ev_neg h (Ev.bind hu ?_)
    by_cases g : u < 0
    · exact ev_pos g (Ev.now _)
    · have g2 := hc (by omega)
      have tl := toIndexEv l (by omega) (fun y hy => by have := h2.2 y hy; omega)
      have tm := toIndexEv m (by omega) (fun y hy => by have := g2.2 y hy; omega)
      have ll : (l.map cvEntry).length ≤ 100000000 := by rw [List.length_map]; omega
      have lm : (m.map cvEntry).length ≤ 100000000 := by rw [List.length_map]; omega
      have el : ∀ y ∈ l.map cvEntry, y.f1.length ≤ 100000000 := by
        intro y hy
        obtain ⟨x, hx, rfl⟩ := List.mem_map.mp hy
        have := h2.2 x hx
        show x.f1.length ≤ _; omega
      have em : ∀ y ∈ m.map cvEntry, y.f1.length ≤ 100000000 := by
        intro y hy
        obtain ⟨x, hx, rfl⟩ := List.mem_map.mp hy
        have := g2.2 x hx
        show x.f1.length ≤ _; omega
      refine ev_neg g (Ev.bind tl (Ev.bind tm (Ev.bind (specSame _ _ ll el) (Ev.bind tl (Ev.bind tm (Ev.bind (implSame _ _ ll el) (ev_neg (by simp) (Ev.bind tl (Ev.bind (eqIndexEv _ ll el) (ev_pos rfl (Ev.bind tm (Ev.bind (eqIndexEv _ lm em) (ev_pos rfl (Ev.now _))))))))))))))

end Go.Proofs.Ytcnhepjdibbkgaa.Pure
