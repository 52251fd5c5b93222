/- What a row's arguments are, once they can be read as data: values of the printed kinds that fit (whole numbers of their kinds, lengths within the reach). For every program. -/
import Derived.Test.YtcnhepjdibbkgaaWMore
import Derived.Deep.Slices
import Derived.Lib.SmallJoins
import Derived.SizedLaws
import Derived.ChangeMaps5
namespace Go.Proofs.Ytcnhepjdibbkgaa.Opn
open Go.Proofs.YtcnhepjdibbkgaaW.PrintWords Go.ChangeShapes Go.RowKit Go.Deep
set_option linter.unusedVariables false

/-- Cells that can be read as data of type t, no heavier than the reach, are a value of kind d that fits. -/
def Opens {α : Type} (P : Program) (t : TypeId) (d : Kd α) (F : α → Prop) : Prop :=
  ∀ (H : Type) (enc : TypeId × Value → H) (w : World) (base : Nat) (sp : Nat → Bool) (held : Bool) (fuel : Nat) (cs : List Value) (x : DataW H × List MemPlace),
    DataW.trod enc P w base sp held fuel t cs = some x → (∀ n ∈ x.1.weights P t, n ≤ reachBytes) → ∃ a, d.K w a cs ∧ F a

theorem opens_int {P : Program} {t : TypeId} {k : IntKind} (ht : P.underlying t = some (.int k)) : Opens P t (Kd.int k) (fun n => (Lit.int k n).wf = true) := by
  intro H enc w base sp held fuel cs x h _
  obtain ⟨n, rfl, _, hw⟩ := DataW.trod_int ht h
  exact ⟨n, rfl, hw⟩
theorem opens_bool {P : Program} {t : TypeId} (ht : P.underlying t = some .bool) : Opens P t Kd.bool (fun _ => True) := by
  intro H enc w base sp held fuel cs x h _
  obtain ⟨b, rfl, _⟩ := DataW.trod_bool ht h
  exact ⟨b, rfl, trivial⟩
theorem opens_string {P : Program} {t : TypeId} (ht : P.underlying t = some .string) : Opens P t Kd.string (fun s => s.size ≤ 140737488351232) := by
  intro H enc w base sp held fuel cs x h hn
  obtain ⟨s, rfl, rfl, _⟩ := DataW.trod_string ht h
  have := hn s.data.toList.length (by simp [DataW.weights])
  refine ⟨s, rfl, ?_⟩
  have e : s.data.toList.length = s.size := by simp
  rw [e] at this
  exact this

theorem weights_all_mem {H : Type} {P : Program} {e : TypeId} {d : DataW H} : ∀ {l : List (DataW H)}, d ∈ l → ∀ n ∈ d.weights P e, n ∈ DataW.weightsAll P e l
  | y :: l, hd, n, hn => by
    simp only [DataW.weightsAll, List.mem_append]
    rcases List.mem_cons.1 hd with rfl | hd
    · exact Or.inl hn
    · exact Or.inr (weights_all_mem hd n hn)

theorem choose_list {β : Type} {p : Nat → β → Prop} : ∀ n, (∀ i, i < n → ∃ b, p i b) → ∃ l : List β, l.length = n ∧ ∀ i b, l[i]? = some b → p i b
  | 0, _ => ⟨[], rfl, fun i b h => by simp at h⟩
  | n + 1, h => by
    obtain ⟨l, hl, hp⟩ := choose_list n (fun i hi => h i (by omega))
    obtain ⟨b, hb⟩ := h n (by omega)
    refine ⟨l ++ [b], by simp [hl], fun i c hc => ?_⟩
    rcases Nat.lt_or_ge i l.length with hi | hi
    · rw [List.getElem?_append_left hi] at hc
      exact hp i c hc
    · rw [List.getElem?_append_right hi] at hc
      have h0 : i - l.length = 0 := by
        rcases Nat.eq_zero_or_pos (i - l.length) with h0 | h0
        · exact h0
        · rw [List.getElem?_eq_none (by simp; omega)] at hc
          cases hc
      rw [h0] at hc
      simp at hc
      subst hc
      have : i = n := by omega
      subst this
      exact hb

theorem opens_slice {α : Type} {P : Program} {t e : TypeId} {B : Nat} {d : Kd α} {F : α → Prop} (ht : P.underlying t = some (.slice e)) (hc : P.cellsOf e = d.sz) (hB : P.bytesOf e = B) (hd : Opens P e d F) :
    Opens P t (Kd.slice e d) (fun xs => xs.length ≤ maxLen ∧ xs.length * B ≤ 140737488351232 ∧ ∀ x ∈ xs, F x) := by
  intro H enc w base sp held fuel cs x h hn
  rcases open_slice ht h with ⟨rfl, rfl⟩ | ⟨a, len, cap, m, n, D, Pl, rfl, hb, hl, hm, hmm, rfl, hx⟩
  · exact ⟨[], ⟨none, 0, rfl, Nat.le_refl _, Kd.C_nil d w⟩, by simp, by simp, by simp⟩
  · have hlm : len ≤ m := by rw [hmm]; split <;> omega
    have hw : ∀ i, i < len → ∀ q ∈ (D i).weights P e, q ≤ reachBytes := by
      intro i hi q hq
      refine hn q ?_
      simp only [DataW.weights, ht, List.mem_cons, List.mem_append]
      exact Or.inr (Or.inl (weights_all_mem (List.mem_map.2 ⟨i, List.mem_range.2 hi, rfl⟩) q hq))
    have hsz : len * B ≤ 140737488351232 := by
      have := hn ((((List.range len).map D).length + ((List.range (m - len)).map fun j => D (len + j)).length) * P.bytesOf e) (by simp only [DataW.weights, ht]; exact List.mem_cons_self)
      rw [hB] at this
      refine Nat.le_trans (Nat.mul_le_mul_right B ?_) this
      simp
    obtain ⟨l, hll, hlp⟩ := choose_list (p := fun i b => ∃ cs', w.cells? base (a.add (i * P.cellsOf e)) (P.cellsOf e) = some cs' ∧ d.K w b cs' ∧ F b) len (fun i hi => by
      obtain ⟨cs', h1, h2⟩ := hx i (by omega)
      obtain ⟨b, hb1, hb2⟩ := hd H enc w base sp held n cs' (D i, Pl i) h2 (hw i hi)
      exact ⟨b, cs', h1, hb1, hb2⟩)
    refine ⟨l, ⟨some a, cap, by rw [hll], by rw [hll]; exact hl, ?_⟩, by rw [hll]; omega, by rw [hll]; exact hsz, ?_⟩
    · have hmx : l.length ≤ 9223372036854775807 := by rw [hll]; simp only [maxLen] at hm; omega
      refine ⟨rfl, hmx, fun _ => ⟨a, rfl, fun j p hj => ?_⟩⟩
      obtain ⟨cs', h1, h2, _⟩ := hlp j p hj
      obtain ⟨_, hlen, hcell⟩ := World.cells?_some h1
      refine ⟨cs', by rw [hlen, hc], h2, fun i u hu => ?_⟩
      have hi : i < P.cellsOf e := by
        rw [← hlen]
        exact (List.getElem?_eq_some_iff.1 hu).1
      have := hcell i hi
      rw [hu, hc] at this
      rw [← this]
      congr 1
      unfold Addr.add
      rcases Nat.eq_zero_or_pos (j * d.sz) with z | z <;> rcases Nat.eq_zero_or_pos i with z2 | z2
      · simp [z, z2]
      · simp [z]
      · simp [z2]
      · obtain ⟨ab, ao, as⟩ := a
        have n1 : ¬ j * d.sz = 0 := by omega
        have n2 : ¬ i = 0 := by omega
        have n3 : ¬ j * d.sz + i = 0 := by omega
        simp only [n1, n2, n3, if_false]
        cases as <;> simp
    · intro y hy
      obtain ⟨j, hj, rfl⟩ := List.getElem_of_mem hy
      exact (hlp j _ (List.getElem?_eq_getElem hj)).choose_spec.2.2

/-- A struct's fields from one on, at their places. -/
def OpensF {α : Type} (P : Program) (fs : List Field) (off : Nat) (d : Kd α) (F : α → Prop) : Prop :=
  ∀ (H : Type) (enc : TypeId × Value → H) (w : World) (base : Nat) (sp : Nat → Bool) (held : Bool) (fuel : Nat) (cs : List Value) (xs : List (DataW H × List MemPlace)),
    cs.length = off + d.sz → (fs.mapM fun f => DataW.trod enc P w base sp held fuel f.type ((cs.drop f.offset).take (P.cellsOf f.type))) = some xs →
    (∀ n ∈ DataW.weightsEach P (fs.map (·.type)) (xs.map (·.1)), n ≤ reachBytes) → ∃ a, d.K w a (cs.drop off) ∧ F a

theorem opensF_one {α : Type} {P : Program} {f : Field} {off : Nat} {d : Kd α} {F : α → Prop} (ho : f.offset = off) (hc : P.cellsOf f.type = d.sz) (hd : Opens P f.type d F) : OpensF P [f] off d F := by
  intro H enc w base sp held fuel cs xs hl hm hn
  obtain ⟨y, ys, hy, hys, rfl⟩ : ∃ y ys, DataW.trod enc P w base sp held fuel f.type ((cs.drop f.offset).take (P.cellsOf f.type)) = some y ∧ ys = [] ∧ xs = y :: ys := by
    cases hy : DataW.trod enc P w base sp held fuel f.type ((cs.drop f.offset).take (P.cellsOf f.type)) with
    | none => simp [List.mapM_cons, hy] at hm
    | some y => simp [List.mapM_cons, hy] at hm; exact ⟨y, [], rfl, rfl, hm.symm⟩
  subst hys
  have e : (cs.drop f.offset).take (P.cellsOf f.type) = cs.drop off := by
    rw [ho, hc, List.take_of_length_le (by rw [List.length_drop]; omega)]
  rw [e] at hy
  exact hd H enc w base sp held fuel _ y hy (fun n h => hn n (by simpa [DataW.weightsEach] using h))

theorem opensF_cons {α β : Type} {P : Program} {f : Field} {fs : List Field} {off : Nat} {d : Kd α} {d2 : Kd β} {F : α → Prop} {F2 : β → Prop} (ho : f.offset = off) (hc : P.cellsOf f.type = d.sz) (hd : Opens P f.type d F) (hd2 : OpensF P fs (off + d.sz) d2 F2) :
    OpensF P (f :: fs) off (Kd.pair d d2) (fun p => F p.1 ∧ F2 p.2) := by
  intro H enc w base sp held fuel cs xs hl hm hn
  have hsz : (Kd.pair d d2).sz = d.sz + d2.sz := rfl
  rw [hsz] at hl
  obtain ⟨y, ys, hy, hys, rfl⟩ : ∃ y ys, DataW.trod enc P w base sp held fuel f.type ((cs.drop f.offset).take (P.cellsOf f.type)) = some y ∧
      (fs.mapM fun f => DataW.trod enc P w base sp held fuel f.type ((cs.drop f.offset).take (P.cellsOf f.type))) = some ys ∧ xs = y :: ys := by
    cases hy : DataW.trod enc P w base sp held fuel f.type ((cs.drop f.offset).take (P.cellsOf f.type)) with
    | none => simp [List.mapM_cons, hy] at hm
    | some y =>
      cases hys : (fs.mapM fun f => DataW.trod enc P w base sp held fuel f.type ((cs.drop f.offset).take (P.cellsOf f.type))) with
      | none => simp [List.mapM_cons, hy, hys] at hm
      | some ys => simp [List.mapM_cons, hy, hys] at hm; exact ⟨y, ys, rfl, rfl, hm.symm⟩
  rw [ho, hc] at hy
  obtain ⟨a, ha, hF⟩ := hd H enc w base sp held fuel _ y hy (fun n h => hn n (by simp only [List.map_cons, DataW.weightsEach, List.mem_append]; exact Or.inl h))
  obtain ⟨b, hb, hF2⟩ := hd2 H enc w base sp held fuel cs ys (by omega) hys (fun n h => hn n (by simp only [List.map_cons, DataW.weightsEach, List.mem_append]; exact Or.inr h))
  refine ⟨(a, b), ⟨(cs.drop off).take d.sz, cs.drop (off + d.sz), ?_, ha, hb⟩, hF, hF2⟩
  rw [← List.drop_drop, List.take_append_drop]

theorem opens_struct {α : Type} {P : Program} {t : TypeId} {fs : Array Field} {d : Kd α} {F : α → Prop} (ht : P.underlying t = some (.struct fs)) (hc : P.cellsOf t = d.sz) (hd : OpensF P fs.toList 0 d F) : Opens P t d F := by
  intro H enc w base sp held fuel cs x h hn
  obtain ⟨fuel', rfl⟩ : ∃ n, fuel = n + 1 := by
    cases fuel with
    | zero => simp [DataW.trod] at h
    | succ n => exact ⟨n, rfl⟩
  rw [DataW.trod_step] at h
  simp only [DataW.trodStep, ht] at h
  split at h
  · rename_i hl
    obtain ⟨xs, hxs, rfl⟩ := Option.map_eq_some_iff.1 h
    obtain ⟨a, ha, hF⟩ := hd H enc w base sp held fuel' cs xs (by omega) hxs (fun n hq => hn n (by simp only [DataW.weights, ht]; exact hq))
    rw [List.drop_zero] at ha
    exact ⟨a, ha, hF⟩
  · cases h

theorem opens_iso {α β : Type} {P : Program} {t : TypeId} {d : Kd α} {F : α → Prop} (f : β → α) (g : α → β) (hfg : ∀ a, f (g a) = a) (hd : Opens P t d F) : Opens P t (Kd.iso d f) (fun b => F (f b)) := by
  intro H enc w base sp held fuel cs x h hn
  obtain ⟨a, ha, hF⟩ := hd H enc w base sp held fuel cs x h hn
  exact ⟨g a, show d.K w (f (g a)) cs by rw [hfg]; exact ha, show F (f (g a)) by rw [hfg]; exact hF⟩

/-- A row's argument, opened. -/
theorem arg_open {α H : Type} {enc : TypeId × Value → H} {P : Program} {W : World} {base : Nat} {sp : Nat → Bool} {held : Bool} {t : TypeId} {d : Kd α} {F : α → Prop} (ho : Opens P t d F) {v : Value} {x : DataW H} {ps : List MemPlace}
    (h : DataW.Trod enc P W base sp held t v x ps) {ts : List TypeId} {ds : List (DataW H)} {j : Nat} (hsz : (DataW.weightsEach P ts ds).all (· ≤ reachBytes) = true) (hj : ts[j]? = some t) (hx : ds[j]? = some x) : ∃ a, d.K W a v.cells.toList ∧ F a := by
  obtain ⟨fuel, hf⟩ := h
  exact ho H enc W base sp held fuel _ (x, ps) hf (fun n hn => by
    have := List.all_eq_true.1 hsz n (DataW.weights_mem_each hj hx n hn)
    simpa using this)
theorem trod_lt_ {H : Type} {enc : TypeId × Value → H} {P : Program} {W : World} {base : Nat} {sp : Nat → Bool} {held : Bool} {t : TypeId} {v : Value} {x : DataW H} {ps : List MemPlace} (h : DataW.Trod enc P W base sp held t v x ps) : ∀ y ∈ ps, y.block < W.heap.size := by
  obtain ⟨m, hm⟩ := h
  exact DataW.trod_lt m _ _ _ hm
end Go.Proofs.Ytcnhepjdibbkgaa.Opn
