/- Parcels that are taken come in order and are held no longer, and when they are returned, the box holds what it held; what is missed is told once: for every pair of byte strings. -/
import Derived.Test.YtdanachjdfiegaaQFnTakenx21
import Derived.Laws.BitsLemmas
namespace Go.Proofs.Ytdanachjdfiegaa.Pure
open Go.RowKit Go.Proofs.Ytdanachjdfiegaa.QFnTaken Go.Proofs.YtdanachjdfiegaaW.PrintWords Go.Proofs.YtdanachjdfiegaaW.PrintLast Go.Proofs.YtdanachjdfiegaaW.PrintMore
set_option linter.unusedVariables false

theorem w64 {n : Int} (h1 : -9223372036854775808 ≤ n) (h2 : n ≤ 9223372036854775807) : wrap64 n = n := by
  unfold wrap64
  omega
theorem wf64 {n : Int} (h : (Lit.int .i64 n).wf = true) : -9223372036854775808 ≤ n ∧ n ≤ 9223372036854775807 := by
  simp [Lit.wf, IntKind.min, IntKind.max, IntKind.signed, IntKind.bits] at h
  omega

theorem ev_pos {α : Type} {c : Prop} [Decidable c] {g f : Nat → Option α} {r : α} (h : c) (e : Ev g r) : Ev (fun k => if c then g k else f k) r := Ev.congr (fun _ => if_pos h) e
theorem ev_neg {α : Type} {c : Prop} [Decidable c] {g f : Nat → Option α} {r : α} (h : ¬ c) (e : Ev f r) : Ev (fun k => if c then g k else f k) r := Ev.congr (fun _ => if_neg h) e
theorem ev_b {α β : Type} {o : Option α} {a : α} {f : Nat → α → Option β} {r : β} (h : o = some a) (e : Ev (fun k => f k a) r) : Ev (fun k => o.bind (f k)) r := by subst h; exact e
theorem ev_eq {α : Type} {g : Nat → Option α} {r q : α} (e : Ev g r) (h : r = q) : Ev g q := h ▸ e
theorem ev_some {α : Type} {r q : α} (h : r = q) : Ev (fun _ => some r) q := h ▸ Ev.now r
/-- Down from a list's end. -/
theorem idx_ind {α : Type} (l : List α) (P : Nat → Prop) (hend : P l.length) (hstep : ∀ i, i < l.length → P (i + 1) → P i) : ∀ i, i ≤ l.length → P i := by
  have key : ∀ d i, i + d = l.length → P i := by
    intro d
    induction d with
    | zero => intro i h; have : i = l.length := by omega
              rw [this]; exact hend
    | succ d ih => intro i h; exact hstep i (by omega) (ih (i + 1) (by omega))
  intro i h
  exact key (l.length - i) i (by omega)
theorem rdOf_at {α : Type} (d : α) (l : List α) (i : Nat) (h : i < l.length) : rdOf d l (i : Int) = l[i] := by
  simp [rdOf, List.getD, h]
theorem drop_at {α : Type} (l : List α) (i : Nat) (h : i < l.length) : l.drop i = l[i] :: l.drop (i + 1) := List.drop_eq_getElem_cons h
theorem wsucc {i n : Nat} (h : i < n) (hn : n ≤ 9223372036854775807) : wrap64 ((i : Int) + 1) = ((i + 1 : Nat) : Int) := by
  rw [w64 (by omega) (by omega)]; rfl

theorem u64_range (n : Int) : 0 ≤ IntKind.u64.wrap n ∧ IntKind.u64.wrap n < 18446744073709551616 := by
  simp only [IntKind.wrap, IntKind.bits, IntKind.signed]
  constructor
  · exact Int.emod_nonneg _ (by decide)
  · exact Int.emod_lt_of_pos _ (by decide)
theorem u64_small (n : Int) (h0 : 0 ≤ n) (h1 : n < 2 ^ 24) : IntKind.u64.wrap n = n := by
  simp only [IntKind.wrap, IntKind.bits, IntKind.signed]
  have h1' : n < 16777216 := h1
  show n % 18446744073709551616 = n
  omega
/-- A byte that is drawn lies between 0 and 255. -/
theorem and255 (n : Int) : 0 ≤ Go.bits .and .u64 (IntKind.u64.wrap n / 1099511627776) 255 ∧ Go.bits .and .u64 (IntKind.u64.wrap n / 1099511627776) 255 ≤ 255 := by
  have h := u64_range n
  have e := bits_mask .u64 24 (by decide) u64_small 8 (by decide) (IntKind.u64.wrap n / 1099511627776) (by omega) (by show _ < (16777216 : Int); omega)
  have e2 : Go.bits .and .u64 (IntKind.u64.wrap n / 1099511627776) 255 = IntKind.u64.wrap n / 1099511627776 % 256 := e
  rw [e2]
  omega
def U8s (l : List Int) : Prop := ∀ x ∈ l, (Lit.int .u8 x).wf = true
theorem u8_rd {l : List Int} (h : U8s l) (i : Int) : 0 ≤ rd l i ∧ rd l i ≤ 255 := by
  unfold rd
  rcases Nat.lt_or_ge i.toNat l.length with hi | hi
  · have := h l[i.toNat] (List.getElem_mem hi)
    simp [Lit.wf, IntKind.min, IntKind.max, IntKind.signed, IntKind.bits] at this
    simp [List.getD, hi]
    omega
  · simp [List.getD, hi]
theorem nextOk {l : List Int} (h : U8s l) (i s : Int) (h0 : 0 ≤ i) (h1 : i ≤ 1000000000) : ∃ v s', spec_l00Src_next.f l i s = some (v, i + 1, s') ∧ 0 ≤ v ∧ v ≤ 255 := by
  have hr := u8_rd h i
  have e1 : wrap64 (i + 1) = i + 1 := w64 (by omega) (by omega)
  have e2 : wrap64 (rd l i) = rd l i := w64 (by omega) (by omega)
  unfold spec_l00Src_next.f
  rw [e1, e2]
  have big : ∀ n : Int, wrap64 (Go.bits .and .u64 (IntKind.u64.wrap n / 1099511627776) 255) = Go.bits .and .u64 (IntKind.u64.wrap n / 1099511627776) 255 := fun n => w64 (by have := and255 n; omega) (by have := and255 n; omega)
  by_cases c1 : i < (l.length : Int)
  · rw [if_pos c1, if_pos h0]
    by_cases c2 : i + 1 ≤ (l.length : Int)
    · rw [if_pos c2]; exact ⟨_, _, rfl, hr.1, hr.2⟩
    · rw [if_neg c2, big]; exact ⟨_, _, rfl, (and255 _).1, (and255 _).2⟩
  · rw [if_neg c1]
    by_cases c2 : i + 1 ≤ (l.length : Int)
    · rw [if_pos c2]; exact ⟨_, _, rfl, by omega, by omega⟩
    · rw [if_neg c2, big]; exact ⟨_, _, rfl, (and255 _).1, (and255 _).2⟩
theorem pickOk {l : List Int} (h : U8s l) (i s n : Int) (h0 : 0 ≤ i) (h1 : i ≤ 900000000) : ∃ v i' s', spec_l00Src_pick.f l i s n = some (v, i', s') ∧ 0 ≤ v ∧ (1 ≤ n → v < n) ∧ (n ≤ 1 → v = 0) ∧ i ≤ i' ∧ i' ≤ i + 2 := by
  unfold spec_l00Src_pick.f
  by_cases c : n ≤ 1
  · rw [if_pos c]; exact ⟨_, _, _, rfl, by omega, by omega, by omega, by omega, by omega⟩
  · rw [if_neg c]
    obtain ⟨v, s', e, v0, v1⟩ := nextOk h i s h0 (by omega)
    rw [e]
    simp only [Option.bind_some]
    by_cases c2 : n > 200
    · rw [if_pos c2]
      obtain ⟨v2, s2, e2, w0, w1⟩ := nextOk h (i + 1) s' (by omega) (by omega)
      rw [e2]
      simp only [Option.bind_some]
      rw [if_neg (by omega), w64 (n := v * 256) (by omega) (by omega), w64 (by omega) (by omega), Int.tmod_eq_emod_of_nonneg (by omega)]
      exact ⟨_, _, _, rfl, Int.emod_nonneg _ (by omega), fun _ => Int.emod_lt_of_pos _ (by omega), by omega, by omega, by omega⟩
    · rw [if_neg c2, if_neg (by omega), Int.tmod_eq_emod_of_nonneg (by omega)]
      exact ⟨_, _, _, rfl, Int.emod_nonneg _ (by omega), fun _ => Int.emod_lt_of_pos _ (by omega), by omega, by omega, by omega⟩

theorem r8At {l : List Int} (h : U8s l) (i n : Int) (h0 : 0 ≤ i) : ∃ v, laws_r8At.f l i n = some v ∧ 0 ≤ v ∧ (1 ≤ n → v < n) := by
  unfold laws_r8At.f
  by_cases c : n ≤ 1
  · rw [if_pos c]; exact ⟨0, rfl, by omega, by omega⟩
  · rw [if_neg c]
    by_cases c1 : i ≥ (l.length : Int)
    · rw [if_pos c1]; exact ⟨0, rfl, by omega, by omega⟩
    · have hr := u8_rd h i
      rw [if_neg c1, if_pos h0, if_pos (by omega), if_neg (by omega), w64 (by omega) (by omega), Int.tmod_eq_emod_of_nonneg (by omega)]
      exact ⟨_, rfl, Int.emod_nonneg _ (by omega), fun _ => Int.emod_lt_of_pos _ (by omega)⟩

theorem u64w {n : Int} (h : 0 ≤ n) (h2 : n < 18446744073709551616) : IntKind.u64.wrap n = n := by
  simp [IntKind.wrap, IntKind.signed, IntKind.bits]
  omega
theorem half {i j : Nat} (h : i + j ≤ 100000000) : wrap64 ((IntKind.u64.wrap (wrap64 ((i : Int) + (j : Int)))) / 2) = (((i + j) / 2 : Nat) : Int) := by
  rw [w64 (n := (i : Int) + (j : Int)) (by omega) (by omega), u64w (by omega) (by omega), w64 (by omega) (by omega)]
  omega
theorem bLess : ∀ (x y : List UInt8), Op.bytesLess x y = decide (x < y)
  | [], [] => by simp [Op.bytesLess]
  | _ :: _, [] => by simp [Op.bytesLess]
  | [], _ :: _ => by simp [Op.bytesLess]
  | a :: x, b :: y => by
    rw [Op.bytesLess, bLess x y]
    simp only [List.cons_lt_cons_iff]
    by_cases h1 : a < b <;> by_cases h2 : a = b <;> by_cases h3 : x < y <;> simp [h1, h2, h3]
theorem cmpNeg : ∀ (x y : List UInt8), Lib.compareBytes x y < 0 ↔ x < y
  | [], [] => by simp [Lib.compareBytes]
  | _ :: _, [] => by simp [Lib.compareBytes]
  | [], _ :: _ => by simp [Lib.compareBytes]
  | a :: x, b :: y => by
    rw [Lib.compareBytes, List.cons_lt_cons_iff]
    by_cases h1 : a < b
    · rw [if_pos h1]; simp [h1]
    · rw [if_neg h1]
      by_cases h2 : b < a
      · rw [if_pos h2]
        have : a ≠ b := fun e => by subst e; exact h1 h2
        simp [h1, this]
      · rw [if_neg h2, cmpNeg x y]
        have : a = b := UInt8.le_antisymm (UInt8.not_lt.1 h2) (UInt8.not_lt.1 h1)
        subst this
        simp
theorem cmpZero : ∀ (x y : List UInt8), Lib.compareBytes x y = 0 ↔ x = y
  | [], [] => by simp [Lib.compareBytes]
  | _ :: _, [] => by simp [Lib.compareBytes]
  | [], _ :: _ => by simp [Lib.compareBytes]
  | a :: x, b :: y => by
    rw [Lib.compareBytes, List.cons.injEq]
    by_cases h1 : a < b
    · rw [if_pos h1]
      have : a ≠ b := fun e => by subst e; exact absurd h1 (UInt8.lt_irrefl a)
      simp [this]
    · rw [if_neg h1]
      by_cases h2 : b < a
      · rw [if_pos h2]
        have : a ≠ b := fun e => by subst e; exact h1 h2
        simp [this]
      · rw [if_neg h2, cmpZero x y]
        have : a = b := UInt8.le_antisymm (UInt8.not_lt.1 h2) (UInt8.not_lt.1 h1)
        subst this
        simp
/-- Two byte strings are one, or one lies ahead. -/
theorem tri (x y : List UInt8) (h1 : ¬ x < y) (h2 : x ≠ y) : y < x := by
  have e1 := (not_congr (cmpNeg x y)).2 h1
  have e2 := (not_congr (cmpZero x y)).2 h2
  have e3 : 0 < Lib.compareBytes x y := by omega
  clear h1 h2 e1 e2
  revert e3
  induction x generalizing y with
  | nil => cases y <;> simp [Lib.compareBytes]
  | cons a x ih =>
    cases y with
    | nil => simp
    | cons b y =>
      rw [Lib.compareBytes, List.cons_lt_cons_iff]
      by_cases h1 : a < b
      · rw [if_pos h1]; intro h; omega
      · rw [if_neg h1]
        by_cases h2 : b < a
        · intro _; exact .inl h2
        · rw [if_neg h2]
          have : a = b := UInt8.le_antisymm (UInt8.not_lt.1 h2) (UInt8.not_lt.1 h1)
          exact fun h => .inr ⟨this.symm, ih y h⟩
/-- A word's bytes. -/
def dw (s : ByteArray) : List UInt8 := s.data.toList
theorem toList_dw (s : ByteArray) : s.toList = dw s := ByteArray.toList_eq s
/-- From some number of rounds on. -/
def Evp (p : Nat → Prop) : Prop := ∃ K, ∀ k, K ≤ k → p k
theorem Evp.and {p q : Nat → Prop} (h : Evp p) (h2 : Evp q) : Evp (fun k => p k ∧ q k) := by
  obtain ⟨K, h⟩ := h
  obtain ⟨K2, h2⟩ := h2
  exact ⟨K + K2, fun k hk => ⟨h k (by omega), h2 k (by omega)⟩⟩
theorem Evp.imp {p q : Nat → Prop} (h : Evp p) (h2 : ∀ k, p k → q k) : Evp q := by
  obtain ⟨K, h⟩ := h
  exact ⟨K, fun k hk => h2 k (h k hk)⟩
theorem ep {α : Type} {g : Nat → Option α} {r : α} (h : Ev g r) : Evp (fun k => g k = some r) := h
theorem Evp.of {p : Prop} (h : p) : Evp (fun _ => p) := ⟨0, fun _ _ => h⟩
/-! ### posts that are right -/
def okP (p : S97) : Prop := 1 ≤ p.f0 ∧ p.f0 ≤ 1000 ∧ 1 ≤ p.f1 ∧ p.f1 ≤ 1000000
def okB (lim : Int) (x : S58) : Prop := x.f0.size = 16 ∧ (1 ≤ x.f1 ∧ x.f1 ≤ 1000) ∧ (0 ≤ x.f2 ∧ x.f2 ≤ 1000000000) ∧ (x.f3.length : Int) ≤ lim ∧ ∀ p ∈ x.f3, okP p
def key (x : S58) : List UInt8 := dw x.f0
def okPost (lim : Int) (xs : List S58) : Prop := (1 ≤ lim ∧ lim ≤ 64) ∧ xs.length ≤ 32 ∧ (∀ x ∈ xs, okB lim x) ∧ (xs.map key).Pairwise (· < ·)
theorem rdB (l : List S58) (i : Nat) (h : i < l.length) : rd_T58 l (i : Int) = l[i] := by simp [rd_T58, List.getD, h]
theorem rdP (l : List S97) (i : Nat) (h : i < l.length) : rd_T97 l (i : Int) = l[i] := by simp [rd_T97, List.getD, h]
theorem up {xs : List S58} (h : (xs.map key).Pairwise (· < ·)) (i j : Nat) (hij : i < j) (hj : j < xs.length) : key (xs[i]'(by omega)) < key xs[j] := by
  have := List.pairwise_iff_getElem.1 h i j (by simp; omega) (by simpa using hj) hij
  simpa using this
theorem specIn (a b c : Int) : spec_l00In.f a b c = some (decide (b ≤ a ∧ a ≤ c)) := by
  unfold spec_l00In.f
  by_cases h : a ≥ b
  · rw [if_pos h]; simp [h]
  · rw [if_neg h]; simp; intro h2; omega
theorem implIn (a b c : Int) : impl_in.f a b c = some (decide (b ≤ a ∧ a ≤ c)) := by
  unfold impl_in.f
  by_cases h : a ≥ b
  · rw [if_pos h]; simp [h]
  · rw [if_neg h]; simp; intro h2; omega
theorem specIn1 {a b c : Int} (h : b ≤ a ∧ a ≤ c) : spec_l00In.f a b c = some true := by rw [specIn, decide_eq_true h]
theorem implIn1 {a b c : Int} (h : b ≤ a ∧ a ≤ c) : impl_in.f a b c = some true := by rw [implIn, decide_eq_true h]
theorem specParcel {p : S97} (h : okP p) : spec_l04Parcel.f p.f0 p.f1 = some true := by
  unfold spec_l04Parcel.f
  rw [specIn1 ⟨h.1, h.2.1⟩, Option.bind_some, if_pos rfl, specIn1 ⟨h.2.2.1, h.2.2.2⟩]
  rfl
theorem implBad {p : S97} (h : okP p) : impl_badParcel.f p.f0 p.f1 = some false := by
  unfold impl_badParcel.f impl_parcelOk.f
  rw [implIn1 ⟨h.1, h.2.1⟩, Option.bind_some, if_pos rfl, implIn1 ⟨h.2.2.1, h.2.2.2⟩]
  rfl
theorem specParcels (l : List S97) (hl : l.length ≤ 64) (h : ∀ p ∈ l, okP p) : Ev (fun k => spec_l04Parcels.f k l) true := by
  unfold spec_l04Parcels.f
  refine idx_ind l (fun i => Ev (fun k => spec_l04Parcels.l0 k l (i : Int)) true) ?_ ?_ 0 (Nat.zero_le _)
  · refine Ev.step (fun k => by rw [spec_l04Parcels.l0]) (ev_neg (by omega) ?_)
    refine Ev.step (fun k => by rw [spec_l04Parcels.j1]) (ev_neg (by simp) (ev_some ?_))
    exact decide_eq_true (by omega)
  · intro i hi ih
    refine Ev.step (fun k => by rw [spec_l04Parcels.l0]) (ev_pos (by omega) ?_)
    refine Ev.step (fun k => by rw [spec_l04Parcels.j1]) (ev_pos (decide_eq_true (by omega)) (ev_pos (by omega) (ev_pos (by omega) ?_)))
    rw [rdP l i hi]
    refine ev_b (specParcel (h _ (List.getElem_mem hi))) (ev_pos rfl ?_)
    rw [wsucc hi (by omega)]
    exact ih
theorem implParcels (l : List S97) (hl : l.length ≤ 64) (h : ∀ p ∈ l, okP p) : Ev (fun k => impl_parcelsOk.f k l) true := by
  unfold impl_parcelsOk.f impl_Parcel_v0.f impl_Parcel_v1.f
  refine ev_pos (by omega) ?_
  refine Ev.bind (a := false) ?_ (ev_some rfl)
  refine Ev.bind (a := -1) ?_ (ev_some (by decide))
  refine idx_ind l (fun i => Ev (fun k => impl_Parcel_v1.l0 k l (l.length : Int) (i : Int)) (-1)) ?_ ?_ 0 (Nat.zero_le _)
  · refine Ev.step (fun k => by rw [impl_Parcel_v1.l0]) (ev_neg (by omega) (ev_some rfl))
  · intro i hi ih
    refine Ev.step (fun k => by rw [impl_Parcel_v1.l0]) (ev_pos (by omega) (ev_pos (by omega) (ev_pos (by omega) ?_)))
    rw [rdP l i hi]
    refine ev_b (implBad (h _ (List.getElem_mem hi))) (ev_neg (by simp) ?_)
    rw [wsucc hi (by omega)]
    exact ih
theorem specIs {lim : Int} {xs : List S58} (h : okPost lim xs) : Ev (fun k => spec_l04Is.f k lim xs) true := by
  obtain ⟨hl, hn, hB, hU⟩ := h
  unfold spec_l04Is.f
  refine ev_b (specIn1 hl) (ev_pos rfl ?_)
  refine Ev.step (fun k => by rw [spec_l04Is.j0]) (ev_neg (by rw [decide_eq_false (by omega)]; simp) ?_)
  refine idx_ind xs (fun i => Ev (fun k => spec_l04Is.l0 k (i : Int) lim xs) true) ?_ ?_ 0 (Nat.zero_le _)
  · refine Ev.step (fun k => by rw [spec_l04Is.l0]) (ev_neg (by omega) (ev_some rfl))
  · intro i hi ih
    obtain ⟨b1, b2, b3, b4, b5⟩ := hB _ (List.getElem_mem hi)
    refine Ev.step (fun k => by rw [spec_l04Is.l0]) (ev_pos (by omega) (ev_pos (by omega) ?_))
    rw [rdB xs i hi]
    refine ev_pos (by omega) (ev_b (show spec_l02Id.f _ = some true by unfold spec_l02Id.f; rw [specIn1 b2]; rfl) (ev_pos rfl (ev_b (specIn1 b3) (ev_pos rfl (Ev.bind (specParcels _ (by omega) b5) (ev_pos rfl ?_))))))
    refine Ev.step (fun k => by rw [spec_l04Is.j2]) (ev_neg (by rw [decide_eq_false (by omega)]; simp) ?_)
    rw [wsucc hi (by omega)]
    by_cases c : i = 0
    · exact ev_neg (by omega) ih
    · have hw : wrap64 ((i : Int) - 1) = ((i - 1 : Nat) : Int) := by rw [w64 (by omega) (by omega)]; omega
      refine ev_pos (by omega) ?_
      rw [hw, rdB xs (i - 1) (by omega), rdB xs i hi]
      refine ev_pos (by omega) (ev_pos (by omega) (ev_pos ?_ ih))
      rw [bLess, toList_dw, toList_dw]
      exact decide_eq_true (up hU (i - 1) i (by omega) hi)
theorem implValid {lim : Int} {xs : List S58} (h : okPost lim xs) : Ev (fun k => impl_ValidPost.f k lim xs) true := by
  obtain ⟨hl, hn, hB, hU⟩ := h
  unfold impl_ValidPost.f
  refine ev_b (implIn1 hl) (ev_pos rfl ?_)
  refine Ev.step (fun k => by rw [impl_ValidPost.j0]) (ev_neg (by rw [decide_eq_false (by omega)]; simp) ?_)
  refine idx_ind xs (fun i => Ev (fun k => impl_ValidPost.l0 k xs (xs.length : Int) (i : Int) lim xs) true) ?_ ?_ 0 (Nat.zero_le _)
  · refine Ev.step (fun k => by rw [impl_ValidPost.l0]) (ev_neg (by omega) (ev_some rfl))
  · intro i hi ih
    obtain ⟨b1, b2, b3, b4, b5⟩ := hB _ (List.getElem_mem hi)
    refine Ev.step (fun k => by rw [impl_ValidPost.l0]) (ev_pos (by omega) (ev_pos (by omega) (ev_pos (by omega) ?_)))
    rw [rdB xs i hi]
    refine ev_b (show impl_IsToken.f _ = some true by unfold impl_IsToken.f; rw [b1]; rfl) (ev_pos rfl (ev_b (show impl_isMember.f _ = some true by unfold impl_isMember.f; rw [implIn1 b2]; rfl) (ev_pos rfl (ev_b (implIn1 b3) (ev_pos rfl (ev_neg (by omega) (Ev.bind (implParcels _ (by omega) b5) ?_)))))))
    refine Ev.step (fun k => by rw [impl_ValidPost.j2]) (ev_neg (by simp) ?_)
    rw [wsucc hi (by omega)]
    by_cases c : i = 0
    · exact ev_neg (by omega) ih
    · have hw : wrap64 ((i : Int) - 1) = ((i - 1 : Nat) : Int) := by rw [w64 (by omega) (by omega)]; omega
      refine ev_pos (by omega) ?_
      rw [hw, rdB xs (i - 1) (by omega)]
      refine ev_pos (by omega) (ev_pos (by omega) (ev_pos ?_ ih))
      rw [bLess, toList_dw, toList_dw]
      exact decide_eq_true (up hU (i - 1) i (by omega) hi)
theorem implClone {lim : Int} {xs : List S58} (h : okPost lim xs) : Ev (fun k => impl_clonePost.f k lim xs) (lim, xs) := by
  obtain ⟨hl, hn, hB, hU⟩ := h
  unfold impl_clonePost.f
  refine idx_ind xs (fun i => Ev (fun k => impl_clonePost.l0 k xs (xs.length : Int) (i : Int) lim (xs.take i)) (lim, xs)) ?_ ?_ 0 (Nat.zero_le _)
  · refine Ev.step (fun k => by rw [impl_clonePost.l0]) (ev_neg (by omega) (ev_some (by rw [List.take_length])))
  · intro i hi ih
    obtain ⟨b1, b2, b3, b4, b5⟩ := hB _ (List.getElem_mem hi)
    refine Ev.step (fun k => by rw [impl_clonePost.l0]) (ev_pos (by omega) (ev_pos (by omega) (ev_pos (by omega) ?_)))
    rw [rdB xs i hi]
    refine ev_b (show impl_Parcel_95.f _ = some xs[i].f3 by unfold impl_Parcel_95.f; rw [if_pos (by omega)]) (ev_pos (by rw [List.length_take]; omega) ?_)
    rw [wsucc hi (by omega)]
    have e : xs.take i ++ [⟨xs[i].f0, xs[i].f1, xs[i].f2, xs[i].f3⟩] = xs.take (i + 1) := (List.take_succ_eq_append_getElem hi).symm
    rw [e]
    exact ih
theorem specCopy {lim : Int} {xs : List S58} (h : okPost lim xs) : Ev (fun k => spec_l04Copy.f k lim xs) (lim, xs) := by
  obtain ⟨hl, hn, hB, hU⟩ := h
  unfold spec_l04Copy.f
  refine idx_ind xs (fun i => Ev (fun k => spec_l04Copy.l0 k (i : Int) lim xs lim (xs.take i)) (lim, xs)) ?_ ?_ 0 (Nat.zero_le _)
  · refine Ev.step (fun k => by rw [spec_l04Copy.l0]) (ev_neg (by omega) (ev_some (by rw [List.take_length])))
  · intro i hi ih
    obtain ⟨b1, b2, b3, b4, b5⟩ := hB _ (List.getElem_mem hi)
    refine Ev.step (fun k => by rw [spec_l04Copy.l0]) (ev_pos (by omega) (ev_pos (by omega) (ev_b rfl ?_)))
    rw [rdB xs i hi]
    refine ev_pos (by simp; omega) (ev_pos (by rw [List.length_take]; omega) ?_)
    rw [wsucc hi (by omega)]
    have e : xs.take i ++ [⟨xs[i].f0, xs[i].f1, xs[i].f2, [] ++ xs[i].f3⟩] = xs.take (i + 1) := (List.take_succ_eq_append_getElem hi).symm
    rw [e]
    exact ih
theorem specFind (lim : Int) (xs : List S58) (hn : xs.length ≤ 100) (tok : ByteArray) (i : Nat) (hi : i ≤ xs.length) (h1 : ∀ j (h : j < i), key (xs[j]'(by omega)) ≠ dw tok) (h2 : ∀ h : i < xs.length, key xs[i] = dw tok) : Ev (fun k => spec_l04Find.f k lim xs tok) (if i < xs.length then (i : Int) else -1) := by
  unfold spec_l04Find.f
  have hk : ∀ d j : Nat, j + d = i → Ev (fun k => spec_l04Find.l0 k tok (j : Int) lim xs) (if i < xs.length then (i : Int) else -1) := by
    intro d
    induction d with
    | zero =>
      intro j hj
      obtain rfl : j = i := by omega
      refine Ev.step (fun k => by rw [spec_l04Find.l0]) ?_
      by_cases c : j < xs.length
      · rw [if_pos c]
        refine ev_pos (by omega) (ev_pos (by omega) ?_)
        rw [rdB xs j c]
        exact ev_pos (by rw [toList_dw, toList_dw]; exact h2 c) (ev_some rfl)
      · rw [if_neg c]
        exact ev_neg (by omega) (ev_some rfl)
    | succ d ih =>
      intro j hj
      have hjl : j < xs.length := by omega
      refine Ev.step (fun k => by rw [spec_l04Find.l0]) (ev_pos (by omega) (ev_pos (by omega) ?_))
      rw [rdB xs j hjl]
      refine ev_neg (by rw [toList_dw, toList_dw]; exact h1 j (by omega)) ?_
      rw [wsucc hjl (by omega)]
      exact ih (j + 1) (by omega)
  exact hk i 0 (by omega)
theorem cmpE (a : ByteArray) (b c : Int) (l : List S97) (tok : ByteArray) : impl_Post_at_1_n93.f a b c l tok = some (Lib.compareBytes (dw a) (dw tok)) := by
  unfold impl_Post_at_1_n93.f strings_Compare_n94.f
  rfl
/-- The place of a box. -/
theorem implAt {lim : Int} {xs : List S58} (h : okPost lim xs) (p : Nat) (hp : p < xs.length) : Ev (fun k => impl_Post_at_n64.f k lim xs xs[p].f0) ((p : Int), true) := by
  obtain ⟨hl, hn, hB, hU⟩ := h
  have h1 : ∀ j (hj : j < p), key (xs[j]'(by omega)) < key xs[p] := fun j hj => up hU j p hj hp
  have h2 : ∀ j, p ≤ j → ∀ h : j < xs.length, ¬ key xs[j] < key xs[p] := fun j hj hl hlt => by
    rcases Nat.lt_or_ge p j with c | c
    · exact List.lt_irrefl _ (List.lt_trans (up hU p j c hl) hlt)
    · obtain rfl : j = p := by omega
      exact List.lt_irrefl _ hlt
  unfold impl_Post_at_n64.f impl_Box_string_v2.f
  refine Ev.bind (a := ((p : Int), true)) ?_ (ev_some rfl)
  have hk : ∀ d i j : Nat, j - i ≤ d → i ≤ p → p ≤ j → j ≤ xs.length → Ev (fun k => impl_Box_string_v2.l0 k xs xs[p].f0 (xs.length : Int) (i : Int) (j : Int)) ((p : Int), true) := by
    intro d
    induction d with
    | zero =>
      intro i j hd hi hj hn
      obtain rfl : i = j := by omega
      obtain rfl : i = p := by omega
      refine Ev.step (fun k => by rw [impl_Box_string_v2.l0]) (ev_neg (by omega) (ev_pos (by omega) (ev_pos (by omega) (ev_pos (by omega) ?_))))
      rw [rdB xs i hp]
      refine ev_b (cmpE _ _ _ _ _) (ev_some ?_)
      rw [(cmpZero _ _).2 rfl]
      rfl
    | succ d ih =>
      intro i j hd hi hj hn
      by_cases e : i = j
      · exact ih i j (by omega) hi hj hn
      · refine Ev.step (fun k => by rw [impl_Box_string_v2.l0]) (ev_pos (by omega) ?_)
        rw [half (by omega)]
        have hm : (i + j) / 2 < xs.length := by omega
        rw [rdB xs _ hm]
        refine ev_pos (by omega) (ev_pos (by omega) (ev_b (cmpE _ _ _ _ _) ?_))
        by_cases c : key xs[(i + j) / 2] < key xs[p]
        · have : (i + j) / 2 < p := by
            rcases Nat.lt_or_ge ((i + j) / 2) p with z | z
            · exact z
            · exact absurd c (h2 _ z hm)
          rw [wsucc hm (by omega)]
          exact ev_pos ((cmpNeg _ _).2 c) (ih _ _ (by omega) (by omega) hj hn)
        · have : p ≤ (i + j) / 2 := by
            rcases Nat.lt_or_ge ((i + j) / 2) p with z | z
            · exact absurd (h1 _ z) c
            · exact z
          exact ev_neg (fun z => c ((cmpNeg _ _).1 z)) (ih _ _ (by omega) hi this (by omega))
  exact hk xs.length 0 xs.length (by omega) (by omega) (by omega) (Nat.le_refl _)
theorem parcelsEq (l : List S97) (hl : l.length ≤ 100) : Ev (fun k => laws_r8Parcels.f k l l) true := by
  unfold laws_r8Parcels.f
  refine ev_pos rfl ?_
  refine idx_ind l (fun i => Ev (fun k => laws_r8Parcels.l0 k l l (i : Int)) true) ?_ ?_ 0 (Nat.zero_le _)
  · refine Ev.step (fun k => by rw [laws_r8Parcels.l0]) (ev_neg (by omega) (ev_some rfl))
  · intro i hi ih
    refine Ev.step (fun k => by rw [laws_r8Parcels.l0]) (ev_pos (by omega) (ev_pos (by omega) (ev_pos (by omega) (ev_neg (by simp) ?_))))
    rw [wsucc hi (by omega)]
    exact ih
/-! ### what is drawn -/
theorem placeE (a : List UInt8) : ∀ (l : List S58), (l.map key).Pairwise (· < ·) → ∃ p : Nat, p ≤ l.length ∧ (∀ j, j < p → ∀ h : j < l.length, key l[j] < a) ∧ ∀ j, p ≤ j → ∀ h : j < l.length, ¬ key l[j] < a
  | [], _ => ⟨0, by simp, fun j h => by omega, fun j _ h => by simp at h⟩
  | x :: r, hu => by
    rw [List.map_cons] at hu
    obtain ⟨u1, u2⟩ := List.pairwise_cons.1 hu
    by_cases c : key x < a
    · obtain ⟨p, p1, p2, p3⟩ := placeE a r u2
      refine ⟨p + 1, by simpa using p1, fun j hj h => ?_, fun j hj h => ?_⟩
      · cases j with
        | zero => exact c
        | succ j => exact p2 j (by omega) (by simpa using h)
      · cases j with
        | zero => omega
        | succ j => exact p3 j (by omega) (by simpa using h)
    · refine ⟨0, by simp, fun j h => by omega, fun j _ h => ?_⟩
      cases j with
      | zero => exact c
      | succ j =>
        have hr : j < r.length := by simpa using h
        have := u1 (key r[j]) (List.mem_map.2 ⟨_, List.getElem_mem _, rfl⟩)
        exact fun z => c (List.lt_trans this z)
theorem addTo {lim : Int} {xs : List S58} (h : okPost lim xs) (hn : xs.length ≤ 31) (tok : ByteArray) (ht : tok.size = 16) (mem : Int) (hm : 1 ≤ mem ∧ mem ≤ 1000) :
    ∃ ys, Evp (fun k => AddTo k lim xs tok mem ys) ∧ okPost lim ys ∧ ((∀ x ∈ xs, x.f3 = []) → ∀ y ∈ ys, y.f3 = []) ∧ 0 < ys.length ∧ xs.length ≤ ys.length ∧ ys.length ≤ xs.length + 1 := by
  obtain ⟨hl, hn2, hB, hU⟩ := id h
  obtain ⟨p, hp, p1, p2⟩ := placeE (dw tok) xs hU
  by_cases c : ∃ hp2 : p < xs.length, key xs[p] = dw tok
  · obtain ⟨hp2, c⟩ := c
    have hf := specFind lim xs (by omega) tok p hp (fun j hj e => by
      have := p1 j hj (by omega)
      rw [e] at this
      exact List.lt_irrefl _ this) (fun _ => c)
    rw [if_pos hp2] at hf
    refine ⟨xs, ((ep (specIs h)).and (ep hf)).imp (fun k hk => ⟨hk.1, .inl ⟨p, by omega, hk.2, rfl⟩⟩), h, fun z => z, by omega, Nat.le_refl _, by omega⟩
  · have hgt : ∀ j, p ≤ j → ∀ hj : j < xs.length, dw tok < key xs[j] := fun j hpj hj => by
      refine tri _ _ (p2 j hpj hj) (fun e => ?_)
      rcases Nat.lt_or_ge p j with z | z
      · have h1 := up hU p j z hj
        rw [e] at h1
        exact p2 p (Nat.le_refl _) (by omega) h1
      · obtain rfl : j = p := by omega
        exact c ⟨hj, e⟩
    have hne : ∀ j (hj : j < xs.length), key xs[j] ≠ dw tok := fun j hj e => by
      rcases Nat.lt_or_ge j p with z | z
      · have := p1 j z hj
        rw [e] at this
        exact List.lt_irrefl _ this
      · have := hgt j z hj
        rw [e] at this
        exact List.lt_irrefl _ this
    have hf := specFind lim xs (by omega) tok xs.length (Nat.le_refl _) (fun j hj => hne j hj) (fun z => absurd z (Nat.lt_irrefl _))
    rw [if_neg (Nat.lt_irrefl _)] at hf
    obtain ⟨ys, hys⟩ : ∃ ys, ys = xs.take p ++ ⟨tok, mem, 0, []⟩ :: xs.drop p := ⟨_, rfl⟩
    have hlen : ys.length = xs.length + 1 := by rw [hys]; simp; omega
    have hmem : ∀ y ∈ ys, y = ⟨tok, mem, 0, []⟩ ∨ y ∈ xs := by
      intro y hy
      rw [hys, List.mem_append, List.mem_cons] at hy
      rcases hy with hy | hy | hy
      · exact .inr (List.mem_of_mem_take hy)
      · exact .inl hy
      · exact .inr (List.mem_of_mem_drop hy)
    have hY : okPost lim ys := by
      refine ⟨hl, by omega, fun y hy => ?_, ?_⟩
      · rcases hmem y hy with rfl | hy
        · exact ⟨ht, hm, ⟨Int.le_refl _, by show (0 : Int) ≤ 1000000000; omega⟩, by simp; omega, fun p hp => by simp at hp⟩
        · exact hB y hy
      · rw [hys, List.map_append, List.map_cons, List.pairwise_append]
        have e : xs.map key = (xs.take p).map key ++ (xs.drop p).map key := by rw [← List.map_append, List.take_append_drop]
        rw [e, List.pairwise_append] at hU
        obtain ⟨u1, u2, u3⟩ := hU
        have hd : ∀ z ∈ (xs.drop p).map key, dw tok < z := by
          intro z hz
          obtain ⟨x, hx, rfl⟩ := List.mem_map.1 hz
          obtain ⟨j, hj, rfl⟩ := List.mem_iff_getElem.1 hx
          rw [List.getElem_drop]
          exact hgt _ (by omega) _
        have ht2 : ∀ z ∈ (xs.take p).map key, z < dw tok := by
          intro z hz
          obtain ⟨x, hx, rfl⟩ := List.mem_map.1 hz
          obtain ⟨j, hj, rfl⟩ := List.mem_iff_getElem.1 hx
          rw [List.length_take] at hj
          rw [List.getElem_take]
          exact p1 _ (by omega) _
        refine ⟨u1, List.pairwise_cons.2 ⟨hd, u2⟩, fun a ha b hb => ?_⟩
        rcases List.mem_cons.1 hb with rfl | hb
        · exact ht2 a ha
        · exact u3 a ha b hb
    refine ⟨ys, ((((ep (specIs h)).and (ep hf)).and (ep (specCopy h))).and (ep (specIs hY))).imp (fun k hk => ⟨hk.1.1.1, .inr ⟨hk.1.1.2, p, hp, by omega, hk.1.2, ?_, ?_, hys, hk.2⟩⟩), hY, fun z y hy => ?_, by omega, by omega, by omega⟩
    · intro j x hj hx
      obtain ⟨hjl, rfl⟩ := List.getElem?_eq_some_iff.1 hx
      rw [bLess, toList_dw, toList_dw]
      exact decide_eq_true (p1 j hj hjl)
    · intro x hx
      obtain ⟨hpl, rfl⟩ := List.getElem?_eq_some_iff.1 hx
      rw [bLess, toList_dw, toList_dw]
      exact ⟨decide_eq_false (p2 p (Nat.le_refl _) hpl), beq_eq_false_iff_ne.2 (hne p hpl)⟩
    · rcases hmem y hy with rfl | hy
      · rfl
      · exact z y hy
theorem tk5_size : ∀ t ∈ tk5, t.size = 16 := by
  intro t ht
  simp only [tk5, List.mem_cons, List.not_mem_nil, or_false] at ht
  rcases ht with rfl | rfl | rfl | rfl | rfl <;> rfl
theorem textOk {l : List Int} (h : U8s l) (i s : Int) (h0 : 0 ≤ i) (h1 : i ≤ 900000000) : ∃ t i' s', spec_l00Src_text.f l i s tk5 = some (t, i', s') ∧ t ∈ tk5 ∧ i ≤ i' ∧ i' ≤ i + 2 := by
  obtain ⟨v, i', s', e, v0, v1, -, a1, a2⟩ := pickOk h i s 5 h0 h1
  obtain ⟨m, rfl⟩ := Int.eq_ofNat_of_zero_le v0
  have hm : m < tk5.length := by have := v1 (by omega); show m < 5; omega
  unfold spec_l00Src_text.f
  rw [show ((tk5.length : Nat) : Int) = 5 from rfl, e, Option.bind_some, if_pos (by omega), if_pos (by have := v1 (by omega); omega)]
  refine ⟨_, _, _, rfl, ?_, a1, a2⟩
  show rdOf ByteArray.empty tk5 (m : Int) ∈ tk5
  rw [rdOf_at _ tk5 m hm]
  exact List.getElem_mem hm
theorem draw1 {l : List Int} (hs : U8s l) {lim : Int} : ∀ (n : Nat) (a b : Int) (xs : List S58), 0 ≤ a → a + 4 * n ≤ 900000000 → okPost lim xs → (∀ x ∈ xs, x.f3 = []) → xs.length + n ≤ 30 →
    ∃ a' b' ys, Evp (fun k => Draw1 k l lim n a b xs a' b' ys) ∧ okPost lim ys ∧ (∀ y ∈ ys, y.f3 = []) ∧ xs.length ≤ ys.length ∧ (0 < n → 0 < ys.length) ∧ ys.length ≤ xs.length + n ∧ 0 ≤ a' ∧ a' ≤ a + 4 * n
  | 0, a, b, xs, h0, _, hx, he, _ => ⟨a, b, xs, Evp.of ⟨rfl, rfl, rfl⟩, hx, he, Nat.le_refl _, fun h => absurd h (Nat.lt_irrefl _), by omega, h0, by omega⟩
  | n + 1, a, b, xs, h0, h1, hx, he, hl => by
    obtain ⟨t, a1, b1, e1, ht, q1, q2⟩ := textOk hs a b h0 (by omega)
    obtain ⟨m, a2, b2, e2, m0, m1, -, q3, q4⟩ := pickOk hs a1 b1 4 (by omega) (by omega)
    have hm := m1 (by omega)
    have hw : wrap64 (1 + m) = 1 + m := w64 (by omega) (by omega)
    obtain ⟨ys, hA, hY, hE, y0, y1, y2⟩ := addTo hx (by omega) t (tk5_size t ht) (wrap64 (1 + m)) (by rw [hw]; omega)
    obtain ⟨a', b', zs, hD, hZ, hF, z1, z2, z3, z4, z5⟩ := draw1 hs n a2 b2 ys (by omega) (by omega) hY (hE he) (by omega)
    refine ⟨a', b', zs, (hA.and hD).imp (fun k hk => ⟨t, a1, b1, m, a2, b2, ys, e1, e2, hk.1, hk.2⟩), hZ, hF, by omega, fun _ => by omega, by omega, z4, by omega⟩
theorem holdOk {l : List Int} (hs : U8s l) : ∀ (n : Nat) (a b : Int) (h : List S97), 0 ≤ a → a + 4 * n ≤ 900000000 → h.length + n ≤ 1000 → (∀ p ∈ h, okP p) →
    ∃ a' b' h', Hold l n a b h a' b' h' ∧ h'.length = h.length + n ∧ (∀ p ∈ h', okP p) ∧ 0 ≤ a' ∧ a' ≤ a + 4 * n
  | 0, a, b, h, h0, _, _, ho => ⟨a, b, h, ⟨rfl, rfl, rfl⟩, rfl, ho, h0, by omega⟩
  | n + 1, a, b, h, h0, h1, hl, ho => by
    obtain ⟨r, a1, b1, e1, r0, r1, -, q1, q2⟩ := pickOk hs a b 4 h0 (by omega)
    obtain ⟨m, a2, b2, e2, m0, m1, -, q3, q4⟩ := pickOk hs a1 b1 50 (by omega) (by omega)
    have hr := r1 (by omega)
    have hm := m1 (by omega)
    have w1 : wrap64 (1 + r) = 1 + r := w64 (by omega) (by omega)
    have w2 : wrap64 (1 + m) = 1 + m := w64 (by omega) (by omega)
    obtain ⟨a', b', h', hD, z1, z2, z3, z4⟩ := holdOk hs n a2 b2 (h ++ [⟨wrap64 (1 + r), wrap64 (1 + m)⟩]) (by omega) (by omega) (by simp; omega) (fun p hp => by
      rcases List.mem_append.1 hp with hp | hp
      · exact ho p hp
      · obtain rfl := List.mem_singleton.1 hp
        show 1 ≤ wrap64 (1 + r) ∧ wrap64 (1 + r) ≤ 1000 ∧ 1 ≤ wrap64 (1 + m) ∧ wrap64 (1 + m) ≤ 1000000
        rw [w1, w2]
        omega)
    refine ⟨a', b', h', ⟨by omega, r, a1, b1, m, a2, b2, e1, e2, hD⟩, by rw [z1]; simp; omega, z2, z3, by omega⟩
theorem draw2 {l : List Int} (hs : U8s l) {lim : Int} (hl : 1 ≤ lim ∧ lim ≤ 64) : ∀ (xs : List S58) (a b : Int), 0 ≤ a → a + 300 * xs.length ≤ 900000000 → (∀ x ∈ xs, okB lim x ∧ x.f3 = []) →
    ∃ res, Draw2 l (wrap64 (lim + 1)) xs a b res ∧ res.map key = xs.map key ∧ ∀ y ∈ res, okB lim y
  | [], a, b, _, _, _ => ⟨[], rfl, rfl, fun y hy => by simp at hy⟩
  | x :: t, a, b, h0, h1, ho => by
    obtain ⟨ho1, ho2⟩ := ho x (by simp)
    simp only [List.length_cons] at h1
    have w1 : wrap64 (lim + 1) = lim + 1 := w64 (by omega) (by omega)
    obtain ⟨c, a1, b1, e1, c0, c1, -, q1, q2⟩ := pickOk hs a b (wrap64 (lim + 1)) h0 (by omega)
    obtain ⟨n, rfl⟩ := Int.eq_ofNat_of_zero_le c0
    have hc := c1 (by omega)
    obtain ⟨a2, b2, h2, hH, z1, z2, z3, z4⟩ := holdOk hs n a1 b1 x.f3 (by omega) (by omega) (by rw [ho2]; simp; omega) (by rw [ho2]; simp)
    obtain ⟨ms, a3, b3, e3, m0, m1, -, q3, q4⟩ := pickOk hs a2 b2 3 z3 (by omega)
    have hm := m1 (by omega)
    obtain ⟨res, hD, k1, k2⟩ := draw2 hs hl t a3 b3 (by omega) (by omega) (fun y hy => ho y (by simp [hy]))
    refine ⟨⟨x.f0, x.f1, ms, h2⟩ :: res, ⟨n, a1, b1, a2, b2, h2, ms, a3, b3, res, by omega, e1, hH, e3, rfl, hD⟩, ?_, fun y hy => ?_⟩
    · rw [List.map_cons, List.map_cons, k1]
      rfl
    · rcases List.mem_cons.1 hy with rfl | hy
      · refine ⟨ho1.1, ho1.2.1, ⟨m0, by show ms ≤ 1000000000; omega⟩, ?_, z2⟩
        show (h2.length : Int) ≤ lim
        rw [z1, ho2]
        simp
        omega
      · exact k2 y hy
theorem r8Is {l : List Int} (hs : U8s l) : ∃ lim xs, Evp (fun k => R8Is k l lim xs) ∧ okPost lim xs ∧ 0 < xs.length := by
  obtain ⟨r0, a0, b0, e0, v0, v1, -, q1, q2⟩ := pickOk hs 0 0 5 (by omega) (by omega)
  obtain ⟨n0, a1, b1, e1, w0, w1, -, q3, q4⟩ := pickOk hs a0 b0 4 (by omega) (by omega)
  have hr := v1 (by omega)
  have hn := w1 (by omega)
  have x1 : wrap64 (1 + r0) = 1 + r0 := w64 (by omega) (by omega)
  have x2 : wrap64 (1 + n0) = 1 + n0 := w64 (by omega) (by omega)
  obtain ⟨N, hN⟩ := Int.eq_ofNat_of_zero_le (show 0 ≤ 1 + n0 by omega)
  obtain ⟨a2, b2, xs, hD, hX, hE, -, hp, hlen, q5, q6⟩ := draw1 hs (lim := wrap64 (1 + r0)) N a1 b1 [] (by omega) (by omega) ⟨by omega, by simp, fun x hx => by simp at hx, List.Pairwise.nil⟩ (fun x hx => by simp at hx) (by simp; omega)
  simp only [List.length_nil] at hlen
  have hp2 := hp (by omega)
  obtain ⟨res, hD2, k1, k2⟩ := draw2 hs hX.1 xs a2 b2 q5 (by omega) (fun x hx => ⟨hX.2.2.1 x hx, hE x hx⟩)
  have hl : res.length = xs.length := by
    have := congrArg List.length k1
    simpa using this
  refine ⟨wrap64 (1 + r0), res, hD.imp (fun k hk => ⟨r0, a0, b0, N, n0, a1, b1, a2, b2, xs, e0, rfl, e1, by rw [x2]; exact hN, by omega, hk, hp2, by omega, _, rfl, hD2⟩), ⟨hX.1, by omega, k2, by rw [k1]; exact hX.2.2.2⟩, by omega⟩
/-! ### taken, and given back -/
theorem okSet {lim : Int} {xs : List S58} (h : okPost lim xs) (i : Nat) (hi : i < xs.length) (y : S58) (hk : key y = key xs[i]) (hy : okB lim y) : okPost lim (xs.set i y) := by
  obtain ⟨hl, hn, hB, hU⟩ := h
  refine ⟨hl, by rw [List.length_set]; exact hn, fun x hx => ?_, ?_⟩
  · rcases List.mem_or_eq_of_mem_set hx with h | h
    · exact hB x h
    · rw [h]; exact hy
  · have e : (xs.set i y).map key = xs.map key := by
      rw [List.map_set, hk]
      refine List.ext_getElem? (fun j => ?_)
      rw [List.getElem?_set]
      by_cases c : i = j
      · subst c
        rw [if_pos rfl, if_pos (by simpa using hi), List.getElem?_map, List.getElem?_eq_getElem hi]
        rfl
      · rw [if_neg c]
    rw [e]
    exact hU
theorem takeOk {lim : Int} {xs : List S58} (h : okPost lim xs) (i : Nat) (hi : i < xs.length) (x : S58) (hx : xs[i] = x) (cnt : Int) (h0 : 0 ≤ cnt) (h1 : cnt ≤ 64) (m : Nat) (hm : mn cnt (x.f3.length : Int) = (m : Int)) :
    Evp (fun k => TakeOk k lim xs x.f0 cnt (xs.set i ⟨x.f0, x.f1, 0, x.f3.drop m⟩) (x.f3.take m) x.f2) ∧ okPost lim (xs.set i ⟨x.f0, x.f1, 0, x.f3.drop m⟩) := by
  have hb := h.2.2.1 _ (List.getElem_mem hi)
  rw [hx] at hb
  obtain ⟨b1, b2, b3, b4, b5⟩ := hb
  have hl := h.1
  have hY : okPost lim (xs.set i ⟨x.f0, x.f1, 0, x.f3.drop m⟩) := okSet h i hi _ (by rw [hx]; rfl) ⟨b1, b2, ⟨by show (0 : Int) ≤ 0; omega, by show (0 : Int) ≤ 1000000000; omega⟩, by show ((x.f3.drop m).length : Int) ≤ lim; rw [List.length_drop]; omega, fun p hp => b5 p (List.mem_of_mem_drop hp)⟩
  have ha := implAt h i hi
  rw [hx] at ha
  refine ⟨((((ep (implValid h)).and (ep (implClone h))).and (ep ha)).and (ep (implValid hY))).imp (fun k hk => ⟨i, m, x, rfl, rfl, rfl, hk.1.1.1, hk.1.1.2, hk.1.2, implIn1 ⟨h0, h1⟩, h0, by rw [List.getElem?_eq_getElem hi, hx], hm, by omega, hk.2⟩), hY⟩
theorem retOk {lim : Int} {xs : List S58} (h : okPost lim xs) (i : Nat) (hi : i < xs.length) (x : S58) (hx : xs[i] = x) (tk : List S97) (hl : ((tk ++ x.f3).length : Int) ≤ lim) (hp : ∀ p ∈ tk, okP p) :
    Evp (fun k => RetOk k lim xs x.f0 tk (xs.set i ⟨x.f0, x.f1, x.f2, tk ++ x.f3⟩)) ∧ okPost lim (xs.set i ⟨x.f0, x.f1, x.f2, tk ++ x.f3⟩) := by
  have hb := h.2.2.1 _ (List.getElem_mem hi)
  rw [hx] at hb
  obtain ⟨b1, b2, b3, b4, b5⟩ := hb
  have hl2 := h.1
  have hll : tk.length + x.f3.length ≤ 64 := by rw [List.length_append] at hl; omega
  have hY : okPost lim (xs.set i ⟨x.f0, x.f1, x.f2, tk ++ x.f3⟩) := okSet h i hi _ (by rw [hx]; rfl) ⟨b1, b2, b3, hl, fun p hp2 => (List.mem_append.1 hp2).elim (hp p) (b5 p)⟩
  have ha := implAt h i hi
  rw [hx] at ha
  refine ⟨(((((ep (implValid h)).and (ep (implClone h))).and (ep ha)).and (ep (implParcels tk (by omega) hp))).and (ep (implValid hY))).imp (fun k hk => ⟨i, x, rfl, hk.1.1.1.1, hk.1.1.1.2, hk.1.1.2, hk.1.2, by rw [List.getElem?_eq_getElem hi, hx], by omega, by omega, hl, by omega, hk.2⟩), hY⟩
theorem FnTaken : laws_FnTaken.Pure := by
  intro l0 l1 m0 y0 w0 m1 y1 w1
  by_cases hL : (l0.length : Int) > 48 ∨ (l1.length : Int) > 48
  · refine ⟨0, .inl ?_⟩
    unfold laws_r8Long.f
    by_cases c : (l0.length : Int) > 48
    · rw [if_pos c]
    · rw [if_neg c, decide_eq_true (hL.resolve_left c)]
  have hL0 : laws_r8Long.f l0 l1 = some false := by
    unfold laws_r8Long.f
    rw [if_neg (fun h => hL (.inl h)), decide_eq_false (fun h => hL (.inr h))]
  obtain ⟨lim, xs, hR, hX, hp⟩ := r8Is (l := l0) w0
  obtain ⟨v, eA0, v0, v1⟩ := r8At (l := l1) w1 0 (xs.length : Int) (by omega)
  obtain ⟨cnt, eA1, c0, c1⟩ := r8At (l := l1) w1 1 6 (by omega)
  have hc := c1 (by omega)
  obtain ⟨i, rfl⟩ := Int.eq_ofNat_of_zero_le v0
  have hi : i < xs.length := by have := v1 (by omega); omega
  obtain ⟨x, hx⟩ : ∃ x, xs[i] = x := ⟨_, rfl⟩
  have hb := hX.2.2.1 _ (List.getElem_mem hi)
  rw [hx] at hb
  have hlim := hX.1
  have hlen := hb.2.2.2.1
  obtain ⟨m, hm⟩ := Int.eq_ofNat_of_zero_le (show 0 ≤ mn cnt (x.f3.length : Int) by unfold mn; split <;> omega)
  have hml : m ≤ x.f3.length := by unfold mn at hm; split at hm <;> omega
  obtain ⟨hT1, hY⟩ := takeOk hX i hi x hx cnt c0 (by omega) m hm
  obtain ⟨ys, hys⟩ : ∃ ys, ys = xs.set i ⟨x.f0, x.f1, 0, x.f3.drop m⟩ := ⟨_, rfl⟩
  rw [← hys] at hT1 hY
  have hiy : i < ys.length := by rw [hys, List.length_set]; exact hi
  have hyi : ys[i] = ⟨x.f0, x.f1, 0, x.f3.drop m⟩ := by
    simp only [hys, List.getElem_set_self]
  obtain ⟨hRt, hB⟩ := retOk hY i hiy _ hyi (x.f3.take m) (by show ((x.f3.take m ++ x.f3.drop m).length : Int) ≤ lim; rw [List.take_append_drop]; exact hlen) (fun p hp => hb.2.2.2.2 p (List.mem_of_mem_take hp))
  have hdl : (x.f3.drop m).length = x.f3.length - m := List.length_drop
  obtain ⟨hT2, -⟩ := takeOk hY i hiy _ hyi 64 (by omega) (by omega) (x.f3.length - m) (by show mn 64 ((x.f3.drop m).length : Int) = _; rw [hdl]; unfold mn; split <;> omega)
  have hrest : (x.f3.drop m).take (x.f3.length - m) = x.f3.drop m := List.take_of_length_le (by omega)
  have hcat : x.f3.take m ++ (x.f3.drop m).take (x.f3.length - m) = x.f3 := by rw [hrest, List.take_append_drop]
  have hcat2 : x.f3.take m ++ x.f3.drop m = x.f3 := List.take_append_drop ..
  obtain ⟨K, hK⟩ := (((((hR.and hT1).and hRt).and hT2).and (ep (parcelsEq x.f3 (by omega)))).and (ep (implValid hB)))
  obtain ⟨⟨⟨⟨⟨k1, k2⟩, k3⟩, k4⟩, k5⟩, k6⟩ := hK K (Nat.le_refl _)
  refine ⟨K, .inr ⟨hL0, lim, xs, i, cnt, x, ys, x.f3.take m, _, _, _, _, k1, eA0, by rw [List.getElem?_eq_getElem hi, hx], eA1, k2, k3, k4, ?_, ?_, List.getElem?_set_self hiy, ?_, rfl, k6, ?_⟩⟩
  · show laws_r8Parcels.f K (x.f3.take m ++ (x.f3.drop m).take (x.f3.length - m)) x.f3 = some true
    rw [hcat]; exact k5
  · rw [List.length_take]
    unfold mn at hm
    split at hm <;> (split <;> omega)
  · show laws_r8Parcels.f K (x.f3.take m ++ x.f3.drop m) x.f3 = some true
    rw [hcat2]; exact k5
  · show (x.f3.take m).length + ((x.f3.drop m).take (x.f3.length - m)).length ≤ 900
    rw [hrest, List.length_take, hdl]
    omega

end Go.Proofs.Ytdanachjdfiegaa.Pure
