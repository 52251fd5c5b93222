/- Points never grow while no strike comes, the worst members come by their points, forgiving nothing changes nothing, and penalties grow with points: for all inputs. -/
import Derived.Test.YtjfaepolmllejaaQFnStrikesx8
import Derived.Laws.BitsLemmas
namespace Go.Proofs.Ytjfaepolmllejaa.Pure
open Go.RowKit Go.Proofs.Ytjfaepolmllejaa.QFnStrikes Go.Proofs.YtjfaepolmllejaaW.PrintWords Go.Proofs.YtjfaepolmllejaaW.PrintLast Go.Proofs.YtjfaepolmllejaaW.PrintMore
set_option linter.unusedVariables false

theorem w64 {n : Int} (h1 : -9223372036854775808 ≤ n) (h2 : n ≤ 9223372036854775807) : wrap64 n = n := by
  unfold wrap64
  omega
theorem wf64 {n : Int} (h : (Lit.int .i64 n).wf = true) : -9223372036854775808 ≤ n ∧ n ≤ 9223372036854775807 := by
  simp [Lit.wf, IntKind.min, IntKind.max, IntKind.signed, IntKind.bits] at h
  omega

theorem ev_pos {α : Type} {c : Prop} [Decidable c] {g f : Nat → Option α} {r : α} (h : c) (e : Ev g r) : Ev (fun k => if c then g k else f k) r := Ev.congr (fun _ => if_pos h) e
theorem ev_neg {α : Type} {c : Prop} [Decidable c] {g f : Nat → Option α} {r : α} (h : ¬ c) (e : Ev f r) : Ev (fun k => if c then g k else f k) r := Ev.congr (fun _ => if_neg h) e
theorem ev_b {α β : Type} {o : Option α} {a : α} {f : Nat → α → Option β} {r : β} (h : o = some a) (e : Ev (fun k => f k a) r) : Ev (fun k => o.bind (f k)) r := by subst h; exact e
theorem ev_eq {α : Type} {g : Nat → Option α} {r q : α} (e : Ev g r) (h : r = q) : Ev g q := h ▸ e
theorem ev_some {α : Type} {r q : α} (h : r = q) : Ev (fun _ => some r) q := h ▸ Ev.now r
/-- Down from a list's end. -/
theorem idx_ind {α : Type} (l : List α) (P : Nat → Prop) (hend : P l.length) (hstep : ∀ i, i < l.length → P (i + 1) → P i) : ∀ i, i ≤ l.length → P i := by
  have key : ∀ d i, i + d = l.length → P i := by
    intro d
    induction d with
    | zero => intro i h; have : i = l.length := by omega
              rw [this]; exact hend
    | succ d ih => intro i h; exact hstep i (by omega) (ih (i + 1) (by omega))
  intro i h
  exact key (l.length - i) i (by omega)
theorem rd_at (l : List Int) (i : Nat) (h : i < l.length) : rd l (i : Int) = l[i] := by
  simp [rd, List.getD, h]
theorem rdOf_at {α : Type} (d : α) (l : List α) (i : Nat) (h : i < l.length) : rdOf d l (i : Int) = l[i] := by
  simp [rdOf, List.getD, h]
theorem drop_at {α : Type} (l : List α) (i : Nat) (h : i < l.length) : l.drop i = l[i] :: l.drop (i + 1) := List.drop_eq_getElem_cons h
theorem wsucc {i n : Nat} (h : i < n) (hn : n ≤ 9223372036854775807) : wrap64 ((i : Int) + 1) = ((i + 1 : Nat) : Int) := by
  rw [w64 (by omega) (by omega)]; rfl

theorem u64_range (n : Int) : 0 ≤ IntKind.u64.wrap n ∧ IntKind.u64.wrap n < 18446744073709551616 := by
  simp only [IntKind.wrap, IntKind.bits, IntKind.signed]
  constructor
  · exact Int.emod_nonneg _ (by decide)
  · exact Int.emod_lt_of_pos _ (by decide)
theorem u64_small (n : Int) (h0 : 0 ≤ n) (h1 : n < 2 ^ 24) : IntKind.u64.wrap n = n := by
  simp only [IntKind.wrap, IntKind.bits, IntKind.signed]
  have h1' : n < 16777216 := h1
  show n % 18446744073709551616 = n
  omega
/-- A byte that is drawn lies between 0 and 255. -/
theorem and255 (n : Int) : 0 ≤ Go.bits .and .u64 (IntKind.u64.wrap n / 1099511627776) 255 ∧ Go.bits .and .u64 (IntKind.u64.wrap n / 1099511627776) 255 ≤ 255 := by
  have h := u64_range n
  have e := bits_mask .u64 24 (by decide) u64_small 8 (by decide) (IntKind.u64.wrap n / 1099511627776) (by omega) (by show _ < (16777216 : Int); omega)
  have e2 : Go.bits .and .u64 (IntKind.u64.wrap n / 1099511627776) 255 = IntKind.u64.wrap n / 1099511627776 % 256 := e
  rw [e2]
  omega
def U8s (l : List Int) : Prop := ∀ x ∈ l, (Lit.int .u8 x).wf = true
theorem u8_rd {l : List Int} (h : U8s l) (i : Int) : 0 ≤ rd l i ∧ rd l i ≤ 255 := by
  unfold rd
  rcases Nat.lt_or_ge i.toNat l.length with hi | hi
  · have := h l[i.toNat] (List.getElem_mem hi)
    simp [Lit.wf, IntKind.min, IntKind.max, IntKind.signed, IntKind.bits] at this
    simp [List.getD, hi]
    omega
  · simp [List.getD, hi]
theorem nextOk {l : List Int} (h : U8s l) (i s : Int) (h0 : 0 ≤ i) (h1 : i ≤ 1000000000) : ∃ v s', spec_l00Src_next.f l i s = some (v, i + 1, s') ∧ 0 ≤ v ∧ v ≤ 255 := by
  have hr := u8_rd h i
  have e1 : wrap64 (i + 1) = i + 1 := w64 (by omega) (by omega)
  have e2 : wrap64 (rd l i) = rd l i := w64 (by omega) (by omega)
  unfold spec_l00Src_next.f
  rw [e1, e2]
  have big : ∀ n : Int, wrap64 (Go.bits .and .u64 (IntKind.u64.wrap n / 1099511627776) 255) = Go.bits .and .u64 (IntKind.u64.wrap n / 1099511627776) 255 := fun n => w64 (by have := and255 n; omega) (by have := and255 n; omega)
  by_cases c1 : i < (l.length : Int)
  · rw [if_pos c1, if_pos h0]
    by_cases c2 : i + 1 ≤ (l.length : Int)
    · rw [if_pos c2]; exact ⟨_, _, rfl, hr.1, hr.2⟩
    · rw [if_neg c2, big]; exact ⟨_, _, rfl, (and255 _).1, (and255 _).2⟩
  · rw [if_neg c1]
    by_cases c2 : i + 1 ≤ (l.length : Int)
    · rw [if_pos c2]; exact ⟨_, _, rfl, by omega, by omega⟩
    · rw [if_neg c2, big]; exact ⟨_, _, rfl, (and255 _).1, (and255 _).2⟩
theorem pickOk {l : List Int} (h : U8s l) (i s n : Int) (h0 : 0 ≤ i) (h1 : i ≤ 900000000) : ∃ v i' s', spec_l00Src_pick.f l i s n = some (v, i', s') ∧ 0 ≤ v ∧ (1 ≤ n → v < n) ∧ (n ≤ 1 → v = 0) ∧ i ≤ i' ∧ i' ≤ i + 2 := by
  unfold spec_l00Src_pick.f
  by_cases c : n ≤ 1
  · rw [if_pos c]; exact ⟨_, _, _, rfl, by omega, by omega, by omega, by omega, by omega⟩
  · rw [if_neg c]
    obtain ⟨v, s', e, v0, v1⟩ := nextOk h i s h0 (by omega)
    rw [e]
    simp only [Option.bind_some]
    by_cases c2 : n > 200
    · rw [if_pos c2]
      obtain ⟨v2, s2, e2, w0, w1⟩ := nextOk h (i + 1) s' (by omega) (by omega)
      rw [e2]
      simp only [Option.bind_some]
      rw [if_neg (by omega), w64 (n := v * 256) (by omega) (by omega), w64 (by omega) (by omega), Int.tmod_eq_emod_of_nonneg (by omega)]
      exact ⟨_, _, _, rfl, Int.emod_nonneg _ (by omega), fun _ => Int.emod_lt_of_pos _ (by omega), by omega, by omega, by omega⟩
    · rw [if_neg c2, if_neg (by omega), Int.tmod_eq_emod_of_nonneg (by omega)]
      exact ⟨_, _, _, rfl, Int.emod_nonneg _ (by omega), fun _ => Int.emod_lt_of_pos _ (by omega), by omega, by omega, by omega⟩

theorem r8At {l : List Int} (h : U8s l) (i n : Int) (h0 : 0 ≤ i) : ∃ v, laws_r8At.f l i n = some v ∧ 0 ≤ v ∧ (1 ≤ n → v < n) := by
  unfold laws_r8At.f
  by_cases c : n ≤ 1
  · rw [if_pos c]; exact ⟨0, rfl, by omega, by omega⟩
  · rw [if_neg c]
    by_cases c1 : i ≥ (l.length : Int)
    · rw [if_pos c1]; exact ⟨0, rfl, by omega, by omega⟩
    · have hr := u8_rd h i
      rw [if_neg c1, if_pos h0, if_pos (by omega), if_neg (by omega), w64 (by omega) (by omega), Int.tmod_eq_emod_of_nonneg (by omega)]
      exact ⟨_, rfl, Int.emod_nonneg _ (by omega), fun _ => Int.emod_lt_of_pos _ (by omega)⟩

theorem implIn (a b c : Int) : impl_in.f a b c = some (decide (b ≤ a ∧ a ≤ c)) := by
  unfold impl_in.f
  by_cases h : a ≥ b
  · rw [if_pos h]; simp [h]
  · rw [if_neg h]; simp; intro h2; omega
theorem implTick (a : Int) : impl_isTick.f a = some (decide (0 ≤ a ∧ a ≤ 1000000)) := by
  unfold impl_isTick.f
  rw [implIn]; rfl

theorem rdOStrike (l : List S45) (i : Nat) (h : i < l.length) : rd_T45 l (i : Int) = l[i] := by
  simp [rd_T45, List.getD, h]

/-- A strike in order. -/
def StOk (x : S45) : Prop := (1 ≤ x.f0 ∧ x.f0 ≤ 1000) ∧ (0 ≤ x.f1 ∧ x.f1 ≤ 2) ∧ (0 ≤ x.f2 ∧ x.f2 ≤ 1000000)
instance (x : S45) : Decidable (StOk x) := by unfold StOk; infer_instance
/-- Strikes in order, from a tick on. -/
def sOk (p : Int) : List S45 → Bool
  | [] => true
  | x :: r => decide (StOk x ∧ p ≤ x.f2) && sOk x.f2 r
theorem implMember (a : Int) : impl_isMember.f a = some (decide (1 ≤ a ∧ a ≤ 1000)) := by
  unfold impl_isMember.f
  rw [implIn]; rfl
theorem implStrikes (l : List S45) (hl : l.length ≤ 100000000) : Ev (fun k => impl_AreStrikes.f k l) (sOk 0 l && decide (l.length ≤ 64)) := by
  have key := idx_ind l (fun i => ∀ p : Int, (i = 0 → p = 0) → (∀ h : 0 < i, ∀ h2 : i ≤ l.length, (l[i - 1]'(by omega)).f2 = p) → Ev (fun k => impl_AreStrikes.l0 k l l (l.length : Int) (i : Int)) (sOk p (l.drop i) && decide (l.length ≤ 64))) ?_ ?_
  · exact key 0 (Nat.zero_le _) 0 (fun _ => rfl) (fun h => by omega)
  · intro p _ _
    refine Ev.step (fun k => by rw [impl_AreStrikes.l0]) ?_
    refine ev_neg (by omega) (ev_some ?_)
    simp [sOk]
    omega
  · intro i hi ih p h0 hprev
    refine Ev.step (fun k => by rw [impl_AreStrikes.l0]) ?_
    rw [rdOStrike l i hi, drop_at l i hi, wsucc hi (by omega)]
    refine ev_pos (by omega) (ev_pos (by omega) (ev_pos (by omega) (ev_b (implMember _) ?_)))
    by_cases a1 : 1 ≤ l[i].f0 ∧ l[i].f0 ≤ 1000
    · refine ev_pos (by simpa using a1) (ev_b (implIn _ _ _) ?_)
      by_cases a2 : 0 ≤ l[i].f1 ∧ l[i].f1 ≤ 2
      · refine ev_pos (by simpa using a2) (ev_b (implTick _) ?_)
        by_cases a3 : 0 ≤ l[i].f2 ∧ l[i].f2 ≤ 1000000
        · refine ev_pos (by simpa using a3) ?_
          have next := ih l[i].f2 (fun h => by omega) (fun _ _ => rfl)
          have ok : StOk l[i] := ⟨a1, a2, a3⟩
          by_cases h1 : 0 < i
          · have e1 : wrap64 ((i : Int) - 1) = ((i - 1 : Nat) : Int) := by rw [w64 (by omega) (by omega)]; omega
            rw [e1, rdOStrike l (i - 1) (by omega), hprev h1 (by omega)]
            refine ev_pos (by omega) (ev_pos (by omega) (ev_pos (by omega) ?_))
            by_cases hp2 : p > l[i].f2
            · refine ev_pos hp2 (ev_some ?_)
              have : ¬ p ≤ l[i].f2 := by omega
              simp [sOk, this]
            · refine ev_neg hp2 (ev_eq next ?_)
              have : p ≤ l[i].f2 := by omega
              simp [sOk, this, ok]
          · have hp0 := h0 (by omega)
            refine ev_neg (by omega) (ev_eq next ?_)
            have : p ≤ l[i].f2 := by omega
            simp [sOk, this, ok]
        · refine ev_neg (by simpa using a3) (ev_some ?_)
          have : ¬ StOk l[i] := fun h => a3 h.2.2
          simp [sOk, this]
      · refine ev_neg (by simpa using a2) (ev_some ?_)
        have : ¬ StOk l[i] := fun h => a2 h.2.1
        simp [sOk, this]
    · refine ev_neg (by simpa using a1) (ev_some ?_)
      have : ¬ StOk l[i] := fun h => a1 h.1
      simp [sOk, this]

/-- What is left of a strike's points. -/
def ptOf (m t f : Int) (x : S45) : Nat := if x.f0 = m ∧ x.f2 ≤ t then 2 ^ x.f1.toNat / 2 ^ ((t - x.f2) / f).toNat else 0
def ptsOf (m t f : Int) : List S45 → Nat
  | [] => 0
  | x :: r => ptOf m t f x + ptsOf m t f r
theorem ptOf_le {m t f : Int} {x : S45} (h : StOk x) : ptOf m t f x ≤ 4 := by
  unfold ptOf
  split
  · have h1 : 2 ^ x.f1.toNat ≤ 2 ^ 2 := Nat.pow_le_pow_right (by omega) (by have := h.2.1; omega)
    exact Nat.le_trans (Nat.div_le_self _ _) h1
  · omega
theorem shl1 {n : Int} (h0 : 0 ≤ n) (h2 : n ≤ 2) : shl .i64 1 n = ((2 ^ n.toNat : Nat) : Int) := by
  rcases (show n = 0 ∨ n = 1 ∨ n = 2 by omega) with rfl | rfl | rfl <;> rfl
theorem u64small {n : Int} (h0 : 0 ≤ n) (h2 : n ≤ 2) : IntKind.u64.wrap n = n := by
  rcases (show n = 0 ∨ n = 1 ∨ n = 2 by omega) with rfl | rfl | rfl <;> rfl
theorem sOk_head {p : Int} {x : S45} {r : List S45} (h : sOk p (x :: r) = true) : StOk x ∧ sOk x.f2 r = true := by
  simp only [sOk, Bool.and_eq_true, decide_eq_true_eq] at h
  exact ⟨h.1.1, h.2⟩
theorem sOk_drop {l : List S45} : ∀ {p : Int} (i : Nat), sOk p l = true → ∃ q, sOk q (l.drop i) = true := by
  induction l with
  | nil => intro p i h; exact ⟨p, by simpa using h⟩
  | cons x r ih =>
    intro p i h
    cases i with
    | zero => exact ⟨p, h⟩
    | succ i => exact ih i (sOk_head h).2
theorem pow9 {a q : Nat} (h : a ≤ 2) : 2 ^ a / 2 ^ (min q 9) = 2 ^ a / 2 ^ q := by
  by_cases hq : q ≤ 9
  · rw [Nat.min_eq_left hq]
  · rw [Nat.min_eq_right (by omega)]
    have h1 : 2 ^ a ≤ 2 ^ 2 := Nat.pow_le_pow_right (by omega) h
    have h2 : 2 ^ 9 ≤ 2 ^ q := Nat.pow_le_pow_right (by omega) (by omega)
    rw [Nat.div_eq_of_lt (by omega), Nat.div_eq_of_lt (by omega)]
theorem implPoints (l : List S45) (m t f : Int) (hl : l.length ≤ 64) (hs : sOk 0 l = true) (ht : 0 ≤ t ∧ t ≤ 1000000) (hf : 1 ≤ f ∧ f ≤ 1000000) : Ev (fun k => impl_points.f k l m t f) (ptsOf m t f l : Int) := by
  have key := idx_ind l (fun i => ∀ acc : Nat, acc ≤ 4 * i → Ev (fun k => impl_points.l0 k m t f (acc : Int) l (l.length : Int) (i : Int)) ((acc + ptsOf m t f (l.drop i) : Nat) : Int)) ?_ ?_
  · have := key 0 (Nat.zero_le _) 0 (by omega)
    unfold impl_points.f
    simpa using this
  · intro acc _
    refine Ev.step (fun k => by rw [impl_points.l0]) ?_
    refine ev_neg (by omega) (ev_some ?_)
    simp [ptsOf]
  · intro i hi ih acc hacc
    obtain ⟨q, hq⟩ := sOk_drop i hs
    rw [drop_at l i hi] at hq
    have ok := (sOk_head hq).1
    have hle := ptOf_le (m := m) (t := t) (f := f) ok
    refine Ev.step (fun k => by rw [impl_points.l0]) ?_
    rw [rdOStrike l i hi, drop_at l i hi, wsucc hi (by omega)]
    refine ev_pos (by omega) (ev_pos (by omega) (ev_pos (by omega) ?_))
    obtain ⟨_, ⟨k0, k2⟩, ⟨t0, t1⟩⟩ := ok
    by_cases hm : l[i].f0 = m
    · refine ev_pos hm ?_
      by_cases hat : l[i].f2 ≤ t
      · refine ev_pos hat (ev_pos k0 (ev_neg (by omega) ?_))
        have g0 : 0 ≤ (t - l[i].f2) / f := Int.ediv_nonneg (by omega) (by omega)
        have g1 : (t - l[i].f2) / f ≤ t - l[i].f2 := Int.ediv_le_self _ (by omega)
        have e1 : mn (wrap64 ((wrap64 (t - l[i].f2)).tdiv f)) 9 = ((min ((t - l[i].f2) / f).toNat 9 : Nat) : Int) := by
          rw [w64 (n := t - l[i].f2) (by omega) (by omega), Int.tdiv_eq_ediv_of_nonneg (by omega), w64 (by omega) (by omega)]
          unfold mn
          split <;> omega
        have hp : ptOf m t f l[i] = 2 ^ l[i].f1.toNat / 2 ^ ((t - l[i].f2) / f).toNat := by unfold ptOf; rw [if_pos ⟨hm, hat⟩]
        have e2 : shl .i64 1 l[i].f1 / 2 ^ (min ((t - l[i].f2) / f).toNat 9) = ((ptOf m t f l[i] : Nat) : Int) := by
          rw [shl1 k0 k2, hp, ← pow9 (q := ((t - l[i].f2) / f).toNat) (show l[i].f1.toNat ≤ 2 by omega)]
          simp
        rw [e1]
        refine ev_pos (by omega) ?_
        rw [Int.toNat_natCast, e2, w64 (by omega) (by omega)]
        have := ih (acc + ptOf m t f l[i]) (by omega)
        simp only [ptsOf]
        rw [show acc + (ptOf m t f l[i] + ptsOf m t f (l.drop (i + 1))) = acc + ptOf m t f l[i] + ptsOf m t f (l.drop (i + 1)) by omega]
        simpa using this
      · refine ev_neg hat (ev_eq (ih acc (by omega)) ?_)
        simp [ptsOf, ptOf, hat]
    · refine ev_neg hm (ev_eq (ih acc (by omega)) ?_)
      simp [ptsOf, ptOf, hm]

/-- A strike that is too old. -/
def pS (c : Int) (x : S45) : Bool := decide (x.f2 < c)
theorem pS_f (x : S45) (c : Int) : impl_ForgiveOld_1_v2.f x.f0 x.f1 x.f2 c = some (pS c x) := rfl

theorem rddS (l : List S45) (i : Nat) (h : i < l.length) : rd_T45 l (i : Int) = l[i] := by
  simp [rd_T45, List.getD, h]
theorem fndS (c : Int) (l : List S45) (hl : l.length ≤ 100000000) : ∃ r : Int, Ev (fun k => impl_Strike_v1.f k l c) r ∧ ((r = -1 ∧ ∀ j (h : j < l.length), pS c l[j] = false) ∨ ∃ i, ∃ h : i < l.length, r = (i : Int) ∧ pS c l[i] = true ∧ ∀ j (h : j < l.length), j < i → pS c l[j] = false) := by
  have key := idx_ind l (fun i => (∀ j (h : j < l.length), j < i → pS c l[j] = false) → ∃ r : Int, Ev (fun k => impl_Strike_v1.l0 k l (l.length : Int) (i : Int) c) r ∧ ((r = -1 ∧ ∀ j (h : j < l.length), pS c l[j] = false) ∨ ∃ i, ∃ h : i < l.length, r = (i : Int) ∧ pS c l[i] = true ∧ ∀ j (h : j < l.length), j < i → pS c l[j] = false)) ?_ ?_
  · exact key 0 (Nat.zero_le _) (fun j _ h => by omega)
  · intro hall
    refine ⟨-1, ?_, .inl ⟨rfl, fun j h => hall j h h⟩⟩
    refine Ev.step (fun k => by rw [impl_Strike_v1.l0]) ?_
    exact ev_neg (by omega) (Ev.now _)
  · intro i hi ih hall
    by_cases hp : pS c l[i] = true
    · refine ⟨(i : Int), ?_, .inr ⟨i, hi, rfl, hp, hall⟩⟩
      refine Ev.step (fun k => by rw [impl_Strike_v1.l0]) ?_
      refine ev_pos (by omega) (ev_pos (by omega) (ev_pos (by omega) ?_))
      rw [rddS l i hi]
      exact ev_b (pS_f _ _) (ev_pos hp (Ev.now _))
    · obtain ⟨r, h1, h2⟩ := ih (fun j h hj => by
        rcases Nat.lt_or_eq_of_le (Nat.lt_succ_iff.1 hj) with h3 | h3
        · exact hall j h h3
        · subst h3; simpa using hp)
      refine ⟨r, ?_, h2⟩
      refine Ev.step (fun k => by rw [impl_Strike_v1.l0]) ?_
      refine ev_pos (by omega) (ev_pos (by omega) (ev_pos (by omega) ?_))
      rw [rddS l i hi, wsucc hi (by omega)]
      exact ev_b (pS_f _ _) (ev_neg hp h1)
theorem dellS (c : Int) (l : List S45) (hl : l.length ≤ 100000000) : ∀ j, j ≤ l.length → ∀ (x : List S45) (i : Nat), x.length = l.length → i ≤ j → x.take i = (l.take j).filter (fun y => !pS c y) → x.drop j = l.drop j → Ev (fun k => impl_Strike_v0.l0 k x (i : Int) (j : Int) c) (l.filter (fun y => !pS c y)) := by
  refine idx_ind l _ ?_ ?_
  · intro x i hx hi ht hd
    refine Ev.step (fun k => by rw [impl_Strike_v0.l0]) ?_
    refine ev_neg (by omega) (ev_pos (by omega) (ev_pos (by omega) (ev_some ?_)))
    rw [List.take_length] at ht
    rw [← ht, Int.toNat_natCast]
    exact List.take_left' (by rw [List.length_take]; omega)
  · intro j hj ih x i hx hi ht hd
    have hxj : j < x.length := by omega
    have hv : x[j] = l[j] := by
      have h1 : (x.drop j)[0]? = (l.drop j)[0]? := by rw [hd]
      rw [List.getElem?_drop, List.getElem?_drop, Nat.add_zero, List.getElem?_eq_getElem hxj, List.getElem?_eq_getElem hj] at h1
      exact Option.some.inj h1
    have hd2 : x.drop (j + 1) = l.drop (j + 1) := by
      have h1 : (x.drop j).drop 1 = (l.drop j).drop 1 := by rw [hd]
      rwa [List.drop_drop, List.drop_drop] at h1
    have ht2 : l.take (j + 1) = l.take j ++ [l[j]] := by rw [List.take_succ_eq_append_getElem hj]
    refine Ev.step (fun k => by rw [impl_Strike_v0.l0]) ?_
    refine ev_pos (by omega) (ev_pos (by omega) ?_)
    rw [rddS x j hxj, hv, wsucc (n := l.length) (i := j) hj (by omega)]
    refine ev_b (pS_f _ _) ?_
    by_cases hp : pS c l[j] = true
    · refine ev_pos hp (ih x i hx (by omega) ?_ hd2)
      rw [ht2, List.filter_append, ht]
      simp [hp]
    · refine ev_neg hp (ev_pos (by omega) (ev_pos (by omega) ?_))
      rw [wsucc (n := l.length) (i := i) (by omega) (by omega)]
      have hset : (x.set i l[j]).take (i + 1) = (l.take (j + 1)).filter (fun y => !pS c y) := by
        rw [List.take_succ_eq_append_getElem (by rw [List.length_set]; omega), List.take_set_of_le (Nat.le_refl _), ht, ht2, List.filter_append]
        simp [hp]
      exact ih (x.set i l[j]) (i + 1) (by rw [List.length_set]; exact hx) (by omega) hset (by rw [List.drop_set_of_lt (by omega)]; exact hd2)
/-- What slices.DeleteFunc does. -/
theorem delS (c : Int) (l : List S45) (hl : l.length ≤ 100000000) : Ev (fun k => impl_Strike_v0.f k l c) (l.filter (fun y => !pS c y)) := by
  obtain ⟨r, h1, h2⟩ := fndS c l hl
  unfold impl_Strike_v0.f
  refine Ev.bind h1 ?_
  rcases h2 with ⟨rfl, hall⟩ | ⟨i, hi, rfl, hp, hall⟩
  · refine ev_pos rfl (ev_some ?_)
    exact (List.filter_eq_self.2 fun y hy => by
      obtain ⟨j, hj, rfl⟩ := List.mem_iff_getElem.1 hy
      rw [hall j hj]; rfl).symm
  · refine ev_neg (by omega) ?_
    rw [wsucc hi (by omega)]
    have ht2 : l.take (i + 1) = l.take i ++ [l[i]] := by rw [List.take_succ_eq_append_getElem hi]
    refine dellS c l hl (i + 1) (by omega) l i rfl (by omega) ?_ rfl
    rw [ht2, List.filter_append]
    have h3 : (l.take i).filter (fun y => !pS c y) = l.take i := List.filter_eq_self.2 fun y hy => by
      obtain ⟨j, hj, rfl⟩ := List.mem_iff_getElem.1 hy
      rw [List.length_take] at hj
      rw [List.getElem_take, hall j (by omega) (by omega)]; rfl
    rw [h3]
    simp [hp]

def forgAns (l : List S45) (b : Int) : List S45 × Bool := if (sOk 0 l && decide (l.length ≤ 64)) = true ∧ (0 ≤ b ∧ b ≤ 1000000) then (l.filter (fun y => !pS b y), true) else ([], false)
theorem implForg (l : List S45) (b : Int) (hl : l.length ≤ 10000000) : Ev (fun k => impl_ForgiveOld.f k l b) (forgAns l b) := by
  unfold impl_ForgiveOld.f forgAns
  refine Ev.bind (implStrikes l (by omega)) ?_
  have no : ¬ ((sOk 0 l && decide (l.length ≤ 64)) = true ∧ (0 ≤ b ∧ b ≤ 1000000)) → Ev (fun k => impl_ForgiveOld.j0 k l true b) (if (sOk 0 l && decide (l.length ≤ 64)) = true ∧ (0 ≤ b ∧ b ≤ 1000000) then (l.filter (fun y => !pS b y), true) else ([], false)) := by
    intro h
    rw [if_neg h]
    refine Ev.step (fun k => by rw [impl_ForgiveOld.j0]) ?_
    exact ev_pos rfl (Ev.now _)
  by_cases h : (sOk 0 l && decide (l.length ≤ 64)) = true
  · refine ev_pos h (ev_b (implTick _) ?_)
    by_cases h2 : 0 ≤ b ∧ b ≤ 1000000
    · rw [if_pos ⟨h, h2⟩, show (!decide (0 ≤ b ∧ b ≤ 1000000)) = false by simpa using h2]
      refine Ev.step (fun k => by rw [impl_ForgiveOld.j0]) ?_
      have hc : impl_Strike_64.f l = some l := by unfold impl_Strike_64.f; rw [if_pos (by omega)]
      exact ev_neg (by simp) (ev_b hc (Ev.bind (delS b l (by omega)) (Ev.now _)))
    · rw [decide_eq_false h2]
      exact no fun z => h2 z.2
  · exact ev_neg h (no fun z => h z.1)

theorem sOk_front (x : S45) : ∀ (l : List S45) (p : Int), sOk p (l ++ [x]) = true → sOk p l = true
  | [], _, _ => rfl
  | y :: r, p, h => by
    simp only [List.cons_append, sOk, Bool.and_eq_true] at h ⊢
    exact ⟨h.1, sOk_front x r _ h.2⟩
def addAns (l : List S45) (x : S45) : List S45 × Bool := if (sOk 0 (l ++ [x]) && decide ((l ++ [x]).length ≤ 64)) = true then (l ++ [x], true) else ([], false)
theorem implAdd (l : List S45) (x : S45) (hl : l.length ≤ 10000000) : Ev (fun k => impl_AddStrike.f k l x.f0 x.f1 x.f2) (addAns l x) := by
  unfold impl_AddStrike.f addAns
  have hc : impl_Strike_64.f l = some l := by unfold impl_Strike_64.f; rw [if_pos (by omega)]
  refine ev_b hc (ev_b rfl (ev_pos (by simp; omega) (ev_b rfl ?_)))
  rw [show (⟨x.f0, x.f1, x.f2⟩ : S45) = x from rfl]
  refine Ev.bind (implStrikes l (by omega)) ?_
  have h2 := implStrikes (l ++ [x]) (by simp; omega)
  by_cases h1 : (sOk 0 l && decide (l.length ≤ 64)) = true
  · refine ev_pos h1 (Ev.bind h2 ?_)
    by_cases h : (sOk 0 (l ++ [x]) && decide ((l ++ [x]).length ≤ 64)) = true
    · exact ev_pos h (ev_some (by rw [if_pos h]))
    · exact ev_neg h (ev_some (by rw [if_neg h]))
  · refine ev_neg h1 ?_
    rw [if_neg]
    · exact Ev.now _
    · intro h
      simp only [Bool.and_eq_true, decide_eq_true_eq, List.length_append, List.length_singleton] at h
      refine h1 ?_
      rw [sOk_front x l 0 h.1]
      simp
      omega

def ptsAns (l : List S45) (m t f : Int) : Int × Bool := if (sOk 0 l && decide (l.length ≤ 64)) = true ∧ (1 ≤ m ∧ m ≤ 1000) ∧ (0 ≤ t ∧ t ≤ 1000000) ∧ (1 ≤ f ∧ f ≤ 1000000) then ((ptsOf m t f l : Int), true) else (0, false)
theorem implPts (l : List S45) (m t f : Int) (hl : l.length ≤ 100000000) : Ev (fun k => impl_PointsOf.f k l m t f) (ptsAns l m t f) := by
  unfold impl_PointsOf.f ptsAns
  refine Ev.bind (implStrikes l hl) ?_
  by_cases h : (sOk 0 l && decide (l.length ≤ 64)) = true
  · refine ev_pos h (ev_b (implMember _) ?_)
    by_cases h1 : 1 ≤ m ∧ m ≤ 1000
    · refine ev_pos (by simpa using h1) (ev_b (implTick _) ?_)
      by_cases h2 : 0 ≤ t ∧ t ≤ 1000000
      · refine ev_pos (by simpa using h2) (ev_b (implIn _ _ _) ?_)
        by_cases h3 : 1 ≤ f ∧ f ≤ 1000000
        · refine ev_pos (by simpa using h3) ?_
          have h' := h
          simp only [Bool.and_eq_true, decide_eq_true_eq] at h'
          refine Ev.bind (implPoints l m t f h'.2 h'.1 h2 h3) (ev_some ?_)
          rw [if_pos ⟨h, h1, h2, h3⟩]
        · exact ev_neg (by simpa using h3) (ev_some (by rw [if_neg (fun z => h3 z.2.2.2)]))
      · exact ev_neg (by simpa using h2) (ev_some (by rw [if_neg (fun z => h2 z.2.2.1)]))
    · exact ev_neg (by simpa using h1) (ev_some (by rw [if_neg (fun z => h1 z.2.1)]))
  · exact ev_neg h (ev_some (by rw [if_neg (fun z => h z.1)]))

/-- Who comes first: more points, then the smaller number. -/
def wLt (P : Int → Int) (x y : Int) : Prop := P y < P x ∨ (P x = P y ∧ x < y)
theorem wLt_irr (P : Int → Int) (x : Int) : ¬ wLt P x x := by unfold wLt; omega
theorem wLt_tr (P : Int → Int) {x y z : Int} (h : wLt P x y) (h2 : wLt P y z) : wLt P x z := by unfold wLt at *; omega
theorem wLt_tot (P : Int → Int) {x y : Int} (h : x ≠ y) : wLt P x y ∨ wLt P y x := by unfold wLt; omega
/-- A number put to its place. -/
def putV (n : Int) : List Int → List Int
  | [] => [n]
  | x :: r => if n ≤ x then (if n < x then n :: x :: r else x :: r) else x :: putV n r
theorem putV_mem (n x : Int) : ∀ l, x ∈ putV n l ↔ x = n ∨ x ∈ l
  | [] => by simp [putV]
  | y :: r => by
    unfold putV
    split
    · split
      · simp
      · have : y = n := by omega
        subst this
        simp
    · simp only [List.mem_cons, putV_mem n x r]
      constructor
      · rintro (h | h | h)
        · exact .inr (.inl h)
        · exact .inl h
        · exact .inr (.inr h)
      · rintro (h | h | h)
        · exact .inr (.inl h)
        · exact .inl h
        · exact .inr (.inr h)
theorem putV_up (n : Int) : ∀ l : List Int, l.Pairwise (fun x y => x < y) → (putV n l).Pairwise (fun x y => x < y)
  | [], _ => by simp [putV]
  | y :: r, h => by
    have h2 := List.pairwise_cons.1 h
    unfold putV
    split
    · split
      · refine List.pairwise_cons.2 ⟨fun z hz => ?_, h⟩
        rcases List.mem_cons.1 hz with rfl | hz
        · assumption
        · have := h2.1 z hz; omega
      · exact h
    · refine List.pairwise_cons.2 ⟨fun z hz => ?_, putV_up n r h2.2⟩
      rcases (putV_mem n z r).1 hz with rfl | hz
      · omega
      · exact h2.1 z hz
theorem putV_len (n : Int) : ∀ l, (putV n l).length ≤ l.length + 1
  | [] => by simp [putV]
  | y :: r => by
    unfold putV
    have := putV_len n r
    split
    · split <;> simp
    · simp; omega
/-- The best of those that are not out yet. -/
def scanV (P : Int → Int) (out : List Int) : List Int → Int → Int → Int × Int
  | [], b, m => (b, m)
  | x :: r, b, m => if P x > m then (if x ∈ out then scanV P out r b m else scanV P out r x (P x)) else scanV P out r b m
/-- What is known of the best of a list. -/
def BestOf (P : Int → Int) (out l : List Int) (b m : Int) : Prop :=
  (m = 0 ∧ ∀ x ∈ l, 0 < P x → x ∈ out) ∨ (0 < m ∧ P b = m ∧ b ∈ l ∧ b ∉ out ∧ ∀ x ∈ l, 0 < P x → x ∉ out → x = b ∨ wLt P b x)
theorem scanV_best (P : Int → Int) (out : List Int) : ∀ (suf pre : List Int) (b m : Int), (pre ++ suf).Pairwise (fun x y => x < y) → BestOf P out pre b m → BestOf P out (pre ++ suf) (scanV P out suf b m).1 (scanV P out suf b m).2
  | [], pre, b, m, _, h => by simpa [scanV] using h
  | x :: r, pre, b, m, hp, h => by
    have hp' : ((pre ++ [x]) ++ r).Pairwise (fun x y => x < y) := by simpa using hp
    have hlt : ∀ y ∈ pre, y < x := fun y hy => (List.pairwise_append.1 hp).2.2 y hy x (by simp)
    have goal : ∀ b' m', BestOf P out (pre ++ [x]) b' m' → BestOf P out (pre ++ x :: r) (scanV P out r b' m').1 (scanV P out r b' m').2 := by
      intro b' m' h'
      have := scanV_best P out r (pre ++ [x]) b' m' hp' h'
      simpa using this
    unfold scanV
    by_cases h1 : P x > m
    · rw [if_pos h1]
      by_cases h2 : x ∈ out
      · rw [if_pos h2]
        refine goal b m ?_
        rcases h with ⟨hm, hc⟩ | ⟨hm, hb, hbl, hbo, hc⟩
        · refine .inl ⟨hm, fun y hy hpy => ?_⟩
          rcases List.mem_append.1 hy with hy | hy
          · exact hc y hy hpy
          · rw [List.mem_singleton.1 hy]; exact h2
        · refine .inr ⟨hm, hb, by simp [hbl], hbo, fun y hy hpy hyo => ?_⟩
          rcases List.mem_append.1 hy with hy | hy
          · exact hc y hy hpy hyo
          · rw [List.mem_singleton.1 hy] at hyo; exact absurd h2 hyo
      · rw [if_neg h2]
        refine goal x (P x) ?_
        rcases h with ⟨hm, hc⟩ | ⟨hm, hb, hbl, hbo, hc⟩
        · refine .inr ⟨by omega, rfl, by simp, h2, fun y hy hpy hyo => ?_⟩
          rcases List.mem_append.1 hy with hy | hy
          · exact absurd (hc y hy hpy) hyo
          · exact .inl (List.mem_singleton.1 hy)
        · refine .inr ⟨by omega, rfl, by simp, h2, fun y hy hpy hyo => ?_⟩
          rcases List.mem_append.1 hy with hy | hy
          · right
            rcases hc y hy hpy hyo with rfl | hw
            · left; omega
            · left
              unfold wLt at hw
              omega
          · exact .inl (List.mem_singleton.1 hy)
    · rw [if_neg h1]
      refine goal b m ?_
      rcases h with ⟨hm, hc⟩ | ⟨hm, hb, hbl, hbo, hc⟩
      · refine .inl ⟨hm, fun y hy hpy => ?_⟩
        rcases List.mem_append.1 hy with hy | hy
        · exact hc y hy hpy
        · rw [List.mem_singleton.1 hy] at hpy; omega
      · refine .inr ⟨hm, hb, by simp [hbl], hbo, fun y hy hpy hyo => ?_⟩
        rcases List.mem_append.1 hy with hy | hy
        · exact hc y hy hpy hyo
        · right
          have e := List.mem_singleton.1 hy
          subst e
          have := hlt b hbl
          unfold wLt
          omega
section
variable (l : List S45) (t f : Int)
/-- The points of a member, as a number. -/
def ptI (m : Int) : Int := (ptsOf m t f l : Int)
theorem ptsOf_le : ∀ (l : List S45) (p m : Int), sOk p l = true → ptsOf m t f l ≤ 4 * l.length
  | [], _, _, _ => by simp [ptsOf]
  | x :: r, p, m, h => by
    have h1 := sOk_head h
    have h2 := ptsOf_le r x.f2 m h1.2
    have h3 := ptOf_le (m := m) (t := t) (f := f) h1.1
    simp only [ptsOf, List.length_cons]
    omega
theorem sOk_all : ∀ (l : List S45) (p : Int), sOk p l = true → ∀ x ∈ l, StOk x
  | [], _, _, x, hx => by cases hx
  | y :: r, p, h, x, hx => by
    have h1 := sOk_head h
    rcases List.mem_cons.1 hx with rfl | hx
    · exact h1.1
    · exact sOk_all r y.f2 h1.2 x hx
/-- Members with points, in the order in which they are met. -/
def colV (P : Int → Int) : List S45 → List (Int × Int) → List (Int × Int)
  | [], acc => acc
  | s :: r, acc => colV P r (if P s.f0 > 0 ∧ impl_WorstMembers.hasK acc s.f0 = false then acc ++ [(s.f0, P s.f0)] else acc)
theorem hasK_iff (m : List (Int × Int)) (x : Int) : impl_WorstMembers.hasK m x = true ↔ x ∈ m.map Prod.fst := by
  unfold impl_WorstMembers.hasK
  simp only [List.any_eq_true, beq_iff_eq, List.mem_map]
structure ColOk (P : Int → Int) (acc : List (Int × Int)) : Prop where
  nd : (acc.map Prod.fst).Nodup
  val : ∀ p ∈ acc, p.2 = P p.1 ∧ 0 < P p.1 ∧ 1 ≤ p.1 ∧ p.1 ≤ 1000
theorem col_step (P : Int → Int) (acc : List (Int × Int)) (h : ColOk P acc) (x : Int) (hx : 1 ≤ x ∧ x ≤ 1000) : ColOk P (if P x > 0 ∧ impl_WorstMembers.hasK acc x = false then acc ++ [(x, P x)] else acc) := by
  split
  · rename_i hc
    refine ⟨?_, ?_⟩
    · rw [List.map_append, List.nodup_append]
      refine ⟨h.nd, by simp, ?_⟩
      intro a ha b hb e
      have : b = x := by simpa using hb
      subst this
      subst e
      rw [(hasK_iff acc a).2 ha] at hc
      exact absurd hc.2 (by simp)
    · intro p hp
      rcases List.mem_append.1 hp with hp | hp
      · exact h.val p hp
      · rw [List.mem_singleton.1 hp]
        exact ⟨rfl, hc.1, hx.1, hx.2⟩
  · exact h
theorem col_ok (P : Int → Int) : ∀ (r : List S45) (acc : List (Int × Int)), (∀ x ∈ r, StOk x) → ColOk P acc → ColOk P (colV P r acc)
  | [], _, _, h => h
  | s :: r, acc, hs, h => col_ok P r _ (fun x hx => hs x (by simp [hx])) (col_step P acc h s.f0 (hs s (by simp)).1)
theorem col_mem (P : Int → Int) (x : Int) : ∀ (r : List S45) (acc : List (Int × Int)), x ∈ (colV P r acc).map Prod.fst ↔ x ∈ acc.map Prod.fst ∨ (0 < P x ∧ ∃ s ∈ r, s.f0 = x)
  | [], acc => by simp [colV]
  | s :: r, acc => by
    unfold colV
    rw [col_mem P x r]
    constructor
    · rintro (h | ⟨h, s', hs', e⟩)
      · split at h
        · rename_i hc
          rw [List.map_append] at h
          rcases List.mem_append.1 h with h | h
          · exact .inl h
          · have : x = s.f0 := by simpa using h
            subst this
            exact .inr ⟨hc.1, s, by simp, rfl⟩
        · exact .inl h
      · exact .inr ⟨h, s', by simp [hs'], e⟩
    · rintro (h | ⟨h, s', hs', e⟩)
      · left
        split
        · rw [List.map_append]; exact List.mem_append.2 (.inl h)
        · exact h
      · rcases List.mem_cons.1 hs' with rfl | hs'
        · left
          subst e
          by_cases hh : impl_WorstMembers.hasK acc s'.f0 = false
          · rw [if_pos ⟨h, hh⟩, List.map_append]; simp
          · rw [if_neg (fun z => hh z.2)]
            exact (hasK_iff acc s'.f0).1 (by simpa using hh)
        · exact .inr ⟨h, s', hs', e⟩
theorem col_len (P : Int → Int) : ∀ (r : List S45) (acc : List (Int × Int)), (colV P r acc).length ≤ acc.length + r.length
  | [], acc => by simp [colV]
  | s :: r, acc => by
    unfold colV
    have := col_len P r (if P s.f0 > 0 ∧ impl_WorstMembers.hasK acc s.f0 = false then acc ++ [(s.f0, P s.f0)] else acc)
    have h2 : (if P s.f0 > 0 ∧ impl_WorstMembers.hasK acc s.f0 = false then acc ++ [(s.f0, P s.f0)] else acc).length ≤ acc.length + 1 := by split <;> simp
    rw [List.length_cons]
    omega
theorem valK_at (P : Int → Int) : ∀ (acc : List (Int × Int)) (x : Int), (∀ p ∈ acc, p.2 = P p.1) → x ∈ acc.map Prod.fst → impl_WorstMembers.valK acc x = P x
  | [], x, _, h => by simp at h
  | p :: r, x, hv, h => by
    unfold impl_WorstMembers.valK
    by_cases e : p.1 = x
    · have : (p.1 == x) = true := by simpa using e
      simp only [List.find?_cons, this]
      simp [hv p (by simp), e]
    · have : (p.1 == x) = false := by simpa using e
      simp only [List.find?_cons, this]
      have h2 : x ∈ r.map Prod.fst := by
        rcases List.mem_cons.1 (by simpa using h : x ∈ p.1 :: r.map Prod.fst) with h2 | h2
        · exact absurd h2.symm e
        · exact h2
      exact valK_at P r x (fun q hq => hv q (by simp [hq])) h2
theorem srt_tells (P : Int → Int) (acc : List (Int × Int)) (h : ColOk P acc) (hl : acc.length ≤ 1000) : ∃ S, impl_WorstMembers.srt acc (acc.map Prod.fst) = some S ∧ S.length = acc.length ∧ S.Pairwise (wLt P) ∧ ∀ x, x ∈ S ↔ x ∈ acc.map Prod.fst := by
  have hfit : impl_WorstMembers.fitK (acc.map Prod.fst) = true := by
    unfold impl_WorstMembers.fitK
    simp only [Bool.and_eq_true, decide_eq_true_eq, List.all_eq_true, List.length_map]
    refine ⟨by omega, fun x hx => ?_⟩
    obtain ⟨p, hp, rfl⟩ := List.mem_map.1 hx
    have := h.val p hp
    omega
  unfold impl_WorstMembers.srt
  rw [if_pos hfit]
  obtain ⟨d, hd⟩ : ∃ d : List (Fin 1001), d = (acc.map Prod.fst).map fun x => (⟨x.toNat % 1001, Nat.mod_lt _ (by decide)⟩ : Fin 1001) := ⟨_, rfl⟩
  have hback : (d.map fun x => (x.val : Int)) = acc.map Prod.fst := by
    rw [hd, List.map_map]
    conv => rhs; rw [← List.map_id (acc.map Prod.fst)]
    apply List.map_congr_left
    intro x hx
    obtain ⟨p, hp, rfl⟩ := List.mem_map.1 hx
    have := h.val p hp
    simp only [Function.comp, id]
    omega
  rw [← hd]
  have hv : ∀ x ∈ acc.map Prod.fst, impl_WorstMembers.valK acc x = P x := fun x hx => valK_at P acc x (fun p hp => (h.val p hp).1) hx
  have hperm := List.mergeSort_perm d fun x y => !decide (impl_WorstMembers.cmpK acc (y.val : Int) (x.val : Int) < 0)
  have hsort := List.pairwise_mergeSort (le := fun x y : Fin 1001 => !decide (impl_WorstMembers.cmpK acc (y.val : Int) (x.val : Int) < 0)) (by
    intro a b c h1 h2
    simp only [Bool.not_eq_true', decide_eq_false_iff_not, impl_WorstMembers.lt_iff] at *
    omega) (by
    intro a b
    simp only [Bool.or_eq_true, Bool.not_eq_true', decide_eq_false_iff_not, impl_WorstMembers.lt_iff]
    omega) d
  generalize (d.mergeSort fun x y => !decide (impl_WorstMembers.cmpK acc (y.val : Int) (x.val : Int) < 0)) = e at hperm hsort
  have hpm : (e.map fun x => (x.val : Int)).Perm (acc.map Prod.fst) := by rw [← hback]; exact hperm.map _
  refine ⟨_, rfl, by have := hpm.length_eq; simpa using this, ?_, fun x => hpm.mem_iff⟩
  have hnd : (e.map fun x => (x.val : Int)).Nodup := hpm.nodup_iff.2 h.nd
  have hs2 : (e.map fun x => (x.val : Int)).Pairwise fun a b => ¬ impl_WorstMembers.cmpK acc b a < 0 := by
    rw [List.pairwise_map]
    exact hsort.imp (fun {a b} hab => by simpa using hab)
  refine ((hs2.and (List.nodup_iff_pairwise_ne.1 hnd)).imp_of_mem ?_)
  rintro a b ha hb ⟨h1, h2⟩
  rw [impl_WorstMembers.lt_iff, hv a (hpm.mem_iff.1 ha), hv b (hpm.mem_iff.1 hb)] at h1
  rcases wLt_tot P h2 with h3 | h3
  · exact h3
  · exact absurd h3 h1
/-- The members with points, the worst first. -/
def worstV : List Int := (impl_WorstMembers.srt (colV (ptI l t f) l []) ((colV (ptI l t f) l []).map Prod.fst)).getD []
def leftV : List S45 → List Int → List Int
  | [], acc => acc
  | s :: r, acc => leftV r (putV s.f0 acc)
theorem left_up : ∀ (r : List S45) (acc : List Int), acc.Pairwise (fun x y => x < y) → (leftV r acc).Pairwise (fun x y => x < y)
  | [], _, h => h
  | s :: r, acc, h => left_up r _ (putV_up s.f0 acc h)
theorem left_mem (x : Int) : ∀ (r : List S45) (acc : List Int), x ∈ leftV r acc ↔ x ∈ acc ∨ ∃ s ∈ r, s.f0 = x
  | [], acc => by simp [leftV]
  | s :: r, acc => by
    unfold leftV
    rw [left_mem x r, putV_mem]
    simp only [List.mem_cons, exists_eq_or_imp]
    constructor
    · rintro ((h | h) | h)
      · exact .inr (.inl h.symm)
      · exact .inl h
      · exact .inr (.inr h)
    · rintro (h | h | h)
      · exact .inl (.inr h)
      · exact .inl (.inl h.symm)
      · exact .inr h
theorem left_len : ∀ (r : List S45) (acc : List Int), (leftV r acc).length ≤ acc.length + r.length
  | [], acc => by simp [leftV]
  | s :: r, acc => by
    unfold leftV
    have h1 := left_len r (putV s.f0 acc)
    have h2 := putV_len s.f0 acc
    simp
    omega
theorem worst_tells (hl : l.length ≤ 64) (hs : sOk 0 l = true) : ∃ S, impl_WorstMembers.srt (colV (ptI l t f) l []) ((colV (ptI l t f) l []).map Prod.fst) = some S ∧ worstV l t f = S ∧ S.length ≤ 64 ∧ S.length = (colV (ptI l t f) l []).length ∧ S.Pairwise (wLt (ptI l t f)) ∧ ∀ x, x ∈ S ↔ 0 < ptI l t f x ∧ ∃ s ∈ l, s.f0 = x := by
  have hc := col_ok (ptI l t f) l [] (sOk_all l 0 hs) ⟨by simp, by simp⟩
  have hlen := col_len (ptI l t f) l []
  obtain ⟨S, h1, h2, h3, h4⟩ := srt_tells (ptI l t f) _ hc (by simp at hlen; omega)
  refine ⟨S, h1, by unfold worstV; rw [h1]; rfl, by rw [h2]; simp at hlen; omega, h2, h3, fun x => (h4 x).trans ?_⟩
  rw [col_mem]
  simp
theorem implCol (hl : l.length ≤ 64) (hs : sOk 0 l = true) (ht : 0 ≤ t ∧ t ≤ 1000000) (hf : 1 ≤ f ∧ f ≤ 1000000) (c : Int) (R : List Int × Bool) (hR : Ev (fun k => impl_WorstMembers.l0 k l t f c (colV (ptI l t f) l []) ((colV (ptI l t f) l []).map Prod.fst) l (l.length : Int) (l.length : Int)) R) : ∀ i, i ≤ l.length → ∀ acc : List (Int × Int), acc.length ≤ i → colV (ptI l t f) (l.drop i) acc = colV (ptI l t f) l [] →
    Ev (fun k => impl_WorstMembers.l0 k l t f c acc (acc.map Prod.fst) l (l.length : Int) (i : Int)) R := by
  refine idx_ind l _ ?_ ?_
  · intro acc _ he
    rw [List.drop_length] at he
    simp only [colV] at he
    rw [he]
    exact hR
  · intro i hi ih acc hacc he
    rw [drop_at l i hi] at he
    simp only [colV] at he
    have hst := sOk_all l 0 hs l[i] (List.getElem_mem hi)
    have hpt := ptsOf_le t f l 0 l[i].f0 hs
    refine Ev.step (fun k => by rw [impl_WorstMembers.l0]) ?_
    rw [rdOStrike l i hi, wsucc hi (by omega)]
    refine ev_pos (by omega) (ev_pos (by omega) (ev_pos (by omega) (Ev.bind (implPoints l l[i].f0 t f hl hs ht hf) ?_)))
    refine ev_pos ⟨⟨by have := hst.1; omega, by have := hst.1; omega⟩, by omega⟩ ?_
    by_cases hp : ptI l t f l[i].f0 > 0
    · refine ev_pos hp ?_
      by_cases hh : impl_WorstMembers.hasK acc l[i].f0 = true
      · refine ev_pos hh ?_
        rw [if_neg (fun z => by rw [hh] at z; exact absurd z.2 (by simp))] at he
        exact ih acc (by omega) he
      · refine ev_neg hh (ev_pos ⟨by simp; omega, by omega⟩ ?_)
        rw [if_pos ⟨hp, by simpa using hh⟩] at he
        have := ih _ (by simp; omega) he
        rw [List.map_append] at this
        exact this
    · refine ev_neg hp ?_
      rw [if_neg (fun z => hp z.1)] at he
      exact ih acc (by omega) he
end
/-- What both answer. -/
def worAns (l : List S45) (t f c : Int) : List Int × Bool := if (sOk 0 l && decide (l.length ≤ 64)) = true ∧ (0 ≤ t ∧ t ≤ 1000000) ∧ (1 ≤ f ∧ f ≤ 1000000) ∧ (0 ≤ c ∧ c ≤ 64) then ((worstV l t f).take c.toNat, true) else ([], false)
theorem worLen (l : List S45) (t f c : Int) : (worAns l t f c).1.length ≤ 64 := by
  unfold worAns
  split
  · rename_i h
    simp only [List.length_take]
    omega
  · simp
theorem implWorst (l : List S45) (t f c : Int) (hl : l.length ≤ 100000000) : Ev (fun k => impl_WorstMembers.f k l t f c) (worAns l t f c) := by
  unfold impl_WorstMembers.f
  refine Ev.bind (implStrikes l hl) ?_
  have no : ¬ ((sOk 0 l && decide (l.length ≤ 64)) = true ∧ (0 ≤ t ∧ t ≤ 1000000) ∧ (1 ≤ f ∧ f ≤ 1000000) ∧ (0 ≤ c ∧ c ≤ 64)) → Ev (fun k => impl_WorstMembers.j0 k l t f c true) (worAns l t f c) := by
    intro h
    unfold worAns
    rw [if_neg h]
    refine Ev.step (fun k => by rw [impl_WorstMembers.j0]) ?_
    exact ev_pos rfl (Ev.now _)
  by_cases h : (sOk 0 l && decide (l.length ≤ 64)) = true
  · refine ev_pos h (ev_b (implTick _) ?_)
    by_cases h2 : 0 ≤ t ∧ t ≤ 1000000
    · refine ev_pos (by simpa using h2) (ev_b (implIn _ _ _) ?_)
      by_cases h3 : 1 ≤ f ∧ f ≤ 1000000
      · refine ev_pos (by simpa using h3) (ev_b (implIn _ _ _) ?_)
        by_cases h4 : 0 ≤ c ∧ c ≤ 64
        · have h' := h
          simp only [Bool.and_eq_true, decide_eq_true_eq] at h'
          obtain ⟨S, hsrt, hS, hS64, hSl, _⟩ := worst_tells l t f h'.2 h'.1
          unfold worAns
          rw [if_pos ⟨h, h2, h3, h4⟩, show (!decide (0 ≤ c ∧ c ≤ 64)) = false by simpa using h4, hS]
          refine Ev.step (fun k => by rw [impl_WorstMembers.j0]) ?_
          refine ev_neg (by simp) ?_
          refine implCol l t f h'.2 h'.1 h2 h3 c _ ?_ 0 (Nat.zero_le _) [] (Nat.le_refl _) rfl
          refine Ev.step (fun k => by rw [impl_WorstMembers.l0]) ?_
          refine ev_neg (by omega) (ev_b hsrt ?_)
          have hmn : mn c (((colV (ptI l t f) l []).map Prod.fst).length : Int) = ((min c.toNat S.length : Nat) : Int) := by
            rw [List.length_map, ← hSl]
            unfold mn
            split <;> omega
          rw [hmn]
          refine ev_pos (by omega) (ev_pos (by simp [hSl]; omega) (ev_some ?_))
          rw [Int.toNat_natCast]
          congr 1
          rcases Nat.le_total c.toNat S.length with hq | hq
          · rw [Nat.min_eq_left hq]
          · rw [Nat.min_eq_right hq, List.take_length, List.take_of_length_le hq]
        · rw [decide_eq_false h4]
          exact no fun z => h4 z.2.2.2
      · exact ev_neg (by simpa using h3) (no fun z => h3 z.2.2.1)
    · exact ev_neg (by simpa using h2) (no fun z => h2 z.2.1)
  · exact ev_neg h (no fun z => h z.1)

theorem nodup_len {α : Type} [DecidableEq α] : ∀ (a b : List α), a.Nodup → (∀ x ∈ a, x ∈ b) → a.length ≤ b.length
  | [], _, _, _ => Nat.zero_le _
  | x :: r, b, hn, hs => by
    have h2 := List.nodup_cons.1 hn
    have hx := hs x (by simp)
    have h3 := nodup_len r (b.erase x) h2.2 (fun y hy => (List.mem_erase_of_ne (fun (e : y = x) => h2.1 (e ▸ hy))).2 (hs y (by simp [hy])))
    rw [List.length_erase_of_mem hx] at h3
    have := List.length_pos_of_mem hx
    simp
    omega
theorem drawStrikes0 {code : List Int} (h : U8s code) : ∀ (n : Nat) (x : Int) (out : List S45) (i s : Int), n ≤ 8 → out.length + n ≤ 8 → 0 ≤ i → i ≤ 1000 + 6 * (8 - n) → 0 ≤ x → x + 9 * n ≤ 72 →
    ∃ r, Ev (fun k => spec_R8Strikes.l0 k out x (n : Int) code i s) (out ++ r) ∧ sOk x r = true ∧ (∀ y ∈ r, y.f0 ≤ 4 ∧ y.f2 ≤ x + 9 * n) ∧ r.length = n := by
  intro n
  induction n with
  | zero =>
    intro x out i s _ _ _ _ _ _
    refine ⟨[], ?_, rfl, by simp, rfl⟩
    refine Ev.step (fun k => by rw [spec_R8Strikes.l0]) ?_
    exact ev_neg (by omega) (ev_some (by simp))
  | succ n ih =>
    intro x out i s hn ho hi0 hi hx hx2
    obtain ⟨v, i1, s1, e1, v0, v1, _, g1, g2⟩ := pickOk h i s 4 hi0 (by omega)
    obtain ⟨u, i2, s2, e2, u0, u1, _, g3, g4⟩ := pickOk h i1 s1 3 (by omega) (by omega)
    obtain ⟨z, i3, s3, e3, z0, z1, _, g5, g6⟩ := pickOk h i2 s2 10 (by omega) (by omega)
    have w0 : wrap64 (1 + v) = 1 + v := w64 (by omega) (by omega)
    have w1 : wrap64 (x + z) = x + z := w64 (by omega) (by omega)
    have w2 : wrap64 (((n + 1 : Nat) : Int) - 1) = (n : Int) := by rw [w64 (by omega) (by omega)]; omega
    obtain ⟨r, hr, ht, hm, hl⟩ := ih (x + z) (out ++ [(⟨1 + v, u, x + z⟩ : S45)]) i3 s3 (by omega) (by simp; omega) (by omega) (by omega) (by omega) (by omega)
    refine ⟨(⟨1 + v, u, x + z⟩ : S45) :: r, ?_, ?_, ?_, by simp [hl]⟩
    · refine Ev.step (fun k => by rw [spec_R8Strikes.l0]) ?_
      refine ev_pos (by omega) (ev_b e1 (ev_b e2 (ev_b e3 (ev_pos (by omega) ?_))))
      simp only [w0, w1, w2]
      refine ev_eq hr (by simp)
    · have hk : StOk (⟨1 + v, u, x + z⟩ : S45) ∧ x ≤ (⟨1 + v, u, x + z⟩ : S45).f2 :=
        ⟨⟨⟨by show 1 ≤ 1 + v; omega, by show 1 + v ≤ 1000; omega⟩, ⟨by show 0 ≤ u; omega, by show u ≤ 2; omega⟩, ⟨by show 0 ≤ x + z; omega, by show x + z ≤ 1000000; omega⟩⟩, by show x ≤ x + z; omega⟩
      unfold sOk
      rw [ht, Bool.and_true]
      exact decide_eq_true hk
    · intro y hy
      rcases List.mem_cons.1 hy with rfl | hy
      · constructor
        · show 1 + v ≤ 4; omega
        · show x + z ≤ _; omega
      · have := hm y hy
        omega
theorem drawStrikes {code : List Int} (h : U8s code) : ∃ r, Ev (fun k => spec_R8Strikes.f k code) r ∧ sOk 0 r = true ∧ (∀ y ∈ r, y.f0 ≤ 4 ∧ y.f2 ≤ 72) ∧ r.length ≤ 8 := by
  unfold spec_R8Strikes.f spec_l00From.f
  obtain ⟨v, i', s', e, v0, v1, _, g1, g2⟩ := pickOk h 0 0 9 (by omega) (by omega)
  obtain ⟨n, rfl⟩ : ∃ n : Nat, v = (n : Int) := ⟨v.toNat, by omega⟩
  obtain ⟨r, hr, ht, hm, hl⟩ := drawStrikes0 h n 0 [] i' s' (by omega) (by simp; omega) (by omega) (by omega) (by omega) (by omega)
  refine ⟨r, ev_b rfl (ev_b e ?_), ht, fun y hy => ?_, by omega⟩
  · simpa using hr
  · have := hm y hy
    omega
theorem ptOf_mono (m t f : Int) (x : S45) (hf : 1 ≤ f) (h : x.f2 ≤ t) : ptOf m (t + 7) f x ≤ ptOf m t f x := by
  unfold ptOf
  by_cases hm : x.f0 = m
  · rw [if_pos ⟨hm, by omega⟩, if_pos ⟨hm, h⟩]
    have h1 : (t - x.f2) / f ≤ (t + 7 - x.f2) / f := Int.ediv_le_ediv (by omega) (by omega)
    exact Nat.div_le_div_left (Nat.pow_le_pow_right (by omega) (by omega)) (Nat.pow_pos (by omega))
  · rw [if_neg (fun z => hm z.1), if_neg (fun z => hm z.1)]
    exact Nat.le_refl _
theorem ptsOf_mono (m t f : Int) (hf : 1 ≤ f) : ∀ l : List S45, (∀ y ∈ l, y.f2 ≤ t) → ptsOf m (t + 7) f l ≤ ptsOf m t f l
  | [], _ => Nat.le_refl _
  | x :: r, h => by
    have h1 := ptOf_mono m t f x hf (h x (by simp))
    have h2 := ptsOf_mono m t f hf r (fun y hy => h y (by simp [hy]))
    simp only [ptsOf]
    omega
theorem ptsOf_none (m t f : Int) : ∀ l : List S45, (∀ y ∈ l, y.f0 ≠ m) → ptsOf m t f l = 0
  | [], _ => rfl
  | x :: r, h => by
    have h1 : ptOf m t f x = 0 := by unfold ptOf; rw [if_neg (fun z => h x (by simp) z.1)]
    simp only [ptsOf, h1, ptsOf_none m t f r (fun y hy => h y (by simp [hy]))]
theorem ptsOf_app (m t f : Int) (x : S45) : ∀ l : List S45, ptsOf m t f (l ++ [x]) = ptsOf m t f l + ptOf m t f x
  | [] => by simp [ptsOf]
  | y :: r => by
    simp only [List.cons_append, ptsOf, ptsOf_app m t f x r]
    omega
theorem sOk_app (x : S45) (hx : StOk x) : ∀ (l : List S45) (p : Int), sOk p l = true → p ≤ x.f2 → (∀ y ∈ l, y.f2 ≤ x.f2) → sOk p (l ++ [x]) = true
  | [], p, _, hp, _ => by simp [sOk, hx, hp]
  | y :: r, p, h, hp, hy => by
    have h1 := h
    simp only [sOk, Bool.and_eq_true] at h1
    simp only [List.cons_append, sOk, Bool.and_eq_true]
    exact ⟨h1.1, sOk_app x hx r y.f2 h1.2 (hy y (by simp)) (fun z hz => hy z (by simp [hz]))⟩
def penV (p : Int) : Int := if p < 3 then 0 else if p < 6 then 10 else if p < 12 then 100 else 1000
theorem implPen (p : Int) : impl_PenaltyOf.f p = some (penV p) := by
  unfold impl_PenaltyOf.f penV
  split
  · rfl
  · split
    · rfl
    · split <;> rfl
theorem penV_mono {p q : Int} (h : q ≤ p) : penV q ≤ penV p := by
  unfold penV
  repeat' split
  all_goals omega
theorem FnStrikes : laws_FnStrikes.Pure := by
  intro c m hc _ hc8 hm _ hm8
  refine Ev.rounds ?_
  unfold maxLen at hc hm
  unfold laws_FnStrikes.f
  have hlong : laws_r8Long.f c m = some (decide (48 < c.length) || decide (48 < m.length)) := by
    unfold laws_r8Long.f
    by_cases h : (c.length : Int) > 48
    · rw [if_pos h]
      have : 48 < c.length := by omega
      simp [this]
    · rw [if_neg h]
      have : ¬ 48 < c.length := by omega
      have e : ((m.length : Int) > 48) ↔ (48 < m.length) := by omega
      simp [this, e]
  refine ev_b hlong ?_
  by_cases hl : (decide (48 < c.length) || decide (48 < m.length)) = true
  · exact ev_pos hl (Ev.now _)
  · refine ev_neg hl ?_
    obtain ⟨l, hdraw, hs, hmem, hlen⟩ := drawStrikes hc8
    obtain ⟨fd, e1, f0, f1⟩ := r8At hm8 0 30 (by omega)
    obtain ⟨ad, e2, a0, a1⟩ := r8At hm8 1 40 (by omega)
    have hfd : fd < 30 := f1 (by omega)
    have had : ad < 40 := a1 (by omega)
    obtain ⟨f, hf⟩ : ∃ f : Int, 1 + fd = f := ⟨_, rfl⟩
    obtain ⟨t, ht⟩ : ∃ t : Int, 100 + ad = t := ⟨_, rfl⟩
    have hfb : 1 ≤ f ∧ f ≤ 1000000 := by omega
    have htb : 100 ≤ t ∧ t ≤ 139 := by omega
    have htk : 0 ≤ t ∧ t ≤ 1000000 := by omega
    have wf : wrap64 (1 + fd) = f := by rw [w64 (by omega) (by omega), hf]
    have wt : wrap64 (100 + ad) = t := by rw [w64 (by omega) (by omega), ht]
    have w7 : wrap64 (t + 7) = t + 7 := w64 (by omega) (by omega)
    have hW := implWorst l t f 64 (by omega)
    have hF0 := implForg l 0 (by omega)
    have hF1 := implForg l 101 (by omega)
    have hA := implStrikes l (by omega)
    have hok : (sOk 0 l && decide (l.length ≤ 64)) = true := by rw [hs, Bool.true_and]; exact decide_eq_true (by omega)
    obtain ⟨S, _, hS, hS64, _, hSw, hSm⟩ := worst_tells l t f (by omega) hs
    have hworst : worAns l t f 64 = (S, true) := by
      unfold worAns
      rw [if_pos ⟨hok, htk, hfb, by omega⟩, hS, List.take_of_length_le (by simpa using hS64)]
    have hall : forgAns l 0 = (l, true) := by
      unfold forgAns
      rw [if_pos ⟨hok, by omega⟩, List.filter_eq_self.2]
      intro y hy
      have := (sOk_all l 0 hs y hy).2.2
      unfold pS
      simp only [Bool.not_eq_true', decide_eq_false_iff_not]
      omega
    have hnone : forgAns l 101 = ([], true) := by
      unfold forgAns
      rw [if_pos ⟨hok, by omega⟩, List.filter_eq_nil_iff.2]
      intro y hy
      have := (hmem y hy).2
      unfold pS
      simp only [Bool.not_eq_true', decide_eq_false_iff_not]
      omega
    rw [hworst] at hW
    rw [hall] at hF0
    rw [hnone] at hF1
    rw [hok] at hA
    have hpts : ∀ q t' : Int, 1 ≤ q → q ≤ 1000 → 0 ≤ t' → t' ≤ 1000000 → Ev (fun k => impl_PointsOf.f k l q t' f) ((ptsOf q t' f l : Int), true) := by
      intro q t' q0 q1 t0 t1
      refine ev_eq (implPts l q t' f (by omega)) ?_
      unfold ptsAns
      rw [if_pos ⟨hok, ⟨q0, q1⟩, ⟨t0, t1⟩, hfb⟩]
    have hle : ∀ q, ptsOf q t f l ≤ 32 := fun q => by have := ptsOf_le t f l 0 q hs; omega
    -- the end
    have hx : StOk (⟨9, 2, t⟩ : S45) := ⟨⟨by show (1 : Int) ≤ 9; omega, by show (9 : Int) ≤ 1000; omega⟩, ⟨by show (0 : Int) ≤ 2; omega, by show (2 : Int) ≤ 2; omega⟩, by show 0 ≤ t ∧ t ≤ 1000000; omega⟩
    have hap := sOk_app ⟨9, 2, t⟩ hx l 0 hs (by show 0 ≤ t; omega) (fun y hy => by have := (hmem y hy).2; show y.f2 ≤ t; omega)
    have hok2 : (sOk 0 (l ++ [(⟨9, 2, t⟩ : S45)]) && decide ((l ++ [(⟨9, 2, t⟩ : S45)]).length ≤ 64)) = true := by rw [hap, Bool.true_and]; exact decide_eq_true (by simp; omega)
    have hAdd : Ev (fun k => impl_AddStrike.f k l 9 2 t) (l ++ [(⟨9, 2, t⟩ : S45)], true) := by
      refine ev_eq (implAdd l ⟨9, 2, t⟩ (by omega)) ?_
      unfold addAns
      rw [if_pos hok2]
    have h9 : Ev (fun k => impl_PointsOf.f k (l ++ [(⟨9, 2, t⟩ : S45)]) 9 t f) (4, true) := by
      refine ev_eq (implPts _ 9 t f (by simp; omega)) ?_
      unfold ptsAns
      rw [if_pos ⟨hok2, by omega, htk, hfb⟩, ptsOf_app, ptsOf_none 9 t f l (fun y hy e => by have := (hmem y hy).1; omega)]
      have e4 : ptOf 9 t f (⟨9, 2, t⟩ : S45) = 4 := by
        unfold ptOf
        rw [if_pos ⟨rfl, Int.le_refl _⟩]
        simp
      rw [e4]
      rfl
    have hend : Ev (fun k => laws_FnStrikes.l1 k l f t S (S.length : Int) 5) true := by
      refine Ev.step (fun k => by rw [laws_FnStrikes.l1]) ?_
      refine ev_neg (by omega) (Ev.bind hAdd (Ev.bind h9 (ev_pos rfl (ev_pos rfl (ev_pos rfl (ev_pos rfl (ev_some ?_)))))))
      rw [w64 (by omega) (by omega)]
      simp
    have step : ∀ (n : Nat) (i : Int), n ≤ 8 → 1 ≤ i → i ≤ 4 → Ev (fun k => laws_FnStrikes.l1 k l f t S ((if 0 < ptsOf i t f l then n + 1 else n : Nat) : Int) (i + 1)) true → Ev (fun k => laws_FnStrikes.l1 k l f t S (n : Int) i) true := by
      intro n i hn i0 i1 h
      have wi : wrap64 (i + 1) = i + 1 := w64 (by omega) (by omega)
      have wn : wrap64 ((n : Int) + 1) = ((n + 1 : Nat) : Int) := by rw [w64 (by omega) (by omega)]; omega
      have hmono := ptsOf_mono i t f hfb.1 l (fun y hy => by have := (hmem y hy).2; omega)
      refine Ev.step (fun k => by rw [laws_FnStrikes.l1]) ?_
      refine ev_pos i1 (Ev.bind (hpts i t i0 (by omega) (by omega) (by omega)) ?_)
      rw [w7]
      refine Ev.bind (hpts i (t + 7) i0 (by omega) (by omega) (by omega)) (ev_pos rfl (ev_pos rfl (ev_neg (by simp only; omega) (ev_b (implPen _) (ev_b (implPen _) ?_)))))
      have hp := penV_mono (p := (ptsOf i t f l : Int)) (q := (ptsOf i (t + 7) f l : Int)) (by omega)
      have hdec : decide (penV (ptsOf i (t + 7) f l : Int) > penV (ptsOf i t f l : Int)) = false := decide_eq_false (by omega)
      simp only [hdec]
      refine Ev.step (fun k => by rw [laws_FnStrikes.j3]) ?_
      refine ev_neg (by simp) ?_
      by_cases hpos : 0 < ptsOf i t f l
      · refine ev_pos (by omega) ?_
        rw [if_pos hpos] at h
        rw [wi, wn]
        exact h
      · refine ev_neg (by omega) ?_
        rw [if_neg hpos] at h
        rw [wi]
        exact h
    obtain ⟨cn, hcn⟩ : ∃ cn : List Int → Nat, cn = fun ids => (ids.filter fun q => decide (0 < ptsOf q t f l)).length := ⟨_, rfl⟩
    have cst : ∀ (pre : List Int) (i : Int), (if 0 < ptsOf i t f l then cn pre + 1 else cn pre) = cn (pre ++ [i]) := by
      intro pre i
      subst hcn
      by_cases h : 0 < ptsOf i t f l
      · simp [List.filter_append, h]
      · simp [List.filter_append, h]
    have cle : ∀ pre : List Int, cn pre ≤ pre.length := by
      intro pre
      subst hcn
      exact List.length_filter_le _ _
    have hcnt : cn [1, 2, 3, 4] = S.length := by
      have hnd : S.Nodup := List.nodup_iff_pairwise_ne.2 (hSw.imp fun {a b} h (e : a = b) => wLt_irr _ b (by rw [e] at h; exact h))
      have hpos : ∀ q, 0 < ptI l t f q ↔ 0 < ptsOf q t f l := fun q => by unfold ptI; omega
      have hhas : ∀ q, 0 < ptsOf q t f l → ∃ s ∈ l, s.f0 = q := by
        intro q hq
        rcases Classical.em (∃ s ∈ l, s.f0 = q) with h | h
        · exact h
        · rw [ptsOf_none q t f l (fun y hy e => h ⟨y, hy, e⟩)] at hq
          omega
      have e1 : S.length ≤ (([1, 2, 3, 4] : List Int).filter fun q => decide (0 < ptsOf q t f l)).length := by
        refine nodup_len _ _ hnd fun x hx => ?_
        obtain ⟨h1, s, hsl, rfl⟩ := (hSm x).1 hx
        refine List.mem_filter.2 ⟨?_, decide_eq_true ((hpos _).1 h1)⟩
        have h2 := (hmem s hsl).1
        have h3 := (sOk_all l 0 hs s hsl).1.1
        have : s.f0 = 1 ∨ s.f0 = 2 ∨ s.f0 = 3 ∨ s.f0 = 4 := by omega
        rcases this with e | e | e | e <;> simp [e]
      have e2 : (([1, 2, 3, 4] : List Int).filter fun q => decide (0 < ptsOf q t f l)).length ≤ S.length := by
        refine nodup_len _ _ (List.nodup_iff_pairwise_ne.2 ((List.nodup_iff_pairwise_ne.1 (by decide)).filter _)) fun x hx => ?_
        have h1 := of_decide_eq_true (List.mem_filter.1 hx).2
        exact (hSm x).2 ⟨(hpos x).2 h1, hhas x h1⟩
      subst hcn
      exact Nat.le_antisymm e2 e1
    have hcount : Ev (fun k => laws_FnStrikes.l1 k l f t S 0 1) true := by
      have c0 : cn [] = 0 := by subst hcn; rfl
      have b1 := cle [1]
      have b2 := cle [1, 2]
      have b3 := cle [1, 2, 3]
      simp only [List.length_cons, List.length_nil] at b1 b2 b3
      refine step 0 1 (by omega) (by omega) (by omega) ?_
      have e := cst [] 1
      rw [c0] at e
      rw [e]
      refine step _ 2 (by simp only [List.nil_append]; omega) (by omega) (by omega) ?_
      rw [cst]
      refine step _ 3 (by simp only [List.nil_append, List.cons_append]; omega) (by omega) (by omega) ?_
      rw [cst]
      refine step _ 4 (by simp only [List.nil_append, List.cons_append]; omega) (by omega) (by omega) ?_
      rw [cst]
      simp only [List.nil_append, List.cons_append]
      rw [hcnt]
      exact hend
    have hrun : ∀ i, i ≤ S.length → ∀ last : Int, (∀ j (h : j < S.length), i ≤ j → ptI l t f S[j] ≤ last) → Ev (fun k => laws_FnStrikes.l0 k l f t S last (i : Int)) true := by
      refine idx_ind S _ ?_ ?_
      · intro last _
        refine Ev.step (fun k => by rw [laws_FnStrikes.l0]) ?_
        exact ev_neg (by omega) hcount
      · intro i hi ih last hlast
        have hmi := (hSm S[i]).1 (List.getElem_mem hi)
        obtain ⟨hp, s, hsl, hse⟩ := hmi
        have h2 := (hmem s hsl).1
        have h3 := (sOk_all l 0 hs s hsl).1.1
        have hlt := hlast i hi (Nat.le_refl _)
        unfold ptI at hp hlt
        refine Ev.step (fun k => by rw [laws_FnStrikes.l0]) ?_
        rw [rd_at S i hi, wsucc hi (by omega)]
        refine ev_pos (by omega) (ev_pos (by omega) (Ev.bind (hpts S[i] t (by omega) (by omega) (by omega) (by omega)) (ev_pos rfl (ev_neg (by simp only; omega) (ev_neg (by simp only; omega) ?_)))))
        refine ih _ fun j hj hij => ?_
        have hw := List.pairwise_iff_getElem.1 hSw i j hi hj (by omega)
        unfold wLt at hw
        unfold ptI at hw ⊢
        show _ ≤ (ptsOf S[i] t f l : Int)
        omega
    refine Ev.bind hdraw (ev_b e1 (ev_b e2 ?_))
    rw [wf, wt]
    refine Ev.bind hW (Ev.bind hF0 (Ev.bind hF1 (ev_pos rfl (ev_pos rfl (ev_pos rfl (Ev.bind hA (ev_pos rfl (ev_pos rfl ?_))))))))
    refine Ev.step (fun k => by rw [laws_FnStrikes.j0]) ?_
    refine ev_neg (by simp) ?_
    refine hrun 0 (Nat.zero_le _) 1000 fun j hj _ => ?_
    have := hle S[j]
    unfold ptI
    omega

end Go.Proofs.Ytjfaepolmllejaa.Pure
