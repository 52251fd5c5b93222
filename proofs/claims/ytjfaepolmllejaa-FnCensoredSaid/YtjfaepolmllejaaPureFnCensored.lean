/- Censored: a text stays as long, changes only where bad words are, stays if there are none, and has exactly the bad words that are among its words; for every pair of byte strings. -/
import Derived.Test.YtjfaepolmllejaaQFnCensoredx5
import Derived.Laws.BitsLemmas
import Derived.Lib.SlicesCompact
import Derived.Sort.Walk0
namespace Go.Proofs.Ytjfaepolmllejaa.Pure
open Go.RowKit Go.Proofs.Ytjfaepolmllejaa.QFnCensored Go.Proofs.YtjfaepolmllejaaW.PrintWords Go.Proofs.YtjfaepolmllejaaW.PrintLast Go.Proofs.YtjfaepolmllejaaW.PrintMore
set_option linter.unusedVariables false

theorem w64 {n : Int} (h1 : -9223372036854775808 ≤ n) (h2 : n ≤ 9223372036854775807) : wrap64 n = n := by
  unfold wrap64
  omega
theorem wf64 {n : Int} (h : (Lit.int .i64 n).wf = true) : -9223372036854775808 ≤ n ∧ n ≤ 9223372036854775807 := by
  simp [Lit.wf, IntKind.min, IntKind.max, IntKind.signed, IntKind.bits] at h
  omega

theorem ev_pos {α : Type} {c : Prop} [Decidable c] {g f : Nat → Option α} {r : α} (h : c) (e : Ev g r) : Ev (fun k => if c then g k else f k) r := Ev.congr (fun _ => if_pos h) e
theorem ev_neg {α : Type} {c : Prop} [Decidable c] {g f : Nat → Option α} {r : α} (h : ¬ c) (e : Ev f r) : Ev (fun k => if c then g k else f k) r := Ev.congr (fun _ => if_neg h) e
theorem ev_b {α β : Type} {o : Option α} {a : α} {f : Nat → α → Option β} {r : β} (h : o = some a) (e : Ev (fun k => f k a) r) : Ev (fun k => o.bind (f k)) r := by subst h; exact e
theorem ev_eq {α : Type} {g : Nat → Option α} {r q : α} (e : Ev g r) (h : r = q) : Ev g q := h ▸ e
theorem ev_some {α : Type} {r q : α} (h : r = q) : Ev (fun _ => some r) q := h ▸ Ev.now r
/-- Down from a list's end. -/
theorem idx_ind {α : Type} (l : List α) (P : Nat → Prop) (hend : P l.length) (hstep : ∀ i, i < l.length → P (i + 1) → P i) : ∀ i, i ≤ l.length → P i := by
  have key : ∀ d i, i + d = l.length → P i := by
    intro d
    induction d with
    | zero => intro i h; have : i = l.length := by omega
              rw [this]; exact hend
    | succ d ih => intro i h; exact hstep i (by omega) (ih (i + 1) (by omega))
  intro i h
  exact key (l.length - i) i (by omega)
theorem rd_at (l : List Int) (i : Nat) (h : i < l.length) : rd l (i : Int) = l[i] := by
  simp [rd, List.getD, h]
theorem rdOf_at {α : Type} (d : α) (l : List α) (i : Nat) (h : i < l.length) : rdOf d l (i : Int) = l[i] := by
  simp [rdOf, List.getD, h]
theorem drop_at {α : Type} (l : List α) (i : Nat) (h : i < l.length) : l.drop i = l[i] :: l.drop (i + 1) := List.drop_eq_getElem_cons h
theorem wsucc {i n : Nat} (h : i < n) (hn : n ≤ 9223372036854775807) : wrap64 ((i : Int) + 1) = ((i + 1 : Nat) : Int) := by
  rw [w64 (by omega) (by omega)]; rfl

theorem u64_range (n : Int) : 0 ≤ IntKind.u64.wrap n ∧ IntKind.u64.wrap n < 18446744073709551616 := by
  simp only [IntKind.wrap, IntKind.bits, IntKind.signed]
  constructor
  · exact Int.emod_nonneg _ (by decide)
  · exact Int.emod_lt_of_pos _ (by decide)
theorem u64_small (n : Int) (h0 : 0 ≤ n) (h1 : n < 2 ^ 24) : IntKind.u64.wrap n = n := by
  simp only [IntKind.wrap, IntKind.bits, IntKind.signed]
  have h1' : n < 16777216 := h1
  show n % 18446744073709551616 = n
  omega
/-- A byte that is drawn lies between 0 and 255. -/
theorem and255 (n : Int) : 0 ≤ Go.bits .and .u64 (IntKind.u64.wrap n / 1099511627776) 255 ∧ Go.bits .and .u64 (IntKind.u64.wrap n / 1099511627776) 255 ≤ 255 := by
  have h := u64_range n
  have e := bits_mask .u64 24 (by decide) u64_small 8 (by decide) (IntKind.u64.wrap n / 1099511627776) (by omega) (by show _ < (16777216 : Int); omega)
  have e2 : Go.bits .and .u64 (IntKind.u64.wrap n / 1099511627776) 255 = IntKind.u64.wrap n / 1099511627776 % 256 := e
  rw [e2]
  omega
def U8s (l : List Int) : Prop := ∀ x ∈ l, (Lit.int .u8 x).wf = true
theorem u8_rd {l : List Int} (h : U8s l) (i : Int) : 0 ≤ rd l i ∧ rd l i ≤ 255 := by
  unfold rd
  rcases Nat.lt_or_ge i.toNat l.length with hi | hi
  · have := h l[i.toNat] (List.getElem_mem hi)
    simp [Lit.wf, IntKind.min, IntKind.max, IntKind.signed, IntKind.bits] at this
    simp [List.getD, hi]
    omega
  · simp [List.getD, hi]
theorem nextOk {l : List Int} (h : U8s l) (i s : Int) (h0 : 0 ≤ i) (h1 : i ≤ 1000000000) : ∃ v s', spec_l00Src_next.f l i s = some (v, i + 1, s') ∧ 0 ≤ v ∧ v ≤ 255 := by
  have hr := u8_rd h i
  have e1 : wrap64 (i + 1) = i + 1 := w64 (by omega) (by omega)
  have e2 : wrap64 (rd l i) = rd l i := w64 (by omega) (by omega)
  unfold spec_l00Src_next.f
  rw [e1, e2]
  have big : ∀ n : Int, wrap64 (Go.bits .and .u64 (IntKind.u64.wrap n / 1099511627776) 255) = Go.bits .and .u64 (IntKind.u64.wrap n / 1099511627776) 255 := fun n => w64 (by have := and255 n; omega) (by have := and255 n; omega)
  by_cases c1 : i < (l.length : Int)
  · rw [if_pos c1, if_pos h0]
    by_cases c2 : i + 1 ≤ (l.length : Int)
    · rw [if_pos c2]; exact ⟨_, _, rfl, hr.1, hr.2⟩
    · rw [if_neg c2, big]; exact ⟨_, _, rfl, (and255 _).1, (and255 _).2⟩
  · rw [if_neg c1]
    by_cases c2 : i + 1 ≤ (l.length : Int)
    · rw [if_pos c2]; exact ⟨_, _, rfl, by omega, by omega⟩
    · rw [if_neg c2, big]; exact ⟨_, _, rfl, (and255 _).1, (and255 _).2⟩
theorem pickOk {l : List Int} (h : U8s l) (i s n : Int) (h0 : 0 ≤ i) (h1 : i ≤ 900000000) : ∃ v i' s', spec_l00Src_pick.f l i s n = some (v, i', s') ∧ 0 ≤ v ∧ (1 ≤ n → v < n) ∧ (n ≤ 1 → v = 0) ∧ i ≤ i' ∧ i' ≤ i + 2 := by
  unfold spec_l00Src_pick.f
  by_cases c : n ≤ 1
  · rw [if_pos c]; exact ⟨_, _, _, rfl, by omega, by omega, by omega, by omega, by omega⟩
  · rw [if_neg c]
    obtain ⟨v, s', e, v0, v1⟩ := nextOk h i s h0 (by omega)
    rw [e]
    simp only [Option.bind_some]
    by_cases c2 : n > 200
    · rw [if_pos c2]
      obtain ⟨v2, s2, e2, w0, w1⟩ := nextOk h (i + 1) s' (by omega) (by omega)
      rw [e2]
      simp only [Option.bind_some]
      rw [if_neg (by omega), w64 (n := v * 256) (by omega) (by omega), w64 (by omega) (by omega), Int.tmod_eq_emod_of_nonneg (by omega)]
      exact ⟨_, _, _, rfl, Int.emod_nonneg _ (by omega), fun _ => Int.emod_lt_of_pos _ (by omega), by omega, by omega, by omega⟩
    · rw [if_neg c2, if_neg (by omega), Int.tmod_eq_emod_of_nonneg (by omega)]
      exact ⟨_, _, _, rfl, Int.emod_nonneg _ (by omega), fun _ => Int.emod_lt_of_pos _ (by omega), by omega, by omega, by omega⟩

/-- Is every byte of a text from a place on between two bounds? -/
def betw (s : ByteArray) (lo hi : Int) : Nat → Nat → Bool
  | _, 0 => true
  | i, n + 1 => decide (lo ≤ bt s (i : Int) ∧ bt s (i : Int) ≤ hi) && betw s lo hi (i + 1) n
theorem nat_ind (n : Nat) (P : Nat → Prop) (hend : P n) (hstep : ∀ i, i < n → P (i + 1) → P i) : ∀ i, i ≤ n → P i := by
  have key : ∀ d i, i + d = n → P i := by
    intro d
    induction d with
    | zero => intro i h; have : i = n := by omega
              rw [this]; exact hend
    | succ d ih => intro i h; exact hstep i (by omega) (ih (i + 1) (by omega))
  intro i h
  exact key (n - i) i (by omega)
theorem betw_step (s : ByteArray) (lo hi : Int) {i n : Nat} (h : i < n) : betw s lo hi i (n - i) = (decide (lo ≤ bt s (i : Int) ∧ bt s (i : Int) ≤ hi) && betw s lo hi (i + 1) (n - (i + 1))) := by
  rw [show n - i = (n - (i + 1)) + 1 by omega, betw]
theorem betw_no (s : ByteArray) {lo hi : Int} {i n : Nat} (h : i < n) (c : ¬ (lo ≤ bt s (i : Int) ∧ bt s (i : Int) ≤ hi)) : betw s lo hi i (n - i) = false := by
  rw [betw_step s lo hi h, decide_eq_false c]; rfl
theorem betw_yes (s : ByteArray) {lo hi : Int} {i n : Nat} (h : i < n) (c : lo ≤ bt s (i : Int) ∧ bt s (i : Int) ≤ hi) : betw s lo hi i (n - i) = betw s lo hi (i + 1) (n - (i + 1)) := by
  rw [betw_step s lo hi h, decide_eq_true c]; rfl

theorem implText (s : ByteArray) (hs : s.size ≤ 140737488351232) : Ev (fun k => impl_IsText.f k s) (betw s 32 126 0 s.size && decide (s.size ≤ 80)) := by
  have key := nat_ind s.size (fun i => Ev (fun k => impl_IsText.l0 k s (s.size : Int) (i : Int)) (betw s 32 126 i (s.size - i) && decide (s.size ≤ 80))) ?_ ?_ 0 (Nat.zero_le _)
  · exact key
  · refine Ev.step (fun k => by rw [impl_IsText.l0]) ?_
    refine ev_neg (by omega) (ev_some ?_)
    simp [betw]; omega
  · intro i hi ih
    refine Ev.step (fun k => by rw [impl_IsText.l0]) ?_
    refine ev_pos (by omega) (ev_pos (by omega) (ev_pos (by omega) ?_))
    by_cases c1 : bt s (i : Int) < 32
    · refine ev_pos c1 (ev_some ?_)
      rw [betw_no s hi (by omega)]; rfl
    · refine ev_neg c1 ?_
      by_cases c2 : bt s (i : Int) > 126
      · refine ev_pos c2 (ev_some ?_)
        rw [betw_no s hi (by omega)]; rfl
      · refine ev_neg c2 ?_
        rw [betw_yes s hi (by omega), wsucc hi (by omega)]
        exact ih

theorem bt_range (s : ByteArray) (i : Int) : 0 ≤ bt s i ∧ bt s i ≤ 255 := by
  unfold bt
  have q : ∀ u : UInt8, u.toNat < 256 := fun u => u.toNat_lt
  split
  · have := q (s[i.toNat]'(by assumption))
    omega
  · omega
/-- May a word have this byte? -/
def wb (c : Int) : Bool := decide (48 ≤ c ∧ c ≤ 57 ∨ 97 ≤ c ∧ c ≤ 122)
def allW (s : ByteArray) : Nat → Nat → Bool
  | _, 0 => true
  | i, d + 1 => wb (bt s (i : Int)) && allW s (i + 1) d
theorem allW_step (s : ByteArray) {i n : Nat} (h : i < n) : allW s i (n - i) = (wb (bt s (i : Int)) && allW s (i + 1) (n - (i + 1))) := by
  rw [show n - i = n - (i + 1) + 1 by omega, allW]
def wordV (s : ByteArray) : Bool := allW s 0 s.size && decide (1 ≤ s.size ∧ s.size ≤ 80)
theorem implByte (c : Int) : impl_wordByte.f c = some (wb c) := by
  unfold impl_wordByte.f impl_isDigit.f wb
  by_cases h1 : c ≥ 48
  · rw [if_pos h1]
    simp only [Option.bind_some]
    by_cases h2 : c ≤ 57
    · rw [if_pos (by simpa using h2), decide_eq_true (by omega)]
    · rw [if_neg (by simpa using h2)]
      by_cases h3 : c ≥ 97
      · rw [if_pos h3]; congr 1; rw [decide_eq_decide]; omega
      · rw [if_neg h3]; congr 1; rw [eq_comm, decide_eq_false_iff_not]; omega
  · rw [if_neg h1]
    simp only [Option.bind_some]
    rw [if_neg (by simp), if_neg (by omega)]; congr 1; rw [eq_comm, decide_eq_false_iff_not]; omega
/-- A byte as words have it. -/
def lowV (c : Int) : Int := if 65 ≤ c ∧ c ≤ 90 then c + 32 else if wb c = true then c else 0
theorem low_eq (c : Int) : (¬ c = 0 ∧ lowV c = c) ↔ wb c = true := by
  unfold lowV wb
  by_cases h : 65 ≤ c ∧ c ≤ 90
  · rw [if_pos h]; simp; omega
  · rw [if_neg h]
    by_cases h2 : (48 ≤ c ∧ c ≤ 57 ∨ 97 ≤ c ∧ c ≤ 122)
    · rw [if_pos (by simpa using h2)]; simp [h2]; omega
    · rw [if_neg (by simpa using h2)]; simp [h2]; omega

/-- Is a text a name? -/
def okName (s : ByteArray) : Bool := betw s 97 122 0 s.size && decide (1 ≤ s.size ∧ s.size ≤ 8)
theorem implName (s : ByteArray) (hs : s.size ≤ 140737488351232) : Ev (fun k => impl_IsName.f k s) (okName s) := by
  have key := nat_ind s.size (fun i => Ev (fun k => impl_IsName.l0 k s (s.size : Int) (i : Int)) (betw s 97 122 i (s.size - i) && decide (1 ≤ s.size ∧ s.size ≤ 8))) ?_ ?_ 0 (Nat.zero_le _)
  · exact key
  · refine Ev.step (fun k => by rw [impl_IsName.l0]) ?_
    refine ev_neg (by omega) ?_
    rw [Nat.sub_self, betw, Bool.true_and]
    by_cases h : (s.size : Int) ≥ 1
    · refine ev_pos h (ev_some ?_)
      rw [decide_eq_decide]; omega
    · refine ev_neg h (ev_some ?_)
      rw [decide_eq_false (by omega)]
  · intro i hi ih
    refine Ev.step (fun k => by rw [impl_IsName.l0]) ?_
    refine ev_pos (by omega) (ev_pos (by omega) (ev_pos (by omega) ?_))
    by_cases c1 : bt s (i : Int) < 97
    · refine ev_pos c1 (ev_some ?_)
      rw [betw_no s hi (by omega)]; rfl
    · refine ev_neg c1 ?_
      by_cases c2 : bt s (i : Int) > 122
      · refine ev_pos c2 (ev_some ?_)
        rw [betw_no s hi (by omega)]; rfl
      · refine ev_neg c2 ?_
        rw [betw_yes s hi (by omega), wsucc hi (by omega)]
        exact ih
/-- Words in order, each a name, rising. -/
def wOk (p : Option ByteArray) : List ByteArray → Bool
  | [] => true
  | x :: r => okName x && (match p with | none => true | some y => Op.bytesLess y.toList x.toList) && wOk (some x) r
def prevOf (l : List ByteArray) (i : Nat) : Option ByteArray := if i = 0 then none else l[i - 1]?
theorem prevOf_succ {l : List ByteArray} {i : Nat} (h : i < l.length) : prevOf l (i + 1) = some l[i] := by
  unfold prevOf
  rw [if_neg (by omega), Nat.add_sub_cancel, List.getElem?_eq_getElem h]
theorem implWords (l : List ByteArray) (hl : l.length ≤ 100000000) (hs : ∀ y ∈ l, y.size ≤ 140737488351232) : Ev (fun k => impl_AreBadWords.f k l) (wOk none l && decide (l.length ≤ 64)) := by
  have key := idx_ind l (fun i => Ev (fun k => impl_AreBadWords.l0 k l l (l.length : Int) (i : Int)) (wOk (prevOf l i) (l.drop i) && decide (l.length ≤ 64))) ?_ ?_ 0 (Nat.zero_le _)
  · exact key
  · refine Ev.step (fun k => by rw [impl_AreBadWords.l0]) ?_
    refine ev_neg (by omega) (ev_some ?_)
    simp [wOk]; omega
  · intro i hi ih
    refine Ev.step (fun k => by rw [impl_AreBadWords.l0]) ?_
    rw [rdOf_at _ l i hi, drop_at l i hi, wsucc hi (by omega)]
    refine ev_pos (by omega) (ev_pos (by omega) (ev_pos (by omega) (Ev.bind (implName l[i] (hs _ (List.getElem_mem hi))) ?_)))
    rw [prevOf_succ hi] at ih
    simp only [wOk]
    by_cases c : okName l[i] = true
    · refine ev_pos c ?_
      rw [c, Bool.true_and]
      by_cases h0 : 0 < i
      · have e1 : wrap64 ((i : Int) - 1) = ((i - 1 : Nat) : Int) := by rw [w64 (by omega) (by omega)]; omega
        have e2 : prevOf l i = some (l[i - 1]'(by omega)) := by unfold prevOf; rw [if_neg (by omega), List.getElem?_eq_getElem (by omega)]
        rw [e1, e2, rdOf_at _ l (i - 1) (by omega)]
        refine ev_pos (by omega) (ev_pos (by omega) (ev_pos (by omega) ?_))
        by_cases g : Op.bytesLess (l[i - 1]'(by omega)).toList l[i].toList = true
        · refine ev_pos g ?_
          simp only [g, Bool.true_and]; exact ih
        · refine ev_neg g (ev_some ?_)
          rw [Bool.not_eq_true] at g
          simp only [g, Bool.false_and]
      · have e2 : prevOf l i = none := by unfold prevOf; rw [if_pos (by omega)]
        rw [e2]
        refine ev_neg (by omega) ?_
        simp only [Bool.true_and]; exact ih
    · refine ev_neg c (ev_some ?_)
      rw [Bool.not_eq_true] at c
      rw [c]; rfl

/-- Does a word have this byte, great or small? -/
def isW (c : Int) : Bool := decide (lowV c ≠ 0)
def lw (c : Int) : Int := if 65 ≤ c ∧ c ≤ 90 then c + 32 else c
theorem lwW (c : Int) : wb (lw c) = isW c := by
  unfold isW lowV lw wb
  by_cases h : 65 ≤ c ∧ c ≤ 90
  · rw [if_pos h, if_pos h, decide_eq_decide]; omega
  · rw [if_neg h, if_neg h]
    by_cases h2 : (48 ≤ c ∧ c ≤ 57 ∨ 97 ≤ c ∧ c ≤ 122)
    · rw [if_pos (by simpa using h2), decide_eq_decide]; omega
    · rw [if_neg (by simpa using h2), decide_eq_decide]; omega
theorem isW_lw {c : Int} (h : isW c = true) : lw c = lowV c ∧ 48 ≤ lowV c ∧ lowV c ≤ 122 := by
  unfold isW lowV wb at h
  unfold lowV lw wb
  by_cases h1 : 65 ≤ c ∧ c ≤ 90
  · rw [if_pos h1, if_pos h1]; omega
  · rw [if_neg h1] at h
    rw [if_neg h1, if_neg h1]
    by_cases h2 : (48 ≤ c ∧ c ≤ 57 ∨ 97 ≤ c ∧ c ≤ 122)
    · rw [if_pos (by simpa using h2)]; omega
    · rw [if_neg (by simpa using h2)] at h; simp at h
theorem implLower (c : Int) (h0 : 0 ≤ c) (h1 : c ≤ 255) : impl_lower.f c = some (lw c) := by
  unfold impl_lower.f lw
  by_cases h2 : c ≥ 65
  · rw [if_pos h2]
    by_cases h3 : c ≤ 90
    · rw [if_pos h3, if_pos ⟨h2, h3⟩]; congr 1; omega
    · rw [if_neg h3, if_neg (by omega)]
  · rw [if_neg h2, if_neg (by omega)]
theorem enc1 (c : Int) (h0 : 0 ≤ c) (h1 : c < 128) : Utf8.encode c = strOfNums [c] := by
  obtain ⟨n, rfl⟩ := Int.eq_ofNat_of_zero_le h0
  have hv : Utf8.valid (n : Int) = true := by simp [Utf8.valid]; omega
  unfold Utf8.encode strOfNums
  simp only [hv, if_true, Int.toNat_natCast]
  rw [if_pos (by omega)]
  rfl
theorem nums_app (l m : List Int) : strOfNums l ++ strOfNums m = strOfNums (l ++ m) := by
  apply ByteArray.ext
  simp [strOfNums]
/-- Where a run ends. -/
def rend (s : ByteArray) : Nat → Nat → Nat
  | i, 0 => i
  | i, d + 1 => if isW (bt s (i : Int)) = true then rend s (i + 1) d else i
def lows (s : ByteArray) : Nat → Nat → List Int
  | _, 0 => []
  | i, d + 1 => if isW (bt s (i : Int)) = true then lowV (bt s (i : Int)) :: lows s (i + 1) d else []
theorem rend_le (s : ByteArray) : ∀ d i, i ≤ rend s i d ∧ rend s i d ≤ i + d
  | 0, i => by simp [rend]
  | d + 1, i => by
    have := rend_le s d (i + 1)
    unfold rend
    split <;> omega
theorem rend_yes (s : ByteArray) {i n : Nat} (h : i < n) (c : isW (bt s (i : Int)) = true) : rend s i (n - i) = rend s (i + 1) (n - (i + 1)) := by
  rw [show n - i = n - (i + 1) + 1 by omega, rend, if_pos c]
theorem rend_no (s : ByteArray) {i n : Nat} (h : i < n) (c : ¬ isW (bt s (i : Int)) = true) : rend s i (n - i) = i := by
  rw [show n - i = n - (i + 1) + 1 by omega, rend, if_neg c]
theorem lows_yes (s : ByteArray) {i n : Nat} (h : i < n) (c : isW (bt s (i : Int)) = true) : lows s i (n - i) = lowV (bt s (i : Int)) :: lows s (i + 1) (n - (i + 1)) := by
  rw [show n - i = n - (i + 1) + 1 by omega, lows, if_pos c]
theorem lows_no (s : ByteArray) {i n : Nat} (h : i < n) (c : ¬ isW (bt s (i : Int)) = true) : lows s i (n - i) = [] := by
  rw [show n - i = n - (i + 1) + 1 by omega, lows, if_neg c]
theorem lows_len (s : ByteArray) : ∀ d i, (lows s i d).length ≤ d
  | 0, i => by simp [lows]
  | d + 1, i => by
    have := lows_len s d (i + 1)
    unfold lows
    split <;> simp <;> omega
abbrev TR := S87
def wordOf (s : ByteArray) (i : Nat) : ByteArray := strOfNums (lows s i (s.size - i))
/-- The runs of a text from a place on. -/
def runsF (s : ByteArray) : Nat → Nat → List TR
  | 0, _ => []
  | n + 1, i => if i < s.size then (if isW (bt s (i : Int)) = true then (⟨(i : Int), (rend s i (s.size - i) : Nat), wordOf s i⟩ : TR) :: runsF s n (rend s i (s.size - i) + 1) else runsF s n (i + 1)) else []
theorem runs_in (s : ByteArray) : ∀ n i, ∀ x ∈ runsF s n i, 0 ≤ x.f0 ∧ x.f0 ≤ x.f1 ∧ x.f1 ≤ (s.size : Int)
  | 0, i, x, h => by simp [runsF] at h
  | n + 1, i, x, h => by
    unfold runsF at h
    split at h
    · rename_i hi
      split at h
      · rcases List.mem_cons.1 h with h | h
        · have := rend_le s (s.size - i) i
          subst h
          simp only
          omega
        · exact runs_in s n _ x h
      · exact runs_in s n _ x h
    · simp at h
/-- A run is read to its end. -/
theorem implRun (s : ByteArray) (hs : s.size ≤ 1048576) (i : Nat) (x3 : List TR) (hx : x3.length ≤ 1048576) (r : List TR) (nx : Ev (fun k => impl_runsOf.l0 k s (x3 ++ [⟨(i : Int), (rend s i (s.size - i) : Nat), wordOf s i⟩]) ((rend s i (s.size - i) + 1 : Nat) : Int)) r) (hi : i ≤ s.size) : Ev (fun k => impl_runsOf.l1 k s x3 (i : Int) (i : Int) 0 (⟨#[]⟩ : ByteArray)) r := by
  have key := nat_ind s.size (fun j => i ≤ j → ∀ acc : List Int, acc.length = j - i → rend s j (s.size - j) = rend s i (s.size - i) → strOfNums (acc ++ lows s j (s.size - j)) = wordOf s i → Ev (fun k => impl_runsOf.l1 k s x3 (j : Int) (i : Int) 0 (strOfNums acc)) r) ?_ ?_ i hi (Nat.le_refl _) [] (by simp) rfl rfl
  · exact key
  · intro _ acc ha he hw
    refine Ev.step (fun k => by rw [impl_runsOf.l1]) ?_
    rw [Nat.sub_self] at he hw
    simp only [lows, List.append_nil] at hw
    simp only [rend] at he
    rw [wsucc (n := s.size + 1) (by omega) (by omega), hw]
    rw [← he] at nx
    exact ev_neg (by omega) (ev_pos (by omega) nx)
  · intro j hj ih hij acc ha he hw
    have hr := bt_range s (j : Int)
    refine Ev.step (fun k => by rw [impl_runsOf.l1]) ?_
    rw [wsucc hj (by omega)]
    refine ev_pos (by omega) (ev_pos (by omega) (ev_b (implLower _ hr.1 hr.2) (ev_b (implByte _) ?_)))
    rw [lwW]
    by_cases c : isW (bt s (j : Int)) = true
    · have hl := isW_lw c
      refine ev_pos c (ev_b (implLower _ hr.1 hr.2) ?_)
      rw [hl.1, enc1 _ (by omega) (by omega), nums_app]
      rw [lows_yes s hj c] at hw
      rw [rend_yes s hj c] at he
      refine ev_pos ?_ (ih (by omega) _ (by simp [ha]; omega) he (by simpa using hw))
      rw [strOfNums_size, strOfNums_size]; simp; omega
    · rw [lows_no s hj c, List.append_nil] at hw
      rw [rend_no s hj c] at he
      refine ev_neg c (ev_pos (by omega) ?_)
      rw [hw]
      rw [← he] at nx
      exact nx
theorem implRunsL (s : ByteArray) (hs : s.size ≤ 1048576) : ∀ (n i : Nat) (x3 : List TR), s.size ≤ i + n → i ≤ s.size + 1 → x3.length ≤ i → Ev (fun k => impl_runsOf.l0 k s x3 (i : Int)) (x3 ++ runsF s n i) := by
  intro n
  induction n with
  | zero =>
    intro i x3 h _ _
    refine Ev.step (fun k => by rw [impl_runsOf.l0]) ?_
    exact ev_neg (by omega) (ev_some (by simp [runsF]))
  | succ n ih =>
    intro i x3 h h2 hx
    refine Ev.step (fun k => by rw [impl_runsOf.l0]) ?_
    by_cases hi : i < s.size
    · have hr := bt_range s (i : Int)
      rw [wsucc hi (by omega)]
      refine ev_pos (by omega) (ev_pos (by omega) (ev_b (implLower _ hr.1 hr.2) (ev_b (implByte _) ?_)))
      rw [lwW]
      unfold runsF
      rw [if_pos hi]
      have hre := rend_le s (s.size - i) i
      by_cases c : isW (bt s (i : Int)) = true
      · rw [if_pos c]
        refine ev_pos c (implRun s hs i x3 (by omega) _ ?_ (by omega))
        refine ev_eq (ih _ _ (by omega) (by omega) (by simp; omega)) (by simp)
      · rw [if_neg c]
        exact ev_neg c (ih (i + 1) x3 (by omega) (by omega) (by omega))
    · refine ev_neg (by omega) (ev_some ?_)
      unfold runsF
      rw [if_neg hi, List.append_nil]
def runsAll (s : ByteArray) : List TR := runsF s s.size 0
theorem implRuns (s : ByteArray) (hs : s.size ≤ 1048576) : Ev (fun k => impl_runsOf.f k s) (runsAll s) := by
  have := implRunsL s hs s.size 0 [] (by omega) (by omega) (by simp)
  unfold impl_runsOf.f runsAll
  simpa using this
def allL (t : ByteArray) : Nat → Nat → List Int
  | _, 0 => []
  | j, d + 1 => lowV (bt t (j : Int)) :: allL t (j + 1) d
theorem bt_extract (s : ByteArray) (i e j : Nat) (h : i + j < e) (he : e ≤ s.size) : bt (s.extract i e) (j : Int) = bt s ((i + j : Nat) : Int) := by
  have h1 : j < (s.extract i e).size := by rw [ByteArray.size_extract]; omega
  unfold bt
  simp only [Int.toNat_natCast]
  rw [dif_pos h1, dif_pos (show i + j < s.size by omega), ByteArray.getElem_extract]
theorem all_lows (s : ByteArray) (i e : Nat) (he : e ≤ s.size) : ∀ d j, e = i + j + d → rend s (i + j) (s.size - (i + j)) = e → allL (s.extract i e) j d = lows s (i + j) (s.size - (i + j)) := by
  intro d
  induction d with
  | zero =>
    intro j hj hr
    unfold allL
    rcases Nat.lt_or_ge (i + j) s.size with h | h
    · by_cases c : isW (bt s ((i + j : Nat) : Int)) = true
      · rw [rend_yes s h c] at hr
        have := rend_le s (s.size - (i + j + 1)) (i + j + 1)
        omega
      · rw [lows_no s h c]
    · rw [show s.size - (i + j) = 0 by omega]; rfl
  | succ d ih =>
    intro j hj hr
    have h : i + j < s.size := by omega
    by_cases c : isW (bt s ((i + j : Nat) : Int)) = true
    · rw [lows_yes s h c, allL, bt_extract s i e j (by omega) he]
      congr 1
      rw [rend_yes s h c] at hr
      have := ih (j + 1) (by omega) (by rw [← Nat.add_assoc]; exact hr)
      rw [this, ← Nat.add_assoc]
    · rw [rend_no s h c] at hr; omega
/-- Is a word among these? -/
def hasV (l : List ByteArray) (w : ByteArray) : Bool := l.any fun y => decide (y.toList = w.toList)

theorem implContains (l : List ByteArray) (hl : l.length ≤ 100000000) (w : ByteArray) : Ev (fun k => slices_Contains_string_string.f k l w) (hasV l w) := by
  have key := idx_ind l (fun i => ∃ v : Int, Ev (fun k => slices_Index_string_string.l0 k l w (l.length : Int) (i : Int)) v ∧ decide (v ≥ 0) = hasV (l.drop i) w) ?_ ?_ 0 (Nat.zero_le _)
  · obtain ⟨v, h1, h2⟩ := key
    unfold slices_Contains_string_string.f slices_Index_string_string.f
    exact Ev.bind h1 (ev_some h2)
  · refine ⟨-1, Ev.step (fun k => by rw [slices_Index_string_string.l0]) ?_, by simp [hasV]⟩
    exact ev_neg (by omega) (Ev.now _)
  · intro i hi ⟨v, h1, h2⟩
    by_cases c : w.toList = l[i].toList
    · refine ⟨(i : Int), Ev.step (fun k => by rw [slices_Index_string_string.l0]) ?_, by rw [drop_at l i hi]; simp only [hasV, List.any_cons, decide_eq_true c.symm, Bool.true_or, decide_eq_true_eq]; omega⟩
      rw [rdOf_at _ l i hi]
      exact ev_pos (by omega) (ev_pos (by omega) (ev_pos (by omega) (ev_pos c (Ev.now _))))
    · refine ⟨v, Ev.step (fun k => by rw [slices_Index_string_string.l0]) ?_, by rw [h2, drop_at l i hi]; simp only [hasV, List.any_cons, decide_eq_false (fun z : l[i].toList = w.toList => c z.symm), Bool.false_or]⟩
      rw [rdOf_at _ l i hi, wsucc hi (by omega)]
      exact ev_pos (by omega) (ev_pos (by omega) (ev_pos (by omega) (ev_neg c h1)))

/-- Of a sorted list, each once: rising, and the same members. -/
theorem compactUp {α : Type} [Inhabited α] [DecidableEq α] (le : α → α → Prop) (anti : ∀ a b, le a b → le b a → a = b) (d : Array α) (hs : ∀ i j, i < j → j < d.size → le d[i]! d[j]!) : ∀ m, m ≤ d.size →
    (Lib.compactUpTo d m).Pairwise (fun a b => le a b ∧ a ≠ b) ∧ (∀ x, x ∈ Lib.compactUpTo d m ↔ ∃ i, i < m ∧ d[i]! = x)
  | 0, _ => by simp [Lib.compactUpTo]
  | m + 1, hm => by
    obtain ⟨h1, h2⟩ := compactUp le anti d hs m (by omega)
    rw [Lib.compactUpTo_succ]
    by_cases hk : Lib.keeps d m = true
    · rw [if_pos hk]
      refine ⟨List.pairwise_append.2 ⟨h1, List.pairwise_singleton _ _, fun a ha b hb => ?_⟩, fun x => ?_⟩
      · rw [List.mem_singleton] at hb
        subst hb
        obtain ⟨i, hi, rfl⟩ := (h2 a).1 ha
        refine ⟨hs i m hi (by omega), fun e => ?_⟩
        have hk2 : m = 0 ∨ d[m]! ≠ d[m - 1]! := by simpa [Lib.keeps] using hk
        rcases hk2 with h0 | h0
        · omega
        · rcases Nat.lt_or_ge i (m - 1) with h3 | h3
          · refine h0 (anti _ _ ?_ (hs (m - 1) m (by omega) (by omega)))
            rw [← e]; exact hs i (m - 1) h3 (by omega)
          · have : i = m - 1 := by omega
            subst this
            exact h0 e.symm
      · rw [List.mem_append, List.mem_singleton, h2]
        constructor
        · rintro (⟨i, hi, e⟩ | e)
          · exact ⟨i, by omega, e⟩
          · exact ⟨m, by omega, e.symm⟩
        · rintro ⟨i, hi, e⟩
          rcases Nat.lt_or_ge i m with h3 | h3
          · exact .inl ⟨i, h3, e⟩
          · have : i = m := by omega
            subst this; exact .inr e.symm
    · rw [if_neg hk, List.append_nil]
      refine ⟨h1, fun x => ?_⟩
      rw [h2]
      have hk2 : ¬ (m = 0 ∨ d[m]! ≠ d[m - 1]!) := by simpa [Lib.keeps] using hk
      have hm0 : ¬ m = 0 := fun z => hk2 (.inl z)
      have he : d[m]! = d[m - 1]! := Classical.byContradiction fun z => hk2 (.inr z)
      constructor
      · rintro ⟨i, hi, e⟩; exact ⟨i, by omega, e⟩
      · rintro ⟨i, hi, e⟩
        rcases Nat.lt_or_ge i m with h3 | h3
        · exact ⟨i, h3, e⟩
        · have : i = m := by omega
          subst this
          exact ⟨i - 1, by omega, by rw [← he]; exact e⟩
/-- Two rising lists with the same members are one. -/
theorem asc_eq {α : Type} (lt : α → α → Prop) (irr : ∀ a, ¬ lt a a) (asy : ∀ a b, lt a b → ¬ lt b a) : ∀ l m : List α, l.Pairwise lt → m.Pairwise lt → (∀ x, x ∈ l ↔ x ∈ m) → l = m
  | [], [], _, _, _ => rfl
  | [], y :: m, _, _, h => by have := (h y).2 List.mem_cons_self; simp at this
  | x :: l, [], _, _, h => by have := (h x).1 List.mem_cons_self; simp at this
  | x :: l, y :: m, h1, h2, h => by
    have p1 := List.pairwise_cons.1 h1
    have p2 := List.pairwise_cons.1 h2
    have e : x = y := by
      rcases List.mem_cons.1 ((h x).1 List.mem_cons_self) with e | e
      · exact e
      · rcases List.mem_cons.1 ((h y).2 List.mem_cons_self) with e2 | e2
        · exact e2.symm
        · exact absurd (p2.1 x e) (asy _ _ (p1.1 y e2))
    subst e
    congr 1
    refine asc_eq lt irr asy l m p1.2 p2.2 fun z => ?_
    constructor
    · intro hz
      rcases List.mem_cons.1 ((h z).1 (List.mem_cons_of_mem _ hz)) with e | e
      · subst e; exact absurd (p1.1 z hz) (irr z)
      · exact e
    · intro hz
      rcases List.mem_cons.1 ((h z).2 (List.mem_cons_of_mem _ hz)) with e | e
      · subst e; exact absurd (p2.1 z hz) (irr z)
      · exact e
def dl (s : ByteArray) : List UInt8 := s.data.toList
def ofL (l : List UInt8) : ByteArray := ⟨l.toArray⟩
theorem ofL_dl (s : ByteArray) : ofL (dl s) = s := by
  unfold ofL dl; cases s; simp
def leL (x y : List UInt8) : Bool := decide (x ≤ y)
/-- Sorted, each once. -/
def sortU (F : List ByteArray) : List (List UInt8) := Lib.compact ((F.map dl).mergeSort leL)
theorem sortU_ok (F : List ByteArray) : (sortU F).Pairwise (fun a b => a < b) ∧ ∀ x, x ∈ sortU F ↔ x ∈ F.map dl := by
  unfold sortU Lib.compact
  have hp : ((F.map dl).mergeSort leL).Pairwise (fun a b => leL a b = true) := List.pairwise_mergeSort (by
      intro a b c h1 h2
      simp only [leL, decide_eq_true_eq] at h1 h2 ⊢
      exact List.le_trans h1 h2) (by
      intro a b
      simp only [leL, Bool.or_eq_true, decide_eq_true_eq]
      exact Std.le_total) _
  have hperm := List.mergeSort_perm (F.map dl) leL
  generalize (F.map dl).mergeSort leL = z at hp hperm
  have hs : ∀ i j, i < j → j < z.toArray.size → z.toArray[i]! ≤ z.toArray[j]! := by
    intro i j hij hj
    have hj' : j < z.length := by simpa using hj
    have := List.pairwise_iff_getElem.1 hp i j (by omega) hj' hij
    rw [getElem!_pos z.toArray i (by simp; omega), getElem!_pos z.toArray j (by simpa using hj)]
    simpa [leL] using this
  obtain ⟨h1, h2⟩ := compactUp (fun a b : List UInt8 => a ≤ b) (fun a b => List.le_antisymm) z.toArray hs z.length (by simp)
  refine ⟨h1.imp fun ⟨a, b⟩ => Std.lt_of_le_of_ne a b, fun x => ?_⟩
  rw [h2, ← hperm.mem_iff, List.mem_iff_getElem]
  constructor
  · rintro ⟨i, hi, e⟩
    refine ⟨i, hi, ?_⟩
    rw [getElem!_pos z.toArray i (by simpa using hi)] at e
    simpa using e
  · rintro ⟨i, hi, e⟩
    refine ⟨i, hi, ?_⟩
    rw [getElem!_pos z.toArray i (by simpa using hi)]
    simpa using e

theorem rdTR (l : List TR) (i : Nat) (h : i < l.length) : rd_T87 l (i : Int) = l[i] := by
  simp [rd_T87, List.getD, h]
theorem runs_len (s : ByteArray) : ∀ n i, (runsF s n i).length ≤ n
  | 0, i => by simp [runsF]
  | n + 1, i => by
    unfold runsF
    split
    · split
      · have := runs_len s n (rend s i (s.size - i) + 1); simp; omega
      · have := runs_len s n (i + 1); omega
    · simp
/-- The bad words of runs, as they come. -/
def foundF (ws : List ByteArray) : List TR → List ByteArray
  | [] => []
  | x :: r => if hasV ws x.f2 = true then x.f2 :: foundF ws r else foundF ws r
theorem found_len (ws : List ByteArray) : ∀ l : List TR, (foundF ws l).length ≤ l.length
  | [] => by simp [foundF]
  | x :: r => by have := found_len ws r; unfold foundF; split <;> simp <;> omega
theorem found_in (ws : List ByteArray) : ∀ (l : List TR), ∀ y ∈ foundF ws l, hasV ws y = true
  | [], y, h => by simp [foundF] at h
  | x :: r, y, h => by
    unfold foundF at h
    split at h
    · rcases List.mem_cons.1 h with e | e
      · subst e; assumption
      · exact found_in ws r y e
    · exact found_in ws r y h

theorem toList_dl (s : ByteArray) : s.toList = dl s := ByteArray.toList_eq s
theorem hasV_iff (l : List ByteArray) (w : ByteArray) : hasV l w = true ↔ ∃ y ∈ l, dl y = dl w := by
  unfold hasV
  rw [List.any_eq_true]
  constructor
  · rintro ⟨y, hy, e⟩; exact ⟨y, hy, by rw [← toList_dl, ← toList_dl]; simpa using e⟩
  · rintro ⟨y, hy, e⟩; exact ⟨y, hy, by rw [toList_dl, toList_dl]; simpa using e⟩
/-- Words in order rise. -/
theorem wOk_up : ∀ (l : List ByteArray) (p : Option ByteArray), wOk p l = true → l.Pairwise (fun a b => dl a < dl b) ∧ ∀ y, p = some y → ∀ x ∈ l, dl y < dl x
  | [], _, _ => by simp
  | x :: r, p, h => by
    unfold wOk at h
    simp only [Bool.and_eq_true] at h
    obtain ⟨h1, h2⟩ := wOk_up r (some x) h.2
    have hp : ∀ y, p = some y → dl y < dl x := by
      intro y e
      subst e
      have := h.1.2
      simp only [bytesLess_eq, toList_dl, decide_eq_true_eq] at this
      exact this
    refine ⟨List.pairwise_cons.2 ⟨fun b hb => h2 x rfl b hb, h1⟩, fun y e z hz => ?_⟩
    rcases List.mem_cons.1 hz with e2 | e2
    · subst e2; exact hp y e
    · exact List.lt_trans (hp y e) (h2 x rfl z e2)
/-- The words that are found, in the words' own order. -/
def wordsIn (ws F : List ByteArray) : List ByteArray := ws.filter fun w => hasV F w
theorem sort_words (ws F : List ByteArray) (hw : ws.Pairwise (fun a b => dl a < dl b)) (hF : ∀ y ∈ F, hasV ws y = true) : (sortU F).map ofL = wordsIn ws F := by
  have h := sortU_ok F
  have e : sortU F = (wordsIn ws F).map dl := by
    refine asc_eq (fun a b : List UInt8 => a < b) (fun a => List.lt_irrefl a) (fun a b => List.lt_asymm) _ _ h.1 ?_ fun x => ?_
    · exact List.Pairwise.map _ (fun a b h => h) (hw.filter _)
    · rw [h.2, List.mem_map, List.mem_map]
      constructor
      · rintro ⟨y, hy, e⟩
        obtain ⟨w, hw1, hw2⟩ := (hasV_iff ws y).1 (hF y hy)
        exact ⟨w, List.mem_filter.2 ⟨hw1, (hasV_iff F w).2 ⟨y, hy, hw2.symm⟩⟩, hw2.trans e⟩
      · rintro ⟨w, hw1, e⟩
        obtain ⟨y, hy, e2⟩ := (hasV_iff F w).1 (List.mem_filter.1 hw1).2
        exact ⟨y, hy, e2.trans e⟩
  rw [e, List.map_map]
  have : ofL ∘ dl = id := funext fun s => ofL_dl s
  rw [this, List.map_id]
/-- Is the call in order? -/
def badOkV (s : ByteArray) (ws : List ByteArray) : Bool := (betw s 32 126 0 s.size && decide (s.size ≤ 80)) && (wOk none ws && decide (ws.length ≤ 64))
/-- What both answer. -/
def badV (s : ByteArray) (ws : List ByteArray) : List ByteArray × Bool := if badOkV s ws = true then (wordsIn ws (foundF ws (runsAll s)), true) else ([], false)
theorem badV_len (s : ByteArray) (ws : List ByteArray) : (badV s ws).1.length ≤ ws.length := by
  unfold badV wordsIn
  split
  · exact List.length_filter_le _ _
  · simp
theorem implOk (s : ByteArray) (hs : s.size ≤ 1048576) (ws : List ByteArray) (hl : ws.length ≤ 100000000) (hf : ∀ y ∈ ws, y.size ≤ 140737488351232) : Ev (fun k => impl_badOk.f k s ws) (badOkV s ws) := by
  unfold impl_badOk.f badOkV
  refine Ev.bind (implText s (by omega)) ?_
  by_cases c : (betw s 32 126 0 s.size && decide (s.size ≤ 80)) = true
  · rw [c, Bool.true_and]
    exact ev_pos rfl (Ev.bind (implWords ws hl hf) (Ev.now _))
  · rw [(Bool.not_eq_true _).mp c, Bool.false_and]
    exact ev_neg (by simp) (Ev.now _)
theorem implBad (s : ByteArray) (hs : s.size ≤ 1048576) (ws : List ByteArray) (hl : ws.length ≤ 100000000) (hf : ∀ y ∈ ws, y.size ≤ 140737488351232) : Ev (fun k => impl_BadWordsIn.f k s ws) (badV s ws) := by
  unfold impl_BadWordsIn.f badV
  refine Ev.bind (implOk s hs ws hl hf) ?_
  by_cases c : badOkV s ws = true
  · rw [if_pos c]
    refine ev_pos c (Ev.bind (implRuns s hs) ?_)
    have hr : (runsAll s).length ≤ 1048576 := by have := runs_len s s.size 0; unfold runsAll; omega
    have hw : wOk none ws = true := by unfold badOkV at c; simp only [Bool.and_eq_true] at c; exact c.2.1
    have hF := found_in ws (runsAll s)
    have hFl := found_len ws (runsAll s)
    generalize runsAll s = R at hr hF hFl
    have key := idx_ind R (fun i => ∀ acc : List ByteArray, acc.length ≤ i → acc ++ foundF ws (R.drop i) = foundF ws R → Ev (fun k => impl_BadWordsIn.l0 k ws acc R (R.length : Int) (i : Int)) (wordsIn ws (foundF ws R), true)) ?_ ?_ 0 (Nat.zero_le _) [] (by simp) (by simp)
    · exact key
    · intro acc ha he
      rw [List.drop_length, foundF, List.append_nil] at he
      subst he
      refine Ev.step (fun k => by rw [impl_BadWordsIn.l0]) ?_
      refine ev_neg (by omega) ?_
      have hs1 : slices_Sort_string_string.f (foundF ws R) = some (((foundF ws R).map dl |>.mergeSort leL).map ofL) := by
        unfold slices_Sort_string_string.f; rw [if_pos (by omega)]; rfl
      refine ev_b hs1 (ev_b (a := (sortU (foundF ws R)).map ofL) ?_ ?_)
      · unfold slices_Compact_string_string.f
        rw [if_pos (by rw [List.length_map, List.length_mergeSort, List.length_map]; omega), List.map_map]
        have : (fun s : ByteArray => s.data.toList) ∘ ofL = id := funext fun l => by simp [ofL]
        rw [this, List.map_id]
        rfl
      · exact ev_some (by rw [sort_words ws _ (wOk_up ws none hw).1 hF])
    · intro i hi ih acc ha he
      refine Ev.step (fun k => by rw [impl_BadWordsIn.l0]) ?_
      rw [rdTR R i hi, wsucc hi (by omega)]
      rw [drop_at R i hi, foundF] at he
      refine ev_pos (by omega) (ev_pos (by omega) (ev_pos (by omega) (Ev.bind (implContains ws hl _) ?_)))
      by_cases d : hasV ws R[i].f2 = true
      · rw [if_pos d] at he
        exact ev_pos d (ev_pos (by omega) (ih (acc ++ [R[i].f2]) (by simp; omega) (by simpa using he)))
      · rw [if_neg d] at he
        exact ev_neg d (ih acc (by omega) he)
  · rw [if_neg c]
    exact ev_neg c (Ev.now _)

/-- Stars from a place on, so many. -/
def starL : List Int → Nat → Nat → List Int
  | L, _, 0 => L
  | L, a, d + 1 => starL (L.set a 42) (a + 1) d
theorem starL_len : ∀ (d a : Nat) (L : List Int), (starL L a d).length = L.length
  | 0, _, _ => rfl
  | d + 1, a, L => by rw [starL, starL_len d]; simp
/-- What stands behind these runs. -/
def cenR (ws : List ByteArray) : List TR → List Int → List Int
  | [], L => L
  | r :: rs, L => cenR ws rs (if hasV ws r.f2 = true then starL L (r.f0.toNat + 1) (r.f1.toNat - (r.f0.toNat + 1)) else L)
def cenV (s : ByteArray) (ws : List ByteArray) : ByteArray × Bool := if badOkV s ws = true then (strOfNums (cenR ws (runsAll s) (bytesOf s)), true) else ((⟨#[]⟩ : ByteArray), false)
theorem implCen (s : ByteArray) (hs : s.size ≤ 1048576) (ws : List ByteArray) (hl : ws.length ≤ 100000000) (hf : ∀ y ∈ ws, y.size ≤ 140737488351232) : Ev (fun k => impl_CensorText.f k s ws) (cenV s ws) := by
  unfold impl_CensorText.f cenV
  refine Ev.bind (implOk s hs ws hl hf) ?_
  by_cases c : badOkV s ws = true
  · rw [if_pos c]
    refine ev_pos c (Ev.bind (implRuns s hs) ?_)
    have hr : (runsAll s).length ≤ 1048576 := by have := runs_len s s.size 0; unfold runsAll; omega
    have hin : ∀ x ∈ runsAll s, 0 ≤ x.f0 ∧ x.f0 ≤ x.f1 ∧ x.f1 ≤ (s.size : Int) := runs_in s s.size 0
    generalize runsAll s = R at hr hin
    have key := idx_ind R (fun i => ∀ L : List Int, L.length = s.size → Ev (fun k => impl_CensorText.l0 k ws L R (R.length : Int) (i : Int)) (strOfNums (cenR ws (R.drop i) L), true)) ?_ ?_ 0 (Nat.zero_le _) (bytesOf s) (bytesOf_length s)
    · exact key
    · intro L _
      refine Ev.step (fun k => by rw [impl_CensorText.l0]) ?_
      refine ev_neg (by omega) (ev_some ?_)
      rw [List.drop_length, cenR]
    · intro i hi ih L hL
      refine Ev.step (fun k => by rw [impl_CensorText.l0]) ?_
      rw [rdTR R i hi, drop_at R i hi, cenR]
      refine ev_pos (by omega) (ev_pos (by omega) (ev_pos (by omega) ?_))
      obtain ⟨g0, g1, g2⟩ := hin R[i] (List.getElem_mem hi)
      obtain ⟨p, hp⟩ := Int.eq_ofNat_of_zero_le g0
      obtain ⟨q, hq⟩ := Int.eq_ofNat_of_zero_le (show 0 ≤ R[i].f1 by omega)
      have hpq : p ≤ q := by omega
      have hqs : q ≤ s.size := by omega
      rw [hp, hq]
      simp only [Int.toNat_natCast]
      rw [wsucc (n := p + 1) (by omega) (by omega)]
      have loop : ∀ d a : Nat, ∀ L : List Int, L.length = s.size → a + d = q → (hasV ws R[i].f2 = true) → Ev (fun k => impl_CensorText.l1 k ws L (a : Int) R (R.length : Int) (i : Int) (p : Int) (q : Int) R[i].f2) (strOfNums (cenR ws (R.drop (i + 1)) (starL L a d)), true) := by
        intro d
        induction d with
        | zero =>
          intro a L hL ha hv
          refine Ev.step (fun k => by rw [impl_CensorText.l1]) ?_
          rw [wsucc hi (by omega), starL]
          exact ev_neg (by omega) (ih L hL)
        | succ d ihd =>
          intro a L hL ha hv
          refine Ev.step (fun k => by rw [impl_CensorText.l1]) ?_
          rw [wsucc (n := q) (by omega) (by omega), starL]
          refine ev_pos (by omega) (Ev.bind (implContains ws hl _) (ev_pos hv (ev_pos (by omega) (ev_pos (by omega) ?_))))
          have := ihd (a + 1) (L.set a 42) (by simp [hL]) (by omega) hv
          simpa using this
      by_cases d : hasV ws R[i].f2 = true
      · rw [if_pos d]
        rcases Nat.lt_or_ge p q with h | h
        · exact loop (q - (p + 1)) (p + 1) L hL (by omega) d
        · rw [show q - (p + 1) = 0 by omega, starL]
          refine Ev.step (fun k => by rw [impl_CensorText.l1]) ?_
          rw [wsucc hi (by omega)]
          exact ev_neg (by omega) (ih L hL)
      · rw [if_neg d]
        refine Ev.step (fun k => by rw [impl_CensorText.l1]) ?_
        rw [wsucc hi (by omega)]
        by_cases h : ((p + 1 : Nat) : Int) < (q : Int)
        · exact ev_pos h (Ev.bind (implContains ws hl _) (ev_neg d (ih L hL)))
        · exact ev_neg h (ih L hL)
  · rw [if_neg c]
    exact ev_neg c (Ev.now _)

/-- In how many places two lists differ. -/
def dif : List Int → List Int → Nat
  | x :: xs, y :: ys => (if x = y then 0 else 1) + dif xs ys
  | _, _ => 0
theorem dif_self : ∀ L, dif L L = 0
  | [] => rfl
  | x :: r => by rw [dif, if_pos rfl, dif_self r]
theorem dif_set : ∀ (L B : List Int) (a : Nat) (v : Int), L.length = B.length → a < L.length → L[a]? = B[a]? → B[a]? ≠ some v → dif (L.set a v) B = dif L B + 1
  | [], _, a, v, _, h, _, _ => by simp at h
  | x :: r, [], a, v, hl, _, _, _ => by simp at hl
  | x :: r, y :: q, 0, v, hl, _, h1, h2 => by
    simp only [List.getElem?_cons_zero, Option.some.injEq, ne_eq] at h1 h2
    rw [List.set_cons_zero, dif, dif, if_neg (fun z => h2 z.symm), if_pos h1]
    omega
  | x :: r, y :: q, a + 1, v, hl, h, h1, h2 => by
    simp only [List.getElem?_cons_succ] at h1 h2
    rw [List.set_cons_succ, dif, dif, dif_set r q a v (by simpa using hl) (by simpa using h) h1 h2]
    omega
theorem dif_star (B : List Int) : ∀ (d a : Nat) (L : List Int), L.length = B.length → a + d ≤ L.length → (∀ j, a ≤ j → j < a + d → L[j]? = B[j]? ∧ B[j]? ≠ some 42) → dif (starL L a d) B = dif L B + d
  | 0, a, L, _, _, _ => rfl
  | d + 1, a, L, hl, h, hj => by
    have h0 := hj a (Nat.le_refl _) (by omega)
    rw [starL, dif_star B d (a + 1) (L.set a 42) (by simpa using hl) (by simp; omega) ?_, dif_set L B a 42 hl (by omega) h0.1 h0.2]
    · omega
    · intro j h1 h2
      rw [List.getElem?_set_ne (by omega)]
      exact hj j (by omega) (by omega)
theorem star_get : ∀ (d a : Nat) (L : List Int) (j : Nat), j < a ∨ a + d ≤ j → (starL L a d)[j]? = L[j]?
  | 0, _, _, _, _ => rfl
  | d + 1, a, L, j, h => by
    rw [starL, star_get d (a + 1) _ j (by omega), List.getElem?_set_ne (by omega)]
theorem star_or : ∀ (d a : Nat) (L : List Int) (j : Nat), (starL L a d)[j]? = L[j]? ∨ (starL L a d)[j]? = some 42
  | 0, _, _, _ => .inl rfl
  | d + 1, a, L, j => by
    rw [starL]
    rcases star_or d (a + 1) (L.set a 42) j with h | h
    · rw [h, List.getElem?_set]
      split
      · split
        · exact .inr rfl
        · rename_i e1 e2
          exact .inl (List.getElem?_eq_none (by omega)).symm
      · exact .inl rfl
    · exact .inr h
theorem cen_or (ws : List ByteArray) : ∀ (R : List TR) (L : List Int) (j : Nat), (cenR ws R L)[j]? = L[j]? ∨ (cenR ws R L)[j]? = some 42
  | [], _, _ => .inl rfl
  | r :: rs, L, j => by
    rw [cenR]
    rcases cen_or ws rs (if hasV ws r.f2 = true then starL L (r.f0.toNat + 1) (r.f1.toNat - (r.f0.toNat + 1)) else L) j with h | h
    · rw [h]
      split
      · exact star_or _ _ _ _
      · exact .inl rfl
    · exact .inr h
theorem cen_len (ws : List ByteArray) : ∀ (R : List TR) (L : List Int), (cenR ws R L).length = L.length
  | [], _ => rfl
  | r :: rs, L => by
    rw [cenR, cen_len ws rs]
    split
    · exact starL_len _ _ _
    · rfl
theorem cen_none (ws : List ByteArray) : ∀ (R : List TR) (L : List Int), (∀ r ∈ R, ¬ hasV ws r.f2 = true) → cenR ws R L = L
  | [], _, _ => rfl
  | r :: rs, L, h => by
    rw [cenR, if_neg (h r List.mem_cons_self)]
    exact cen_none ws rs L fun x hx => h x (List.mem_cons_of_mem _ hx)
theorem bytes_at (s : ByteArray) (j : Nat) (h : j < s.size) : (bytesOf s)[j]? = some (bt s (j : Int)) := by
  have hl : j < (bytesOf s).length := by rw [bytesOf_length]; exact h
  have e := rd_bytesOf s (j : Int)
  rw [rd_at _ j hl] at e
  rw [List.getElem?_eq_getElem hl, e]
theorem rend_all (s : ByteArray) : ∀ d i j, i ≤ j → j < rend s i d → isW (bt s (j : Int)) = true
  | 0, i, j, h, h2 => by simp [rend] at h2; omega
  | d + 1, i, j, h, h2 => by
    unfold rend at h2
    split at h2
    · rename_i c
      rcases Nat.lt_or_ge i j with h3 | h3
      · exact rend_all s d (i + 1) j (by omega) h2
      · have : i = j := by omega
        subst this; exact c
    · omega
theorem lows_rend (s : ByteArray) : ∀ d i, (lows s i d).length = rend s i d - i
  | 0, i => by simp [lows, rend]
  | d + 1, i => by
    have h := lows_rend s d (i + 1)
    have h2 := rend_le s d (i + 1)
    unfold lows rend
    split
    · simp only [List.length_cons, h]; omega
    · simp
/-- The stars that runs with bad words take. -/
def hitLen (ws : List ByteArray) : List TR → Nat
  | [] => 0
  | r :: rs => (if hasV ws r.f2 = true then r.f2.size - 1 else 0) + hitLen ws rs
theorem runs_size (s : ByteArray) : ∀ n i, ∀ x ∈ runsF s n i, 1 ≤ x.f2.size
  | 0, i, x, h => by simp [runsF] at h
  | n + 1, i, x, h => by
    unfold runsF at h
    split at h
    · rename_i hi
      split at h
      · rename_i c
        rcases List.mem_cons.1 h with h | h
        · have h1 := rend_le s (s.size - (i + 1)) (i + 1)
          have h2 := lows_rend s (s.size - i) i
          rw [rend_yes s hi c] at h2
          subst h
          unfold wordOf
          rw [strOfNums_size, h2]
          omega
        · exact runs_size s n _ x h
      · exact runs_size s n _ x h
    · simp at h
theorem dif_cen (s : ByteArray) (ws : List ByteArray) : ∀ (n i : Nat) (L : List Int), L.length = s.size → (∀ j, i ≤ j → L[j]? = (bytesOf s)[j]?) → dif (cenR ws (runsF s n i) L) (bytesOf s) = dif L (bytesOf s) + hitLen ws (runsF s n i)
  | 0, i, L, _, _ => by simp [runsF, cenR, hitLen]
  | n + 1, i, L, hl, hj => by
    have hB := bytesOf_length s
    unfold runsF
    by_cases hi : i < s.size
    · rw [if_pos hi]
      by_cases c : isW (bt s (i : Int)) = true
      · rw [if_pos c, cenR, hitLen]
        have hre := rend_le s (s.size - i) i
        have hall := rend_all s (s.size - i) i
        have hsz : (wordOf s i).size = rend s i (s.size - i) - i := by unfold wordOf; rw [strOfNums_size, lows_rend]
        simp only [Int.toNat_natCast, hsz]
        generalize he : rend s i (s.size - i) = e at hre hall
        by_cases d : hasV ws (wordOf s i) = true
        · rw [if_pos d, if_pos d]
          rw [dif_cen s ws n (e + 1) _ (by rw [starL_len]; exact hl) (fun j h => by rw [star_get _ _ _ _ (by omega)]; exact hj j (by omega))]
          have hgt : i < e := by
            rw [← he, rend_yes s hi c]
            have := rend_le s (s.size - (i + 1)) (i + 1)
            omega
          rw [dif_star (bytesOf s) _ _ L (by omega) (by omega) (fun j h1 h2 => ⟨hj j (by omega), ?_⟩)]
          · omega
          · rw [bytes_at s j (by omega)]
            intro z
            have h3 := hall j (by omega) (by omega)
            rw [Option.some.inj z] at h3
            exact absurd h3 (by decide)
        · rw [if_neg d, if_neg d, Nat.zero_add]
          exact dif_cen s ws n (e + 1) L hl (fun j h => hj j (by omega))
      · rw [if_neg c]
        exact dif_cen s ws n (i + 1) L hl (fun j h => hj j (by omega))
    · rw [if_neg hi]
      simp [cenR, hitLen]
theorem bt_nums (L : List Int) (j : Nat) (h : j < L.length) (h0 : 0 ≤ L[j] ∧ L[j] ≤ 255) : bt (strOfNums L) (j : Int) = L[j] := by
  have hz : j < (strOfNums L).size := by rw [strOfNums_size]; exact h
  unfold bt
  simp only [Int.toNat_natCast]
  rw [dif_pos hz]
  have e : (strOfNums L)[j] = UInt8.ofNat L[j].toNat := by
    simp [strOfNums, ByteArray.getElem_eq_getElem_data]
  rw [e, UInt8.toNat_ofNat']
  omega
theorem nums_bytes (s : ByteArray) : strOfNums (bytesOf s) = s := by
  apply ByteArray.ext
  unfold strOfNums bytesOf
  rw [List.map_map]
  have : (fun n : Int => UInt8.ofNat n.toNat) ∘ (fun b : UInt8 => (b.toNat : Int)) = id := funext fun b => by simp
  rw [this, List.map_id]
theorem implAll (s : ByteArray) (hs : s.size ≤ 1048576) : Ev (fun k => impl_words.f k s) ((runsAll s).map (·.f2)) := by
  unfold impl_words.f
  refine Ev.bind (implRuns s hs) ?_
  have hr : (runsAll s).length ≤ 1048576 := by have := runs_len s s.size 0; unfold runsAll; omega
  generalize runsAll s = R at hr
  have key := idx_ind R (fun i => ∀ acc : List ByteArray, acc.length ≤ i → Ev (fun k => impl_words.l0 k acc R (R.length : Int) (i : Int)) (acc ++ (R.drop i).map (·.f2))) ?_ ?_ 0 (Nat.zero_le _) [] (by simp)
  · simpa using key
  · intro acc _
    refine Ev.step (fun k => by rw [impl_words.l0]) ?_
    exact ev_neg (by omega) (ev_some (by simp))
  · intro i hi ih acc ha
    refine Ev.step (fun k => by rw [impl_words.l0]) ?_
    rw [rdTR R i hi, wsucc hi (by omega), drop_at R i hi]
    refine ev_pos (by omega) (ev_pos (by omega) (ev_pos (by omega) (ev_pos (by omega) ?_)))
    exact ev_eq (ih (acc ++ [R[i].f2]) (by simp; omega)) (by simp only [List.map_cons, List.append_assoc, List.singleton_append])
/-- How much a word counts among bad words. -/
def wantW (w : ByteArray) : List ByteArray → Nat
  | [] => 0
  | y :: r => (if w.toList = y.toList then w.size - 1 else 0) + wantW w r
def wantAll (ws : List ByteArray) : List ByteArray → Nat
  | [] => 0
  | w :: r => wantW w ws + wantAll ws r
theorem wantW_no (w : ByteArray) : ∀ ws : List ByteArray, (∀ y ∈ ws, ¬ w.toList = y.toList) → wantW w ws = 0
  | [], _ => rfl
  | y :: r, h => by
    rw [wantW, if_neg (h y List.mem_cons_self), wantW_no w r fun z hz => h z (List.mem_cons_of_mem _ hz)]
theorem wantW_eq (w : ByteArray) : ∀ ws : List ByteArray, ws.Pairwise (fun a b => dl a < dl b) → wantW w ws = if hasV ws w = true then w.size - 1 else 0
  | [], _ => by simp [wantW, hasV]
  | y :: r, h => by
    obtain ⟨h1, h2⟩ := List.pairwise_cons.1 h
    rw [wantW]
    by_cases c : w.toList = y.toList
    · rw [if_pos c, if_pos (by simp [hasV, c]), wantW_no w r, Nat.add_zero]
      intro z hz e
      have := h1 z hz
      rw [← toList_dl, ← toList_dl, ← c, e] at this
      exact List.lt_irrefl _ this
    · rw [if_neg c, Nat.zero_add, wantW_eq w r h2]
      have : hasV (y :: r) w = hasV r w := by
        simp only [hasV, List.any_cons, decide_eq_false (fun z : y.toList = w.toList => c z.symm), Bool.false_or]
      rw [this]
theorem want_hit (ws : List ByteArray) (h : ws.Pairwise (fun a b => dl a < dl b)) : ∀ R : List TR, wantAll ws (R.map (·.f2)) = hitLen ws R
  | [] => rfl
  | r :: rs => by
    rw [List.map_cons, wantAll, hitLen, wantW_eq _ _ h, want_hit ws h rs]
theorem hasV_found (ws : List ByteArray) (w : ByteArray) (hw : w ∈ ws) : ∀ R : List TR, hasV (foundF ws R) w = hasV (R.map (·.f2)) w
  | [] => rfl
  | r :: rs => by
    have ih := hasV_found ws w hw rs
    rw [foundF, List.map_cons]
    by_cases c : hasV ws r.f2 = true
    · rw [if_pos c]
      simp only [hasV, List.any_cons] at ih ⊢
      rw [ih]
    · rw [if_neg c, ih]
      have n : ¬ r.f2.toList = w.toList := fun z => c (by
        unfold hasV
        rw [List.any_eq_true]
        exact ⟨w, hw, by simp [z]⟩)
      simp only [hasV, List.any_cons, decide_eq_false n, Bool.false_or]

/-- Bytes that texts may have. -/
def okB (s : ByteArray) : Prop := ∀ b ∈ s.data.toList, 32 ≤ b.toNat ∧ b.toNat ≤ 126
instance (s : ByteArray) : Decidable (okB s) := by unfold okB; infer_instance
theorem okB_app {s t : ByteArray} (h : okB s) (h2 : okB t) : okB (s ++ t) := by
  intro b hb
  rw [ByteArray.data_append, Array.toList_append, List.mem_append] at hb
  rcases hb with hb | hb
  · exact h b hb
  · exact h2 b hb
theorem okB_betw {s : ByteArray} (h : okB s) : ∀ d i, i + d = s.size → betw s 32 126 i d = true
  | 0, _, _ => rfl
  | d + 1, i, hd => by
    have hi : i < s.size := by omega
    rw [betw, okB_betw h d (i + 1) (by omega), Bool.and_true, decide_eq_true_eq]
    unfold bt
    simp only [Int.toNat_natCast]
    rw [dif_pos hi]
    have := h s[i] (by
      rw [ByteArray.getElem_eq_getElem_data]
      exact Array.getElem_mem_toList _)
    omega
theorem textOk {l : List Int} (h : U8s l) (i s : Int) (h0 : 0 ≤ i) (h1 : i ≤ 900000000) (ys : List ByteArray) (hy : 1 ≤ ys.length) (hb : ys.length ≤ 100) : ∃ y i' s', spec_l00Src_text.f l i s ys = some (y, i', s') ∧ y ∈ ys ∧ i ≤ i' ∧ i' ≤ i + 2 := by
  obtain ⟨v, i', s', e, v0, v1, _, g1, g2⟩ := pickOk h i s (ys.length : Int) h0 h1
  obtain ⟨n, rfl⟩ := Int.eq_ofNat_of_zero_le v0
  have hn : n < ys.length := by have := v1 (by omega); omega
  refine ⟨ys[n], i', s', ?_, List.getElem_mem hn, g1, g2⟩
  unfold spec_l00Src_text.f
  rw [e]
  simp only [Option.bind_some]
  rw [if_pos (by omega), if_pos (by omega), rdOf_at _ ys n hn]
theorem texts1 : ∀ y ∈ [(⟨#[98, 97, 100]⟩ : ByteArray), (⟨#[66, 65, 68]⟩ : ByteArray), (⟨#[99, 97, 116]⟩ : ByteArray), (⟨#[67, 97, 116, 115]⟩ : ByteArray), (⟨#[100]⟩ : ByteArray), (⟨#[120]⟩ : ByteArray), (⟨#[120, 49]⟩ : ByteArray), (⟨#[111, 107]⟩ : ByteArray), (⟨#[100, 111, 103]⟩ : ByteArray), (⟨#[57]⟩ : ByteArray)], okB y ∧ y.size ≤ 4 := by decide
theorem texts2 : ∀ y ∈ [(⟨#[32]⟩ : ByteArray), (⟨#[32]⟩ : ByteArray), (⟨#[44, 32]⟩ : ByteArray), (⟨#[46]⟩ : ByteArray), (⟨#[45]⟩ : ByteArray), (⟨#[]⟩ : ByteArray)], okB y ∧ y.size ≤ 2 := by decide
theorem drawText0 {l : List Int} (h : U8s l) : ∀ (n : Nat) (acc : ByteArray) (i s : Int), n ≤ 6 → okB acc → acc.size + 6 * n ≤ 36 → 0 ≤ i → i + 4 * n ≤ 1000 → ∃ r, Ev (fun k => spec_R8Text.l0 k acc (n : Int) l i s) r ∧ okB r ∧ r.size ≤ 36 := by
  intro n
  induction n with
  | zero =>
    intro acc i s _ ha hz _ _
    exact ⟨acc, Ev.step (fun k => by rw [spec_R8Text.l0]) (ev_neg (by omega) (Ev.now _)), ha, by omega⟩
  | succ n ih =>
    intro acc i s hn ha hz h0 h1
    obtain ⟨y, i1, s1, e1, m1, g1, g2⟩ := textOk h i s h0 (by omega) [(⟨#[98, 97, 100]⟩ : ByteArray), (⟨#[66, 65, 68]⟩ : ByteArray), (⟨#[99, 97, 116]⟩ : ByteArray), (⟨#[67, 97, 116, 115]⟩ : ByteArray), (⟨#[100]⟩ : ByteArray), (⟨#[120]⟩ : ByteArray), (⟨#[120, 49]⟩ : ByteArray), (⟨#[111, 107]⟩ : ByteArray), (⟨#[100, 111, 103]⟩ : ByteArray), (⟨#[57]⟩ : ByteArray)] (by decide) (by decide)
    obtain ⟨z, i2, s2, e2, m2, g3, g4⟩ := textOk h i1 s1 (by omega) (by omega) [(⟨#[32]⟩ : ByteArray), (⟨#[32]⟩ : ByteArray), (⟨#[44, 32]⟩ : ByteArray), (⟨#[46]⟩ : ByteArray), (⟨#[45]⟩ : ByteArray), (⟨#[]⟩ : ByteArray)] (by decide) (by decide)
    have y1 := texts1 y m1
    have z1 := texts2 z m2
    have q1 : (y ++ z).size = y.size + z.size := ByteArray.size_append ..
    have q2 : (acc ++ (y ++ z)).size = acc.size + (y ++ z).size := ByteArray.size_append ..
    have w2 : wrap64 (((n + 1 : Nat) : Int) - 1) = (n : Int) := by rw [w64 (by omega) (by omega)]; omega
    obtain ⟨r, hr, r1, r2⟩ := ih (acc ++ (y ++ z)) i2 s2 (by omega) (okB_app ha (okB_app y1.1 z1.1)) (by omega) (by omega) (by omega)
    refine ⟨r, Ev.step (fun k => by rw [spec_R8Text.l0]) ?_, r1, r2⟩
    refine ev_pos (by omega) (ev_b e1 (ev_b e2 (ev_pos (by simp only []; omega) (ev_pos (by simp only []; omega) ?_))))
    simp only [w2]
    exact hr
theorem drawText {l : List Int} (h : U8s l) : ∃ r, Ev (fun k => spec_R8Text.f k l) r ∧ okB r ∧ r.size ≤ 36 := by
  unfold spec_R8Text.f spec_l00From.f
  obtain ⟨v, i', s', e, v0, v1, _, g1, g2⟩ := pickOk h 0 0 7 (by omega) (by omega)
  obtain ⟨n, rfl⟩ := Int.eq_ofNat_of_zero_le v0
  obtain ⟨r, hr, r1, r2⟩ := drawText0 h n (⟨#[]⟩ : ByteArray) i' s' (by omega) (by decide) (by show 0 + 6 * n ≤ 36; omega) (by omega) (by omega)
  exact ⟨r, ev_b rfl (ev_b e hr), r1, r2⟩
theorem oneOk {l : List Int} (h : U8s l) (i s n : Int) (h0 : 0 ≤ i) (h1 : i ≤ 900000000) : ∃ b i' s', spec_l00Src_one.f l i s n = some (b, i', s') ∧ i ≤ i' ∧ i' ≤ i + 2 := by
  obtain ⟨v, i', s', e, _, _, _, g1, g2⟩ := pickOk h i s n h0 h1
  unfold spec_l00Src_one.f
  rw [e]
  exact ⟨_, _, _, rfl, g1, g2⟩
def wl (b1 b2 b3 b4 : Bool) : List ByteArray := (if b1 = true then [(⟨#[98, 97, 100]⟩ : ByteArray)] else []) ++ (if b2 = true then [(⟨#[99, 97, 116]⟩ : ByteArray)] else []) ++ (if b3 = true then [(⟨#[100]⟩ : ByteArray)] else []) ++ (if b4 = true then [(⟨#[120]⟩ : ByteArray)] else [])
theorem drawWords {l : List Int} (h : U8s l) : ∃ b1 b2 b3 b4, Ev (fun k => spec_R8Words.f k l) (wl b1 b2 b3 b4) := by
  obtain ⟨b1, i1, s1, e1, g1, g2⟩ := oneOk h 0 0 2 (by omega) (by omega)
  obtain ⟨b2, i2, s2, e2, g3, g4⟩ := oneOk h i1 s1 2 (by omega) (by omega)
  obtain ⟨b3, i3, s3, e3, g5, g6⟩ := oneOk h i2 s2 2 (by omega) (by omega)
  obtain ⟨b4, i4, s4, e4, g7, g8⟩ := oneOk h i3 s3 2 (by omega) (by omega)
  refine ⟨b1, b2, b3, b4, ?_⟩
  have j1 : ∀ x : List ByteArray, x.length ≤ 10 → Ev (fun k => spec_R8Words.j1 k x l i2 s2) (x ++ (if b3 = true then [(⟨#[100]⟩ : ByteArray)] else []) ++ (if b4 = true then [(⟨#[120]⟩ : ByteArray)] else [])) := by
    intro x hx
    refine Ev.step (fun k => by rw [spec_R8Words.j1]) (ev_b e3 ?_)
    cases b3
    · refine ev_neg (by simp) (ev_b e4 ?_)
      cases b4
      · exact ev_neg (by simp) (ev_some (by simp))
      · exact ev_pos rfl (ev_pos (by omega) (ev_some (by simp)))
    · refine ev_pos rfl (ev_pos (by omega) (ev_b rfl (ev_b e4 ?_)))
      cases b4
      · exact ev_neg (by simp) (ev_some (by simp))
      · exact ev_pos rfl (ev_pos (by simp; omega) (ev_some (by simp)))
  have j0 : ∀ x : List ByteArray, x.length ≤ 9 → Ev (fun k => spec_R8Words.j0 k x l i1 s1) (x ++ (if b2 = true then [(⟨#[99, 97, 116]⟩ : ByteArray)] else []) ++ (if b3 = true then [(⟨#[100]⟩ : ByteArray)] else []) ++ (if b4 = true then [(⟨#[120]⟩ : ByteArray)] else [])) := by
    intro x hx
    refine Ev.step (fun k => by rw [spec_R8Words.j0]) (ev_b e2 ?_)
    cases b2
    · exact ev_neg (by simp) (ev_eq (j1 x (by omega)) (by simp))
    · exact ev_pos rfl (ev_pos (by omega) (ev_eq (j1 (x ++ [⟨#[99, 97, 116]⟩]) (by simp; omega)) (by simp)))
  unfold spec_R8Words.f spec_l00From.f
  refine ev_b rfl (ev_b rfl (ev_b e1 ?_))
  cases b1
  · exact ev_neg (by simp) (ev_eq (j0 [] (by simp)) (by simp [wl]))
  · exact ev_pos rfl (ev_pos (by simp) (ev_eq (j0 [⟨#[98, 97, 100]⟩] (by simp)) (by simp [wl])))
theorem less_dl (a b : ByteArray) : Op.bytesLess a.toList b.toList = decide (dl a < dl b) := by
  rw [bytesLess_eq, toList_dl, toList_dl]
def wOk2 (p : Option ByteArray) : List ByteArray → Bool
  | [] => true
  | x :: r => okName x && (match p with | none => true | some y => decide (dl y < dl x)) && wOk2 (some x) r
theorem wOk2_eq : ∀ (l : List ByteArray) (p : Option ByteArray), wOk p l = wOk2 p l
  | [], _ => rfl
  | x :: r, none => by rw [wOk, wOk2, wOk2_eq r]
  | x :: r, some y => by rw [wOk, wOk2, wOk2_eq r, less_dl]
theorem wl_ok (b1 b2 b3 b4 : Bool) : wOk none (wl b1 b2 b3 b4) = true ∧ (wl b1 b2 b3 b4).length ≤ 4 ∧ ∀ y ∈ wl b1 b2 b3 b4, y.size ≤ 3 := by
  rw [wOk2_eq]
  revert b1 b2 b3 b4
  decide

theorem toList_len (s : ByteArray) : s.toList.length = s.size := by
  rw [toList_dl]
  exact data_length s
/-- The law's counting, for a text and words in order. -/
theorem cenCount (s : ByteArray) (hs : s.size ≤ 80) (ws : List ByteArray) (hw : wOk none ws = true) (hl : ws.length ≤ 64) : Ev (fun k => laws_FnCensored.j0 k s ws (wordsIn ws (foundF ws (runsAll s))) (strOfNums (cenR ws (runsAll s) (bytesOf s))) ((runsAll s).map (·.f2)) false) true := by
  have up := (wOk_up ws none hw).1
  have hr : (runsAll s).length ≤ 80 := by have := runs_len s s.size 0; unfold runsAll; omega
  have hz : ∀ x ∈ runsAll s, 1 ≤ x.f2.size := runs_size s s.size 0
  have hz2 : ∀ x ∈ runsAll s, x.f2.size ≤ 80 := by
    have hall : ∀ n i, ∀ x ∈ runsF s n i, x.f2.size ≤ s.size := by
      intro n
      induction n with
      | zero => intro i x h; simp [runsF] at h
      | succ n ih =>
        intro i x h
        unfold runsF at h
        split at h
        · split at h
          · rcases List.mem_cons.1 h with h | h
            · subst h
              have := lows_len s (s.size - i) i
              simp only [wordOf]
              rw [strOfNums_size]
              omega
            · exact ih _ x h
          · exact ih _ x h
        · simp at h
    intro x hx
    have := hall s.size 0 x hx
    omega
  have hD : dif (cenR ws (runsAll s) (bytesOf s)) (bytesOf s) = wantAll ws ((runsAll s).map (·.f2)) := by
    rw [want_hit ws up]
    have := dif_cen s ws s.size 0 (bytesOf s) (bytesOf_length s) (fun _ _ => rfl)
    rw [dif_self, Nat.zero_add] at this
    exact this
  have hor := cen_or ws (runsAll s) (bytesOf s)
  have hlen := cen_len ws (runsAll s) (bytesOf s)
  rw [bytesOf_length] at hlen
  have hfnd : wordsIn ws (foundF ws (runsAll s)) = ws.filter fun w => hasV ((runsAll s).map (·.f2)) w := by
    unfold wordsIn
    exact List.filter_congr fun w hw2 => hasV_found ws w hw2 _
  rw [hfnd]
  have az : ∀ y ∈ (runsAll s).map (·.f2), 1 ≤ y.size ∧ y.size ≤ 80 := by
    intro y hy
    obtain ⟨x, hx, rfl⟩ := List.mem_map.1 hy
    exact ⟨hz x hx, hz2 x hx⟩
  have al : ((runsAll s).map (·.f2)).length ≤ 80 := by rw [List.length_map]; exact hr
  generalize (runsAll s).map (·.f2) = A at hD az al
  generalize cenR ws (runsAll s) (bytesOf s) = L at hD hor hlen
  have fl : (ws.filter fun w => hasV A w).length ≤ 64 := Nat.le_trans (List.length_filter_le _ _) hl
  generalize hF : (ws.filter fun w => hasV A w) = F at fl
  -- how much all is
  have wW : ∀ (w : ByteArray), w.size ≤ 80 → ∀ l : List ByteArray, wantW w l ≤ 80 * l.length := by
    intro w hw3 l
    induction l with
    | nil => simp [wantW]
    | cons y r ih => rw [wantW, List.length_cons]; split <;> omega
  have wA : ∀ l : List ByteArray, (∀ y ∈ l, y.size ≤ 80) → wantAll ws l ≤ 5120 * l.length := by
    intro l
    induction l with
    | nil => intro _; simp [wantAll]
    | cons y r ih =>
      intro h
      have h1 := wW y (h y List.mem_cons_self) ws
      have h2 := ih fun z hz => h z (List.mem_cons_of_mem _ hz)
      rw [wantAll, List.length_cons]; omega
  have hDb := wA A fun y hy => (az y hy).2
  -- the last loop
  have l3 : Ev (fun k => laws_FnCensored.l3 k ws F A (F.length : Int) ((wantAll ws A : Nat) : Int) 0 0) true := by
    have key := idx_ind A (fun i => ∀ t : Nat, t + wantAll ws (A.drop i) = wantAll ws A → Ev (fun k => laws_FnCensored.l3 k ws F A (F.length : Int) ((wantAll ws A : Nat) : Int) (t : Int) (i : Int)) true) ?_ ?_ 0 (Nat.zero_le _) 0 (by simp)
    · exact key
    · intro t ht
      rw [List.drop_length, wantAll, Nat.add_zero] at ht
      subst ht
      refine Ev.step (fun k => by rw [laws_FnCensored.l3]) ?_
      exact ev_neg (by omega) (ev_pos rfl (ev_some (by simp)))
    · intro i hi ih t ht
      rw [drop_at A i hi, wantAll] at ht
      refine Ev.step (fun k => by rw [laws_FnCensored.l3]) ?_
      refine ev_pos (by omega) ?_
      have hy := az A[i] (List.getElem_mem hi)
      have k2 := idx_ind ws (fun q => ∀ t : Nat, t + wantW A[i] (ws.drop q) + wantAll ws (A.drop (i + 1)) = wantAll ws A → Ev (fun k => laws_FnCensored.l4 k ws F A (F.length : Int) ((wantAll ws A : Nat) : Int) (t : Int) (i : Int) (q : Int)) true) ?_ ?_ 0 (Nat.zero_le _) t (by rw [List.drop_zero]; omega)
      · exact k2
      · intro t ht
        rw [List.drop_length, wantW] at ht
        refine Ev.step (fun k => by rw [laws_FnCensored.l4]) ?_
        rw [wsucc hi (by omega)]
        exact ev_neg (by omega) (ih t (by omega))
      · intro q hq ihq t ht
        rw [drop_at ws q hq, wantW] at ht
        refine Ev.step (fun k => by rw [laws_FnCensored.l4]) ?_
        rw [rdOf_at _ A i hi, rdOf_at _ ws q hq, wsucc hq (by omega)]
        refine ev_pos (by omega) (ev_pos (by omega) (ev_pos (by omega) (ev_pos (by omega) ?_)))
        by_cases c : A[i].toList = ws[q].toList
        · rw [if_pos c] at ht
          refine ev_pos c ?_
          have e : wrap64 ((t : Int) + wrap64 ((A[i].size : Int) - 1)) = ((t + (A[i].size - 1) : Nat) : Int) := by
            rw [w64 (n := (A[i].size : Int) - 1) (by omega) (by omega), w64 (by omega) (by omega)]; omega
          rw [e]
          exact ihq _ (by omega)
        · rw [if_neg c] at ht
          exact ev_neg c (ihq t (by omega))
  -- the stars
  have l2 : Ev (fun k => laws_FnCensored.l2 k s ws F (strOfNums L) A (F.length : Int) 0 0) true := by
    have hsz : (strOfNums L).size = s.size := by rw [strOfNums_size, hlen]
    have key := nat_ind s.size (fun j => ∀ t : Nat, t + dif (L.drop j) ((bytesOf s).drop j) = wantAll ws A → Ev (fun k => laws_FnCensored.l2 k s ws F (strOfNums L) A (F.length : Int) (t : Int) (j : Int)) true) ?_ ?_ 0 (Nat.zero_le _) 0 (by rw [List.drop_zero, List.drop_zero, hD, Nat.zero_add])
    · exact key
    · intro t ht
      rw [List.drop_eq_nil_of_le (by omega), dif] at ht
      · rw [Nat.add_zero] at ht
        subst ht
        refine Ev.step (fun k => by rw [laws_FnCensored.l2]) ?_
        exact ev_neg (by omega) l3
      · intro x xs y ys z; cases z
    · intro j hj ih t ht
      have hjL : j < L.length := by omega
      have hjB : j < (bytesOf s).length := by rw [bytesOf_length]; exact hj
      have hB := bytes_at s j hj
      rw [List.getElem?_eq_getElem hjB] at hB
      have hB2 := Option.some.inj hB
      have hr2 := bt_range s (j : Int)
      have ho := hor j
      rw [List.getElem?_eq_getElem hjL, List.getElem?_eq_getElem hjB, hB2] at ho
      simp only [Option.some.injEq] at ho
      have hbt := bt_nums L j hjL (by omega)
      rw [drop_at L j hjL, drop_at _ j hjB, dif, hB2] at ht
      refine Ev.step (fun k => by rw [laws_FnCensored.l2]) ?_
      rw [hbt, wsucc hj (by omega)]
      refine ev_pos (by omega) (ev_pos (by omega) (ev_pos (by omega) ?_))
      by_cases c : L[j] = bt s (j : Int)
      · rw [if_pos c] at ht
        exact ev_pos c (ih t (by omega))
      · rw [if_neg c] at ht
        have e : wrap64 ((t : Int) + 1) = ((t + 1 : Nat) : Int) := by rw [w64 (by omega) (by omega)]; rfl
        rw [e]
        exact ev_neg c (ev_pos (by omega) (ih (t + 1) (by omega)))
  -- the words
  refine Ev.step (fun k => by rw [laws_FnCensored.j0]) (ev_neg (by simp) ?_)
  have key := idx_ind ws (fun i => ∀ pre : List ByteArray, F = pre ++ (ws.drop i).filter (fun w => hasV A w) → Ev (fun k => laws_FnCensored.l0 k s ws F (strOfNums L) A (pre.length : Int) (i : Int)) true) ?_ ?_ 0 (Nat.zero_le _) [] (by rw [List.drop_zero, List.nil_append, hF])
  · exact key
  · intro pre hp
    rw [List.drop_length, List.filter_nil, List.append_nil] at hp
    rw [← hp]
    refine Ev.step (fun k => by rw [laws_FnCensored.l0]) ?_
    exact ev_neg (by omega) l2
  · intro i hi ih pre hp
    refine Ev.step (fun k => by rw [laws_FnCensored.l0]) ?_
    refine ev_pos (by omega) ?_
    rw [drop_at ws i hi] at hp
    have fin : Ev (fun k => laws_FnCensored.l1 k s ws F (strOfNums L) A (pre.length : Int) (i : Int) (hasV A ws[i]) (A.length : Int)) true := by
      refine Ev.step (fun k => by rw [laws_FnCensored.l1]) (ev_neg (by omega) ?_)
      rw [wsucc hi (by omega)]
      by_cases c : hasV A ws[i] = true
      · rw [List.filter_cons_of_pos c] at hp
        have hlt : pre.length < F.length := by rw [hp]; simp
        have he : F[pre.length]'hlt = ws[i] := by simp [hp]
        refine ev_pos c (ev_neg (by omega) ?_)
        rw [rdOf_at _ F _ hlt, rdOf_at _ ws i hi, he, wsucc hlt (by omega)]
        refine ev_pos (by omega) (ev_pos (by omega) (ev_pos (by omega) (ev_pos (by omega) (ev_pos rfl ?_))))
        have := ih (pre ++ [ws[i]]) (by rw [hp]; simp)
        rw [List.length_append, List.length_singleton] at this
        exact this
      · rw [List.filter_cons_of_neg c] at hp
        exact ev_neg c (ih pre hp)
    have k1 := idx_ind A (fun q => ∀ b : Bool, (b || hasV (A.drop q) ws[i]) = hasV A ws[i] → Ev (fun k => laws_FnCensored.l1 k s ws F (strOfNums L) A (pre.length : Int) (i : Int) b (q : Int)) true) ?_ ?_ 0 (Nat.zero_le _) false (by simp)
    · exact k1
    · intro b hb
      rw [List.drop_length, show hasV [] ws[i] = false from rfl, Bool.or_false] at hb
      rw [hb]
      exact fin
    · intro q hq ihq b hb
      refine Ev.step (fun k => by rw [laws_FnCensored.l1]) (ev_pos (by omega) ?_)
      rw [rdOf_at _ A q hq, rdOf_at _ ws i hi, wsucc hq (by omega)]
      cases b
      · refine ev_neg (by simp) (ev_pos (by omega) (ev_pos (by omega) (ev_pos (by omega) (ihq _ ?_))))
        rw [drop_at A q hq, Bool.false_or] at hb
        rw [← hb]
        simp only [hasV, List.any_cons]
        congr 1
        by_cases e : A[q].toList = ws[i].toList
        · rw [decide_eq_true e, e, beq_self_eq_true]
        · rw [decide_eq_false e, beq_eq_false_iff_ne.2 e]
      · exact ev_pos rfl (ihq true (by rw [Bool.true_or] at hb ⊢; exact hb))
theorem FnCensored : laws_FnCensored.Pure := by
  intro l0 l1 _ _ h0 _ _ h1
  refine Ev.rounds ?_
  unfold laws_FnCensored.f
  have u0 : U8s l0 := h0
  have u1 : U8s l1 := h1
  obtain ⟨s, es, os, zs⟩ := drawText u0
  obtain ⟨b1, b2, b3, b4, ew⟩ := drawWords u1
  obtain ⟨w1, w2, w3⟩ := wl_ok b1 b2 b3 b4
  generalize wl b1 b2 b3 b4 = ws at ew w1 w2 w3
  have ok : badOkV s ws = true := by
    unfold badOkV
    rw [okB_betw os s.size 0 (by omega), w1, decide_eq_true (show s.size ≤ 80 by omega), decide_eq_true (show ws.length ≤ 64 by omega)]
    rfl
  have main : Ev (fun k => (spec_R8Text.f k l0).bind fun t364 => ((spec_R8Words.f k l1).bind fun t365 => ((impl_BadWordsIn.f k t364 t365).bind fun bt368 => ((impl_CensorText.f k t364 t365).bind fun bt372 => ((impl_WordsOf.f k t364).bind fun bt374 => (if bt368.2 = true then (if bt372.2 = true then (if bt374.2 = true then ((impl_AreBadWords.f k t365).bind fun t378 => (if t378 = true then (if (bt372.1.size : Int) = (t364.size : Int) then ((impl_HasBadWord.f k t364 t365).bind fun t379 => (if (t379 != (decide ((bt368.1.length : Int) > 0))) = true then (laws_FnCensored.j0 k t364 t365 bt368.1 bt372.1 bt374.1 true) else (if (bt368.1.length : Int) = 0 then (laws_FnCensored.j0 k t364 t365 bt368.1 bt372.1 bt374.1 (bt372.1.toList != t364.toList)) else (laws_FnCensored.j0 k t364 t365 bt368.1 bt372.1 bt374.1 false)))) else (laws_FnCensored.j0 k t364 t365 bt368.1 bt372.1 bt374.1 true)) else (laws_FnCensored.j0 k t364 t365 bt368.1 bt372.1 bt374.1 true))) else (laws_FnCensored.j0 k t364 t365 bt368.1 bt372.1 bt374.1 true)) else (laws_FnCensored.j0 k t364 t365 bt368.1 bt372.1 bt374.1 true)) else (laws_FnCensored.j0 k t364 t365 bt368.1 bt372.1 bt374.1 true))))))) true := by
    have f3 : ∀ y ∈ ws, y.size ≤ 140737488351232 := fun y hy => by have := w3 y hy; omega
    have eb := implBad s (by omega) ws (by omega) f3
    have ec := implCen s (by omega) ws (by omega) f3
    unfold badV at eb
    unfold cenV at ec
    rw [if_pos ok] at eb ec
    have ea : Ev (fun k => impl_WordsOf.f k s) ((runsAll s).map (·.f2), true) := by
      unfold impl_WordsOf.f
      refine Ev.bind (implText s (by omega)) (ev_pos ?_ (Ev.bind (implAll s (by omega)) (Ev.now _)))
      rw [okB_betw os s.size 0 (by omega), decide_eq_true (show s.size ≤ 80 by omega)]
      rfl
    have en : Ev (fun k => impl_AreBadWords.f k ws) true := ev_eq (implWords ws (by omega) f3) (by rw [w1, decide_eq_true (show ws.length ≤ 64 by omega)]; rfl)
    have eh : Ev (fun k => impl_HasBadWord.f k s ws) (decide (((wordsIn ws (foundF ws (runsAll s))).length : Int) > 0)) := by
      unfold impl_HasBadWord.f
      exact Ev.bind eb (ev_pos rfl (Ev.now _))
    have hlen := cen_len ws (runsAll s) (bytesOf s)
    rw [bytesOf_length] at hlen
    have cc := cenCount s (by omega) ws w1 (by omega)
    refine Ev.bind es (Ev.bind ew (Ev.bind eb (Ev.bind ec (Ev.bind ea ?_))))
    refine ev_pos rfl (ev_pos rfl (ev_pos rfl (Ev.bind en (ev_pos rfl (ev_pos (by rw [strOfNums_size, hlen]) (Ev.bind eh (ev_neg (by simp) ?_)))))))
    by_cases c : ((wordsIn ws (foundF ws (runsAll s))).length : Int) = 0
    · refine ev_pos c ?_
      have e0 : foundF ws (runsAll s) = [] := by
        have n0 : wordsIn ws (foundF ws (runsAll s)) = [] := List.eq_nil_of_length_eq_zero (by omega)
        rcases hq : foundF ws (runsAll s) with _ | ⟨y, r⟩
        · rfl
        · rw [hq] at n0
          have hy := found_in ws (runsAll s) y (by rw [hq]; exact List.mem_cons_self)
          obtain ⟨w, m1, m2⟩ := (hasV_iff ws y).1 hy
          have : w ∈ wordsIn ws (y :: r) := List.mem_filter.2 ⟨m1, (hasV_iff _ w).2 ⟨y, List.mem_cons_self, m2.symm⟩⟩
          rw [n0] at this
          cases this
      have e1 : ∀ R : List TR, foundF ws R = [] → ∀ r ∈ R, ¬ hasV ws r.f2 = true := by
        intro R
        induction R with
        | nil => intro _ r hr; cases hr
        | cons x q ih =>
          intro h r hr
          rw [foundF] at h
          split at h
          · cases h
          · rename_i c2
            rcases List.mem_cons.1 hr with e | e
            · subst e; exact c2
            · exact ih h r e
      have e2 := cen_none ws (runsAll s) (bytesOf s) (e1 _ e0)
      rw [e2, nums_bytes] at cc ⊢
      rw [show (s.toList != s.toList) = false by simp]
      exact cc
    · exact ev_neg c cc
  have lg : ∃ b, laws_r8Long.f l0 l1 = some b := by
    unfold laws_r8Long.f
    split
    · exact ⟨_, rfl⟩
    · exact ⟨_, rfl⟩
  obtain ⟨b, hb⟩ := lg
  refine ev_b hb ?_
  cases b
  · exact ev_neg (by simp) main
  · exact ev_pos rfl (Ev.now _)

end Go.Proofs.Ytjfaepolmllejaa.Pure
