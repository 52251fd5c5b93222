/- Marked: a marked text has two bytes more for each word of the query, and is the text without its marks; a snippet is a part of the text with such a word; for every pair of byte strings. -/
import Derived.Test.YtcnhepjdibbkgaaQFnMarkedx6
import Derived.Laws.BitsLemmas
namespace Go.Proofs.Ytcnhepjdibbkgaa.Pure
open Go.RowKit Go.Proofs.Ytcnhepjdibbkgaa.QFnMarked Go.Proofs.YtcnhepjdibbkgaaW.PrintWords Go.Proofs.YtcnhepjdibbkgaaW.PrintLast Go.Proofs.YtcnhepjdibbkgaaW.PrintMore
set_option linter.unusedVariables false

theorem w64 {n : Int} (h1 : -9223372036854775808 ≤ n) (h2 : n ≤ 9223372036854775807) : wrap64 n = n := by
  unfold wrap64
  omega
theorem wf64 {n : Int} (h : (Lit.int .i64 n).wf = true) : -9223372036854775808 ≤ n ∧ n ≤ 9223372036854775807 := by
  simp [Lit.wf, IntKind.min, IntKind.max, IntKind.signed, IntKind.bits] at h
  omega

theorem ev_pos {α : Type} {c : Prop} [Decidable c] {g f : Nat → Option α} {r : α} (h : c) (e : Ev g r) : Ev (fun k => if c then g k else f k) r := Ev.congr (fun _ => if_pos h) e
theorem ev_neg {α : Type} {c : Prop} [Decidable c] {g f : Nat → Option α} {r : α} (h : ¬ c) (e : Ev f r) : Ev (fun k => if c then g k else f k) r := Ev.congr (fun _ => if_neg h) e
theorem ev_b {α β : Type} {o : Option α} {a : α} {f : Nat → α → Option β} {r : β} (h : o = some a) (e : Ev (fun k => f k a) r) : Ev (fun k => o.bind (f k)) r := by subst h; exact e
theorem ev_eq {α : Type} {g : Nat → Option α} {r q : α} (e : Ev g r) (h : r = q) : Ev g q := h ▸ e
theorem ev_some {α : Type} {r q : α} (h : r = q) : Ev (fun _ => some r) q := h ▸ Ev.now r
/-- Down from a list's end. -/
theorem idx_ind {α : Type} (l : List α) (P : Nat → Prop) (hend : P l.length) (hstep : ∀ i, i < l.length → P (i + 1) → P i) : ∀ i, i ≤ l.length → P i := by
  have key : ∀ d i, i + d = l.length → P i := by
    intro d
    induction d with
    | zero => intro i h; have : i = l.length := by omega
              rw [this]; exact hend
    | succ d ih => intro i h; exact hstep i (by omega) (ih (i + 1) (by omega))
  intro i h
  exact key (l.length - i) i (by omega)
theorem rd_at (l : List Int) (i : Nat) (h : i < l.length) : rd l (i : Int) = l[i] := by
  simp [rd, List.getD, h]
theorem rdOf_at {α : Type} (d : α) (l : List α) (i : Nat) (h : i < l.length) : rdOf d l (i : Int) = l[i] := by
  simp [rdOf, List.getD, h]
theorem drop_at {α : Type} (l : List α) (i : Nat) (h : i < l.length) : l.drop i = l[i] :: l.drop (i + 1) := List.drop_eq_getElem_cons h
theorem wsucc {i n : Nat} (h : i < n) (hn : n ≤ 9223372036854775807) : wrap64 ((i : Int) + 1) = ((i + 1 : Nat) : Int) := by
  rw [w64 (by omega) (by omega)]; rfl

theorem implIn (a b c : Int) : impl_in.f a b c = some (decide (b ≤ a ∧ a ≤ c)) := by
  unfold impl_in.f
  by_cases h : a ≥ b
  · rw [if_pos h]; simp [h]
  · rw [if_neg h]; simp; intro h2; omega

theorem u64_range (n : Int) : 0 ≤ IntKind.u64.wrap n ∧ IntKind.u64.wrap n < 18446744073709551616 := by
  simp only [IntKind.wrap, IntKind.bits, IntKind.signed]
  constructor
  · exact Int.emod_nonneg _ (by decide)
  · exact Int.emod_lt_of_pos _ (by decide)
theorem u64_small (n : Int) (h0 : 0 ≤ n) (h1 : n < 2 ^ 24) : IntKind.u64.wrap n = n := by
  simp only [IntKind.wrap, IntKind.bits, IntKind.signed]
  have h1' : n < 16777216 := h1
  show n % 18446744073709551616 = n
  omega
/-- A byte that is drawn lies between 0 and 255. -/
theorem and255 (n : Int) : 0 ≤ Go.bits .and .u64 (IntKind.u64.wrap n / 1099511627776) 255 ∧ Go.bits .and .u64 (IntKind.u64.wrap n / 1099511627776) 255 ≤ 255 := by
  have h := u64_range n
  have e := bits_mask .u64 24 (by decide) u64_small 8 (by decide) (IntKind.u64.wrap n / 1099511627776) (by omega) (by show _ < (16777216 : Int); omega)
  have e2 : Go.bits .and .u64 (IntKind.u64.wrap n / 1099511627776) 255 = IntKind.u64.wrap n / 1099511627776 % 256 := e
  rw [e2]
  omega
def U8s (l : List Int) : Prop := ∀ x ∈ l, (Lit.int .u8 x).wf = true
theorem u8_rd {l : List Int} (h : U8s l) (i : Int) : 0 ≤ rd l i ∧ rd l i ≤ 255 := by
  unfold rd
  rcases Nat.lt_or_ge i.toNat l.length with hi | hi
  · have := h l[i.toNat] (List.getElem_mem hi)
    simp [Lit.wf, IntKind.min, IntKind.max, IntKind.signed, IntKind.bits] at this
    simp [List.getD, hi]
    omega
  · simp [List.getD, hi]
theorem nextOk {l : List Int} (h : U8s l) (i s : Int) (h0 : 0 ≤ i) (h1 : i ≤ 1000000000) : ∃ v s', spec_l00Src_next.f l i s = some (v, i + 1, s') ∧ 0 ≤ v ∧ v ≤ 255 := by
  have hr := u8_rd h i
  have e1 : wrap64 (i + 1) = i + 1 := w64 (by omega) (by omega)
  have e2 : wrap64 (rd l i) = rd l i := w64 (by omega) (by omega)
  unfold spec_l00Src_next.f
  rw [e1, e2]
  have big : ∀ n : Int, wrap64 (Go.bits .and .u64 (IntKind.u64.wrap n / 1099511627776) 255) = Go.bits .and .u64 (IntKind.u64.wrap n / 1099511627776) 255 := fun n => w64 (by have := and255 n; omega) (by have := and255 n; omega)
  by_cases c1 : i < (l.length : Int)
  · rw [if_pos c1, if_pos h0]
    by_cases c2 : i + 1 ≤ (l.length : Int)
    · rw [if_pos c2]; exact ⟨_, _, rfl, hr.1, hr.2⟩
    · rw [if_neg c2, big]; exact ⟨_, _, rfl, (and255 _).1, (and255 _).2⟩
  · rw [if_neg c1]
    by_cases c2 : i + 1 ≤ (l.length : Int)
    · rw [if_pos c2]; exact ⟨_, _, rfl, by omega, by omega⟩
    · rw [if_neg c2, big]; exact ⟨_, _, rfl, (and255 _).1, (and255 _).2⟩
theorem pickOk {l : List Int} (h : U8s l) (i s n : Int) (h0 : 0 ≤ i) (h1 : i ≤ 900000000) : ∃ v i' s', spec_l00Src_pick.f l i s n = some (v, i', s') ∧ 0 ≤ v ∧ (1 ≤ n → v < n) ∧ (n ≤ 1 → v = 0) ∧ i ≤ i' ∧ i' ≤ i + 2 := by
  unfold spec_l00Src_pick.f
  by_cases c : n ≤ 1
  · rw [if_pos c]; exact ⟨_, _, _, rfl, by omega, by omega, by omega, by omega, by omega⟩
  · rw [if_neg c]
    obtain ⟨v, s', e, v0, v1⟩ := nextOk h i s h0 (by omega)
    rw [e]
    simp only [Option.bind_some]
    by_cases c2 : n > 200
    · rw [if_pos c2]
      obtain ⟨v2, s2, e2, w0, w1⟩ := nextOk h (i + 1) s' (by omega) (by omega)
      rw [e2]
      simp only [Option.bind_some]
      rw [if_neg (by omega), w64 (n := v * 256) (by omega) (by omega), w64 (by omega) (by omega), Int.tmod_eq_emod_of_nonneg (by omega)]
      exact ⟨_, _, _, rfl, Int.emod_nonneg _ (by omega), fun _ => Int.emod_lt_of_pos _ (by omega), by omega, by omega, by omega⟩
    · rw [if_neg c2, if_neg (by omega), Int.tmod_eq_emod_of_nonneg (by omega)]
      exact ⟨_, _, _, rfl, Int.emod_nonneg _ (by omega), fun _ => Int.emod_lt_of_pos _ (by omega), by omega, by omega, by omega⟩

theorem r8At {l : List Int} (h : U8s l) (i n : Int) (h0 : 0 ≤ i) : ∃ v, laws_r8At.f l i n = some v ∧ 0 ≤ v ∧ (1 ≤ n → v < n) := by
  unfold laws_r8At.f
  by_cases c : n ≤ 1
  · rw [if_pos c]; exact ⟨0, rfl, by omega, by omega⟩
  · rw [if_neg c]
    by_cases c1 : i ≥ (l.length : Int)
    · rw [if_pos c1]; exact ⟨0, rfl, by omega, by omega⟩
    · have hr := u8_rd h i
      rw [if_neg c1, if_pos h0, if_pos (by omega), if_neg (by omega), w64 (by omega) (by omega), Int.tmod_eq_emod_of_nonneg (by omega)]
      exact ⟨_, rfl, Int.emod_nonneg _ (by omega), fun _ => Int.emod_lt_of_pos _ (by omega)⟩

/-- Is every byte of a text from a place on between two bounds? -/
def betw (s : ByteArray) (lo hi : Int) : Nat → Nat → Bool
  | _, 0 => true
  | i, n + 1 => decide (lo ≤ bt s (i : Int) ∧ bt s (i : Int) ≤ hi) && betw s lo hi (i + 1) n
theorem nat_ind (n : Nat) (P : Nat → Prop) (hend : P n) (hstep : ∀ i, i < n → P (i + 1) → P i) : ∀ i, i ≤ n → P i := by
  have key : ∀ d i, i + d = n → P i := by
    intro d
    induction d with
    | zero => intro i h; have : i = n := by omega
              rw [this]; exact hend
    | succ d ih => intro i h; exact hstep i (by omega) (ih (i + 1) (by omega))
  intro i h
  exact key (n - i) i (by omega)
theorem betw_step (s : ByteArray) (lo hi : Int) {i n : Nat} (h : i < n) : betw s lo hi i (n - i) = (decide (lo ≤ bt s (i : Int) ∧ bt s (i : Int) ≤ hi) && betw s lo hi (i + 1) (n - (i + 1))) := by
  rw [show n - i = (n - (i + 1)) + 1 by omega, betw]
theorem betw_no (s : ByteArray) {lo hi : Int} {i n : Nat} (h : i < n) (c : ¬ (lo ≤ bt s (i : Int) ∧ bt s (i : Int) ≤ hi)) : betw s lo hi i (n - i) = false := by
  rw [betw_step s lo hi h, decide_eq_false c]; rfl
theorem betw_yes (s : ByteArray) {lo hi : Int} {i n : Nat} (h : i < n) (c : lo ≤ bt s (i : Int) ∧ bt s (i : Int) ≤ hi) : betw s lo hi i (n - i) = betw s lo hi (i + 1) (n - (i + 1)) := by
  rw [betw_step s lo hi h, decide_eq_true c]; rfl

theorem implText (s : ByteArray) (hs : s.size ≤ 140737488351232) : Ev (fun k => impl_IsText.f k s) (betw s 32 126 0 s.size && decide (s.size ≤ 80)) := by
  have key := nat_ind s.size (fun i => Ev (fun k => impl_IsText.l0 k s (s.size : Int) (i : Int)) (betw s 32 126 i (s.size - i) && decide (s.size ≤ 80))) ?_ ?_ 0 (Nat.zero_le _)
  · exact key
  · refine Ev.step (fun k => by rw [impl_IsText.l0]) ?_
    refine ev_neg (by omega) (ev_some ?_)
    simp [betw]; omega
  · intro i hi ih
    refine Ev.step (fun k => by rw [impl_IsText.l0]) ?_
    refine ev_pos (by omega) (ev_pos (by omega) (ev_pos (by omega) ?_))
    by_cases c1 : bt s (i : Int) < 32
    · refine ev_pos c1 (ev_some ?_)
      rw [betw_no s hi (by omega)]; rfl
    · refine ev_neg c1 ?_
      by_cases c2 : bt s (i : Int) > 126
      · refine ev_pos c2 (ev_some ?_)
        rw [betw_no s hi (by omega)]; rfl
      · refine ev_neg c2 ?_
        rw [betw_yes s hi (by omega), wsucc hi (by omega)]
        exact ih

theorem bt_range (s : ByteArray) (i : Int) : 0 ≤ bt s i ∧ bt s i ≤ 255 := by
  unfold bt
  have q : ∀ u : UInt8, u.toNat < 256 := fun u => u.toNat_lt
  split
  · have := q (s[i.toNat]'(by assumption))
    omega
  · omega
/-- May a word have this byte? -/
def wb (c : Int) : Bool := decide (48 ≤ c ∧ c ≤ 57 ∨ 97 ≤ c ∧ c ≤ 122)
def allW (s : ByteArray) : Nat → Nat → Bool
  | _, 0 => true
  | i, d + 1 => wb (bt s (i : Int)) && allW s (i + 1) d
theorem allW_step (s : ByteArray) {i n : Nat} (h : i < n) : allW s i (n - i) = (wb (bt s (i : Int)) && allW s (i + 1) (n - (i + 1))) := by
  rw [show n - i = n - (i + 1) + 1 by omega, allW]
def wordV (s : ByteArray) : Bool := allW s 0 s.size && decide (1 ≤ s.size ∧ s.size ≤ 80)
theorem implByte (c : Int) : impl_wordByte.f c = some (wb c) := by
  unfold impl_wordByte.f impl_isDigit.f wb
  by_cases h1 : c ≥ 48
  · rw [if_pos h1]
    simp only [Option.bind_some]
    by_cases h2 : c ≤ 57
    · rw [if_pos (by simpa using h2), decide_eq_true (by omega)]
    · rw [if_neg (by simpa using h2)]
      by_cases h3 : c ≥ 97
      · rw [if_pos h3]; congr 1; rw [decide_eq_decide]; omega
      · rw [if_neg h3]; congr 1; rw [eq_comm, decide_eq_false_iff_not]; omega
  · rw [if_neg h1]
    simp only [Option.bind_some]
    rw [if_neg (by simp), if_neg (by omega)]; congr 1; rw [eq_comm, decide_eq_false_iff_not]; omega
/-- A byte as words have it. -/
def lowV (c : Int) : Int := if 65 ≤ c ∧ c ≤ 90 then c + 32 else if wb c = true then c else 0
theorem low_eq (c : Int) : (¬ c = 0 ∧ lowV c = c) ↔ wb c = true := by
  unfold lowV wb
  by_cases h : 65 ≤ c ∧ c ≤ 90
  · rw [if_pos h]; simp; omega
  · rw [if_neg h]
    by_cases h2 : (48 ≤ c ∧ c ≤ 57 ∨ 97 ≤ c ∧ c ≤ 122)
    · rw [if_pos (by simpa using h2)]; simp [h2]; omega
    · rw [if_neg (by simpa using h2)]; simp [h2]; omega
theorem implWord (s : ByteArray) (hs : s.size ≤ 140737488351232) : Ev (fun k => impl_wordOk_n51.f k s) (wordV s) := by
  have key := nat_ind s.size (fun i => Ev (fun k => impl_wordOk_n51.l0 k s (s.size : Int) (i : Int)) (allW s i (s.size - i) && decide (1 ≤ s.size ∧ s.size ≤ 80))) ?_ ?_ 0 (Nat.zero_le _)
  · exact key
  · refine Ev.step (fun k => by rw [impl_wordOk_n51.l0]) ?_
    refine ev_neg (by omega) ?_
    rw [Nat.sub_self, allW, Bool.true_and]
    by_cases h : (s.size : Int) ≥ 1
    · refine ev_pos h (ev_some ?_)
      rw [decide_eq_decide]; omega
    · refine ev_neg h (ev_some ?_)
      rw [decide_eq_false (by omega)]
  · intro i hi ih
    refine Ev.step (fun k => by rw [impl_wordOk_n51.l0]) ?_
    rw [allW_step s hi, wsucc hi (by omega)]
    refine ev_pos (by omega) (ev_pos (by omega) (ev_pos (by omega) (ev_b (implByte _) ?_)))
    by_cases c : wb (bt s (i : Int)) = true
    · refine ev_pos c ?_
      simp only [c, Bool.true_and]; exact ih
    · refine ev_neg c (ev_some ?_)
      rw [Bool.not_eq_true] at c
      simp only [c, Bool.false_and]


/-- Does a word have this byte, great or small? -/
def isW (c : Int) : Bool := decide (lowV c ≠ 0)
def lw (c : Int) : Int := if 65 ≤ c ∧ c ≤ 90 then c + 32 else c
theorem lwW (c : Int) : wb (lw c) = isW c := by
  unfold isW lowV lw wb
  by_cases h : 65 ≤ c ∧ c ≤ 90
  · rw [if_pos h, if_pos h, decide_eq_decide]; omega
  · rw [if_neg h, if_neg h]
    by_cases h2 : (48 ≤ c ∧ c ≤ 57 ∨ 97 ≤ c ∧ c ≤ 122)
    · rw [if_pos (by simpa using h2), decide_eq_decide]; omega
    · rw [if_neg (by simpa using h2), decide_eq_decide]; omega
theorem isW_lw {c : Int} (h : isW c = true) : lw c = lowV c ∧ 48 ≤ lowV c ∧ lowV c ≤ 122 := by
  unfold isW lowV wb at h
  unfold lowV lw wb
  by_cases h1 : 65 ≤ c ∧ c ≤ 90
  · rw [if_pos h1, if_pos h1]; omega
  · rw [if_neg h1] at h
    rw [if_neg h1, if_neg h1]
    by_cases h2 : (48 ≤ c ∧ c ≤ 57 ∨ 97 ≤ c ∧ c ≤ 122)
    · rw [if_pos (by simpa using h2)]; omega
    · rw [if_neg (by simpa using h2)] at h; simp at h
theorem implLower (c : Int) (h0 : 0 ≤ c) (h1 : c ≤ 255) : impl_lower.f c = some (lw c) := by
  unfold impl_lower.f lw
  by_cases h2 : c ≥ 65
  · rw [if_pos h2]
    by_cases h3 : c ≤ 90
    · rw [if_pos h3, if_pos ⟨h2, h3⟩]; congr 1; omega
    · rw [if_neg h3, if_neg (by omega)]
  · rw [if_neg h2, if_neg (by omega)]
theorem enc1 (c : Int) (h0 : 0 ≤ c) (h1 : c < 128) : Utf8.encode c = strOfNums [c] := by
  obtain ⟨n, rfl⟩ := Int.eq_ofNat_of_zero_le h0
  have hv : Utf8.valid (n : Int) = true := by simp [Utf8.valid]; omega
  unfold Utf8.encode strOfNums
  simp only [hv, if_true, Int.toNat_natCast]
  rw [if_pos (by omega)]
  rfl
theorem nums_app (l m : List Int) : strOfNums l ++ strOfNums m = strOfNums (l ++ m) := by
  apply ByteArray.ext
  simp [strOfNums]
/-- Where a run ends. -/
def rend (s : ByteArray) : Nat → Nat → Nat
  | i, 0 => i
  | i, d + 1 => if isW (bt s (i : Int)) = true then rend s (i + 1) d else i
def lows (s : ByteArray) : Nat → Nat → List Int
  | _, 0 => []
  | i, d + 1 => if isW (bt s (i : Int)) = true then lowV (bt s (i : Int)) :: lows s (i + 1) d else []
theorem rend_le (s : ByteArray) : ∀ d i, i ≤ rend s i d ∧ rend s i d ≤ i + d
  | 0, i => by simp [rend]
  | d + 1, i => by
    have := rend_le s d (i + 1)
    unfold rend
    split <;> omega
theorem rend_yes (s : ByteArray) {i n : Nat} (h : i < n) (c : isW (bt s (i : Int)) = true) : rend s i (n - i) = rend s (i + 1) (n - (i + 1)) := by
  rw [show n - i = n - (i + 1) + 1 by omega, rend, if_pos c]
theorem rend_no (s : ByteArray) {i n : Nat} (h : i < n) (c : ¬ isW (bt s (i : Int)) = true) : rend s i (n - i) = i := by
  rw [show n - i = n - (i + 1) + 1 by omega, rend, if_neg c]
theorem lows_yes (s : ByteArray) {i n : Nat} (h : i < n) (c : isW (bt s (i : Int)) = true) : lows s i (n - i) = lowV (bt s (i : Int)) :: lows s (i + 1) (n - (i + 1)) := by
  rw [show n - i = n - (i + 1) + 1 by omega, lows, if_pos c]
theorem lows_no (s : ByteArray) {i n : Nat} (h : i < n) (c : ¬ isW (bt s (i : Int)) = true) : lows s i (n - i) = [] := by
  rw [show n - i = n - (i + 1) + 1 by omega, lows, if_neg c]
theorem lows_len (s : ByteArray) : ∀ d i, (lows s i d).length ≤ d
  | 0, i => by simp [lows]
  | d + 1, i => by
    have := lows_len s d (i + 1)
    unfold lows
    split <;> simp <;> omega
abbrev TR := S84
def wordOf (s : ByteArray) (i : Nat) : ByteArray := strOfNums (lows s i (s.size - i))
/-- The runs of a text from a place on. -/
def runsF (s : ByteArray) : Nat → Nat → List TR
  | 0, _ => []
  | n + 1, i => if i < s.size then (if isW (bt s (i : Int)) = true then (⟨(i : Int), (rend s i (s.size - i) : Nat), wordOf s i⟩ : TR) :: runsF s n (rend s i (s.size - i) + 1) else runsF s n (i + 1)) else []
theorem runs_in (s : ByteArray) : ∀ n i, ∀ x ∈ runsF s n i, 0 ≤ x.f0 ∧ x.f0 ≤ x.f1 ∧ x.f1 ≤ (s.size : Int)
  | 0, i, x, h => by simp [runsF] at h
  | n + 1, i, x, h => by
    unfold runsF at h
    split at h
    · rename_i hi
      split at h
      · rcases List.mem_cons.1 h with h | h
        · have := rend_le s (s.size - i) i
          subst h
          simp only
          omega
        · exact runs_in s n _ x h
      · exact runs_in s n _ x h
    · simp at h
/-- A run is read to its end. -/
theorem implRun (s : ByteArray) (hs : s.size ≤ 1048576) (i : Nat) (x3 : List TR) (hx : x3.length ≤ 1048576) (r : List TR) (nx : Ev (fun k => impl_runsOf.l0 k s (x3 ++ [⟨(i : Int), (rend s i (s.size - i) : Nat), wordOf s i⟩]) ((rend s i (s.size - i) + 1 : Nat) : Int)) r) (hi : i ≤ s.size) : Ev (fun k => impl_runsOf.l1 k s x3 (i : Int) (i : Int) 0 (⟨#[]⟩ : ByteArray)) r := by
  have key := nat_ind s.size (fun j => i ≤ j → ∀ acc : List Int, acc.length = j - i → rend s j (s.size - j) = rend s i (s.size - i) → strOfNums (acc ++ lows s j (s.size - j)) = wordOf s i → Ev (fun k => impl_runsOf.l1 k s x3 (j : Int) (i : Int) 0 (strOfNums acc)) r) ?_ ?_ i hi (Nat.le_refl _) [] (by simp) rfl rfl
  · exact key
  · intro _ acc ha he hw
    refine Ev.step (fun k => by rw [impl_runsOf.l1]) ?_
    rw [Nat.sub_self] at he hw
    simp only [lows, List.append_nil] at hw
    simp only [rend] at he
    rw [wsucc (n := s.size + 1) (by omega) (by omega), hw]
    rw [← he] at nx
    exact ev_neg (by omega) (ev_pos (by omega) nx)
  · intro j hj ih hij acc ha he hw
    have hr := bt_range s (j : Int)
    refine Ev.step (fun k => by rw [impl_runsOf.l1]) ?_
    rw [wsucc hj (by omega)]
    refine ev_pos (by omega) (ev_pos (by omega) (ev_b (implLower _ hr.1 hr.2) (ev_b (implByte _) ?_)))
    rw [lwW]
    by_cases c : isW (bt s (j : Int)) = true
    · have hl := isW_lw c
      refine ev_pos c (ev_b (implLower _ hr.1 hr.2) ?_)
      rw [hl.1, enc1 _ (by omega) (by omega), nums_app]
      rw [lows_yes s hj c] at hw
      rw [rend_yes s hj c] at he
      refine ev_pos ?_ (ih (by omega) _ (by simp [ha]; omega) he (by simpa using hw))
      rw [strOfNums_size, strOfNums_size]; simp; omega
    · rw [lows_no s hj c, List.append_nil] at hw
      rw [rend_no s hj c] at he
      refine ev_neg c (ev_pos (by omega) ?_)
      rw [hw]
      rw [← he] at nx
      exact nx
theorem implRunsL (s : ByteArray) (hs : s.size ≤ 1048576) : ∀ (n i : Nat) (x3 : List TR), s.size ≤ i + n → i ≤ s.size + 1 → x3.length ≤ i → Ev (fun k => impl_runsOf.l0 k s x3 (i : Int)) (x3 ++ runsF s n i) := by
  intro n
  induction n with
  | zero =>
    intro i x3 h _ _
    refine Ev.step (fun k => by rw [impl_runsOf.l0]) ?_
    exact ev_neg (by omega) (ev_some (by simp [runsF]))
  | succ n ih =>
    intro i x3 h h2 hx
    refine Ev.step (fun k => by rw [impl_runsOf.l0]) ?_
    by_cases hi : i < s.size
    · have hr := bt_range s (i : Int)
      rw [wsucc hi (by omega)]
      refine ev_pos (by omega) (ev_pos (by omega) (ev_b (implLower _ hr.1 hr.2) (ev_b (implByte _) ?_)))
      rw [lwW]
      unfold runsF
      rw [if_pos hi]
      have hre := rend_le s (s.size - i) i
      by_cases c : isW (bt s (i : Int)) = true
      · rw [if_pos c]
        refine ev_pos c (implRun s hs i x3 (by omega) _ ?_ (by omega))
        refine ev_eq (ih _ _ (by omega) (by omega) (by simp; omega)) (by simp)
      · rw [if_neg c]
        exact ev_neg c (ih (i + 1) x3 (by omega) (by omega) (by omega))
    · refine ev_neg (by omega) (ev_some ?_)
      unfold runsF
      rw [if_neg hi, List.append_nil]
def runsAll (s : ByteArray) : List TR := runsF s s.size 0
theorem implRuns (s : ByteArray) (hs : s.size ≤ 1048576) : Ev (fun k => impl_runsOf.f k s) (runsAll s) := by
  have := implRunsL s hs s.size 0 [] (by omega) (by omega) (by simp)
  unfold impl_runsOf.f runsAll
  simpa using this
def allL (t : ByteArray) : Nat → Nat → List Int
  | _, 0 => []
  | j, d + 1 => lowV (bt t (j : Int)) :: allL t (j + 1) d
theorem bt_extract (s : ByteArray) (i e j : Nat) (h : i + j < e) (he : e ≤ s.size) : bt (s.extract i e) (j : Int) = bt s ((i + j : Nat) : Int) := by
  have h1 : j < (s.extract i e).size := by rw [ByteArray.size_extract]; omega
  unfold bt
  simp only [Int.toNat_natCast]
  rw [dif_pos h1, dif_pos (show i + j < s.size by omega), ByteArray.getElem_extract]
theorem all_lows (s : ByteArray) (i e : Nat) (he : e ≤ s.size) : ∀ d j, e = i + j + d → rend s (i + j) (s.size - (i + j)) = e → allL (s.extract i e) j d = lows s (i + j) (s.size - (i + j)) := by
  intro d
  induction d with
  | zero =>
    intro j hj hr
    unfold allL
    rcases Nat.lt_or_ge (i + j) s.size with h | h
    · by_cases c : isW (bt s ((i + j : Nat) : Int)) = true
      · rw [rend_yes s h c] at hr
        have := rend_le s (s.size - (i + j + 1)) (i + j + 1)
        omega
      · rw [lows_no s h c]
    · rw [show s.size - (i + j) = 0 by omega]; rfl
  | succ d ih =>
    intro j hj hr
    have h : i + j < s.size := by omega
    by_cases c : isW (bt s ((i + j : Nat) : Int)) = true
    · rw [lows_yes s h c, allL, bt_extract s i e j (by omega) he]
      congr 1
      rw [rend_yes s h c] at hr
      have := ih (j + 1) (by omega) (by rw [← Nat.add_assoc]; exact hr)
      rw [this, ← Nat.add_assoc]
    · rw [rend_no s h c] at hr; omega
/-- Is a word among these? -/
def hasV (l : List ByteArray) (w : ByteArray) : Bool := l.any fun y => decide (y.toList = w.toList)

theorem implContains (l : List ByteArray) (hl : l.length ≤ 100000000) (w : ByteArray) : Ev (fun k => slices_Contains_string_string.f k l w) (hasV l w) := by
  have key := idx_ind l (fun i => ∃ v : Int, Ev (fun k => slices_Index_string_string.l0 k l w (l.length : Int) (i : Int)) v ∧ decide (v ≥ 0) = hasV (l.drop i) w) ?_ ?_ 0 (Nat.zero_le _)
  · obtain ⟨v, h1, h2⟩ := key
    unfold slices_Contains_string_string.f slices_Index_string_string.f
    exact Ev.bind h1 (ev_some h2)
  · refine ⟨-1, Ev.step (fun k => by rw [slices_Index_string_string.l0]) ?_, by simp [hasV]⟩
    exact ev_neg (by omega) (Ev.now _)
  · intro i hi ⟨v, h1, h2⟩
    by_cases c : w.toList = l[i].toList
    · refine ⟨(i : Int), Ev.step (fun k => by rw [slices_Index_string_string.l0]) ?_, by rw [drop_at l i hi]; simp only [hasV, List.any_cons, decide_eq_true c.symm, Bool.true_or, decide_eq_true_eq]; omega⟩
      rw [rdOf_at _ l i hi]
      exact ev_pos (by omega) (ev_pos (by omega) (ev_pos (by omega) (ev_pos c (Ev.now _))))
    · refine ⟨v, Ev.step (fun k => by rw [slices_Index_string_string.l0]) ?_, by rw [h2, drop_at l i hi]; simp only [hasV, List.any_cons, decide_eq_false (fun z : l[i].toList = w.toList => c z.symm), Bool.false_or]⟩
      rw [rdOf_at _ l i hi, wsucc hi (by omega)]
      exact ev_pos (by omega) (ev_pos (by omega) (ev_pos (by omega) (ev_neg c h1)))

theorem rdTR (l : List TR) (i : Nat) (h : i < l.length) : rd_T84 l (i : Int) = l[i] := by
  simp [rd_T84, List.getD, h]
theorem runs_len (s : ByteArray) : ∀ n i, (runsF s n i).length ≤ n
  | 0, i => by simp [runsF]
  | n + 1, i => by
    have h1 := runs_len s n (rend s i (s.size - i) + 1)
    have h2 := runs_len s n (i + 1)
    unfold runsF
    split
    · split
      · simp only [List.length_cons]; omega
      · omega
    · simp

/-- A query in order. -/
def queryV (l : List ByteArray) : Bool := decide (1 ≤ l.length ∧ l.length ≤ 8) && l.all wordV
theorem implQuery (l : List ByteArray) (hl : l.length ≤ 100000000) (hf : ∀ y ∈ l, y.size ≤ 140737488351232) : Ev (fun k => impl_queryOk.f k l) (queryV l) := by
  have key := idx_ind l (fun i => ∃ v : Int, Ev (fun k => slices_IndexFunc_string_string_v1.l0 k l (l.length : Int) (i : Int)) v ∧ decide (v ≥ 0) = !(l.drop i).all wordV) ?_ ?_ 0 (Nat.zero_le _)
  · obtain ⟨v, h1, h2⟩ := key
    unfold impl_queryOk.f queryV
    by_cases c : (l.length : Int) ≥ 1
    · refine ev_pos c ?_
      by_cases c2 : (l.length : Int) ≤ 8
      · refine ev_pos c2 (Ev.bind (a := !l.all wordV) ?_ (ev_some ?_))
        · unfold slices_ContainsFunc_string_string_v0.f slices_IndexFunc_string_string_v1.f
          exact Ev.bind h1 (ev_some h2)
        · rw [decide_eq_true (by omega)]; simp
      · exact ev_neg c2 (ev_some (by rw [decide_eq_false (by omega)]; rfl))
    · exact ev_neg c (ev_some (by rw [decide_eq_false (by omega)]; rfl))
  · refine ⟨-1, Ev.step (fun k => by rw [slices_IndexFunc_string_string_v1.l0]) ?_, by simp⟩
    exact ev_neg (by omega) (Ev.now _)
  · intro i hi ⟨v, h1, h2⟩
    have hw := implWord l[i] (hf _ (List.getElem_mem hi))
    by_cases c : wordV l[i] = true
    · refine ⟨v, Ev.step (fun k => by rw [slices_IndexFunc_string_string_v1.l0]) ?_, by rw [h2, drop_at l i hi, List.all_cons, c, Bool.true_and]⟩
      rw [rdOf_at _ l i hi, wsucc hi (by omega)]
      refine ev_pos (by omega) (ev_pos (by omega) (ev_pos (by omega) (Ev.bind (a := false) ?_ (ev_neg (by simp) h1))))
      unfold impl_queryOk_1_n94.f
      exact Ev.bind hw (ev_some (by simp [c]))
    · refine ⟨(i : Int), Ev.step (fun k => by rw [slices_IndexFunc_string_string_v1.l0]) ?_, by rw [drop_at l i hi, List.all_cons, (Bool.not_eq_true _).mp c, Bool.false_and, decide_eq_true (by omega)]; rfl⟩
      rw [rdOf_at _ l i hi]
      refine ev_pos (by omega) (ev_pos (by omega) (ev_pos (by omega) (Ev.bind (a := true) ?_ (ev_pos rfl (Ev.now _)))))
      unfold impl_queryOk_1_n94.f
      exact Ev.bind hw (ev_some (by simp [c]))

theorem ext_split (s : ByteArray) {a b c : Nat} (h1 : a ≤ b) (h2 : b ≤ c) : s.extract a c = s.extract a b ++ s.extract b c := by
  apply ByteArray.ext
  rw [ByteArray.data_append, ByteArray.data_extract, ByteArray.data_extract, ByteArray.data_extract, Array.extract_append_extract, Nat.min_eq_left h1, Nat.max_eq_right h2]
theorem ext_none (s : ByteArray) (a : Nat) : s.extract a a = (⟨#[]⟩ : ByteArray) := by
  apply ByteArray.ext
  rw [ByteArray.data_extract]
  simp
  omega
theorem app_none (s : ByteArray) : s ++ (⟨#[]⟩ : ByteArray) = s := by
  apply ByteArray.ext
  rw [ByteArray.data_append]
  simp
theorem none_app (s : ByteArray) : (⟨#[]⟩ : ByteArray) ++ s = s := by
  apply ByteArray.ext
  rw [ByteArray.data_append]
  simp
/-- What stands behind these runs, from a place on. -/
def mkR (s : ByteArray) (ws : List ByteArray) : List TR → Nat → ByteArray
  | [], a => s.extract a s.size
  | r :: rs, a => if hasV ws r.f2 = true then (((s.extract a r.f0.toNat ++ (⟨#[91]⟩ : ByteArray)) ++ s.extract r.f0.toNat r.f1.toNat) ++ (⟨#[93]⟩ : ByteArray)) ++ mkR s ws rs r.f1.toNat else mkR s ws rs a
/-- Runs in order, from a place on. -/
def okR (n : Int) : Int → List TR → Prop
  | a, [] => a ≤ n
  | a, r :: rs => a ≤ r.f0 ∧ r.f0 ≤ r.f1 ∧ r.f1 ≤ n ∧ okR n r.f1 rs
theorem okR_low {n : Int} : ∀ (L : List TR) (a b : Int), a ≤ b → okR n b L → okR n a L
  | [], a, b, h, h2 => by unfold okR at h2 ⊢; omega
  | r :: rs, a, b, h, h2 => by
    unfold okR at h2 ⊢
    exact ⟨by omega, h2.2⟩
theorem runs_ok (s : ByteArray) : ∀ (n i a : Nat), a ≤ i → a ≤ s.size → okR (s.size : Int) (a : Int) (runsF s n i)
  | 0, i, a, h, h2 => by unfold runsF okR; omega
  | n + 1, i, a, h, h2 => by
    have hre := rend_le s (s.size - i) i
    unfold runsF
    by_cases hi : i < s.size
    · rw [if_pos hi]
      by_cases c : isW (bt s (i : Int)) = true
      · rw [if_pos c]
        unfold okR
        exact ⟨by simp only []; omega, by simp only []; omega, by simp only []; omega, runs_ok s n _ _ (by omega) (by omega)⟩
      · rw [if_neg c]
        exact runs_ok s n _ _ (by omega) h2
    · rw [if_neg hi]
      unfold okR; omega
theorem mkR_split (s : ByteArray) (ws : List ByteArray) : ∀ (L : List TR) (a b : Nat), a ≤ b → okR (s.size : Int) (b : Int) L → mkR s ws L a = s.extract a b ++ mkR s ws L b
  | [], a, b, h, h2 => by
    unfold okR at h2
    rw [mkR, mkR]
    exact ext_split s h (by omega)
  | r :: rs, a, b, h, h2 => by
    unfold okR at h2
    rw [mkR, mkR]
    by_cases c : hasV ws r.f2 = true
    · rw [if_pos c, if_pos c, ext_split s h (show b ≤ r.f0.toNat by omega)]
      simp only [ByteArray.append_assoc]
    · rw [if_neg c, if_neg c]
      exact mkR_split s ws rs a b h (okR_low rs _ _ (by omega) h2.2.2.2)
theorem bsz1 (a : UInt8) : (⟨#[a]⟩ : ByteArray).size = 1 := rfl
theorem implMarkL (s : ByteArray) (hs : s.size ≤ 80) (ws : List ByteArray) (hl : ws.length ≤ 100000000) (R : List TR) (hr : R.length ≤ 80) (ok : okR (s.size : Int) 0 R) : Ev (fun k => impl_MarkWords.l0 k s ws (⟨#[]⟩ : ByteArray) 0 R (R.length : Int) 0) (mkR s ws R 0, true) := by
  have key := idx_ind R (fun i => ∀ (a : Nat) (acc : ByteArray), okR (s.size : Int) (a : Int) (R.drop i) → acc.size ≤ a + 2 * i → a ≤ s.size → Ev (fun k => impl_MarkWords.l0 k s ws acc (a : Int) R (R.length : Int) (i : Int)) (acc ++ mkR s ws (R.drop i) a, true)) ?_ ?_ 0 (Nat.zero_le _) 0 (⟨#[]⟩ : ByteArray) ok (Nat.zero_le _) (Nat.zero_le _)
  · rw [none_app] at key
    exact key
  · intro a acc _ ha ha2
    have z1 := ByteArray.size_extract (a := s) (b := a) (e := s.size)
    refine Ev.step (fun k => by rw [impl_MarkWords.l0]) ?_
    refine ev_neg (by omega) (ev_b (a := acc) rfl (ev_pos (by omega) (ev_pos (by omega) ?_)))
    simp only [Int.toNat_natCast]
    refine ev_pos (by omega) (ev_some ?_)
    rw [List.drop_length, mkR]
  · intro i hi ih a acc hok ha ha2
    rw [drop_at R i hi] at hok
    unfold okR at hok
    obtain ⟨o1, o2, o3, o4⟩ := hok
    refine Ev.step (fun k => by rw [impl_MarkWords.l0]) ?_
    rw [rdTR R i hi, wsucc hi (by omega), drop_at R i hi, mkR]
    obtain ⟨p, hp⟩ := Int.eq_ofNat_of_zero_le (show 0 ≤ R[i].f0 by omega)
    obtain ⟨q, hq⟩ := Int.eq_ofNat_of_zero_le (show 0 ≤ R[i].f1 by omega)
    rw [hp] at o1 o2
    rw [hq] at o2 o3 o4
    rw [hp, hq]
    simp only [Int.toNat_natCast]
    have z1 := ByteArray.size_extract (a := s) (b := a) (e := p)
    have z2 := ByteArray.size_extract (a := s) (b := p) (e := q)
    refine ev_pos (by omega) (ev_pos (by omega) (ev_pos (by omega) (Ev.bind (implContains ws hl _) ?_)))
    by_cases c : hasV ws R[i].f2 = true
    · rw [if_pos c]
      have e1 : (s.extract a p ++ (⟨#[91]⟩ : ByteArray)).size = (s.extract a p).size + 1 := by rw [ByteArray.size_append, bsz1]
      have e2 : ((s.extract a p ++ (⟨#[91]⟩ : ByteArray)) ++ s.extract p q).size = (s.extract a p).size + 1 + (s.extract p q).size := by rw [ByteArray.size_append, e1]
      have e3 : (((s.extract a p ++ (⟨#[91]⟩ : ByteArray)) ++ s.extract p q) ++ (⟨#[93]⟩ : ByteArray)).size = (s.extract a p).size + 1 + (s.extract p q).size + 1 := by rw [ByteArray.size_append, e2, bsz1]
      refine ev_pos c (ev_pos (by omega) (ev_pos (by omega) (ev_pos (by omega) (ev_pos (by omega) (ev_pos (by omega) (ev_pos (by omega) (ev_pos (by omega) (ev_pos (by omega) (ev_pos (by omega) ?_)))))))))
      refine ev_b (a := acc ++ (((s.extract a p ++ (⟨#[91]⟩ : ByteArray)) ++ s.extract p q) ++ (⟨#[93]⟩ : ByteArray))) ?_ ?_
      · unfold impl_MarkWords.ws
        rw [if_pos (by omega)]
      · have hz : (acc ++ (((s.extract a p ++ (⟨#[91]⟩ : ByteArray)) ++ s.extract p q) ++ (⟨#[93]⟩ : ByteArray))).size = acc.size + ((s.extract a p).size + 1 + (s.extract p q).size + 1) := by rw [ByteArray.size_append, e3]
        refine ev_eq (ih q _ o4 (by omega) (by omega)) ?_
        simp only [ByteArray.append_assoc]
    · rw [if_neg c]
      exact ev_neg c (ih a acc (okR_low _ _ _ (by omega) o4) (by omega) ha2)
/-- What both answer. -/
def markV (s : ByteArray) (ws : List ByteArray) : ByteArray × Bool := if (betw s 32 126 0 s.size && decide (s.size ≤ 80)) = true ∧ queryV ws = true then (mkR s ws (runsAll s) 0, true) else ((⟨#[]⟩ : ByteArray), false)
theorem implMark (s : ByteArray) (hs : s.size ≤ 1048576) (ws : List ByteArray) (hl : ws.length ≤ 100000000) (hf : ∀ y ∈ ws, y.size ≤ 140737488351232) : Ev (fun k => impl_MarkWords.f k s ws) (markV s ws) := by
  unfold impl_MarkWords.f
  have jt : ¬ ((betw s 32 126 0 s.size && decide (s.size ≤ 80)) = true ∧ queryV ws = true) → Ev (fun k => impl_MarkWords.j0 k s ws true) (markV s ws) := fun n => by
    unfold markV
    rw [if_neg n]
    exact Ev.step (fun k => by rw [impl_MarkWords.j0]) (ev_pos rfl (Ev.now _))
  refine Ev.bind (implText s (by omega)) ?_
  by_cases c : (betw s 32 126 0 s.size && decide (s.size ≤ 80)) = true
  · refine ev_pos c (Ev.bind (implQuery ws hl hf) ?_)
    by_cases d : queryV ws = true
    · rw [d]
      refine Ev.step (fun k => by rw [impl_MarkWords.j0]) (ev_neg (by simp) (Ev.bind (implRuns s hs) ?_))
      have h80 : s.size ≤ 80 := by
        simp only [Bool.and_eq_true, decide_eq_true_eq] at c
        exact c.2
      unfold markV
      rw [if_pos ⟨c, d⟩]
      have hr : (runsAll s).length ≤ 80 := by have := runs_len s s.size 0; unfold runsAll; omega
      exact implMarkL s h80 ws hl _ hr (runs_ok s s.size 0 0 (Nat.le_refl _) (Nat.zero_le _))
    · rw [(Bool.not_eq_true _).mp d]
      exact jt (fun z => d z.2)
  · exact ev_neg c (jt (fun z => c z.1))

theorem rend_all (s : ByteArray) : ∀ d i j, i ≤ j → j < rend s i d → isW (bt s (j : Int)) = true
  | 0, i, j, h, h2 => by simp [rend] at h2; omega
  | d + 1, i, j, h, h2 => by
    unfold rend at h2
    split at h2
    · rename_i c
      rcases Nat.lt_or_ge i j with h3 | h3
      · exact rend_all s d (i + 1) j (by omega) h2
      · have : i = j := by omega
        subst this; exact c
    · omega
theorem lows_rend (s : ByteArray) : ∀ d i, (lows s i d).length = rend s i d - i
  | 0, i => by simp [lows, rend]
  | d + 1, i => by
    have h := lows_rend s d (i + 1)
    have h2 := rend_le s d (i + 1)
    unfold lows rend
    split
    · simp only [List.length_cons, h]; omega
    · simp
theorem runs_size (s : ByteArray) : ∀ n i, ∀ x ∈ runsF s n i, 1 ≤ x.f2.size
  | 0, i, x, h => by simp [runsF] at h
  | n + 1, i, x, h => by
    unfold runsF at h
    split at h
    · rename_i hi
      split at h
      · rename_i c
        rcases List.mem_cons.1 h with h | h
        · have h1 := rend_le s (s.size - (i + 1)) (i + 1)
          have h2 := lows_rend s (s.size - i) i
          rw [rend_yes s hi c] at h2
          subst h
          unfold wordOf
          rw [strOfNums_size, h2]
          omega
        · exact runs_size s n _ x h
      · exact runs_size s n _ x h
    · simp at h

theorem implAll (s : ByteArray) (hs : s.size ≤ 1048576) : Ev (fun k => impl_words.f k s) ((runsAll s).map (·.f2)) := by
  unfold impl_words.f
  refine Ev.bind (implRuns s hs) ?_
  have hr : (runsAll s).length ≤ 1048576 := by have := runs_len s s.size 0; unfold runsAll; omega
  generalize runsAll s = R at hr
  have key := idx_ind R (fun i => ∀ acc : List ByteArray, acc.length ≤ i → Ev (fun k => impl_words.l0 k acc R (R.length : Int) (i : Int)) (acc ++ (R.drop i).map (·.f2))) ?_ ?_ 0 (Nat.zero_le _) [] (by simp)
  · simpa using key
  · intro acc _
    refine Ev.step (fun k => by rw [impl_words.l0]) ?_
    exact ev_neg (by omega) (ev_some (by simp))
  · intro i hi ih acc ha
    refine Ev.step (fun k => by rw [impl_words.l0]) ?_
    rw [rdTR R i hi, wsucc hi (by omega), drop_at R i hi]
    refine ev_pos (by omega) (ev_pos (by omega) (ev_pos (by omega) (ev_pos (by omega) ?_)))
    exact ev_eq (ih (acc ++ [R[i].f2]) (by simp; omega)) (by simp only [List.map_cons, List.append_assoc, List.singleton_append])

/-- What is cut out around a run. -/
def cutOf (s : ByteArray) (wide : Int) (x : TR) : ByteArray × Bool := (s.extract (mx (wrap64 (x.f0 - wide)) 0).toNat (mn (wrap64 (x.f1 + wide)) (s.size : Int)).toNat, true)
def pickR (s : ByteArray) (ws : List ByteArray) (wide : Int) : List TR → ByteArray × Bool
  | [] => (⟨#[]⟩, false)
  | x :: r => if hasV ws x.f2 = true then cutOf s wide x else pickR s ws wide r
theorem implPick (s : ByteArray) (hs : s.size ≤ 80) (ws : List ByteArray) (hl : ws.length ≤ 100000000) (wide : Int) (hw : 0 ≤ wide ∧ wide ≤ 80) (l : List TR) (hll : l.length ≤ 100000000) (hin : ∀ x ∈ l, 0 ≤ x.f0 ∧ x.f0 ≤ x.f1 ∧ x.f1 ≤ (s.size : Int)) : Ev (fun k => impl_SnippetOf.l0 k s ws wide l (l.length : Int) 0) (pickR s ws wide l) := by
  refine idx_ind l (fun i => Ev (fun k => impl_SnippetOf.l0 k s ws wide l (l.length : Int) (i : Int)) (pickR s ws wide (l.drop i))) ?_ ?_ 0 (Nat.zero_le _)
  · refine Ev.step (fun k => by rw [impl_SnippetOf.l0]) ?_
    exact ev_neg (by omega) (ev_some (by simp [pickR]))
  · intro i hi ih
    have hx := hin l[i] (List.getElem_mem hi)
    refine Ev.step (fun k => by rw [impl_SnippetOf.l0]) ?_
    rw [rdTR l i hi, wsucc hi (by omega), drop_at l i hi]
    refine ev_pos (by omega) (ev_pos (by omega) (ev_pos (by omega) (Ev.bind (implContains ws hl _) ?_)))
    unfold pickR cutOf
    have w1 : wrap64 (l[i].f0 - wide) = l[i].f0 - wide := w64 (by omega) (by omega)
    have w2 : wrap64 (l[i].f1 + wide) = l[i].f1 + wide := w64 (by omega) (by omega)
    by_cases c : hasV ws l[i].f2 = true
    · rw [if_pos c, w1, w2]
      refine ev_pos c (ev_pos ?_ (ev_pos ?_ (ev_pos ?_ (Ev.now _)))) <;> (try unfold mx) <;> (try unfold mn) <;> (repeat' split) <;> omega
    · rw [if_neg c]
      exact ev_neg c ih
/-- What both answer. -/
def snipV (s : ByteArray) (ws : List ByteArray) (wide : Int) : ByteArray × Bool := if (betw s 32 126 0 s.size = true ∧ s.size ≤ 80) ∧ queryV ws = true ∧ 0 ≤ wide ∧ wide ≤ 80 then pickR s ws wide (runsAll s) else (⟨#[]⟩, false)
theorem implSnip (s : ByteArray) (hs : s.size ≤ 1048576) (ws : List ByteArray) (hl : ws.length ≤ 100000000) (hf : ∀ y ∈ ws, y.size ≤ 140737488351232) (wide : Int) : Ev (fun k => impl_SnippetOf.f k s ws wide) (snipV s ws wide) := by
  unfold impl_SnippetOf.f snipV
  have jt : Ev (fun k => impl_SnippetOf.j0 k s ws wide true) (⟨#[]⟩, false) := Ev.step (fun k => by rw [impl_SnippetOf.j0]) (ev_pos rfl (Ev.now _))
  refine Ev.bind (implText s (by omega)) ?_
  by_cases c1 : betw s 32 126 0 s.size = true ∧ s.size ≤ 80
  · refine ev_pos (by simp [c1]) (Ev.bind (implQuery ws hl hf) ?_)
    by_cases c2 : queryV ws = true
    · refine ev_pos c2 (ev_b (implIn _ _ _) ?_)
      by_cases c3 : 0 ≤ wide ∧ wide ≤ 80
      · rw [if_pos ⟨c1, c2, c3⟩, decide_eq_true c3]
        refine Ev.step (fun k => by rw [impl_SnippetOf.j0]) ?_
        refine ev_neg (by simp) (Ev.bind (implRuns s (by omega)) ?_)
        exact implPick s c1.2 ws hl wide c3 _ (by have := runs_len s s.size 0; unfold runsAll; omega) (runs_in s _ _)
      · rw [if_neg fun z => c3 z.2.2, decide_eq_false c3]
        exact jt
    · rw [if_neg fun z => c2 z.2.1]
      exact ev_neg c2 jt
  · rw [if_neg fun z => c1 z.1]
    exact ev_neg (by simpa using c1) jt

/-- Bytes that texts may have. -/
def okB (s : ByteArray) : Prop := ∀ b ∈ s.data.toList, (32 ≤ b.toNat ∧ b.toNat ≤ 126) ∧ b ≠ 91 ∧ b ≠ 93
instance (s : ByteArray) : Decidable (okB s) := by unfold okB; infer_instance
theorem okB_app {s t : ByteArray} (h : okB s) (h2 : okB t) : okB (s ++ t) := by
  intro b hb
  rw [ByteArray.data_append, Array.toList_append, List.mem_append] at hb
  rcases hb with hb | hb
  · exact h b hb
  · exact h2 b hb
theorem okB_betw {s : ByteArray} (h : okB s) : ∀ d i, i + d = s.size → betw s 32 126 i d = true
  | 0, _, _ => rfl
  | d + 1, i, hd => by
    have hi : i < s.size := by omega
    rw [betw, okB_betw h d (i + 1) (by omega), Bool.and_true, decide_eq_true_eq]
    unfold bt
    simp only [Int.toNat_natCast]
    rw [dif_pos hi]
    have := h s[i] (by
      rw [ByteArray.getElem_eq_getElem_data]
      exact Array.getElem_mem_toList _)
    have := this.1
    omega
theorem textOk {l : List Int} (h : U8s l) (i s : Int) (h0 : 0 ≤ i) (h1 : i ≤ 900000000) (ys : List ByteArray) (hy : 1 ≤ ys.length) (hb : ys.length ≤ 100) : ∃ y i' s', spec_l00Src_text.f l i s ys = some (y, i', s') ∧ y ∈ ys ∧ i ≤ i' ∧ i' ≤ i + 2 := by
  obtain ⟨v, i', s', e, v0, v1, _, g1, g2⟩ := pickOk h i s (ys.length : Int) h0 h1
  obtain ⟨n, rfl⟩ := Int.eq_ofNat_of_zero_le v0
  have hn : n < ys.length := by have := v1 (by omega); omega
  refine ⟨ys[n], i', s', ?_, List.getElem_mem hn, g1, g2⟩
  unfold spec_l00Src_text.f
  rw [e]
  simp only [Option.bind_some]
  rw [if_pos (by omega), if_pos (by omega), rdOf_at _ ys n hn]
theorem texts1 : ∀ y ∈ [(⟨#[98, 97, 100]⟩ : ByteArray), (⟨#[66, 65, 68]⟩ : ByteArray), (⟨#[99, 97, 116]⟩ : ByteArray), (⟨#[67, 97, 116, 115]⟩ : ByteArray), (⟨#[100]⟩ : ByteArray), (⟨#[120]⟩ : ByteArray), (⟨#[120, 49]⟩ : ByteArray), (⟨#[111, 107]⟩ : ByteArray), (⟨#[100, 111, 103]⟩ : ByteArray), (⟨#[57]⟩ : ByteArray)], okB y ∧ y.size ≤ 4 := by decide
theorem texts2 : ∀ y ∈ [(⟨#[32]⟩ : ByteArray), (⟨#[32]⟩ : ByteArray), (⟨#[44, 32]⟩ : ByteArray), (⟨#[46]⟩ : ByteArray), (⟨#[45]⟩ : ByteArray), (⟨#[]⟩ : ByteArray)], okB y ∧ y.size ≤ 2 := by decide
theorem drawText0 {l : List Int} (h : U8s l) : ∀ (n : Nat) (acc : ByteArray) (i s : Int), n ≤ 6 → okB acc → acc.size + 6 * n ≤ 36 → 0 ≤ i → i + 4 * n ≤ 1000 → ∃ r, Ev (fun k => spec_R8Text.l0 k acc (n : Int) l i s) r ∧ okB r ∧ r.size ≤ 36 := by
  intro n
  induction n with
  | zero =>
    intro acc i s _ ha hz _ _
    exact ⟨acc, Ev.step (fun k => by rw [spec_R8Text.l0]) (ev_neg (by omega) (Ev.now _)), ha, by omega⟩
  | succ n ih =>
    intro acc i s hn ha hz h0 h1
    obtain ⟨y, i1, s1, e1, m1, g1, g2⟩ := textOk h i s h0 (by omega) [(⟨#[98, 97, 100]⟩ : ByteArray), (⟨#[66, 65, 68]⟩ : ByteArray), (⟨#[99, 97, 116]⟩ : ByteArray), (⟨#[67, 97, 116, 115]⟩ : ByteArray), (⟨#[100]⟩ : ByteArray), (⟨#[120]⟩ : ByteArray), (⟨#[120, 49]⟩ : ByteArray), (⟨#[111, 107]⟩ : ByteArray), (⟨#[100, 111, 103]⟩ : ByteArray), (⟨#[57]⟩ : ByteArray)] (by decide) (by decide)
    obtain ⟨z, i2, s2, e2, m2, g3, g4⟩ := textOk h i1 s1 (by omega) (by omega) [(⟨#[32]⟩ : ByteArray), (⟨#[32]⟩ : ByteArray), (⟨#[44, 32]⟩ : ByteArray), (⟨#[46]⟩ : ByteArray), (⟨#[45]⟩ : ByteArray), (⟨#[]⟩ : ByteArray)] (by decide) (by decide)
    have y1 := texts1 y m1
    have z1 := texts2 z m2
    have q1 : (y ++ z).size = y.size + z.size := ByteArray.size_append ..
    have q2 : (acc ++ (y ++ z)).size = acc.size + (y ++ z).size := ByteArray.size_append ..
    have w2 : wrap64 (((n + 1 : Nat) : Int) - 1) = (n : Int) := by rw [w64 (by omega) (by omega)]; omega
    obtain ⟨r, hr, r1, r2⟩ := ih (acc ++ (y ++ z)) i2 s2 (by omega) (okB_app ha (okB_app y1.1 z1.1)) (by omega) (by omega) (by omega)
    refine ⟨r, Ev.step (fun k => by rw [spec_R8Text.l0]) ?_, r1, r2⟩
    refine ev_pos (by omega) (ev_b e1 (ev_b e2 (ev_pos (by simp only []; omega) (ev_pos (by simp only []; omega) ?_))))
    simp only [w2]
    exact hr
theorem drawText {l : List Int} (h : U8s l) : ∃ r, Ev (fun k => spec_R8Text.f k l) r ∧ okB r ∧ r.size ≤ 36 := by
  unfold spec_R8Text.f spec_l00From.f
  obtain ⟨v, i', s', e, v0, v1, _, g1, g2⟩ := pickOk h 0 0 7 (by omega) (by omega)
  obtain ⟨n, rfl⟩ := Int.eq_ofNat_of_zero_le v0
  obtain ⟨r, hr, r1, r2⟩ := drawText0 h n (⟨#[]⟩ : ByteArray) i' s' (by omega) (by decide) (by show 0 + 6 * n ≤ 36; omega) (by omega) (by omega)
  exact ⟨r, ev_b rfl (ev_b e hr), r1, r2⟩
theorem oneOk {l : List Int} (h : U8s l) (i s n : Int) (h0 : 0 ≤ i) (h1 : i ≤ 900000000) : ∃ b i' s', spec_l00Src_one.f l i s n = some (b, i', s') ∧ i ≤ i' ∧ i' ≤ i + 2 := by
  obtain ⟨v, i', s', e, _, _, _, g1, g2⟩ := pickOk h i s n h0 h1
  unfold spec_l00Src_one.f
  rw [e]
  exact ⟨_, _, _, rfl, g1, g2⟩
def wl (b1 b2 b3 b4 : Bool) : List ByteArray := (if b1 = true then [(⟨#[98, 97, 100]⟩ : ByteArray)] else []) ++ (if b2 = true then [(⟨#[99, 97, 116]⟩ : ByteArray)] else []) ++ (if b3 = true then [(⟨#[100]⟩ : ByteArray)] else []) ++ (if b4 = true then [(⟨#[120]⟩ : ByteArray)] else [])
theorem drawWords {l : List Int} (h : U8s l) : ∃ b1 b2 b3 b4, Ev (fun k => spec_R8Words.f k l) (wl b1 b2 b3 b4) := by
  obtain ⟨b1, i1, s1, e1, g1, g2⟩ := oneOk h 0 0 2 (by omega) (by omega)
  obtain ⟨b2, i2, s2, e2, g3, g4⟩ := oneOk h i1 s1 2 (by omega) (by omega)
  obtain ⟨b3, i3, s3, e3, g5, g6⟩ := oneOk h i2 s2 2 (by omega) (by omega)
  obtain ⟨b4, i4, s4, e4, g7, g8⟩ := oneOk h i3 s3 2 (by omega) (by omega)
  refine ⟨b1, b2, b3, b4, ?_⟩
  have j1 : ∀ x : List ByteArray, x.length ≤ 10 → Ev (fun k => spec_R8Words.j1 k x l i2 s2) (x ++ (if b3 = true then [(⟨#[100]⟩ : ByteArray)] else []) ++ (if b4 = true then [(⟨#[120]⟩ : ByteArray)] else [])) := by
    intro x hx
    refine Ev.step (fun k => by rw [spec_R8Words.j1]) (ev_b e3 ?_)
    cases b3
    · refine ev_neg (by simp) (ev_b e4 ?_)
      cases b4
      · exact ev_neg (by simp) (ev_some (by simp))
      · exact ev_pos rfl (ev_pos (by omega) (ev_some (by simp)))
    · refine ev_pos rfl (ev_pos (by omega) (ev_b rfl (ev_b e4 ?_)))
      cases b4
      · exact ev_neg (by simp) (ev_some (by simp))
      · exact ev_pos rfl (ev_pos (by simp; omega) (ev_some (by simp)))
  have j0 : ∀ x : List ByteArray, x.length ≤ 9 → Ev (fun k => spec_R8Words.j0 k x l i1 s1) (x ++ (if b2 = true then [(⟨#[99, 97, 116]⟩ : ByteArray)] else []) ++ (if b3 = true then [(⟨#[100]⟩ : ByteArray)] else []) ++ (if b4 = true then [(⟨#[120]⟩ : ByteArray)] else [])) := by
    intro x hx
    refine Ev.step (fun k => by rw [spec_R8Words.j0]) (ev_b e2 ?_)
    cases b2
    · exact ev_neg (by simp) (ev_eq (j1 x (by omega)) (by simp))
    · exact ev_pos rfl (ev_pos (by omega) (ev_eq (j1 (x ++ [⟨#[99, 97, 116]⟩]) (by simp; omega)) (by simp)))
  unfold spec_R8Words.f spec_l00From.f
  refine ev_b rfl (ev_b rfl (ev_b e1 ?_))
  cases b1
  · exact ev_neg (by simp) (ev_eq (j0 [] (by simp)) (by simp [wl]))
  · exact ev_pos rfl (ev_pos (by simp) (ev_eq (j0 [⟨#[98, 97, 100]⟩] (by simp)) (by simp [wl])))

theorem toList_dl (s : ByteArray) : s.toList = s.data.toList := ByteArray.toList_eq s
/-- The bytes that are no marks. -/
def strip (l : List UInt8) : List UInt8 := l.filter fun b => decide (b ≠ 91 ∧ b ≠ 93)
theorem strip_app (a b : List UInt8) : strip (a ++ b) = strip a ++ strip b := by simp [strip]
theorem strip_ext {s : ByteArray} (h : okB s) (a b : Nat) : strip (s.extract a b).data.toList = (s.extract a b).data.toList := by
  unfold strip
  rw [List.filter_eq_self]
  intro x hx
  rw [ByteArray.data_extract] at hx
  have hm : x ∈ s.data.toList := by
    rw [Array.toList_extract] at hx
    exact List.mem_of_mem_drop (List.mem_of_mem_take (by simpa [List.extract] using hx))
  have := (h x hm).2
  simpa using this
/-- How many runs have words of the query. -/
def hitsR (ws : List ByteArray) : List TR → Nat
  | [] => 0
  | r :: rs => (if hasV ws r.f2 = true then 1 else 0) + hitsR ws rs
def hitsW (ws : List ByteArray) : List ByteArray → Nat
  | [] => 0
  | w :: r => (if hasV ws w = true then 1 else 0) + hitsW ws r
theorem hits_map (ws : List ByteArray) : ∀ R : List TR, hitsW ws (R.map (·.f2)) = hitsR ws R
  | [] => rfl
  | r :: rs => by rw [List.map_cons, hitsW, hitsR, hits_map ws rs]
theorem hits_le (ws : List ByteArray) : ∀ l : List ByteArray, hitsW ws l ≤ l.length
  | [] => Nat.le_refl _
  | w :: r => by
    have := hits_le ws r
    rw [hitsW, List.length_cons]
    split <;> omega
theorem mk_strip {s : ByteArray} (h : okB s) (ws : List ByteArray) : ∀ (L : List TR) (a : Nat), okR (s.size : Int) (a : Int) L → strip (mkR s ws L a).data.toList = (s.extract a s.size).data.toList
  | [], a, _ => by rw [mkR]; exact strip_ext h _ _
  | r :: rs, a, ok => by
    unfold okR at ok
    obtain ⟨o1, o2, o3, o4⟩ := ok
    rw [mkR]
    by_cases c : hasV ws r.f2 = true
    · have ih := mk_strip h ws rs r.f1.toNat (by rw [Int.toNat_of_nonneg (by omega)]; exact o4)
      have e1 : strip (⟨#[91]⟩ : ByteArray).data.toList = [] := rfl
      have e2 : strip (⟨#[93]⟩ : ByteArray).data.toList = [] := rfl
      rw [if_pos c]
      simp only [ByteArray.data_append, Array.toList_append, strip_app, ih, e1, e2, strip_ext h, List.append_nil]
      rw [ext_split s (show a ≤ r.f1.toNat by omega) (show r.f1.toNat ≤ s.size by omega), ext_split s (show a ≤ r.f0.toNat by omega) (show r.f0.toNat ≤ r.f1.toNat by omega)]
      simp only [ByteArray.data_append, Array.toList_append]
    · rw [if_neg c]
      exact mk_strip h ws rs a (okR_low _ _ _ (by omega) o4)
theorem mk_size (s : ByteArray) (ws : List ByteArray) : ∀ (L : List TR) (a : Nat), okR (s.size : Int) (a : Int) L → (mkR s ws L a).size + a = s.size + 2 * hitsR ws L
  | [], a, ok => by
    unfold okR at ok
    rw [mkR, hitsR, ByteArray.size_extract]
    omega
  | r :: rs, a, ok => by
    unfold okR at ok
    obtain ⟨o1, o2, o3, o4⟩ := ok
    rw [mkR, hitsR]
    by_cases c : hasV ws r.f2 = true
    · have ih := mk_size s ws rs r.f1.toNat (by rw [Int.toNat_of_nonneg (by omega)]; exact o4)
      rw [if_pos c, if_pos c]
      simp only [ByteArray.size_append, bsz1, ByteArray.size_extract]
      omega
    · rw [if_neg c, if_neg c, Nat.zero_add]
      exact mk_size s ws rs a (okR_low _ _ _ (by omega) o4)
/-- A snippet is a part of the text, where a run has a word of the query. -/
theorem pick_ok (s : ByteArray) (hs : s.size ≤ 80) (ws : List ByteArray) (wide : Int) (hw : 0 ≤ wide ∧ wide ≤ 80) : ∀ L : List TR, (∀ x ∈ L, 0 ≤ x.f0 ∧ x.f0 + 1 ≤ x.f1 ∧ x.f1 ≤ (s.size : Int)) →
    (hitsR ws L = 0 ∧ (pickR s ws wide L).2 = false) ∨ (0 < hitsR ws L ∧ (pickR s ws wide L).2 = true ∧ ∃ A B : Nat, (pickR s ws wide L).1 = s.extract A B ∧ A + 1 ≤ B ∧ B ≤ s.size ∧ (wide = 80 → A = 0 ∧ B = s.size))
  | [], _ => .inl ⟨rfl, rfl⟩
  | r :: rs, h => by
    have hr := h r List.mem_cons_self
    rw [hitsR, pickR]
    by_cases c : hasV ws r.f2 = true
    · rw [if_pos c, if_pos c]
      refine .inr ⟨by omega, rfl, (mx (wrap64 (r.f0 - wide)) 0).toNat, (mn (wrap64 (r.f1 + wide)) (s.size : Int)).toNat, rfl, ?_⟩
      rw [w64 (n := r.f0 - wide) (by omega) (by omega), w64 (n := r.f1 + wide) (by omega) (by omega)]
      unfold mx mn
      refine ⟨?_, ?_, fun e => ⟨?_, ?_⟩⟩ <;> (repeat' split) <;> omega
    · rw [if_neg c, if_neg c, Nat.zero_add]
      exact pick_ok s hs ws wide hw rs fun x hx => h x (List.mem_cons_of_mem _ hx)
theorem runs_one (s : ByteArray) : ∀ n i, ∀ x ∈ runsF s n i, 0 ≤ x.f0 ∧ x.f0 + 1 ≤ x.f1 ∧ x.f1 ≤ (s.size : Int)
  | 0, i, x, h => by simp [runsF] at h
  | n + 1, i, x, h => by
    unfold runsF at h
    split at h
    · rename_i hi
      split at h
      · rename_i c
        rcases List.mem_cons.1 h with h | h
        · have h1 := rend_le s (s.size - (i + 1)) (i + 1)
          rw [rend_yes s hi c] at h
          subst h
          simp only []
          omega
        · exact runs_one s n _ x h
      · exact runs_one s n _ x h
    · simp at h
theorem bt_data (s : ByteArray) (j : Nat) (h : j < s.size) : bt s (j : Int) = ((s.data.toList[j]'(by rw [data_length]; exact h)).toNat : Int) := by
  unfold bt
  simp only [Int.toNat_natCast]
  rw [dif_pos h, ByteArray.getElem_eq_getElem_data]
  simp
theorem ext_one (s : ByteArray) (j : Nat) (h : j < s.size) : (s.extract j (j + 1)).data.toList = [s.data.toList[j]'(by rw [data_length]; exact h)] := by
  have hl : j < s.data.toList.length := by rw [data_length]; exact h
  rw [ByteArray.data_extract, Array.toList_extract, List.extract_eq_take_drop, Nat.add_sub_cancel_left]
  rw [List.drop_eq_getElem_cons hl]
  rfl
theorem size_data (s : ByteArray) : s.size = s.data.toList.length := (data_length s).symm
theorem j4_ok (s : ByteArray) (hs : s.size ≤ 80) (ws : List ByteArray) (hl : ws.length ≤ 100000000) (hf : ∀ y ∈ ws, y.size ≤ 140737488351232) (ht : betw s 32 126 0 s.size = true) (hq : queryV ws = true) (wide : Int) (hw : 0 ≤ wide ∧ wide ≤ 80) : Ev (fun k => laws_FnMarked.j4 k s ws (pickR s ws wide (runsAll s)).1 (pickR s ws wide (runsAll s)).2 false) true := by
  have h1 := pick_ok s hs ws wide hw (runsAll s) (runs_one s s.size 0)
  have h2 := pick_ok s hs ws 80 (by omega) (runsAll s) (runs_one s s.size 0)
  have sn := implSnip s (by omega) ws hl hf 80
  unfold snipV at sn
  rw [if_pos ⟨⟨ht, hs⟩, hq, by omega, by omega⟩] at sn
  refine Ev.step (fun k => by rw [laws_FnMarked.j4]) (ev_neg (by simp) ?_)
  rcases h1 with ⟨_, e⟩ | ⟨hp, e, A, B, eA, hAB, hB, _⟩
  · rw [e]
    exact ev_neg (by simp) (Ev.now _)
  · rcases h2 with ⟨z, _⟩ | ⟨_, e2, A2, B2, eA2, _, _, e80⟩
    · omega
    · obtain ⟨rfl, rfl⟩ := e80 rfl
      have full : s.extract 0 s.size = s := ByteArray.extract_zero_size
      rw [full] at eA2
      rw [e, eA]
      generalize pickR s ws 80 (runsAll s) = P at sn e2 eA2
      have hz := ByteArray.size_extract (a := s) (b := A) (e := B)
      have hm : (s.extract A B).size = B - A := by omega
      have key : ∀ d i : Nat, s.size + 1 - i ≤ d → i ≤ s.size + 1 → ∀ b : Bool, (b = true ∨ i ≤ A) → Ev (fun k => laws_FnMarked.l3 k s ws (s.extract A B) b (i : Int)) true := by
        intro d
        induction d with
        | zero =>
          intro i hd hi b hb
          refine Ev.step (fun k => by rw [laws_FnMarked.l3]) ?_
          rw [hm, w64 (n := (i : Int) + ((B - A : Nat) : Int)) (by omega) (by omega)]
          have hb2 : b = true := by
            rcases hb with hb | hb
            · exact hb
            · omega
          refine ev_neg (by omega) (Ev.bind sn (ev_pos hb2 (ev_pos e2 (ev_pos (by rw [eA2]) (ev_some ?_)))))
          rw [decide_eq_true_eq]
          omega
        | succ d ih =>
          intro i hd hi b hb
          refine Ev.step (fun k => by rw [laws_FnMarked.l3]) ?_
          rw [hm, w64 (n := (i : Int) + ((B - A : Nat) : Int)) (by omega) (by omega)]
          by_cases c : (i : Int) + ((B - A : Nat) : Int) ≤ (s.size : Int)
          · refine ev_pos c ?_
            rw [wsucc (n := s.size + 1) (by omega) (by omega)]
            cases b
            · refine ev_neg (by simp) (ev_pos (by omega) (ev_pos (by omega) (ih (i + 1) (by omega) (by omega) _ ?_)))
              have hi2 : i ≤ A := by
                rcases hb with hb | hb
                · cases hb
                · exact hb
              by_cases g : i = A
              · left
                subst g
                rw [show ((i : Int) + ((B - i : Nat) : Int)).toNat = B by omega, Int.toNat_natCast, beq_self_eq_true]
              · right; omega
            · exact ev_pos rfl (ih (i + 1) (by omega) (by omega) true (.inl rfl))
          · have hb2 : b = true := by
              rcases hb with hb | hb
              · exact hb
              · omega
            refine ev_neg c (Ev.bind sn (ev_pos hb2 (ev_pos e2 (ev_pos (by rw [eA2]) (ev_some ?_)))))
            rw [decide_eq_true_eq]
            omega
      exact ev_pos rfl (key (s.size + 1) 0 (by omega) (by omega) false (.inr (Nat.zero_le _)))
theorem markCount (s : ByteArray) (hs : s.size ≤ 80) (hok : okB s) (ws : List ByteArray) (hl : ws.length ≤ 100000000) (hf : ∀ y ∈ ws, y.size ≤ 140737488351232) (ht : betw s 32 126 0 s.size = true) (hq : queryV ws = true) (wide : Int) (hw : 0 ≤ wide ∧ wide ≤ 80) : Ev (fun k => laws_FnMarked.j0 k s ws (mkR s ws (runsAll s) 0) ((runsAll s).map (·.f2)) (pickR s ws wide (runsAll s)).1 (pickR s ws wide (runsAll s)).2 false) true := by
  have hr : (runsAll s).length ≤ 80 := by have := runs_len s s.size 0; unfold runsAll; omega
  have okA := runs_ok s s.size 0 0 (Nat.le_refl _) (Nat.zero_le _)
  have hstrip := mk_strip hok ws (runsAll s) 0 okA
  have hsize := mk_size s ws (runsAll s) 0 okA
  have h1 := pick_ok s hs ws wide hw (runsAll s) (runs_one s s.size 0)
  have hj4 := j4_ok s hs ws hl hf ht hq wide hw
  have hmap := hits_map ws (runsAll s)
  have al : ((runsAll s).map (·.f2)).length ≤ 80 := by rw [List.length_map]; exact hr
  have hle := hits_le ws ((runsAll s).map (·.f2))
  rw [← hmap] at hsize h1
  generalize (runsAll s).map (·.f2) = W at hmap al hle hsize h1
  generalize mkR s ws (runsAll s) 0 = M at hstrip hsize
  have full : s.extract 0 s.size = s := ByteArray.extract_zero_size
  rw [full] at hstrip
  generalize (pickR s ws wide (runsAll s)).1 = x12 at hj4 h1
  generalize (pickR s ws wide (runsAll s)).2 = x13 at hj4 h1
  have h13 : x13 = decide (((hitsW ws W : Nat) : Int) > 0) := by
    rcases h1 with ⟨a, b⟩ | ⟨a, b, _⟩
    · rw [b, decide_eq_false (by omega)]
    · rw [b, decide_eq_true (by omega)]
  -- the marked text, byte by byte
  have hMs : M.size = s.size + 2 * hitsW ws W := by omega
  have l2 : Ev (fun k => laws_FnMarked.l2 k s ws M x12 x13 ((hitsW ws W : Nat) : Int) (⟨#[]⟩ : ByteArray) 0) true := by
    have key := nat_ind M.size (fun j => ∀ acc : ByteArray, acc.data.toList ++ strip (M.data.toList.drop j) = s.data.toList → Ev (fun k => laws_FnMarked.l2 k s ws M x12 x13 ((hitsW ws W : Nat) : Int) acc (j : Int)) true) ?_ ?_ 0 (Nat.zero_le _) (⟨#[]⟩ : ByteArray) (by simpa using hstrip)
    · exact key
    · intro acc ha
      rw [List.drop_eq_nil_of_le (by rw [data_length]; omega)] at ha
      have e : acc = s := by
        apply ByteArray.ext
        apply Array.toList_inj.1
        simpa [strip] using ha
      subst e
      refine Ev.step (fun k => by rw [laws_FnMarked.l2]) (ev_neg (by omega) (ev_pos rfl ?_))
      rw [w64 (n := 2 * ((hitsW ws W : Nat) : Int)) (by omega) (by omega), w64 (by omega) (by omega)]
      refine ev_pos (by omega) ?_
      rw [← h13, show (x13 != x13) = false by simp]
      exact hj4
    · intro j hj ih acc ha
      have hjl : j < M.data.toList.length := by rw [data_length]; exact hj
      rw [List.drop_eq_getElem_cons hjl] at ha
      refine Ev.step (fun k => by rw [laws_FnMarked.l2]) (ev_pos (by omega) (ev_pos (by omega) ?_))
      rw [bt_data M j hj, wsucc hj (by omega)]
      simp only [Int.toNat_natCast]
      have one := ext_one M j hj
      generalize M.data.toList[j] = b at ha one
      have hb : b.toNat < 256 := b.toNat_lt
      by_cases c1 : b = 91
      · subst c1
        exact ev_pos (by decide) (ih acc (by simpa [strip] using ha))
      · have n1 : ¬ (b.toNat : Int) = 91 := fun z => c1 (UInt8.toNat_inj.1 (by rw [show b.toNat = 91 by omega]; rfl))
        refine ev_neg n1 ?_
        by_cases c2 : b = 93
        · subst c2
          exact ev_pos (by decide) (ih acc (by simpa [strip] using ha))
        · have n2 : ¬ (b.toNat : Int) = 93 := fun z => c2 (UInt8.toNat_inj.1 (by rw [show b.toNat = 93 by omega]; rfl))
          have hlen : acc.size ≤ s.size := by
            rw [size_data, size_data, ← ha, List.length_append]
            omega
          have z1 : (M.extract j (j + 1)).size = 1 := by rw [ByteArray.size_extract]; omega
          refine ev_neg n2 (ev_pos (by omega) (ev_pos (by omega) (ev_pos (by omega) ?_)))
          refine ih _ ?_
          rw [ByteArray.data_append, Array.toList_append, one]
          rw [← ha]
          simp [strip, c1, c2]
  -- the words
  refine Ev.step (fun k => by rw [laws_FnMarked.j0]) (ev_neg (by simp) ?_)
  have key := idx_ind W (fun i => ∀ t : Nat, t + hitsW ws (W.drop i) = hitsW ws W → Ev (fun k => laws_FnMarked.l0 k s ws M W x12 x13 (t : Int) (i : Int)) true) ?_ ?_ 0 (Nat.zero_le _) 0 (by simp)
  · exact key
  · intro t ht
    rw [List.drop_length, hitsW, Nat.add_zero] at ht
    subst ht
    exact Ev.step (fun k => by rw [laws_FnMarked.l0]) (ev_neg (by omega) l2)
  · intro i hi ih t ht
    rw [drop_at W i hi, hitsW] at ht
    refine Ev.step (fun k => by rw [laws_FnMarked.l0]) (ev_pos (by omega) ?_)
    have k1 := idx_ind ws (fun q => (if hasV (ws.drop q) W[i] = true then 1 else 0) + t + hitsW ws (W.drop (i + 1)) = hitsW ws W → Ev (fun k => laws_FnMarked.l1 k s ws M W x12 x13 (t : Int) (i : Int) (q : Int)) true) ?_ ?_ 0 (Nat.zero_le _) (by rw [List.drop_zero]; omega)
    · exact k1
    · intro hq2
      rw [List.drop_length, show hasV [] W[i] = false from rfl, if_neg (by simp)] at hq2
      refine Ev.step (fun k => by rw [laws_FnMarked.l1]) (ev_neg (by omega) ?_)
      rw [wsucc hi (by omega)]
      exact ih t (by omega)
    · intro q hq2 ihq ht2
      refine Ev.step (fun k => by rw [laws_FnMarked.l1]) (ev_pos (by omega) ?_)
      rw [rdOf_at _ W i hi, rdOf_at _ ws q hq2, wsucc hq2 (by omega), wsucc hi (by omega)]
      refine ev_pos (by omega) (ev_pos (by omega) (ev_pos (by omega) ?_))
      rw [drop_at ws q hq2] at ht2
      by_cases c : W[i].toList = ws[q].toList
      · have : hasV (ws[q] :: ws.drop (q + 1)) W[i] = true := by rw [hasV, List.any_cons, decide_eq_true c.symm, Bool.true_or]
        rw [if_pos this] at ht2
        refine ev_pos c ?_
        have e : wrap64 ((t : Int) + 1) = ((t + 1 : Nat) : Int) := by rw [w64 (by omega) (by omega)]; rfl
        rw [e]
        exact ih (t + 1) (by omega)
      · have : hasV (ws[q] :: ws.drop (q + 1)) W[i] = hasV (ws.drop (q + 1)) W[i] := by
          simp only [hasV, List.any_cons, decide_eq_false (fun z : ws[q].toList = W[i].toList => c z.symm), Bool.false_or]
        rw [this] at ht2
        exact ev_neg c (ihq ht2)
theorem wl_query : ∀ b1 b2 b3 b4 : Bool, queryV (wl b1 b2 b3 b4 ++ [(⟨#[99, 97, 116]⟩ : ByteArray)]) = true ∧ (wl b1 b2 b3 b4).length ≤ 4 ∧ ∀ y ∈ wl b1 b2 b3 b4 ++ [(⟨#[99, 97, 116]⟩ : ByteArray)], y.size ≤ 3 := by decide
theorem FnMarked : laws_FnMarked.Pure := by
  intro l0 l1 _ _ h0 _ _ h1
  refine Ev.rounds ?_
  unfold laws_FnMarked.f
  have u0 : U8s l0 := h0
  have u1 : U8s l1 := h1
  obtain ⟨s, es, os, zs⟩ := drawText u0
  obtain ⟨b1, b2, b3, b4, ew⟩ := drawWords u1
  obtain ⟨wide, hw, w0, w1⟩ := r8At u1 40 12 (by omega)
  have okq := wl_query b1 b2 b3 b4
  obtain ⟨q1, q2, q3⟩ := okq
  generalize hws : wl b1 b2 b3 b4 = ws0 at ew q1 q2 q3
  have ht := okB_betw os s.size 0 (by omega)
  have lg : ∃ b, laws_r8Long.f l0 l1 = some b := by
    unfold laws_r8Long.f
    split
    · exact ⟨_, rfl⟩
    · exact ⟨_, rfl⟩
  obtain ⟨b, hb⟩ := lg
  refine ev_b hb ?_
  cases b
  · refine ev_neg (by simp) (Ev.bind es (Ev.bind ew (ev_pos (by omega) (ev_b rfl (ev_b hw ?_)))))
    have ql : (ws0 ++ [(⟨#[99, 97, 116]⟩ : ByteArray)]).length ≤ 5 := by rw [List.length_append]; simp; omega
    generalize ws0 ++ [(⟨#[99, 97, 116]⟩ : ByteArray)] = ws at q1 q3 ql
    have hf : ∀ y ∈ ws, y.size ≤ 140737488351232 := fun y hy => by have := q3 y hy; omega
    have em := implMark s (by omega) ws (by omega) hf
    have ea : Ev (fun k => impl_WordsOf.f k s) ((runsAll s).map (·.f2), true) := by
      unfold impl_WordsOf.f
      refine Ev.bind (implText s (by omega)) (ev_pos ?_ (Ev.bind (implAll s (by omega)) (Ev.now _)))
      rw [ht, decide_eq_true (show s.size ≤ 80 by omega)]
      rfl
    have en := implSnip s (by omega) ws (by omega) hf wide
    unfold markV at em
    unfold snipV at en
    rw [if_pos ⟨by rw [ht, decide_eq_true (show s.size ≤ 80 by omega)]; rfl, q1⟩] at em
    rw [if_pos ⟨⟨ht, by omega⟩, q1, w0, by have := w1 (by omega); omega⟩] at en
    have mc := markCount s (by omega) os ws (by omega) hf ht q1 wide ⟨w0, by have := w1 (by omega); omega⟩
    exact Ev.bind em (Ev.bind ea (Ev.bind en (ev_pos rfl mc)))
  · exact ev_pos rfl (Ev.now _)

end Go.Proofs.Ytcnhepjdibbkgaa.Pure
