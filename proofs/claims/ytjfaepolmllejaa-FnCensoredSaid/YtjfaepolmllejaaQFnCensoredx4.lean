-- written by a program of this session, on the lines of the kit's print
import Derived.Test.YtjfaepolmllejaaQFnCensoredx0
import Derived.Test.YtjfaepolmllejaaQFnCensoredx1
import Derived.Test.YtjfaepolmllejaaQFnCensoredx2
namespace Go.Proofs.Ytjfaepolmllejaa.QFnCensored
open Go.RowKit Go.Proofs.YtjfaepolmllejaaW.PrintWords Go.Proofs.YtjfaepolmllejaaW.PrintLast Go.Proofs.YtjfaepolmllejaaW.PrintMore
attribute [local go_sem] max2_int min2_int max_two min_two max_three min_three max_four min_four   -- for this text's walks alone
set_option linter.unusedVariables false
set_option linter.unusedSimpArgs false

/-! ### slices_Sort_string_string: function 87 -/
/-- A list of strings, sorted. -/
def slices_Sort_string_string.f (l0 : List ByteArray) : Option (List ByteArray) := if l0.length < 4611686018427387904 then some (((l0.map fun s => s.data.toList).mergeSort fun x y => decide (x ≤ y)).map fun l => (⟨l.toArray⟩ : ByteArray)) else none
theorem slices_Sort_string_string.back {w : World} {e base : Nat} {ok : Nat → Prop} {g n cap : Nat} {l0 : List ByteArray} (h : Kd.R Kd.string e w base ok (.slice (some ⟨g, 0, none⟩) n cap) l0) (m : List (List UInt8)) (hm : m.length = l0.length) (q : Nat) (os : Array Obj) :
    Kd.R Kd.string e (Sort.grow (Sort.putRow encStr (Sort.ahead w q) g 0 m.toArray) os) base ok (.slice (some ⟨g, 0, none⟩) n cap) (m.map fun l => (⟨l.toArray⟩ : ByteArray)) := by
  have hs : (Kd.string : Kd ByteArray).sz = 1 := rfl
  obtain ⟨hok, inner, ⟨hl, hn | ⟨g', cap', cur, hv, hb, hh, hnc, hcm, hcs, ht⟩⟩, hr⟩ := h
  · cases hn.1
  · injection hv with h1 h2 h3
    injection h1 with h1
    injection h1 with h1
    subst h1 h2 h3
    rw [hs, Nat.mul_one] at hl hcs ht
    have hgs : g < w.heap.size := (Array.getElem?_eq_some_iff.1 hh).1
    have hz : (Sort.putCells encStr 0 m.toArray cur).size = cur.size := by simp [Sort.putCells]
    refine ⟨hok, (m.map fun l => Value.string ⟨l.toArray⟩), ⟨by simp [hs], .inr ⟨g, cap, Sort.putCells encStr 0 m.toArray cur, by simp [hm], hb, ?_, by simp; omega, hcm, by rw [hz, hs, Nat.mul_one]; exact hcs, ?_⟩⟩, by simp [hs], ?_⟩
    · show (Array.append (w.heap.modify g (Sort.onCells (Sort.putCells encStr 0 m.toArray))) os)[g]? = _
      rw [show Array.append (w.heap.modify g (Sort.onCells (Sort.putCells encStr 0 m.toArray))) os = w.heap.modify g (Sort.onCells (Sort.putCells encStr 0 m.toArray)) ++ os from rfl, Array.getElem?_append_left (by simpa using hgs), Array.getElem?_modify, if_pos rfl, hh]
      rfl
    · rw [hs, Nat.mul_one, List.length_map]
      apply List.ext_getElem?
      intro j
      by_cases hj : j < m.length
      · have hj2 : j < cur.size := by rw [hcs]; omega
        rw [List.getElem?_take_of_lt hj]
        simp only [Sort.putCells, Array.getElem?_toList, Array.getElem?_mapIdx, Array.getElem?_eq_getElem hj2, Option.map_some, List.size_toArray, Nat.zero_add, Nat.zero_le, true_and, if_pos hj, Nat.sub_zero, List.getElem?_map, List.getElem?_eq_getElem hj]
        rw [getElem!_pos m.toArray j (by simpa using hj)]
        rfl
      · rw [List.getElem?_eq_none (by simp; omega), List.getElem?_eq_none (by simp; omega)]
    · intro j p hp
      rw [List.getElem?_map] at hp
      obtain ⟨x, hx, rfl⟩ := Option.map_eq_some_iff.1 hp
      have hj : j < m.length := (List.getElem?_eq_some_iff.1 hx).1
      show ((List.map (fun l => Value.string ⟨l.toArray⟩) m).drop (j * 1)).take 1 = [Value.string ⟨x.toArray⟩]
      rw [Nat.mul_one, List.drop_eq_getElem_cons (by simpa using hj)]
      have : m[j] = x := by rw [List.getElem?_eq_getElem hj] at hx; exact Option.some.inj hx
      simp [this]
theorem slices_Sort_string_string.holds {w : World} {e base : Nat} {ok : Nat → Prop} {g n cap : Nat} {l0 : List ByteArray} (h : Kd.R Kd.string e w base ok (.slice (some ⟨g, 0, none⟩) n cap) l0) :
    Sort.Holds encStr w g 0 (l0.map fun s => s.data.toList).toArray ∧ g < w.heap.size ∧ n = l0.length ∧ base ≤ g ∧ ok g := by
  have hs : (Kd.string : Kd ByteArray).sz = 1 := rfl
  obtain ⟨hok, inner, ⟨hl, hn | ⟨g', cap', cur, hv, hb, hh, hnc, hcm, hcs, ht⟩⟩, hr⟩ := h
  · cases hn.1
  · injection hv with h1 h2 h3
    injection h1 with h1
    injection h1 with h1
    subst h1 h2 h3
    rw [hs, Nat.mul_one] at hl hcs ht
    refine ⟨fun j hj => ?_, (Array.getElem?_eq_some_iff.1 hh).1, rfl, hb, hok g rfl⟩
    have hj2 : j < l0.length := by simpa using hj
    have hj3 : j < cur.size := by rw [hcs]; omega
    refine ⟨?_, by rw [Nat.zero_add]; exact blk_frozen hh j⟩
    have h1 : ((inner.drop (j * 1)).take 1) = [Value.string l0[j]] := hr.2 j l0[j] (List.getElem?_eq_getElem hj2)
    have h2 : inner[j]? = some (Value.string l0[j]) := by
      have h3 : ((inner.drop (j * 1)).take 1)[0]? = some (Value.string l0[j]) := by rw [h1]; rfl
      simpa using h3
    rw [← ht, List.getElem?_take_of_lt hj2] at h2
    rw [Nat.zero_add, cell_of_row w g j cur e (0, 0) hh]
    rw [getElem!_pos _ j (by simpa using hj2)]
    simpa [encStr] using h2
section
open Go.Shelf
def slices_Sort_string_string.lays_ren : Go.Shelf.Ren := ⟨fun | 190 => 87 | 125 => 106 | 258 => 108 | 128 => 119 | 129 => 120 | 302 => 121 | 303 => 122 | 304 => 123 | 305 => 124 | 306 => 125 | 307 => 126 | 308 => 127 | 309 => 128 | 310 => 129 | 333 => 135 | 329 => 131 | 330 => 132 | 334 => 136 | 335 => 137 | 336 => 138 | 344 => 140 | n => n, fun | 31 => 22 | 9 => 9 | 3 => 3 | 46 => 111 | 0 => 0 | 51 => 123 | 53 => 105 | 4 => 4 | 183 => 116 | 182 => 115 | 131 => 120 | 5 => 5 | 218 => 131 | 222 => 135 | 228 => 139 | 229 => 140 | n => n, fun | n => n⟩
theorem slices_Sort_string_string.lays : Go.Proofs.Lays.n190 Try.prog slices_Sort_string_string.lays_ren := {
  mixed := by kernel_rfl
  f125 := Try.func106.trans (congrArg some (by kernel_rfl))
  f128 := Try.func119.trans (congrArg some (by kernel_rfl))
  f129 := Try.func120.trans (congrArg some (by kernel_rfl))
  f190 := Try.func87.trans (congrArg some (by kernel_rfl))
  f258 := Try.func108.trans (congrArg some (by kernel_rfl))
  f302 := Try.func121.trans (congrArg some (by kernel_rfl))
  f303 := Try.func122.trans (congrArg some (by kernel_rfl))
  f304 := Try.func123.trans (congrArg some (by kernel_rfl))
  f305 := Try.func124.trans (congrArg some (by kernel_rfl))
  f306 := Try.func125.trans (congrArg some (by kernel_rfl))
  f307 := Try.func126.trans (congrArg some (by kernel_rfl))
  f308 := Try.func127.trans (congrArg some (by kernel_rfl))
  f309 := Try.func128.trans (congrArg some (by kernel_rfl))
  f310 := Try.func129.trans (congrArg some (by kernel_rfl))
  f329 := Try.func131.trans (congrArg some (by kernel_rfl))
  f330 := Try.func132.trans (congrArg some (by kernel_rfl))
  f333 := Try.func135.trans (congrArg some (by kernel_rfl))
  f334 := Try.func136.trans (congrArg some (by kernel_rfl))
  f335 := Try.func137.trans (congrArg some (by kernel_rfl))
  f336 := Try.func138.trans (congrArg some (by kernel_rfl))
  f344 := Try.func140.trans (congrArg some (by kernel_rfl))
  t0 := Try.underlying0
  a0 := Try.isAgg0
  z0 := Try.sizeOf0
  v0 := Try.zeroValue0
  t3 := Try.underlying3
  a3 := Try.isAgg3
  z3 := Try.sizeOf3
  v3 := Try.zeroValue3
  t4 := Try.underlying4
  a4 := Try.isAgg4
  z4 := Try.sizeOf4
  v4 := Try.zeroValue4
  t5 := Try.underlying5
  a5 := Try.isAgg5
  z5 := Try.sizeOf5
  v5 := Try.zeroValue5
  t9 := Try.underlying9
  a9 := Try.isAgg9
  z9 := Try.sizeOf9
  v9 := Try.zeroValue9
  t31 := Try.underlying22
  a31 := Try.isAgg22
  z31 := Try.sizeOf22
  v31 := Try.zeroValue22
  t46 := Try.underlying111
  a46 := Try.isAgg111
  z46 := Try.sizeOf111
  v46 := Try.zeroValue111
  t51 := Try.underlying123
  a51 := Try.isAgg123
  z51 := Try.sizeOf123
  v51 := Try.zeroValue123
  t53 := Try.underlying105
  a53 := Try.isAgg105
  z53 := Try.sizeOf105
  v53 := Try.zeroValue105
  t131 := Try.underlying120
  a131 := Try.isAgg120
  z131 := Try.sizeOf120
  v131 := Try.zeroValue120
  t182 := Try.underlying115
  a182 := Try.isAgg115
  z182 := Try.sizeOf115
  v182 := Try.zeroValue115
  t183 := Try.underlying116
  a183 := Try.isAgg116
  z183 := Try.sizeOf116
  v183 := Try.zeroValue116
  t218 := Try.underlying131
  a218 := Try.isAgg131
  z218 := Try.sizeOf131
  v218 := Try.zeroValue131
  t222 := Try.underlying135
  a222 := Try.isAgg135
  z222 := Try.sizeOf135
  v222 := Try.zeroValue135
  t228 := Try.underlying139
  a228 := Try.isAgg139
  z228 := Try.sizeOf139
  v228 := Try.zeroValue139
  t229 := Try.underlying140
  a229 := Try.isAgg140
  z229 := Try.sizeOf140
  v229 := Try.zeroValue140 }
theorem slices_Sort_string_string.calls (P0_ : Nat → Prop) (u9000_ : Value) (l0 : List ByteArray) (r : List ByteArray) (w0 w : World) (hB : Below w0.heap.size w0 w) (ho0 : Kd.R Kd.string 9 w w0.heap.size P0_ u9000_ l0) (h : slices_Sort_string_string.f l0 = some r) :
    Calls Try.prog 87 #[u9000_] w fun e w' => e = .returned (.tuple #[]) ∧ Kd.R Kd.string 9 w' w0.heap.size (fun k_ => (P0_ k_ ∨ w.heap.size ≤ k_)) u9000_ r ∧ Below w0.heap.size w0 w' ∧ Kept w w' (fun k_ => P0_ k_) := by
  unfold slices_Sort_string_string.f at h
  split at h
  · rename_i hl
    obtain rfl := Option.some.inj h
    have hsh : (u9000_ = .slice none 0 0 ∧ l0.length = 0) ∨ ∃ g n cap, u9000_ = .slice (some ⟨g, 0, none⟩) n cap := by
      obtain ⟨_, inner, ⟨_, hn | ⟨g, cap, cur, hv, _⟩⟩, _⟩ := ho0
      · exact .inl hn
      · exact .inr ⟨g, _, cap, hv⟩
    rcases hsh with ⟨rfl, h0⟩ | ⟨g, n, cap, rfl⟩
    · obtain rfl := List.eq_nil_of_length_eq_zero h0
      refine (Any.slices_Sort_string_none slices_Sort_string_string.lays none 0 w).mono ?_
      rintro e w' ⟨rfl, rfl⟩
      exact ⟨rfl, by simpa using Kd.R_nil Kd.string 9 w' w0.heap.size _, hB, Kept.refl _ _⟩
    · obtain ⟨hH, hg, hn, hb, hp⟩ := slices_Sort_string_string.holds ho0
      subst hn
      have hc := Any.slices_Sort_string slices_Sort_string_string.lays g 0 cap (l0.map fun s => s.data.toList) w hH hg (by simpa using hl)
      rw [List.length_map] at hc
      refine hc.mono ?_
      rintro e w' ⟨rfl, q, os, rfl⟩
      have hsz : (Sort.grow (Sort.putRow encStr (Sort.ahead w q) g 0 ((l0.map fun s => s.data.toList).mergeSort fun x y => decide (x ≤ y)).toArray) os).heap.size = w.heap.size + os.size := by simp
      have hbl : ∀ i, i < w.heap.size → i ≠ g → (Sort.grow (Sort.putRow encStr (Sort.ahead w q) g 0 ((l0.map fun s => s.data.toList).mergeSort fun x y => decide (x ≤ y)).toArray) os).heap[i]? = w.heap[i]? := by
        intro i hi hne
        show (w.heap.modify g (Sort.onCells _) ++ os)[i]? = _
        rw [Array.getElem?_append_left (by simpa using hi), Array.getElem?_modify, if_neg (Ne.symm hne)]
      refine ⟨rfl, Kd.R_mono (slices_Sort_string_string.back ho0 _ (by simp) q os) (fun k hk => .inl hk), ⟨hB.1, hB.2, hB.3, by rw [hsz]; have := hB.size; omega, fun i hi => (hbl i (by have := hB.size; omega) (by omega)).trans (hB.block i hi)⟩, by rw [hsz]; omega, fun i hi hn => hbl i hi (fun e => hn (e ▸ hp))⟩
  · cases h
end

/-! ### slices_Compact_string_string: function 88 -/
/-- A list of strings, of equal ones that stand side by side one. -/
def slices_Compact_string_string.f (l0 : List ByteArray) : Option (List ByteArray) := if l0.length ≤ 9223372036854775807 then some ((Lib.compact (l0.map fun s => s.data.toList)).map fun l => (⟨l.toArray⟩ : ByteArray)) else none
theorem slices_Compact_string_string.back {w : World} {e base : Nat} {ok : Nat → Prop} {g n cap : Nat} {l0 : List ByteArray} (h : Kd.R Kd.string e w base ok (.slice (some ⟨g, 0, none⟩) n cap) l0) (m rest : List (List UInt8)) (hm : (m ++ rest).length = l0.length) (q : Nat) :
    Kd.R Kd.string e (Sort.putRow encStr (Sort.ahead w q) g 0 (m ++ rest).toArray) base ok (.slice (some ⟨g, 0, none⟩) m.length cap) (m.map fun l => (⟨l.toArray⟩ : ByteArray)) := by
  have hs : (Kd.string : Kd ByteArray).sz = 1 := rfl
  obtain ⟨hok, inner, ⟨hl, hn | ⟨g', cap', cur, hv, hb, hh, hnc, hcm, hcs, ht⟩⟩, hr⟩ := h
  · cases hn.1
  · injection hv with h1 h2 h3
    injection h1 with h1
    injection h1 with h1
    subst h1 h2 h3
    rw [hs, Nat.mul_one] at hl hcs ht
    have hgs : g < w.heap.size := (Array.getElem?_eq_some_iff.1 hh).1
    have hz : (Sort.putCells encStr 0 (m ++ rest).toArray cur).size = cur.size := by simp [Sort.putCells]
    refine ⟨hok, (m.map fun l => Value.string ⟨l.toArray⟩), ⟨by simp [hs], .inr ⟨g, cap, Sort.putCells encStr 0 (m ++ rest).toArray cur, by simp, hb, ?_, by simp; rw [List.length_append] at hm; omega, hcm, by rw [hz, hs, Nat.mul_one]; exact hcs, ?_⟩⟩, by simp [hs], ?_⟩
    · show (w.heap.modify g (Sort.onCells (Sort.putCells encStr 0 (m ++ rest).toArray)))[g]? = _
      rw [Array.getElem?_modify, if_pos rfl, hh]
      rfl
    · rw [hs, Nat.mul_one, List.length_map]
      apply List.ext_getElem?
      intro j
      by_cases hj : j < m.length
      · have hj2 : j < cur.size := by rw [List.length_append] at hm; rw [hcs]; omega
        have hj3 : j < (m ++ rest).length := by rw [List.length_append]; omega
        rw [List.getElem?_take_of_lt hj]
        simp only [Sort.putCells, Array.getElem?_toList, Array.getElem?_mapIdx, Array.getElem?_eq_getElem hj2, Option.map_some, List.size_toArray, Nat.zero_add, Nat.zero_le, true_and, if_pos hj3, Nat.sub_zero, List.getElem?_map, List.getElem?_eq_getElem hj]
        rw [getElem!_pos (m ++ rest).toArray j (by simpa using hj3)]
        simp [encStr, List.getElem_append_left hj]
      · rw [List.getElem?_eq_none (by simp; omega), List.getElem?_eq_none (by simp; omega)]
    · intro j p hp
      rw [List.getElem?_map] at hp
      obtain ⟨x, hx, rfl⟩ := Option.map_eq_some_iff.1 hp
      have hj : j < m.length := (List.getElem?_eq_some_iff.1 hx).1
      show ((List.map (fun l => Value.string ⟨l.toArray⟩) m).drop (j * 1)).take 1 = [Value.string ⟨x.toArray⟩]
      rw [Nat.mul_one, List.drop_eq_getElem_cons (by simpa using hj)]
      have : m[j] = x := by rw [List.getElem?_eq_getElem hj] at hx; exact Option.some.inj hx
      simp [this]
theorem slices_Compact_string_string.holds {w : World} {e base : Nat} {ok : Nat → Prop} {g n cap : Nat} {l0 : List ByteArray} (h : Kd.R Kd.string e w base ok (.slice (some ⟨g, 0, none⟩) n cap) l0) :
    Sort.Holds encStr w g 0 (l0.map fun s => s.data.toList).toArray ∧ g < w.heap.size ∧ n = l0.length ∧ base ≤ g ∧ ok g := by
  have hs : (Kd.string : Kd ByteArray).sz = 1 := rfl
  obtain ⟨hok, inner, ⟨hl, hn | ⟨g', cap', cur, hv, hb, hh, hnc, hcm, hcs, ht⟩⟩, hr⟩ := h
  · cases hn.1
  · injection hv with h1 h2 h3
    injection h1 with h1
    injection h1 with h1
    subst h1 h2 h3
    rw [hs, Nat.mul_one] at hl hcs ht
    refine ⟨fun j hj => ?_, (Array.getElem?_eq_some_iff.1 hh).1, rfl, hb, hok g rfl⟩
    have hj2 : j < l0.length := by simpa using hj
    have hj3 : j < cur.size := by rw [hcs]; omega
    refine ⟨?_, by rw [Nat.zero_add]; exact blk_frozen hh j⟩
    have h1 : ((inner.drop (j * 1)).take 1) = [Value.string l0[j]] := hr.2 j l0[j] (List.getElem?_eq_getElem hj2)
    have h2 : inner[j]? = some (Value.string l0[j]) := by
      have h3 : ((inner.drop (j * 1)).take 1)[0]? = some (Value.string l0[j]) := by rw [h1]; rfl
      simpa using h3
    rw [← ht, List.getElem?_take_of_lt hj2] at h2
    rw [Nat.zero_add, cell_of_row w g j cur e (0, 0) hh]
    rw [getElem!_pos _ j (by simpa using hj2)]
    simpa [encStr] using h2
theorem slices_Compact_string_string.le (zs : List (List UInt8)) : (Lib.compact zs).length ≤ zs.length := by
  unfold Lib.compact Lib.compactUpTo
  rw [List.length_map]
  exact Nat.le_trans (List.length_filter_le _ _) (by simp)
section
open Go.Shelf
def slices_Compact_string_string.lays_ren : Go.Shelf.Ren := ⟨fun | 194 => 88 | n => n, fun | 31 => 22 | 9 => 9 | 3 => 3 | 4 => 4 | 0 => 0 | n => n, fun | n => n⟩
theorem slices_Compact_string_string.lays : Go.Proofs.Lays.n194 Try.prog slices_Compact_string_string.lays_ren := {
  mixed := by kernel_rfl
  f194 := Try.func88.trans (congrArg some (by kernel_rfl))
  t0 := Try.underlying0
  a0 := Try.isAgg0
  z0 := Try.sizeOf0
  v0 := Try.zeroValue0
  t3 := Try.underlying3
  a3 := Try.isAgg3
  z3 := Try.sizeOf3
  v3 := Try.zeroValue3
  t4 := Try.underlying4
  a4 := Try.isAgg4
  z4 := Try.sizeOf4
  v4 := Try.zeroValue4
  t9 := Try.underlying9
  a9 := Try.isAgg9
  z9 := Try.sizeOf9
  v9 := Try.zeroValue9
  t31 := Try.underlying22
  a31 := Try.isAgg22
  z31 := Try.sizeOf22
  v31 := Try.zeroValue22 }
theorem slices_Compact_string_string.calls (P0_ : Nat → Prop) (u9000_ : Value) (l0 : List ByteArray) (r : List ByteArray) (w0 w : World) (hB : Below w0.heap.size w0 w) (ho0 : Kd.R Kd.string 9 w w0.heap.size P0_ u9000_ l0) (h : slices_Compact_string_string.f l0 = some r) :
    Calls Try.prog 88 #[u9000_] w fun e w' => ∃ v0_ : Value, e = .returned (v0_) ∧ Kd.R Kd.string 9 w' w0.heap.size (fun k_ => (P0_ k_ ∨ w.heap.size ≤ k_)) v0_ r ∧ Below w0.heap.size w0 w' ∧ Kept w w' (fun k_ => P0_ k_) := by
  unfold slices_Compact_string_string.f at h
  split at h
  · rename_i hl
    obtain rfl := Option.some.inj h
    have hsh : (u9000_ = .slice none 0 0 ∧ l0.length = 0) ∨ ∃ g n cap, u9000_ = .slice (some ⟨g, 0, none⟩) n cap ∧ n ≤ cap := by
      obtain ⟨_, inner, ⟨_, hn | ⟨g, cap, cur, hv, _, _, hc, _⟩⟩, _⟩ := ho0
      · exact .inl hn
      · exact .inr ⟨g, _, cap, hv, hc⟩
    rcases hsh with ⟨rfl, h0⟩ | ⟨g, n, cap, rfl, hcap⟩
    · obtain rfl := List.eq_nil_of_length_eq_zero h0
      refine (Any.slices_Compact_string_empty slices_Compact_string_string.lays none 0 w).mono ?_
      rintro e w' ⟨rfl, rfl⟩
      exact ⟨_, rfl, Kd.R_nil Kd.string 9 w' w0.heap.size _, hB, Kept.refl _ _⟩
    · obtain ⟨hH, hg, hn, hb, hp⟩ := slices_Compact_string_string.holds ho0
      subst hn
      have hc := Any.slices_Compact_string slices_Compact_string_string.lays g 0 cap (l0.map fun s => s.data.toList) w hH (by simpa using hl) (by simpa using hcap)
      have hle := slices_Compact_string_string.le (l0.map fun s => s.data.toList)
      rw [List.length_map] at hc hle
      refine hc.mono ?_
      rintro e w' ⟨rfl, q, rfl⟩
      have hbl : ∀ i, i < w.heap.size → i ≠ g → (Sort.putRow encStr (Sort.ahead w q) g 0 (Lib.compact (l0.map fun s : ByteArray => s.data.toList) ++ List.replicate (l0.length - (Lib.compact (l0.map fun s : ByteArray => s.data.toList)).length) []).toArray).heap[i]? = w.heap[i]? := by
        intro i hi hne
        show (w.heap.modify g (Sort.onCells _))[i]? = _
        rw [Array.getElem?_modify, if_neg (Ne.symm hne)]
      refine ⟨_, rfl, Kd.R_mono (slices_Compact_string_string.back ho0 _ _ (by rw [List.length_append, List.length_replicate]; omega) q) (fun k hk => .inl hk), ⟨hB.1, hB.2, hB.3, by simpa using hB.size, fun i hi => (hbl i (by have := hB.size; omega) (by omega)).trans (hB.block i hi)⟩, by simp, fun i hi hn => hbl i hi (fun e => hn (e ▸ hp))⟩
  · cases h
end

/-! ### impl_BadWordsIn: function 47 -/
abbrev impl_BadWordsIn.T : Bool := true
abbrev impl_BadWordsIn.F : Bool := false
theorem impl_BadWordsIn.s1_ {P : Prop} (h : P := by first | rfl | (simp; done) | (simp [*]; done)) : P := h
theorem impl_BadWordsIn.s2_ {P : Prop} (h : P := by kernel_rfl) : P := h
theorem impl_BadWordsIn.s3_ {P : Prop} (h : P := by (try simp only [List.map_toArray, List.map_cons, List.map_nil]); first | done | rfl | (simp only [List.length_drop, List.length_take]; rfl)) : P := h
theorem impl_BadWordsIn.b2_ {P Q : Prop} (q : Q) (h : Q → P := by intro q_; (with_reducible repeat (first | apply Kd.R_alloc | apply Kd.R_drewN | apply Kd.R_drew)); exact q_) : P := h q
theorem impl_BadWordsIn.y1_ {P Q : Prop} (q : Q) (h : Q → P := by intro q_; repeat (first | (with_reducible first | exact q_ | apply below_alloc | apply pw_below_drewN | apply below_drew1) | exact q_)) : P := h q
theorem impl_BadWordsIn.b6_ {w w' W : World} {k : Nat} (hg : k = W.heap.size) (q : Aside0 (Below w.heap.size w w')) (h : Below w.heap.size w w' → Below w.heap.size w W := by intro q_; repeat (first | (with_reducible first | exact q_ | apply below_alloc | apply pw_below_drewN | apply below_drew1) | exact q_)) : Aside0 (w.heap.size ≤ k) := ⟨by rw [hg]; exact below_size (h q.out)⟩
theorem impl_BadWordsIn.c1_ {w : World} {g : Nat} {t : TypeId} {cs : Array Value} (q : Aside0 (w.heap[g]? = some (.cells cs t (0, 0)))) (i : Nat) (v : Value) (h : cs[i]? = some v := by rfl) : w.cell? ⟨g, i, none⟩ = some v := (blk_cell q.out i).trans h
theorem impl_BadWordsIn.f1_ {w : World} {g : Nat} {t : TypeId} {cs : Array Value} (q : Aside0 (w.heap[g]? = some (.cells cs t (0, 0)))) (i : Nat) : w.frozen? ⟨g, i, none⟩ = false := blk_frozen q.out i
theorem impl_BadWordsIn.r1_ {α : Type} {d : Kd α} {e base : Nat} {ok : Nat → Prop} {v : Value} {xs : List α} {w W w1 : World} (q : Aside0 (d.R e w base ok v xs)) (hb : Below W.heap.size W w1) (h : d.R e w base ok v xs → d.R e W base ok v xs := by intro q_; (with_reducible repeat (first | apply Kd.R_alloc | apply Kd.R_drewN | apply Kd.R_drew)); exact q_) : Aside0 (d.R e w1 base ok v xs) := ⟨Kd.R_below (h q.out) hb⟩
def impl_BadWordsIn.l0 : Nat → List ByteArray → List ByteArray → List (S87) → Int → Int → Option (List ByteArray × Bool)
  | 0, _, _, _, _, _ => none
  | k + 1, x1, x6, x15, x16, x17 => if x17 < x16 then (if 0 ≤ x17 then (if x17 < (x15.length : Int) then ((slices_Contains_string_string.f k x1 ((rd_T87 x15 x17).f2)).bind fun t336 => (if t336 = true then (if x6.length < 8796093022208 then (impl_BadWordsIn.l0 k x1 (x6 ++ [(rd_T87 x15 x17).f2]) x15 x16 (wrap64 (x17 + 1))) else (none)) else (impl_BadWordsIn.l0 k x1 x6 x15 x16 (wrap64 (x17 + 1))))) else (none)) else (none)) else ((slices_Sort_string_string.f x6).bind fun t340 => ((slices_Compact_string_string.f t340).bind fun t341 => (some (t341, true))))
def impl_BadWordsIn.f (k : Nat) (a0 : ByteArray) (l1 : List ByteArray) : Option (List ByteArray × Bool) := (impl_badOk.f k a0 l1).bind fun t327 => (if t327 = true then ((impl_runsOf.f k a0).bind fun t331 => (impl_BadWordsIn.l0 k l1 (([] : List ByteArray)) t331 (t331.length : Int) 0)) else (some (([] : List ByteArray), false)))
theorem impl_BadWordsIn.mono_l : ∀ k, (∀ y0 y1 y2 y3 y4, LeO (impl_BadWordsIn.l0 k y0 y1 y2 y3 y4) (impl_BadWordsIn.l0 (k + 1) y0 y1 y2 y3 y4))
  | 0 => fun _ _ _ _ _ r h => by simp [impl_BadWordsIn.l0] at h
  | k + 1 => by
    have ih0 := impl_BadWordsIn.mono_l k
    · intro y0 y1 y2 y3 y4
      unfold impl_BadWordsIn.l0
      repeat' first
      | (with_reducible exact ih0 _ _ _ _ _)
      | (with_reducible exact impl_badOk.mono _ _ _)
      | (with_reducible exact impl_runsOf.mono _ _)
      | (with_reducible exact slices_Contains_string_string.mono _ _ _)
      | (with_reducible exact LeO.refl _)
      | (with_reducible exact LeO.none _)
      | (with_reducible refine LeO.ite ?_ ?_)
      | (with_reducible refine LeO.bind ?_ (fun _ => ?_))
      | exact ih0 _ _ _ _ _
      | exact impl_badOk.mono _ _ _
      | exact impl_runsOf.mono _ _
      | exact slices_Contains_string_string.mono _ _ _
      | exact LeO.none _
      | refine LeO.ite ?_ ?_
      | refine LeO.bind ?_ (fun _ => ?_)
theorem impl_BadWordsIn.mono : ∀ a0 a1 k, LeO (impl_BadWordsIn.f k a0 a1) (impl_BadWordsIn.f (k + 1) a0 a1) := by
  intro a0 a1 k
  have ih0 := impl_BadWordsIn.mono_l k
  unfold impl_BadWordsIn.f
  repeat' first
      | (with_reducible exact ih0 _ _ _ _ _)
      | (with_reducible exact impl_badOk.mono _ _ _)
      | (with_reducible exact impl_runsOf.mono _ _)
      | (with_reducible exact slices_Contains_string_string.mono _ _ _)
      | (with_reducible exact LeO.refl _)
      | (with_reducible exact LeO.none _)
      | (with_reducible refine LeO.ite ?_ ?_)
      | (with_reducible refine LeO.bind ?_ (fun _ => ?_))
      | exact ih0 _ _ _ _ _
      | exact impl_badOk.mono _ _ _
      | exact impl_runsOf.mono _ _
      | exact slices_Contains_string_string.mono _ _ _
      | exact LeO.none _
      | refine LeO.ite ?_ ?_
      | refine LeO.bind ?_ (fun _ => ?_)
set_option maxHeartbeats 8000000 in
set_option maxRecDepth 100000 in
theorem impl_BadWordsIn.calls (k : Nat) (a0 : ByteArray) (A1 : Option Addr) (c1 : Nat) (l1 : List ByteArray) (r1 : List ByteArray) (r2 : Bool) (w : World) (hr1 : Kd.C Kd.string w A1 l1.length l1) (hc1 : l1.length ≤ c1) (h : impl_BadWordsIn.f k a0 l1 = some (r1, r2)) :
    Calls Try.prog 47 #[.string a0, .slice A1 l1.length c1] w fun e w' => ∃ v0_ : Value, e = .returned (.tuple #[v0_, .bool r2]) ∧ Kd.R Kd.string 9 w' w.heap.size (fun _ => True) v0_ r1 ∧ Below w.heap.size w w' := by
 have hu87 := Try.underlying87
 have HR1 := Aside0.mk hr1
 have HC1 := Aside0.mk hc1
 clear hr1 hc1
 have HB := Aside0.mk (Below.refl w.heap.size w)
 have H : ((impl_badOk.f k a0 l1).bind fun t327 => (if t327 = true then ((impl_runsOf.f k a0).bind fun t331 => (impl_BadWordsIn.l0 k l1 (([] : List ByteArray)) t331 (t331.length : Int) 0)) else (some (([] : List ByteArray), false)))) = some (r1, r2) := h
 clear h
 replace H := Option.bind_eq_some_iff.mp H
 obtain ⟨t327, A30, H⟩ := H
 replace H : (if t327 = true then ((impl_runsOf.f k a0).bind fun t331 => (impl_BadWordsIn.l0 k l1 (([] : List ByteArray)) t331 (t331.length : Int) 0)) else (some (([] : List ByteArray), false))) = some (r1, r2) := H
 have A3 := Aside0.mk A30
 clear A30
 by_cases c4 : t327 = true
 {
 subst c4
 have H1 : ((impl_runsOf.f k a0).bind fun t331 => (impl_BadWordsIn.l0 k l1 (([] : List ByteArray)) t331 (t331.length : Int) 0)) = some (r1, r2) := by rw [if_pos rfl] at H; exact H
 clear H
 have H := H1
 clear H1
 obtain ⟨y328, hy328⟩ : ∃ y_ : List ByteArray, y_ = (([] : List ByteArray)) := ⟨_, rfl⟩
 replace H : ((impl_runsOf.f k a0).bind fun t331 => (impl_BadWordsIn.l0 k l1 y328 t331 (t331.length : Int) 0)) = some (r1, r2) := by first | (rw [hy328]; with_reducible exact H) | (have H2_ := (Option.bind_some _ _).symm.trans H; rw [hy328]; with_reducible exact H2_) | (have H2_ := (Option.bind_some _ _).symm.trans H; with_reducible exact H2_) | with_reducible exact H | (rw [hy328]; exact H) | exact H
 have Ny328 := Aside0.mk hy328
 clear hy328
 replace H := Option.bind_eq_some_iff.mp H
 obtain ⟨t331, A50, H⟩ := H
 replace H : (impl_BadWordsIn.l0 k l1 y328 t331 (t331.length : Int) 0) = some (r1, r2) := H
 have A5 := Aside0.mk A50
 clear A50
 have H' := Aside0.mk H
 clear H
 go_enter Try.func47, Try.ntmps47
 go_wp2_with (first | ((with_reducible refine gate_callee (f := 74) rfl ?_); refine goesL_ (some 11) rfl rfl Try.func74 s2_ rfl #[.string a0, .slice A1 l1.length c1] rfl s3_ ?_; (with_reducible refine (impl_badOk.calls k a0 _ _ l1 true _ ?side1 ?side2 A3.out).mono ?_); (case side1 => repeat (first | exact HR1.out | (with_reducible refine Kd.C_alloc ?_ _) | (with_reducible refine Kd.C_drewN ?_ _) | (with_reducible refine Kd.C_drew ?_))); (case side2 => exact HC1.out); rintro e w' ⟨rfl, ⟨nd, rfl⟩⟩; refine ⟨_, rfl, ?_⟩) | ((with_reducible refine gate_dst (N := 13) rfl ?_); refine Kd.R_lit Kd.string _ 9 ?hg (N := 13) ?hd (xs := ([] : List ByteArray)) (inner := []) (ok := fun _ => True) (okp := fun _ => True) ?hr ?hp (fun _ hk => hk) trivial (Below.refl _ _) (Nat.le_refl _) (by simp) ?_; (case hd => rfl); (case hg => rfl); (case hr => first | (go_simp; done) | (go_simp; rfl)); (case hp => exact (Reps.none _ _)); intro v329 w6 ho7 hb hg_ hnew_; clear hg_ hnew_; (first | rw [← Ny328.out] at ho7 | (simp only [Int.reduceToNat] at ho7; rw [← Ny328.out] at ho7)); have HO330 := Aside0.mk (Kd.R_lower ho7 (below_size (y1_ HB.out))); replace HB := Aside0.mk (below_step (y1_ HB.out) hb); clear hb ho7) | ((with_reducible refine gate_callee (f := 75) rfl ?_); refine goesL_ (some 15) rfl rfl Try.func75 s2_ rfl #[.string a0] rfl s3_ ?_; (with_reducible refine (impl_runsOf.calls k a0 t331 _ A5.out).mono ?_); rintro e w8 ⟨v332, rfl, ho0, hb⟩; refine ⟨_, rfl, ?_⟩; replace HO330 := r1_ HO330 hb; have HO333 := Aside0.mk (Kd.R_lower ho0 (below_size (y1_ HB.out))); replace HB := Aside0.mk (below_step (y1_ HB.out) hb); (try clear hb); (try clear hb2); (try clear hk); (try clear hi); (try clear ho0); obtain ⟨Ao9, co9, eo9⟩ := Kd.R_slice HO333.out; subst eo9))
 go_loopg [6, 17] k (fun kq v6 v17 w' => ∃ (x6_1 : List ByteArray) (x17_1 : Int), v17 = .int .i64 x17_1 ∧ Aside0 (impl_BadWordsIn.l0 kq l1 x6_1 t331 (t331.length : Int) x17_1 = some (r1, r2)) ∧ Aside0 (kq ≤ k) ∧ Aside0 (Kd.R Kd.string 9 w' w.heap.size (fun _ => True) v6 x6_1) ∧ Aside0 (Kd.R k87 87 w' w.heap.size (fun _ => True) (.slice Ao9 t331.length co9) t331) ∧ Aside0 (Below w.heap.size w w'))
 case atStart => exact ⟨(y328), (0), s1_, H', ⟨Nat.le_refl _⟩, ⟨b2_ HO330.out⟩, ⟨b2_ HO333.out⟩, ⟨by repeat (first | (with_reducible first | exact HB.out | apply below_alloc | apply pw_below_drewN | apply below_drew1) | exact HB.out)⟩⟩
 case round =>
  skip
  {
 clear H'
 try clear c1
 try clear p2
 try clear c4
 try clear c7
 obtain ⟨x6_1, x17_1, rfl, HA, HK1, HO_6, HO_15, HB⟩ := hrel
 cases gk with
 | zero => exact absurd HA.out (by simp [impl_BadWordsIn.l0])
 | succ k1 =>
  skip
  {
 have H := HA.out
 clear HA
 simp only [impl_BadWordsIn.l0] at H
 by_cases c10 : x17_1 < (t331.length : Int)
 {
 rw [if_pos c10] at H
 have c10b0 : decide (x17_1 < (t331.length : Int)) = true := decide_eq_true c10
 clear c10
 by_cases c11 : 0 ≤ x17_1
 {
 rw [if_pos c11] at H
 have c11b0 : decide (0 ≤ x17_1) = true := decide_eq_true c11
 clear c11
 by_cases c12 : x17_1 < (t331.length : Int)
 {
 rw [if_pos c12] at H
 have c12b0 : decide (x17_1 < (t331.length : Int)) = true := decide_eq_true c12
 clear c12
 replace H := Option.bind_eq_some_iff.mp H
 obtain ⟨t336, A130, H⟩ := H
 replace H : (if t336 = true then (if x6_1.length < 8796093022208 then (impl_BadWordsIn.l0 k1 l1 (x6_1 ++ [(rd_T87 t331 x17_1).f2]) t331 (t331.length : Int) (wrap64 (x17_1 + 1))) else (none)) else (impl_BadWordsIn.l0 k1 l1 x6_1 t331 (t331.length : Int) (wrap64 (x17_1 + 1)))) = some (r1, r2) := H
 have A13 := Aside0.mk A130
 clear A130
 by_cases c14 : t336 = true
 {
 subst c14
 have H1 : (if x6_1.length < 8796093022208 then (impl_BadWordsIn.l0 k1 l1 (x6_1 ++ [(rd_T87 t331 x17_1).f2]) t331 (t331.length : Int) (wrap64 (x17_1 + 1))) else (none)) = some (r1, r2) := by rw [if_pos rfl] at H; exact H
 clear H
 have H := H1
 clear H1
 by_cases c15 : x6_1.length < 8796093022208
 {
 rw [if_pos c15] at H
 have LMc15 := Aside0.mk c15
 clear c15
 obtain ⟨y337, hy337⟩ : ∃ y_ : List ByteArray, y_ = (x6_1 ++ [(rd_T87 t331 x17_1).f2]) := ⟨_, rfl⟩
 replace H : (impl_BadWordsIn.l0 k1 l1 y337 t331 (t331.length : Int) (wrap64 (x17_1 + 1))) = some (r1, r2) := by first | (rw [hy337]; with_reducible exact H) | (have H2_ := (Option.bind_some _ _).symm.trans H; rw [hy337]; with_reducible exact H2_) | (have H2_ := (Option.bind_some _ _).symm.trans H; with_reducible exact H2_) | with_reducible exact H | (rw [hy337]; exact H) | exact H
 have Ny337 := Aside0.mk hy337
 clear hy337
 have H' := Aside0.mk H
 clear H
 have p334 : 0 ≤ (x17_1 : Int) := of_decide_eq_true (by first | (with_reducible assumption) | assumption)
 have q334 : x17_1 < (t331.length : Int) := of_decide_eq_true (by first | (with_reducible assumption) | assumption)
 obtain ⟨ad334, e334, hx334_0, hx334_1, hx334_2⟩ := at_T87 (Kd.R_reads' HO_15.out).2.2 x17_1 p334 q334
 cases e334
 replace p334 := eq_true p334
 replace q334 := eq_true q334
 go_wp2_with (first | ((with_reducible refine gate_dst (N := 8) rfl ?_); refine box_event ?hg (N := 8) ?hd (cs := #[.int .i64 0, .int .i64 0, .string (⟨#[]⟩ : ByteArray)]) (t := 87) ?hr ?_; (case hd => rfl); (case hg => rfl); (case hr => first | (go_simp; done) | (go_simp; rfl)); intro gb335 hg w16 hbox hb; have GW335 := b6_ hg HB; have GE335 := b6_ hg HB; replace HO_6 := r1_ HO_6 hb; replace HO_15 := Aside0.mk (Kd.R_below (Kd.R_elderB (b2_ HO_15.out) gb335 (Nat.le_of_eq hg.symm)) hb); replace HB := Aside0.mk (below_step (y1_ HB.out) hb); have BK335 := Aside0.mk (hbox); clear hb hbox hg; have hcz17_0 := c1_ BK335 0 (.int .i64 0); have hcz17_1 := c1_ BK335 1 (.int .i64 0); have hcz17_2 := c1_ BK335 2 (.string (⟨#[]⟩ : ByteArray)); have hfz17_0 := f1_ BK335 0; have hfz17_1 := f1_ BK335 1; have hfz17_2 := f1_ BK335 2) | ((with_reducible refine gate_callee (f := 76) rfl ?_); refine goesL_ (some 24) rfl rfl Try.func76 s2_ rfl #[.slice A1 l1.length c1, .string ((rd_T87 t331 x17_1).f2)] rfl s3_ ?_; (with_reducible refine (slices_Contains_string_string.calls k1 _ _ l1 ((rd_T87 t331 x17_1).f2) true _ ?side1 ?side2 A13.out).mono ?_); (case side1 => exact Kd.C_below HR1.out (by repeat (first | (with_reducible first | exact HB.out | apply below_alloc | apply pw_below_drewN | apply below_drew1 | refine below_set ?_ GE335.out) | exact HB.out))); (case side2 => exact HC1.out); rintro e w' ⟨rfl, ⟨nd, rfl⟩⟩; refine ⟨_, rfl, ?_⟩) | ((with_reducible refine gate_builtin (b := .append) (xs := #[.tmp 25, .tmp 28]) rfl ?_); at_builtin; refine Kd.R_append Kd.string (w0 := w) w.heap.size rfl (.tmp 25) (.tmp 28) 22 9 (.string ⟨#[]⟩) 16 rfl Try.underlying22 info9 rfl (by decide) (by omega) u6 x6_1 ((rd_T87 t331 x17_1).f2) [.string ((rd_T87 t331 x17_1).f2)] (fun _ => True) (fun _ => False) rfl (by first | (go_simp; done) | (go_simp; rfl)) ?aP (fun _ hk => hk.elim) ?aF ?aO ?aB ?aS ?aL ?_; (case aP => exact rfl); (case aB => exact (by repeat (first | (with_reducible first | exact HB.out | apply below_alloc | apply pw_below_drewN | apply below_drew1 | refine below_set ?_ GE335.out) | exact HB.out))); (case aF => exact (fun _ _ => trivial)); (case aO => exact (by (with_reducible repeat (first | apply Kd.R_alloc | apply Kd.R_drewN | apply Kd.R_drew)); exact Kd.R_mono (Kd.R_far3 (g := gb335) (Kd.R_types HO_6.out BK335.out (by decide)) (fun _ hk => hk.2)) (fun _ hk => trivial))); (case aS => exact (below_size (by repeat (first | (with_reducible first | exact HB.out | apply below_alloc | apply pw_below_drewN | apply below_drew1 | refine below_set ?_ GE335.out) | exact HB.out)))); (case aL => have := LMc15.out; omega); intro v338 w18 ho hb hg hat; rw [← Ny337.out] at ho; replace HO_15 := Aside0.mk (Kd.R_over' (by (with_reducible repeat (first | apply Kd.R_alloc | apply Kd.R_drewN | apply Kd.R_drew)); exact (Kd.R_mono (Kd.R_far3 (g := gb335) (Kd.R_mono HO_15.out (fun k_ hk => (⟨hk, hk.2⟩ : _ ∧ k_ ≠ gb335))) (fun _ hk => hk.2)) (fun _ h_ => h_.1))) (Kd.R_typed (by (with_reducible repeat (first | apply Kd.R_alloc | apply Kd.R_drewN | apply Kd.R_drew)); exact (Kd.R_mono (Kd.R_far3 (g := gb335) (Kd.R_types HO_6.out BK335.out (by decide)) (fun _ hk => hk.2)) (fun _ h_ => h_.1)))) (by decide) hg); replace BK335 := Aside0.mk (blk_grown (g := gb335) (o := .cells #[.int .i64 ((rd_T87 t331 x17_1).f0), .int .i64 ((rd_T87 t331 x17_1).f1), .string ((rd_T87 t331 x17_1).f2)] 87 (0, 0)) (by (with_reducible repeat (first | refine blk_drewN ?_ _ | refine blk_drew ?_ | refine blk_alloc ?_ _)); refine blk_put3 (cs := #[.int .i64 0, .int .i64 0, .string (⟨#[]⟩ : ByteArray)]) ?_ rfl; (with_reducible repeat (first | refine blk_drewN ?_ _ | refine blk_drew ?_ | refine blk_alloc ?_ _)); exact BK335.out) hg (Kd.R_ne HO_6.out BK335.out (by decide))); replace HB := Aside0.mk (hb); have HO339 := Aside0.mk (ho); clear HO_6; clear ho hb hg hat))
 go_roundg k1
 case measure => have := HK1.out; omega
 case rel => exact ⟨(y337), (wrap64 (x17_1 + 1)), s1_, H', ⟨by have := HK1.out; omega⟩, ⟨b2_ HO339.out⟩, ⟨by (with_reducible repeat (first | apply Kd.R_alloc | apply Kd.R_drewN | apply Kd.R_drew)); exact Kd.R_mono HO_15.out (fun _ hk => trivial)⟩, ⟨by repeat (first | (with_reducible first | exact HB.out | apply below_alloc | apply pw_below_drewN | apply below_drew1) | exact HB.out)⟩⟩}
 {
 rw [if_neg c15] at H
 exact absurd H (by simp)}}
 {
 replace c14 := Bool.eq_false_iff.mpr c14
 subst c14
 have H1 : (impl_BadWordsIn.l0 k1 l1 x6_1 t331 (t331.length : Int) (wrap64 (x17_1 + 1))) = some (r1, r2) := by rw [if_neg (show ¬ (false = true) by decide)] at H; exact H
 clear H
 have H := H1
 clear H1
 have H' := Aside0.mk H
 clear H
 have p334 : 0 ≤ (x17_1 : Int) := of_decide_eq_true (by first | (with_reducible assumption) | assumption)
 have q334 : x17_1 < (t331.length : Int) := of_decide_eq_true (by first | (with_reducible assumption) | assumption)
 obtain ⟨ad334, e334, hx334_0, hx334_1, hx334_2⟩ := at_T87 (Kd.R_reads' HO_15.out).2.2 x17_1 p334 q334
 cases e334
 replace p334 := eq_true p334
 replace q334 := eq_true q334
 go_wp2_with (first | ((with_reducible refine gate_dst (N := 8) rfl ?_); refine box_event ?hg (N := 8) ?hd (cs := #[.int .i64 0, .int .i64 0, .string (⟨#[]⟩ : ByteArray)]) (t := 87) ?hr ?_; (case hd => rfl); (case hg => rfl); (case hr => first | (go_simp; done) | (go_simp; rfl)); intro gb335 hg w19 hbox hb; have GW335 := b6_ hg HB; have GE335 := b6_ hg HB; replace HO_6 := r1_ HO_6 hb; replace HO_15 := Aside0.mk (Kd.R_below (Kd.R_elderB (b2_ HO_15.out) gb335 (Nat.le_of_eq hg.symm)) hb); replace HB := Aside0.mk (below_step (y1_ HB.out) hb); have BK335 := Aside0.mk (hbox); clear hb hbox hg; have hcz20_0 := c1_ BK335 0 (.int .i64 0); have hcz20_1 := c1_ BK335 1 (.int .i64 0); have hcz20_2 := c1_ BK335 2 (.string (⟨#[]⟩ : ByteArray)); have hfz20_0 := f1_ BK335 0; have hfz20_1 := f1_ BK335 1; have hfz20_2 := f1_ BK335 2) | ((with_reducible refine gate_callee (f := 76) rfl ?_); refine goesL_ (some 24) rfl rfl Try.func76 s2_ rfl #[.slice A1 l1.length c1, .string ((rd_T87 t331 x17_1).f2)] rfl s3_ ?_; (with_reducible refine (slices_Contains_string_string.calls k1 _ _ l1 ((rd_T87 t331 x17_1).f2) false _ ?side1 ?side2 A13.out).mono ?_); (case side1 => exact Kd.C_below HR1.out (by repeat (first | (with_reducible first | exact HB.out | apply below_alloc | apply pw_below_drewN | apply below_drew1 | refine below_set ?_ GE335.out) | exact HB.out))); (case side2 => exact HC1.out); rintro e w' ⟨rfl, ⟨nd, rfl⟩⟩; refine ⟨_, rfl, ?_⟩))
 go_roundg k1
 case measure => have := HK1.out; omega
 case rel => exact ⟨(x6_1), (wrap64 (x17_1 + 1)), s1_, H', ⟨by have := HK1.out; omega⟩, ⟨by (with_reducible repeat (first | apply Kd.R_alloc | apply Kd.R_drewN | apply Kd.R_drew)); exact Kd.R_mono (Kd.R_far3 (g := gb335) (Kd.R_types HO_6.out BK335.out (by decide)) (fun _ hk => hk.2)) (fun _ hk => trivial)⟩, ⟨by (with_reducible repeat (first | apply Kd.R_alloc | apply Kd.R_drewN | apply Kd.R_drew)); exact Kd.R_mono (Kd.R_far3 (g := gb335) (Kd.R_mono HO_15.out (fun k_ hk => (⟨hk, hk.2⟩ : _ ∧ k_ ≠ gb335))) (fun _ hk => hk.2)) (fun _ hk => trivial)⟩, ⟨by repeat (first | (with_reducible first | exact HB.out | apply below_alloc | apply pw_below_drewN | apply below_drew1 | refine below_set ?_ GE335.out) | exact HB.out)⟩⟩}}
 {
 rw [if_neg c12] at H
 exact absurd H (by simp)}}
 {
 rw [if_neg c11] at H
 exact absurd H (by simp)}}
 {
 rw [if_neg c10] at H
 have c10b0 : decide (x17_1 < (t331.length : Int)) = false := decide_eq_false c10
 clear c10
 replace H := Option.bind_eq_some_iff.mp H
 obtain ⟨t340, A210, H⟩ := H
 replace H : ((slices_Compact_string_string.f t340).bind fun t341 => (some (t341, true))) = some (r1, r2) := H
 have A21 := Aside0.mk A210
 clear A210
 replace H := Option.bind_eq_some_iff.mp H
 obtain ⟨t341, A220, H⟩ := H
 replace H : (some (t341, true)) = some (r1, r2) := H
 have A22 := Aside0.mk A220
 clear A220
 simp only [Option.some.injEq, Prod.mk.injEq] at H
 obtain ⟨rfl, rfl⟩ := H
 obtain ⟨Ao23, co23, eo23⟩ := Kd.R_slice HO_6.out
 subst eo23
 go_wp2_with (first | ((with_reducible refine gate_callee (f := 87) rfl ?_); refine goesL_ (some 32) rfl rfl Try.func87 s2_ rfl #[.slice Ao23 x6_1.length co23] rfl s3_ ?_; (with_reducible refine (slices_Sort_string_string.calls (fun k_ => some k_ = (.slice Ao23 x6_1.length co23 : Value).ownBlock) (.slice Ao23 x6_1.length co23) x6_1 t340 w _ ?side1 ?side2 A21.out).mono ?_); (case side1 => repeat (first | (with_reducible first | exact HB.out | apply below_alloc | apply pw_below_drewN | apply below_drew1) | exact HB.out)); (case side2 => exact Kd.R_tight rfl HO_6.out); rintro e w24 ⟨rfl, hy0, hb, hkp⟩; refine ⟨_, rfl, ?_⟩; have n0_ := Aside0.mk (Kd.R_reok rfl hy0 (fun k_ e_ => HO_6.out.1 k_ e_)); have n1_ := Aside0.mk (Kd.R_mono (ok' := fun k_ => True) (Kd.R_keptB ((Kd.R_apart' HO_15.out (Kd.R_typed HO_6.out) (by decide))) hkp (fun k_ hk_ hs_ => (hk_.2) hs_)) (fun k_ hk_ => trivial)); have n2_ := Aside0.mk (hb); clear HO_6; clear HO_15; clear HB; have HO_6 := n0_; have HO_15 := n1_; have HB := n2_; clear n0_ n1_ n2_; (try clear hb); (try clear hkp); (try clear hy0)) | ((with_reducible refine gate_callee (f := 88) rfl ?_); refine goesL_ (some 34) rfl rfl Try.func88 s2_ rfl #[.slice Ao23 x6_1.length co23] rfl s3_ ?_; (with_reducible refine (slices_Compact_string_string.calls (fun k_ => some k_ = (.slice Ao23 x6_1.length co23 : Value).ownBlock) (.slice Ao23 x6_1.length co23) t340 t341 w _ ?side1 ?side2 A22.out).mono ?_); (case side1 => repeat (first | (with_reducible first | exact HB.out | apply below_alloc | apply pw_below_drewN | apply below_drew1) | exact HB.out)); (case side2 => exact Kd.R_tight rfl HO_6.out); rintro e w25 ⟨v342, rfl, ho0, hb, hkp⟩; refine ⟨_, rfl, ?_⟩; replace HO_15 := Aside0.mk (Kd.R_mono (ok' := fun k_ => True) (Kd.R_keptB ((Kd.R_apart' HO_15.out (Kd.R_typed HO_6.out) (by decide))) hkp (fun k_ hk_ hs_ => (hk_.2) hs_)) (fun k_ hk_ => trivial)); have HO343 := Aside0.mk (Kd.R_mono (ok' := fun k_ => True) ho0 (fun k_ hk_ => trivial)); replace HB := Aside0.mk (hb); clear HO_6; (try clear hb); (try clear hkp); (try clear ho0)))
 go_ret2
 exact ⟨_, by first | rfl | (simp [errW_none, errW_some] <;> rfl) | (simp [*, errW_none, errW_some] <;> rfl), by (with_reducible repeat (first | apply Kd.R_alloc | apply Kd.R_drewN | apply Kd.R_drew)); exact HO343.out, by repeat (first | (with_reducible first | exact HB.out | apply below_alloc | apply pw_below_drewN | apply below_drew1) | exact HB.out)⟩}}}}
 {
 replace c4 := Bool.eq_false_iff.mpr c4
 subst c4
 have H1 : (some (([] : List ByteArray), false)) = some (r1, r2) := by rw [if_neg (show ¬ (false = true) by decide)] at H; exact H
 clear H
 have H := H1
 clear H1
 simp only [Option.some.injEq, Prod.mk.injEq] at H
 obtain ⟨rfl, rfl⟩ := H
 go_enter Try.func47, Try.ntmps47
 go_wp2_with (first | ((with_reducible refine gate_callee (f := 74) rfl ?_); refine goesL_ (some 11) rfl rfl Try.func74 s2_ rfl #[.string a0, .slice A1 l1.length c1] rfl s3_ ?_; (with_reducible refine (impl_badOk.calls k a0 _ _ l1 false _ ?side1 ?side2 A3.out).mono ?_); (case side1 => repeat (first | exact HR1.out | (with_reducible refine Kd.C_alloc ?_ _) | (with_reducible refine Kd.C_drewN ?_ _) | (with_reducible refine Kd.C_drew ?_))); (case side2 => exact HC1.out); rintro e w' ⟨rfl, ⟨nd, rfl⟩⟩; refine ⟨_, rfl, ?_⟩))
 go_ret2
 exact ⟨_, by first | rfl | (simp [errW_none, errW_some] <;> rfl) | (simp [*, errW_none, errW_some] <;> rfl), by first | exact Kd.R_nil _ _ _ _ _ | exact Kd.N_nil _ _ _ _ _ | exact Kd.V_nil _ _ _ _ _ | exact Kd.Q_nil _ _ _ _ _ | exact Kd.S_nil _ _ _ _ _, by repeat (first | (with_reducible first | exact HB.out | apply below_alloc | apply pw_below_drewN | apply below_drew1) | exact HB.out)⟩}

/-! ### impl_words: function 90 -/
abbrev impl_words.T : Bool := true
abbrev impl_words.F : Bool := false
theorem impl_words.b2_ {P Q : Prop} (q : Q) (h : Q → P := by intro q_; (with_reducible repeat (first | apply Kd.R_alloc | apply Kd.R_drewN | apply Kd.R_drew)); exact q_) : P := h q
theorem impl_words.y1_ {P Q : Prop} (q : Q) (h : Q → P := by intro q_; repeat (first | (with_reducible first | exact q_ | apply below_alloc | apply pw_below_drewN | apply below_drew1) | exact q_)) : P := h q
theorem impl_words.b6_ {w w' W : World} {k : Nat} (hg : k = W.heap.size) (q : Aside0 (Below w.heap.size w w')) (h : Below w.heap.size w w' → Below w.heap.size w W := by intro q_; repeat (first | (with_reducible first | exact q_ | apply below_alloc | apply pw_below_drewN | apply below_drew1) | exact q_)) : Aside0 (w.heap.size ≤ k) := ⟨by rw [hg]; exact below_size (h q.out)⟩
theorem impl_words.c1_ {w : World} {g : Nat} {t : TypeId} {cs : Array Value} (q : Aside0 (w.heap[g]? = some (.cells cs t (0, 0)))) (i : Nat) (v : Value) (h : cs[i]? = some v := by rfl) : w.cell? ⟨g, i, none⟩ = some v := (blk_cell q.out i).trans h
def impl_words.l0 : Nat → List ByteArray → List (S87) → Int → Int → Option (List ByteArray)
  | 0, _, _, _, _ => none
  | k + 1, x3, x8, x9, x10 => if x10 < x9 then (if 0 ≤ x10 then (if x10 < (x8.length : Int) then (if x3.length < 8796093022208 then (impl_words.l0 k (x3 ++ [(rd_T87 x8 x10).f2]) x8 x9 (wrap64 (x10 + 1))) else (none)) else (none)) else (none)) else (some x3)
def impl_words.f (k : Nat) (a0 : ByteArray) : Option (List ByteArray) := (impl_runsOf.f k a0).bind fun t347 => (impl_words.l0 k (([] : List ByteArray)) t347 (t347.length : Int) 0)
theorem impl_words.mono_l : ∀ k, (∀ y0 y1 y2 y3, LeO (impl_words.l0 k y0 y1 y2 y3) (impl_words.l0 (k + 1) y0 y1 y2 y3))
  | 0 => fun _ _ _ _ r h => by simp [impl_words.l0] at h
  | k + 1 => by
    have ih0 := impl_words.mono_l k
    · intro y0 y1 y2 y3
      unfold impl_words.l0
      repeat' first
      | (with_reducible exact ih0 _ _ _ _)
      | (with_reducible exact impl_runsOf.mono _ _)
      | (with_reducible exact LeO.refl _)
      | (with_reducible exact LeO.none _)
      | (with_reducible refine LeO.ite ?_ ?_)
      | (with_reducible refine LeO.bind ?_ (fun _ => ?_))
      | exact ih0 _ _ _ _
      | exact impl_runsOf.mono _ _
      | exact LeO.none _
      | refine LeO.ite ?_ ?_
      | refine LeO.bind ?_ (fun _ => ?_)
theorem impl_words.mono : ∀ a0 k, LeO (impl_words.f k a0) (impl_words.f (k + 1) a0) := by
  intro a0 k
  have ih0 := impl_words.mono_l k
  unfold impl_words.f
  repeat' first
      | (with_reducible exact ih0 _ _ _ _)
      | (with_reducible exact impl_runsOf.mono _ _)
      | (with_reducible exact LeO.refl _)
      | (with_reducible exact LeO.none _)
      | (with_reducible refine LeO.ite ?_ ?_)
      | (with_reducible refine LeO.bind ?_ (fun _ => ?_))
      | exact ih0 _ _ _ _
      | exact impl_runsOf.mono _ _
      | exact LeO.none _
      | refine LeO.ite ?_ ?_
      | refine LeO.bind ?_ (fun _ => ?_)
set_option maxHeartbeats 8000000 in
set_option maxRecDepth 100000 in
theorem impl_words.calls (k : Nat) (a0 : ByteArray) (r : List ByteArray) (w : World) (h : impl_words.f k a0 = some r) :
    Calls Try.prog 90 #[.string a0] w fun e w' => ∃ v0_ : Value, e = .returned (v0_) ∧ Kd.R Kd.string 9 w' w.heap.size (fun _ => True) v0_ r ∧ Below w.heap.size w w' := by
 have hu87 := Try.underlying87
 have HB := Aside0.mk (Below.refl w.heap.size w)
 have H : ((impl_runsOf.f k a0).bind fun t347 => (impl_words.l0 k (([] : List ByteArray)) t347 (t347.length : Int) 0)) = some r := h
 clear h
 obtain ⟨y344, hy344⟩ : ∃ y_ : List ByteArray, y_ = (([] : List ByteArray)) := ⟨_, rfl⟩
 replace H : ((impl_runsOf.f k a0).bind fun t347 => (impl_words.l0 k y344 t347 (t347.length : Int) 0)) = some r := by first | (rw [hy344]; with_reducible exact H) | (have H2_ := (Option.bind_some _ _).symm.trans H; rw [hy344]; with_reducible exact H2_) | (have H2_ := (Option.bind_some _ _).symm.trans H; with_reducible exact H2_) | with_reducible exact H | (rw [hy344]; exact H) | exact H
 have Ny344 := Aside0.mk hy344
 clear hy344
 replace H := Option.bind_eq_some_iff.mp H
 obtain ⟨t347, A20, H⟩ := H
 replace H : (impl_words.l0 k y344 t347 (t347.length : Int) 0) = some r := H
 have A2 := Aside0.mk A20
 clear A20
 have H' := Aside0.mk H
 clear H
 go_enter Try.func90, Try.ntmps90
 go_wp2_with (first | ((with_reducible refine gate_dst (N := 6) rfl ?_); refine Kd.R_lit Kd.string _ 9 ?hg (N := 6) ?hd (xs := ([] : List ByteArray)) (inner := []) (ok := fun _ => True) (okp := fun _ => True) ?hr ?hp (fun _ hk => hk) trivial (Below.refl _ _) (Nat.le_refl _) (by simp) ?_; (case hd => rfl); (case hg => rfl); (case hr => first | (go_simp; done) | (go_simp; rfl)); (case hp => exact (Reps.none _ _)); intro v345 w3 ho4 hb hg_ hnew_; clear hg_ hnew_; (first | rw [← Ny344.out] at ho4 | (simp only [Int.reduceToNat] at ho4; rw [← Ny344.out] at ho4)); have HO346 := Aside0.mk (Kd.R_lower ho4 (below_size (y1_ HB.out))); replace HB := Aside0.mk (below_step (y1_ HB.out) hb); clear hb ho4) | ((with_reducible refine gate_callee (f := 75) rfl ?_); refine goesL_ (some 8) rfl rfl Try.func75 (by kernel_rfl) rfl #[.string a0] rfl (by (try simp only [List.map_toArray, List.map_cons, List.map_nil]); first | done | rfl | (simp only [List.length_drop, List.length_take]; rfl)) ?_; (with_reducible refine (impl_runsOf.calls k a0 t347 _ A2.out).mono ?_); rintro e w5 ⟨v348, rfl, ho0, hb⟩; refine ⟨_, rfl, ?_⟩; replace HO346 := Aside0.mk (Kd.R_below (b2_ HO346.out) hb); have HO349 := Aside0.mk (Kd.R_lower ho0 (below_size (y1_ HB.out))); replace HB := Aside0.mk (below_step (y1_ HB.out) hb); (try clear hb); (try clear hb2); (try clear hk); (try clear hi); (try clear ho0); obtain ⟨Ao6, co6, eo6⟩ := Kd.R_slice HO349.out; subst eo6))
 go_loopg [3, 10] k (fun kq v3 v10 w' => ∃ (x3_1 : List ByteArray) (x10_1 : Int), v10 = .int .i64 x10_1 ∧ Aside0 (impl_words.l0 kq x3_1 t347 (t347.length : Int) x10_1 = some r) ∧ Aside0 (kq ≤ k) ∧ Aside0 (Kd.R Kd.string 9 w' w.heap.size (fun _ => True) v3 x3_1) ∧ Aside0 (Kd.R k87 87 w' w.heap.size (fun _ => True) (.slice Ao6 t347.length co6) t347) ∧ Aside0 (Below w.heap.size w w'))
 case atStart => exact ⟨(y344), (0), (by first | rfl | (simp; done) | (simp [*]; done)), H', ⟨Nat.le_refl _⟩, ⟨b2_ HO346.out⟩, ⟨b2_ HO349.out⟩, ⟨by repeat (first | (with_reducible first | exact HB.out | apply below_alloc | apply pw_below_drewN | apply below_drew1) | exact HB.out)⟩⟩
 case round =>
  skip
  {
 clear H'
 try clear p2
 obtain ⟨x3_1, x10_1, rfl, HA, HK1, HO_3, HO_8, HB⟩ := hrel
 cases gk with
 | zero => exact absurd HA.out (by simp [impl_words.l0])
 | succ k1 =>
  skip
  {
 have H := HA.out
 clear HA
 simp only [impl_words.l0] at H
 by_cases c7 : x10_1 < (t347.length : Int)
 {
 rw [if_pos c7] at H
 have c7b0 : decide (x10_1 < (t347.length : Int)) = true := decide_eq_true c7
 clear c7
 by_cases c8 : 0 ≤ x10_1
 {
 rw [if_pos c8] at H
 have c8b0 : decide (0 ≤ x10_1) = true := decide_eq_true c8
 clear c8
 by_cases c9 : x10_1 < (t347.length : Int)
 {
 rw [if_pos c9] at H
 have c9b0 : decide (x10_1 < (t347.length : Int)) = true := decide_eq_true c9
 clear c9
 by_cases c10 : x3_1.length < 8796093022208
 {
 rw [if_pos c10] at H
 have LMc10 := Aside0.mk c10
 clear c10
 obtain ⟨y352, hy352⟩ : ∃ y_ : List ByteArray, y_ = (x3_1 ++ [(rd_T87 t347 x10_1).f2]) := ⟨_, rfl⟩
 replace H : (impl_words.l0 k1 y352 t347 (t347.length : Int) (wrap64 (x10_1 + 1))) = some r := by first | (rw [hy352]; with_reducible exact H) | (have H2_ := (Option.bind_some _ _).symm.trans H; rw [hy352]; with_reducible exact H2_) | (have H2_ := (Option.bind_some _ _).symm.trans H; with_reducible exact H2_) | with_reducible exact H | (rw [hy352]; exact H) | exact H
 have Ny352 := Aside0.mk hy352
 clear hy352
 have H' := Aside0.mk H
 clear H
 have p350 : 0 ≤ (x10_1 : Int) := of_decide_eq_true (by first | (with_reducible assumption) | assumption)
 have q350 : x10_1 < (t347.length : Int) := of_decide_eq_true (by first | (with_reducible assumption) | assumption)
 obtain ⟨ad350, e350, hx350_0, hx350_1, hx350_2⟩ := at_T87 (Kd.R_reads' HO_8.out).2.2 x10_1 p350 q350
 cases e350
 replace p350 := eq_true p350
 replace q350 := eq_true q350
 go_wp2_with (first | ((with_reducible refine gate_dst (N := 5) rfl ?_); refine box_event ?hg (N := 5) ?hd (cs := #[.int .i64 0, .int .i64 0, .string (⟨#[]⟩ : ByteArray)]) (t := 87) ?hr ?_; (case hd => rfl); (case hg => rfl); (case hr => first | (go_simp; done) | (go_simp; rfl)); intro gb351 hg w11 hbox hb; have GW351 := b6_ hg HB; have GE351 := b6_ hg HB; replace HO_3 := Aside0.mk (Kd.R_below (b2_ HO_3.out) hb); replace HO_8 := Aside0.mk (Kd.R_below (Kd.R_elderB (b2_ HO_8.out) gb351 (Nat.le_of_eq hg.symm)) hb); replace HB := Aside0.mk (below_step (y1_ HB.out) hb); have BK351 := Aside0.mk (hbox); clear hb hbox hg; have hcz12_0 := c1_ BK351 0 (.int .i64 0); have hcz12_1 := c1_ BK351 1 (.int .i64 0); have hcz12_2 := c1_ BK351 2 (.string (⟨#[]⟩ : ByteArray)); have hfz12_0 := blk_frozen BK351.out 0; have hfz12_1 := blk_frozen BK351.out 1; have hfz12_2 := blk_frozen BK351.out 2) | ((with_reducible refine gate_builtin (b := .append) (xs := #[.tmp 14, .tmp 17]) rfl ?_); at_builtin; refine Kd.R_append Kd.string (w0 := w) w.heap.size rfl (.tmp 14) (.tmp 17) 22 9 (.string ⟨#[]⟩) 16 rfl Try.underlying22 info9 rfl (by decide) (by omega) u3 x3_1 ((rd_T87 t347 x10_1).f2) [.string ((rd_T87 t347 x10_1).f2)] (fun _ => True) (fun _ => False) rfl (by first | (go_simp; done) | (go_simp; rfl)) ?aP (fun _ hk => hk.elim) ?aF ?aO ?aB ?aS ?aL ?_; (case aP => exact rfl); (case aB => exact (by repeat (first | (with_reducible first | exact HB.out | apply below_alloc | apply pw_below_drewN | apply below_drew1 | refine below_set ?_ GE351.out) | exact HB.out))); (case aF => exact (fun _ _ => trivial)); (case aO => exact (by (with_reducible repeat (first | apply Kd.R_alloc | apply Kd.R_drewN | apply Kd.R_drew)); exact Kd.R_mono (Kd.R_far3 (g := gb351) (Kd.R_types HO_3.out BK351.out (by decide)) (fun _ hk => hk.2)) (fun _ hk => trivial))); (case aS => exact (below_size (by repeat (first | (with_reducible first | exact HB.out | apply below_alloc | apply pw_below_drewN | apply below_drew1 | refine below_set ?_ GE351.out) | exact HB.out)))); (case aL => have := LMc10.out; omega); intro v353 w13 ho hb hg hat; rw [← Ny352.out] at ho; replace HO_8 := Aside0.mk (Kd.R_over' (by (with_reducible repeat (first | apply Kd.R_alloc | apply Kd.R_drewN | apply Kd.R_drew)); exact (Kd.R_mono (Kd.R_far3 (g := gb351) (Kd.R_mono HO_8.out (fun k_ hk => (⟨hk, hk.2⟩ : _ ∧ k_ ≠ gb351))) (fun _ hk => hk.2)) (fun _ h_ => h_.1))) (Kd.R_typed (by (with_reducible repeat (first | apply Kd.R_alloc | apply Kd.R_drewN | apply Kd.R_drew)); exact (Kd.R_mono (Kd.R_far3 (g := gb351) (Kd.R_types HO_3.out BK351.out (by decide)) (fun _ hk => hk.2)) (fun _ h_ => h_.1)))) (by decide) hg); replace BK351 := Aside0.mk (blk_grown (g := gb351) (o := .cells #[.int .i64 ((rd_T87 t347 x10_1).f0), .int .i64 ((rd_T87 t347 x10_1).f1), .string ((rd_T87 t347 x10_1).f2)] 87 (0, 0)) (by (with_reducible repeat (first | refine blk_drewN ?_ _ | refine blk_drew ?_ | refine blk_alloc ?_ _)); refine blk_put3 (cs := #[.int .i64 0, .int .i64 0, .string (⟨#[]⟩ : ByteArray)]) ?_ rfl; (with_reducible repeat (first | refine blk_drewN ?_ _ | refine blk_drew ?_ | refine blk_alloc ?_ _)); exact BK351.out) hg (Kd.R_ne HO_3.out BK351.out (by decide))); replace HB := Aside0.mk (hb); have HO354 := Aside0.mk (ho); clear HO_3; clear ho hb hg hat))
 go_roundg k1
 case measure => have := HK1.out; omega
 case rel => exact ⟨(y352), (wrap64 (x10_1 + 1)), (by first | rfl | (simp; done) | (simp [*]; done)), H', ⟨by have := HK1.out; omega⟩, ⟨b2_ HO354.out⟩, ⟨by (with_reducible repeat (first | apply Kd.R_alloc | apply Kd.R_drewN | apply Kd.R_drew)); exact Kd.R_mono HO_8.out (fun _ hk => trivial)⟩, ⟨by repeat (first | (with_reducible first | exact HB.out | apply below_alloc | apply pw_below_drewN | apply below_drew1) | exact HB.out)⟩⟩}
 {
 rw [if_neg c10] at H
 exact absurd H (by simp)}}
 {
 rw [if_neg c9] at H
 exact absurd H (by simp)}}
 {
 rw [if_neg c8] at H
 exact absurd H (by simp)}}
 {
 rw [if_neg c7] at H
 have c7b0 : decide (x10_1 < (t347.length : Int)) = false := decide_eq_false c7
 clear c7
 obtain rfl := Option.some.inj H
 go_wp2
 go_ret
 exact ⟨_, by first | rfl | (simp [errW_none, errW_some] <;> rfl) | (simp [*, errW_none, errW_some] <;> rfl), by (with_reducible repeat (first | apply Kd.R_alloc | apply Kd.R_drewN | apply Kd.R_drew)); exact HO_3.out, by repeat (first | (with_reducible first | exact HB.out | apply below_alloc | apply pw_below_drewN | apply below_drew1) | exact HB.out)⟩}}}

/-! ### impl_WordsOf: function 48 -/
def impl_WordsOf.f (k : Nat) (a0 : ByteArray) : Option (List ByteArray × Bool) := (impl_IsText.f k a0).bind fun t355 => (if t355 = true then ((impl_words.f k a0).bind fun t356 => (some (t356, true))) else (some (([] : List ByteArray), false)))
theorem impl_WordsOf.mono : ∀ a0 k, LeO (impl_WordsOf.f k a0) (impl_WordsOf.f (k + 1) a0) := by
  intro a0 k
  unfold impl_WordsOf.f
  repeat' first
      | (with_reducible exact impl_IsText.mono _ _)
      | (with_reducible exact impl_words.mono _ _)
      | (with_reducible exact LeO.refl _)
      | (with_reducible exact LeO.none _)
      | (with_reducible refine LeO.ite ?_ ?_)
      | (with_reducible refine LeO.bind ?_ (fun _ => ?_))
      | exact impl_IsText.mono _ _
      | exact impl_words.mono _ _
      | exact LeO.none _
      | refine LeO.ite ?_ ?_
      | refine LeO.bind ?_ (fun _ => ?_)
set_option maxHeartbeats 8000000 in
set_option maxRecDepth 100000 in
theorem impl_WordsOf.calls (k : Nat) (a0 : ByteArray) (r1 : List ByteArray) (r2 : Bool) (w : World) (h : impl_WordsOf.f k a0 = some (r1, r2)) :
    Calls Try.prog 48 #[.string a0] w fun e w' => ∃ v0_ : Value, e = .returned (.tuple #[v0_, .bool r2]) ∧ Kd.R Kd.string 9 w' w.heap.size (fun _ => True) v0_ r1 ∧ Below w.heap.size w w' := by
  have HB := Aside0.mk (Below.refl w.heap.size w)
  have H : ((impl_IsText.f k a0).bind fun t355 => (if t355 = true then ((impl_words.f k a0).bind fun t356 => (some (t356, true))) else (some (([] : List ByteArray), false)))) = some (r1, r2) := h
  clear h
  replace H := Option.bind_eq_some_iff.mp H
  obtain ⟨t355, A20, H⟩ := H
  replace H : (if t355 = true then ((impl_words.f k a0).bind fun t356 => (some (t356, true))) else (some (([] : List ByteArray), false))) = some (r1, r2) := H
  have A2 := Aside0.mk A20
  clear A20
  by_cases c3 : t355 = true
  · subst c3
    have H1 : ((impl_words.f k a0).bind fun t356 => (some (t356, true))) = some (r1, r2) := by rw [if_pos rfl] at H; exact H
    clear H
    have H := H1
    clear H1
    replace H := Option.bind_eq_some_iff.mp H
    obtain ⟨t356, A40, H⟩ := H
    replace H : (some (t356, true)) = some (r1, r2) := H
    have A4 := Aside0.mk A40
    clear A40
    simp only [Option.some.injEq, Prod.mk.injEq] at H
    obtain ⟨rfl, rfl⟩ := H
    go_enter Try.func48, Try.ntmps48
    go_wp2_with (first | ((with_reducible refine gate_callee (f := 89) rfl ?_); refine goesL_ (some 5) rfl rfl Try.func89 (by kernel_rfl) rfl #[.string a0] rfl (by (try simp only [List.map_toArray, List.map_cons, List.map_nil]); first | done | rfl | (simp only [List.length_drop, List.length_take]; rfl)) ?_; (with_reducible refine (impl_IsText.calls k a0 true _ A2.out).mono ?_); rintro e w' ⟨rfl, ⟨nd, rfl⟩⟩; refine ⟨_, rfl, ?_⟩) | ((with_reducible refine gate_callee (f := 90) rfl ?_); refine goesL_ (some 8) rfl rfl Try.func90 (by kernel_rfl) rfl #[.string a0] rfl (by (try simp only [List.map_toArray, List.map_cons, List.map_nil]); first | done | rfl | (simp only [List.length_drop, List.length_take]; rfl)) ?_; (with_reducible refine (impl_words.calls k a0 t356 _ A4.out).mono ?_); rintro e w5 ⟨v357, rfl, ho0, hb⟩; refine ⟨_, rfl, ?_⟩; have HO358 := Aside0.mk (Kd.R_lower ho0 (below_size (by repeat (first | (with_reducible first | exact HB.out | apply below_alloc | apply pw_below_drewN | apply below_drew1) | exact HB.out)))); replace HB := Aside0.mk (below_step (by repeat (first | (with_reducible first | exact HB.out | apply below_alloc | apply pw_below_drewN | apply below_drew1) | exact HB.out)) hb); (try clear hb); (try clear hb2); (try clear hk); (try clear hi); (try clear ho0)))
    go_ret2
    exact ⟨_, by first | rfl | (simp [errW_none, errW_some] <;> rfl) | (simp [*, errW_none, errW_some] <;> rfl), by (with_reducible repeat (first | apply Kd.R_alloc | apply Kd.R_drewN | apply Kd.R_drew)); exact HO358.out, by repeat (first | (with_reducible first | exact HB.out | apply below_alloc | apply pw_below_drewN | apply below_drew1) | exact HB.out)⟩
  · replace c3 := Bool.eq_false_iff.mpr c3
    subst c3
    have H1 : (some (([] : List ByteArray), false)) = some (r1, r2) := by rw [if_neg (show ¬ (false = true) by decide)] at H; exact H
    clear H
    have H := H1
    clear H1
    simp only [Option.some.injEq, Prod.mk.injEq] at H
    obtain ⟨rfl, rfl⟩ := H
    go_enter Try.func48, Try.ntmps48
    go_wp2_with (first | ((with_reducible refine gate_callee (f := 89) rfl ?_); refine goesL_ (some 5) rfl rfl Try.func89 (by kernel_rfl) rfl #[.string a0] rfl (by (try simp only [List.map_toArray, List.map_cons, List.map_nil]); first | done | rfl | (simp only [List.length_drop, List.length_take]; rfl)) ?_; (with_reducible refine (impl_IsText.calls k a0 false _ A2.out).mono ?_); rintro e w' ⟨rfl, ⟨nd, rfl⟩⟩; refine ⟨_, rfl, ?_⟩))
    go_ret2
    exact ⟨_, by first | rfl | (simp [errW_none, errW_some] <;> rfl) | (simp [*, errW_none, errW_some] <;> rfl), by first | exact Kd.R_nil _ _ _ _ _ | exact Kd.N_nil _ _ _ _ _ | exact Kd.V_nil _ _ _ _ _ | exact Kd.Q_nil _ _ _ _ _ | exact Kd.S_nil _ _ _ _ _, by repeat (first | (with_reducible first | exact HB.out | apply below_alloc | apply pw_below_drewN | apply below_drew1) | exact HB.out)⟩

/-! ### impl_HasBadWord: function 49 -/
def impl_HasBadWord.f (k : Nat) (a0 : ByteArray) (l1 : List ByteArray) : Option (Bool) := (impl_BadWordsIn.f k a0 l1).bind fun bt359 => (if bt359.2 = true then (some (decide ((bt359.1.length : Int) > 0))) else (some false))
theorem impl_HasBadWord.mono : ∀ a0 a1 k, LeO (impl_HasBadWord.f k a0 a1) (impl_HasBadWord.f (k + 1) a0 a1) := by
  intro a0 a1 k
  unfold impl_HasBadWord.f
  repeat' first
      | (with_reducible exact impl_BadWordsIn.mono _ _ _)
      | (with_reducible exact LeO.refl _)
      | (with_reducible exact LeO.none _)
      | (with_reducible refine LeO.ite ?_ ?_)
      | (with_reducible refine LeO.bind ?_ (fun _ => ?_))
      | exact impl_BadWordsIn.mono _ _ _
      | exact LeO.none _
      | refine LeO.ite ?_ ?_
      | refine LeO.bind ?_ (fun _ => ?_)
set_option maxHeartbeats 8000000 in
set_option maxRecDepth 100000 in
theorem impl_HasBadWord.calls (k : Nat) (a0 : ByteArray) (A1 : Option Addr) (c1 : Nat) (l1 : List ByteArray) (r : Bool) (w : World) (hr1 : Kd.C Kd.string w A1 l1.length l1) (hc1 : l1.length ≤ c1) (h : impl_HasBadWord.f k a0 l1 = some r) :
    Calls Try.prog 49 #[.string a0, .slice A1 l1.length c1] w fun e w' => e = .returned (.bool r) ∧ Below w.heap.size w w' := by
  have HR1 := Aside0.mk hr1
  have HC1 := Aside0.mk hc1
  clear hr1 hc1
  have HB := Aside0.mk (Below.refl w.heap.size w)
  have H : ((impl_BadWordsIn.f k a0 l1).bind fun bt359 => (if bt359.2 = true then (some (decide ((bt359.1.length : Int) > 0))) else (some false))) = some r := h
  clear h
  replace H := Option.bind_eq_some_iff.mp H
  obtain ⟨⟨t359, t360⟩, A30, H⟩ := H
  replace H : (if t360 = true then (some (decide ((t359.length : Int) > 0))) else (some false)) = some r := H
  have A3 := Aside0.mk A30
  clear A30
  by_cases c4 : t360 = true
  · subst c4
    have H1 : (some (decide ((t359.length : Int) > 0))) = some r := by rw [if_pos rfl] at H; exact H
    clear H
    have H := H1
    clear H1
    obtain rfl := Option.some.inj H
    go_enter Try.func49, Try.ntmps49
    go_wp2_with (first | ((with_reducible refine gate_callee (f := 47) rfl ?_); refine goesL_ (some 10) rfl rfl Try.func47 (by kernel_rfl) rfl #[.string a0, .slice A1 l1.length c1] rfl (by (try simp only [List.map_toArray, List.map_cons, List.map_nil]); first | done | rfl | (simp only [List.length_drop, List.length_take]; rfl)) ?_; (with_reducible refine (impl_BadWordsIn.calls k a0 _ _ l1 t359 true _ ?side1 ?side2 A3.out).mono ?_); (case side1 => repeat (first | exact HR1.out | (with_reducible refine Kd.C_alloc ?_ _) | (with_reducible refine Kd.C_drewN ?_ _) | (with_reducible refine Kd.C_drew ?_))); (case side2 => exact HC1.out); rintro e w5 ⟨v361, rfl, ho0, hb⟩; refine ⟨_, rfl, ?_⟩; have HO362 := Aside0.mk (Kd.R_lower ho0 (below_size (by repeat (first | (with_reducible first | exact HB.out | apply below_alloc | apply pw_below_drewN | apply below_drew1) | exact HB.out)))); replace HB := Aside0.mk (below_step (by repeat (first | (with_reducible first | exact HB.out | apply below_alloc | apply pw_below_drewN | apply below_drew1) | exact HB.out)) hb); (try clear hb); (try clear hb2); (try clear hk); (try clear hi); (try clear ho0); obtain ⟨Ao6, co6, eo6⟩ := Kd.R_slice HO362.out; subst eo6))
    go_ret
    exact ⟨by first | rfl | (simp [errW_none, errW_some] <;> rfl) | (simp [*, errW_none, errW_some] <;> rfl), by repeat (first | (with_reducible first | exact HB.out | apply below_alloc | apply pw_below_drewN | apply below_drew1) | exact HB.out)⟩
  · replace c4 := Bool.eq_false_iff.mpr c4
    subst c4
    have H1 : (some false) = some r := by rw [if_neg (show ¬ (false = true) by decide)] at H; exact H
    clear H
    have H := H1
    clear H1
    obtain rfl := Option.some.inj H
    go_enter Try.func49, Try.ntmps49
    go_wp2_with (first | ((with_reducible refine gate_callee (f := 47) rfl ?_); refine goesL_ (some 10) rfl rfl Try.func47 (by kernel_rfl) rfl #[.string a0, .slice A1 l1.length c1] rfl (by (try simp only [List.map_toArray, List.map_cons, List.map_nil]); first | done | rfl | (simp only [List.length_drop, List.length_take]; rfl)) ?_; (with_reducible refine (impl_BadWordsIn.calls k a0 _ _ l1 t359 false _ ?side1 ?side2 A3.out).mono ?_); (case side1 => repeat (first | exact HR1.out | (with_reducible refine Kd.C_alloc ?_ _) | (with_reducible refine Kd.C_drewN ?_ _) | (with_reducible refine Kd.C_drew ?_))); (case side2 => exact HC1.out); rintro e w7 ⟨v361, rfl, ho0, hb⟩; refine ⟨_, rfl, ?_⟩; have HO362 := Aside0.mk (Kd.R_lower ho0 (below_size (by repeat (first | (with_reducible first | exact HB.out | apply below_alloc | apply pw_below_drewN | apply below_drew1) | exact HB.out)))); replace HB := Aside0.mk (below_step (by repeat (first | (with_reducible first | exact HB.out | apply below_alloc | apply pw_below_drewN | apply below_drew1) | exact HB.out)) hb); (try clear hb); (try clear hb2); (try clear hk); (try clear hi); (try clear ho0)))
    go_ret
    exact ⟨by first | rfl | (simp [errW_none, errW_some] <;> rfl) | (simp [*, errW_none, errW_some] <;> rfl), by repeat (first | (with_reducible first | exact HB.out | apply below_alloc | apply pw_below_drewN | apply below_drew1) | exact HB.out)⟩

end Go.Proofs.Ytjfaepolmllejaa.QFnCensored
