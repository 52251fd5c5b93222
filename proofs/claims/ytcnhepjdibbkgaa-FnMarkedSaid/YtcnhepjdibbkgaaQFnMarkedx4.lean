-- written by a program of this session, on the lines of the kit's print
import Derived.Test.YtcnhepjdibbkgaaQFnMarkedx0
import Derived.Test.YtcnhepjdibbkgaaQFnMarkedx2
import Derived.Test.YtcnhepjdibbkgaaQFnMarkedx3
namespace Go.Proofs.Ytcnhepjdibbkgaa.QFnMarked
open Go.RowKit Go.Proofs.YtcnhepjdibbkgaaW.PrintWords Go.Proofs.YtcnhepjdibbkgaaW.PrintLast Go.Proofs.YtcnhepjdibbkgaaW.PrintMore
attribute [local go_sem] max2_int min2_int max_two min_two max_three min_three max_four min_four   -- for this text's walks alone
set_option linter.unusedVariables false
set_option linter.unusedSimpArgs false

/-! ### impl_MarkWords: function 22 -/
def impl_MarkWords.ws (a0 : ByteArray) (a1 : ByteArray) : Option (ByteArray) := if a0.size + a1.size ≤ 140737488355328 then some (a0 ++ a1) else none
def impl_MarkWords.st (a0 : ByteArray) : Option (ByteArray) := some a0
section
open Go.Shelf
def impl_MarkWords.lays169_ren : Go.Shelf.Ren := ⟨fun | 169 => 63 | n => n, fun | 70 => 78 | 9 => 9 | 0 => 0 | 72 => 80 | 37 => 34 | 127 => 119 | 3 => 3 | 5 => 5 | n => n, fun | n => n⟩
theorem impl_MarkWords.lays169 : Go.Proofs.Lays.n169 Try.prog impl_MarkWords.lays169_ren := {
  mixed := by kernel_rfl
  f169 := Try.func63.trans (congrArg some (by kernel_rfl))
  t0 := Try.underlying0
  a0 := Try.isAgg0
  z0 := Try.sizeOf0
  v0 := Try.zeroValue0
  t3 := Try.underlying3
  a3 := Try.isAgg3
  z3 := Try.sizeOf3
  v3 := Try.zeroValue3
  t9 := Try.underlying9
  a9 := Try.isAgg9
  z9 := Try.sizeOf9
  v9 := Try.zeroValue9
  t37 := Try.underlying34
  a37 := Try.isAgg34
  z37 := Try.sizeOf34
  v37 := Try.zeroValue34
  t70 := Try.underlying78
  a70 := Try.isAgg78
  z70 := Try.sizeOf78
  v70 := Try.zeroValue78
  t72 := Try.underlying80
  a72 := Try.isAgg80
  z72 := Try.sizeOf80
  v72 := Try.zeroValue80
  t127 := Try.underlying119
  a127 := Try.isAgg119
  z127 := Try.sizeOf119
  v127 := Try.zeroValue119 }
theorem impl_MarkWords.extra169 : Builder.Extra Try.prog impl_MarkWords.lays169_ren where
  sizeBuilder := by kernel_rfl
  liesBuilder := by kernel_rfl
  t5 := Try.underlying5
  a5 := Try.isAgg5
  z5 := Try.sizeOf5
  v5 := Try.zeroValue5
  infoByte := by kernel_rfl
  cellsByte := by kernel_rfl
  sizeByte := by kernel_rfl
  neB5 := by decide
end
set_option maxHeartbeats 1000000 in
set_option maxRecDepth 100000 in
theorem impl_MarkWords.cc_used (b : Nat) (w : World) (h0 : w.cell? ⟨b, 0, none⟩ = some (.pointer (some ⟨b, 0, none⟩))) : Calls Try.prog 97 #[.pointer (some ⟨b, 0, none⟩)] w fun e w' => e = .returned (.tuple #[]) ∧ w' = w := by
  obtain ⟨j, hj, _⟩ := Option.map_eq_some_iff.1 (show (Try.prog.info? 80).map (·.size) = some 2 by kernel_rfl)
  go_enter Try.func97, Try.ntmps97
  go_wp2
  rw [Lib.run_neq_ptr_same w _ Try.underlying78 hj]
  go_wp2
  go_end0
  exact ⟨rfl, rfl⟩
set_option maxHeartbeats 1000000 in
set_option maxRecDepth 100000 in
theorem impl_MarkWords.cc_fresh (b : Nat) (w : World) (h0 : w.cell? ⟨b, 0, none⟩ = some (.pointer none)) (hsh : w.shape? b = some (80, 2)) (hfz : w.frozen? ⟨b, 0, none⟩ = false) : Calls Try.prog 97 #[.pointer (some ⟨b, 0, none⟩)] w fun e w' => e = .returned (.tuple #[]) ∧ w' = w.setCell ⟨b, 0, none⟩ (.pointer (some ⟨b, 0, none⟩)) := by
  obtain ⟨j, hj, hjs⟩ := Option.map_eq_some_iff.1 (show (Try.prog.info? 80).map (·.size) = some 2 by kernel_rfl)
  go_enter Try.func97, Try.ntmps97
  go_wp2
  rw [Lib.run_to_unsafe w ⟨b, 0, none⟩ Try.underlying78 Try.underlying126 hj (by rw [hjs]; decide) hsh (Nat.zero_lt_succ 1)]
  simp only [Result.andThen]
  rw [Oper.upon_value]
  go_wp2
  rw [run_callFunc_extern Try.func109 (by kernel_rfl) (by kernel_rfl) (by kernel_rfl) (e := Extern.AbiNoEscape.same) (by kernel_rfl)]
  rw [Lib.run_noEscape]
  simp only [Result.andThen]
  rw [Oper.upon_value]
  go_wp2
  rw [Lib.run_from_unsafe w ⟨b, 0, none⟩ Try.underlying126 Try.underlying78 hj hsh (show liesAt Try.prog Try.prog.depth 80 (2 / Try.prog.cellsOf 80) 0 80 1 = true by kernel_rfl)]
  simp only [Result.andThen]
  rw [Oper.upon_value]
  go_wp2
  go_end0
  exact ⟨rfl, rfl⟩
theorem impl_MarkWords.cc (B b : Nat) (bs : List Value) (w : World) (h : Lib.IsBuilderF 80 5 B b bs w) : Calls Try.prog 97 #[.pointer (some ⟨b, 0, none⟩)] w fun e w' => e = .returned (.tuple #[]) ∧ (Lib.BuilderAtF 80 5 B b (.pointer (some ⟨b, 0, none⟩)) bs w' ∧ Below B w w' ∧ Lib.OthersKept 5 (some b) w w') := by
  rcases h with h | h
  · refine (impl_MarkWords.cc_fresh b w h.cell0 h.shape h.frozen0).mono ?_
    rintro e w' ⟨rfl, rfl⟩
    exact ⟨rfl, h.used _, (Below.refl B w).setCell (p := ⟨b, 0, none⟩) h.1 _, (Lib.OthersKept.refl _ _ w).setCell ⟨b, 0, none⟩ rfl _⟩
  · refine (impl_MarkWords.cc_used b w h.cell0).mono ?_
    rintro e w' ⟨rfl, rfl⟩
    exact ⟨rfl, h, Below.refl B _, Lib.OthersKept.refl _ _ _⟩
set_option maxHeartbeats 2000000 in
set_option maxRecDepth 100000 in
theorem impl_MarkWords.ws0 (B b : Nat) (bs : List Value) (s : ByteArray) (w : World) (h : Lib.IsBuilderF 80 5 B b bs w) (hlen : bs.length + s.size ≤ 140737488355328) (hBw : B ≤ w.heap.size) :
    Calls Try.prog 62 #[.pointer (some ⟨b, 0, none⟩), .string s] w fun e w' => e = .returned (.tuple #[.int .i64 s.size, .nilIface]) ∧ (Lib.BuilderAtF 80 5 B b (.pointer (some ⟨b, 0, none⟩)) (bs ++ Lib.strCells s) w' ∧ Below B w w' ∧ Lib.OthersKept 5 (some b) w w') := by
  obtain ⟨i0, hi, hz0, hz1, hz2⟩ := info_parts (show (Try.prog.info? 5).map (fun i => (i.zero, i.size, i.bytes)) = some (some (.int .u8 0), 1, 1) by kernel_rfl)
  have hne5 : (80 : TypeId) ≠ 5 := by decide
  go_enter Try.func62, Try.ntmps62
  go_wp2_with (go_at_call 97; refine (impl_MarkWords.cc B b bs _ h).mono ?_)
  rintro e w1 ⟨rfl, h1, hb1, hk1⟩
  obtain ⟨hB, v, hbk, hown, hne⟩ := h1
  have c0 : w1.cell? ⟨b, 0, none⟩ = some (.pointer (some ⟨b, 0, none⟩)) := by rw [Lib.cell_of_heap hbk]; rfl
  have c1 : w1.cell? ⟨b, 1, none⟩ = some v := by rw [Lib.cell_of_heap hbk]; rfl
  go_wp2_with (at_builtin; refine Lib.wpList_append_own_stringF _ rfl _ _ 34 9 rfl B 5 i0 Try.underlying34 Try.underlying9 hi hz0 hz1 hz2 _ _ _ rfl hown s rfl ?c3 ?c4 ?c5 ?_)
  case c3 => unfold maxLen; omega
  case c4 => omega
  case c5 => have := hb1.size; omega
  intro v' w2 hown' hgrow _
  have hlt : b < w1.heap.size := by
    rcases Nat.lt_or_ge b w1.heap.size with h' | h'
    · exact h'
    · simp [Array.getElem?_eq_none h'] at hbk
  have hb2 : w2.heap[b]? = some (.cells #[.pointer (some ⟨b, 0, none⟩), v] 80 (0, 0)) := by
    rw [hgrow.block b hlt (fun e => hne e.symm)]
    exact hbk
  have d0 : w2.cell? ⟨b, 0, none⟩ = some (.pointer (some ⟨b, 0, none⟩)) := by rw [Lib.cell_of_heap hb2]; rfl
  have d1 : w2.cell? ⟨b, 1, none⟩ = some v := by rw [Lib.cell_of_heap hb2]; rfl
  have f1 : w2.frozen? ⟨b, 1, none⟩ = false := Lib.frozen_of_heap hb2 1
  obtain ⟨ao, n', cap, rfl⟩ : ∃ ao n' cap, v' = .slice ao n' cap := by
    rcases hown'.2 with ⟨hv, _⟩ | ⟨g, cap, cur, fz, hv, _⟩
    · exact ⟨_, _, _, hv⟩
    · exact ⟨_, _, _, hv⟩
  go_wp2
  go_ret2
  refine ⟨rfl, ?_, ?_, (hk1.grown hgrow (Lib.ownsRowF_kind hown)).setCell ⟨b, 1, none⟩ rfl _⟩
  · exact Lib.BuilderAtF.put (T := 80) (e := 5) hB hb2 (bs' := bs ++ Lib.strCells s) (by simpa [Lib.strCells_length] using hown') hne5
  · exact (hb1.grown hgrow (by have := hb1.size; omega) (fun k hk => (hown.lt k hk).1)).setCell (p := ⟨b, 1, none⟩) hB _
/-- A builder at block b that holds these bytes. -/
def impl_MarkWords.B (w : World) (base b : Nat) (s : ByteArray) : Prop := Lib.IsBuilderF 80 5 base b (Lib.byteCells s.data.toList) w
theorem impl_MarkWords.b_move {w w1 : World} {base b : Nat} {s : ByteArray} (h : impl_MarkWords.B w base b s) (hm : ∀ (k : Nat) (cells : Array Value) (q : TypeId) (fz : Nat × Nat), w.heap[k]? = some (Obj.cells cells q fz) → (q = 80 ∨ q = 5) → w1.heap[k]? = w.heap[k]?) : impl_MarkWords.B w1 base b s := by
  have key : ∀ p, Lib.BuilderAtF 80 5 base b p (Lib.byteCells s.data.toList) w → Lib.BuilderAtF 80 5 base b p (Lib.byteCells s.data.toList) w1 := by
    rintro p ⟨hB, v, hb, hown, hne⟩
    refine ⟨hB, v, (hm b _ 80 _ hb (.inl rfl)).trans hb, ⟨hown.1, ?_⟩, hne⟩
    rcases hown.2 with hn | ⟨g, cap, cur, fz, hv, hbase, hgg, rest⟩
    · exact .inl hn
    · exact .inr ⟨g, cap, cur, fz, hv, hbase, (hm g _ 5 _ hgg (.inr rfl)).trans hgg, rest⟩
  rcases h with h | h
  · exact .inl (key _ h)
  · exact .inr (key _ h)
theorem impl_MarkWords.b_below {w w1 : World} {base b : Nat} {s : ByteArray} (h : impl_MarkWords.B w base b s) (hb : Below w.heap.size w w1) : impl_MarkWords.B w1 base b s := impl_MarkWords.b_move h fun k _ _ _ hk _ => hb.block k (Array.getElem?_eq_some_iff.1 hk).1
theorem impl_MarkWords.b_drewN {w : World} {base b : Nat} {s : ByteArray} (h : impl_MarkWords.B w base b s) (n : Nat) : impl_MarkWords.B (w.drewN n) base b s := impl_MarkWords.b_below h (pw_below_drewN (Below.refl _ _) n)
theorem impl_MarkWords.b_drew {w : World} {base b : Nat} {s : ByteArray} (h : impl_MarkWords.B w base b s) : impl_MarkWords.B w.drew base b s := impl_MarkWords.b_below h (below_drew1 (Below.refl _ _))
theorem impl_MarkWords.b_alloc {w : World} {base b : Nat} {s : ByteArray} (h : impl_MarkWords.B w base b s) (o : Obj) : impl_MarkWords.B (w.alloc o) base b s := impl_MarkWords.b_below h (below_alloc (Below.refl _ _) o)
theorem impl_MarkWords.b_set {w : World} {base b : Nat} {s : ByteArray} (h : impl_MarkWords.B w base b s) {g : Nat} {cs : Array Value} {fr : Nat × Nat} (hg : w.heap[g]? = some (.cells cs 84 fr)) (j : Nat) (u : Value) : impl_MarkWords.B (w.setCell ⟨g, j, none⟩ u) base b s :=
  impl_MarkWords.b_move h fun k cells q fz hk hq => Below.heap_setCell w _ u k (fun e => by
    have e2 : k = g := e
    subst e2
    rw [hk] at hg
    injection hg with hg
    injection hg with _ hg
    subst hg
    rcases hq with hq | hq <;> exact absurd hq (by decide))
theorem impl_MarkWords.b_set3 {w : World} {base b : Nat} {s : ByteArray} (h : impl_MarkWords.B w base b s) {g : Nat} {cs : Array Value} (hg : w.heap[g]? = some (.cells cs 84 (0, 0))) (u0 u1 u2 : Value) : impl_MarkWords.B (((w.setCell ⟨g, 0, none⟩ u0).setCell ⟨g, 1, none⟩ u1).setCell ⟨g, 2, none⟩ u2) base b s :=
  impl_MarkWords.b_set (impl_MarkWords.b_set (impl_MarkWords.b_set h hg 0 u0) (blk_put hg 0 u0 rfl) 1 u1) (blk_put (blk_put hg 0 u0 rfl) 1 u1 rfl) 2 u2
theorem impl_MarkWords.b_fresh {w : World} {base b : Nat} (hB : base ≤ b) (hb : w.heap[b]? = some (.cells #[.pointer none, .slice none 0 0] 80 (0, 0))) : impl_MarkWords.B w base b (⟨#[]⟩ : ByteArray) :=
  .inl ⟨hB, .slice none 0 0, hb, World.ownsRowF_nil _ _ _ _, by simp [Value.ownBlock]⟩
theorem impl_MarkWords.b_typed {w : World} {base b : Nat} {s : ByteArray} (h : impl_MarkWords.B w base b s) : ∃ cs, w.heap[b]? = some (.cells cs 80 (0, 0)) := by
  rcases h with ⟨_, v, hb, _⟩ | ⟨_, v, hb, _⟩
  · exact ⟨_, hb⟩
  · exact ⟨_, hb⟩
theorem impl_MarkWords.k_row {w w1 : World} {base b : Nat} {s : ByteArray} {e : Nat} {ok : Nat → Prop} {v : Value} {xs : List S84} (h : Kd.R k84 84 w e ok v xs) (hb : impl_MarkWords.B w base b s) (hk : Lib.OthersKept 5 (some b) w w1) : Kd.R k84 84 w1 e ok v xs := by
  obtain ⟨cs, hc⟩ := impl_MarkWords.b_typed hb
  refine Kd.R_mono (Kd.R_move (Kd.R_bound h) fun k hq => ?_) fun _ hq => hq.1
  obtain ⟨_, _, _, q, hq, cells, hk2⟩ := hq
  have nq : ∀ q, q ∈ 84 :: (k84 : Kd S84).E → q ≠ 80 ∧ q ≠ 5 := by decide
  have n2 := nq q hq
  refine (hk k _ hk2 ?_ ?_).trans hk2.symm
  · intro z
    injection z with z
    subst z
    rw [hk2] at hc
    injection hc with hc
    injection hc with _ hc
    exact n2.1 hc
  · intro c fz z
    injection z with _ z
    exact n2.2 z
theorem impl_MarkWords.k_blk {w w1 : World} {base b g : Nat} {s : ByteArray} {cs : Array Value} (h : w.heap[g]? = some (.cells cs 84 (0, 0))) (hb : impl_MarkWords.B w base b s) (hk : Lib.OthersKept 5 (some b) w w1) : w1.heap[g]? = some (.cells cs 84 (0, 0)) := by
  obtain ⟨c2, hc⟩ := impl_MarkWords.b_typed hb
  refine hk g _ h ?_ ?_
  · intro z
    injection z with z
    subst z
    rw [h] at hc
    injection hc with hc
    injection hc with _ hc
    exact absurd hc (by decide)
  · intro c fz z
    injection z with _ z
    exact absurd z (by decide)
theorem impl_MarkWords.b_cells (s x : ByteArray) : Lib.byteCells s.data.toList ++ Lib.strCells x = Lib.byteCells (s ++ x).data.toList := by
  rw [ByteArray.data_append, Array.toList_append, Lib.byteCells_append, Lib.strCells_eq]
theorem impl_MarkWords.write {w : World} {base b : Nat} {s x r : ByteArray} (h : impl_MarkWords.B w base b s) (hw : impl_MarkWords.ws s x = some r) (hB : base ≤ w.heap.size) :
    Calls Try.prog 62 #[.pointer (some ⟨b, 0, none⟩), .string x] w fun e w' => e = .returned (.tuple #[.int .i64 x.size, .nilIface]) ∧ impl_MarkWords.B w' base b r ∧ Below base w w' ∧ Lib.OthersKept 5 (some b) w w' := by
  unfold impl_MarkWords.ws at hw
  split at hw
  · rename_i hl
    injection hw with hw
    subst hw
    have c : Calls Try.prog 62 #[.pointer (some ⟨b, 0, none⟩), .string x] w fun e w' => e = .returned (.tuple #[.int .i64 x.size, .nilIface]) ∧ (Lib.BuilderAtF 80 5 base b (.pointer (some ⟨b, 0, none⟩)) (Lib.byteCells s.data.toList ++ Lib.strCells x) w' ∧ Below base w w' ∧ Lib.OthersKept 5 (some b) w w') := impl_MarkWords.ws0 base b (Lib.byteCells s.data.toList) x w h (by rw [Lib.byteCells_length]; exact hl) hB
    refine c.mono ?_
    rintro e w1 ⟨he, h1, h2, h3⟩
    rw [impl_MarkWords.b_cells] at h1
    exact ⟨he, .inr h1, h2, h3⟩
  · cases hw
theorem impl_MarkWords.read {w : World} {base b : Nat} {s r : ByteArray} (h : impl_MarkWords.B w base b s) (hr : impl_MarkWords.st s = some r) (hB : base ≤ w.heap.size) :
    Calls Try.prog 63 #[.pointer (some ⟨b, 0, none⟩)] w fun e w' => e = .returned (.string r) ∧ Below base w w' := by
  have hr2 : s = r := Option.some.inj hr
  subst hr2
  have c : Calls Try.prog 63 #[.pointer (some ⟨b, 0, none⟩)] w fun e w' => e = .returned (.string ⟨s.data.toList.toArray⟩) ∧ (Lib.IsBuilderF 80 5 base b (Lib.byteCells s.data.toList) w' ∧ Below base w w' ∧ Lib.OthersKept 5 (some b) w w') := Any.Builder_String_any_k impl_MarkWords.lays169 impl_MarkWords.extra169 base b s.data.toList w h hB
  refine c.mono ?_
  rintro e w1 ⟨he, _, h2, _⟩
  exact ⟨he, h2⟩
mutual
def impl_MarkWords.j0 : Nat → ByteArray → List ByteArray → Bool → Option (ByteArray × Bool)
  | 0, _, _, _ => none
  | k + 1, x0, x1, x17 => if x17 = true then (some ((⟨#[]⟩ : ByteArray), false)) else ((impl_runsOf.f k x0).bind fun t127 => (impl_MarkWords.l0 k x0 x1 (⟨#[]⟩ : ByteArray) 0 t127 (t127.length : Int) 0))
def impl_MarkWords.l0 : Nat → ByteArray → List ByteArray → ByteArray → Int → List (S84) → Int → Int → Option (ByteArray × Bool)
  | 0, _, _, _, _, _, _, _ => none
  | k + 1, x0, x1, x6, x7, x20, x21, x22 => if x22 < x21 then (if 0 ≤ x22 then (if x22 < (x20.length : Int) then ((slices_Contains_string_string.f k x1 ((rd_T84 x20 x22).f2)).bind fun t133 => (if t133 = true then (if 0 ≤ x7 then (if x7 ≤ ((rd_T84 x20 x22).f0) then (if ((rd_T84 x20 x22).f0) ≤ (x0.size : Int) then (if (x0.extract (x7 : Int).toNat (((rd_T84 x20 x22).f0) : Int).toNat).size + 1 ≤ 9223372036854775807 then (if 0 ≤ ((rd_T84 x20 x22).f0) then (if ((rd_T84 x20 x22).f0) ≤ ((rd_T84 x20 x22).f1) then (if ((rd_T84 x20 x22).f1) ≤ (x0.size : Int) then (if ((x0.extract (x7 : Int).toNat (((rd_T84 x20 x22).f0) : Int).toNat) ++ (⟨#[91]⟩ : ByteArray)).size + (x0.extract (((rd_T84 x20 x22).f0) : Int).toNat (((rd_T84 x20 x22).f1) : Int).toNat).size ≤ 9223372036854775807 then (if (((x0.extract (x7 : Int).toNat (((rd_T84 x20 x22).f0) : Int).toNat) ++ (⟨#[91]⟩ : ByteArray)) ++ (x0.extract (((rd_T84 x20 x22).f0) : Int).toNat (((rd_T84 x20 x22).f1) : Int).toNat)).size + 1 ≤ 9223372036854775807 then ((impl_MarkWords.ws x6 ((((x0.extract (x7 : Int).toNat (((rd_T84 x20 x22).f0) : Int).toNat) ++ (⟨#[91]⟩ : ByteArray)) ++ (x0.extract (((rd_T84 x20 x22).f0) : Int).toNat (((rd_T84 x20 x22).f1) : Int).toNat)) ++ (⟨#[93]⟩ : ByteArray))).bind fun t134 => (impl_MarkWords.l0 k x0 x1 t134 ((rd_T84 x20 x22).f1) x20 x21 (wrap64 (x22 + 1)))) else (none)) else (none)) else (none)) else (none)) else (none)) else (none)) else (none)) else (none)) else (none)) else (impl_MarkWords.l0 k x0 x1 x6 x7 x20 x21 (wrap64 (x22 + 1))))) else (none)) else (none)) else ((impl_MarkWords.st x6).bind fun t130 => (if 0 ≤ x7 then (if x7 ≤ (x0.size : Int) then (if t130.size + (x0.extract (x7 : Int).toNat x0.size).size ≤ 9223372036854775807 then (some (t130 ++ (x0.extract (x7 : Int).toNat x0.size), true)) else (none)) else (none)) else (none)))
end
def impl_MarkWords.f (k : Nat) (a0 : ByteArray) (l1 : List ByteArray) : Option (ByteArray × Bool) := (impl_IsText.f k a0).bind fun t125 => (if t125 = true then ((impl_queryOk.f k l1).bind fun t126 => (impl_MarkWords.j0 k a0 l1 (!t126))) else (impl_MarkWords.j0 k a0 l1 true))
theorem impl_MarkWords.mono_l : ∀ k, (∀ y0 y1 y2, LeO (impl_MarkWords.j0 k y0 y1 y2) (impl_MarkWords.j0 (k + 1) y0 y1 y2)) ∧ (∀ y0 y1 y2 y3 y4 y5 y6, LeO (impl_MarkWords.l0 k y0 y1 y2 y3 y4 y5 y6) (impl_MarkWords.l0 (k + 1) y0 y1 y2 y3 y4 y5 y6))
  | 0 => ⟨fun _ _ _ r h => by simp [impl_MarkWords.j0] at h, fun _ _ _ _ _ _ _ r h => by simp [impl_MarkWords.l0] at h⟩
  | k + 1 => by
    obtain ⟨ih0, ih1⟩ := impl_MarkWords.mono_l k
    refine ⟨?_, ?_⟩
    · intro y0 y1 y2
      unfold impl_MarkWords.j0
      repeat' first
      | (with_reducible exact ih0 _ _ _)
      | (with_reducible exact ih1 _ _ _ _ _ _ _)
      | (with_reducible exact impl_IsText.mono _ _)
      | (with_reducible exact impl_queryOk.mono _ _)
      | (with_reducible exact impl_runsOf.mono _ _)
      | (with_reducible exact slices_Contains_string_string.mono _ _ _)
      | (with_reducible exact LeO.refl _)
      | (with_reducible exact LeO.none _)
      | (with_reducible refine LeO.ite ?_ ?_)
      | (with_reducible refine LeO.bind ?_ (fun _ => ?_))
      | exact ih0 _ _ _
      | exact ih1 _ _ _ _ _ _ _
      | exact impl_IsText.mono _ _
      | exact impl_queryOk.mono _ _
      | exact impl_runsOf.mono _ _
      | exact slices_Contains_string_string.mono _ _ _
      | exact LeO.none _
      | refine LeO.ite ?_ ?_
      | refine LeO.bind ?_ (fun _ => ?_)
    · intro y0 y1 y2 y3 y4 y5 y6
      unfold impl_MarkWords.l0
      repeat' first
      | (with_reducible exact ih0 _ _ _)
      | (with_reducible exact ih1 _ _ _ _ _ _ _)
      | (with_reducible exact impl_IsText.mono _ _)
      | (with_reducible exact impl_queryOk.mono _ _)
      | (with_reducible exact impl_runsOf.mono _ _)
      | (with_reducible exact slices_Contains_string_string.mono _ _ _)
      | (with_reducible exact LeO.refl _)
      | (with_reducible exact LeO.none _)
      | (with_reducible refine LeO.ite ?_ ?_)
      | (with_reducible refine LeO.bind ?_ (fun _ => ?_))
      | exact ih0 _ _ _
      | exact ih1 _ _ _ _ _ _ _
      | exact impl_IsText.mono _ _
      | exact impl_queryOk.mono _ _
      | exact impl_runsOf.mono _ _
      | exact slices_Contains_string_string.mono _ _ _
      | exact LeO.none _
      | refine LeO.ite ?_ ?_
      | refine LeO.bind ?_ (fun _ => ?_)
theorem impl_MarkWords.mono : ∀ a0 a1 k, LeO (impl_MarkWords.f k a0 a1) (impl_MarkWords.f (k + 1) a0 a1) := by
  intro a0 a1 k
  obtain ⟨ih0, ih1⟩ := impl_MarkWords.mono_l k
  unfold impl_MarkWords.f
  repeat' first
      | (with_reducible exact ih0 _ _ _)
      | (with_reducible exact ih1 _ _ _ _ _ _ _)
      | (with_reducible exact impl_IsText.mono _ _)
      | (with_reducible exact impl_queryOk.mono _ _)
      | (with_reducible exact impl_runsOf.mono _ _)
      | (with_reducible exact slices_Contains_string_string.mono _ _ _)
      | (with_reducible exact LeO.refl _)
      | (with_reducible exact LeO.none _)
      | (with_reducible refine LeO.ite ?_ ?_)
      | (with_reducible refine LeO.bind ?_ (fun _ => ?_))
      | exact ih0 _ _ _
      | exact ih1 _ _ _ _ _ _ _
      | exact impl_IsText.mono _ _
      | exact impl_queryOk.mono _ _
      | exact impl_runsOf.mono _ _
      | exact slices_Contains_string_string.mono _ _ _
      | exact LeO.none _
      | refine LeO.ite ?_ ?_
      | refine LeO.bind ?_ (fun _ => ?_)
def impl_MarkWords.T8 : Bool × List (List Nat × List Nat) := (true, [([], []), ([], []), ([], []), ([2], [2]), ([0, 1, 3], [0, 1, 3]), ([4], [4]), ([], []), ([], []), ([7], [7]), ([], []), ([9], [9]), ([6, 8, 10], [6, 8, 10]), ([5, 11], [5, 11]), ([12], [12]), ([13], [13])])
def impl_MarkWords.B8 : List Nat := [0, 0, 0, 4, 15, 31, 0, 0, 128, 0, 512, 1984, 4095, 8191, 16383]
theorem impl_MarkWords.tab8 : rtab .any (opsOf Try.f22 8) = impl_MarkWords.T8 := by kernel_rfl
theorem impl_MarkWords.bits8 : waitsOk impl_MarkWords.T8.2 impl_MarkWords.B8 = true := by kernel_rfl
set_option maxHeartbeats 8000000 in
set_option maxRecDepth 100000 in
theorem impl_MarkWords.calls (k : Nat) (a0 : ByteArray) (A1 : Option Addr) (c1 : Nat) (l1 : List ByteArray) (r1 : ByteArray) (r2 : Bool) (w : World) (hr1 : Kd.C Kd.string w A1 l1.length l1) (hc1 : l1.length ≤ c1) (h : impl_MarkWords.f k a0 l1 = some (r1, r2)) :
    Calls Try.prog 22 #[.string a0, .slice A1 l1.length c1] w fun e w' => e = .returned (.tuple #[.string r1, .bool r2]) ∧ Below w.heap.size w w' := by
  have hu84 := Try.underlying84
  have hu80 := Try.underlying80
  have HR1 := Aside0.mk hr1
  have HC1 := Aside0.mk hc1
  clear hr1 hc1
  have HB := Aside0.mk (Below.refl w.heap.size w)
  have H : ((impl_IsText.f k a0).bind fun t125 => (if t125 = true then ((impl_queryOk.f k l1).bind fun t126 => (impl_MarkWords.j0 k a0 l1 (!t126))) else (impl_MarkWords.j0 k a0 l1 true))) = some (r1, r2) := h
  clear h
  have HC3 := Aside0.mk H
  clear H
  go_enter Try.func22, Try.ntmps22
  go_upto_region 1 with (fail)
  go_cut [17] (fun v17 wc => ∃ (kq : Nat) (x17_2 : Bool), v17 = .bool x17_2 ∧ Aside0 (impl_MarkWords.j0 kq a0 l1 x17_2 = some (r1, r2)) ∧ Aside0 (kq ≤ k) ∧ Aside0 (Below w.heap.size w wc))
  case first =>
    have H := HC3.out
    clear HC3
    replace H := Option.bind_eq_some_iff.mp H
    obtain ⟨t125, A40, H⟩ := H
    replace H : (if t125 = true then ((impl_queryOk.f k l1).bind fun t126 => (impl_MarkWords.j0 k a0 l1 (!t126))) else (impl_MarkWords.j0 k a0 l1 true)) = some (r1, r2) := H
    have A4 := Aside0.mk A40
    clear A40
    by_cases c5 : t125 = true
    · subst c5
      have H1 : ((impl_queryOk.f k l1).bind fun t126 => (impl_MarkWords.j0 k a0 l1 (!t126))) = some (r1, r2) := by rw [if_pos rfl] at H; exact H
      clear H
      have H := H1
      clear H1
      replace H := Option.bind_eq_some_iff.mp H
      obtain ⟨t126, A60, H⟩ := H
      replace H : (impl_MarkWords.j0 k a0 l1 (!t126)) = some (r1, r2) := H
      have A6 := Aside0.mk A60
      clear A60
      have H' := Aside0.mk H
      clear H
      go_wp2_with (first | ((with_reducible refine gate_callee (f := 58) rfl ?_); refine goesL_ (some 11) rfl rfl Try.func58 (by kernel_rfl) rfl #[.string a0] rfl (by (try simp only [List.map_toArray, List.map_cons, List.map_nil]); first | done | rfl | (simp only [List.length_drop, List.length_take]; rfl)) ?_; (with_reducible refine (impl_IsText.calls k a0 true _ A4.out).mono ?_); rintro e w' ⟨rfl, ⟨nd, rfl⟩⟩; refine ⟨_, rfl, ?_⟩) | (go_at_call 59; (with_reducible refine (impl_queryOk.calls k _ _ l1 t126 _ ?side1 ?side2 A6.out).mono ?_); (case side1 => repeat (first | exact (Kd.C_below HR1.out (by repeat (first | (with_reducible first | exact HB.out | apply below_alloc | apply pw_below_drewN | apply below_drew1) | exact HB.out))) | (with_reducible refine Kd.C_alloc ?_ _) | (with_reducible refine Kd.C_drewN ?_ _) | (with_reducible refine Kd.C_drew ?_))); (case side2 => exact HC1.out); rintro e w7 ⟨rfl, hb⟩; replace HB := Aside0.mk (below_step (by repeat (first | (with_reducible first | exact HB.out | apply below_alloc | apply pw_below_drewN | apply below_drew1) | exact HB.out)) hb); (try clear hb); (try clear hb2); (try clear hk); (try clear hi)))
      go_meet
      case rel => exact ⟨_, (!t126), (by first | rfl | (simp; done) | (simp [*]; done)), H', ⟨by first | omega | exact Nat.le_refl _⟩, ⟨by repeat (first | (with_reducible first | exact HB.out | apply below_alloc | apply pw_below_drewN | apply below_drew1) | exact HB.out)⟩⟩
    · replace c5 := Bool.eq_false_iff.mpr c5
      subst c5
      have H1 : (impl_MarkWords.j0 k a0 l1 true) = some (r1, r2) := by rw [if_neg (show ¬ (false = true) by decide)] at H; exact H
      clear H
      have H := H1
      clear H1
      have H' := Aside0.mk H
      clear H
      go_wp2_with (first | ((with_reducible refine gate_callee (f := 58) rfl ?_); refine goesL_ (some 11) rfl rfl Try.func58 (by kernel_rfl) rfl #[.string a0] rfl (by (try simp only [List.map_toArray, List.map_cons, List.map_nil]); first | done | rfl | (simp only [List.length_drop, List.length_take]; rfl)) ?_; (with_reducible refine (impl_IsText.calls k a0 false _ A4.out).mono ?_); rintro e w' ⟨rfl, ⟨nd, rfl⟩⟩; refine ⟨_, rfl, ?_⟩))
      go_meet
      case rel => exact ⟨_, (true), (by first | rfl | (simp; done) | (simp [*]; done)), H', ⟨by first | omega | exact Nat.le_refl _⟩, ⟨by repeat (first | (with_reducible first | exact HB.out | apply below_alloc | apply pw_below_drewN | apply below_drew1) | exact HB.out)⟩⟩
  case rest =>
    clear HC3
    try clear c1
    try clear c2
    try clear p2
    try clear c5
    obtain ⟨kq, x17_2, rfl, HA, HJ2, HB⟩ := hcut
    cases kq with
    | zero => exact absurd HA.out (by simp [impl_MarkWords.j0])
    | succ kj2 =>
      have H := HA.out
      clear HA
      simp only [impl_MarkWords.j0] at H
      by_cases c8 : x17_2 = true
      · subst c8
        have H1 : (some ((⟨#[]⟩ : ByteArray), false)) = some (r1, r2) := by rw [if_pos rfl] at H; exact H
        clear H
        have H := H1
        clear H1
        simp only [Option.some.injEq, Prod.mk.injEq] at H
        obtain ⟨rfl, rfl⟩ := H
        go_wp2
        go_ret2
        exact ⟨by first | rfl | (simp [errW_none, errW_some] <;> rfl) | (simp [*, errW_none, errW_some] <;> rfl), by repeat (first | (with_reducible first | exact HB.out | apply below_alloc | apply pw_below_drewN | apply below_drew1) | exact HB.out)⟩
      · replace c8 := Bool.eq_false_iff.mpr c8
        subst c8
        have H1 : ((impl_runsOf.f kj2 a0).bind fun t127 => (impl_MarkWords.l0 kj2 a0 l1 (⟨#[]⟩ : ByteArray) 0 t127 (t127.length : Int) 0)) = some (r1, r2) := by rw [if_neg (show ¬ (false = true) by decide)] at H; exact H
        clear H
        have H := H1
        clear H1
        replace H := Option.bind_eq_some_iff.mp H
        obtain ⟨t127, A90, H⟩ := H
        replace H : (impl_MarkWords.l0 kj2 a0 l1 (⟨#[]⟩ : ByteArray) 0 t127 (t127.length : Int) 0) = some (r1, r2) := H
        have A9 := Aside0.mk A90
        clear A90
        have H' := Aside0.mk H
        clear H
        go_wp2_with (first | ((with_reducible refine gate_dst (N := 6) rfl ?_); refine box_event ?hg (N := 6) ?hd (cs := #[.pointer none, .slice none 0 0]) (t := 80) ?hr ?_; (case hd => rfl); (case hg => rfl); (case hr => first | (go_simp; done) | (go_simp; rfl)); intro gb6 hg w9 hbox hb; have GW6 := Aside0.mk ((by rw [hg]; exact (below_size (by repeat (first | (with_reducible first | exact HB.out | apply below_alloc | apply pw_below_drewN | apply below_drew1) | exact HB.out))) : w.heap.size ≤ gb6)); replace HB := Aside0.mk (below_step (by repeat (first | (with_reducible first | exact HB.out | apply below_alloc | apply pw_below_drewN | apply below_drew1) | exact HB.out)) hb); have BK6 := Aside0.mk (hbox); clear hb hbox hg; have hcz6_0 : w9.cell? ⟨gb6, 0, none⟩ = some (.pointer none) := (blk_cell BK6.out 0).trans rfl; have hcz6_1 : w9.cell? ⟨gb6, 1, none⟩ = some (.slice none 0 0) := (blk_cell BK6.out 1).trans rfl; have hfz6_0 := blk_frozen BK6.out 0; have hfz6_1 := blk_frozen BK6.out 1) | ((with_reducible refine gate_callee (f := 60) rfl ?_); refine goesL_ (some 20) rfl rfl Try.func60 (by kernel_rfl) rfl #[.string a0] rfl (by (try simp only [List.map_toArray, List.map_cons, List.map_nil]); first | done | rfl | (simp only [List.length_drop, List.length_take]; rfl)) ?_; (with_reducible refine (impl_runsOf.calls kj2 a0 t127 _ A9.out).mono ?_); rintro e w10 ⟨v128, rfl, ho0, hb⟩; refine ⟨_, rfl, ?_⟩; have HO129 := Aside0.mk (Kd.R_lower ho0 (below_size (by repeat (first | (with_reducible first | exact HB.out | apply below_alloc | apply pw_below_drewN | apply below_drew1 | refine below_set ?_ GW6.out) | exact HB.out)))); have BLD := Aside0.mk (impl_MarkWords.b_below (impl_MarkWords.b_fresh GW6.out (by (with_reducible repeat (first | refine blk_drewN ?_ _ | refine blk_drew ?_ | refine blk_alloc ?_ _)); refine blk_put (cs := #[.pointer none, .slice none 0 0]) ?_ 1 _ rfl; (with_reducible repeat (first | refine blk_drewN ?_ _ | refine blk_drew ?_ | refine blk_alloc ?_ _)); refine blk_put (cs := #[.pointer none, .slice none 0 0]) ?_ 0 _ rfl; (with_reducible repeat (first | refine blk_drewN ?_ _ | refine blk_drew ?_ | refine blk_alloc ?_ _)); exact BK6.out)) hb); replace HB := Aside0.mk (below_step (by repeat (first | (with_reducible first | exact HB.out | apply below_alloc | apply pw_below_drewN | apply below_drew1 | refine below_set ?_ GW6.out) | exact HB.out)) hb); (try clear hb); (try clear hb2); (try clear hk); (try clear hi); (try clear ho0); obtain ⟨Ao11, co11, eo11⟩ := Kd.R_slice HO129.out; subst eo11))
        go_loopg [7, 22] kj2 (fun kq v7 v22 w' => ∃ (x6_2 : ByteArray) (x7_2 : Int) (x22_2 : Int), v7 = .int .i64 x7_2 ∧ v22 = .int .i64 x22_2 ∧ Aside0 (impl_MarkWords.l0 kq a0 l1 x6_2 x7_2 t127 (t127.length : Int) x22_2 = some (r1, r2)) ∧ Aside0 (kq ≤ kj2) ∧ Aside0 (Kd.R k84 84 w' w.heap.size (fun _ => True) (.slice Ao11 t127.length co11) t127) ∧ Aside0 (impl_MarkWords.B w' w.heap.size gb6 x6_2) ∧ Aside0 (Below w.heap.size w w'))
        case atStart => exact ⟨((⟨#[]⟩ : ByteArray)), (0), (0), (by first | rfl | (simp; done) | (simp [*]; done)), (by first | rfl | (simp; done) | (simp [*]; done)), H', ⟨Nat.le_refl _⟩, ⟨by (with_reducible repeat (first | apply Kd.R_alloc | apply Kd.R_drewN | apply Kd.R_drew)); exact HO129.out⟩, ⟨by (with_reducible repeat (first | refine impl_MarkWords.b_drewN ?_ _ | refine impl_MarkWords.b_drew ?_ | refine impl_MarkWords.b_alloc ?_ _)); exact BLD.out⟩, ⟨by repeat (first | (with_reducible first | exact HB.out | apply below_alloc | apply pw_below_drewN | apply below_drew1) | exact HB.out)⟩⟩
        case round =>
          clear H'
          try clear c1
          try clear c2
          try clear p2
          try clear c5
          try clear c6
          try clear c8
          try clear p2
          obtain ⟨x6_2, x7_2, x22_2, rfl, rfl, HA, HK2, HO_20, BLD, HB⟩ := hrel
          cases gk with
          | zero => exact absurd HA.out (by simp [impl_MarkWords.l0])
          | succ k2 =>
            have H := HA.out
            clear HA
            simp only [impl_MarkWords.l0] at H
            by_cases c12 : x22_2 < (t127.length : Int)
            · rw [if_pos c12] at H
              have c12b0 : decide (x22_2 < (t127.length : Int)) = true := decide_eq_true c12
              clear c12
              by_cases c13 : 0 ≤ x22_2
              · rw [if_pos c13] at H
                have c13b0 : decide (0 ≤ x22_2) = true := decide_eq_true c13
                clear c13
                by_cases c14 : x22_2 < (t127.length : Int)
                · rw [if_pos c14] at H
                  have c14b0 : decide (x22_2 < (t127.length : Int)) = true := decide_eq_true c14
                  clear c14
                  replace H := Option.bind_eq_some_iff.mp H
                  obtain ⟨t133, A150, H⟩ := H
                  replace H : (if t133 = true then (if 0 ≤ x7_2 then (if x7_2 ≤ ((rd_T84 t127 x22_2).f0) then (if ((rd_T84 t127 x22_2).f0) ≤ (a0.size : Int) then (if (a0.extract (x7_2 : Int).toNat (((rd_T84 t127 x22_2).f0) : Int).toNat).size + 1 ≤ 9223372036854775807 then (if 0 ≤ ((rd_T84 t127 x22_2).f0) then (if ((rd_T84 t127 x22_2).f0) ≤ ((rd_T84 t127 x22_2).f1) then (if ((rd_T84 t127 x22_2).f1) ≤ (a0.size : Int) then (if ((a0.extract (x7_2 : Int).toNat (((rd_T84 t127 x22_2).f0) : Int).toNat) ++ (⟨#[91]⟩ : ByteArray)).size + (a0.extract (((rd_T84 t127 x22_2).f0) : Int).toNat (((rd_T84 t127 x22_2).f1) : Int).toNat).size ≤ 9223372036854775807 then (if (((a0.extract (x7_2 : Int).toNat (((rd_T84 t127 x22_2).f0) : Int).toNat) ++ (⟨#[91]⟩ : ByteArray)) ++ (a0.extract (((rd_T84 t127 x22_2).f0) : Int).toNat (((rd_T84 t127 x22_2).f1) : Int).toNat)).size + 1 ≤ 9223372036854775807 then ((impl_MarkWords.ws x6_2 ((((a0.extract (x7_2 : Int).toNat (((rd_T84 t127 x22_2).f0) : Int).toNat) ++ (⟨#[91]⟩ : ByteArray)) ++ (a0.extract (((rd_T84 t127 x22_2).f0) : Int).toNat (((rd_T84 t127 x22_2).f1) : Int).toNat)) ++ (⟨#[93]⟩ : ByteArray))).bind fun t134 => (impl_MarkWords.l0 k2 a0 l1 t134 ((rd_T84 t127 x22_2).f1) t127 (t127.length : Int) (wrap64 (x22_2 + 1)))) else (none)) else (none)) else (none)) else (none)) else (none)) else (none)) else (none)) else (none)) else (none)) else (impl_MarkWords.l0 k2 a0 l1 x6_2 x7_2 t127 (t127.length : Int) (wrap64 (x22_2 + 1)))) = some (r1, r2) := H
                  have A15 := Aside0.mk A150
                  clear A150
                  by_cases c16 : t133 = true
                  · subst c16
                    have H1 : (if 0 ≤ x7_2 then (if x7_2 ≤ ((rd_T84 t127 x22_2).f0) then (if ((rd_T84 t127 x22_2).f0) ≤ (a0.size : Int) then (if (a0.extract (x7_2 : Int).toNat (((rd_T84 t127 x22_2).f0) : Int).toNat).size + 1 ≤ 9223372036854775807 then (if 0 ≤ ((rd_T84 t127 x22_2).f0) then (if ((rd_T84 t127 x22_2).f0) ≤ ((rd_T84 t127 x22_2).f1) then (if ((rd_T84 t127 x22_2).f1) ≤ (a0.size : Int) then (if ((a0.extract (x7_2 : Int).toNat (((rd_T84 t127 x22_2).f0) : Int).toNat) ++ (⟨#[91]⟩ : ByteArray)).size + (a0.extract (((rd_T84 t127 x22_2).f0) : Int).toNat (((rd_T84 t127 x22_2).f1) : Int).toNat).size ≤ 9223372036854775807 then (if (((a0.extract (x7_2 : Int).toNat (((rd_T84 t127 x22_2).f0) : Int).toNat) ++ (⟨#[91]⟩ : ByteArray)) ++ (a0.extract (((rd_T84 t127 x22_2).f0) : Int).toNat (((rd_T84 t127 x22_2).f1) : Int).toNat)).size + 1 ≤ 9223372036854775807 then ((impl_MarkWords.ws x6_2 ((((a0.extract (x7_2 : Int).toNat (((rd_T84 t127 x22_2).f0) : Int).toNat) ++ (⟨#[91]⟩ : ByteArray)) ++ (a0.extract (((rd_T84 t127 x22_2).f0) : Int).toNat (((rd_T84 t127 x22_2).f1) : Int).toNat)) ++ (⟨#[93]⟩ : ByteArray))).bind fun t134 => (impl_MarkWords.l0 k2 a0 l1 t134 ((rd_T84 t127 x22_2).f1) t127 (t127.length : Int) (wrap64 (x22_2 + 1)))) else (none)) else (none)) else (none)) else (none)) else (none)) else (none)) else (none)) else (none)) else (none)) = some (r1, r2) := by rw [if_pos rfl] at H; exact H
                    clear H
                    have H := H1
                    clear H1
                    by_cases c17 : 0 ≤ x7_2
                    · rw [if_pos c17] at H
                      have c17b0 := eq_true c17
                      have c17b1 : decide (0 ≤ x7_2) = true := decide_eq_true c17
                      clear c17
                      by_cases c18 : x7_2 ≤ ((rd_T84 t127 x22_2).f0)
                      · rw [if_pos c18] at H
                        have c18b0 := eq_true c18
                        have c18b1 : decide (x7_2 ≤ ((rd_T84 t127 x22_2).f0)) = true := decide_eq_true c18
                        clear c18
                        by_cases c19 : ((rd_T84 t127 x22_2).f0) ≤ (a0.size : Int)
                        · rw [if_pos c19] at H
                          have c19b0 := eq_true c19
                          have c19b1 : decide (((rd_T84 t127 x22_2).f0) ≤ (a0.size : Int)) = true := decide_eq_true c19
                          clear c19
                          by_cases c20 : (a0.extract (x7_2 : Int).toNat (((rd_T84 t127 x22_2).f0) : Int).toNat).size + 1 ≤ 9223372036854775807
                          · rw [if_pos c20] at H
                            have c20b0 := eq_true c20
                            have c20b1 : decide ((a0.extract (x7_2 : Int).toNat (((rd_T84 t127 x22_2).f0) : Int).toNat).size + 1 ≤ 9223372036854775807) = true := decide_eq_true c20
                            try have c20b2 : (9223372036854775807 < (a0.extract (x7_2 : Int).toNat (((rd_T84 t127 x22_2).f0) : Int).toNat).size + 1) = False := eq_false (Nat.not_lt.2 c20)
                            by_cases c21 : 0 ≤ ((rd_T84 t127 x22_2).f0)
                            · rw [if_pos c21] at H
                              have c21b0 := eq_true c21
                              have c21b1 : decide (0 ≤ ((rd_T84 t127 x22_2).f0)) = true := decide_eq_true c21
                              clear c21
                              by_cases c22 : ((rd_T84 t127 x22_2).f0) ≤ ((rd_T84 t127 x22_2).f1)
                              · rw [if_pos c22] at H
                                have c22b0 := eq_true c22
                                have c22b1 : decide (((rd_T84 t127 x22_2).f0) ≤ ((rd_T84 t127 x22_2).f1)) = true := decide_eq_true c22
                                clear c22
                                by_cases c23 : ((rd_T84 t127 x22_2).f1) ≤ (a0.size : Int)
                                · rw [if_pos c23] at H
                                  have c23b0 := eq_true c23
                                  have c23b1 : decide (((rd_T84 t127 x22_2).f1) ≤ (a0.size : Int)) = true := decide_eq_true c23
                                  clear c23
                                  by_cases c24 : ((a0.extract (x7_2 : Int).toNat (((rd_T84 t127 x22_2).f0) : Int).toNat) ++ (⟨#[91]⟩ : ByteArray)).size + (a0.extract (((rd_T84 t127 x22_2).f0) : Int).toNat (((rd_T84 t127 x22_2).f1) : Int).toNat).size ≤ 9223372036854775807
                                  · rw [if_pos c24] at H
                                    have c24b0 := eq_true c24
                                    have c24b1 : decide (((a0.extract (x7_2 : Int).toNat (((rd_T84 t127 x22_2).f0) : Int).toNat) ++ (⟨#[91]⟩ : ByteArray)).size + (a0.extract (((rd_T84 t127 x22_2).f0) : Int).toNat (((rd_T84 t127 x22_2).f1) : Int).toNat).size ≤ 9223372036854775807) = true := decide_eq_true c24
                                    try have c24b2 : (9223372036854775807 < ((a0.extract (x7_2 : Int).toNat (((rd_T84 t127 x22_2).f0) : Int).toNat) ++ (⟨#[91]⟩ : ByteArray)).size + (a0.extract (((rd_T84 t127 x22_2).f0) : Int).toNat (((rd_T84 t127 x22_2).f1) : Int).toNat).size) = False := eq_false (Nat.not_lt.2 c24)
                                    by_cases c25 : (((a0.extract (x7_2 : Int).toNat (((rd_T84 t127 x22_2).f0) : Int).toNat) ++ (⟨#[91]⟩ : ByteArray)) ++ (a0.extract (((rd_T84 t127 x22_2).f0) : Int).toNat (((rd_T84 t127 x22_2).f1) : Int).toNat)).size + 1 ≤ 9223372036854775807
                                    · rw [if_pos c25] at H
                                      have c25b0 := eq_true c25
                                      have c25b1 : decide ((((a0.extract (x7_2 : Int).toNat (((rd_T84 t127 x22_2).f0) : Int).toNat) ++ (⟨#[91]⟩ : ByteArray)) ++ (a0.extract (((rd_T84 t127 x22_2).f0) : Int).toNat (((rd_T84 t127 x22_2).f1) : Int).toNat)).size + 1 ≤ 9223372036854775807) = true := decide_eq_true c25
                                      try have c25b2 : (9223372036854775807 < (((a0.extract (x7_2 : Int).toNat (((rd_T84 t127 x22_2).f0) : Int).toNat) ++ (⟨#[91]⟩ : ByteArray)) ++ (a0.extract (((rd_T84 t127 x22_2).f0) : Int).toNat (((rd_T84 t127 x22_2).f1) : Int).toNat)).size + 1) = False := eq_false (Nat.not_lt.2 c25)
                                      have q0_ : (9223372036854775807 < (rd_T84 t127 x22_2).f0.toNat - x7_2.toNat + 1) = False := eq_false (by have h1 := of_eq_true c20b0; have h2 := of_eq_true c19b0; have h3 := of_eq_true c23b0; have h4 := of_eq_true c24b0; have h5 := of_eq_true c25b0; simp only [ByteArray.size_append, ByteArray.size_extract] at h1 h4 h5; have h6 : (⟨#[91]⟩ : ByteArray).size = 1 := rfl; omega)
                                      have q1_ : (9223372036854775807 < (rd_T84 t127 x22_2).f0.toNat - x7_2.toNat + 1 + ((rd_T84 t127 x22_2).f1.toNat - (rd_T84 t127 x22_2).f0.toNat)) = False := eq_false (by have h1 := of_eq_true c20b0; have h2 := of_eq_true c19b0; have h3 := of_eq_true c23b0; have h4 := of_eq_true c24b0; have h5 := of_eq_true c25b0; simp only [ByteArray.size_append, ByteArray.size_extract] at h1 h4 h5; have h6 : (⟨#[91]⟩ : ByteArray).size = 1 := rfl; omega)
                                      have q2_ : (9223372036854775807 < (rd_T84 t127 x22_2).f0.toNat - x7_2.toNat + 1 + ((rd_T84 t127 x22_2).f1.toNat - (rd_T84 t127 x22_2).f0.toNat) + 1) = False := eq_false (by have h1 := of_eq_true c20b0; have h2 := of_eq_true c19b0; have h3 := of_eq_true c23b0; have h4 := of_eq_true c24b0; have h5 := of_eq_true c25b0; simp only [ByteArray.size_append, ByteArray.size_extract] at h1 h4 h5; have h6 : (⟨#[91]⟩ : ByteArray).size = 1 := rfl; omega)
                                      replace H := Option.bind_eq_some_iff.mp H
                                      obtain ⟨t134, A260, H⟩ := H
                                      replace H : (impl_MarkWords.l0 k2 a0 l1 t134 ((rd_T84 t127 x22_2).f1) t127 (t127.length : Int) (wrap64 (x22_2 + 1))) = some (r1, r2) := H
                                      have A26 := Aside0.mk A260
                                      clear A260
                                      have H' := Aside0.mk H
                                      clear H
                                      have p131 : 0 ≤ (x22_2 : Int) := of_decide_eq_true (by first | (with_reducible assumption) | assumption)
                                      have q131 : x22_2 < (t127.length : Int) := of_decide_eq_true (by first | (with_reducible assumption) | assumption)
                                      obtain ⟨ad131, e131, hx131_0, hx131_1, hx131_2⟩ := at_T84 (Kd.R_reads' HO_20.out).2.2 x22_2 p131 q131
                                      cases e131
                                      replace p131 := eq_true p131
                                      replace q131 := eq_true q131
                                      try go_wp2_with (first | ((with_reducible refine gate_dst (N := 9) rfl ?_); refine box_event ?hg (N := 9) ?hd (cs := #[.int .i64 0, .int .i64 0, .string (⟨#[]⟩ : ByteArray)]) (t := 84) ?hr ?_; (case hd => rfl); (case hg => rfl); (case hr => first | (go_simp; done) | (go_simp; rfl)); intro gb132 hg w27 hbox hb; have GW132 := Aside0.mk ((by rw [hg]; exact (below_size (by repeat (first | (with_reducible first | exact HB.out | apply below_alloc | apply pw_below_drewN | apply below_drew1) | exact HB.out))) : w.heap.size ≤ gb132)); have GE132 := Aside0.mk ((by rw [hg]; exact (below_size (by repeat (first | (with_reducible first | exact HB.out | apply below_alloc | apply pw_below_drewN | apply below_drew1) | exact HB.out))) : w.heap.size ≤ gb132)); replace HO_20 := Aside0.mk (Kd.R_below (Kd.R_elderB (by (with_reducible repeat (first | apply Kd.R_alloc | apply Kd.R_drewN | apply Kd.R_drew)); exact HO_20.out) gb132 (Nat.le_of_eq hg.symm)) hb); replace BLD := Aside0.mk (impl_MarkWords.b_below (by (with_reducible repeat (first | refine impl_MarkWords.b_drewN ?_ _ | refine impl_MarkWords.b_drew ?_ | refine impl_MarkWords.b_alloc ?_ _)); exact BLD.out) hb); replace HB := Aside0.mk (below_step (by repeat (first | (with_reducible first | exact HB.out | apply below_alloc | apply pw_below_drewN | apply below_drew1) | exact HB.out)) hb); have BK132 := Aside0.mk (hbox); clear hb hbox hg; have hcz28_0 : w27.cell? ⟨gb132, 0, none⟩ = some (.int .i64 0) := (blk_cell BK132.out 0).trans rfl; have hcz28_1 : w27.cell? ⟨gb132, 1, none⟩ = some (.int .i64 0) := (blk_cell BK132.out 1).trans rfl; have hcz28_2 : w27.cell? ⟨gb132, 2, none⟩ = some (.string (⟨#[]⟩ : ByteArray)) := (blk_cell BK132.out 2).trans rfl; have hfz28_0 := blk_frozen BK132.out 0; have hfz28_1 := blk_frozen BK132.out 1; have hfz28_2 := blk_frozen BK132.out 2) | ((with_reducible refine gate_callee (f := 61) rfl ?_); refine goesL_ (some 29) rfl rfl Try.func61 (by kernel_rfl) rfl #[.slice A1 l1.length c1, .string ((rd_T84 t127 x22_2).f2)] rfl (by (try simp only [List.map_toArray, List.map_cons, List.map_nil]); first | done | rfl | (simp only [List.length_drop, List.length_take]; rfl)) ?_; (with_reducible refine (slices_Contains_string_string.calls k2 _ _ l1 ((rd_T84 t127 x22_2).f2) true _ ?side1 ?side2 A15.out).mono ?_); (case side1 => exact Kd.C_below HR1.out (by repeat (first | (with_reducible first | exact HB.out | apply below_alloc | apply pw_below_drewN | apply below_drew1 | refine below_set ?_ GE132.out) | exact HB.out))); (case side2 => exact HC1.out); rintro e w' ⟨rfl, ⟨nd, rfl⟩⟩; refine ⟨_, rfl, ?_⟩))
                                      have n0_ : Aside0 (Kd.R k84 84 (((w27.setCell ⟨gb132, 0, none⟩ (.int .i64 ((rd_T84 t127 x22_2).f0))).setCell ⟨gb132, 1, none⟩ (.int .i64 ((rd_T84 t127 x22_2).f1))).setCell ⟨gb132, 2, none⟩ (.string ((rd_T84 t127 x22_2).f2))) w.heap.size (fun k_ => k_ ≠ gb132) (.slice (some ad131) t127.length co11) t127) := ⟨by (with_reducible repeat (first | apply Kd.R_alloc | apply Kd.R_drewN | apply Kd.R_drew)); exact Kd.R_mono (Kd.R_far3 (g := gb132) (Kd.R_mono HO_20.out (fun k_ hk => (⟨hk, hk.2⟩ : _ ∧ k_ ≠ gb132))) (fun _ hk => hk.2)) (fun _ hk => hk.1.2)⟩
                                      have n1_ : Aside0 ((((w27.setCell ⟨gb132, 0, none⟩ (.int .i64 ((rd_T84 t127 x22_2).f0))).setCell ⟨gb132, 1, none⟩ (.int .i64 ((rd_T84 t127 x22_2).f1))).setCell ⟨gb132, 2, none⟩ (.string ((rd_T84 t127 x22_2).f2))).heap[gb132]? = some (.cells #[.int .i64 ((rd_T84 t127 x22_2).f0), .int .i64 ((rd_T84 t127 x22_2).f1), .string ((rd_T84 t127 x22_2).f2)] 84 (0, 0))) := ⟨by (with_reducible repeat (first | refine blk_drewN ?_ _ | refine blk_drew ?_ | refine blk_alloc ?_ _)); refine blk_put3 (cs := #[.int .i64 0, .int .i64 0, .string (⟨#[]⟩ : ByteArray)]) ?_ rfl; (with_reducible repeat (first | refine blk_drewN ?_ _ | refine blk_drew ?_ | refine blk_alloc ?_ _)); exact BK132.out⟩
                                      have n2_ : Aside0 (Below w.heap.size w (((w27.setCell ⟨gb132, 0, none⟩ (.int .i64 ((rd_T84 t127 x22_2).f0))).setCell ⟨gb132, 1, none⟩ (.int .i64 ((rd_T84 t127 x22_2).f1))).setCell ⟨gb132, 2, none⟩ (.string ((rd_T84 t127 x22_2).f2)))) := ⟨by repeat (first | (with_reducible first | exact HB.out | apply below_alloc | apply pw_below_drewN | apply below_drew1 | refine below_set ?_ GE132.out) | exact HB.out)⟩
                                      have n3_ : Aside0 (impl_MarkWords.B (((w27.setCell ⟨gb132, 0, none⟩ (.int .i64 ((rd_T84 t127 x22_2).f0))).setCell ⟨gb132, 1, none⟩ (.int .i64 ((rd_T84 t127 x22_2).f1))).setCell ⟨gb132, 2, none⟩ (.string ((rd_T84 t127 x22_2).f2))) w.heap.size gb6 x6_2) := ⟨by (with_reducible repeat (first | refine impl_MarkWords.b_drewN ?_ _ | refine impl_MarkWords.b_drew ?_ | refine impl_MarkWords.b_alloc ?_ _)); refine impl_MarkWords.b_set3 ?_ BK132.out _ _ _; (with_reducible repeat (first | refine impl_MarkWords.b_drewN ?_ _ | refine impl_MarkWords.b_drew ?_ | refine impl_MarkWords.b_alloc ?_ _)); exact BLD.out⟩
                                      (try clear BLD)
                                      (try clear HO_20)
                                      (try clear BK132)
                                      (try clear HB)
                                      generalize (((w27.setCell ⟨gb132, 0, none⟩ (.int .i64 ((rd_T84 t127 x22_2).f0))).setCell ⟨gb132, 1, none⟩ (.int .i64 ((rd_T84 t127 x22_2).f1))).setCell ⟨gb132, 2, none⟩ (.string ((rd_T84 t127 x22_2).f2))) = w29 at n0_ n1_ n2_ n3_ ⊢
                                      have HO_20 := n0_
                                      have BK132 := n1_
                                      have HB := n2_
                                      have BLD := n3_
                                      clear n0_ n1_ n2_ n3_
                                      (try (rw [drewN_self w29]; generalize hq_ : World.drewN w29 _ = w29; have n0_ : Aside0 (Kd.R k84 84 w29 w.heap.size (fun k_ => k_ ≠ gb132) (.slice (some ad131) t127.length co11) t127) := ⟨by rw [← hq_]; exact (by (with_reducible repeat (first | apply Kd.R_alloc | apply Kd.R_drewN | apply Kd.R_drew)); exact HO_20.out)⟩; have n1_ : Aside0 (w29.heap[gb132]? = some (.cells #[.int .i64 ((rd_T84 t127 x22_2).f0), .int .i64 ((rd_T84 t127 x22_2).f1), .string ((rd_T84 t127 x22_2).f2)] 84 (0, 0))) := ⟨by rw [← hq_]; exact (by (with_reducible repeat (first | refine blk_drewN ?_ _ | refine blk_drew ?_ | refine blk_alloc ?_ _)); exact BK132.out)⟩; have n2_ : Aside0 (Below w.heap.size w w29) := ⟨by rw [← hq_]; exact (by repeat (first | (with_reducible first | exact HB.out | apply below_alloc | apply pw_below_drewN | apply below_drew1) | exact HB.out))⟩; have n3_ : Aside0 (impl_MarkWords.B w29 w.heap.size gb6 x6_2) := ⟨by rw [← hq_]; exact (by (with_reducible repeat (first | refine impl_MarkWords.b_drewN ?_ _ | refine impl_MarkWords.b_drew ?_ | refine impl_MarkWords.b_alloc ?_ _)); exact BLD.out)⟩; clear HO_20 BK132 HB BLD hq_; have BLD := n3_; have HO_20 := n0_; have BK132 := n1_; have HB := n2_; clear n0_ n1_ n2_ n3_))
                                      replace HO_20 := Aside0.mk (Kd.R_drew HO_20.out)
                                      replace BK132 := Aside0.mk (blk_drew BK132.out)
                                      replace BLD := Aside0.mk (impl_MarkWords.b_drew BLD.out)
                                      replace HB := Aside0.mk (below_drew1 HB.out)
                                      refine start_ (n := 15) (S := fun w' => w'.cell? ⟨gb132, 0, none⟩ = some (.int .i64 ((rd_T84 t127 x22_2).f0)) ∧ w'.cell? ⟨gb132, 1, none⟩ = some (.int .i64 ((rd_T84 t127 x22_2).f1)) ∧ w'.cell? ⟨gb132, 2, none⟩ = some (.string ((rd_T84 t127 x22_2).f2))) (ds := []) #[false, false, false, false, false, false, false, false, false, false, false, false, false, false, false] (by kernel_rfl) rfl rfl ⟨(blk_cell BK132.out 0).trans rfl, (blk_cell BK132.out 1).trans rfl, (blk_cell BK132.out 2).trans rfl⟩ (fun hHeld => ?_); refine with_tabW impl_MarkWords.tab8 impl_MarkWords.bits8 (fun HT_ HW_ => ?_)
                                      generalize w29.drew = w30 at HO_20 BK132 HB BLD hHeld ⊢
                                      refine pure_ (i := 0) (N := some 30) (v := ?_) (a' := ?_) #[true, false, false, false, false, false, false, false, false, false, false, false, false, false, false] rfl rfl (any_of HT_.out (by kernel_rfl)) (fun _ _ _ h => h) (Or.inl ⟨by rfl, ?_⟩) ?_ ?_
                                      rotate_left
                                      · intro w'
                                        go_simp
                                        with_reducible rfl
                                      rotate_left
                                      · simp only [Act.put, List.setIfInBounds_toArray, List.set_cons_zero, List.set_cons_succ, i64_w, i32_w]
                                        rfl
                                      refine pure_ (i := 1) (N := some 31) (v := ?_) (a' := ?_) #[true, true, false, false, false, false, false, false, false, false, false, false, false, false, false] rfl rfl (any_of HT_.out (by kernel_rfl)) (fun _ _ _ h => h) (Or.inl ⟨by rfl, ?_⟩) ?_ ?_
                                      rotate_left
                                      · intro w'
                                        go_simp
                                        with_reducible rfl
                                      rotate_left
                                      · simp only [Act.put, List.setIfInBounds_toArray, List.set_cons_zero, List.set_cons_succ, i64_w, i32_w]
                                        rfl
                                      refine pure_ (i := 2) (N := some 32) (v := ?_) (a' := ?_) #[true, true, true, false, false, false, false, false, false, false, false, false, false, false, false] rfl rfl (any_of HT_.out (by kernel_rfl)) (fun _ _ _ h => h) (Or.inl ⟨by rfl, ?_⟩) ?_ ?_
                                      rotate_left
                                      · intro w'
                                        go_simp
                                        with_reducible rfl
                                      rotate_left
                                      · simp only [Act.put, List.setIfInBounds_toArray, List.set_cons_zero, List.set_cons_succ, i64_w, i32_w]
                                        rfl
                                      refine pure_ (i := 6) (N := some 36) (v := ?_) (a' := ?_) #[true, true, true, false, false, false, true, false, false, false, false, false, false, false, false] rfl rfl (any_of HT_.out (by kernel_rfl)) (fun _ _ _ h => h) (Or.inl ⟨by rfl, ?_⟩) ?_ ?_
                                      rotate_left
                                      · intro w'
                                        go_simp
                                        with_reducible rfl
                                      rotate_left
                                      · simp only [Act.put, List.setIfInBounds_toArray, List.set_cons_zero, List.set_cons_succ, i64_w, i32_w]
                                        rfl
                                      refine pure_ (i := 7) (N := some 37) (v := ?_) (a' := ?_) #[true, true, true, false, false, false, true, true, false, false, false, false, false, false, false] rfl rfl (any_of HT_.out (by kernel_rfl)) (fun _ _ _ h => h) (Or.inl ⟨by rfl, ?_⟩) ?_ ?_
                                      rotate_left
                                      · intro w'
                                        go_simp
                                        with_reducible rfl
                                      rotate_left
                                      · simp only [Act.put, List.setIfInBounds_toArray, List.set_cons_zero, List.set_cons_succ, i64_w, i32_w]
                                        rfl
                                      refine pure_ (i := 9) (N := some 39) (v := ?_) (a' := ?_) #[true, true, true, false, false, false, true, true, false, true, false, false, false, false, false] rfl rfl (any_of HT_.out (by kernel_rfl)) (fun _ _ _ h => h) (Or.inl ⟨by rfl, ?_⟩) ?_ ?_
                                      rotate_left
                                      · intro w'
                                        go_simp
                                        with_reducible rfl
                                      rotate_left
                                      · simp only [Act.put, List.setIfInBounds_toArray, List.set_cons_zero, List.set_cons_succ, i64_w, i32_w]
                                        rfl
                                      refine take_ (i := 3) (N := some 33) (v := ?_) (a' := ?_) #[true, true, true, true, false, false, true, true, false, true, false, false, false, false, false] rfl rfl (take_ofW HT_.out HW_.out (by kernel_rfl)) (fun _ _ _ h => h) (Or.inl ⟨by rfl, ?_⟩) hHeld ?_ ?_
                                      rotate_left
                                      · rintro w' ⟨s0, s1, s2⟩
                                        go_simp
                                        with_reducible rfl
                                      rotate_left
                                      · simp only [Act.put, List.setIfInBounds_toArray, List.set_cons_zero, List.set_cons_succ, i64_w, i32_w]
                                        rfl
                                      refine pure_ (i := 4) (N := some 34) (v := ?_) (a' := ?_) #[true, true, true, true, true, false, true, true, false, true, false, false, false, false, false] rfl rfl (any_of HT_.out (by kernel_rfl)) (fun _ _ _ h => h) (Or.inl ⟨by rfl, ?_⟩) ?_ ?_
                                      rotate_left
                                      · intro w'
                                        go_simp
                                        with_reducible rfl
                                      rotate_left
                                      · simp only [Act.put, List.setIfInBounds_toArray, List.set_cons_zero, List.set_cons_succ, i64_w, i32_w]
                                        rfl
                                      refine pure_ (i := 5) (N := some 35) (v := ?_) (a' := ?_) #[true, true, true, true, true, true, true, true, false, true, false, false, false, false, false] rfl rfl (any_of HT_.out (by kernel_rfl)) (fun _ _ _ h => h) (Or.inl ⟨by rfl, ?_⟩) ?_ ?_
                                      rotate_left
                                      · intro w'
                                        go_simp
                                        with_reducible rfl
                                      rotate_left
                                      · simp only [Act.put, List.setIfInBounds_toArray, List.set_cons_zero, List.set_cons_succ, i64_w, i32_w]
                                        rfl
                                      refine take_ (i := 8) (N := some 38) (v := ?_) (a' := ?_) #[true, true, true, true, true, true, true, true, true, true, false, false, false, false, false] rfl rfl (take_ofW HT_.out HW_.out (by kernel_rfl)) (fun _ _ _ h => h) (Or.inl ⟨by rfl, ?_⟩) hHeld ?_ ?_
                                      rotate_left
                                      · rintro w' ⟨s0, s1, s2⟩
                                        go_simp
                                        with_reducible rfl
                                      rotate_left
                                      · simp only [Act.put, List.setIfInBounds_toArray, List.set_cons_zero, List.set_cons_succ, i64_w, i32_w]
                                        rfl
                                      refine take_ (i := 10) (N := some 40) (v := ?_) (a' := ?_) #[true, true, true, true, true, true, true, true, true, true, true, false, false, false, false] rfl rfl (take_ofW HT_.out HW_.out (by kernel_rfl)) (fun _ _ _ h => h) (Or.inl ⟨by rfl, ?_⟩) hHeld ?_ ?_
                                      rotate_left
                                      · rintro w' ⟨s0, s1, s2⟩
                                        go_simp
                                        with_reducible rfl
                                      rotate_left
                                      · simp only [Act.put, List.setIfInBounds_toArray, List.set_cons_zero, List.set_cons_succ, i64_w, i32_w]
                                        rfl
                                      refine pure_ (i := 11) (N := some 41) (v := ?_) (a' := ?_) #[true, true, true, true, true, true, true, true, true, true, true, true, false, false, false] rfl rfl (any_of HT_.out (by kernel_rfl)) (fun _ _ _ h => h) (Or.inl ⟨by rfl, ?_⟩) ?_ ?_
                                      rotate_left
                                      · intro w'
                                        go_simp
                                        with_reducible rfl
                                      rotate_left
                                      · simp only [Act.put, List.setIfInBounds_toArray, List.set_cons_zero, List.set_cons_succ, i64_w, i32_w]
                                        rfl
                                      refine pure_ (i := 12) (N := some 42) (v := ?_) (a' := ?_) #[true, true, true, true, true, true, true, true, true, true, true, true, true, false, false] rfl rfl (any_of HT_.out (by kernel_rfl)) (fun _ _ _ h => h) (Or.inl ⟨by rfl, ?_⟩) ?_ ?_
                                      rotate_left
                                      · intro w'
                                        go_simp
                                        with_reducible rfl
                                      rotate_left
                                      · simp only [Act.put, List.setIfInBounds_toArray, List.set_cons_zero, List.set_cons_succ, i64_w, i32_w]
                                        rfl
                                      refine pure_ (i := 13) (N := some 43) (v := ?_) (a' := ?_) #[true, true, true, true, true, true, true, true, true, true, true, true, true, true, false] rfl rfl (any_of HT_.out (by kernel_rfl)) (fun _ _ _ h => h) (Or.inl ⟨by rfl, ?_⟩) ?_ ?_
                                      rotate_left
                                      · intro w'
                                        go_simp
                                        with_reducible rfl
                                      rotate_left
                                      · simp only [Act.put, List.setIfInBounds_toArray, List.set_cons_zero, List.set_cons_succ, i64_w, i32_w]
                                        rfl
                                      refine one_ (i := 14) (N := some 44) #[true, true, true, true, true, true, true, true, true, true, true, true, true, true, true] rfl rfl (one_of HT_.out (by kernel_rfl)) (by decide) (fun K hK => ?_)
                                      refine goes_ Try.func62 (by kernel_rfl) rfl #[.pointer (some ⟨gb6, 0, none⟩), .string ((((a0.extract (x7_2 : Int).toNat (((rd_T84 t127 x22_2).f0) : Int).toNat) ++ (⟨#[91]⟩ : ByteArray)) ++ (a0.extract (((rd_T84 t127 x22_2).f0) : Int).toNat (((rd_T84 t127 x22_2).f1) : Int).toNat)) ++ (⟨#[93]⟩ : ByteArray))] (by rfl) rfl rfl (by (try simp only [List.map_toArray, List.map_cons, List.map_nil]); first | done | rfl | (simp only [List.length_drop, List.length_take]; rfl)) ?_
                                      refine (impl_MarkWords.write (by (with_reducible repeat (first | refine impl_MarkWords.b_drewN ?_ _ | refine impl_MarkWords.b_drew ?_ | refine impl_MarkWords.b_alloc ?_ _)); exact BLD.out) A26.out (below_size HB.out)).mono ?_
                                      rintro e w31 ⟨rfl, hbl, hb, hk⟩
                                      refine ⟨_, rfl, ?_⟩
                                      replace HO_20 := Aside0.mk (impl_MarkWords.k_row HO_20.out BLD.out hk)
                                      replace BK132 := Aside0.mk (impl_MarkWords.k_blk BK132.out BLD.out hk)
                                      replace BLD := Aside0.mk hbl
                                      replace HB := Aside0.mk (Below.trans HB.out hb)
                                      clear hbl
                                      (try clear hb)
                                      (try clear hb2)
                                      (try clear hk)
                                      (try clear hi)
                                      refine hK.out _ _ ⟨(blk_cell BK132.out 0).trans rfl, (blk_cell BK132.out 1).trans rfl, (blk_cell BK132.out 2).trans rfl⟩ (fun hHeld => ?_)
                                      clear hK K
                                      refine norm_ (a' := ?_) ?_ ?_
                                      rotate_left
                                      · show Act.put _ (some 44) _ = _
                                        simp only [Act.put, List.setIfInBounds_toArray, List.set_cons_zero, List.set_cons_succ, i64_w, i32_w]
                                        rfl
                                      refine done_ (done_of HT_.out (by kernel_rfl)) ?_
                                      have hcz32_0 : w31.cell? ⟨gb132, 0, none⟩ = some (.int .i64 ((rd_T84 t127 x22_2).f0)) := (blk_cell BK132.out 0).trans rfl
                                      have hcz32_1 : w31.cell? ⟨gb132, 1, none⟩ = some (.int .i64 ((rd_T84 t127 x22_2).f1)) := (blk_cell BK132.out 1).trans rfl
                                      have hcz32_2 : w31.cell? ⟨gb132, 2, none⟩ = some (.string ((rd_T84 t127 x22_2).f2)) := (blk_cell BK132.out 2).trans rfl
                                      have hfz32_0 := blk_frozen BK132.out 0
                                      have hfz32_1 := blk_frozen BK132.out 1
                                      have hfz32_2 := blk_frozen BK132.out 2
                                      try go_wp2
                                      go_roundg k2
                                      case measure => have := HJ2.out; have := HK2.out; omega
                                      case rel => exact ⟨(t134), ((rd_T84 t127 x22_2).f1), (wrap64 (x22_2 + 1)), (by first | rfl | (simp; done) | (simp [*]; done)), (by first | rfl | (simp; done) | (simp [*]; done)), H', ⟨by have := HJ2.out; have := HK2.out; omega⟩, ⟨by (with_reducible repeat (first | apply Kd.R_alloc | apply Kd.R_drewN | apply Kd.R_drew)); exact Kd.R_mono HO_20.out (fun _ hk => trivial)⟩, ⟨by (with_reducible repeat (first | refine impl_MarkWords.b_drewN ?_ _ | refine impl_MarkWords.b_drew ?_ | refine impl_MarkWords.b_alloc ?_ _)); exact BLD.out⟩, ⟨by repeat (first | (with_reducible first | exact HB.out | apply below_alloc | apply pw_below_drewN | apply below_drew1) | exact HB.out)⟩⟩
                                    · rw [if_neg c25] at H
                                      exact absurd H (by simp)
                                  · rw [if_neg c24] at H
                                    exact absurd H (by simp)
                                · rw [if_neg c23] at H
                                  exact absurd H (by simp)
                              · rw [if_neg c22] at H
                                exact absurd H (by simp)
                            · rw [if_neg c21] at H
                              exact absurd H (by simp)
                          · rw [if_neg c20] at H
                            exact absurd H (by simp)
                        · rw [if_neg c19] at H
                          exact absurd H (by simp)
                      · rw [if_neg c18] at H
                        exact absurd H (by simp)
                    · rw [if_neg c17] at H
                      exact absurd H (by simp)
                  · replace c16 := Bool.eq_false_iff.mpr c16
                    subst c16
                    have H1 : (impl_MarkWords.l0 k2 a0 l1 x6_2 x7_2 t127 (t127.length : Int) (wrap64 (x22_2 + 1))) = some (r1, r2) := by rw [if_neg (show ¬ (false = true) by decide)] at H; exact H
                    clear H
                    have H := H1
                    clear H1
                    have H' := Aside0.mk H
                    clear H
                    have p131 : 0 ≤ (x22_2 : Int) := of_decide_eq_true (by first | (with_reducible assumption) | assumption)
                    have q131 : x22_2 < (t127.length : Int) := of_decide_eq_true (by first | (with_reducible assumption) | assumption)
                    obtain ⟨ad131, e131, hx131_0, hx131_1, hx131_2⟩ := at_T84 (Kd.R_reads' HO_20.out).2.2 x22_2 p131 q131
                    cases e131
                    replace p131 := eq_true p131
                    replace q131 := eq_true q131
                    go_wp2_with (first | ((with_reducible refine gate_dst (N := 9) rfl ?_); refine box_event ?hg (N := 9) ?hd (cs := #[.int .i64 0, .int .i64 0, .string (⟨#[]⟩ : ByteArray)]) (t := 84) ?hr ?_; (case hd => rfl); (case hg => rfl); (case hr => first | (go_simp; done) | (go_simp; rfl)); intro gb132 hg w33 hbox hb; have GW132 := Aside0.mk ((by rw [hg]; exact (below_size (by repeat (first | (with_reducible first | exact HB.out | apply below_alloc | apply pw_below_drewN | apply below_drew1) | exact HB.out))) : w.heap.size ≤ gb132)); have GE132 := Aside0.mk ((by rw [hg]; exact (below_size (by repeat (first | (with_reducible first | exact HB.out | apply below_alloc | apply pw_below_drewN | apply below_drew1) | exact HB.out))) : w.heap.size ≤ gb132)); replace HO_20 := Aside0.mk (Kd.R_below (Kd.R_elderB (by (with_reducible repeat (first | apply Kd.R_alloc | apply Kd.R_drewN | apply Kd.R_drew)); exact HO_20.out) gb132 (Nat.le_of_eq hg.symm)) hb); replace BLD := Aside0.mk (impl_MarkWords.b_below (by (with_reducible repeat (first | refine impl_MarkWords.b_drewN ?_ _ | refine impl_MarkWords.b_drew ?_ | refine impl_MarkWords.b_alloc ?_ _)); exact BLD.out) hb); replace HB := Aside0.mk (below_step (by repeat (first | (with_reducible first | exact HB.out | apply below_alloc | apply pw_below_drewN | apply below_drew1) | exact HB.out)) hb); have BK132 := Aside0.mk (hbox); clear hb hbox hg; have hcz34_0 : w33.cell? ⟨gb132, 0, none⟩ = some (.int .i64 0) := (blk_cell BK132.out 0).trans rfl; have hcz34_1 : w33.cell? ⟨gb132, 1, none⟩ = some (.int .i64 0) := (blk_cell BK132.out 1).trans rfl; have hcz34_2 : w33.cell? ⟨gb132, 2, none⟩ = some (.string (⟨#[]⟩ : ByteArray)) := (blk_cell BK132.out 2).trans rfl; have hfz34_0 := blk_frozen BK132.out 0; have hfz34_1 := blk_frozen BK132.out 1; have hfz34_2 := blk_frozen BK132.out 2) | ((with_reducible refine gate_callee (f := 61) rfl ?_); refine goesL_ (some 29) rfl rfl Try.func61 (by kernel_rfl) rfl #[.slice A1 l1.length c1, .string ((rd_T84 t127 x22_2).f2)] rfl (by (try simp only [List.map_toArray, List.map_cons, List.map_nil]); first | done | rfl | (simp only [List.length_drop, List.length_take]; rfl)) ?_; (with_reducible refine (slices_Contains_string_string.calls k2 _ _ l1 ((rd_T84 t127 x22_2).f2) false _ ?side1 ?side2 A15.out).mono ?_); (case side1 => exact Kd.C_below HR1.out (by repeat (first | (with_reducible first | exact HB.out | apply below_alloc | apply pw_below_drewN | apply below_drew1 | refine below_set ?_ GE132.out) | exact HB.out))); (case side2 => exact HC1.out); rintro e w' ⟨rfl, ⟨nd, rfl⟩⟩; refine ⟨_, rfl, ?_⟩))
                    go_roundg k2
                    case measure => have := HJ2.out; have := HK2.out; omega
                    case rel => exact ⟨(x6_2), (x7_2), (wrap64 (x22_2 + 1)), (by first | rfl | (simp; done) | (simp [*]; done)), (by first | rfl | (simp; done) | (simp [*]; done)), H', ⟨by have := HJ2.out; have := HK2.out; omega⟩, ⟨by (with_reducible repeat (first | apply Kd.R_alloc | apply Kd.R_drewN | apply Kd.R_drew)); exact Kd.R_mono (Kd.R_far3 (g := gb132) (Kd.R_mono HO_20.out (fun k_ hk => (⟨hk, hk.2⟩ : _ ∧ k_ ≠ gb132))) (fun _ hk => hk.2)) (fun _ hk => trivial)⟩, ⟨by (with_reducible repeat (first | refine impl_MarkWords.b_drewN ?_ _ | refine impl_MarkWords.b_drew ?_ | refine impl_MarkWords.b_alloc ?_ _)); refine impl_MarkWords.b_set3 ?_ BK132.out _ _ _; (with_reducible repeat (first | refine impl_MarkWords.b_drewN ?_ _ | refine impl_MarkWords.b_drew ?_ | refine impl_MarkWords.b_alloc ?_ _)); exact BLD.out⟩, ⟨by repeat (first | (with_reducible first | exact HB.out | apply below_alloc | apply pw_below_drewN | apply below_drew1 | refine below_set ?_ GE132.out) | exact HB.out)⟩⟩
                · rw [if_neg c14] at H
                  exact absurd H (by simp)
              · rw [if_neg c13] at H
                exact absurd H (by simp)
            · rw [if_neg c12] at H
              have c12b0 : decide (x22_2 < (t127.length : Int)) = false := decide_eq_false c12
              clear c12
              replace H := Option.bind_eq_some_iff.mp H
              obtain ⟨t130, A350, H⟩ := H
              replace H : (if 0 ≤ x7_2 then (if x7_2 ≤ (a0.size : Int) then (if t130.size + (a0.extract (x7_2 : Int).toNat a0.size).size ≤ 9223372036854775807 then (some (t130 ++ (a0.extract (x7_2 : Int).toNat a0.size), true)) else (none)) else (none)) else (none)) = some (r1, r2) := H
              have A35 := Aside0.mk A350
              clear A350
              by_cases c36 : 0 ≤ x7_2
              · rw [if_pos c36] at H
                have c36b0 := eq_true c36
                have c36b1 : decide (0 ≤ x7_2) = true := decide_eq_true c36
                clear c36
                by_cases c37 : x7_2 ≤ (a0.size : Int)
                · rw [if_pos c37] at H
                  have c37b0 := eq_true c37
                  have c37b1 : decide (x7_2 ≤ (a0.size : Int)) = true := decide_eq_true c37
                  clear c37
                  by_cases c38 : t130.size + (a0.extract (x7_2 : Int).toNat a0.size).size ≤ 9223372036854775807
                  · rw [if_pos c38] at H
                    have c38b0 := eq_true c38
                    have c38b1 : decide (t130.size + (a0.extract (x7_2 : Int).toNat a0.size).size ≤ 9223372036854775807) = true := decide_eq_true c38
                    try have c38b2 : (9223372036854775807 < t130.size + (a0.extract (x7_2 : Int).toNat a0.size).size) = False := eq_false (Nat.not_lt.2 c38)
                    have q3_ : (9223372036854775807 < t130.size + (a0.size - x7_2.toNat)) = False := eq_false (by have h1 := of_eq_true c38b0; rw [ByteArray.size_extract] at h1; omega)
                    simp only [Option.some.injEq, Prod.mk.injEq] at H
                    obtain ⟨rfl, rfl⟩ := H
                    try go_wp2
                    replace HO_20 := Aside0.mk (Kd.R_drew HO_20.out)
                    replace BLD := Aside0.mk (impl_MarkWords.b_drew BLD.out)
                    replace HB := Aside0.mk (below_drew1 HB.out)
                    refine start_ (n := 7) (S := fun w' => True) (ds := []) #[false, false, false, false, false, false, false] (by kernel_rfl) rfl rfl trivial (fun hHeld => ?_)
                    generalize wr.drew = w39 at HO_20 HB BLD hHeld ⊢
                    refine pure_ (i := 1) (N := some 49) (v := ?_) (a' := ?_) #[false, true, false, false, false, false, false] rfl rfl (by kernel_rfl) (fun _ _ _ h => h) (Or.inl ⟨by rfl, ?_⟩) ?_ ?_
                    rotate_left
                    · intro w'
                      go_simp
                      with_reducible rfl
                    rotate_left
                    · simp only [Act.put, List.setIfInBounds_toArray, List.set_cons_zero, List.set_cons_succ, i64_w, i32_w]
                      rfl
                    refine pure_ (i := 2) (N := some 50) (v := ?_) (a' := ?_) #[false, true, true, false, false, false, false] rfl rfl (by kernel_rfl) (fun _ _ _ h => h) (Or.inl ⟨by rfl, ?_⟩) ?_ ?_
                    rotate_left
                    · intro w'
                      go_simp
                      with_reducible rfl
                    rotate_left
                    · simp only [Act.put, List.setIfInBounds_toArray, List.set_cons_zero, List.set_cons_succ, i64_w, i32_w]
                      rfl
                    refine pure_ (i := 3) (N := some 51) (v := ?_) (a' := ?_) #[false, true, true, true, false, false, false] rfl rfl (by kernel_rfl) (fun _ _ _ h => h) (Or.inl ⟨by rfl, ?_⟩) ?_ ?_
                    rotate_left
                    · intro w'
                      go_simp
                      with_reducible rfl
                    rotate_left
                    · simp only [Act.put, List.setIfInBounds_toArray, List.set_cons_zero, List.set_cons_succ, i64_w, i32_w]
                      rfl
                    refine one_ (i := 0) (N := some 48) #[true, true, true, true, false, false, false] rfl rfl (by kernel_rfl) (by decide) (fun K hK => ?_)
                    refine goes_ Try.func63 (by kernel_rfl) rfl #[.pointer (some ⟨gb6, 0, none⟩)] (by rfl) rfl rfl (by (try simp only [List.map_toArray, List.map_cons, List.map_nil]); first | done | rfl | (simp only [List.length_drop, List.length_take]; rfl)) ?_
                    refine (impl_MarkWords.read (by (with_reducible repeat (first | refine impl_MarkWords.b_drewN ?_ _ | refine impl_MarkWords.b_drew ?_ | refine impl_MarkWords.b_alloc ?_ _)); exact BLD.out) A35.out (below_size HB.out)).mono ?_
                    rintro e w40 ⟨rfl, hb⟩
                    refine ⟨_, rfl, ?_⟩
                    replace HB := Aside0.mk (Below.trans HB.out hb)
                    (try clear hb)
                    (try clear hb2)
                    (try clear hk)
                    (try clear hi)
                    refine hK.out _ _ trivial (fun hHeld => ?_)
                    clear hK K
                    refine norm_ (a' := ?_) ?_ ?_
                    rotate_left
                    · show Act.put _ (some 48) _ = _
                      simp only [Act.put, List.setIfInBounds_toArray, List.set_cons_zero, List.set_cons_succ, i64_w, i32_w]
                      rfl
                    refine pure_ (i := 4) (N := some 52) (v := ?_) (a' := ?_) #[true, true, true, true, true, false, false] rfl rfl (by kernel_rfl) (fun _ _ _ h => h) (Or.inl ⟨by rfl, ?_⟩) ?_ ?_
                    rotate_left
                    · intro w'
                      go_simp
                      with_reducible rfl
                    rotate_left
                    · simp only [Act.put, List.setIfInBounds_toArray, List.set_cons_zero, List.set_cons_succ, i64_w, i32_w]
                      rfl
                    refine pure_ (i := 5) (N := some 4) (v := ?_) (a' := ?_) #[true, true, true, true, true, true, false] rfl rfl (by kernel_rfl) (fun _ _ _ h => h) (Or.inl ⟨by rfl, ?_⟩) ?_ ?_
                    rotate_left
                    · intro w'
                      go_simp
                      with_reducible rfl
                    rotate_left
                    · simp only [Act.put, List.setIfInBounds_toArray, List.set_cons_zero, List.set_cons_succ, i64_w, i32_w]
                      rfl
                    refine pure_ (i := 6) (N := some 5) (v := ?_) (a' := ?_) #[true, true, true, true, true, true, true] rfl rfl (by kernel_rfl) (fun _ _ _ h => h) (Or.inl ⟨by rfl, ?_⟩) ?_ ?_
                    rotate_left
                    · intro w'
                      go_simp
                      with_reducible rfl
                    rotate_left
                    · simp only [Act.put, List.setIfInBounds_toArray, List.set_cons_zero, List.set_cons_succ, i64_w, i32_w]
                      rfl
                    refine done_ (by kernel_rfl) ?_
                    try go_wp2
                    go_ret2
                    exact ⟨by first | rfl | (simp [errW_none, errW_some] <;> rfl) | (simp [*, errW_none, errW_some] <;> rfl), by repeat (first | (with_reducible first | exact HB.out | apply below_alloc | apply pw_below_drewN | apply below_drew1) | exact HB.out)⟩
                  · rw [if_neg c38] at H
                    exact absurd H (by simp)
                · rw [if_neg c37] at H
                  exact absurd H (by simp)
              · rw [if_neg c36] at H
                exact absurd H (by simp)

end Go.Proofs.Ytcnhepjdibbkgaa.QFnMarked
