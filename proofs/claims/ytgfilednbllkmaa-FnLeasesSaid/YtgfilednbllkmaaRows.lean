/-
  No cell of these rows narrows 'for every input' (looked for: loops, veiled, ifaces, maps, wideKeys, modest, calm, conditions, laid).
  DERIVED. THE GIVEN ROWS OF THIS SEAT. 8 by the template 'for every input the law returns true; each argument reads behind the call as it read before'; 0 by the template 'total and deterministic' (their statements: YtgfilednbllkmaaTotals.lean).
  GIVEN WITH THE SEED: the statements are not yours to turn. If you find one false, say at which input.
  Laid BY PROGRAM, IN A SANDBOX (cutbox-rows.mjs): the forced cells as the released guide's own fill.sh prints them over the translation e9785422beeb5440… (all of the seat's roots in one cut). By AI agents, Wed Nov 11 2026. No macro, syntax, notation, axiom, sorry.
-/
import Derived.Test.YtgfilednbllkmaaChecked
import GoSem.Claim
import GoSem.ClaimJoined
import GoSem.ClaimMapViews
import Derived.JoinedTies
import Derived.KernelRfl
namespace Go.Proofs.Ytgfilednbllkmaa
/- THE CELL 'sum', in the pinned program and in every row, IS THE sha256 OF THE DUMP (.gsa) THAT YtgfilednbllkmaaProg.lean LOADS. Nothing in Lean hashes anything: it is a label: what it is worth is what the hold of that sum in a sandbox is worth. -/
noncomputable def Try.pinned : Pinned := { name := "ytgfilednbllkmaa", sum := "e9785422beeb5440d0b5bebdc10a0ffe695c6086a072d16c40058278a4aa7959", checked := Try.checked }
namespace Rows
def none {H : Type} : Left H := { results := [], args := [] }

/-- 'laws.FnLeases': WHATEVER THE INPUT: true; the input reads as it did. -/
def fnLeasesSpec : ChangeSpec := { name := "fnLeases", fn := fun _ => fun
  | [d1, d2] => { results := [.lit (.bool true)], args := [d1, d2] }
  | _ => none }
def fnLeasesRow : OpenClaim := { program := "ytgfilednbllkmaa", sum := "e9785422beeb5440d0b5bebdc10a0ffe695c6086a072d16c40058278a4aa7959", func := "loop.example/g01202/laws.FnLeases", spec := "fnLeases", inPlace := ["slices.overlaps[loop.example/g01202/impl.Lease]"], unfollowed := true, recurses := true, apart := false }
def FnLeasesSaid : Prop := fnLeasesRow.holds Try.pinned (OpenSpec.ofChange fnLeasesSpec)

/-- ITS FALSE NEIGHBOUR: 'it returns false'. Refute it at one input. -/
def fnLeasesWrong : ChangeSpec := { name := "fnLeases", fn := fun _ => fun
  | [d1, d2] => { results := [.lit (.bool false)], args := [d1, d2] }
  | _ => none }
def FnLeasesWrongFalsely : Prop := fnLeasesRow.holds Try.pinned (OpenSpec.ofChange fnLeasesWrong)

/-- 'laws.FnExactLeaveNow': WHATEVER THE INPUT: true; the input reads as it did. -/
def fnExactLeaveNowSpec : ChangeSpec := { name := "fnExactLeaveNow", fn := fun _ => fun
  | [d1, d2] => { results := [.lit (.bool true)], args := [d1, d2] }
  | _ => none }
def fnExactLeaveNowRow : OpenClaim := { program := "ytgfilednbllkmaa", sum := "e9785422beeb5440d0b5bebdc10a0ffe695c6086a072d16c40058278a4aa7959", func := "loop.example/g01202/laws.FnExactLeaveNow", spec := "fnExactLeaveNow", unfollowed := true, recurses := true, apart := false }
def FnExactLeaveNowSaid : Prop := fnExactLeaveNowRow.holds Try.pinned (OpenSpec.ofChange fnExactLeaveNowSpec)

/-- ITS FALSE NEIGHBOUR: 'it returns false'. Refute it at one input. -/
def fnExactLeaveNowWrong : ChangeSpec := { name := "fnExactLeaveNow", fn := fun _ => fun
  | [d1, d2] => { results := [.lit (.bool false)], args := [d1, d2] }
  | _ => none }
def FnExactLeaveNowWrongFalsely : Prop := fnExactLeaveNowRow.holds Try.pinned (OpenSpec.ofChange fnExactLeaveNowWrong)

/-- 'laws.FnExactSweepPresence': WHATEVER THE INPUT: true; the input reads as it did. -/
def fnExactSweepPresenceSpec : ChangeSpec := { name := "fnExactSweepPresence", fn := fun _ => fun
  | [d1, d2] => { results := [.lit (.bool true)], args := [d1, d2] }
  | _ => none }
def fnExactSweepPresenceRow : OpenClaim := { program := "ytgfilednbllkmaa", sum := "e9785422beeb5440d0b5bebdc10a0ffe695c6086a072d16c40058278a4aa7959", func := "loop.example/g01202/laws.FnExactSweepPresence", spec := "fnExactSweepPresence", unfollowed := true, recurses := true, apart := false }
def FnExactSweepPresenceSaid : Prop := fnExactSweepPresenceRow.holds Try.pinned (OpenSpec.ofChange fnExactSweepPresenceSpec)

/-- ITS FALSE NEIGHBOUR: 'it returns false'. Refute it at one input. -/
def fnExactSweepPresenceWrong : ChangeSpec := { name := "fnExactSweepPresence", fn := fun _ => fun
  | [d1, d2] => { results := [.lit (.bool false)], args := [d1, d2] }
  | _ => none }
def FnExactSweepPresenceWrongFalsely : Prop := fnExactSweepPresenceRow.holds Try.pinned (OpenSpec.ofChange fnExactSweepPresenceWrong)

/-- 'laws.FnExactHeartbeat': WHATEVER THE INPUT: true; the input reads as it did. -/
def fnExactHeartbeatSpec : ChangeSpec := { name := "fnExactHeartbeat", fn := fun _ => fun
  | [d1, d2, d3, d4] => { results := [.lit (.bool true)], args := [d1, d2, d3, d4] }
  | _ => none }
def fnExactHeartbeatRow : OpenClaim := { program := "ytgfilednbllkmaa", sum := "e9785422beeb5440d0b5bebdc10a0ffe695c6086a072d16c40058278a4aa7959", func := "loop.example/g01202/laws.FnExactHeartbeat", spec := "fnExactHeartbeat", inPlace := ["slices.overlaps[loop.example/g01202/impl.Lease]"], unfollowed := true, recurses := true, apart := false }
def FnExactHeartbeatSaid : Prop := fnExactHeartbeatRow.holds Try.pinned (OpenSpec.ofChange fnExactHeartbeatSpec)

/-- ITS FALSE NEIGHBOUR: 'it returns false'. Refute it at one input. -/
def fnExactHeartbeatWrong : ChangeSpec := { name := "fnExactHeartbeat", fn := fun _ => fun
  | [d1, d2, d3, d4] => { results := [.lit (.bool false)], args := [d1, d2, d3, d4] }
  | _ => none }
def FnExactHeartbeatWrongFalsely : Prop := fnExactHeartbeatRow.holds Try.pinned (OpenSpec.ofChange fnExactHeartbeatWrong)

/-- 'laws.FnExactReadUpTo': WHATEVER THE INPUT: true; the input reads as it did. -/
def fnExactReadUpToSpec : ChangeSpec := { name := "fnExactReadUpTo", fn := fun _ => fun
  | [d1, d2, d3] => { results := [.lit (.bool true)], args := [d1, d2, d3] }
  | _ => none }
def fnExactReadUpToRow : OpenClaim := { program := "ytgfilednbllkmaa", sum := "e9785422beeb5440d0b5bebdc10a0ffe695c6086a072d16c40058278a4aa7959", func := "loop.example/g01202/laws.FnExactReadUpTo", spec := "fnExactReadUpTo", inPlace := ["slices.overlaps[loop.example/g01202/impl.Mark]"], unfollowed := true, recurses := true, apart := false }
def FnExactReadUpToSaid : Prop := fnExactReadUpToRow.holds Try.pinned (OpenSpec.ofChange fnExactReadUpToSpec)

/-- ITS FALSE NEIGHBOUR: 'it returns false'. Refute it at one input. -/
def fnExactReadUpToWrong : ChangeSpec := { name := "fnExactReadUpTo", fn := fun _ => fun
  | [d1, d2, d3] => { results := [.lit (.bool false)], args := [d1, d2, d3] }
  | _ => none }
def FnExactReadUpToWrongFalsely : Prop := fnExactReadUpToRow.holds Try.pinned (OpenSpec.ofChange fnExactReadUpToWrong)

/-- 'laws.FnExactStartTyping': WHATEVER THE INPUT: true; the input reads as it did. -/
def fnExactStartTypingSpec : ChangeSpec := { name := "fnExactStartTyping", fn := fun _ => fun
  | [d1, d2, d3] => { results := [.lit (.bool true)], args := [d1, d2, d3] }
  | _ => none }
def fnExactStartTypingRow : OpenClaim := { program := "ytgfilednbllkmaa", sum := "e9785422beeb5440d0b5bebdc10a0ffe695c6086a072d16c40058278a4aa7959", func := "loop.example/g01202/laws.FnExactStartTyping", spec := "fnExactStartTyping", inPlace := ["slices.overlaps[loop.example/g01202/impl.Lease]"], unfollowed := true, recurses := true, apart := false }
def FnExactStartTypingSaid : Prop := fnExactStartTypingRow.holds Try.pinned (OpenSpec.ofChange fnExactStartTypingSpec)

/-- ITS FALSE NEIGHBOUR: 'it returns false'. Refute it at one input. -/
def fnExactStartTypingWrong : ChangeSpec := { name := "fnExactStartTyping", fn := fun _ => fun
  | [d1, d2, d3] => { results := [.lit (.bool false)], args := [d1, d2, d3] }
  | _ => none }
def FnExactStartTypingWrongFalsely : Prop := fnExactStartTypingRow.holds Try.pinned (OpenSpec.ofChange fnExactStartTypingWrong)

/-- 'laws.FnExactJoinPresence': WHATEVER THE INPUT: true; the input reads as it did. -/
def fnExactJoinPresenceSpec : ChangeSpec := { name := "fnExactJoinPresence", fn := fun _ => fun
  | [d1, d2] => { results := [.lit (.bool true)], args := [d1, d2] }
  | _ => none }
def fnExactJoinPresenceRow : OpenClaim := { program := "ytgfilednbllkmaa", sum := "e9785422beeb5440d0b5bebdc10a0ffe695c6086a072d16c40058278a4aa7959", func := "loop.example/g01202/laws.FnExactJoinPresence", spec := "fnExactJoinPresence", inPlace := ["slices.overlaps[loop.example/g01202/impl.Lease]", "slices.overlaps[loop.example/g01202/impl.Mark]"], unfollowed := true, recurses := true, apart := false }
def FnExactJoinPresenceSaid : Prop := fnExactJoinPresenceRow.holds Try.pinned (OpenSpec.ofChange fnExactJoinPresenceSpec)

/-- ITS FALSE NEIGHBOUR: 'it returns false'. Refute it at one input. -/
def fnExactJoinPresenceWrong : ChangeSpec := { name := "fnExactJoinPresence", fn := fun _ => fun
  | [d1, d2] => { results := [.lit (.bool false)], args := [d1, d2] }
  | _ => none }
def FnExactJoinPresenceWrongFalsely : Prop := fnExactJoinPresenceRow.holds Try.pinned (OpenSpec.ofChange fnExactJoinPresenceWrong)

/-- 'laws.FnJoinedPresence': WHATEVER THE INPUT: true; the input reads as it did. -/
def fnJoinedPresenceSpec : ChangeSpec := { name := "fnJoinedPresence", fn := fun _ => fun
  | [d1, d2] => { results := [.lit (.bool true)], args := [d1, d2] }
  | _ => none }
def fnJoinedPresenceRow : OpenClaim := { program := "ytgfilednbllkmaa", sum := "e9785422beeb5440d0b5bebdc10a0ffe695c6086a072d16c40058278a4aa7959", func := "loop.example/g01202/laws.FnJoinedPresence", spec := "fnJoinedPresence", inPlace := ["slices.overlaps[loop.example/g01202/impl.Lease]", "slices.overlaps[loop.example/g01202/impl.Mark]"], unfollowed := true, recurses := true, apart := false }
def FnJoinedPresenceSaid : Prop := fnJoinedPresenceRow.holds Try.pinned (OpenSpec.ofChange fnJoinedPresenceSpec)

/-- ITS FALSE NEIGHBOUR: 'it returns false'. Refute it at one input. -/
def fnJoinedPresenceWrong : ChangeSpec := { name := "fnJoinedPresence", fn := fun _ => fun
  | [d1, d2] => { results := [.lit (.bool false)], args := [d1, d2] }
  | _ => none }
def FnJoinedPresenceWrongFalsely : Prop := fnJoinedPresenceRow.holds Try.pinned (OpenSpec.ofChange fnJoinedPresenceWrong)

/- THE SECOND FORM. 'bulk': how many values and letters a reading holds, each counted each time it is reached (what is shared counts as often as it is met; a slice's spare places count too). A statement '..UptoSaid' is the law's where the arguments, and the package variables that the reading takes, are together of bulk at most 1048576: NARROWER than '..Said'. Prove '..Said' where nothing that the law and all that it calls make is longer than what came in: it says more and counts as full. Else prove '..UptoSaid'. A law counts once. -/
mutual
def uptoBulk {H : Type} : DataW H → Nat
  | .lit (.string bytes) => bytes.length + 1
  | .lit _ => 1
  | .nil => 1
  | .ptr d => uptoBulk d + 1
  | .slice elems spare => uptoBulkAll elems + uptoBulkAll spare + 1
  | .agg parts => uptoBulkAll parts + 1
  | .iface _ d => uptoBulk d + 1
  | .map entries => uptoBulkEntries entries + 1
  | .held _ => 1
def uptoBulkAll {H : Type} : List (DataW H) → Nat
  | [] => 0
  | d :: r => uptoBulk d + uptoBulkAll r
def uptoBulkEntries {H : Type} : List (Lit × DataW H) → Nat
  | [] => 0
  | x :: r => uptoBulkEntry x + uptoBulkEntries r
def uptoBulkEntry {H : Type} : Lit × DataW H → Nat
  | (.string bytes, d) => bytes.length + uptoBulk d + 1
  | (_, d) => uptoBulk d + 1
 end
def uptoSmall : (H : Type) → List (DataW H) → Bool := fun _ ds => decide (uptoBulkAll ds ≤ 1048576)
def OpenSpec.upto (s : _root_.Go.ChangeSpec) : _root_.Go.OpenSpec := { _root_.Go.OpenSpec.ofChange s with cond := some uptoSmall }

/-- 'laws.FnLeases', WHERE WHAT IT READS IS OF BULK AT MOST 1048576: true; the input reads as it did. -/
def fnLeasesUptoRow : OpenClaim := { program := "ytgfilednbllkmaa", sum := "e9785422beeb5440d0b5bebdc10a0ffe695c6086a072d16c40058278a4aa7959", func := "loop.example/g01202/laws.FnLeases", spec := "fnLeases", inPlace := ["slices.overlaps[loop.example/g01202/impl.Lease]"], unfollowed := true, recurses := true, apart := false, narrowed := true }
def FnLeasesUptoSaid : Prop := fnLeasesUptoRow.holds Try.pinned (OpenSpec.upto fnLeasesSpec)

/-- 'laws.FnExactLeaveNow', WHERE WHAT IT READS IS OF BULK AT MOST 1048576: true; the input reads as it did. -/
def fnExactLeaveNowUptoRow : OpenClaim := { program := "ytgfilednbllkmaa", sum := "e9785422beeb5440d0b5bebdc10a0ffe695c6086a072d16c40058278a4aa7959", func := "loop.example/g01202/laws.FnExactLeaveNow", spec := "fnExactLeaveNow", unfollowed := true, recurses := true, apart := false, narrowed := true }
def FnExactLeaveNowUptoSaid : Prop := fnExactLeaveNowUptoRow.holds Try.pinned (OpenSpec.upto fnExactLeaveNowSpec)

/-- 'laws.FnExactSweepPresence', WHERE WHAT IT READS IS OF BULK AT MOST 1048576: true; the input reads as it did. -/
def fnExactSweepPresenceUptoRow : OpenClaim := { program := "ytgfilednbllkmaa", sum := "e9785422beeb5440d0b5bebdc10a0ffe695c6086a072d16c40058278a4aa7959", func := "loop.example/g01202/laws.FnExactSweepPresence", spec := "fnExactSweepPresence", unfollowed := true, recurses := true, apart := false, narrowed := true }
def FnExactSweepPresenceUptoSaid : Prop := fnExactSweepPresenceUptoRow.holds Try.pinned (OpenSpec.upto fnExactSweepPresenceSpec)

/-- 'laws.FnExactHeartbeat', WHERE WHAT IT READS IS OF BULK AT MOST 1048576: true; the input reads as it did. -/
def fnExactHeartbeatUptoRow : OpenClaim := { program := "ytgfilednbllkmaa", sum := "e9785422beeb5440d0b5bebdc10a0ffe695c6086a072d16c40058278a4aa7959", func := "loop.example/g01202/laws.FnExactHeartbeat", spec := "fnExactHeartbeat", inPlace := ["slices.overlaps[loop.example/g01202/impl.Lease]"], unfollowed := true, recurses := true, apart := false, narrowed := true }
def FnExactHeartbeatUptoSaid : Prop := fnExactHeartbeatUptoRow.holds Try.pinned (OpenSpec.upto fnExactHeartbeatSpec)

/-- 'laws.FnExactReadUpTo', WHERE WHAT IT READS IS OF BULK AT MOST 1048576: true; the input reads as it did. -/
def fnExactReadUpToUptoRow : OpenClaim := { program := "ytgfilednbllkmaa", sum := "e9785422beeb5440d0b5bebdc10a0ffe695c6086a072d16c40058278a4aa7959", func := "loop.example/g01202/laws.FnExactReadUpTo", spec := "fnExactReadUpTo", inPlace := ["slices.overlaps[loop.example/g01202/impl.Mark]"], unfollowed := true, recurses := true, apart := false, narrowed := true }
def FnExactReadUpToUptoSaid : Prop := fnExactReadUpToUptoRow.holds Try.pinned (OpenSpec.upto fnExactReadUpToSpec)

/-- 'laws.FnExactStartTyping', WHERE WHAT IT READS IS OF BULK AT MOST 1048576: true; the input reads as it did. -/
def fnExactStartTypingUptoRow : OpenClaim := { program := "ytgfilednbllkmaa", sum := "e9785422beeb5440d0b5bebdc10a0ffe695c6086a072d16c40058278a4aa7959", func := "loop.example/g01202/laws.FnExactStartTyping", spec := "fnExactStartTyping", inPlace := ["slices.overlaps[loop.example/g01202/impl.Lease]"], unfollowed := true, recurses := true, apart := false, narrowed := true }
def FnExactStartTypingUptoSaid : Prop := fnExactStartTypingUptoRow.holds Try.pinned (OpenSpec.upto fnExactStartTypingSpec)

/-- 'laws.FnExactJoinPresence', WHERE WHAT IT READS IS OF BULK AT MOST 1048576: true; the input reads as it did. -/
def fnExactJoinPresenceUptoRow : OpenClaim := { program := "ytgfilednbllkmaa", sum := "e9785422beeb5440d0b5bebdc10a0ffe695c6086a072d16c40058278a4aa7959", func := "loop.example/g01202/laws.FnExactJoinPresence", spec := "fnExactJoinPresence", inPlace := ["slices.overlaps[loop.example/g01202/impl.Lease]", "slices.overlaps[loop.example/g01202/impl.Mark]"], unfollowed := true, recurses := true, apart := false, narrowed := true }
def FnExactJoinPresenceUptoSaid : Prop := fnExactJoinPresenceUptoRow.holds Try.pinned (OpenSpec.upto fnExactJoinPresenceSpec)

/-- 'laws.FnJoinedPresence', WHERE WHAT IT READS IS OF BULK AT MOST 1048576: true; the input reads as it did. -/
def fnJoinedPresenceUptoRow : OpenClaim := { program := "ytgfilednbllkmaa", sum := "e9785422beeb5440d0b5bebdc10a0ffe695c6086a072d16c40058278a4aa7959", func := "loop.example/g01202/laws.FnJoinedPresence", spec := "fnJoinedPresence", inPlace := ["slices.overlaps[loop.example/g01202/impl.Lease]", "slices.overlaps[loop.example/g01202/impl.Mark]"], unfollowed := true, recurses := true, apart := false, narrowed := true }
def FnJoinedPresenceUptoSaid : Prop := fnJoinedPresenceUptoRow.holds Try.pinned (OpenSpec.upto fnJoinedPresenceSpec)

end Rows
end Go.Proofs.Ytgfilednbllkmaa
