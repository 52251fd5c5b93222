/-
  No cell of these rows narrows 'for every input' (looked for: loops, veiled, ifaces, maps, wideKeys, modest, calm, conditions, laid).
  DERIVED. THE GIVEN ROWS OF THIS SEAT. 5 by the template 'for every input the law returns true; each argument reads behind the call as it read before'; 0 by the template 'total and deterministic' (their statements: YtdanachjdfiegaaTotals.lean).
  GIVEN WITH THE SEED: the statements are not yours to turn. If you find one false, say at which input.
  Laid BY PROGRAM, IN A SANDBOX (cutbox-rows.mjs): the forced cells as the released guide's own fill.sh prints them over the translation bba0f8105ff1beee… (all of the seat's roots in one cut). By AI agents, Wed Nov 11 2026. No macro, syntax, notation, axiom, sorry.
-/
import Derived.Test.YtdanachjdfiegaaChecked
import GoSem.Claim
import GoSem.ClaimJoined
import GoSem.ClaimMapViews
import Derived.JoinedTies
import Derived.KernelRfl
namespace Go.Proofs.Ytdanachjdfiegaa
/- THE CELL 'sum', in the pinned program and in every row, IS THE sha256 OF THE DUMP (.gsa) THAT YtdanachjdfiegaaProg.lean LOADS. Nothing in Lean hashes anything: it is a label: what it is worth is what the hold of that sum in a sandbox is worth. -/
noncomputable def Try.pinned : Pinned := { name := "ytdanachjdfiegaa", sum := "bba0f8105ff1beee17f07e9598eef90b586139bd05fe9e62919dc50a19017391", checked := Try.checked }
namespace Rows
def none {H : Type} : Left H := { results := [], args := [] }

/-- 'laws.FnAllowed': WHATEVER THE INPUT: true; the input reads as it did. -/
def fnAllowedSpec : ChangeSpec := { name := "fnAllowed", fn := fun _ => fun
  | [d1, d2] => { results := [.lit (.bool true)], args := [d1, d2] }
  | _ => none }
def fnAllowedRow : OpenClaim := { program := "ytdanachjdfiegaa", sum := "bba0f8105ff1beee17f07e9598eef90b586139bd05fe9e62919dc50a19017391", func := "loop.example/g01202/laws.FnAllowed", spec := "fnAllowed", unfollowed := true, recurses := true, apart := false }
def FnAllowedSaid : Prop := fnAllowedRow.holds Try.pinned (OpenSpec.ofChange fnAllowedSpec)

/-- ITS FALSE NEIGHBOUR: 'it returns false'. Refute it at one input. -/
def fnAllowedWrong : ChangeSpec := { name := "fnAllowed", fn := fun _ => fun
  | [d1, d2] => { results := [.lit (.bool false)], args := [d1, d2] }
  | _ => none }
def FnAllowedWrongFalsely : Prop := fnAllowedRow.holds Try.pinned (OpenSpec.ofChange fnAllowedWrong)

/-- 'laws.FnExactNewRoom': WHATEVER THE INPUT: true; the input reads as it did. -/
def fnExactNewRoomSpec : ChangeSpec := { name := "fnExactNewRoom", fn := fun _ => fun
  | [d1, d2, d3] => { results := [.lit (.bool true)], args := [d1, d2, d3] }
  | _ => none }
def fnExactNewRoomRow : OpenClaim := { program := "ytdanachjdfiegaa", sum := "bba0f8105ff1beee17f07e9598eef90b586139bd05fe9e62919dc50a19017391", func := "loop.example/g01202/laws.FnExactNewRoom", spec := "fnExactNewRoom", unfollowed := true, recurses := true, apart := false }
def FnExactNewRoomSaid : Prop := fnExactNewRoomRow.holds Try.pinned (OpenSpec.ofChange fnExactNewRoomSpec)

/-- ITS FALSE NEIGHBOUR: 'it returns false'. Refute it at one input. -/
def fnExactNewRoomWrong : ChangeSpec := { name := "fnExactNewRoom", fn := fun _ => fun
  | [d1, d2, d3] => { results := [.lit (.bool false)], args := [d1, d2, d3] }
  | _ => none }
def FnExactNewRoomWrongFalsely : Prop := fnExactNewRoomRow.holds Try.pinned (OpenSpec.ofChange fnExactNewRoomWrong)

/-- 'laws.FnExactValidRoom': WHATEVER THE INPUT: true; the input reads as it did. -/
def fnExactValidRoomSpec : ChangeSpec := { name := "fnExactValidRoom", fn := fun _ => fun
  | [d] => { results := [.lit (.bool true)], args := [d] }
  | _ => none }
def fnExactValidRoomRow : OpenClaim := { program := "ytdanachjdfiegaa", sum := "bba0f8105ff1beee17f07e9598eef90b586139bd05fe9e62919dc50a19017391", func := "loop.example/g01202/laws.FnExactValidRoom", spec := "fnExactValidRoom", unfollowed := true, recurses := true, apart := false }
def FnExactValidRoomSaid : Prop := fnExactValidRoomRow.holds Try.pinned (OpenSpec.ofChange fnExactValidRoomSpec)

/-- ITS FALSE NEIGHBOUR: 'it returns false'. Refute it at one input. -/
def fnExactValidRoomWrong : ChangeSpec := { name := "fnExactValidRoom", fn := fun _ => fun
  | [d] => { results := [.lit (.bool false)], args := [d] }
  | _ => none }
def FnExactValidRoomWrongFalsely : Prop := fnExactValidRoomRow.holds Try.pinned (OpenSpec.ofChange fnExactValidRoomWrong)

/-- 'laws.FnExactRoleOf': WHATEVER THE INPUT: true; the input reads as it did. -/
def fnExactRoleOfSpec : ChangeSpec := { name := "fnExactRoleOf", fn := fun _ => fun
  | [d1, d2] => { results := [.lit (.bool true)], args := [d1, d2] }
  | _ => none }
def fnExactRoleOfRow : OpenClaim := { program := "ytdanachjdfiegaa", sum := "bba0f8105ff1beee17f07e9598eef90b586139bd05fe9e62919dc50a19017391", func := "loop.example/g01202/laws.FnExactRoleOf", spec := "fnExactRoleOf", unfollowed := true, recurses := true, apart := false }
def FnExactRoleOfSaid : Prop := fnExactRoleOfRow.holds Try.pinned (OpenSpec.ofChange fnExactRoleOfSpec)

/-- ITS FALSE NEIGHBOUR: 'it returns false'. Refute it at one input. -/
def fnExactRoleOfWrong : ChangeSpec := { name := "fnExactRoleOf", fn := fun _ => fun
  | [d1, d2] => { results := [.lit (.bool false)], args := [d1, d2] }
  | _ => none }
def FnExactRoleOfWrongFalsely : Prop := fnExactRoleOfRow.holds Try.pinned (OpenSpec.ofChange fnExactRoleOfWrong)

/-- 'laws.FnTaken': WHATEVER THE INPUT: true; the input reads as it did. -/
def fnTakenSpec : ChangeSpec := { name := "fnTaken", fn := fun _ => fun
  | [d1, d2] => { results := [.lit (.bool true)], args := [d1, d2] }
  | _ => none }
def fnTakenRow : OpenClaim := { program := "ytdanachjdfiegaa", sum := "bba0f8105ff1beee17f07e9598eef90b586139bd05fe9e62919dc50a19017391", func := "loop.example/g01202/laws.FnTaken", spec := "fnTaken", inPlace := ["internal/bytealg.abigen_runtime_cmpstring"], unfollowed := true, recurses := true, apart := false }
def FnTakenSaid : Prop := fnTakenRow.holds Try.pinned (OpenSpec.ofChange fnTakenSpec)

/-- ITS FALSE NEIGHBOUR: 'it returns false'. Refute it at one input. -/
def fnTakenWrong : ChangeSpec := { name := "fnTaken", fn := fun _ => fun
  | [d1, d2] => { results := [.lit (.bool false)], args := [d1, d2] }
  | _ => none }
def FnTakenWrongFalsely : Prop := fnTakenRow.holds Try.pinned (OpenSpec.ofChange fnTakenWrong)

/- THE SECOND FORM. 'bulk': how many values and letters a reading holds, each counted each time it is reached (what is shared counts as often as it is met; a slice's spare places count too). A statement '..UptoSaid' is the law's where the arguments, and the package variables that the reading takes, are together of bulk at most 1048576: NARROWER than '..Said'. Prove '..Said' where nothing that the law and all that it calls make is longer than what came in: it says more and counts as full. Else prove '..UptoSaid'. A law counts once. -/
mutual
def uptoBulk {H : Type} : DataW H → Nat
  | .lit (.string bytes) => bytes.length + 1
  | .lit _ => 1
  | .nil => 1
  | .ptr d => uptoBulk d + 1
  | .slice elems spare => uptoBulkAll elems + uptoBulkAll spare + 1
  | .agg parts => uptoBulkAll parts + 1
  | .iface _ d => uptoBulk d + 1
  | .map entries => uptoBulkEntries entries + 1
  | .held _ => 1
def uptoBulkAll {H : Type} : List (DataW H) → Nat
  | [] => 0
  | d :: r => uptoBulk d + uptoBulkAll r
def uptoBulkEntries {H : Type} : List (Lit × DataW H) → Nat
  | [] => 0
  | x :: r => uptoBulkEntry x + uptoBulkEntries r
def uptoBulkEntry {H : Type} : Lit × DataW H → Nat
  | (.string bytes, d) => bytes.length + uptoBulk d + 1
  | (_, d) => uptoBulk d + 1
 end
def uptoSmall : (H : Type) → List (DataW H) → Bool := fun _ ds => decide (uptoBulkAll ds ≤ 1048576)
def OpenSpec.upto (s : _root_.Go.ChangeSpec) : _root_.Go.OpenSpec := { _root_.Go.OpenSpec.ofChange s with cond := some uptoSmall }

/-- 'laws.FnAllowed', WHERE WHAT IT READS IS OF BULK AT MOST 1048576: true; the input reads as it did. -/
def fnAllowedUptoRow : OpenClaim := { program := "ytdanachjdfiegaa", sum := "bba0f8105ff1beee17f07e9598eef90b586139bd05fe9e62919dc50a19017391", func := "loop.example/g01202/laws.FnAllowed", spec := "fnAllowed", unfollowed := true, recurses := true, apart := false, narrowed := true }
def FnAllowedUptoSaid : Prop := fnAllowedUptoRow.holds Try.pinned (OpenSpec.upto fnAllowedSpec)

/-- 'laws.FnExactNewRoom', WHERE WHAT IT READS IS OF BULK AT MOST 1048576: true; the input reads as it did. -/
def fnExactNewRoomUptoRow : OpenClaim := { program := "ytdanachjdfiegaa", sum := "bba0f8105ff1beee17f07e9598eef90b586139bd05fe9e62919dc50a19017391", func := "loop.example/g01202/laws.FnExactNewRoom", spec := "fnExactNewRoom", unfollowed := true, recurses := true, apart := false, narrowed := true }
def FnExactNewRoomUptoSaid : Prop := fnExactNewRoomUptoRow.holds Try.pinned (OpenSpec.upto fnExactNewRoomSpec)

/-- 'laws.FnExactValidRoom', WHERE WHAT IT READS IS OF BULK AT MOST 1048576: true; the input reads as it did. -/
def fnExactValidRoomUptoRow : OpenClaim := { program := "ytdanachjdfiegaa", sum := "bba0f8105ff1beee17f07e9598eef90b586139bd05fe9e62919dc50a19017391", func := "loop.example/g01202/laws.FnExactValidRoom", spec := "fnExactValidRoom", unfollowed := true, recurses := true, apart := false, narrowed := true }
def FnExactValidRoomUptoSaid : Prop := fnExactValidRoomUptoRow.holds Try.pinned (OpenSpec.upto fnExactValidRoomSpec)

/-- 'laws.FnExactRoleOf', WHERE WHAT IT READS IS OF BULK AT MOST 1048576: true; the input reads as it did. -/
def fnExactRoleOfUptoRow : OpenClaim := { program := "ytdanachjdfiegaa", sum := "bba0f8105ff1beee17f07e9598eef90b586139bd05fe9e62919dc50a19017391", func := "loop.example/g01202/laws.FnExactRoleOf", spec := "fnExactRoleOf", unfollowed := true, recurses := true, apart := false, narrowed := true }
def FnExactRoleOfUptoSaid : Prop := fnExactRoleOfUptoRow.holds Try.pinned (OpenSpec.upto fnExactRoleOfSpec)

/-- 'laws.FnTaken', WHERE WHAT IT READS IS OF BULK AT MOST 1048576: true; the input reads as it did. -/
def fnTakenUptoRow : OpenClaim := { program := "ytdanachjdfiegaa", sum := "bba0f8105ff1beee17f07e9598eef90b586139bd05fe9e62919dc50a19017391", func := "loop.example/g01202/laws.FnTaken", spec := "fnTaken", inPlace := ["internal/bytealg.abigen_runtime_cmpstring"], unfollowed := true, recurses := true, apart := false, narrowed := true }
def FnTakenUptoSaid : Prop := fnTakenUptoRow.holds Try.pinned (OpenSpec.upto fnTakenSpec)

end Rows
end Go.Proofs.Ytdanachjdfiegaa
