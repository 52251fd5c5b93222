/-
  No cell of these rows narrows 'for every input' (looked for: loops, veiled, ifaces, maps, wideKeys, modest, calm, conditions, laid).
  DERIVED. THE GIVEN ROWS OF THIS SEAT. 5 by the template 'for every input the law returns true; each argument reads behind the call as it read before'; 0 by the template 'total and deterministic' (their statements: YtgmbgpjebpgpkaaTotals.lean).
  GIVEN WITH THE SEED: the statements are not yours to turn. If you find one false, say at which input.
  Laid BY PROGRAM, IN A SANDBOX (cutbox-rows.mjs): the forced cells as the released guide's own fill.sh prints them over the translation 9350058126a4594a… (all of the seat's roots in one cut). By AI agents, Wed Nov 11 2026. No macro, syntax, notation, axiom, sorry.
-/
import Derived.Test.YtgmbgpjebpgpkaaChecked
import GoSem.Claim
import GoSem.ClaimJoined
import GoSem.ClaimMapViews
import Derived.JoinedTies
import Derived.KernelRfl
namespace Go.Proofs.Ytgmbgpjebpgpkaa
/- THE CELL 'sum', in the pinned program and in every row, IS THE sha256 OF THE DUMP (.gsa) THAT YtgmbgpjebpgpkaaProg.lean LOADS. Nothing in Lean hashes anything: it is a label: what it is worth is what the hold of that sum in a sandbox is worth. -/
noncomputable def Try.pinned : Pinned := { name := "ytgmbgpjebpgpkaa", sum := "9350058126a4594a40ea275cc6513efaeb95591b6848ad1ff7c8c660ca672e03", checked := Try.checked }
namespace Rows
def none {H : Type} : Left H := { results := [], args := [] }

/-- 'laws.FnExactValidEvent': WHATEVER THE INPUT: true; the input reads as it did. -/
def fnExactValidEventSpec : ChangeSpec := { name := "fnExactValidEvent", fn := fun _ => fun
  | [d] => { results := [.lit (.bool true)], args := [d] }
  | _ => none }
def fnExactValidEventRow : OpenClaim := { program := "ytgmbgpjebpgpkaa", sum := "9350058126a4594a40ea275cc6513efaeb95591b6848ad1ff7c8c660ca672e03", func := "loop.example/g01202/laws.FnExactValidEvent", spec := "fnExactValidEvent", apart := false }
def FnExactValidEventSaid : Prop := fnExactValidEventRow.holds Try.pinned (OpenSpec.ofChange fnExactValidEventSpec)

/-- ITS FALSE NEIGHBOUR: 'it returns false'. Refute it at one input. -/
def fnExactValidEventWrong : ChangeSpec := { name := "fnExactValidEvent", fn := fun _ => fun
  | [d] => { results := [.lit (.bool false)], args := [d] }
  | _ => none }
def FnExactValidEventWrongFalsely : Prop := fnExactValidEventRow.holds Try.pinned (OpenSpec.ofChange fnExactValidEventWrong)

/-- 'laws.FnExactEventCost': WHATEVER THE INPUT: true; the input reads as it did. -/
def fnExactEventCostSpec : ChangeSpec := { name := "fnExactEventCost", fn := fun _ => fun
  | [d] => { results := [.lit (.bool true)], args := [d] }
  | _ => none }
def fnExactEventCostRow : OpenClaim := { program := "ytgmbgpjebpgpkaa", sum := "9350058126a4594a40ea275cc6513efaeb95591b6848ad1ff7c8c660ca672e03", func := "loop.example/g01202/laws.FnExactEventCost", spec := "fnExactEventCost", apart := false }
def FnExactEventCostSaid : Prop := fnExactEventCostRow.holds Try.pinned (OpenSpec.ofChange fnExactEventCostSpec)

/-- ITS FALSE NEIGHBOUR: 'it returns false'. Refute it at one input. -/
def fnExactEventCostWrong : ChangeSpec := { name := "fnExactEventCost", fn := fun _ => fun
  | [d] => { results := [.lit (.bool false)], args := [d] }
  | _ => none }
def FnExactEventCostWrongFalsely : Prop := fnExactEventCostRow.holds Try.pinned (OpenSpec.ofChange fnExactEventCostWrong)

/-- 'laws.FnExactLogCost': WHATEVER THE INPUT: true; the input reads as it did. -/
def fnExactLogCostSpec : ChangeSpec := { name := "fnExactLogCost", fn := fun _ => fun
  | [d] => { results := [.lit (.bool true)], args := [d] }
  | _ => none }
def fnExactLogCostRow : OpenClaim := { program := "ytgmbgpjebpgpkaa", sum := "9350058126a4594a40ea275cc6513efaeb95591b6848ad1ff7c8c660ca672e03", func := "loop.example/g01202/laws.FnExactLogCost", spec := "fnExactLogCost", unfollowed := true, recurses := true, apart := false }
def FnExactLogCostSaid : Prop := fnExactLogCostRow.holds Try.pinned (OpenSpec.ofChange fnExactLogCostSpec)

/-- ITS FALSE NEIGHBOUR: 'it returns false'. Refute it at one input. -/
def fnExactLogCostWrong : ChangeSpec := { name := "fnExactLogCost", fn := fun _ => fun
  | [d] => { results := [.lit (.bool false)], args := [d] }
  | _ => none }
def FnExactLogCostWrongFalsely : Prop := fnExactLogCostRow.holds Try.pinned (OpenSpec.ofChange fnExactLogCostWrong)

/-- 'laws.FnExactCompactEvents': WHATEVER THE INPUT: true; the input reads as it did. -/
def fnExactCompactEventsSpec : ChangeSpec := { name := "fnExactCompactEvents", fn := fun _ => fun
  | [d] => { results := [.lit (.bool true)], args := [d] }
  | _ => none }
def fnExactCompactEventsRow : OpenClaim := { program := "ytgmbgpjebpgpkaa", sum := "9350058126a4594a40ea275cc6513efaeb95591b6848ad1ff7c8c660ca672e03", func := "loop.example/g01202/laws.FnExactCompactEvents", spec := "fnExactCompactEvents", unfollowed := true, recurses := true, apart := false }
def FnExactCompactEventsSaid : Prop := fnExactCompactEventsRow.holds Try.pinned (OpenSpec.ofChange fnExactCompactEventsSpec)

/-- ITS FALSE NEIGHBOUR: 'it returns false'. Refute it at one input. -/
def fnExactCompactEventsWrong : ChangeSpec := { name := "fnExactCompactEvents", fn := fun _ => fun
  | [d] => { results := [.lit (.bool false)], args := [d] }
  | _ => none }
def FnExactCompactEventsWrongFalsely : Prop := fnExactCompactEventsRow.holds Try.pinned (OpenSpec.ofChange fnExactCompactEventsWrong)

/-- 'laws.FnExactRootOf': WHATEVER THE INPUT: true; the input reads as it did. -/
def fnExactRootOfSpec : ChangeSpec := { name := "fnExactRootOf", fn := fun _ => fun
  | [d1, d2] => { results := [.lit (.bool true)], args := [d1, d2] }
  | _ => none }
def fnExactRootOfRow : OpenClaim := { program := "ytgmbgpjebpgpkaa", sum := "9350058126a4594a40ea275cc6513efaeb95591b6848ad1ff7c8c660ca672e03", func := "loop.example/g01202/laws.FnExactRootOf", spec := "fnExactRootOf", unfollowed := true, recurses := true, apart := false }
def FnExactRootOfSaid : Prop := fnExactRootOfRow.holds Try.pinned (OpenSpec.ofChange fnExactRootOfSpec)

/-- ITS FALSE NEIGHBOUR: 'it returns false'. Refute it at one input. -/
def fnExactRootOfWrong : ChangeSpec := { name := "fnExactRootOf", fn := fun _ => fun
  | [d1, d2] => { results := [.lit (.bool false)], args := [d1, d2] }
  | _ => none }
def FnExactRootOfWrongFalsely : Prop := fnExactRootOfRow.holds Try.pinned (OpenSpec.ofChange fnExactRootOfWrong)

/- THE SECOND FORM. 'bulk': how many values and letters a reading holds, each counted each time it is reached (what is shared counts as often as it is met; a slice's spare places count too). A statement '..UptoSaid' is the law's where the arguments, and the package variables that the reading takes, are together of bulk at most 1048576: NARROWER than '..Said'. Prove '..Said' where nothing that the law and all that it calls make is longer than what came in: it says more and counts as full. Else prove '..UptoSaid'. A law counts once. -/
mutual
def uptoBulk {H : Type} : DataW H → Nat
  | .lit (.string bytes) => bytes.length + 1
  | .lit _ => 1
  | .nil => 1
  | .ptr d => uptoBulk d + 1
  | .slice elems spare => uptoBulkAll elems + uptoBulkAll spare + 1
  | .agg parts => uptoBulkAll parts + 1
  | .iface _ d => uptoBulk d + 1
  | .map entries => uptoBulkEntries entries + 1
  | .held _ => 1
def uptoBulkAll {H : Type} : List (DataW H) → Nat
  | [] => 0
  | d :: r => uptoBulk d + uptoBulkAll r
def uptoBulkEntries {H : Type} : List (Lit × DataW H) → Nat
  | [] => 0
  | x :: r => uptoBulkEntry x + uptoBulkEntries r
def uptoBulkEntry {H : Type} : Lit × DataW H → Nat
  | (.string bytes, d) => bytes.length + uptoBulk d + 1
  | (_, d) => uptoBulk d + 1
 end
def uptoSmall : (H : Type) → List (DataW H) → Bool := fun _ ds => decide (uptoBulkAll ds ≤ 1048576)
def OpenSpec.upto (s : _root_.Go.ChangeSpec) : _root_.Go.OpenSpec := { _root_.Go.OpenSpec.ofChange s with cond := some uptoSmall }

/-- 'laws.FnExactValidEvent', WHERE WHAT IT READS IS OF BULK AT MOST 1048576: true; the input reads as it did. -/
def fnExactValidEventUptoRow : OpenClaim := { program := "ytgmbgpjebpgpkaa", sum := "9350058126a4594a40ea275cc6513efaeb95591b6848ad1ff7c8c660ca672e03", func := "loop.example/g01202/laws.FnExactValidEvent", spec := "fnExactValidEvent", apart := false, narrowed := true }
def FnExactValidEventUptoSaid : Prop := fnExactValidEventUptoRow.holds Try.pinned (OpenSpec.upto fnExactValidEventSpec)

/-- 'laws.FnExactEventCost', WHERE WHAT IT READS IS OF BULK AT MOST 1048576: true; the input reads as it did. -/
def fnExactEventCostUptoRow : OpenClaim := { program := "ytgmbgpjebpgpkaa", sum := "9350058126a4594a40ea275cc6513efaeb95591b6848ad1ff7c8c660ca672e03", func := "loop.example/g01202/laws.FnExactEventCost", spec := "fnExactEventCost", apart := false, narrowed := true }
def FnExactEventCostUptoSaid : Prop := fnExactEventCostUptoRow.holds Try.pinned (OpenSpec.upto fnExactEventCostSpec)

/-- 'laws.FnExactLogCost', WHERE WHAT IT READS IS OF BULK AT MOST 1048576: true; the input reads as it did. -/
def fnExactLogCostUptoRow : OpenClaim := { program := "ytgmbgpjebpgpkaa", sum := "9350058126a4594a40ea275cc6513efaeb95591b6848ad1ff7c8c660ca672e03", func := "loop.example/g01202/laws.FnExactLogCost", spec := "fnExactLogCost", unfollowed := true, recurses := true, apart := false, narrowed := true }
def FnExactLogCostUptoSaid : Prop := fnExactLogCostUptoRow.holds Try.pinned (OpenSpec.upto fnExactLogCostSpec)

/-- 'laws.FnExactCompactEvents', WHERE WHAT IT READS IS OF BULK AT MOST 1048576: true; the input reads as it did. -/
def fnExactCompactEventsUptoRow : OpenClaim := { program := "ytgmbgpjebpgpkaa", sum := "9350058126a4594a40ea275cc6513efaeb95591b6848ad1ff7c8c660ca672e03", func := "loop.example/g01202/laws.FnExactCompactEvents", spec := "fnExactCompactEvents", unfollowed := true, recurses := true, apart := false, narrowed := true }
def FnExactCompactEventsUptoSaid : Prop := fnExactCompactEventsUptoRow.holds Try.pinned (OpenSpec.upto fnExactCompactEventsSpec)

/-- 'laws.FnExactRootOf', WHERE WHAT IT READS IS OF BULK AT MOST 1048576: true; the input reads as it did. -/
def fnExactRootOfUptoRow : OpenClaim := { program := "ytgmbgpjebpgpkaa", sum := "9350058126a4594a40ea275cc6513efaeb95591b6848ad1ff7c8c660ca672e03", func := "loop.example/g01202/laws.FnExactRootOf", spec := "fnExactRootOf", unfollowed := true, recurses := true, apart := false, narrowed := true }
def FnExactRootOfUptoSaid : Prop := fnExactRootOfUptoRow.holds Try.pinned (OpenSpec.upto fnExactRootOfSpec)

end Rows
end Go.Proofs.Ytgmbgpjebpgpkaa
