/-
  No cell of these rows narrows 'for every input' (looked for: loops, veiled, ifaces, maps, wideKeys, modest, calm, conditions, laid).
  DERIVED. THE GIVEN ROWS OF THIS SEAT. 8 by the template 'for every input the law returns true; each argument reads behind the call as it read before'; 0 by the template 'total and deterministic' (their statements: YtcnhepjdibbkgaaTotals.lean).
  GIVEN WITH THE SEED: the statements are not yours to turn. If you find one false, say at which input.
  Laid BY PROGRAM, IN A SANDBOX (cutbox-rows.mjs): the forced cells as the released guide's own fill.sh prints them over the translation 0a6880dd1439b4df… (all of the seat's roots in one cut). By AI agents, Wed Nov 11 2026. No macro, syntax, notation, axiom, sorry.
-/
import Derived.Test.YtcnhepjdibbkgaaChecked
import GoSem.Claim
import GoSem.ClaimJoined
import GoSem.ClaimMapViews
import Derived.JoinedTies
import Derived.KernelRfl
namespace Go.Proofs.Ytcnhepjdibbkgaa
/- THE CELL 'sum', in the pinned program and in every row, IS THE sha256 OF THE DUMP (.gsa) THAT YtcnhepjdibbkgaaProg.lean LOADS. Nothing in Lean hashes anything: it is a label: what it is worth is what the hold of that sum in a sandbox is worth. -/
noncomputable def Try.pinned : Pinned := { name := "ytcnhepjdibbkgaa", sum := "0a6880dd1439b4df13cd51af7e5d2775dfb490f15600b47184c8daa03ab3ea5b", checked := Try.checked }
namespace Rows
def none {H : Type} : Left H := { results := [], args := [] }

/-- 'laws.FnExactSameIndex': WHATEVER THE INPUT: true; the input reads as it did. -/
def fnExactSameIndexSpec : ChangeSpec := { name := "fnExactSameIndex", fn := fun _ => fun
  | [d1, d2] => { results := [.lit (.bool true)], args := [d1, d2] }
  | _ => none }
def fnExactSameIndexRow : OpenClaim := { program := "ytcnhepjdibbkgaa", sum := "0a6880dd1439b4df13cd51af7e5d2775dfb490f15600b47184c8daa03ab3ea5b", func := "loop.example/g01202/laws.FnExactSameIndex", spec := "fnExactSameIndex", unfollowed := true, recurses := true, apart := false }
def FnExactSameIndexSaid : Prop := fnExactSameIndexRow.holds Try.pinned (OpenSpec.ofChange fnExactSameIndexSpec)

/-- ITS FALSE NEIGHBOUR: 'it returns false'. Refute it at one input. -/
def fnExactSameIndexWrong : ChangeSpec := { name := "fnExactSameIndex", fn := fun _ => fun
  | [d1, d2] => { results := [.lit (.bool false)], args := [d1, d2] }
  | _ => none }
def FnExactSameIndexWrongFalsely : Prop := fnExactSameIndexRow.holds Try.pinned (OpenSpec.ofChange fnExactSameIndexWrong)

/-- 'laws.FnExactValidIndex': WHATEVER THE INPUT: true; the input reads as it did. -/
def fnExactValidIndexSpec : ChangeSpec := { name := "fnExactValidIndex", fn := fun _ => fun
  | [d] => { results := [.lit (.bool true)], args := [d] }
  | _ => none }
def fnExactValidIndexRow : OpenClaim := { program := "ytcnhepjdibbkgaa", sum := "0a6880dd1439b4df13cd51af7e5d2775dfb490f15600b47184c8daa03ab3ea5b", func := "loop.example/g01202/laws.FnExactValidIndex", spec := "fnExactValidIndex", unfollowed := true, recurses := true, apart := false }
def FnExactValidIndexSaid : Prop := fnExactValidIndexRow.holds Try.pinned (OpenSpec.ofChange fnExactValidIndexSpec)

/-- ITS FALSE NEIGHBOUR: 'it returns false'. Refute it at one input. -/
def fnExactValidIndexWrong : ChangeSpec := { name := "fnExactValidIndex", fn := fun _ => fun
  | [d] => { results := [.lit (.bool false)], args := [d] }
  | _ => none }
def FnExactValidIndexWrongFalsely : Prop := fnExactValidIndexRow.holds Try.pinned (OpenSpec.ofChange fnExactValidIndexWrong)

/-- 'laws.FnMarked': WHATEVER THE INPUT: true; the input reads as it did. -/
def fnMarkedSpec : ChangeSpec := { name := "fnMarked", fn := fun _ => fun
  | [d1, d2] => { results := [.lit (.bool true)], args := [d1, d2] }
  | _ => none }
def fnMarkedRow : OpenClaim := { program := "ytcnhepjdibbkgaa", sum := "0a6880dd1439b4df13cd51af7e5d2775dfb490f15600b47184c8daa03ab3ea5b", func := "loop.example/g01202/laws.FnMarked", spec := "fnMarked", inPlace := ["internal/abi.NoEscape"], unfollowed := true, recurses := true, apart := false }
def FnMarkedSaid : Prop := fnMarkedRow.holds Try.pinned (OpenSpec.ofChange fnMarkedSpec)

/-- ITS FALSE NEIGHBOUR: 'it returns false'. Refute it at one input. -/
def fnMarkedWrong : ChangeSpec := { name := "fnMarked", fn := fun _ => fun
  | [d1, d2] => { results := [.lit (.bool false)], args := [d1, d2] }
  | _ => none }
def FnMarkedWrongFalsely : Prop := fnMarkedRow.holds Try.pinned (OpenSpec.ofChange fnMarkedWrong)

/-- 'laws.FnExactSnippetOf': WHATEVER THE INPUT: true; the input reads as it did. -/
def fnExactSnippetOfSpec : ChangeSpec := { name := "fnExactSnippetOf", fn := fun _ => fun
  | [d1, d2, d3] => { results := [.lit (.bool true)], args := [d1, d2, d3] }
  | _ => none }
def fnExactSnippetOfRow : OpenClaim := { program := "ytcnhepjdibbkgaa", sum := "0a6880dd1439b4df13cd51af7e5d2775dfb490f15600b47184c8daa03ab3ea5b", func := "loop.example/g01202/laws.FnExactSnippetOf", spec := "fnExactSnippetOf", unfollowed := true, recurses := true, apart := false }
def FnExactSnippetOfSaid : Prop := fnExactSnippetOfRow.holds Try.pinned (OpenSpec.ofChange fnExactSnippetOfSpec)

/-- ITS FALSE NEIGHBOUR: 'it returns false'. Refute it at one input. -/
def fnExactSnippetOfWrong : ChangeSpec := { name := "fnExactSnippetOf", fn := fun _ => fun
  | [d1, d2, d3] => { results := [.lit (.bool false)], args := [d1, d2, d3] }
  | _ => none }
def FnExactSnippetOfWrongFalsely : Prop := fnExactSnippetOfRow.holds Try.pinned (OpenSpec.ofChange fnExactSnippetOfWrong)

/-- 'laws.FnExactMarkWords': WHATEVER THE INPUT: true; the input reads as it did. -/
def fnExactMarkWordsSpec : ChangeSpec := { name := "fnExactMarkWords", fn := fun _ => fun
  | [d1, d2] => { results := [.lit (.bool true)], args := [d1, d2] }
  | _ => none }
def fnExactMarkWordsRow : OpenClaim := { program := "ytcnhepjdibbkgaa", sum := "0a6880dd1439b4df13cd51af7e5d2775dfb490f15600b47184c8daa03ab3ea5b", func := "loop.example/g01202/laws.FnExactMarkWords", spec := "fnExactMarkWords", inPlace := ["internal/abi.NoEscape"], unfollowed := true, recurses := true, apart := false }
def FnExactMarkWordsSaid : Prop := fnExactMarkWordsRow.holds Try.pinned (OpenSpec.ofChange fnExactMarkWordsSpec)

/-- ITS FALSE NEIGHBOUR: 'it returns false'. Refute it at one input. -/
def fnExactMarkWordsWrong : ChangeSpec := { name := "fnExactMarkWords", fn := fun _ => fun
  | [d1, d2] => { results := [.lit (.bool false)], args := [d1, d2] }
  | _ => none }
def FnExactMarkWordsWrongFalsely : Prop := fnExactMarkWordsRow.holds Try.pinned (OpenSpec.ofChange fnExactMarkWordsWrong)

/-- 'laws.FnExactWordsFrom': WHATEVER THE INPUT: true; the input reads as it did. -/
def fnExactWordsFromSpec : ChangeSpec := { name := "fnExactWordsFrom", fn := fun _ => fun
  | [d1, d2] => { results := [.lit (.bool true)], args := [d1, d2] }
  | _ => none }
def fnExactWordsFromRow : OpenClaim := { program := "ytcnhepjdibbkgaa", sum := "0a6880dd1439b4df13cd51af7e5d2775dfb490f15600b47184c8daa03ab3ea5b", func := "loop.example/g01202/laws.FnExactWordsFrom", spec := "fnExactWordsFrom", unfollowed := true, recurses := true, apart := false }
def FnExactWordsFromSaid : Prop := fnExactWordsFromRow.holds Try.pinned (OpenSpec.ofChange fnExactWordsFromSpec)

/-- ITS FALSE NEIGHBOUR: 'it returns false'. Refute it at one input. -/
def fnExactWordsFromWrong : ChangeSpec := { name := "fnExactWordsFrom", fn := fun _ => fun
  | [d1, d2] => { results := [.lit (.bool false)], args := [d1, d2] }
  | _ => none }
def FnExactWordsFromWrongFalsely : Prop := fnExactWordsFromRow.holds Try.pinned (OpenSpec.ofChange fnExactWordsFromWrong)

/-- 'laws.FnExactNumbersOf': WHATEVER THE INPUT: true; the input reads as it did. -/
def fnExactNumbersOfSpec : ChangeSpec := { name := "fnExactNumbersOf", fn := fun _ => fun
  | [d1, d2] => { results := [.lit (.bool true)], args := [d1, d2] }
  | _ => none }
def fnExactNumbersOfRow : OpenClaim := { program := "ytcnhepjdibbkgaa", sum := "0a6880dd1439b4df13cd51af7e5d2775dfb490f15600b47184c8daa03ab3ea5b", func := "loop.example/g01202/laws.FnExactNumbersOf", spec := "fnExactNumbersOf", inPlace := ["internal/bytealg.abigen_runtime_cmpstring"], unfollowed := true, recurses := true, apart := false }
def FnExactNumbersOfSaid : Prop := fnExactNumbersOfRow.holds Try.pinned (OpenSpec.ofChange fnExactNumbersOfSpec)

/-- ITS FALSE NEIGHBOUR: 'it returns false'. Refute it at one input. -/
def fnExactNumbersOfWrong : ChangeSpec := { name := "fnExactNumbersOf", fn := fun _ => fun
  | [d1, d2] => { results := [.lit (.bool false)], args := [d1, d2] }
  | _ => none }
def FnExactNumbersOfWrongFalsely : Prop := fnExactNumbersOfRow.holds Try.pinned (OpenSpec.ofChange fnExactNumbersOfWrong)

/-- 'laws.FnExactDropFrom': WHATEVER THE INPUT: true; the input reads as it did. -/
def fnExactDropFromSpec : ChangeSpec := { name := "fnExactDropFrom", fn := fun _ => fun
  | [d1, d2] => { results := [.lit (.bool true)], args := [d1, d2] }
  | _ => none }
def fnExactDropFromRow : OpenClaim := { program := "ytcnhepjdibbkgaa", sum := "0a6880dd1439b4df13cd51af7e5d2775dfb490f15600b47184c8daa03ab3ea5b", func := "loop.example/g01202/laws.FnExactDropFrom", spec := "fnExactDropFrom", unfollowed := true, recurses := true, apart := false }
def FnExactDropFromSaid : Prop := fnExactDropFromRow.holds Try.pinned (OpenSpec.ofChange fnExactDropFromSpec)

/-- ITS FALSE NEIGHBOUR: 'it returns false'. Refute it at one input. -/
def fnExactDropFromWrong : ChangeSpec := { name := "fnExactDropFrom", fn := fun _ => fun
  | [d1, d2] => { results := [.lit (.bool false)], args := [d1, d2] }
  | _ => none }
def FnExactDropFromWrongFalsely : Prop := fnExactDropFromRow.holds Try.pinned (OpenSpec.ofChange fnExactDropFromWrong)

/- THE SECOND FORM. 'bulk': how many values and letters a reading holds, each counted each time it is reached (what is shared counts as often as it is met; a slice's spare places count too). A statement '..UptoSaid' is the law's where the arguments, and the package variables that the reading takes, are together of bulk at most 1048576: NARROWER than '..Said'. Prove '..Said' where nothing that the law and all that it calls make is longer than what came in: it says more and counts as full. Else prove '..UptoSaid'. A law counts once. -/
mutual
def uptoBulk {H : Type} : DataW H → Nat
  | .lit (.string bytes) => bytes.length + 1
  | .lit _ => 1
  | .nil => 1
  | .ptr d => uptoBulk d + 1
  | .slice elems spare => uptoBulkAll elems + uptoBulkAll spare + 1
  | .agg parts => uptoBulkAll parts + 1
  | .iface _ d => uptoBulk d + 1
  | .map entries => uptoBulkEntries entries + 1
  | .held _ => 1
def uptoBulkAll {H : Type} : List (DataW H) → Nat
  | [] => 0
  | d :: r => uptoBulk d + uptoBulkAll r
def uptoBulkEntries {H : Type} : List (Lit × DataW H) → Nat
  | [] => 0
  | x :: r => uptoBulkEntry x + uptoBulkEntries r
def uptoBulkEntry {H : Type} : Lit × DataW H → Nat
  | (.string bytes, d) => bytes.length + uptoBulk d + 1
  | (_, d) => uptoBulk d + 1
 end
def uptoSmall : (H : Type) → List (DataW H) → Bool := fun _ ds => decide (uptoBulkAll ds ≤ 1048576)
def OpenSpec.upto (s : _root_.Go.ChangeSpec) : _root_.Go.OpenSpec := { _root_.Go.OpenSpec.ofChange s with cond := some uptoSmall }

/-- 'laws.FnExactSameIndex', WHERE WHAT IT READS IS OF BULK AT MOST 1048576: true; the input reads as it did. -/
def fnExactSameIndexUptoRow : OpenClaim := { program := "ytcnhepjdibbkgaa", sum := "0a6880dd1439b4df13cd51af7e5d2775dfb490f15600b47184c8daa03ab3ea5b", func := "loop.example/g01202/laws.FnExactSameIndex", spec := "fnExactSameIndex", unfollowed := true, recurses := true, apart := false, narrowed := true }
def FnExactSameIndexUptoSaid : Prop := fnExactSameIndexUptoRow.holds Try.pinned (OpenSpec.upto fnExactSameIndexSpec)

/-- 'laws.FnExactValidIndex', WHERE WHAT IT READS IS OF BULK AT MOST 1048576: true; the input reads as it did. -/
def fnExactValidIndexUptoRow : OpenClaim := { program := "ytcnhepjdibbkgaa", sum := "0a6880dd1439b4df13cd51af7e5d2775dfb490f15600b47184c8daa03ab3ea5b", func := "loop.example/g01202/laws.FnExactValidIndex", spec := "fnExactValidIndex", unfollowed := true, recurses := true, apart := false, narrowed := true }
def FnExactValidIndexUptoSaid : Prop := fnExactValidIndexUptoRow.holds Try.pinned (OpenSpec.upto fnExactValidIndexSpec)

/-- 'laws.FnMarked', WHERE WHAT IT READS IS OF BULK AT MOST 1048576: true; the input reads as it did. -/
def fnMarkedUptoRow : OpenClaim := { program := "ytcnhepjdibbkgaa", sum := "0a6880dd1439b4df13cd51af7e5d2775dfb490f15600b47184c8daa03ab3ea5b", func := "loop.example/g01202/laws.FnMarked", spec := "fnMarked", inPlace := ["internal/abi.NoEscape"], unfollowed := true, recurses := true, apart := false, narrowed := true }
def FnMarkedUptoSaid : Prop := fnMarkedUptoRow.holds Try.pinned (OpenSpec.upto fnMarkedSpec)

/-- 'laws.FnExactSnippetOf', WHERE WHAT IT READS IS OF BULK AT MOST 1048576: true; the input reads as it did. -/
def fnExactSnippetOfUptoRow : OpenClaim := { program := "ytcnhepjdibbkgaa", sum := "0a6880dd1439b4df13cd51af7e5d2775dfb490f15600b47184c8daa03ab3ea5b", func := "loop.example/g01202/laws.FnExactSnippetOf", spec := "fnExactSnippetOf", unfollowed := true, recurses := true, apart := false, narrowed := true }
def FnExactSnippetOfUptoSaid : Prop := fnExactSnippetOfUptoRow.holds Try.pinned (OpenSpec.upto fnExactSnippetOfSpec)

/-- 'laws.FnExactMarkWords', WHERE WHAT IT READS IS OF BULK AT MOST 1048576: true; the input reads as it did. -/
def fnExactMarkWordsUptoRow : OpenClaim := { program := "ytcnhepjdibbkgaa", sum := "0a6880dd1439b4df13cd51af7e5d2775dfb490f15600b47184c8daa03ab3ea5b", func := "loop.example/g01202/laws.FnExactMarkWords", spec := "fnExactMarkWords", inPlace := ["internal/abi.NoEscape"], unfollowed := true, recurses := true, apart := false, narrowed := true }
def FnExactMarkWordsUptoSaid : Prop := fnExactMarkWordsUptoRow.holds Try.pinned (OpenSpec.upto fnExactMarkWordsSpec)

/-- 'laws.FnExactWordsFrom', WHERE WHAT IT READS IS OF BULK AT MOST 1048576: true; the input reads as it did. -/
def fnExactWordsFromUptoRow : OpenClaim := { program := "ytcnhepjdibbkgaa", sum := "0a6880dd1439b4df13cd51af7e5d2775dfb490f15600b47184c8daa03ab3ea5b", func := "loop.example/g01202/laws.FnExactWordsFrom", spec := "fnExactWordsFrom", unfollowed := true, recurses := true, apart := false, narrowed := true }
def FnExactWordsFromUptoSaid : Prop := fnExactWordsFromUptoRow.holds Try.pinned (OpenSpec.upto fnExactWordsFromSpec)

/-- 'laws.FnExactNumbersOf', WHERE WHAT IT READS IS OF BULK AT MOST 1048576: true; the input reads as it did. -/
def fnExactNumbersOfUptoRow : OpenClaim := { program := "ytcnhepjdibbkgaa", sum := "0a6880dd1439b4df13cd51af7e5d2775dfb490f15600b47184c8daa03ab3ea5b", func := "loop.example/g01202/laws.FnExactNumbersOf", spec := "fnExactNumbersOf", inPlace := ["internal/bytealg.abigen_runtime_cmpstring"], unfollowed := true, recurses := true, apart := false, narrowed := true }
def FnExactNumbersOfUptoSaid : Prop := fnExactNumbersOfUptoRow.holds Try.pinned (OpenSpec.upto fnExactNumbersOfSpec)

/-- 'laws.FnExactDropFrom', WHERE WHAT IT READS IS OF BULK AT MOST 1048576: true; the input reads as it did. -/
def fnExactDropFromUptoRow : OpenClaim := { program := "ytcnhepjdibbkgaa", sum := "0a6880dd1439b4df13cd51af7e5d2775dfb490f15600b47184c8daa03ab3ea5b", func := "loop.example/g01202/laws.FnExactDropFrom", spec := "fnExactDropFrom", unfollowed := true, recurses := true, apart := false, narrowed := true }
def FnExactDropFromUptoSaid : Prop := fnExactDropFromUptoRow.holds Try.pinned (OpenSpec.upto fnExactDropFromSpec)

end Rows
end Go.Proofs.Ytcnhepjdibbkgaa
