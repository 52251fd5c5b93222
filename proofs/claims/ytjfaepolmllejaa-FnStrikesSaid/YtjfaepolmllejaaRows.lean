/-
  No cell of these rows narrows 'for every input' (looked for: loops, veiled, ifaces, maps, wideKeys, modest, calm, conditions, laid).
  DERIVED. THE GIVEN ROWS OF THIS SEAT. 10 by the template 'for every input the law returns true; each argument reads behind the call as it read before'; 0 by the template 'total and deterministic' (their statements: YtjfaepolmllejaaTotals.lean).
  GIVEN WITH THE SEED: the statements are not yours to turn. If you find one false, say at which input.
  Laid BY PROGRAM, IN A SANDBOX (cutbox-rows.mjs): the forced cells as the released guide's own fill.sh prints them over the translation 7aca1b80b37674f5… (all of the seat's roots in one cut). By AI agents, Wed Nov 11 2026. No macro, syntax, notation, axiom, sorry.
-/
import Derived.Test.YtjfaepolmllejaaChecked
import GoSem.Claim
import GoSem.ClaimJoined
import GoSem.ClaimMapViews
import Derived.JoinedTies
import Derived.KernelRfl
namespace Go.Proofs.Ytjfaepolmllejaa
/- THE CELL 'sum', in the pinned program and in every row, IS THE sha256 OF THE DUMP (.gsa) THAT YtjfaepolmllejaaProg.lean LOADS. Nothing in Lean hashes anything: it is a label: what it is worth is what the hold of that sum in a sandbox is worth. -/
noncomputable def Try.pinned : Pinned := { name := "ytjfaepolmllejaa", sum := "7aca1b80b37674f5ad5829509ab9d4ceb12e0b87f7bd050953da486345363ed6", checked := Try.checked }
namespace Rows
def none {H : Type} : Left H := { results := [], args := [] }

/-- 'laws.FnExactAreBadWords': WHATEVER THE INPUT: true; the input reads as it did. -/
def fnExactAreBadWordsSpec : ChangeSpec := { name := "fnExactAreBadWords", fn := fun _ => fun
  | [d] => { results := [.lit (.bool true)], args := [d] }
  | _ => none }
def fnExactAreBadWordsRow : OpenClaim := { program := "ytjfaepolmllejaa", sum := "7aca1b80b37674f5ad5829509ab9d4ceb12e0b87f7bd050953da486345363ed6", func := "loop.example/g01202/laws.FnExactAreBadWords", spec := "fnExactAreBadWords", apart := false }
def FnExactAreBadWordsSaid : Prop := fnExactAreBadWordsRow.holds Try.pinned (OpenSpec.ofChange fnExactAreBadWordsSpec)

/-- ITS FALSE NEIGHBOUR: 'it returns false'. Refute it at one input. -/
def fnExactAreBadWordsWrong : ChangeSpec := { name := "fnExactAreBadWords", fn := fun _ => fun
  | [d] => { results := [.lit (.bool false)], args := [d] }
  | _ => none }
def FnExactAreBadWordsWrongFalsely : Prop := fnExactAreBadWordsRow.holds Try.pinned (OpenSpec.ofChange fnExactAreBadWordsWrong)

/-- 'laws.FnExactRunWindow': WHATEVER THE INPUT: true; the input reads as it did. -/
def fnExactRunWindowSpec : ChangeSpec := { name := "fnExactRunWindow", fn := fun _ => fun
  | [d1, d2, d3] => { results := [.lit (.bool true)], args := [d1, d2, d3] }
  | _ => none }
def fnExactRunWindowRow : OpenClaim := { program := "ytjfaepolmllejaa", sum := "7aca1b80b37674f5ad5829509ab9d4ceb12e0b87f7bd050953da486345363ed6", func := "loop.example/g01202/laws.FnExactRunWindow", spec := "fnExactRunWindow", apart := false }
def FnExactRunWindowSaid : Prop := fnExactRunWindowRow.holds Try.pinned (OpenSpec.ofChange fnExactRunWindowSpec)

/-- ITS FALSE NEIGHBOUR: 'it returns false'. Refute it at one input. -/
def fnExactRunWindowWrong : ChangeSpec := { name := "fnExactRunWindow", fn := fun _ => fun
  | [d1, d2, d3] => { results := [.lit (.bool false)], args := [d1, d2, d3] }
  | _ => none }
def FnExactRunWindowWrongFalsely : Prop := fnExactRunWindowRow.holds Try.pinned (OpenSpec.ofChange fnExactRunWindowWrong)

/-- 'laws.FnExactAddStrike': WHATEVER THE INPUT: true; the input reads as it did. -/
def fnExactAddStrikeSpec : ChangeSpec := { name := "fnExactAddStrike", fn := fun _ => fun
  | [d1, d2] => { results := [.lit (.bool true)], args := [d1, d2] }
  | _ => none }
def fnExactAddStrikeRow : OpenClaim := { program := "ytjfaepolmllejaa", sum := "7aca1b80b37674f5ad5829509ab9d4ceb12e0b87f7bd050953da486345363ed6", func := "loop.example/g01202/laws.FnExactAddStrike", spec := "fnExactAddStrike", apart := false }
def FnExactAddStrikeSaid : Prop := fnExactAddStrikeRow.holds Try.pinned (OpenSpec.ofChange fnExactAddStrikeSpec)

/-- ITS FALSE NEIGHBOUR: 'it returns false'. Refute it at one input. -/
def fnExactAddStrikeWrong : ChangeSpec := { name := "fnExactAddStrike", fn := fun _ => fun
  | [d1, d2] => { results := [.lit (.bool false)], args := [d1, d2] }
  | _ => none }
def FnExactAddStrikeWrongFalsely : Prop := fnExactAddStrikeRow.holds Try.pinned (OpenSpec.ofChange fnExactAddStrikeWrong)

/-- 'laws.FnExactForgiveOld': WHATEVER THE INPUT: true; the input reads as it did. -/
def fnExactForgiveOldSpec : ChangeSpec := { name := "fnExactForgiveOld", fn := fun _ => fun
  | [d1, d2] => { results := [.lit (.bool true)], args := [d1, d2] }
  | _ => none }
def fnExactForgiveOldRow : OpenClaim := { program := "ytjfaepolmllejaa", sum := "7aca1b80b37674f5ad5829509ab9d4ceb12e0b87f7bd050953da486345363ed6", func := "loop.example/g01202/laws.FnExactForgiveOld", spec := "fnExactForgiveOld", unfollowed := true, recurses := true, apart := false }
def FnExactForgiveOldSaid : Prop := fnExactForgiveOldRow.holds Try.pinned (OpenSpec.ofChange fnExactForgiveOldSpec)

/-- ITS FALSE NEIGHBOUR: 'it returns false'. Refute it at one input. -/
def fnExactForgiveOldWrong : ChangeSpec := { name := "fnExactForgiveOld", fn := fun _ => fun
  | [d1, d2] => { results := [.lit (.bool false)], args := [d1, d2] }
  | _ => none }
def FnExactForgiveOldWrongFalsely : Prop := fnExactForgiveOldRow.holds Try.pinned (OpenSpec.ofChange fnExactForgiveOldWrong)

/-- 'laws.FnExactCensorText': WHATEVER THE INPUT: true; the input reads as it did. -/
def fnExactCensorTextSpec : ChangeSpec := { name := "fnExactCensorText", fn := fun _ => fun
  | [d1, d2] => { results := [.lit (.bool true)], args := [d1, d2] }
  | _ => none }
def fnExactCensorTextRow : OpenClaim := { program := "ytjfaepolmllejaa", sum := "7aca1b80b37674f5ad5829509ab9d4ceb12e0b87f7bd050953da486345363ed6", func := "loop.example/g01202/laws.FnExactCensorText", spec := "fnExactCensorText", apart := false }
def FnExactCensorTextSaid : Prop := fnExactCensorTextRow.holds Try.pinned (OpenSpec.ofChange fnExactCensorTextSpec)

/-- ITS FALSE NEIGHBOUR: 'it returns false'. Refute it at one input. -/
def fnExactCensorTextWrong : ChangeSpec := { name := "fnExactCensorText", fn := fun _ => fun
  | [d1, d2] => { results := [.lit (.bool false)], args := [d1, d2] }
  | _ => none }
def FnExactCensorTextWrongFalsely : Prop := fnExactCensorTextRow.holds Try.pinned (OpenSpec.ofChange fnExactCensorTextWrong)

/-- 'laws.FnStrikes': WHATEVER THE INPUT: true; the input reads as it did. -/
def fnStrikesSpec : ChangeSpec := { name := "fnStrikes", fn := fun _ => fun
  | [d1, d2] => { results := [.lit (.bool true)], args := [d1, d2] }
  | _ => none }
def fnStrikesRow : OpenClaim := { program := "ytjfaepolmllejaa", sum := "7aca1b80b37674f5ad5829509ab9d4ceb12e0b87f7bd050953da486345363ed6", func := "loop.example/g01202/laws.FnStrikes", spec := "fnStrikes", unfollowed := true, recurses := true, apart := false }
def FnStrikesSaid : Prop := fnStrikesRow.holds Try.pinned (OpenSpec.ofChange fnStrikesSpec)

/-- ITS FALSE NEIGHBOUR: 'it returns false'. Refute it at one input. -/
def fnStrikesWrong : ChangeSpec := { name := "fnStrikes", fn := fun _ => fun
  | [d1, d2] => { results := [.lit (.bool false)], args := [d1, d2] }
  | _ => none }
def FnStrikesWrongFalsely : Prop := fnStrikesRow.holds Try.pinned (OpenSpec.ofChange fnStrikesWrong)

/-- 'laws.FnCensored': WHATEVER THE INPUT: true; the input reads as it did. -/
def fnCensoredSpec : ChangeSpec := { name := "fnCensored", fn := fun _ => fun
  | [d1, d2] => { results := [.lit (.bool true)], args := [d1, d2] }
  | _ => none }
def fnCensoredRow : OpenClaim := { program := "ytjfaepolmllejaa", sum := "7aca1b80b37674f5ad5829509ab9d4ceb12e0b87f7bd050953da486345363ed6", func := "loop.example/g01202/laws.FnCensored", spec := "fnCensored", recurses := true, apart := false }
def FnCensoredSaid : Prop := fnCensoredRow.holds Try.pinned (OpenSpec.ofChange fnCensoredSpec)

/-- ITS FALSE NEIGHBOUR: 'it returns false'. Refute it at one input. -/
def fnCensoredWrong : ChangeSpec := { name := "fnCensored", fn := fun _ => fun
  | [d1, d2] => { results := [.lit (.bool false)], args := [d1, d2] }
  | _ => none }
def FnCensoredWrongFalsely : Prop := fnCensoredRow.holds Try.pinned (OpenSpec.ofChange fnCensoredWrong)

/-- 'laws.FnExactHasBadWord': WHATEVER THE INPUT: true; the input reads as it did. -/
def fnExactHasBadWordSpec : ChangeSpec := { name := "fnExactHasBadWord", fn := fun _ => fun
  | [d1, d2] => { results := [.lit (.bool true)], args := [d1, d2] }
  | _ => none }
def fnExactHasBadWordRow : OpenClaim := { program := "ytjfaepolmllejaa", sum := "7aca1b80b37674f5ad5829509ab9d4ceb12e0b87f7bd050953da486345363ed6", func := "loop.example/g01202/laws.FnExactHasBadWord", spec := "fnExactHasBadWord", recurses := true, apart := false }
def FnExactHasBadWordSaid : Prop := fnExactHasBadWordRow.holds Try.pinned (OpenSpec.ofChange fnExactHasBadWordSpec)

/-- ITS FALSE NEIGHBOUR: 'it returns false'. Refute it at one input. -/
def fnExactHasBadWordWrong : ChangeSpec := { name := "fnExactHasBadWord", fn := fun _ => fun
  | [d1, d2] => { results := [.lit (.bool false)], args := [d1, d2] }
  | _ => none }
def FnExactHasBadWordWrongFalsely : Prop := fnExactHasBadWordRow.holds Try.pinned (OpenSpec.ofChange fnExactHasBadWordWrong)

/-- 'laws.FnExactWorstMembers': WHATEVER THE INPUT: true; the input reads as it did. -/
def fnExactWorstMembersSpec : ChangeSpec := { name := "fnExactWorstMembers", fn := fun _ => fun
  | [d1, d2, d3, d4] => { results := [.lit (.bool true)], args := [d1, d2, d3, d4] }
  | _ => none }
def fnExactWorstMembersRow : OpenClaim := { program := "ytjfaepolmllejaa", sum := "7aca1b80b37674f5ad5829509ab9d4ceb12e0b87f7bd050953da486345363ed6", func := "loop.example/g01202/laws.FnExactWorstMembers", spec := "fnExactWorstMembers", unfollowed := true, recurses := true, apart := false }
def FnExactWorstMembersSaid : Prop := fnExactWorstMembersRow.holds Try.pinned (OpenSpec.ofChange fnExactWorstMembersSpec)

/-- ITS FALSE NEIGHBOUR: 'it returns false'. Refute it at one input. -/
def fnExactWorstMembersWrong : ChangeSpec := { name := "fnExactWorstMembers", fn := fun _ => fun
  | [d1, d2, d3, d4] => { results := [.lit (.bool false)], args := [d1, d2, d3, d4] }
  | _ => none }
def FnExactWorstMembersWrongFalsely : Prop := fnExactWorstMembersRow.holds Try.pinned (OpenSpec.ofChange fnExactWorstMembersWrong)

/-- 'laws.FnExactBadWordsIn': WHATEVER THE INPUT: true; the input reads as it did. -/
def fnExactBadWordsInSpec : ChangeSpec := { name := "fnExactBadWordsIn", fn := fun _ => fun
  | [d1, d2] => { results := [.lit (.bool true)], args := [d1, d2] }
  | _ => none }
def fnExactBadWordsInRow : OpenClaim := { program := "ytjfaepolmllejaa", sum := "7aca1b80b37674f5ad5829509ab9d4ceb12e0b87f7bd050953da486345363ed6", func := "loop.example/g01202/laws.FnExactBadWordsIn", spec := "fnExactBadWordsIn", recurses := true, apart := false }
def FnExactBadWordsInSaid : Prop := fnExactBadWordsInRow.holds Try.pinned (OpenSpec.ofChange fnExactBadWordsInSpec)

/-- ITS FALSE NEIGHBOUR: 'it returns false'. Refute it at one input. -/
def fnExactBadWordsInWrong : ChangeSpec := { name := "fnExactBadWordsIn", fn := fun _ => fun
  | [d1, d2] => { results := [.lit (.bool false)], args := [d1, d2] }
  | _ => none }
def FnExactBadWordsInWrongFalsely : Prop := fnExactBadWordsInRow.holds Try.pinned (OpenSpec.ofChange fnExactBadWordsInWrong)

/- THE SECOND FORM. 'bulk': how many values and letters a reading holds, each counted each time it is reached (what is shared counts as often as it is met; a slice's spare places count too). A statement '..UptoSaid' is the law's where the arguments, and the package variables that the reading takes, are together of bulk at most 1048576: NARROWER than '..Said'. Prove '..Said' where nothing that the law and all that it calls make is longer than what came in: it says more and counts as full. Else prove '..UptoSaid'. A law counts once. -/
mutual
def uptoBulk {H : Type} : DataW H → Nat
  | .lit (.string bytes) => bytes.length + 1
  | .lit _ => 1
  | .nil => 1
  | .ptr d => uptoBulk d + 1
  | .slice elems spare => uptoBulkAll elems + uptoBulkAll spare + 1
  | .agg parts => uptoBulkAll parts + 1
  | .iface _ d => uptoBulk d + 1
  | .map entries => uptoBulkEntries entries + 1
  | .held _ => 1
def uptoBulkAll {H : Type} : List (DataW H) → Nat
  | [] => 0
  | d :: r => uptoBulk d + uptoBulkAll r
def uptoBulkEntries {H : Type} : List (Lit × DataW H) → Nat
  | [] => 0
  | x :: r => uptoBulkEntry x + uptoBulkEntries r
def uptoBulkEntry {H : Type} : Lit × DataW H → Nat
  | (.string bytes, d) => bytes.length + uptoBulk d + 1
  | (_, d) => uptoBulk d + 1
 end
def uptoSmall : (H : Type) → List (DataW H) → Bool := fun _ ds => decide (uptoBulkAll ds ≤ 1048576)
def OpenSpec.upto (s : _root_.Go.ChangeSpec) : _root_.Go.OpenSpec := { _root_.Go.OpenSpec.ofChange s with cond := some uptoSmall }

/-- 'laws.FnExactAreBadWords', WHERE WHAT IT READS IS OF BULK AT MOST 1048576: true; the input reads as it did. -/
def fnExactAreBadWordsUptoRow : OpenClaim := { program := "ytjfaepolmllejaa", sum := "7aca1b80b37674f5ad5829509ab9d4ceb12e0b87f7bd050953da486345363ed6", func := "loop.example/g01202/laws.FnExactAreBadWords", spec := "fnExactAreBadWords", apart := false, narrowed := true }
def FnExactAreBadWordsUptoSaid : Prop := fnExactAreBadWordsUptoRow.holds Try.pinned (OpenSpec.upto fnExactAreBadWordsSpec)

/-- 'laws.FnExactRunWindow', WHERE WHAT IT READS IS OF BULK AT MOST 1048576: true; the input reads as it did. -/
def fnExactRunWindowUptoRow : OpenClaim := { program := "ytjfaepolmllejaa", sum := "7aca1b80b37674f5ad5829509ab9d4ceb12e0b87f7bd050953da486345363ed6", func := "loop.example/g01202/laws.FnExactRunWindow", spec := "fnExactRunWindow", apart := false, narrowed := true }
def FnExactRunWindowUptoSaid : Prop := fnExactRunWindowUptoRow.holds Try.pinned (OpenSpec.upto fnExactRunWindowSpec)

/-- 'laws.FnExactAddStrike', WHERE WHAT IT READS IS OF BULK AT MOST 1048576: true; the input reads as it did. -/
def fnExactAddStrikeUptoRow : OpenClaim := { program := "ytjfaepolmllejaa", sum := "7aca1b80b37674f5ad5829509ab9d4ceb12e0b87f7bd050953da486345363ed6", func := "loop.example/g01202/laws.FnExactAddStrike", spec := "fnExactAddStrike", apart := false, narrowed := true }
def FnExactAddStrikeUptoSaid : Prop := fnExactAddStrikeUptoRow.holds Try.pinned (OpenSpec.upto fnExactAddStrikeSpec)

/-- 'laws.FnExactForgiveOld', WHERE WHAT IT READS IS OF BULK AT MOST 1048576: true; the input reads as it did. -/
def fnExactForgiveOldUptoRow : OpenClaim := { program := "ytjfaepolmllejaa", sum := "7aca1b80b37674f5ad5829509ab9d4ceb12e0b87f7bd050953da486345363ed6", func := "loop.example/g01202/laws.FnExactForgiveOld", spec := "fnExactForgiveOld", unfollowed := true, recurses := true, apart := false, narrowed := true }
def FnExactForgiveOldUptoSaid : Prop := fnExactForgiveOldUptoRow.holds Try.pinned (OpenSpec.upto fnExactForgiveOldSpec)

/-- 'laws.FnExactCensorText', WHERE WHAT IT READS IS OF BULK AT MOST 1048576: true; the input reads as it did. -/
def fnExactCensorTextUptoRow : OpenClaim := { program := "ytjfaepolmllejaa", sum := "7aca1b80b37674f5ad5829509ab9d4ceb12e0b87f7bd050953da486345363ed6", func := "loop.example/g01202/laws.FnExactCensorText", spec := "fnExactCensorText", apart := false, narrowed := true }
def FnExactCensorTextUptoSaid : Prop := fnExactCensorTextUptoRow.holds Try.pinned (OpenSpec.upto fnExactCensorTextSpec)

/-- 'laws.FnStrikes', WHERE WHAT IT READS IS OF BULK AT MOST 1048576: true; the input reads as it did. -/
def fnStrikesUptoRow : OpenClaim := { program := "ytjfaepolmllejaa", sum := "7aca1b80b37674f5ad5829509ab9d4ceb12e0b87f7bd050953da486345363ed6", func := "loop.example/g01202/laws.FnStrikes", spec := "fnStrikes", unfollowed := true, recurses := true, apart := false, narrowed := true }
def FnStrikesUptoSaid : Prop := fnStrikesUptoRow.holds Try.pinned (OpenSpec.upto fnStrikesSpec)

/-- 'laws.FnCensored', WHERE WHAT IT READS IS OF BULK AT MOST 1048576: true; the input reads as it did. -/
def fnCensoredUptoRow : OpenClaim := { program := "ytjfaepolmllejaa", sum := "7aca1b80b37674f5ad5829509ab9d4ceb12e0b87f7bd050953da486345363ed6", func := "loop.example/g01202/laws.FnCensored", spec := "fnCensored", recurses := true, apart := false, narrowed := true }
def FnCensoredUptoSaid : Prop := fnCensoredUptoRow.holds Try.pinned (OpenSpec.upto fnCensoredSpec)

/-- 'laws.FnExactHasBadWord', WHERE WHAT IT READS IS OF BULK AT MOST 1048576: true; the input reads as it did. -/
def fnExactHasBadWordUptoRow : OpenClaim := { program := "ytjfaepolmllejaa", sum := "7aca1b80b37674f5ad5829509ab9d4ceb12e0b87f7bd050953da486345363ed6", func := "loop.example/g01202/laws.FnExactHasBadWord", spec := "fnExactHasBadWord", recurses := true, apart := false, narrowed := true }
def FnExactHasBadWordUptoSaid : Prop := fnExactHasBadWordUptoRow.holds Try.pinned (OpenSpec.upto fnExactHasBadWordSpec)

/-- 'laws.FnExactWorstMembers', WHERE WHAT IT READS IS OF BULK AT MOST 1048576: true; the input reads as it did. -/
def fnExactWorstMembersUptoRow : OpenClaim := { program := "ytjfaepolmllejaa", sum := "7aca1b80b37674f5ad5829509ab9d4ceb12e0b87f7bd050953da486345363ed6", func := "loop.example/g01202/laws.FnExactWorstMembers", spec := "fnExactWorstMembers", unfollowed := true, recurses := true, apart := false, narrowed := true }
def FnExactWorstMembersUptoSaid : Prop := fnExactWorstMembersUptoRow.holds Try.pinned (OpenSpec.upto fnExactWorstMembersSpec)

/-- 'laws.FnExactBadWordsIn', WHERE WHAT IT READS IS OF BULK AT MOST 1048576: true; the input reads as it did. -/
def fnExactBadWordsInUptoRow : OpenClaim := { program := "ytjfaepolmllejaa", sum := "7aca1b80b37674f5ad5829509ab9d4ceb12e0b87f7bd050953da486345363ed6", func := "loop.example/g01202/laws.FnExactBadWordsIn", spec := "fnExactBadWordsIn", recurses := true, apart := false, narrowed := true }
def FnExactBadWordsInUptoSaid : Prop := fnExactBadWordsInUptoRow.holds Try.pinned (OpenSpec.upto fnExactBadWordsInSpec)

end Rows
end Go.Proofs.Ytjfaepolmllejaa
