/-
  No cell of these rows narrows 'for every input' (looked for: loops, veiled, ifaces, maps, wideKeys, modest, calm, conditions, laid).
  DERIVED. THE GIVEN ROWS OF THIS SEAT. 12 by the template 'for every input the law returns true; each argument reads behind the call as it read before'; 0 by the template 'total and deterministic' (their statements: YtidlbifgfciikaaTotals.lean).
  GIVEN WITH THE SEED: the statements are not yours to turn. If you find one false, say at which input.
  Laid BY PROGRAM, IN A SANDBOX (cutbox-rows.mjs): the forced cells as the released guide's own fill.sh prints them over the translation 107f658c230660c8… (all of the seat's roots in one cut). By AI agents, Wed Nov 11 2026. No macro, syntax, notation, axiom, sorry.
-/
import Derived.Test.YtidlbifgfciikaaChecked
import GoSem.Claim
import GoSem.ClaimJoined
import GoSem.ClaimMapViews
import Derived.JoinedTies
import Derived.KernelRfl
namespace Go.Proofs.Ytidlbifgfciikaa
/- THE CELL 'sum', in the pinned program and in every row, IS THE sha256 OF THE DUMP (.gsa) THAT YtidlbifgfciikaaProg.lean LOADS. Nothing in Lean hashes anything: it is a label: what it is worth is what the hold of that sum in a sandbox is worth. -/
noncomputable def Try.pinned : Pinned := { name := "ytidlbifgfciikaa", sum := "107f658c230660c8ade0c079e9c2bd1cc02b403cce4765f43a7186ce7f9ae996", checked := Try.checked }
namespace Rows
def none {H : Type} : Left H := { results := [], args := [] }

/-- 'laws.FnExactValidBucket': WHATEVER THE INPUT: true; the input reads as it did. -/
def fnExactValidBucketSpec : ChangeSpec := { name := "fnExactValidBucket", fn := fun _ => fun
  | [d] => { results := [.lit (.bool true)], args := [d] }
  | _ => none }
def fnExactValidBucketRow : OpenClaim := { program := "ytidlbifgfciikaa", sum := "107f658c230660c8ade0c079e9c2bd1cc02b403cce4765f43a7186ce7f9ae996", func := "loop.example/g01202/laws.FnExactValidBucket", spec := "fnExactValidBucket", apart := false }
def FnExactValidBucketSaid : Prop := fnExactValidBucketRow.holds Try.pinned (OpenSpec.ofChange fnExactValidBucketSpec)

/-- ITS FALSE NEIGHBOUR: 'it returns false'. Refute it at one input. -/
def fnExactValidBucketWrong : ChangeSpec := { name := "fnExactValidBucket", fn := fun _ => fun
  | [d] => { results := [.lit (.bool false)], args := [d] }
  | _ => none }
def FnExactValidBucketWrongFalsely : Prop := fnExactValidBucketRow.holds Try.pinned (OpenSpec.ofChange fnExactValidBucketWrong)

/-- 'laws.FnExactPenaltyOf': WHATEVER THE INPUT: true; the input reads as it did. -/
def fnExactPenaltyOfSpec : ChangeSpec := { name := "fnExactPenaltyOf", fn := fun _ => fun
  | [d] => { results := [.lit (.bool true)], args := [d] }
  | _ => none }
def fnExactPenaltyOfRow : OpenClaim := { program := "ytidlbifgfciikaa", sum := "107f658c230660c8ade0c079e9c2bd1cc02b403cce4765f43a7186ce7f9ae996", func := "loop.example/g01202/laws.FnExactPenaltyOf", spec := "fnExactPenaltyOf", apart := false }
def FnExactPenaltyOfSaid : Prop := fnExactPenaltyOfRow.holds Try.pinned (OpenSpec.ofChange fnExactPenaltyOfSpec)

/-- ITS FALSE NEIGHBOUR: 'it returns false'. Refute it at one input. -/
def fnExactPenaltyOfWrong : ChangeSpec := { name := "fnExactPenaltyOf", fn := fun _ => fun
  | [d] => { results := [.lit (.bool false)], args := [d] }
  | _ => none }
def FnExactPenaltyOfWrongFalsely : Prop := fnExactPenaltyOfRow.holds Try.pinned (OpenSpec.ofChange fnExactPenaltyOfWrong)

/-- 'laws.FnExactNewBucket': WHATEVER THE INPUT: true; the input reads as it did. -/
def fnExactNewBucketSpec : ChangeSpec := { name := "fnExactNewBucket", fn := fun _ => fun
  | [d1, d2, d3] => { results := [.lit (.bool true)], args := [d1, d2, d3] }
  | _ => none }
def fnExactNewBucketRow : OpenClaim := { program := "ytidlbifgfciikaa", sum := "107f658c230660c8ade0c079e9c2bd1cc02b403cce4765f43a7186ce7f9ae996", func := "loop.example/g01202/laws.FnExactNewBucket", spec := "fnExactNewBucket", apart := false }
def FnExactNewBucketSaid : Prop := fnExactNewBucketRow.holds Try.pinned (OpenSpec.ofChange fnExactNewBucketSpec)

/-- ITS FALSE NEIGHBOUR: 'it returns false'. Refute it at one input. -/
def fnExactNewBucketWrong : ChangeSpec := { name := "fnExactNewBucket", fn := fun _ => fun
  | [d1, d2, d3] => { results := [.lit (.bool false)], args := [d1, d2, d3] }
  | _ => none }
def FnExactNewBucketWrongFalsely : Prop := fnExactNewBucketRow.holds Try.pinned (OpenSpec.ofChange fnExactNewBucketWrong)

/-- 'laws.FnExactLeftAt': WHATEVER THE INPUT: true; the input reads as it did. -/
def fnExactLeftAtSpec : ChangeSpec := { name := "fnExactLeftAt", fn := fun _ => fun
  | [d1, d2] => { results := [.lit (.bool true)], args := [d1, d2] }
  | _ => none }
def fnExactLeftAtRow : OpenClaim := { program := "ytidlbifgfciikaa", sum := "107f658c230660c8ade0c079e9c2bd1cc02b403cce4765f43a7186ce7f9ae996", func := "loop.example/g01202/laws.FnExactLeftAt", spec := "fnExactLeftAt", apart := false }
def FnExactLeftAtSaid : Prop := fnExactLeftAtRow.holds Try.pinned (OpenSpec.ofChange fnExactLeftAtSpec)

/-- ITS FALSE NEIGHBOUR: 'it returns false'. Refute it at one input. -/
def fnExactLeftAtWrong : ChangeSpec := { name := "fnExactLeftAt", fn := fun _ => fun
  | [d1, d2] => { results := [.lit (.bool false)], args := [d1, d2] }
  | _ => none }
def FnExactLeftAtWrongFalsely : Prop := fnExactLeftAtRow.holds Try.pinned (OpenSpec.ofChange fnExactLeftAtWrong)

/-- 'laws.FnExactWaitFor': WHATEVER THE INPUT: true; the input reads as it did. -/
def fnExactWaitForSpec : ChangeSpec := { name := "fnExactWaitFor", fn := fun _ => fun
  | [d1, d2, d3] => { results := [.lit (.bool true)], args := [d1, d2, d3] }
  | _ => none }
def fnExactWaitForRow : OpenClaim := { program := "ytidlbifgfciikaa", sum := "107f658c230660c8ade0c079e9c2bd1cc02b403cce4765f43a7186ce7f9ae996", func := "loop.example/g01202/laws.FnExactWaitFor", spec := "fnExactWaitFor", apart := false }
def FnExactWaitForSaid : Prop := fnExactWaitForRow.holds Try.pinned (OpenSpec.ofChange fnExactWaitForSpec)

/-- ITS FALSE NEIGHBOUR: 'it returns false'. Refute it at one input. -/
def fnExactWaitForWrong : ChangeSpec := { name := "fnExactWaitFor", fn := fun _ => fun
  | [d1, d2, d3] => { results := [.lit (.bool false)], args := [d1, d2, d3] }
  | _ => none }
def FnExactWaitForWrongFalsely : Prop := fnExactWaitForRow.holds Try.pinned (OpenSpec.ofChange fnExactWaitForWrong)

/-- 'laws.FnBuckets': WHATEVER THE INPUT: true; the input reads as it did. -/
def fnBucketsSpec : ChangeSpec := { name := "fnBuckets", fn := fun _ => fun
  | [d1, d2] => { results := [.lit (.bool true)], args := [d1, d2] }
  | _ => none }
def fnBucketsRow : OpenClaim := { program := "ytidlbifgfciikaa", sum := "107f658c230660c8ade0c079e9c2bd1cc02b403cce4765f43a7186ce7f9ae996", func := "loop.example/g01202/laws.FnBuckets", spec := "fnBuckets", apart := false }
def FnBucketsSaid : Prop := fnBucketsRow.holds Try.pinned (OpenSpec.ofChange fnBucketsSpec)

/-- ITS FALSE NEIGHBOUR: 'it returns false'. Refute it at one input. -/
def fnBucketsWrong : ChangeSpec := { name := "fnBuckets", fn := fun _ => fun
  | [d1, d2] => { results := [.lit (.bool false)], args := [d1, d2] }
  | _ => none }
def FnBucketsWrongFalsely : Prop := fnBucketsRow.holds Try.pinned (OpenSpec.ofChange fnBucketsWrong)

/-- 'laws.FnWindows': WHATEVER THE INPUT: true; the input reads as it did. -/
def fnWindowsSpec : ChangeSpec := { name := "fnWindows", fn := fun _ => fun
  | [d1, d2] => { results := [.lit (.bool true)], args := [d1, d2] }
  | _ => none }
def fnWindowsRow : OpenClaim := { program := "ytidlbifgfciikaa", sum := "107f658c230660c8ade0c079e9c2bd1cc02b403cce4765f43a7186ce7f9ae996", func := "loop.example/g01202/laws.FnWindows", spec := "fnWindows", apart := false }
def FnWindowsSaid : Prop := fnWindowsRow.holds Try.pinned (OpenSpec.ofChange fnWindowsSpec)

/-- ITS FALSE NEIGHBOUR: 'it returns false'. Refute it at one input. -/
def fnWindowsWrong : ChangeSpec := { name := "fnWindows", fn := fun _ => fun
  | [d1, d2] => { results := [.lit (.bool false)], args := [d1, d2] }
  | _ => none }
def FnWindowsWrongFalsely : Prop := fnWindowsRow.holds Try.pinned (OpenSpec.ofChange fnWindowsWrong)

/-- 'laws.FnExactAreStrikes': WHATEVER THE INPUT: true; the input reads as it did. -/
def fnExactAreStrikesSpec : ChangeSpec := { name := "fnExactAreStrikes", fn := fun _ => fun
  | [d] => { results := [.lit (.bool true)], args := [d] }
  | _ => none }
def fnExactAreStrikesRow : OpenClaim := { program := "ytidlbifgfciikaa", sum := "107f658c230660c8ade0c079e9c2bd1cc02b403cce4765f43a7186ce7f9ae996", func := "loop.example/g01202/laws.FnExactAreStrikes", spec := "fnExactAreStrikes", apart := false }
def FnExactAreStrikesSaid : Prop := fnExactAreStrikesRow.holds Try.pinned (OpenSpec.ofChange fnExactAreStrikesSpec)

/-- ITS FALSE NEIGHBOUR: 'it returns false'. Refute it at one input. -/
def fnExactAreStrikesWrong : ChangeSpec := { name := "fnExactAreStrikes", fn := fun _ => fun
  | [d] => { results := [.lit (.bool false)], args := [d] }
  | _ => none }
def FnExactAreStrikesWrongFalsely : Prop := fnExactAreStrikesRow.holds Try.pinned (OpenSpec.ofChange fnExactAreStrikesWrong)

/-- 'laws.FnExactTakeBucket': WHATEVER THE INPUT: true; the input reads as it did. -/
def fnExactTakeBucketSpec : ChangeSpec := { name := "fnExactTakeBucket", fn := fun _ => fun
  | [d1, d2, d3] => { results := [.lit (.bool true)], args := [d1, d2, d3] }
  | _ => none }
def fnExactTakeBucketRow : OpenClaim := { program := "ytidlbifgfciikaa", sum := "107f658c230660c8ade0c079e9c2bd1cc02b403cce4765f43a7186ce7f9ae996", func := "loop.example/g01202/laws.FnExactTakeBucket", spec := "fnExactTakeBucket", apart := false }
def FnExactTakeBucketSaid : Prop := fnExactTakeBucketRow.holds Try.pinned (OpenSpec.ofChange fnExactTakeBucketSpec)

/-- ITS FALSE NEIGHBOUR: 'it returns false'. Refute it at one input. -/
def fnExactTakeBucketWrong : ChangeSpec := { name := "fnExactTakeBucket", fn := fun _ => fun
  | [d1, d2, d3] => { results := [.lit (.bool false)], args := [d1, d2, d3] }
  | _ => none }
def FnExactTakeBucketWrongFalsely : Prop := fnExactTakeBucketRow.holds Try.pinned (OpenSpec.ofChange fnExactTakeBucketWrong)

/-- 'laws.FnWaits': WHATEVER THE INPUT: true; the input reads as it did. -/
def fnWaitsSpec : ChangeSpec := { name := "fnWaits", fn := fun _ => fun
  | [d1, d2] => { results := [.lit (.bool true)], args := [d1, d2] }
  | _ => none }
def fnWaitsRow : OpenClaim := { program := "ytidlbifgfciikaa", sum := "107f658c230660c8ade0c079e9c2bd1cc02b403cce4765f43a7186ce7f9ae996", func := "loop.example/g01202/laws.FnWaits", spec := "fnWaits", apart := false }
def FnWaitsSaid : Prop := fnWaitsRow.holds Try.pinned (OpenSpec.ofChange fnWaitsSpec)

/-- ITS FALSE NEIGHBOUR: 'it returns false'. Refute it at one input. -/
def fnWaitsWrong : ChangeSpec := { name := "fnWaits", fn := fun _ => fun
  | [d1, d2] => { results := [.lit (.bool false)], args := [d1, d2] }
  | _ => none }
def FnWaitsWrongFalsely : Prop := fnWaitsRow.holds Try.pinned (OpenSpec.ofChange fnWaitsWrong)

/-- 'laws.FnExactPointsOf': WHATEVER THE INPUT: true; the input reads as it did. -/
def fnExactPointsOfSpec : ChangeSpec := { name := "fnExactPointsOf", fn := fun _ => fun
  | [d1, d2, d3, d4] => { results := [.lit (.bool true)], args := [d1, d2, d3, d4] }
  | _ => none }
def fnExactPointsOfRow : OpenClaim := { program := "ytidlbifgfciikaa", sum := "107f658c230660c8ade0c079e9c2bd1cc02b403cce4765f43a7186ce7f9ae996", func := "loop.example/g01202/laws.FnExactPointsOf", spec := "fnExactPointsOf", apart := false }
def FnExactPointsOfSaid : Prop := fnExactPointsOfRow.holds Try.pinned (OpenSpec.ofChange fnExactPointsOfSpec)

/-- ITS FALSE NEIGHBOUR: 'it returns false'. Refute it at one input. -/
def fnExactPointsOfWrong : ChangeSpec := { name := "fnExactPointsOf", fn := fun _ => fun
  | [d1, d2, d3, d4] => { results := [.lit (.bool false)], args := [d1, d2, d3, d4] }
  | _ => none }
def FnExactPointsOfWrongFalsely : Prop := fnExactPointsOfRow.holds Try.pinned (OpenSpec.ofChange fnExactPointsOfWrong)

/-- 'laws.FnExactRunBucket': WHATEVER THE INPUT: true; the input reads as it did. -/
def fnExactRunBucketSpec : ChangeSpec := { name := "fnExactRunBucket", fn := fun _ => fun
  | [d1, d2] => { results := [.lit (.bool true)], args := [d1, d2] }
  | _ => none }
def fnExactRunBucketRow : OpenClaim := { program := "ytidlbifgfciikaa", sum := "107f658c230660c8ade0c079e9c2bd1cc02b403cce4765f43a7186ce7f9ae996", func := "loop.example/g01202/laws.FnExactRunBucket", spec := "fnExactRunBucket", apart := false }
def FnExactRunBucketSaid : Prop := fnExactRunBucketRow.holds Try.pinned (OpenSpec.ofChange fnExactRunBucketSpec)

/-- ITS FALSE NEIGHBOUR: 'it returns false'. Refute it at one input. -/
def fnExactRunBucketWrong : ChangeSpec := { name := "fnExactRunBucket", fn := fun _ => fun
  | [d1, d2] => { results := [.lit (.bool false)], args := [d1, d2] }
  | _ => none }
def FnExactRunBucketWrongFalsely : Prop := fnExactRunBucketRow.holds Try.pinned (OpenSpec.ofChange fnExactRunBucketWrong)

/- THE SECOND FORM. 'bulk': how many values and letters a reading holds, each counted each time it is reached (what is shared counts as often as it is met; a slice's spare places count too). A statement '..UptoSaid' is the law's where the arguments, and the package variables that the reading takes, are together of bulk at most 1048576: NARROWER than '..Said'. Prove '..Said' where nothing that the law and all that it calls make is longer than what came in: it says more and counts as full. Else prove '..UptoSaid'. A law counts once. -/
mutual
def uptoBulk {H : Type} : DataW H → Nat
  | .lit (.string bytes) => bytes.length + 1
  | .lit _ => 1
  | .nil => 1
  | .ptr d => uptoBulk d + 1
  | .slice elems spare => uptoBulkAll elems + uptoBulkAll spare + 1
  | .agg parts => uptoBulkAll parts + 1
  | .iface _ d => uptoBulk d + 1
  | .map entries => uptoBulkEntries entries + 1
  | .held _ => 1
def uptoBulkAll {H : Type} : List (DataW H) → Nat
  | [] => 0
  | d :: r => uptoBulk d + uptoBulkAll r
def uptoBulkEntries {H : Type} : List (Lit × DataW H) → Nat
  | [] => 0
  | x :: r => uptoBulkEntry x + uptoBulkEntries r
def uptoBulkEntry {H : Type} : Lit × DataW H → Nat
  | (.string bytes, d) => bytes.length + uptoBulk d + 1
  | (_, d) => uptoBulk d + 1
 end
def uptoSmall : (H : Type) → List (DataW H) → Bool := fun _ ds => decide (uptoBulkAll ds ≤ 1048576)
def OpenSpec.upto (s : _root_.Go.ChangeSpec) : _root_.Go.OpenSpec := { _root_.Go.OpenSpec.ofChange s with cond := some uptoSmall }

/-- 'laws.FnExactValidBucket', WHERE WHAT IT READS IS OF BULK AT MOST 1048576: true; the input reads as it did. -/
def fnExactValidBucketUptoRow : OpenClaim := { program := "ytidlbifgfciikaa", sum := "107f658c230660c8ade0c079e9c2bd1cc02b403cce4765f43a7186ce7f9ae996", func := "loop.example/g01202/laws.FnExactValidBucket", spec := "fnExactValidBucket", apart := false, narrowed := true }
def FnExactValidBucketUptoSaid : Prop := fnExactValidBucketUptoRow.holds Try.pinned (OpenSpec.upto fnExactValidBucketSpec)

/-- 'laws.FnExactPenaltyOf', WHERE WHAT IT READS IS OF BULK AT MOST 1048576: true; the input reads as it did. -/
def fnExactPenaltyOfUptoRow : OpenClaim := { program := "ytidlbifgfciikaa", sum := "107f658c230660c8ade0c079e9c2bd1cc02b403cce4765f43a7186ce7f9ae996", func := "loop.example/g01202/laws.FnExactPenaltyOf", spec := "fnExactPenaltyOf", apart := false, narrowed := true }
def FnExactPenaltyOfUptoSaid : Prop := fnExactPenaltyOfUptoRow.holds Try.pinned (OpenSpec.upto fnExactPenaltyOfSpec)

/-- 'laws.FnExactNewBucket', WHERE WHAT IT READS IS OF BULK AT MOST 1048576: true; the input reads as it did. -/
def fnExactNewBucketUptoRow : OpenClaim := { program := "ytidlbifgfciikaa", sum := "107f658c230660c8ade0c079e9c2bd1cc02b403cce4765f43a7186ce7f9ae996", func := "loop.example/g01202/laws.FnExactNewBucket", spec := "fnExactNewBucket", apart := false, narrowed := true }
def FnExactNewBucketUptoSaid : Prop := fnExactNewBucketUptoRow.holds Try.pinned (OpenSpec.upto fnExactNewBucketSpec)

/-- 'laws.FnExactLeftAt', WHERE WHAT IT READS IS OF BULK AT MOST 1048576: true; the input reads as it did. -/
def fnExactLeftAtUptoRow : OpenClaim := { program := "ytidlbifgfciikaa", sum := "107f658c230660c8ade0c079e9c2bd1cc02b403cce4765f43a7186ce7f9ae996", func := "loop.example/g01202/laws.FnExactLeftAt", spec := "fnExactLeftAt", apart := false, narrowed := true }
def FnExactLeftAtUptoSaid : Prop := fnExactLeftAtUptoRow.holds Try.pinned (OpenSpec.upto fnExactLeftAtSpec)

/-- 'laws.FnExactWaitFor', WHERE WHAT IT READS IS OF BULK AT MOST 1048576: true; the input reads as it did. -/
def fnExactWaitForUptoRow : OpenClaim := { program := "ytidlbifgfciikaa", sum := "107f658c230660c8ade0c079e9c2bd1cc02b403cce4765f43a7186ce7f9ae996", func := "loop.example/g01202/laws.FnExactWaitFor", spec := "fnExactWaitFor", apart := false, narrowed := true }
def FnExactWaitForUptoSaid : Prop := fnExactWaitForUptoRow.holds Try.pinned (OpenSpec.upto fnExactWaitForSpec)

/-- 'laws.FnBuckets', WHERE WHAT IT READS IS OF BULK AT MOST 1048576: true; the input reads as it did. -/
def fnBucketsUptoRow : OpenClaim := { program := "ytidlbifgfciikaa", sum := "107f658c230660c8ade0c079e9c2bd1cc02b403cce4765f43a7186ce7f9ae996", func := "loop.example/g01202/laws.FnBuckets", spec := "fnBuckets", apart := false, narrowed := true }
def FnBucketsUptoSaid : Prop := fnBucketsUptoRow.holds Try.pinned (OpenSpec.upto fnBucketsSpec)

/-- 'laws.FnWindows', WHERE WHAT IT READS IS OF BULK AT MOST 1048576: true; the input reads as it did. -/
def fnWindowsUptoRow : OpenClaim := { program := "ytidlbifgfciikaa", sum := "107f658c230660c8ade0c079e9c2bd1cc02b403cce4765f43a7186ce7f9ae996", func := "loop.example/g01202/laws.FnWindows", spec := "fnWindows", apart := false, narrowed := true }
def FnWindowsUptoSaid : Prop := fnWindowsUptoRow.holds Try.pinned (OpenSpec.upto fnWindowsSpec)

/-- 'laws.FnExactAreStrikes', WHERE WHAT IT READS IS OF BULK AT MOST 1048576: true; the input reads as it did. -/
def fnExactAreStrikesUptoRow : OpenClaim := { program := "ytidlbifgfciikaa", sum := "107f658c230660c8ade0c079e9c2bd1cc02b403cce4765f43a7186ce7f9ae996", func := "loop.example/g01202/laws.FnExactAreStrikes", spec := "fnExactAreStrikes", apart := false, narrowed := true }
def FnExactAreStrikesUptoSaid : Prop := fnExactAreStrikesUptoRow.holds Try.pinned (OpenSpec.upto fnExactAreStrikesSpec)

/-- 'laws.FnExactTakeBucket', WHERE WHAT IT READS IS OF BULK AT MOST 1048576: true; the input reads as it did. -/
def fnExactTakeBucketUptoRow : OpenClaim := { program := "ytidlbifgfciikaa", sum := "107f658c230660c8ade0c079e9c2bd1cc02b403cce4765f43a7186ce7f9ae996", func := "loop.example/g01202/laws.FnExactTakeBucket", spec := "fnExactTakeBucket", apart := false, narrowed := true }
def FnExactTakeBucketUptoSaid : Prop := fnExactTakeBucketUptoRow.holds Try.pinned (OpenSpec.upto fnExactTakeBucketSpec)

/-- 'laws.FnWaits', WHERE WHAT IT READS IS OF BULK AT MOST 1048576: true; the input reads as it did. -/
def fnWaitsUptoRow : OpenClaim := { program := "ytidlbifgfciikaa", sum := "107f658c230660c8ade0c079e9c2bd1cc02b403cce4765f43a7186ce7f9ae996", func := "loop.example/g01202/laws.FnWaits", spec := "fnWaits", apart := false, narrowed := true }
def FnWaitsUptoSaid : Prop := fnWaitsUptoRow.holds Try.pinned (OpenSpec.upto fnWaitsSpec)

/-- 'laws.FnExactPointsOf', WHERE WHAT IT READS IS OF BULK AT MOST 1048576: true; the input reads as it did. -/
def fnExactPointsOfUptoRow : OpenClaim := { program := "ytidlbifgfciikaa", sum := "107f658c230660c8ade0c079e9c2bd1cc02b403cce4765f43a7186ce7f9ae996", func := "loop.example/g01202/laws.FnExactPointsOf", spec := "fnExactPointsOf", apart := false, narrowed := true }
def FnExactPointsOfUptoSaid : Prop := fnExactPointsOfUptoRow.holds Try.pinned (OpenSpec.upto fnExactPointsOfSpec)

/-- 'laws.FnExactRunBucket', WHERE WHAT IT READS IS OF BULK AT MOST 1048576: true; the input reads as it did. -/
def fnExactRunBucketUptoRow : OpenClaim := { program := "ytidlbifgfciikaa", sum := "107f658c230660c8ade0c079e9c2bd1cc02b403cce4765f43a7186ce7f9ae996", func := "loop.example/g01202/laws.FnExactRunBucket", spec := "fnExactRunBucket", apart := false, narrowed := true }
def FnExactRunBucketUptoSaid : Prop := fnExactRunBucketUptoRow.holds Try.pinned (OpenSpec.upto fnExactRunBucketSpec)

end Rows
end Go.Proofs.Ytidlbifgfciikaa
