-- written by a program of this session, on the lines of the kit's print
import Derived.Test.YtgmbgpjebpgpkaaDoorProg
import Derived.Below
import Derived.Deep.Draws
import Derived.Deep.AppendLies
import Derived.Maps.AppendAt
import Derived.OwnWalk
import Derived.Laws.BytesArg
import Derived.Laws.MakeOwn
import Derived.Laws.OwnMore
import Derived.Deep.OwnRows
import Derived.Tactics
import Derived.Lib.ConvBytes
import Derived.Laws.Slices
import Derived.WalkKit
import Derived.KernelRfl
import Derived.RowKit3
import Derived.Deep.LoopGhost
import Derived.Deep.QuietTactic
import Derived.BigQuiet
import Derived.WideLaws
import Derived.Deep.DeepCutAuto
import Derived.Deep.CutBlock
import Derived.Deep.RegionHeld3
import Derived.Laws.Rows
import Derived.Lib.AppendStr
import Derived.ArgAppend
import Derived.Laws.IdiomCopy
import Derived.OrdersHeld
import Derived.Laws.BitsLemmas
import Derived.RowKit
import Derived.Laws.Cover1
import Derived.Laws.Runes
import Derived.Lib.SliceRun
import Derived.Shelf.Lay
import Derived.Shelf.Strconv.Itoa4
import Derived.Shelf.Strings.OnBuilder
import Derived.Lib.AppendIntMem
import Derived.Shelf.Strings.Cut
import Derived.Shelf.Strings.Split
import Derived.Shelf.Strconv.ParseIntPublic10
import Derived.Test.YtgmbgpjebpgpkaaDoorWWords
import Derived.Test.YtgmbgpjebpgpkaaDoorWLast
import Derived.Test.YtgmbgpjebpgpkaaDoorWTab
import Derived.Test.YtgmbgpjebpgpkaaDoorWFour
import Derived.Test.YtgmbgpjebpgpkaaDoorWQPut
import Derived.Test.YtgmbgpjebpgpkaaDoorWApart
import Derived.Test.YtgmbgpjebpgpkaaDoorWArr
import Derived.Test.YtgmbgpjebpgpkaaDoorWZeros
import Derived.Test.YtgmbgpjebpgpkaaDoorWFoot
import Derived.Test.YtgmbgpjebpgpkaaDoorWKept
import Derived.Test.YtgmbgpjebpgpkaaDoorWShare
import Derived.Test.YtgmbgpjebpgpkaaDoorWN
import Derived.Test.YtgmbgpjebpgpkaaDoorWFootNe
import Derived.Test.YtgmbgpjebpgpkaaDoorWAt
import Derived.Test.YtgmbgpjebpgpkaaDoorWEqStruct
import Derived.Test.YtgmbgpjebpgpkaaDoorWRepsOne
import Derived.Test.YtgmbgpjebpgpkaaDoorWInv
import Derived.Test.YtgmbgpjebpgpkaaDoorWInvWords
import Derived.Test.YtgmbgpjebpgpkaaDoorWGuard
import Derived.Test.YtgmbgpjebpgpkaaDoorWNEv
import Derived.Test.YtgmbgpjebpgpkaaDoorWMore
import Derived.Test.YtgmbgpjebpgpkaaDoorCl
namespace Go.Proofs.YtgmbgpjebpgpkaaDoor.QFnExactReadEvent
open Go.RowKit Go.Proofs.YtgmbgpjebpgpkaaDoorW.PrintWords Go.Proofs.YtgmbgpjebpgpkaaDoorW.PrintLast Go.Proofs.YtgmbgpjebpgpkaaDoorW.PrintMore
attribute [local go_sem] max2_int min2_int max_two min_two max_three min_three max_four min_four   -- for this text's walks alone
set_option linter.unusedVariables false
set_option linter.unusedSimpArgs false



def errW : Option Int → Value
  | none => .nilIface
  | some c => .iface 81 (.int .i64 c)
theorem errW_none : errW none = .nilIface := rfl
theorem errW_some (c : Int) : errW (some c) = .iface 81 (.int .i64 c) := rfl

theorem info2 : (Tryd.prog.info? 2).map (fun i => (i.zero, i.size, i.bytes)) = some (some (.int .i64 0), 1, 8) := by kernel_rfl
theorem info5 : (Tryd.prog.info? 5).map (fun i => (i.zero, i.size, i.bytes)) = some (some (.int .u8 0), 1, 1) := by kernel_rfl
theorem info9 : (Tryd.prog.info? 9).map (fun i => (i.zero, i.size, i.bytes)) = some (some (.string ⟨#[]⟩), 1, 16) := by kernel_rfl
-- the values' own types

end Go.Proofs.YtgmbgpjebpgpkaaDoor.QFnExactReadEvent
