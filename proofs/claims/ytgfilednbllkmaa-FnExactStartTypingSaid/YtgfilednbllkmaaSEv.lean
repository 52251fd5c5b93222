/- Of the printed words: what the plain laws say about rounds. -/
import Derived.Test.YtgfilednbllkmaaSWords
namespace Go.Proofs.YtgfilednbllkmaaW.PrintWords
open Go.RowKit
end Go.Proofs.YtgfilednbllkmaaW.PrintWords
