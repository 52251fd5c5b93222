/- Of the printed words: what the plain laws say about rounds. -/
import Derived.Test.YtdanachjdfiegaaSWords
namespace Go.Proofs.YtdanachjdfiegaaW.PrintWords
open Go.RowKit
end Go.Proofs.YtdanachjdfiegaaW.PrintWords
