/- Of the printed words: what the plain laws say about rounds. -/
import Derived.Test.YtgfilednbllkmaaSWords
namespace Go.Proofs.YtgfilednbllkmaaW.PrintWords
open Go.RowKit
theorem Ev.now {α : Type} (r : α) : Ev (fun _ => some r) r := ⟨0, fun _ _ => rfl⟩
end Go.Proofs.YtgfilednbllkmaaW.PrintWords
