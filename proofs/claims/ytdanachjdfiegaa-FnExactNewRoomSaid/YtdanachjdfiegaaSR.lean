/- Of the printed words: what one row is told by anew. -/
import Derived.Test.YtdanachjdfiegaaSMoreS
import Derived.Test.YtdanachjdfiegaaSWords
import Derived.Test.YtdanachjdfiegaaSKept
namespace Go.Proofs.YtdanachjdfiegaaW.PrintWords
open Go.RowKit
namespace Kd
theorem R_reok {α : Type} {d : Kd α} {e base : Nat} {ok ok1 : Nat → Prop} {W : World} {v : Value} {xs : List α} (hE : d.E = []) (h : d.R e W base ok1 v xs) (hok : ∀ k, v.ownBlock = some k → ok k) : d.R e W base ok v xs := R_mono (R_tight hE h) (fun k hk => hok k hk.symm)
theorem R_tight2 {α : Type} {d : Kd α} {e base : Nat} {ok : Nat → Prop} {W : World} {v : Value} {xs : List α} (hE : d.E = []) (h : d.R e W base ok v xs) : d.R e W base (fun k => some k = v.ownBlock ∧ ok k) v xs := R_mono (R_tight hE h) (fun k hk => ⟨hk, h.1 k hk.symm⟩)
theorem R_keptB {α : Type} {d : Kd α} {e base : Nat} {ok : Nat → Prop} {W W2 : World} {v : Value} {xs : List α} {S : Nat → Prop} (h : d.R e W base ok v xs) (hk : Kept W W2 S) (hne : ∀ k, ok k → ¬ S k) : d.R e W2 base (fun k => ok k ∧ (¬ S k ∧ k < W.heap.size)) v xs :=
  R_step (R_mono (R_bound h) (fun k hk => ⟨hk.1, hne k hk.1, hk.2.2.1⟩)) (fun k ho hlt => hk.2 k hlt ho.2.1)
end Kd
end Go.Proofs.YtdanachjdfiegaaW.PrintWords
