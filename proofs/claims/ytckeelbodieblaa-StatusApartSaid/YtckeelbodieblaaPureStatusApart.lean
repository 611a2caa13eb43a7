/- StatusApart, the plain law. -/
import Derived.Test.YtckeelbodieblaaOpenK
import Derived.Test.YtckeelbodieblaaExtC
namespace Go.Proofs.Ytckeelbodieblaa.Pure
open Go.RowKit Go.Proofs Go.Proofs.YtckeelbodieblaaW.PrintWords Go.Proofs.Ytckeelbodieblaa.PB Go.Proofs.Ytckeelbodieblaa.OpenK
theorem StatusApart (l0 l1 : List S37) (h0 : l0.length * 24 ≤ 140737488351232 ∧ ∀ y ∈ l0, wf37 y) (h1 : l1.length * 24 ≤ 140737488351232 ∧ ∀ y ∈ l1, wf37 y) : ∃ k, vellumlaw09_StatusApart.f k l0 l1 = some true :=
  ⟨0, if_pos ⟨⟨h0.1, List.all_eq_true.2 (fun y hy => (h0.2 y hy).2.1)⟩, h1.1, List.all_eq_true.2 (fun y hy => (h1.2 y hy).2.1)⟩⟩
end Go.Proofs.Ytckeelbodieblaa.Pure
