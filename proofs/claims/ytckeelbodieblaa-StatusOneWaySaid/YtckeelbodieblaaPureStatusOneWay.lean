/- StatusOneWay, the plain law. -/
import Derived.Test.YtckeelbodieblaaOpenK
import Derived.Test.YtckeelbodieblaaExtB
namespace Go.Proofs.Ytckeelbodieblaa.Pure
open Go.RowKit Go.Proofs Go.Proofs.YtckeelbodieblaaW.PrintWords Go.Proofs.Ytckeelbodieblaa.PB Go.Proofs.Ytckeelbodieblaa.OpenK
theorem StatusOneWay (l0 : List S37) (h0 : l0.length * 24 ≤ 140737488351232 ∧ ∀ y ∈ l0, wf37 y) : ∃ k, vellumlaw09_StatusOneWay.f k l0 = some true :=
  ⟨0, if_pos ⟨h0.1, List.all_eq_true.2 (fun y hy => (h0.2 y hy).2.1)⟩⟩
end Go.Proofs.Ytckeelbodieblaa.Pure
