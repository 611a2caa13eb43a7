/- CodeEncodes, the plain law. -/
import Derived.Test.YtpiifdbicibelaaDoorPureB
namespace Go.Proofs.YtpiifdbicibelaaDoor.Pure
open Go.RowKit Go.Proofs Go.Proofs.YtpiifdbicibelaaDoorW.PrintWords Go.Proofs.YtpiifdbicibelaaDoor.PA Go.Proofs.YtpiifdbicibelaaDoor.OpenK
set_option linter.unusedVariables false
theorem nb_1 : nb 1 = 1 := by unfold nb; simp; unfold nb; simp
theorem encode_one : encode [(⟨2, 1, 0, (⟨#[]⟩ : ByteArray)⟩ : S50)] = (⟨#[3, 129, 1]⟩, 0) := by
  have e : (⟨#[]⟩ : ByteArray).toList = [] := by decide +kernel
  have e2 : (⟨#[]⟩ : ByteArray).size = 0 := rfl
  simp [encode, e2, chkV, chk, build, codeOf, codeV, codeInt, nb_1, be, e, strOfNums]
theorem awake_ev : Ev (fun k => vellumlaw02_awake.f k) true := by
  simp only [vellumlaw02_awake.f]
  refine Ev.bind (encode_code _ ?_ (by simp)) ?_
  · intro x hx
    simp at hx
    subst hx
    exact ⟨by decide, by decide, by decide, by decide⟩
  · rw [encode_one]
    exact Ev.const (by decide +kernel)
theorem CodeEncodes (l0 : List S50) (h : l0.length * 40 ≤ 140737488351232 ∧ ∀ y ∈ l0, wf50 y) : ∃ k, vellumlaw02_CodeEncodes.f k l0 = some true := by
  refine Ev.ex ?_
  simp only [vellumlaw02_CodeEncodes.f]
  refine Ev.bind (encode_code l0 h.2 (by omega)) (Ev.bind (encode_ref l0 h.2 (by omega)) ?_)
  refine Ev.pos rfl (Ev.pos rfl (Ev.bind awake_ev Ev.pure))
end Go.Proofs.YtpiifdbicibelaaDoor.Pure
