/- How the laws' struct types are opened. -/
import Derived.Test.YtckeelbodieblaaOpen
import Derived.Test.YtckeelbodieblaaPBx0
namespace Go.Proofs.Ytckeelbodieblaa.OpenK
open Go.RowKit Go.Proofs.YtckeelbodieblaaW.PrintWords Go.Proofs.Ytckeelbodieblaa.PB
def wf37 (x : S37) : Prop := (Lit.int .i64 x.f0).wf = true ∧ (Lit.int .i64 x.f1).wf = true ∧ (Lit.int .u64 x.f2).wf = true
theorem opn37 : Opn Try.prog 37 k37 wf37 := by
  refine Opn.struct (kd := (Kd.pair (Kd.int .i64) (Kd.pair (Kd.int .i64) (Kd.int .u64)))) (Wf := fun y => (Lit.int .i64 y.1).wf = true ∧ (Lit.int .i64 y.2.1).wf = true ∧ (Lit.int .u64 y.2.2).wf = true) (fun x : S37 => (x.f0, x.f1, x.f2)) (fun y => ⟨y.1, y.2.1, y.2.2⟩) (fun _ => rfl) Try.underlying37 (by kernel_rfl) ?_
  change OpnFs Try.prog (_ :: _ :: [_]) 0 _ _
  exact (OpnFs.cons (a := (Kd.int .i64)) (b := (Kd.pair (Kd.int .i64) (Kd.int .u64))) (Wa := fun y => (Lit.int .i64 y).wf = true) (Wb := (fun y => (Lit.int .i64 y.1).wf = true ∧ (Lit.int .u64 y.2).wf = true)) rfl (by kernel_rfl) (off' := 1) rfl (Opn.int Try.underlying3) (OpnFs.cons (a := (Kd.int .i64)) (b := (Kd.int .u64)) (Wa := fun y => (Lit.int .i64 y).wf = true) (Wb := (fun y => (Lit.int .u64 y).wf = true)) rfl (by kernel_rfl) (off' := 2) rfl (Opn.int Try.underlying3) (OpnFs.one (kd := (Kd.int .u64)) (Wf := (fun y => (Lit.int .u64 y).wf = true)) rfl (by kernel_rfl) (Opn.int Try.underlying28))))
theorem agg_of_cells {v : Value} {l : List Value} (h : v.cells.toList = l) (hl : 2 ≤ l.length) : v = .agg l.toArray := by
  cases v <;> simp [Value.cells] at h <;> first | (subst h; simp at hl; done) | (subst h; simp)
end Go.Proofs.Ytckeelbodieblaa.OpenK
