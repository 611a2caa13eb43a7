/- How the laws' struct types are opened. -/
import Derived.Test.YtpiifdbicibelaaDoorOpen
import Derived.Test.YtpiifdbicibelaaDoorPAx0
namespace Go.Proofs.YtpiifdbicibelaaDoor.OpenK
open Go.RowKit Go.Proofs.YtpiifdbicibelaaDoorW.PrintWords Go.Proofs.YtpiifdbicibelaaDoor.PA
def wf50 (x : S50) : Prop := (Lit.int .i64 x.f0).wf = true ∧ (Lit.int .i64 x.f1).wf = true ∧ x.f2 < 18446744073709551616 ∧ x.f3.size ≤ 140737488351232
theorem opn50 : Opn Tryd.prog 50 k50 wf50 := by
  refine Opn.struct (kd := (Kd.pair (Kd.int .i64) (Kd.pair (Kd.int .i64) (Kd.pair Kd.float64 Kd.string)))) (Wf := fun y => (Lit.int .i64 y.1).wf = true ∧ (Lit.int .i64 y.2.1).wf = true ∧ y.2.2.1 < 18446744073709551616 ∧ y.2.2.2.size ≤ 140737488351232) (fun x : S50 => (x.f0, x.f1, x.f2, x.f3)) (fun y => ⟨y.1, y.2.1, y.2.2.1, y.2.2.2⟩) (fun _ => rfl) Tryd.underlying50 (by kernel_rfl) ?_
  change OpnFs Tryd.prog (_ :: _ :: _ :: [_]) 0 _ _
  exact (OpnFs.cons (a := (Kd.int .i64)) (b := (Kd.pair (Kd.int .i64) (Kd.pair Kd.float64 Kd.string))) (Wa := fun y => (Lit.int .i64 y).wf = true) (Wb := (fun y => (Lit.int .i64 y.1).wf = true ∧ y.2.1 < 18446744073709551616 ∧ y.2.2.size ≤ 140737488351232)) rfl (by kernel_rfl) (off' := 1) rfl (Opn.int Tryd.underlying3) (OpnFs.cons (a := (Kd.int .i64)) (b := (Kd.pair Kd.float64 Kd.string)) (Wa := fun y => (Lit.int .i64 y).wf = true) (Wb := (fun y => y.1 < 18446744073709551616 ∧ y.2.size ≤ 140737488351232)) rfl (by kernel_rfl) (off' := 2) rfl (Opn.int Tryd.underlying2) (OpnFs.cons (a := Kd.float64) (b := Kd.string) (Wa := fun y => y < 18446744073709551616) (Wb := (fun y => y.size ≤ 140737488351232)) rfl (by kernel_rfl) (off' := 3) rfl (Opn.float Tryd.underlying48) (OpnFs.one (kd := Kd.string) (Wf := (fun y => y.size ≤ 140737488351232)) rfl (by kernel_rfl) (Opn.string Tryd.underlying9)))))
theorem agg_of_cells {v : Value} {l : List Value} (h : v.cells.toList = l) (hl : 2 ≤ l.length) : v = .agg l.toArray := by
  cases v <;> simp [Value.cells] at h <;> first | (subst h; simp at hl; done) | (subst h; simp)
end Go.Proofs.YtpiifdbicibelaaDoor.OpenK
