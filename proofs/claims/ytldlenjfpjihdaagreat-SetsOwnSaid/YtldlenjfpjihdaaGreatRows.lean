/-
  No cell of these rows narrows 'for every input' (looked for: loops, veiled, ifaces, maps, wideKeys, modest, calm, conditions, laid).
  DERIVED. THE GIVEN ROWS OF THIS SEAT. 4 by the template 'for every input the law returns true; each argument reads behind the call as it read before'; 0 by the template 'total and deterministic' (their statements: YtldlenjfpjihdaaGreatTotals.lean).
  GIVEN WITH THE SEED: the statements are not yours to turn. If you find one false, say at which input.
  Laid BY PROGRAM, IN A SANDBOX (cutbox-rows.mjs): the forced cells as the released guide's own fill.sh prints them over the translation c1f68f8d8ca2bf02… (all of the seat's roots in one cut). By AI agents, Wed Nov 11 2026. No macro, syntax, notation, axiom, sorry.
-/
import Derived.Test.YtldlenjfpjihdaaGreatChecked
import GoSem.Claim
import GoSem.ClaimJoined
import GoSem.ClaimMapViews
import Derived.JoinedTies
import Derived.KernelRfl
namespace Go.Proofs.YtldlenjfpjihdaaGreat
/- THE CELL 'sum', in the pinned program and in every row, IS THE sha256 OF THE DUMP (.gsa) THAT YtldlenjfpjihdaaGreatProg.lean LOADS. Nothing in Lean hashes anything: it is a label: what it is worth is what the hold of that sum in a sandbox is worth. -/
noncomputable def Tryz.pinned : Pinned := { name := "ytldlenjfpjihdaagreat", sum := "c1f68f8d8ca2bf02cb9ef64578eb427fc2702eac6b36889d2673d0d610f2d7ba", checked := Tryz.checked }
namespace Rows
def none {H : Type} : Left H := { results := [], args := [] }

/-- 'vellumlaw17.SetsNorms': WHATEVER THE INPUT: true; the input reads as it did. -/
def setsNormsSpec : ChangeSpec := { name := "setsNorms", fn := fun _ => fun
  | [d] => { results := [.lit (.bool true)], args := [d] }
  | _ => none }
def setsNormsRow : OpenClaim := { program := "ytldlenjfpjihdaagreat", sum := "c1f68f8d8ca2bf02cb9ef64578eb427fc2702eac6b36889d2673d0d610f2d7ba", func := "vellum/vellumlaw17.SetsNorms", spec := "setsNorms", inPlace := ["internal/bytealg.abigen_runtime_cmpstring"], unfollowed := true, recurses := true, plainKeys := false, apart := false }
def SetsNormsSaid : Prop := setsNormsRow.holds Tryz.pinned (OpenSpec.ofChange setsNormsSpec)

/-- ITS FALSE NEIGHBOUR: 'it returns false'. Refute it at one input. -/
def setsNormsWrong : ChangeSpec := { name := "setsNorms", fn := fun _ => fun
  | [d] => { results := [.lit (.bool false)], args := [d] }
  | _ => none }
def SetsNormsWrongFalsely : Prop := setsNormsRow.holds Tryz.pinned (OpenSpec.ofChange setsNormsWrong)

/-- 'vellumlaw17.SetsMerges': WHATEVER THE INPUT: true; the input reads as it did. -/
def setsMergesSpec : ChangeSpec := { name := "setsMerges", fn := fun _ => fun
  | [d1, d2] => { results := [.lit (.bool true)], args := [d1, d2] }
  | _ => none }
def setsMergesRow : OpenClaim := { program := "ytldlenjfpjihdaagreat", sum := "c1f68f8d8ca2bf02cb9ef64578eb427fc2702eac6b36889d2673d0d610f2d7ba", func := "vellum/vellumlaw17.SetsMerges", spec := "setsMerges", inPlace := ["internal/bytealg.abigen_runtime_cmpstring"], unfollowed := true, recurses := true, plainKeys := false, apart := false }
def SetsMergesSaid : Prop := setsMergesRow.holds Tryz.pinned (OpenSpec.ofChange setsMergesSpec)

/-- ITS FALSE NEIGHBOUR: 'it returns false'. Refute it at one input. -/
def setsMergesWrong : ChangeSpec := { name := "setsMerges", fn := fun _ => fun
  | [d1, d2] => { results := [.lit (.bool false)], args := [d1, d2] }
  | _ => none }
def SetsMergesWrongFalsely : Prop := setsMergesRow.holds Tryz.pinned (OpenSpec.ofChange setsMergesWrong)

/-- 'vellumlaw17.SetsSay': WHATEVER THE INPUT: true; the input reads as it did. -/
def setsSaySpec : ChangeSpec := { name := "setsSay", fn := fun _ => fun
  | [d1, d2, d3] => { results := [.lit (.bool true)], args := [d1, d2, d3] }
  | _ => none }
def setsSayRow : OpenClaim := { program := "ytldlenjfpjihdaagreat", sum := "c1f68f8d8ca2bf02cb9ef64578eb427fc2702eac6b36889d2673d0d610f2d7ba", func := "vellum/vellumlaw17.SetsSay", spec := "setsSay", inPlace := ["internal/bytealg.abigen_runtime_cmpstring"], unfollowed := true, recurses := true, plainKeys := false, apart := false }
def SetsSaySaid : Prop := setsSayRow.holds Tryz.pinned (OpenSpec.ofChange setsSaySpec)

/-- ITS FALSE NEIGHBOUR: 'it returns false'. Refute it at one input. -/
def setsSayWrong : ChangeSpec := { name := "setsSay", fn := fun _ => fun
  | [d1, d2, d3] => { results := [.lit (.bool false)], args := [d1, d2, d3] }
  | _ => none }
def SetsSayWrongFalsely : Prop := setsSayRow.holds Tryz.pinned (OpenSpec.ofChange setsSayWrong)

/-- 'vellumlaw17.SetsOwn': WHATEVER THE INPUT: true; the input reads as it did. -/
def setsOwnSpec : ChangeSpec := { name := "setsOwn", fn := fun _ => fun
  | [d1, d2] => { results := [.lit (.bool true)], args := [d1, d2] }
  | _ => none }
def setsOwnRow : OpenClaim := { program := "ytldlenjfpjihdaagreat", sum := "c1f68f8d8ca2bf02cb9ef64578eb427fc2702eac6b36889d2673d0d610f2d7ba", func := "vellum/vellumlaw17.SetsOwn", spec := "setsOwn", inPlace := ["internal/bytealg.abigen_runtime_cmpstring"], unfollowed := true, recurses := true, plainKeys := false, apart := false }
def SetsOwnSaid : Prop := setsOwnRow.holds Tryz.pinned (OpenSpec.ofChange setsOwnSpec)

/-- ITS FALSE NEIGHBOUR: 'it returns false'. Refute it at one input. -/
def setsOwnWrong : ChangeSpec := { name := "setsOwn", fn := fun _ => fun
  | [d1, d2] => { results := [.lit (.bool false)], args := [d1, d2] }
  | _ => none }
def SetsOwnWrongFalsely : Prop := setsOwnRow.holds Tryz.pinned (OpenSpec.ofChange setsOwnWrong)

/- THE SECOND FORM. 'bulk': how many values and letters a reading holds, each counted each time it is reached (what is shared counts as often as it is met; a slice's spare places count too). A statement '..UptoSaid' is the law's where the arguments, and the package variables that the reading takes, are together of bulk at most 1048576: NARROWER than '..Said'. Prove '..Said' where nothing that the law and all that it calls make is longer than what came in: it says more and counts as full. Else prove '..UptoSaid'. A law counts once. -/
mutual
def uptoBulk {H : Type} : DataW H → Nat
  | .lit (.string bytes) => bytes.length + 1
  | .lit _ => 1
  | .nil => 1
  | .ptr d => uptoBulk d + 1
  | .slice elems spare => uptoBulkAll elems + uptoBulkAll spare + 1
  | .agg parts => uptoBulkAll parts + 1
  | .iface _ d => uptoBulk d + 1
  | .map entries => uptoBulkEntries entries + 1
  | .held _ => 1
def uptoBulkAll {H : Type} : List (DataW H) → Nat
  | [] => 0
  | d :: r => uptoBulk d + uptoBulkAll r
def uptoBulkEntries {H : Type} : List (Lit × DataW H) → Nat
  | [] => 0
  | x :: r => uptoBulkEntry x + uptoBulkEntries r
def uptoBulkEntry {H : Type} : Lit × DataW H → Nat
  | (.string bytes, d) => bytes.length + uptoBulk d + 1
  | (_, d) => uptoBulk d + 1
 end
def uptoSmall : (H : Type) → List (DataW H) → Bool := fun _ ds => decide (uptoBulkAll ds ≤ 1048576)
def OpenSpec.upto (s : _root_.Go.ChangeSpec) : _root_.Go.OpenSpec := { _root_.Go.OpenSpec.ofChange s with cond := some uptoSmall }

/-- 'vellumlaw17.SetsNorms', WHERE WHAT IT READS IS OF BULK AT MOST 1048576: true; the input reads as it did. -/
def setsNormsUptoRow : OpenClaim := { program := "ytldlenjfpjihdaagreat", sum := "c1f68f8d8ca2bf02cb9ef64578eb427fc2702eac6b36889d2673d0d610f2d7ba", func := "vellum/vellumlaw17.SetsNorms", spec := "setsNorms", inPlace := ["internal/bytealg.abigen_runtime_cmpstring"], unfollowed := true, recurses := true, plainKeys := false, apart := false, narrowed := true }
def SetsNormsUptoSaid : Prop := setsNormsUptoRow.holds Tryz.pinned (OpenSpec.upto setsNormsSpec)

/-- 'vellumlaw17.SetsMerges', WHERE WHAT IT READS IS OF BULK AT MOST 1048576: true; the input reads as it did. -/
def setsMergesUptoRow : OpenClaim := { program := "ytldlenjfpjihdaagreat", sum := "c1f68f8d8ca2bf02cb9ef64578eb427fc2702eac6b36889d2673d0d610f2d7ba", func := "vellum/vellumlaw17.SetsMerges", spec := "setsMerges", inPlace := ["internal/bytealg.abigen_runtime_cmpstring"], unfollowed := true, recurses := true, plainKeys := false, apart := false, narrowed := true }
def SetsMergesUptoSaid : Prop := setsMergesUptoRow.holds Tryz.pinned (OpenSpec.upto setsMergesSpec)

/-- 'vellumlaw17.SetsSay', WHERE WHAT IT READS IS OF BULK AT MOST 1048576: true; the input reads as it did. -/
def setsSayUptoRow : OpenClaim := { program := "ytldlenjfpjihdaagreat", sum := "c1f68f8d8ca2bf02cb9ef64578eb427fc2702eac6b36889d2673d0d610f2d7ba", func := "vellum/vellumlaw17.SetsSay", spec := "setsSay", inPlace := ["internal/bytealg.abigen_runtime_cmpstring"], unfollowed := true, recurses := true, plainKeys := false, apart := false, narrowed := true }
def SetsSayUptoSaid : Prop := setsSayUptoRow.holds Tryz.pinned (OpenSpec.upto setsSaySpec)

/-- 'vellumlaw17.SetsOwn', WHERE WHAT IT READS IS OF BULK AT MOST 1048576: true; the input reads as it did. -/
def setsOwnUptoRow : OpenClaim := { program := "ytldlenjfpjihdaagreat", sum := "c1f68f8d8ca2bf02cb9ef64578eb427fc2702eac6b36889d2673d0d610f2d7ba", func := "vellum/vellumlaw17.SetsOwn", spec := "setsOwn", inPlace := ["internal/bytealg.abigen_runtime_cmpstring"], unfollowed := true, recurses := true, plainKeys := false, apart := false, narrowed := true }
def SetsOwnUptoSaid : Prop := setsOwnUptoRow.holds Tryz.pinned (OpenSpec.upto setsOwnSpec)

end Rows
end Go.Proofs.YtldlenjfpjihdaaGreat
