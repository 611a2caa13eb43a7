/- A law's row out of its walk: for whatever arguments that read as data; the listed tables as the row lists them. -/
import Derived.Test.YtpiifdbicibelaaDoorOpen
import Derived.Test.YtpiifdbicibelaaDoorGlob
import Derived.Test.YtpiifdbicibelaaDoorShelf
import Derived.Test.YtpiifdbicibelaaDoorRows
import Derived.Lib.LaidIn
import Derived.Lib.LaidU8T
import Derived.Deep.DeepHandedRow
import Derived.Deep.DeepWitnessRowRef
import Derived.PinnedBridge
import Derived.ProofKit
import Derived.MakeChecks
namespace Go.Proofs.YtpiifdbicibelaaDoorW.PrintWords
open Go.RowKit Go.Proofs Go.ChangeShapes Go.WideShapes Go.ChangeAt Go.Lib Go.Proofs.Lib
open Go.Proofs.YtpiifdbicibelaaDoor
set_option linter.unusedVariables false
theorem own : ownKnob Tryd.prog.godebug = none := by kernel_rfl
theorem laidOut : laidOutB Tryd.prog = true := by kernel_rfl
def laidList : List (String × DataW Unit) := [("unicode/utf8.acceptRanges", Rows.laid_unicode_utf8_acceptRanges), ("unicode/utf8.first", Rows.laid_unicode_utf8_first)]
theorem laidList_eq : laidList = [("unicode/utf8.acceptRanges", Lib.acceptData), ("unicode/utf8.first", Lib.firstData)] := by
  have h1 : (Rows.laid_unicode_utf8_acceptRanges : DataW Unit) = Lib.acceptData := by kernel_rfl
  have h2 : (Rows.laid_unicode_utf8_first : DataW Unit) = Lib.firstData := Pinned.utf8First_eq
  unfold laidList
  rw [h1, h2]
/-- The settled world, the two tables holding what the library's text lays. -/
noncomputable def laidWorld (os : Os) : World :=
  let w0 := World.holding Tryd.prog os ⟨#[], #[], []⟩
  let put (h : Array Obj) (g : Nat) (cs : Array Value) : Array Obj := h.modify g fun
    | .cells _ t frozen => .cells cs t frozen
    | o => o
  let h1 := put w0.heap 1 (Lib.firstTab.map fun z => Value.int .u8 z).toArray
  let h2 := put h1 2 ((List.range 16).flatMap fun i => [Value.int .u8 (Lib.accLo i), Value.int .u8 (Lib.accHi i)]).toArray
  { w0 with heap := h2 }
theorem laid_met (os : Os) (args : Array Value) : laidMetH Tryd.prog laidList ((laidWorld os).forCall (fun _ _ => 0) ⟨#[], args, []⟩).memory := by
  rw [laidList_eq, Go.MakeChecks.laidMetH_plain _ _ _ (by kernel_rfl)]
  exact (LaidIn.of_run (l := [("unicode/utf8.acceptRanges", Lib.acceptData), ("unicode/utf8.first", Lib.firstData)]) [1, 2] 8 (by kernel_rfl) (by kernel_rfl) (by kernel_rfl) (by kernel_rfl)).met
theorem glob_of {W : World} (hL : laidMetH Tryd.prog laidList W) (hsh : W.ShapedOpen Tryd.prog) : Glob W := by
  rw [laidList_eq, Go.MakeChecks.laidMetH_plain _ _ _ (by kernel_rfl)] at hL
  exact ⟨utf8Tabs_of_readsT (U8Types.of196 Tryd.laysValid) ⟨by kernel_rfl, by kernel_rfl, by kernel_rfl, by kernel_rfl, by kernel_rfl, by kernel_rfl, by kernel_rfl⟩ (laidMet.reads hL (.tail _ (.head _))) (laidMet.reads hL (.head _)), Tryd.laysM144.s1_3 W hsh⟩
theorem mapsRowed_ : mapsRowed Tryd.prog = true := by kernel_rfl
theorem stops_ : Tryd.prog.stops = [] := by kernel_rfl
theorem stopKnobs_ : Tryd.prog.stopKnobs = [] := by kernel_rfl
theorem plainKeys_ : Tryd.prog.plainKeys = Rows.codeEncodesRow.plainKeys := by kernel_rfl
theorem stopsHeard_ : Tryd.prog.stopsHeard = true := by kernel_rfl
theorem mayEnter_ : Tryd.prog.mayEnter = true := by kernel_rfl
theorem lifts_ : Tryd.prog.liftsFinal = Rows.codeEncodesRow.lifted := by kernel_rfl
theorem make_ : Tryd.prog.make = some Rows.codeEncodesRow.make := by kernel_rfl
theorem trodAll_len {H : Type} {enc : TypeId × Value → H} {W : World} : ∀ {ts : List TypeId} {vs : List Value} {ds : List (DataW H)} {ps : List MemPlace}, DataW.TrodAll enc Tryd.prog W 0 (fun _ => true) true ts vs ds ps → ds.length = ts.length
  | [], [], [], _, _ => rfl
  | t :: ts, v :: vs, d :: ds, ps, h => by
    obtain ⟨p, q, _, h2, _⟩ := h
    simp [trodAll_len h2]
  | [], _ :: _, _, _, h => h.elim
  | [], [], _ :: _, _, h => h.elim
  | _ :: _, [], _, _, h => h.elim
  | _ :: _, _ :: _, [], _, h => h.elim
theorem law_lifted {f : FuncId} {fn : Func} {spec : ChangeSpec} {tb : TypeId} (hfn : Tryd.prog.funcs[f]? = some fn) (hni : Tryd.prog.inits.idxOf? f = none) (hres : fn.resultTypes = #[tb]) (hub : Tryd.prog.underlying tb = some .bool)
    (hread : (fn.params.toList.all fun t => Tryd.prog.readableRec t && decide (t < Tryd.prog.types.size)) = true) (hv : spec.vars = [])
    (hspec : ∀ (H : Type) (ds : List (DataW H)), ds.length = fn.params.toList.length → spec.fn H (ds ++ []) = { results := [.lit (.bool true)], args := ds })
    {os : Os} (started : os.Started) {H : Type} {enc : TypeId × Value → H} {F : Stop.Interp}
    (wit : ∃ (w : World) (tape : Tape) (i : Input), w.os = os ∧ (w.forCall tape i).Shaped Tryd.prog ∧ i.vars = [] ∧ Input.okWide Tryd.prog (w.forCall tape i) .any w.heap.size f i ∧
      (OpenSpec.ofChange spec).preRow enc Tryd.prog fn [] false laidList (w.forCall tape i).memory i.args ∧ ({ modest := false } : Assume).holds Tryd.prog (lone (Frame.enter Tryd.prog f i.args .normal) [] (w.forCall tape i)))
    (walk : ∀ (W : World) (base : Nat) (args : Array Value) (ds : List (DataW H)) (ps : List MemPlace), DataW.TrodAll enc Tryd.prog W 0 (fun _ => true) true fn.params.toList args.toList ds ps → (DataW.weightsEach Tryd.prog fn.params.toList ds).all (· ≤ reachBytes) = true →
      (∀ (j : Nat) t v, fn.params[j]? = some t → args[j]? = some v → Value.okWide Tryd.prog W .any base t v) → Glob W → Calls Tryd.prog f args W fun e W' => e = .returned (.bool true) ∧ Below W.heap.size W W') :
    ReturnsInHanded { modest := false } Tryd.checked os f .any ((OpenSpec.ofChange spec).preRow enc Tryd.prog fn [] false laidList) (((OpenSpec.ofChange spec).at F).post enc Tryd.prog fn false true false false) := by
  refine returnsInHanded_of_row (C := Tryd.checked) (s := OpenSpec.ofChange spec) own started hni hfn wit ?_
  intro W base args ds gs before hval hW _ _ hwt hL hsh _
  have hW' := hW
  obtain ⟨p, q, hA, hV, rfl, _, _⟩ := hW
  have hV0 : DataW.TrodVars enc Tryd.prog W (fun _ => true) spec.vars gs q := hV
  rw [hv] at hV0
  obtain ⟨rfl, rfl⟩ := trodVars_none hV0
  have hwt' : (DataW.weightsEach Tryd.prog fn.params.toList ds).all (· ≤ reachBytes) = true := by
    have e : DataSpec.varTypes Tryd.checked.prog (OpenSpec.ofChange spec).bare.plain = [] := by
      simp [DataSpec.varTypes, OpenSpec.bare, OpenSpec.ofChange, ChangeSpec.plain, hv]
    rw [e] at hwt
    rw [List.append_nil, List.append_nil] at hwt
    exact hwt
  have hG : Glob W := glob_of hL hsh
  refine (walk W base args ds p hA hwt' @hval hG).mono ?_
  rintro e W' ⟨rfl, bel⟩
  have hlen : ds.length = fn.params.toList.length := trodAll_len hA
  have e1 : ((OpenSpec.ofChange spec).at F).fn H (ds ++ []) = { results := [.lit (.bool true)], args := ds } := hspec H ds hlen
  have hread' : ∀ t ∈ fn.params.toList, Tryd.prog.readableRec t = true ∧ t < Tryd.prog.types.size := by
    intro t ht
    have := List.all_eq_true.1 hread t ht
    simpa using this
  refine ⟨_, rfl, _, _, _, [], p, [], hW', ?_, ?_, ?_, bel.frame _, fun h => by cases h⟩
  · rw [e1, hres]; exact trodAll_mk1 (shut_bool hub _)
  · rw [e1]; exact trodAll_below laidOut bel hread' hA
  · rw [e1]
    show DataW.TrodVars enc Tryd.prog W' _ spec.vars [] []
    rw [hv]; rfl
end Go.Proofs.YtpiifdbicibelaaDoorW.PrintWords
