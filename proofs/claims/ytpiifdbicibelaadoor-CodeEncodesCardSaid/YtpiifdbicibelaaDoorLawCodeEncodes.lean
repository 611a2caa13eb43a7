/- CodeEncodes: the law returns true at every input, and its arguments read as before. Conditions: as the row has them (the listed tables as the program's text lays them). -/
import Derived.Test.YtpiifdbicibelaaDoorRow
import Derived.Test.YtpiifdbicibelaaDoorOpenK
import Derived.Test.YtpiifdbicibelaaDoorPureCodeEncodes
import Derived.Test.YtpiifdbicibelaaDoorPAx9
import Derived.Test.YtpiifdbicibelaaDoorCards
import Derived.Test.YtpiifdbicibelaaDoorTie
import Derived.SevenTiedAt
namespace Go.Proofs.YtpiifdbicibelaaDoor.codeEncodes
open Go.ChangeShapes Go.WideShapes Go.ChangeAt Go.RowKit Go.Proofs.YtpiifdbicibelaaDoorW.PrintWords Go.Proofs.YtpiifdbicibelaaDoor.PA Go.Proofs.YtpiifdbicibelaaDoor.OpenK Go.Proofs.YtpiifdbicibelaaDoor.Pure
open Go.ChangeMaps (open_string shut_string)
set_option linter.unusedVariables false
theorem walk {H : Type} {enc : TypeId × Value → H} (W : World) (base : Nat) (args : Array Value) (ds : List (DataW H)) (ps : List MemPlace) (hA0 : DataW.TrodAll enc Tryd.prog W 0 (fun _ => true) true Tryd.f3.params.toList args.toList ds ps)
    (hw0 : (DataW.weightsEach Tryd.prog Tryd.f3.params.toList ds).all (· ≤ reachBytes) = true) (hval0 : ∀ (j : Nat) t v, Tryd.f3.params[j]? = some t → args[j]? = some v → Value.okWide Tryd.prog W .any base t v) (hG : Glob W) :
    Calls Tryd.prog 3 args W fun e W' => e = .returned (.bool true) ∧ Below W.heap.size W W' := by
  have hval : ∀ (j : Nat) t v, Tryd.f3.params[j]? = some t → args[j]? = some v → Value.okWide Tryd.prog W .any base t v := @hval0
  have hA : DataW.TrodAll enc Tryd.prog W 0 (fun _ => true) true Tryd.f3.params.toList args.toList ds ps := hA0
  have hw : (DataW.weightsEach Tryd.prog Tryd.f3.params.toList ds).all (· ≤ reachBytes) = true := hw0
  rw [Tryd.params3] at hA hval hw
  clear hA0 hw0 hval0
  obtain ⟨v0, vs0, d0, ds0, p0, q0, hargs, rfl, rfl, h0, r0⟩ := trodAll_cons hA
  obtain ⟨rfl, rfl, rfl⟩ := trodAll_nil r0
  obtain rfl : args = #[v0] := by cases args; simp_all
  simp only [DataW.weightsEach, all_append_iff] at hw
  obtain ⟨hw0, _⟩ := hw
  obtain ⟨a0, len0, cap0, rfl⟩ := arg_slice (j := 0) @hval rfl rfl Tryd.underlying22
  obtain ⟨fuel0, hf0⟩ := h0
  obtain ⟨l0, ⟨A0, c0, he0, hl0, hC0⟩, wf0_⟩ := (Opn.slice Tryd.underlying22 opn50 (by kernel_rfl) (by kernel_rfl)) hf0 hw0
  simp [Value.cells] at he0
  obtain ⟨rfl, rfl, rfl⟩ := he0
  obtain ⟨k, h⟩ := CodeEncodes l0 wf0_
  refine (vellumlaw02_CodeEncodes.calls k _ _ l0 true W hC0 hl0 hG h).mono ?_
  rintro e W' ⟨rfl, hd⟩
  exact ⟨rfl, hd⟩
theorem witness_row (os : Os) {H : Type} (enc : TypeId × Value → H) :
    (OpenSpec.ofChange Rows.codeEncodesSpec).preRow enc Tryd.prog Tryd.f3 [] false laidList ((laidWorld os).forCall (fun _ _ => 0) ⟨#[], #[.slice none 0 0], []⟩).memory #[.slice none 0 0] := by
  have hw : (DataW.whole enc Tryd.prog ((laidWorld os).forCall (fun _ _ => 0) ⟨#[], #[.slice none 0 0], []⟩).memory Tryd.f3.params.toList (OpenSpec.ofChange Rows.codeEncodesSpec).vars false (#[.slice none 0 0] : Array Value).toList 8).map (fun x => (x.1, x.2.1)) = some ([.nil], []) := by kernel_rfl
  obtain ⟨⟨x1, x2, x3⟩, hx, hx1⟩ := Option.map_eq_some_iff.1 hw
  simp only [Prod.mk.injEq] at hx1
  obtain ⟨rfl, rfl⟩ := hx1
  exact OpenSpec.preRow_of_cond 8 hx (by kernel_rfl) (fun k hk => by cases hk) (by kernel_rfl) (laid_met os _)
theorem ends {os : Os} (started : os.Started) {H : Type} {enc : TypeId × Value → H} {F : Stop.Interp} : ReturnsInHanded { modest := false } Tryd.checked os 3 .any ((OpenSpec.ofChange Rows.codeEncodesSpec).preRow enc Tryd.prog Tryd.f3 [] false laidList) (((OpenSpec.ofChange Rows.codeEncodesSpec).at F).post enc Tryd.prog Tryd.f3 false true false false) :=
  law_lifted (spec := Rows.codeEncodesSpec) Tryd.func3 (by kernel_rfl) (tb := 4) rfl Tryd.underlying4 (by kernel_rfl) rfl
    (fun H ds hl => by
      match ds, hl with
      | [_], _ => rfl) started
    (witness_row_atRef (enc := enc) (C := Tryd.checked) false (laidWorld os) #[.slice none 0 0] rfl (by kernel_rfl) (by kernel_rfl) (by kernel_rfl) (witness_row os enc))
    (fun W base args ds ps hA hw hval hG => walk W base args ds ps hA hw @hval hG)
theorem inPlace_ : Tryd.prog.inPlace 3 = Rows.codeEncodesRow.inPlace := by kernel_rfl
theorem unfollowed_ : Tryd.prog.unfollowed 3 = Rows.codeEncodesRow.unfollowed := by kernel_rfl
theorem recurses_ : Tryd.prog.recurses 3 = Rows.codeEncodesRow.recurses := by kernel_rfl
theorem named_ : Tryd.prog.varsNamed 3 = Rows.codeEncodesRow.named := by kernel_rfl
theorem closed : joinedFacts Tryd.prog 3 Tryd.f3 (OpenSpec.ofChange Rows.codeEncodesSpec).bare Rows.codeEncodesRow = true := by
  unfold joinedFacts
  rw [laidOut, mapsRowed_, stops_, stopKnobs_, plainKeys_, stopsHeard_, mayEnter_, lifts_, make_, inPlace_, unfollowed_, recurses_, named_]
  kernel_rfl
set_option maxRecDepth 100000 in
theorem over : Rows.codeEncodesRow.holds Tryd.pinned (OpenSpec.ofChange Rows.codeEncodesSpec) :=
  OpenClaim.holds_of_cond 3 Tryd.f3 rfl rfl rfl rfl rfl rfl rfl ⟨rfl, rfl, rfl, rfl, rfl⟩ rfl rfl rfl rfl rfl (by kernel_rfl) Tryd.func3 closed
    (of_decide_eq_true (by kernel_rfl)) (by unfold Func.isWrapper; rw [if_neg (of_decide_eq_false (by kernel_rfl))]; exact ⟨rfl, rfl⟩)
    (fun os started H enc _ F => by
      rw [OpenClaim.pre_eq_preRow]
      exact ends started)
theorem card : Rows.CodeEncodesCardSaid :=
  Claim7.holds_tied_plain_at .later [] [.data, .pinned] true (true, "409e20a6319c123f59629b35fea50f486835097bfbed967dc062cdc0fc9eff79") false
    over (fun _ h => by cases h) (by kernel_rfl) (fun _ h => by cases h) codeEncodes_row_tie rfl ⟨rfl, rfl⟩ (by kernel_rfl) rfl
    (fun f fn hf hfn => by
      obtain rfl : f = 3 := Option.some.inj ((show Tryd.prog.funcNamed "vellum/vellumlaw02.CodeEncodes" = some 3 by kernel_rfl).symm.trans hf) |>.symm
      obtain rfl : fn = Tryd.f3 := (Option.some.inj (Tryd.func3.symm.trans hfn)).symm
      exact ⟨by kernel_rfl, fun j t ht => by
        rw [Tryd.params3] at ht
        have h3 : t ∈ [22] := by
          have := List.mem_of_getElem? (l := [22]) (i := j) (by simpa using ht)
          exact this
        have h4 : ∀ t ∈ [22], Tryd.prog.wantsStandIn t = false := by
          intro t ht
          simp only [List.mem_cons, List.mem_nil_iff, or_false] at ht
          rcases ht with rfl
          all_goals kernel_rfl
        exact h4 t h3⟩)
    (by kernel_rfl)
#print axioms card
end Go.Proofs.YtpiifdbicibelaaDoor.codeEncodes
namespace Go.Proofs.YtpiifdbicibelaaDoor
theorem codeEncodes_holds : Rows.CodeEncodesCardSaid := codeEncodes.card
end Go.Proofs.YtpiifdbicibelaaDoor
