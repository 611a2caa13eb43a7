/- CodeMeets: the law returns true at every input, and its arguments read as before. Conditions: as the row has them (the listed tables as the program's text lays them). -/
import Derived.Test.YtpiifdbicibelaaDoorKCodeMeets3
section
namespace Go.Proofs.YtpiifdbicibelaaDoor.Pure
open Go.RowKit Go.Proofs Go.Proofs.YtpiifdbicibelaaDoorW.PrintWords Go.Proofs.YtpiifdbicibelaaDoorW.PrintLast Go.Proofs.YtpiifdbicibelaaDoorW.PrintMore Go.Proofs.YtpiifdbicibelaaDoor.PA Go.Proofs.YtpiifdbicibelaaDoor.OpenK
set_option linter.unusedVariables false
set_option linter.unusedSimpArgs false
theorem both_lo_eq (a b : ByteArray) : both_lo a b = Lib.maxS a b := by
  unfold both_lo Lib.maxS
  simp only [bytesLess_eq, Lib.toList_data, decide_eq_true_eq]
theorem hi_eq (a b : ByteArray) (p q : Bool) : both_hi a b p q = cboth_hi a b p q := by
  unfold both_hi cboth_hi Lib.minS
  simp only [bytesLess_eq, Lib.toList_data]
  cases p <;> cases q <;> simp only [Bool.and_false, Bool.and_true, Bool.false_and, Bool.true_and, Bool.false_eq_true, if_false, Bool.not_true, Bool.not_false, Bool.or_false, Bool.false_or, Bool.true_or, decide_eq_true_eq, if_true]
  by_cases h : b.data.toList < a.data.toList
  · have h1 : ¬ (a.data.toList < b.data.toList ∨ a.data.toList = b.data.toList) := by
      rintro (g | g)
      · exact List.lt_asymm h g
      · rw [g] at h; exact List.lt_irrefl _ h
    rw [if_pos h, if_neg h1]
  · rw [if_neg h]
    by_cases g : a.data.toList < b.data.toList
    · rw [if_pos (.inl g)]
    · have : a.data.toList = b.data.toList := List.le_antisymm (List.not_lt.1 h) (List.not_lt.1 g)
      rw [if_pos (.inr this)]
theorem both_eq (a b : ByteArray) (o : Bool) (c d : ByteArray) (p : Bool) : vellumref02_Both.f a b o c d p = code_Both.f a b o c d p := by
  unfold vellumref02_Both.f code_Both.f
  rw [both_lo_eq, hi_eq]
theorem less_nil : ∀ a : List UInt8, Op.bytesLess a [] = false
  | [] => rfl
  | _ :: _ => rfl
theorem nil_list : (⟨#[]⟩ : ByteArray).toList = [] := by decide +kernel
theorem less_ne {a b : List UInt8} (h : Op.bytesLess a b = true) : b ≠ [] := fun e => by rw [e, less_nil] at h; cases h
theorem meet_eq (a b : ByteArray) (o : Bool) (c d : ByteArray) (p : Bool) : ∃ r, code_Meet.f a b o c d p = some r ∧ vellumref02_Meet.f a b o c d p = some r := by
  unfold code_Meet.f vellumref02_Meet.f
  rw [both_eq]
  unfold code_Both.f
  generalize Lib.maxS a c = lo
  generalize cboth_hi b d o p = hi
  generalize (o && p) = q
  cases q
  · cases h : Op.bytesLess lo.toList hi.toList
    · refine ⟨false, ?_, ?_⟩ <;> simp [code_Empty.f, nil_list, less_nil]
    · have hne := less_ne h
      refine ⟨true, ?_, ?_⟩
      · simp [code_Empty.f, h]
      · simp [hne]
  · refine ⟨true, ?_, ?_⟩ <;> simp [code_Empty.f]
theorem CodeMeets (x0 x1 : S32) (a2 : ByteArray) (h0 : wf32 x0) (h1 : wf32 x1) (h2 : a2.size ≤ 140737488351232) : ∃ k, vellumlaw02_CodeMeets.f k x0.f0 x0.f1 x0.f2 x1.f0 x1.f1 x1.f2 a2 = some true := by
  refine Ev.ex ?_
  simp only [vellumlaw02_CodeMeets.f]
  refine Ev.bind (v := (a2, a2 ++ (⟨#[0]⟩ : ByteArray), false)) (Ev.const (by unfold code_Point.f; rw [if_pos (by omega)])) (Ev.bind (v := (a2, a2 ++ (⟨#[0]⟩ : ByteArray), false)) (Ev.const (by unfold vellumref02_Point.f; rw [if_pos (by omega)])) ?_)
  refine Ev.pos (by simp) ?_
  obtain ⟨t, ht⟩ : ∃ t, code_Has.f x0.f0 x0.f1 x0.f2 a2 = some t := by
    unfold code_Has.f
    split
    · exact ⟨_, rfl⟩
    · split <;> exact ⟨_, rfl⟩
  refine Ev.bind (Ev.const ht) (Ev.bind (Ev.const (show vellumref02_Has.f x0.f0 x0.f1 x0.f2 a2 = some t from ht)) (Ev.pos (by simp) ?_))
  obtain ⟨u, hu⟩ : ∃ t, code_Empty.f x0.f0 x0.f1 x0.f2 = some t := by
    unfold code_Empty.f
    split <;> exact ⟨_, rfl⟩
  refine Ev.bind (Ev.const hu) (Ev.bind (Ev.const (show vellumref02_Empty.f x0.f0 x0.f1 x0.f2 = some u from hu)) (Ev.pos (by simp) ?_))
  obtain ⟨r, hr⟩ : ∃ r, code_Both.f x0.f0 x0.f1 x0.f2 x1.f0 x1.f1 x1.f2 = some r := ⟨_, rfl⟩
  refine Ev.bind (Ev.const hr) (Ev.bind (Ev.const ((both_eq _ _ _ _ _ _).trans hr)) (Ev.pos (by simp) ?_))
  obtain ⟨m, m1, m2⟩ := meet_eq x0.f0 x0.f1 x0.f2 x1.f0 x1.f1 x1.f2
  exact Ev.bind (Ev.const m1) (Ev.bind (Ev.const m2) (Ev.pos (by simp) (Ev.bind awake_ev Ev.pure)))
end Go.Proofs.YtpiifdbicibelaaDoor.Pure
end
section
namespace Go.Proofs.YtpiifdbicibelaaDoor.codeMeets
open Go.ChangeShapes Go.WideShapes Go.ChangeAt Go.RowKit Go.Proofs.YtpiifdbicibelaaDoorW.PrintWords Go.Proofs.YtpiifdbicibelaaDoor.PA Go.Proofs.YtpiifdbicibelaaDoor.OpenK Go.Proofs.YtpiifdbicibelaaDoor.Pure
open Go.ChangeMaps (open_string shut_string)
set_option linter.unusedVariables false
theorem walk {H : Type} {enc : TypeId × Value → H} (W : World) (base : Nat) (args : Array Value) (ds : List (DataW H)) (ps : List MemPlace) (hA0 : DataW.TrodAll enc Tryd.prog W 0 (fun _ => true) true Tryd.f5.params.toList args.toList ds ps)
    (hw0 : (DataW.weightsEach Tryd.prog Tryd.f5.params.toList ds).all (· ≤ reachBytes) = true) (hval0 : ∀ (j : Nat) t v, Tryd.f5.params[j]? = some t → args[j]? = some v → Value.okWide Tryd.prog W .any base t v) (hG : Glob W) :
    Calls Tryd.prog 5 args W fun e W' => e = .returned (.bool true) ∧ Below W.heap.size W W' := by
  have hval : ∀ (j : Nat) t v, Tryd.f5.params[j]? = some t → args[j]? = some v → Value.okWide Tryd.prog W .any base t v := @hval0
  have hA : DataW.TrodAll enc Tryd.prog W 0 (fun _ => true) true Tryd.f5.params.toList args.toList ds ps := hA0
  have hw : (DataW.weightsEach Tryd.prog Tryd.f5.params.toList ds).all (· ≤ reachBytes) = true := hw0
  rw [Tryd.params5] at hA hval hw
  clear hA0 hw0 hval0
  obtain ⟨v0, vs0, d0, ds0, p0, q0, hargs, rfl, rfl, h0, r0⟩ := trodAll_cons hA
  obtain ⟨v1, vs1, d1, ds1, p1, q1, rfl, rfl, rfl, h1, r1⟩ := trodAll_cons r0
  obtain ⟨v2, vs2, d2, ds2, p2, q2, rfl, rfl, rfl, h2, r2⟩ := trodAll_cons r1
  obtain ⟨rfl, rfl, rfl⟩ := trodAll_nil r2
  obtain rfl : args = #[v0, v1, v2] := by cases args; simp_all
  simp only [DataW.weightsEach, all_append_iff] at hw
  obtain ⟨hw0, hw1, hw2, _⟩ := hw
  obtain ⟨fuel0, hf0⟩ := h0
  obtain ⟨x0, hK0, wf0_⟩ := opn32 hf0 hw0
  -- STRUCT 0
  obtain he0 := k32_open hK0
  obtain rfl : v0 = .agg #[.string x0.f0, .string x0.f1, .bool x0.f2] := agg_of_cells he0 (by simp)
  obtain ⟨fuel1, hf1⟩ := h1
  obtain ⟨x1, hK1, wf1_⟩ := opn32 hf1 hw1
  -- STRUCT 1
  obtain he1 := k32_open hK1
  obtain rfl : v1 = .agg #[.string x1.f0, .string x1.f1, .bool x1.f2] := agg_of_cells he1 (by simp)
  obtain ⟨a2, rfl, rfl, rfl, y2⟩ := arg_string (j := 2) @hval rfl rfl Tryd.underlying9 h2
  have wf2_ : a2.size ≤ 140737488351232 := by
    simp only [DataW.weights, List.all_cons, List.all_nil, Bool.and_true, decide_eq_true_eq, Array.length_toList] at hw2
    unfold reachBytes at hw2
    exact hw2
  obtain ⟨k, h⟩ := CodeMeets x0 x1 a2 wf0_ wf1_ wf2_
  refine (vellumlaw02_CodeMeets.calls k x0.f0 x0.f1 x0.f2 x1.f0 x1.f1 x1.f2 a2 true W  hG h).mono ?_
  rintro e W' ⟨rfl, hd⟩
  exact ⟨rfl, hd⟩
theorem witness_row (os : Os) {H : Type} (enc : TypeId × Value → H) :
    (OpenSpec.ofChange Rows.codeMeetsSpec).preRow enc Tryd.prog Tryd.f5 [] false laidList ((laidWorld os).forCall (fun _ _ => 0) ⟨#[], #[.agg #[.string ByteArray.empty, .string ByteArray.empty, .bool false], .agg #[.string ByteArray.empty, .string ByteArray.empty, .bool false], .string ByteArray.empty], []⟩).memory #[.agg #[.string ByteArray.empty, .string ByteArray.empty, .bool false], .agg #[.string ByteArray.empty, .string ByteArray.empty, .bool false], .string ByteArray.empty] := by
  have hw : (DataW.whole enc Tryd.prog ((laidWorld os).forCall (fun _ _ => 0) ⟨#[], #[.agg #[.string ByteArray.empty, .string ByteArray.empty, .bool false], .agg #[.string ByteArray.empty, .string ByteArray.empty, .bool false], .string ByteArray.empty], []⟩).memory Tryd.f5.params.toList (OpenSpec.ofChange Rows.codeMeetsSpec).vars false (#[.agg #[.string ByteArray.empty, .string ByteArray.empty, .bool false], .agg #[.string ByteArray.empty, .string ByteArray.empty, .bool false], .string ByteArray.empty] : Array Value).toList 8).map (fun x => (x.1, x.2.1)) = some ([.agg [.lit (.string []), .lit (.string []), .lit (.bool false)], .agg [.lit (.string []), .lit (.string []), .lit (.bool false)], .lit (.string [])], []) := by kernel_rfl
  obtain ⟨⟨x1, x2, x3⟩, hx, hx1⟩ := Option.map_eq_some_iff.1 hw
  simp only [Prod.mk.injEq] at hx1
  obtain ⟨rfl, rfl⟩ := hx1
  exact OpenSpec.preRow_of_cond 8 hx (by kernel_rfl) (fun k hk => by cases hk) (by kernel_rfl) (laid_met os _)
theorem ends {os : Os} (started : os.Started) {H : Type} {enc : TypeId × Value → H} {F : Stop.Interp} : ReturnsInHanded { modest := false } Tryd.checked os 5 .any ((OpenSpec.ofChange Rows.codeMeetsSpec).preRow enc Tryd.prog Tryd.f5 [] false laidList) (((OpenSpec.ofChange Rows.codeMeetsSpec).at F).post enc Tryd.prog Tryd.f5 false true false false) :=
  law_lifted (spec := Rows.codeMeetsSpec) Tryd.func5 (by kernel_rfl) (tb := 4) rfl Tryd.underlying4 (by kernel_rfl) rfl
    (fun H ds hl => by
      match ds, hl with
      | [_, _, _], _ => rfl) started
    (witness_row_atRef (enc := enc) (C := Tryd.checked) false (laidWorld os) #[.agg #[.string ByteArray.empty, .string ByteArray.empty, .bool false], .agg #[.string ByteArray.empty, .string ByteArray.empty, .bool false], .string ByteArray.empty] rfl (by kernel_rfl) (by kernel_rfl) (by kernel_rfl) (witness_row os enc))
    (fun W base args ds ps hA hw hval hG => walk W base args ds ps hA hw @hval hG)
theorem inPlace_ : Tryd.prog.inPlace 5 = Rows.codeMeetsRow.inPlace := by kernel_rfl
theorem unfollowed_ : Tryd.prog.unfollowed 5 = Rows.codeMeetsRow.unfollowed := by kernel_rfl
theorem recurses_ : Tryd.prog.recurses 5 = Rows.codeMeetsRow.recurses := by kernel_rfl
theorem named_ : Tryd.prog.varsNamed 5 = Rows.codeMeetsRow.named := by kernel_rfl
theorem closed : joinedFacts Tryd.prog 5 Tryd.f5 (OpenSpec.ofChange Rows.codeMeetsSpec).bare Rows.codeMeetsRow = true := by
  unfold joinedFacts
  rw [laidOut, mapsRowed_, stops_, stopKnobs_, plainKeys_, stopsHeard_, mayEnter_, lifts_, make_, inPlace_, unfollowed_, recurses_, named_]
  kernel_rfl
set_option maxRecDepth 100000 in
theorem over : Rows.codeMeetsRow.holds Tryd.pinned (OpenSpec.ofChange Rows.codeMeetsSpec) :=
  OpenClaim.holds_of_cond 5 Tryd.f5 rfl rfl rfl rfl rfl rfl rfl ⟨rfl, rfl, rfl, rfl, rfl⟩ rfl rfl rfl rfl rfl (by kernel_rfl) Tryd.func5 closed
    (of_decide_eq_true (by kernel_rfl)) (by unfold Func.isWrapper; rw [if_neg (of_decide_eq_false (by kernel_rfl))]; exact ⟨rfl, rfl⟩)
    (fun os started H enc _ F => by
      rw [OpenClaim.pre_eq_preRow]
      exact ends started)
theorem card : Rows.CodeMeetsCardSaid :=
  Claim7.holds_tied_plain_at .later [] [.data, .pinned] true (true, "409e20a6319c123f59629b35fea50f486835097bfbed967dc062cdc0fc9eff79") false
    over (fun _ h => by cases h) (by kernel_rfl) (fun _ h => by cases h) codeMeets_row_tie rfl ⟨rfl, rfl⟩ (by kernel_rfl) rfl
    (fun f fn hf hfn => by
      obtain rfl : f = 5 := Option.some.inj ((show Tryd.prog.funcNamed "vellum/vellumlaw02.CodeMeets" = some 5 by kernel_rfl).symm.trans hf) |>.symm
      obtain rfl : fn = Tryd.f5 := (Option.some.inj (Tryd.func5.symm.trans hfn)).symm
      exact ⟨by kernel_rfl, fun j t ht => by
        rw [Tryd.params5] at ht
        have h3 : t ∈ [32, 32, 9] := by
          have := List.mem_of_getElem? (l := [32, 32, 9]) (i := j) (by simpa using ht)
          exact this
        have h4 : ∀ t ∈ [32, 32, 9], Tryd.prog.wantsStandIn t = false := by
          intro t ht
          simp only [List.mem_cons, List.mem_nil_iff, or_false] at ht
          rcases ht with rfl | rfl | rfl
          all_goals kernel_rfl
        exact h4 t h3⟩)
    (by kernel_rfl)
end Go.Proofs.YtpiifdbicibelaaDoor.codeMeets
namespace Go.Proofs.YtpiifdbicibelaaDoor
theorem codeMeets_holds : Rows.CodeMeetsCardSaid := codeMeets.card
end Go.Proofs.YtpiifdbicibelaaDoor
end
