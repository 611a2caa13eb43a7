/- CodeUnites: the law returns true at every input, and its arguments read as before. Conditions: as the row has them (the listed tables as the program's text lays them). -/
import Derived.Test.YtpiifdbicibelaaDoorKCodeUnites1
section
namespace Go.Proofs.YtpiifdbicibelaaDoor.PA
open Go.RowKit Go.Proofs.YtpiifdbicibelaaDoorW.PrintWords Go.Proofs.YtpiifdbicibelaaDoorW.PrintLast Go.Proofs.YtpiifdbicibelaaDoorW.PrintMore
attribute [local go_sem] max2_int min2_int max_two min_two max_three min_three max_four min_four
set_option linter.unusedVariables false
set_option linter.unusedSimpArgs false
end Go.Proofs.YtpiifdbicibelaaDoor.PA
end
section
namespace Go.Proofs.YtpiifdbicibelaaDoor.Pure
open Go.RowKit Go.Proofs Go.Proofs.YtpiifdbicibelaaDoorW.PrintWords Go.Proofs.YtpiifdbicibelaaDoorW.PrintLast Go.Proofs.YtpiifdbicibelaaDoorW.PrintMore Go.Proofs.YtpiifdbicibelaaDoor.PA Go.Proofs.YtpiifdbicibelaaDoor.OpenK
set_option linter.unusedVariables false
set_option linter.unusedSimpArgs false
/-- The reference's Same at ranges, at one list. -/
theorem same32_self (l : List S32) (hl : l.length < 9223372036854775807) : Ev (fun k => vellumref02_Same.f k l l) true := by
  have go : ∀ (m i : Nat), i + m = l.length → Ev (fun k => vellumref02_Same.l0 k l l (i : Int)) true := by
    intro m
    induction m with
    | zero =>
      intro i hi
      refine Ev.from_ 1 fun k => ?_
      simp only [vellumref02_Same.l0]
      rw [if_neg (by omega)]
    | succ m ih =>
      intro i hi
      refine Ev.step (g := fun k => vellumref02_Same.l0 k l l ((i + 1 : Nat) : Int)) (fun k => ?_) (ih (i + 1) (by omega))
      simp only [vellumref02_Same.l0]
      rw [if_pos (by omega), if_pos (by omega), if_pos (by omega), if_neg (by simp), wrap64_id (by omega) (by omega)]
      rfl
  simp only [vellumref02_Same.f]
  exact Ev.pos (by first | rfl | trivial) (go l.length 0 (by omega))
end Go.Proofs.YtpiifdbicibelaaDoor.Pure
end
section
namespace Go.Proofs.YtpiifdbicibelaaDoor.PU
open Go.Proofs.YtpiifdbicibelaaDoor.PA
set_option linter.unusedVariables false
set_option linter.unusedSimpArgs false
/-- One range more, the reference's way: 'Hi' of an open one is taken away at the end. -/
def refStep (out : List S32) (r : S32) : List S32 :=
  match out.getLast? with
  | none => [r]
  | some l =>
    if l.f2 = false ∧ bs l.f1 < bs r.f0 then out ++ [r]
    else if r.f2 = true ∨ (l.f2 = false ∧ bs l.f1 < bs r.f1) then out.dropLast ++ [⟨l.f0, r.f1, r.f2⟩]
    else out
theorem refStep_clean (out : List S32) (r : S32) : (refStep out r).map cleanR = stepU (out.map cleanR) r := by
  rcases List.eq_nil_or_concat out with rfl | ⟨o, l, rfl⟩
  · rfl
  · unfold refStep stepU
    rw [List.concat_eq_append, List.map_append, List.map_cons, List.map_nil, List.getLast?_concat, List.getLast?_concat, List.dropLast_concat, List.dropLast_concat]
    cases hl : l.f2 with
    | true =>
      have hc : cleanR l = ⟨l.f0, mt, true⟩ := by simp [cleanR, hl]
      cases hr : r.f2 with
      | true => simp [hc, hl, hr, cleanR]
      | false => simp [hc, hl, hr, cleanR]
    | false =>
      have hc : cleanR l = l := by simp [cleanR, hl]
      by_cases h1 : bs l.f1 < bs r.f0
      · have h3 : bs (cleanR l).f1 < bs (cleanR r).f0 := by rw [hc, cleanR_f0]; exact h1
        dsimp only
        rw [if_pos ⟨hl, h1⟩, if_neg (by rw [hc, hl]; decide), if_pos h3, List.map_append, List.map_append]
        rfl
      · cases hr : r.f2 with
        | true => simp [hc, hl, hr, h1, cleanR]
        | false =>
          have hcr : cleanR r = r := by simp [cleanR, hr]
          by_cases h2 : bs l.f1 < bs r.f1
          · have hm : Go.Lib.maxS l.f1 r.f1 = r.f1 := if_pos h2
            simp [hc, hl, hr, h1, h2, hm, cleanR]
          · have hm : Go.Lib.maxS l.f1 r.f1 = l.f1 := if_neg h2
            have he : (⟨l.f0, l.f1, false⟩ : S32) = l := by cases l; cases hl; rfl
            simp [hc, hl, hr, h1, h2, hm, cleanR, he]
theorem refFold_clean : ∀ (L out : List S32), (L.foldl refStep out).map cleanR = L.foldl stepU (out.map cleanR)
  | [], out => rfl
  | r :: L, out => by
    rw [List.foldl_cons, List.foldl_cons, refFold_clean L (refStep out r), refStep_clean]
theorem refStep_len (out : List S32) (r : S32) : (refStep out r).length ≤ out.length + 1 := by
  rcases List.eq_nil_or_concat out with rfl | ⟨o, l, rfl⟩
  · simp [refStep]
  · unfold refStep
    rw [List.concat_eq_append, List.getLast?_concat, List.dropLast_concat]
    simp only
    split
    · simp
    · split <;> simp
theorem refFold_len : ∀ (L out : List S32), (L.foldl refStep out).length ≤ out.length + L.length
  | [], out => by simp
  | a :: l, out => by
    have h1 := refFold_len l (refStep out a)
    have h2 := refStep_len out a
    simp only [List.foldl_cons, List.length_cons]
    omega
/-- One range sunk into sorted ones: where it stands. -/
theorem sunk_sorted {P : List S32} {x : S32} {j : Nat} (hs : sortedR P) (hj : j ≤ P.length) (h1 : ∀ y ∈ P.drop j, bs x.f0 < bs y.f0) (h2 : ∀ y, j ≠ 0 → P[j - 1]? = some y → ¬ bs x.f0 < bs y.f0) : sortedR (P.take j ++ x :: P.drop j) := by
  have hp : sortedR (P.take j ++ P.drop j) := by rw [List.take_append_drop]; exact hs
  unfold sortedR at hp ⊢
  rw [List.pairwise_append] at hp ⊢
  have hlow : ∀ y ∈ P.take j, ¬ bs x.f0 < bs y.f0 := by
    intro y hy
    obtain ⟨t, ht, rfl⟩ := List.mem_take_iff_getElem.1 hy
    have ht' : t < j ∧ t < P.length := by omega
    have hlast := h2 P[j - 1] (by omega) (List.getElem?_eq_getElem (by omega))
    by_cases e : t = j - 1
    · subst e; exact hlast
    · have hk : keyLe P[t] P[j - 1] := (List.pairwise_iff_getElem.1 hs) t (j - 1) _ _ (by omega)
      unfold keyLe at hk
      exact fun h => by
        rcases lt_tri (bs P[t].f0) (bs P[j - 1].f0) with q | q | q
        · exact hlast (List.lt_trans h q)
        · rw [q] at h; exact hlast h
        · exact hk q
  refine ⟨hp.1, List.pairwise_cons.2 ⟨fun y hy => ?_, hp.2.1⟩, ?_⟩
  · exact fun h => lt_irrefl' _ (List.lt_trans h (h1 y hy))
  · intro a ha b hb
    rcases List.mem_cons.1 hb with rfl | hb
    · exact hlow a ha
    · exact hp.2.2 a ha b hb
theorem sunk_perm (P : List S32) (x : S32) (j : Nat) : (P.take j ++ x :: P.drop j).Perm (P ++ [x]) := by
  have h1 : (P.take j ++ x :: P.drop j).Perm (x :: (P.take j ++ P.drop j)) := List.perm_middle
  rw [List.take_append_drop] at h1
  exact h1.trans (List.perm_append_comm (l₁ := [x]) (l₂ := P))
end Go.Proofs.YtpiifdbicibelaaDoor.PU
end
section
namespace Go.Proofs.YtpiifdbicibelaaDoor.PA
open Go.RowKit Go.Proofs Go.Proofs.YtpiifdbicibelaaDoorW.PrintWords Go.Proofs.YtpiifdbicibelaaDoorW.PrintLast Go.Proofs.YtpiifdbicibelaaDoorW.PrintMore Go.Proofs.YtpiifdbicibelaaDoor.PU
set_option linter.unusedVariables false
set_option linter.unusedSimpArgs false
theorem rempty_rng (W : World) (x : S32) : Calls Tryd.prog 31 #[.agg #[.string x.f0, .string x.f1, .bool x.f2]] W fun e w' => e = .returned (.bool (emptyR x)) ∧ Below W.heap.size W w' := by
  have h : vellumref02_Empty.f x.f0 x.f1 x.f2 = some (emptyR x) := by
    unfold vellumref02_Empty.f emptyR
    rw [bless_eq]
    cases x.f2 <;> simp
  exact vellumref02_Empty.calls x.f0 x.f1 x.f2 _ W h
theorem rjoins_rng (W : World) (x y : S32) : Calls Tryd.prog 82 #[.agg #[.string x.f0, .string x.f1, .bool x.f2], .agg #[.string y.f0, .string y.f1, .bool y.f2]] W fun e w' => e = .returned (.bool (!(!x.f2 && decide (bs x.f1 < bs y.f0)))) ∧ Below W.heap.size W w' := by
  have h : vellumref02_joins.f x.f0 x.f1 x.f2 y.f0 y.f1 y.f2 = some (!(!x.f2 && decide (bs x.f1 < bs y.f0))) := by
    unfold vellumref02_joins.f
    rw [bless_eq]
    cases x.f2 <;> simp
  exact vellumref02_joins.calls x.f0 x.f1 x.f2 y.f0 y.f1 y.f2 _ W h
/-- One whole element is laid. -/
theorem put3s {w : World} {base g n cap : Nat} {xs : List S32} (h : Kd.R k32 32 w base (fun _ => True) (.slice (some ⟨g, 0, none⟩) n cap) xs) (i : Nat) (hi : i < xs.length) (y : S32) :
    Kd.R k32 32 (w.setCells g (i * 3) (enc32 y)) base (fun _ => True) (.slice (some ⟨g, 0, none⟩) n cap) (xs.set i y) := by
  obtain ⟨rfl, hg, hn, hm, hr, cur, hh, hs⟩ := own3_parts h
  obtain ⟨cur', h1, h2⟩ : ∃ cur' : Array Value, (w.setCells g (i * 3) (enc32 y)).heap[g]? = some (.cells cur' 32 (0, 0)) ∧ cur'.size = cur.size := by
    refine ⟨_, Go.Lib.heap_setCell_same (i := i * 3 + 1 + 1) (Go.Lib.heap_setCell_same (i := i * 3 + 1) (Go.Lib.heap_setCell_same (i := i * 3) hh (.string y.f0)) (.string y.f1)) (.bool y.f2), by simp⟩
  have := own3_mk (xs := xs.set i y) hg (by rw [List.length_set]; exact hn) hm (hr.set i hi y) h1 (by rw [h2]; exact hs)
  rwa [List.length_set] at this
theorem app3h {ops : Array Oper} {rest : List Oper} {o : Oper} {a : Act} {Q : Exit → Act → World → Prop} {w0 W : World} {base n0 : Nat} (hgd : o.guard = none) (s x : Operand) (ho : o.op = .call { callee := .builtin .append, args := #[s, x], argTypes := #[53, 53] })
    (v : Value) (xs : List S32) (p : S32) (hs : a.eval s = v) (hx : a.eval x = .slice (some ⟨n0, 0, none⟩) 1 1) (hn0 : n0 = W.heap.size)
    (HO : Kd.R k32 32 W base (fun _ => True) v xs) (HB : Below base w0 W) (hbase : base ≤ W.heap.size) (hl : (xs.length + 1) * 40 ≤ 140737488355328)
    (h : ∀ g c w1, Kd.R k32 32 w1 base (fun _ => True) (.slice (some ⟨g, 0, none⟩) (xs.length + 1) c) (xs ++ [p]) → Below base w0 w1 → wpList Tryd.prog ops Q rest (a.put o.dst (.slice (some ⟨g, 0, none⟩) (xs.length + 1) c)) w1) :
    wpList Tryd.prog ops Q (o :: rest) a (W.alloc (.cells (enc32 p).toArray 32)) := by
  refine app3 hgd s x ho v xs p hs hx hn0 HO HB hbase hl ?_
  intro v1 w1 hR hB
  obtain ⟨g, c, rfl⟩ := own3_head hR (by simp)
  have e : (xs ++ [p]).length = xs.length + 1 := by simp
  rw [e] at hR ⊢
  exact h g c w1 hR hB
theorem sink_list (P : List S32) (x y : S32) (j : Nat) (hj : P[j]? = some y) : ((P.take (j + 1) ++ x :: P.drop (j + 1)).set (j + 1) y).set j x = P.take j ++ x :: P.drop j := by
  have hlt := (List.getElem?_eq_some_iff.1 hj).1
  have e1 : P.take (j + 1) = P.take j ++ [y] := by rw [List.take_add_one, hj]; rfl
  have e2 : P.drop j = y :: P.drop (j + 1) := by rw [List.drop_eq_getElem_cons hlt, (List.getElem?_eq_some_iff.1 hj).2]
  have hl : (P.take j).length = j := by rw [List.length_take]; omega
  rw [e1, e2, List.append_assoc, List.set_append_right (h := by omega), hl, show j + 1 - j = 1 by omega]
  rw [List.set_append_right (h := by omega), hl, Nat.sub_self]
  rfl
theorem neR_take (l : List S32) (i : Nat) (y : S32) (h : l[i]? = some y) : neR (l.take (i + 1)) = neR (l.take i) ++ (if emptyR y = true then [] else [y]) := by
  unfold neR
  rw [List.take_add_one, h, List.filter_append]
  cases e : emptyR y <;> simp [e]
def uni50T16 : Bool × List (List Nat × List Nat) := (true, [([], []), ([0], [0]), ([1], [1]), ([2], [2]), ([2], [2]), ([3, 4, 2], [2, 3, 4]), ([5, 2], [2, 5]), ([2], [2]), ([2], [2]), ([7, 8, 2], [2, 7, 8]), ([9, 2], [2, 9]), ([6, 10, 2, 2], [2, 6, 10]), ([11, 2], [2, 11]), ([2, 12], [2, 12])])
def uni50B16 : List Nat := [0, 1, 3, 7, 7, 31, 63, 7, 7, 391, 903, 2047, 4095, 8191]
theorem uni50tab16 : rtab .any (opsOf Tryd.f50 16) = uni50T16 := by kernel_rfl
theorem uni50bits16 : waitsOk uni50T16.2 uni50B16 = true := by kernel_rfl
theorem clean_set (L : List S32) (k : Nat) (y : S32) (h : L[k]? = some y) : ((L.take k).map cleanR ++ L.drop k).set k (cleanR y) = (L.take (k + 1)).map cleanR ++ L.drop (k + 1) := by
  have hlt := (List.getElem?_eq_some_iff.1 h).1
  have hl : ((L.take k).map cleanR).length = k := by rw [List.length_map, List.length_take]; omega
  rw [List.set_append_right (h := by omega), hl, Nat.sub_self, List.drop_eq_getElem_cons hlt, List.set_cons_zero, List.take_add_one, h, List.map_append]
  simp
theorem clean_same (L : List S32) (k : Nat) (y : S32) (h : L[k]? = some y) (hc : cleanR y = y) : (L.take (k + 1)).map cleanR ++ L.drop (k + 1) = (L.take k).map cleanR ++ L.drop k := by
  have hlt := (List.getElem?_eq_some_iff.1 h).1
  have he : L[k] = y := (List.getElem?_eq_some_iff.1 h).2
  rw [List.drop_eq_getElem_cons hlt, List.take_add_one, h, List.map_append, he]
  simp [hc]
theorem clean_at (L : List S32) (k : Nat) (y : S32) (h : L[k]? = some y) : ((L.take k).map cleanR ++ L.drop k)[k]? = some y := by
  have hlt := (List.getElem?_eq_some_iff.1 h).1
  have hl : ((L.take k).map cleanR).length = k := by rw [List.length_map, List.length_take]; omega
  rw [List.getElem?_append_right (by omega), hl, Nat.sub_self, List.drop_eq_getElem_cons hlt]
  simpa using h
theorem clean_len (L : List S32) (k : Nat) : ((L.take k).map cleanR ++ L.drop k).length = L.length := by
  rw [List.length_append, List.length_map, List.length_take, List.length_drop]; omega
set_option maxHeartbeats 8000000 in
set_option maxRecDepth 100000 in
theorem runion_any (l0 : List S32) (A0 : Option Addr) (c0 : Nat) (w : World) (hC : Kd.C k32 w A0 l0.length l0) (hl : l0.length * 40 ≤ 140737488355328) :
    Calls Tryd.prog 50 #[.slice A0 l0.length c0] w fun e w' => ∃ v, e = .returned v ∧ Kd.R k32 32 w' w.heap.size (fun _ => True) v (unionR l0) ∧ Below w.heap.size w w' := by
  have HC := am hC
  clear hC
  go_enter Tryd.func50, Tryd.ntmps50
  go_wp2
  go_loopg [3, 4, 5] l0.length (fun gg s3 s4 s5 wr => ∃ (i : Nat) (P : List S32), s4 = .int .i64 i ∧ i ≤ l0.length ∧ Aside0 (l0.length - i ≤ gg) ∧ Aside0 (P.Perm (neR (l0.take i)) ∧ sortedR P) ∧ P.length ≤ i ∧ Aside0 (Kd.R k32 32 wr w.heap.size (fun _ => True) s3 P) ∧ Aside0 (Below w.heap.size w wr))
  case atStart => exact ⟨0, [], rfl, Nat.zero_le _, ⟨by omega⟩, ⟨List.Perm.refl _, List.Pairwise.nil⟩, Nat.le_refl _, ⟨Kd.R_nil _ _ _ _ _⟩, ⟨Below.refl _ _⟩⟩
  case round =>
    obtain ⟨i, P, rfl, hi, HM, HP, hPl, HO, HB⟩ := hrel
    by_cases hlt : i < l0.length
    · have hltz : (i : Int) < (l0.length : Int) := by omega
      obtain ⟨y, hy⟩ : ∃ y, l0[i]? = some y := ⟨_, List.getElem?_eq_getElem hlt⟩
      obtain ⟨ad, e, hx0, hx1, hx2⟩ := at_T32 HC.out (i : Int) (by omega) hltz
      subst e
      simp only [Int.toNat_natCast] at hx0 hx1 hx2
      have hrd : rd_T32 l0 (i : Int) = y := by unfold rd_T32; simp [List.getD, hy]
      rw [hrd] at hx0 hx1 hx2
      have HX := am (And.intro hx0 (And.intro hx1 hx2))
      replace hx0 := hc HB hx0
      replace hx1 := hc HB hx1
      replace hx2 := hc HB hx2
      have HN := am (neR_take l0 i y hy)
      clear hrd hy
      have hcall := rempty_rng wr y
      cases hq : emptyR y with
      | true =>
        rw [hq] at hcall
        go_wp2_with (go_at_call 31; refine hcall.mono ?_; rintro e w' ⟨rfl, hb'⟩)
        go_roundg (l0.length - (i + 1))
        case measure => have := HM.out; omega
        case rel => exact ⟨i + 1, P, by go_num, hlt, ⟨Nat.le_refl _⟩, ⟨by rw [HN.out, if_pos hq, List.append_nil]; exact HP.out.1, HP.out.2⟩, by omega, ⟨Kd.R_below HO.out hb'⟩, ⟨below_step HB.out hb'⟩⟩
      | false =>
        rw [hq] at hcall
        have hwi : True → wrap64 (((P.length + 1 : Nat) : Int) - 1) = (P.length : Int) := fun _ => by rw [Go.IntWalk.wrap64_in _ (by omega)]; omega
        replace hwi := hwi trivial
        have hl40 : (P.length + 1) * 40 ≤ 140737488355328 := by omega
        go_wp2_with (first | (go_at_call 31; refine hcall.mono ?_; rintro e w' ⟨rfl, hb'⟩; have HO1 := am (Kd.R_below HO.out hb'); have HB1 := am (below_step HB.out hb'); have hz1 := am hb'.size; obtain ⟨hx0, hx1, hx2⟩ := HX.out; replace hx0 := (HB1.out.cell (World.block_lt_of_cell? w _ hx0)).trans hx0; replace hx1 := (HB1.out.cell (World.block_lt_of_cell? w _ hx1)).trans hx1; replace hx2 := (HB1.out.cell (World.block_lt_of_cell? w _ hx2)).trans hx2; clear hb') | ((with_reducible refine gate_builtin (b := .append) (xs := #[.tmp 21, .tmp 26]) rfl ?_); at_builtin; refine app3h (w0 := w) (base := w.heap.size) rfl (.tmp 21) (.tmp 26) rfl _ P y rfl rfl rfl HO1.out HB1.out HB1.out.size hl40 ?_; intro g c w4 ho hb; have HO4 := am ho; have HB4 := am hb; clear ho hb))
        go_loopg [5] P.length (fun gg s5 wi => ∃ j : Nat, s5 = .int .i64 j ∧ j ≤ P.length ∧ Aside0 (j ≤ gg) ∧ Aside0 (∀ x ∈ P.drop j, bs y.f0 < bs x.f0) ∧ Aside0 (Kd.R k32 32 wi w.heap.size (fun _ => True) (.slice (some ⟨g, 0, none⟩) (P.length + 1) c) (P.take j ++ y :: P.drop j)) ∧ Aside0 (Below w.heap.size w wi))
        case atStart => exact ⟨P.length, by go_num, Nat.le_refl _, ⟨Nat.le_refl _⟩, ⟨fun x hx => by rw [List.drop_length] at hx; cases hx⟩, ⟨by rw [List.take_length, List.drop_length]; exact HO4.out⟩, ⟨HB4.out⟩⟩
        case round =>
          obtain ⟨j, rfl, hj, HM5, HD, HO5, HB5⟩ := hrel
          rcases Nat.eq_zero_or_pos j with rfl | hj0
          · go_wp2
            repeat (go_quiet (fail); try go_wp2)
            go_roundg (l0.length - (i + 1))
            case measure => have := HM.out; omega
            case rel => exact ⟨i + 1, P.take 0 ++ y :: P.drop 0, by go_num, hlt, ⟨Nat.le_refl _⟩, ⟨by rw [HN.out, if_neg (by rw [hq]; decide)]; exact (sunk_perm P y 0).trans (List.Perm.append_right [y] HP.out.1), sunk_sorted HP.out.2 hj HD.out (fun x hx => absurd rfl hx)⟩, by simp; omega, ⟨Kd.R_drewN HO5.out nq⟩, ⟨pw_below_drewN HB5.out nq⟩⟩
          · obtain ⟨j, rfl⟩ : ∃ t, j = t + 1 := ⟨j - 1, by omega⟩
            obtain ⟨x, hx⟩ : ∃ x, P[j]? = some x := ⟨_, List.getElem?_eq_getElem (by omega)⟩
            have hR := (own3_parts HO5.out).2.2.2.2.1
            have hlt1 : (P.take (j + 1)).length = j + 1 := by rw [List.length_take]; omega
            have hm1 : (P.take (j + 1) ++ y :: P.drop (j + 1))[j + 1]? = some y := by rw [List.getElem?_append_right (by omega), hlt1, Nat.sub_self]; rfl
            have hm0 : (P.take (j + 1) ++ y :: P.drop (j + 1))[j]? = some x := by rw [List.getElem?_append_left (by omega), List.getElem?_take, if_pos (by omega)]; exact hx
            obtain ⟨ax0, ax1, ax2, bx0, bx1, bx2⟩ := hR.at0 hm1
            obtain ⟨dx0, dx1, dx2, gx0, gx1, gx2⟩ := hR.at0 hm0
            have HX2 := am hx
            clear hR hm1 hm0 hlt1 hx
            have hk1 : True → wrap64 (((j + 1 : Nat) : Int) - 1) = (j : Int) := fun _ => by rw [Go.IntWalk.wrap64_in _ (by omega)]; omega
            replace hk1 := hk1 trivial
            have hr1 : ((j + 1 : Nat) : Int) < ((P.length + 1 : Nat) : Int) := by omega
            have hr0 : (j : Int) < ((P.length + 1 : Nat) : Int) := by omega
            have hpos : ((j + 1 : Nat) : Int) > 0 := by omega
            by_cases hc : bs y.f0 < bs x.f0
            · have hcm : Op.bytesLess y.f0.toList x.f0.toList = true := by rw [bless_eq]; exact decide_eq_true hc
              go_wp2
              have hd00 : ((j + 1) * 3 = j * 3) = False := eq_false (by omega)
              have hd01 : ((j + 1) * 3 = j * 3 + 1) = False := eq_false (by omega)
              have hd02 : ((j + 1) * 3 = j * 3 + 2) = False := eq_false (by omega)
              have hd10 : ((j + 1) * 3 + 1 = j * 3) = False := eq_false (by omega)
              have hd11 : ((j + 1) * 3 + 1 = j * 3 + 1) = False := eq_false (by omega)
              have hd12 : ((j + 1) * 3 + 1 = j * 3 + 2) = False := eq_false (by omega)
              have hd20 : ((j + 1) * 3 + 2 = j * 3) = False := eq_false (by omega)
              have hd21 : ((j + 1) * 3 + 2 = j * 3 + 1) = False := eq_false (by omega)
              have hd22 : ((j + 1) * 3 + 2 = j * 3 + 2) = False := eq_false (by omega)
              repeat (go_quiet (fail); try go_wp2)
              go_region
              go_wp2
              have hge := (own3_parts HO5.out).2.1
              have hdj : P.drop j = x :: P.drop (j + 1) := by
                have hjl := (List.getElem?_eq_some_iff.1 HX2.out).1
                rw [List.drop_eq_getElem_cons hjl, (List.getElem?_eq_some_iff.1 HX2.out).2]
              have hML : (P.take (j + 1) ++ y :: P.drop (j + 1)).length = P.length + 1 := by simp; omega
              have hO6 := put3s (put3s (Kd.R_drewN HO5.out (nq + 1)) (j + 1) (by rw [hML]; omega) x) j (by rw [List.length_set, hML]; omega) y
              rw [sink_list P y x j HX2.out] at hO6
              have hB6 := below_sets hge (enc32 y) (j * 3) (below_sets hge (enc32 x) ((j + 1) * 3) (pw_below_drewN HB5.out (nq + 1)))
              go_roundg j
              case measure => have := HM5.out; omega
              case rel => exact ⟨j, rfl, by omega, ⟨Nat.le_refl _⟩, ⟨fun z hz => by rw [hdj] at hz; rcases List.mem_cons.1 hz with rfl | hz; exact hc; exact HD.out z hz⟩, ⟨hO6⟩, ⟨hB6⟩⟩
            · have hcm : Op.bytesLess y.f0.toList x.f0.toList = false := by rw [bless_eq]; exact decide_eq_false hc
              go_wp2
              repeat (go_quiet (fail); try go_wp2)
              go_roundg (l0.length - (i + 1))
              case measure => have := HM.out; omega
              case rel => exact ⟨i + 1, P.take (j + 1) ++ y :: P.drop (j + 1), by go_num, hlt, ⟨Nat.le_refl _⟩, ⟨by rw [HN.out, if_neg (by rw [hq]; decide)]; exact (sunk_perm P y (j + 1)).trans (List.Perm.append_right [y] HP.out.1), sunk_sorted HP.out.2 hj HD.out (fun z _ hz => by rw [Nat.add_sub_cancel, HX2.out] at hz; obtain rfl := Option.some.inj hz; exact hc)⟩, by simp; omega, ⟨Kd.R_drewN HO5.out nq⟩, ⟨pw_below_drewN HB5.out nq⟩⟩
    · obtain rfl : i = l0.length := by omega
      have hltz : ¬ (l0.length : Int) < (l0.length : Int) := by omega
      have hperm := HP.out.1
      rw [List.take_length] at hperm
      have HU := am (union_of hperm HP.out.2)
      have hfold := refFold_clean P []
      rw [List.map_nil, HU.out] at hfold
      have HF := am hfold
      obtain ⟨A, cA, rfl⟩ := Kd.R_slice HO.out
      clear hperm hfold
      go_wp2
      have HOi := am HO.out
      have HBi := am HB.out
      have hPc : P.length * 40 ≤ 140737488355328 := by omega
      generalize hWA : wr = wA at HOi HBi
      go_loopg [6, 7, 8] P.length (fun gg s6 s7 s8 wb => ∃ (k : Nat), s7 = .int .i64 k ∧ k ≤ P.length ∧ Aside0 (P.length - k ≤ gg) ∧ Aside0 (Kd.R k32 32 wb wA.heap.size (fun _ => True) s6 ((P.take k).foldl refStep [])) ∧ Aside0 (Below wA.heap.size wA wb))
      case atStart => exact ⟨0, rfl, Nat.zero_le _, ⟨by omega⟩, ⟨Kd.R_nil _ _ _ _ _⟩, ⟨by rw [← hWA]; exact Below.refl _ _⟩⟩
      case round =>
        obtain ⟨k, rfl, hk, HM2, HO2, HB2⟩ := hrel
        by_cases hlt : k < P.length
        · have hltz : (k : Int) < (P.length : Int) := by omega
          obtain ⟨g, c, eA⟩ := own3_head HOi.out (by intro e; rw [e] at hlt; simp at hlt)
          injection eA with e1 _ e3
          subst e1
          subst e3
          obtain ⟨y, hy⟩ : ∃ y, P[k]? = some y := ⟨_, List.getElem?_eq_getElem hlt⟩
          have hgA := (own3_parts HOi.out).2.2.2.2.1.lt (by omega)
          have HRw := am ((own3_parts HOi.out).2.2.2.2.1.same (HB2.out.block g hgA))
          obtain ⟨cx0, cx1, cx2, _, _, _⟩ := HRw.out.at0 hy
          have hstep : (P.take (k + 1)).foldl refStep [] = refStep ((P.take k).foldl refStep []) y := by rw [List.take_add_one, hy, List.foldl_append]; rfl
          have hLl : ((P.take k).foldl refStep []).length ≤ k := by have := refFold_len (P.take k) []; rw [List.length_take] at this; simp at this; omega
          generalize (P.take k).foldl refStep [] = L at HO2 hstep hLl
          have HS := am hstep
          have HY := am hy
          have hzr := HB2.out.size
          clear hstep hy
          obtain ⟨A2, c2, rfl⟩ := Kd.R_slice HO2.out
          rcases List.eq_nil_or_concat L with rfl | ⟨o, l, eL⟩
          · have hs : refStep [] y = [] ++ [y] := rfl
            have hl40 : (([] : List S32).length + 1) * 40 ≤ 140737488355328 := by decide
            go_wp2
            go_quiet (fail)
            go_wp2_with ((with_reducible refine gate_builtin (b := .append) (xs := #[.tmp 88, .tmp 93]) rfl ?_); at_builtin; refine app3 (w0 := wA) (base := wA.heap.size) rfl (.tmp 88) (.tmp 93) rfl _ ([] : List S32) y rfl rfl rfl (Kd.R_drewN HO2.out nq) (pw_below_drewN HB2.out nq) hzr hl40 ?_; intro v1 w4 ho hb)
            go_roundg (P.length - (k + 1))
            case measure => have := HM2.out; omega
            case rel => exact ⟨k + 1, by go_num, hlt, ⟨Nat.le_refl _⟩, ⟨by rw [HS.out, hs]; exact ho⟩, ⟨hb⟩⟩
          · rw [List.concat_eq_append] at eL
            subst eL
            obtain ⟨g2, c3, e2⟩ := own3_head HO2.out (by simp)
            rw [e2] at HO2 ⊢
            clear e2
            have hlen1 : (o ++ [l]).length = o.length + 1 := by simp
            have HP2 := am (own3_parts HO2.out)
            have hg2 : g2 < wr.heap.size := HP2.out.2.2.2.2.1.lt (by simp)
            obtain ⟨dx0, dx1, dx2, _, gx1, gx2⟩ := HP2.out.2.2.2.2.1.at0 (i := o.length) (x := l) (by simp)
            rw [hlen1] at HO2 ⊢ hLl
            have hwi : True → wrap64 (((o.length + 1 : Nat) : Int) - 1) = (o.length : Int) := fun _ => by rw [Go.IntWalk.wrap64_in _ (by omega)]; omega
            have hil : (o.length : Int) < ((o.length + 1 : Nat) : Int) := by omega
            have hnn : ¬ (o.length : Int) < 0 := by omega
            have hil2 : ((o.length : Int) < (o.length : Int) + 1) = True := eq_true (by omega)
            replace hwi := hwi trivial
            by_cases hj : l.f2 = false ∧ bs l.f1 < bs y.f0
            · have hcall : ∀ W : World, Calls Tryd.prog 82 #[.agg #[.string l.f0, .string l.f1, .bool l.f2], .agg #[.string y.f0, .string y.f1, .bool y.f2]] W fun e w' => e = .returned (.bool false) ∧ Below W.heap.size W w' := fun W => by
                have := rjoins_rng W l y
                rwa [show (!(!l.f2 && decide (bs l.f1 < bs y.f0))) = false by rw [hj.1, decide_eq_true hj.2]; rfl] at this
              have hs : refStep (o ++ [l]) y = (o ++ [l]) ++ [y] := by unfold refStep; rw [List.getLast?_concat]; simp only; rw [if_pos hj]
              have hl40 : ((o ++ [l]).length + 1) * 40 ≤ 140737488355328 := by rw [hlen1]; omega
              clear hj
              go_wp2
              refine start_ (n := 14) (S := fun w' => w'.cell? ⟨g2, o.length * 3, none⟩ = some (.string l.f0) ∧ w'.cell? ⟨g2, o.length * 3 + 1, none⟩ = some (.string l.f1) ∧ w'.cell? ⟨g2, o.length * 3 + 2, none⟩ = some (.bool l.f2) ∧ w'.cell? ⟨g, k * 3, none⟩ = some (.string y.f0) ∧ w'.cell? ⟨g, k * 3 + 1, none⟩ = some (.string y.f1) ∧ w'.cell? ⟨g, k * 3 + 2, none⟩ = some (.bool y.f2)) (ds := []) (bb 0 14) (by kernel_rfl) rfl rfl ⟨dx0, dx1, dx2, cx0, cx1, cx2⟩ (fun hHeld => ?_); refine with_tabW uni50tab16 uni50bits16 (fun HT_ HW_ => ?_)
              refine pure_ (i := 0) (N := (some 74)) (v := ?_) (a' := ?_) (bb 1 14) rfl rfl (any_of HT_.out (by kernel_rfl)) (fun _ _ _ h => h) (Or.inl ⟨by rfl, ?_⟩) ?_ ?_
              rotate_left
              · intro w'
                go_simp
                with_reducible rfl
              rotate_left
              · simp only [Act.put, List.setIfInBounds_toArray, List.set_cons_zero, List.set_cons_succ, i64_w, i32_w]
                rfl
              refine pure_ (i := 1) (N := (some 75)) (v := ?_) (a' := ?_) (bb 2 14) rfl rfl (any_of HT_.out (by kernel_rfl)) (fun _ _ _ h => h) (Or.inl ⟨by rfl, ?_⟩) ?_ ?_
              rotate_left
              · intro w'
                go_simp
                with_reducible rfl
              rotate_left
              · simp only [Act.put, List.setIfInBounds_toArray, List.set_cons_zero, List.set_cons_succ, i64_w, i32_w]
                rfl
              refine pure_ (i := 2) (N := (some 76)) (v := ?_) (a' := ?_) (bb 3 14) rfl rfl (any_of HT_.out (by kernel_rfl)) (fun _ _ _ h => h) (Or.inl ⟨by rfl, ?_⟩) ?_ ?_
              rotate_left
              · intro w'
                go_simp
                with_reducible rfl
              rotate_left
              · simp only [Act.put, List.setIfInBounds_toArray, List.set_cons_zero, List.set_cons_succ, i64_w, i32_w]
                rfl
              refine pure_ (i := 3) (N := (some 77)) (v := ?_) (a' := ?_) (bb 4 14) rfl rfl (any_of HT_.out (by kernel_rfl)) (fun _ _ _ h => h) (Or.inl ⟨by rfl, ?_⟩) ?_ ?_
              rotate_left
              · intro w'
                go_simp
                with_reducible rfl
              rotate_left
              · simp only [Act.put, List.setIfInBounds_toArray, List.set_cons_zero, List.set_cons_succ, i64_w, i32_w]
                rfl
              refine pure_ (i := 4) (N := (some 78)) (v := ?_) (a' := ?_) (bb 5 14) rfl rfl (any_of HT_.out (by kernel_rfl)) (fun _ _ _ h => h) (Or.inl ⟨by rfl, ?_⟩) ?_ ?_
              rotate_left
              · intro w'
                go_simp
                with_reducible rfl
              rotate_left
              · simp only [Act.put, List.setIfInBounds_toArray, List.set_cons_zero, List.set_cons_succ, i64_w, i32_w]
                rfl
              refine pure_ (i := 5) (N := (some 79)) (v := ?_) (a' := ?_) (bb 6 14) rfl rfl (any_of HT_.out (by kernel_rfl)) (fun _ _ _ h => h) (Or.inl ⟨by rfl, ?_⟩) ?_ ?_
              rotate_left
              · intro w'
                go_simp
                with_reducible rfl
              rotate_left
              · simp only [Act.put, List.setIfInBounds_toArray, List.set_cons_zero, List.set_cons_succ, i64_w, i32_w]
                rfl
              refine pure_ (i := 7) (N := (some 81)) (v := ?_) (a' := ?_) (bs 14 191) rfl rfl (any_of HT_.out (by kernel_rfl)) (fun _ _ _ h => h) (Or.inl ⟨by rfl, ?_⟩) ?_ ?_
              rotate_left
              · intro w'
                go_simp
                with_reducible rfl
              rotate_left
              · simp only [Act.put, List.setIfInBounds_toArray, List.set_cons_zero, List.set_cons_succ, i64_w, i32_w]
                rfl
              refine pure_ (i := 8) (N := (some 82)) (v := ?_) (a' := ?_) (bs 14 447) rfl rfl (any_of HT_.out (by kernel_rfl)) (fun _ _ _ h => h) (Or.inl ⟨by rfl, ?_⟩) ?_ ?_
              rotate_left
              · intro w'
                go_simp
                with_reducible rfl
              rotate_left
              · simp only [Act.put, List.setIfInBounds_toArray, List.set_cons_zero, List.set_cons_succ, i64_w, i32_w]
                rfl
              refine pure_ (i := 9) (N := (some 83)) (v := ?_) (a' := ?_) (bs 14 959) rfl rfl (any_of HT_.out (by kernel_rfl)) (fun _ _ _ h => h) (Or.inl ⟨by rfl, ?_⟩) ?_ ?_
              rotate_left
              · intro w'
                go_simp
                with_reducible rfl
              rotate_left
              · simp only [Act.put, List.setIfInBounds_toArray, List.set_cons_zero, List.set_cons_succ, i64_w, i32_w]
                rfl
              refine take_ (i := 6) (N := (some 80)) (v := ?_) (a' := ?_) (bb 10 14) rfl rfl (take_ofW HT_.out HW_.out (by kernel_rfl)) (fun _ _ _ h => h) (Or.inl ⟨by rfl, ?_⟩) hHeld ?_ ?_
              rotate_left
              · rintro w' ⟨s0, s1, s2, s3, s4, s5⟩
                go_simp
                with_reducible rfl
              rotate_left
              · simp only [Act.put, List.setIfInBounds_toArray, List.set_cons_zero, List.set_cons_succ, i64_w, i32_w]
                rfl
              refine take_ (i := 10) (N := (some 84)) (v := ?_) (a' := ?_) (bb 11 14) rfl rfl (take_ofW HT_.out HW_.out (by kernel_rfl)) (fun _ _ _ h => h) (Or.inl ⟨by rfl, ?_⟩) hHeld ?_ ?_
              rotate_left
              · rintro w' ⟨s0, s1, s2, s3, s4, s5⟩
                go_simp
                with_reducible rfl
              rotate_left
              · simp only [Act.put, List.setIfInBounds_toArray, List.set_cons_zero, List.set_cons_succ, i64_w, i32_w]
                rfl
              refine one_ (i := 11) (N := (some 85)) (bb 12 14) rfl rfl (one_of HT_.out (by kernel_rfl)) (by decide) (fun K hK => ?_)
              refine goes_ Tryd.func82 (by kernel_rfl) rfl #[.agg #[.string l.f0, .string l.f1, .bool l.f2], .agg #[.string y.f0, .string y.f1, .bool y.f2]] (by rfl) rfl rfl (by (try simp only [List.map_toArray, List.map_cons, List.map_nil]); first | done | rfl | (simp only [*])) ?_
              refine (hcall _).mono ?_; rintro e w' ⟨rfl, hb'⟩; have HO3 := am (Kd.R_below (Kd.R_drew HO2.out) hb'); have HB3 := am (below_step (below_drew1 HB2.out) hb'); have hz3 := HB3.out.size
              refine ⟨_, rfl, ?_⟩
              have Hs0_ := (hb'.cell (World.block_lt_of_cell? _ _ hHeld.1)).trans hHeld.1
              have Hs1_ := (hb'.cell (World.block_lt_of_cell? _ _ hHeld.2.1)).trans hHeld.2.1
              have Hs2_ := (hb'.cell (World.block_lt_of_cell? _ _ hHeld.2.2.1)).trans hHeld.2.2.1
              have Hs3_ := (hb'.cell (World.block_lt_of_cell? _ _ hHeld.2.2.2.1)).trans hHeld.2.2.2.1
              have Hs4_ := (hb'.cell (World.block_lt_of_cell? _ _ hHeld.2.2.2.2.1)).trans hHeld.2.2.2.2.1
              have Hs5_ := (hb'.cell (World.block_lt_of_cell? _ _ hHeld.2.2.2.2.2)).trans hHeld.2.2.2.2.2
              refine hK.out _ _ ⟨Hs0_, Hs1_, Hs2_, Hs3_, Hs4_, Hs5_⟩ (fun hHeld => ?_)
              clear hK K
              refine norm_ (a' := ?_) ?_ ?_
              rotate_left
              · show Act.put _ (some 85) _ = _
                simp only [Act.put, List.setIfInBounds_toArray, List.set_cons_zero, List.set_cons_succ, i64_w, i32_w]
                rfl
              refine pure_ (i := 12) (N := (some 86)) (v := ?_) (a' := ?_) (bb 13 14) rfl rfl (any_of HT_.out (by kernel_rfl)) (fun _ _ _ h => h) (Or.inl ⟨by rfl, ?_⟩) ?_ ?_
              rotate_left
              · intro w'
                go_simp
                with_reducible rfl
              rotate_left
              · simp only [Act.put, List.setIfInBounds_toArray, List.set_cons_zero, List.set_cons_succ, i64_w, i32_w]
                rfl
              refine pure_ (i := 13) (N := (some 87)) (v := ?_) (a' := ?_) (bb 14 14) rfl rfl (any_of HT_.out (by kernel_rfl)) (fun _ _ _ h => h) (Or.inl ⟨by rfl, ?_⟩) ?_ ?_
              rotate_left
              · intro w'
                go_simp
                with_reducible rfl
              rotate_left
              · simp only [Act.put, List.setIfInBounds_toArray, List.set_cons_zero, List.set_cons_succ, i64_w, i32_w]
                rfl
              refine done_ (done_of HT_.out (by kernel_rfl)) ?_
              clear dx0 dx1 dx2 gx1 gx2 cx0 cx1 cx2
              obtain ⟨_, _, _, cx0, cx1, cx2⟩ := hHeld
              obtain ⟨dx0, dx1, dx2, _, gx1, gx2⟩ := (own3_parts HO3.out).2.2.2.2.1.at0 (i := o.length) (x := l) (by simp)
              go_wp2_with ((with_reducible refine gate_builtin (b := .append) (xs := #[.tmp 88, .tmp 93]) rfl ?_); at_builtin; refine app3 (w0 := wA) (base := wA.heap.size) rfl (.tmp 88) (.tmp 93) rfl _ (o ++ [l]) y rfl rfl rfl HO3.out HB3.out hz3 hl40 ?_; intro v1 w4 ho hb)
              go_roundg (P.length - (k + 1))
              case measure => have := HM2.out; omega
              case rel => exact ⟨k + 1, by go_num, hlt, ⟨Nat.le_refl _⟩, ⟨by rw [HS.out, hs]; exact ho⟩, ⟨hb⟩⟩
            · have hcall : ∀ W : World, Calls Tryd.prog 82 #[.agg #[.string l.f0, .string l.f1, .bool l.f2], .agg #[.string y.f0, .string y.f1, .bool y.f2]] W fun e w' => e = .returned (.bool true) ∧ Below W.heap.size W w' := fun W => by
                have := rjoins_rng W l y
                have he : (!(!l.f2 && decide (bs l.f1 < bs y.f0))) = true := by
                  cases hq : l.f2 with
                  | true => rfl
                  | false =>
                    have : ¬ bs l.f1 < bs y.f0 := fun h => hj ⟨hq, h⟩
                    rw [decide_eq_false this]; rfl
                rwa [he] at this
              have HJ := am hj
              clear hj
              go_wp2
              refine start_ (n := 14) (S := fun w' => w'.cell? ⟨g2, o.length * 3, none⟩ = some (.string l.f0) ∧ w'.cell? ⟨g2, o.length * 3 + 1, none⟩ = some (.string l.f1) ∧ w'.cell? ⟨g2, o.length * 3 + 2, none⟩ = some (.bool l.f2) ∧ w'.cell? ⟨g, k * 3, none⟩ = some (.string y.f0) ∧ w'.cell? ⟨g, k * 3 + 1, none⟩ = some (.string y.f1) ∧ w'.cell? ⟨g, k * 3 + 2, none⟩ = some (.bool y.f2)) (ds := []) (bb 0 14) (by kernel_rfl) rfl rfl ⟨dx0, dx1, dx2, cx0, cx1, cx2⟩ (fun hHeld => ?_); refine with_tabW uni50tab16 uni50bits16 (fun HT_ HW_ => ?_)
              refine pure_ (i := 0) (N := (some 74)) (v := ?_) (a' := ?_) (bb 1 14) rfl rfl (any_of HT_.out (by kernel_rfl)) (fun _ _ _ h => h) (Or.inl ⟨by rfl, ?_⟩) ?_ ?_
              rotate_left
              · intro w'
                go_simp
                with_reducible rfl
              rotate_left
              · simp only [Act.put, List.setIfInBounds_toArray, List.set_cons_zero, List.set_cons_succ, i64_w, i32_w]
                rfl
              refine pure_ (i := 1) (N := (some 75)) (v := ?_) (a' := ?_) (bb 2 14) rfl rfl (any_of HT_.out (by kernel_rfl)) (fun _ _ _ h => h) (Or.inl ⟨by rfl, ?_⟩) ?_ ?_
              rotate_left
              · intro w'
                go_simp
                with_reducible rfl
              rotate_left
              · simp only [Act.put, List.setIfInBounds_toArray, List.set_cons_zero, List.set_cons_succ, i64_w, i32_w]
                rfl
              refine pure_ (i := 2) (N := (some 76)) (v := ?_) (a' := ?_) (bb 3 14) rfl rfl (any_of HT_.out (by kernel_rfl)) (fun _ _ _ h => h) (Or.inl ⟨by rfl, ?_⟩) ?_ ?_
              rotate_left
              · intro w'
                go_simp
                with_reducible rfl
              rotate_left
              · simp only [Act.put, List.setIfInBounds_toArray, List.set_cons_zero, List.set_cons_succ, i64_w, i32_w]
                rfl
              refine pure_ (i := 3) (N := (some 77)) (v := ?_) (a' := ?_) (bb 4 14) rfl rfl (any_of HT_.out (by kernel_rfl)) (fun _ _ _ h => h) (Or.inl ⟨by rfl, ?_⟩) ?_ ?_
              rotate_left
              · intro w'
                go_simp
                with_reducible rfl
              rotate_left
              · simp only [Act.put, List.setIfInBounds_toArray, List.set_cons_zero, List.set_cons_succ, i64_w, i32_w]
                rfl
              refine pure_ (i := 4) (N := (some 78)) (v := ?_) (a' := ?_) (bb 5 14) rfl rfl (any_of HT_.out (by kernel_rfl)) (fun _ _ _ h => h) (Or.inl ⟨by rfl, ?_⟩) ?_ ?_
              rotate_left
              · intro w'
                go_simp
                with_reducible rfl
              rotate_left
              · simp only [Act.put, List.setIfInBounds_toArray, List.set_cons_zero, List.set_cons_succ, i64_w, i32_w]
                rfl
              refine pure_ (i := 5) (N := (some 79)) (v := ?_) (a' := ?_) (bb 6 14) rfl rfl (any_of HT_.out (by kernel_rfl)) (fun _ _ _ h => h) (Or.inl ⟨by rfl, ?_⟩) ?_ ?_
              rotate_left
              · intro w'
                go_simp
                with_reducible rfl
              rotate_left
              · simp only [Act.put, List.setIfInBounds_toArray, List.set_cons_zero, List.set_cons_succ, i64_w, i32_w]
                rfl
              refine pure_ (i := 7) (N := (some 81)) (v := ?_) (a' := ?_) (bs 14 191) rfl rfl (any_of HT_.out (by kernel_rfl)) (fun _ _ _ h => h) (Or.inl ⟨by rfl, ?_⟩) ?_ ?_
              rotate_left
              · intro w'
                go_simp
                with_reducible rfl
              rotate_left
              · simp only [Act.put, List.setIfInBounds_toArray, List.set_cons_zero, List.set_cons_succ, i64_w, i32_w]
                rfl
              refine pure_ (i := 8) (N := (some 82)) (v := ?_) (a' := ?_) (bs 14 447) rfl rfl (any_of HT_.out (by kernel_rfl)) (fun _ _ _ h => h) (Or.inl ⟨by rfl, ?_⟩) ?_ ?_
              rotate_left
              · intro w'
                go_simp
                with_reducible rfl
              rotate_left
              · simp only [Act.put, List.setIfInBounds_toArray, List.set_cons_zero, List.set_cons_succ, i64_w, i32_w]
                rfl
              refine pure_ (i := 9) (N := (some 83)) (v := ?_) (a' := ?_) (bs 14 959) rfl rfl (any_of HT_.out (by kernel_rfl)) (fun _ _ _ h => h) (Or.inl ⟨by rfl, ?_⟩) ?_ ?_
              rotate_left
              · intro w'
                go_simp
                with_reducible rfl
              rotate_left
              · simp only [Act.put, List.setIfInBounds_toArray, List.set_cons_zero, List.set_cons_succ, i64_w, i32_w]
                rfl
              refine take_ (i := 6) (N := (some 80)) (v := ?_) (a' := ?_) (bb 10 14) rfl rfl (take_ofW HT_.out HW_.out (by kernel_rfl)) (fun _ _ _ h => h) (Or.inl ⟨by rfl, ?_⟩) hHeld ?_ ?_
              rotate_left
              · rintro w' ⟨s0, s1, s2, s3, s4, s5⟩
                go_simp
                with_reducible rfl
              rotate_left
              · simp only [Act.put, List.setIfInBounds_toArray, List.set_cons_zero, List.set_cons_succ, i64_w, i32_w]
                rfl
              refine take_ (i := 10) (N := (some 84)) (v := ?_) (a' := ?_) (bb 11 14) rfl rfl (take_ofW HT_.out HW_.out (by kernel_rfl)) (fun _ _ _ h => h) (Or.inl ⟨by rfl, ?_⟩) hHeld ?_ ?_
              rotate_left
              · rintro w' ⟨s0, s1, s2, s3, s4, s5⟩
                go_simp
                with_reducible rfl
              rotate_left
              · simp only [Act.put, List.setIfInBounds_toArray, List.set_cons_zero, List.set_cons_succ, i64_w, i32_w]
                rfl
              refine one_ (i := 11) (N := (some 85)) (bb 12 14) rfl rfl (one_of HT_.out (by kernel_rfl)) (by decide) (fun K hK => ?_)
              refine goes_ Tryd.func82 (by kernel_rfl) rfl #[.agg #[.string l.f0, .string l.f1, .bool l.f2], .agg #[.string y.f0, .string y.f1, .bool y.f2]] (by rfl) rfl rfl (by (try simp only [List.map_toArray, List.map_cons, List.map_nil]); first | done | rfl | (simp only [*])) ?_
              refine (hcall _).mono ?_; rintro e w' ⟨rfl, hb'⟩; have HO3 := am (Kd.R_below (Kd.R_drew HO2.out) hb'); have HB3 := am (below_step (below_drew1 HB2.out) hb'); have hz3 := HB3.out.size
              refine ⟨_, rfl, ?_⟩
              have Hs0_ := (hb'.cell (World.block_lt_of_cell? _ _ hHeld.1)).trans hHeld.1
              have Hs1_ := (hb'.cell (World.block_lt_of_cell? _ _ hHeld.2.1)).trans hHeld.2.1
              have Hs2_ := (hb'.cell (World.block_lt_of_cell? _ _ hHeld.2.2.1)).trans hHeld.2.2.1
              have Hs3_ := (hb'.cell (World.block_lt_of_cell? _ _ hHeld.2.2.2.1)).trans hHeld.2.2.2.1
              have Hs4_ := (hb'.cell (World.block_lt_of_cell? _ _ hHeld.2.2.2.2.1)).trans hHeld.2.2.2.2.1
              have Hs5_ := (hb'.cell (World.block_lt_of_cell? _ _ hHeld.2.2.2.2.2)).trans hHeld.2.2.2.2.2
              refine hK.out _ _ ⟨Hs0_, Hs1_, Hs2_, Hs3_, Hs4_, Hs5_⟩ (fun hHeld => ?_)
              clear hK K
              refine norm_ (a' := ?_) ?_ ?_
              rotate_left
              · show Act.put _ (some 85) _ = _
                simp only [Act.put, List.setIfInBounds_toArray, List.set_cons_zero, List.set_cons_succ, i64_w, i32_w]
                rfl
              refine pure_ (i := 12) (N := (some 86)) (v := ?_) (a' := ?_) (bb 13 14) rfl rfl (any_of HT_.out (by kernel_rfl)) (fun _ _ _ h => h) (Or.inl ⟨by rfl, ?_⟩) ?_ ?_
              rotate_left
              · intro w'
                go_simp
                with_reducible rfl
              rotate_left
              · simp only [Act.put, List.setIfInBounds_toArray, List.set_cons_zero, List.set_cons_succ, i64_w, i32_w]
                rfl
              refine pure_ (i := 13) (N := (some 87)) (v := ?_) (a' := ?_) (bb 14 14) rfl rfl (any_of HT_.out (by kernel_rfl)) (fun _ _ _ h => h) (Or.inl ⟨by rfl, ?_⟩) ?_ ?_
              rotate_left
              · intro w'
                go_simp
                with_reducible rfl
              rotate_left
              · simp only [Act.put, List.setIfInBounds_toArray, List.set_cons_zero, List.set_cons_succ, i64_w, i32_w]
                rfl
              refine done_ (done_of HT_.out (by kernel_rfl)) ?_
              clear dx0 dx1 dx2 gx1 gx2 cx0 cx1 cx2
              obtain ⟨_, _, _, cx0, cx1, cx2⟩ := hHeld
              obtain ⟨dx0, dx1, dx2, _, gx1, gx2⟩ := (own3_parts HO3.out).2.2.2.2.1.at0 (i := o.length) (x := l) (by simp)
              have hge2 := HP2.out.2.1
              have hne1 : (g2 = g) = False := eq_false (by omega)
              have hne2 : (g = g2) = False := eq_false (by omega)
              have hset : ∀ z l : S32, (o ++ [l]).set o.length z = o ++ [z] := by intro z l; simp
              cases hq : y.f2 with
              | true =>
                rw [hq] at cx2
                have hs : refStep (o ++ [l]) y = o ++ [⟨l.f0, y.f1, true⟩] := by unfold refStep; rw [List.getLast?_concat, List.dropLast_concat]; simp only; rw [if_neg HJ.out, if_pos (Or.inl hq), hq]
                go_wp2
                repeat (go_quiet (fail); try go_wp2)
                have hO1 := put3 (Kd.R_drewN HO3.out nq) (i := o.length) (x := l) (by simp) ⟨l.f0, y.f1, l.f2⟩ 1 (.string y.f1) rfl (by intro j hj; rcases j with _ | _ | _ | j <;> first | rfl | exact absurd rfl hj)
                rw [hset] at hO1
                have hO2 := put3 hO1 (i := o.length) (x := ⟨l.f0, y.f1, l.f2⟩) (by simp) ⟨l.f0, y.f1, true⟩ 2 (.bool true) rfl (by intro j hj; rcases j with _ | _ | _ | j <;> first | rfl | exact absurd rfl hj)
                rw [hset] at hO2
                have hB2 := ((pw_below_drewN HB3.out nq).setCell (p := ⟨g2, o.length * 3 + 1, none⟩) hge2 (.string y.f1)).setCell (p := ⟨g2, o.length * 3 + 2, none⟩) hge2 (.bool true)
                go_roundg (P.length - (k + 1))
                case measure => have := HM2.out; omega
                case rel => exact ⟨k + 1, by go_num, hlt, ⟨Nat.le_refl _⟩, ⟨by rw [HS.out, hs]; exact hO2⟩, ⟨hB2⟩⟩
              | false =>
                rw [hq] at cx2
                cases hql : l.f2 with
                | true =>
                  rw [hql] at dx2
                  have hs : refStep (o ++ [l]) y = o ++ [l] := by unfold refStep; rw [List.getLast?_concat]; simp only; rw [if_neg HJ.out, if_neg (by rw [hq, hql]; simp)]
                  go_wp2
                  repeat (go_quiet (fail); try go_wp2)
                  go_roundg (P.length - (k + 1))
                  case measure => have := HM2.out; omega
                  case rel => exact ⟨k + 1, by go_num, hlt, ⟨Nat.le_refl _⟩, ⟨by rw [HS.out, hs]; exact Kd.R_drewN HO3.out nq⟩, ⟨pw_below_drewN HB3.out nq⟩⟩
                | false =>
                  rw [hql] at dx2
                  by_cases hc : bs l.f1 < bs y.f1
                  · have hcm : Op.bytesLess l.f1.toList y.f1.toList = true := by rw [bless_eq]; exact decide_eq_true hc
                    have hs : refStep (o ++ [l]) y = o ++ [⟨l.f0, y.f1, false⟩] := by unfold refStep; rw [List.getLast?_concat, List.dropLast_concat]; simp only; rw [if_neg HJ.out, if_pos (Or.inr ⟨hql, hc⟩), hq]
                    go_wp2
                    repeat (go_quiet (fail); try go_wp2)
                    have hO1 := put3 (Kd.R_drewN HO3.out nq) (i := o.length) (x := l) (by simp) ⟨l.f0, y.f1, l.f2⟩ 1 (.string y.f1) rfl (by intro j hj; rcases j with _ | _ | _ | j <;> first | rfl | exact absurd rfl hj)
                    rw [hset] at hO1
                    have hO2 := put3 hO1 (i := o.length) (x := ⟨l.f0, y.f1, l.f2⟩) (by simp) ⟨l.f0, y.f1, false⟩ 2 (.bool false) rfl (by intro j hj; rcases j with _ | _ | _ | j <;> first | rfl | exact absurd rfl hj)
                    rw [hset] at hO2
                    have hB2 := ((pw_below_drewN HB3.out nq).setCell (p := ⟨g2, o.length * 3 + 1, none⟩) hge2 (.string y.f1)).setCell (p := ⟨g2, o.length * 3 + 2, none⟩) hge2 (.bool false)
                    go_roundg (P.length - (k + 1))
                    case measure => have := HM2.out; omega
                    case rel => exact ⟨k + 1, by go_num, hlt, ⟨Nat.le_refl _⟩, ⟨by rw [HS.out, hs]; exact hO2⟩, ⟨hB2⟩⟩
                  · have hcm : Op.bytesLess l.f1.toList y.f1.toList = false := by rw [bless_eq]; exact decide_eq_false hc
                    have hs : refStep (o ++ [l]) y = o ++ [l] := by unfold refStep; rw [List.getLast?_concat]; simp only; rw [if_neg HJ.out, if_neg (fun h => h.elim (fun h => by rw [hq] at h; cases h) (fun h => hc h.2))]
                    go_wp2
                    repeat (go_quiet (fail); try go_wp2)
                    go_roundg (P.length - (k + 1))
                    case measure => have := HM2.out; omega
                    case rel => exact ⟨k + 1, by go_num, hlt, ⟨Nat.le_refl _⟩, ⟨by rw [HS.out, hs]; exact Kd.R_drewN HO3.out nq⟩, ⟨pw_below_drewN HB3.out nq⟩⟩
        · obtain rfl : k = P.length := by omega
          have hltz : ¬ (P.length : Int) < (P.length : Int) := by omega
          have hfin := HO2.out
          rw [List.take_length] at hfin
          have hLl := refFold_len P []
          generalize P.foldl refStep [] = L at hfin HF hLl
          have hLP : L.length ≤ P.length := by simpa using hLl
          have HO5 := am hfin
          obtain ⟨A2, c2, rfl⟩ := Kd.R_slice HO5.out
          have HB5 := am HB2.out
          clear hfin hLl HO2 HB2
          go_wp2
          go_loopg [9] L.length (fun gg s9 wc => ∃ i : Nat, s9 = .int .i64 i ∧ i ≤ L.length ∧ Aside0 (L.length - i ≤ gg) ∧ Aside0 (Kd.R k32 32 wc wA.heap.size (fun _ => True) (.slice A2 L.length c2) ((L.take i).map cleanR ++ L.drop i)) ∧ Aside0 (Below wA.heap.size wA wc))
          case atStart => exact ⟨0, rfl, Nat.zero_le _, ⟨by omega⟩, ⟨by simpa using HO5.out⟩, ⟨HB5.out⟩⟩
          case round =>
            obtain ⟨i, rfl, hi, HM3, HO3, HB3⟩ := hrel
            by_cases hlt : i < L.length
            · have hltz : (i : Int) < (L.length : Int) := by omega
              obtain ⟨y, hy⟩ : ∃ y, L[i]? = some y := ⟨_, List.getElem?_eq_getElem hlt⟩
              have HY := am hy
              obtain ⟨g, c, eA⟩ := own3_head HO3.out (by intro e; have := clean_len L i; rw [e] at this; simp at this; omega)
              injection eA with e1 e2 e3
              clear e2
              subst e1
              subst e3
              obtain ⟨cx0, cx1, cx2, fx0, fx1, fx2⟩ := (own3_parts HO3.out).2.2.2.2.1.at0 (clean_at L i y hy)
              have hge := (own3_parts HO3.out).2.1
              clear hy
              cases hq : y.f2 with
              | true =>
                rw [hq] at cx2
                have hcl : (⟨y.f0, ⟨#[]⟩, y.f2⟩ : S32) = cleanR y := by unfold cleanR; rw [if_pos hq, hq]
                go_wp2
                have hO7 := put3 HO3.out (i := i) (x := y) (clean_at L i y HY.out) ⟨y.f0, ⟨#[]⟩, y.f2⟩ 1 (.string ⟨#[]⟩) rfl (by intro j hj; rcases j with _ | _ | _ | j <;> first | rfl | exact absurd rfl hj)
                rw [hcl, clean_set L i y HY.out] at hO7
                have hB7 := HB3.out.setCell (p := ⟨g, i * 3 + 1, none⟩) hge (.string ⟨#[]⟩)
                go_roundg (L.length - (i + 1))
                case measure => have := HM3.out; omega
                case rel => exact ⟨i + 1, by go_num, hlt, ⟨Nat.le_refl _⟩, ⟨hO7⟩, ⟨hB7⟩⟩
              | false =>
                rw [hq] at cx2
                go_wp2
                go_roundg (L.length - (i + 1))
                case measure => have := HM3.out; omega
                case rel => exact ⟨i + 1, by go_num, hlt, ⟨Nat.le_refl _⟩, ⟨by rw [clean_same L i y HY.out (by unfold cleanR; rw [if_neg (by rw [hq]; decide)])]; exact HO3.out⟩, ⟨HB3.out⟩⟩
            · obtain rfl : i = L.length := by omega
              have hltz : ¬ (L.length : Int) < (L.length : Int) := by omega
              have hfin := HO3.out
              rw [List.take_length, List.drop_length, List.append_nil, HF.out] at hfin
              go_wp2
              go_ret
              exact ⟨_, rfl, Kd.R_lower hfin HBi.out.size, Below.trans HBi.out (HB3.out.mono HBi.out.size)⟩
def vellumref02_Union.f (k : Nat) (l0 : List S32) : Option (List S32) := code_Union.f l0
theorem vellumref02_Union.calls (k : Nat) (A0 : Option Addr) (c0 : Nat) (l0 : List S32) (r : List S32) (w : World) (hr0 : Kd.C k32 w A0 l0.length l0) (hc0 : l0.length ≤ c0) (h : vellumref02_Union.f k l0 = some r) :
    Calls Tryd.prog 50 #[.slice A0 l0.length c0] w fun e w' => ∃ v0_, e = .returned v0_ ∧ Kd.R k32 32 w' w.heap.size (fun _ => True) v0_ r ∧ Below w.heap.size w w' := by
  unfold vellumref02_Union.f code_Union.f at h
  by_cases hl : l0.length * 40 ≤ 140737488355328
  · rw [if_pos hl] at h
    obtain rfl := Option.some.inj h
    exact runion_any l0 A0 c0 w hr0 hl
  · rw [if_neg hl] at h
    cases h
end Go.Proofs.YtpiifdbicibelaaDoor.PA
end
section
namespace Go.Proofs.YtpiifdbicibelaaDoor.PA
open Go.RowKit Go.Proofs.YtpiifdbicibelaaDoorW.PrintWords Go.Proofs.YtpiifdbicibelaaDoorW.PrintLast Go.Proofs.YtpiifdbicibelaaDoorW.PrintMore
attribute [local go_sem] max2_int min2_int max_two min_two max_three min_three max_four min_four
set_option linter.unusedVariables false
set_option linter.unusedSimpArgs false
def vellumlaw02_CodeUnites.f (k : Nat) (l0 : List (S32)) : Option (Bool) := (code_Union.f l0).bind fun t1067 => ((vellumref02_Union.f k l0).bind fun t1070 => ((vellumref02_Same.f k t1067 t1070).bind fun t1073 => (if t1073 = true then ((vellumlaw02_awake.f k).bind fun t1074 => (some t1074)) else (some false))))
set_option maxHeartbeats 8000000 in
set_option maxRecDepth 100000 in
theorem vellumlaw02_CodeUnites.calls (k : Nat) (A0 : Option Addr) (c0 : Nat) (l0 : List (S32)) (r : Bool) (w : World) (hr0 : Kd.C k32 w A0 l0.length l0) (hc0 : l0.length ≤ c0) (hG : Glob w) (h : vellumlaw02_CodeUnites.f k l0 = some r) :
    Calls Tryd.prog 10 #[.slice A0 l0.length c0] w fun e w' => e = .returned (.bool r) ∧ Below w.heap.size w w' := by
  have HR0 := am hr0
  have HC0 := am hc0
  clear hr0 hc0
  have HG := am hG
  clear hG
  have HB := am (Below.refl w.heap.size w)
  have H : ((code_Union.f l0).bind fun t1067 => ((vellumref02_Union.f k l0).bind fun t1070 => ((vellumref02_Same.f k t1067 t1070).bind fun t1073 => (if t1073 = true then ((vellumlaw02_awake.f k).bind fun t1074 => (some t1074)) else (some false))))) = some r := h
  clear h
  replace H := Option.bind_eq_some_iff.mp H
  obtain ⟨t1067, A20, H⟩ := H
  replace H : ((vellumref02_Union.f k l0).bind fun t1070 => ((vellumref02_Same.f k t1067 t1070).bind fun t1073 => (if t1073 = true then ((vellumlaw02_awake.f k).bind fun t1074 => (some t1074)) else (some false)))) = some r := H
  have A2 := am A20
  clear A20
  replace H := Option.bind_eq_some_iff.mp H
  obtain ⟨t1070, A30, H⟩ := H
  replace H : ((vellumref02_Same.f k t1067 t1070).bind fun t1073 => (if t1073 = true then ((vellumlaw02_awake.f k).bind fun t1074 => (some t1074)) else (some false))) = some r := H
  have A3 := am A30
  clear A30
  replace H := Option.bind_eq_some_iff.mp H
  obtain ⟨t1073, A40, H⟩ := H
  replace H : (if t1073 = true then ((vellumlaw02_awake.f k).bind fun t1074 => (some t1074)) else (some false)) = some r := H
  have A4 := am A40
  clear A40
  by_cases c5 : t1073 = true
  · subst c5
    have H1 : ((vellumlaw02_awake.f k).bind fun t1074 => (some t1074)) = some r := by rw [if_pos rfl] at H; exact H
    clear H
    have H := H1
    clear H1
    replace H := Option.bind_eq_some_iff.mp H
    obtain ⟨t1074, A60, H⟩ := H
    replace H : (some t1074) = some r := H
    have A6 := am A60
    clear A60
    obtain rfl := Option.some.inj H
    go_enter Tryd.func10, Tryd.ntmps10
    go_wp2_with (first | ((with_reducible refine gate_callee (f := 49) rfl ?_); refine goesL_ (some 4) rfl rfl Tryd.func49 (by kernel_rfl) rfl #[.slice A0 l0.length c0] rfl ar ?_; (with_reducible refine (code_Union.calls _ _ l0 t1067 _ ?side1 HC0.out A2.out).mono ?_); (case side1 => repeat (first | exact HR0.out | (with_reducible refine Kd.C_alloc ?_ _) | (with_reducible refine Kd.C_drewN ?_ _) | (with_reducible refine Kd.C_drew ?_))); rintro e w7 ⟨v1068, rfl, ho0, hb⟩; refine ⟨_, rfl, ?_⟩; have n0_ := am (Kd.R_lower ho0 (below_size (bl HB))); have n1_ := sb HB hb; clear HB; have HO1069 := n0_; have HB := n1_; clear n0_ n1_; (try clear hb); (try clear hb2 hk hi); (try clear ho0)) | ((with_reducible refine gate_callee (f := 50) rfl ?_); refine goesL_ (some 6) rfl rfl Tryd.func50 (by kernel_rfl) rfl #[.slice A0 l0.length c0] rfl ar ?_; (with_reducible refine (vellumref02_Union.calls k _ _ l0 t1070 _ (Kd.cb HR0 HB) HC0.out A3.out).mono ?_); rintro e w8 ⟨v1071, rfl, ho0, hb⟩; refine ⟨_, rfl, ?_⟩; have n0_ := am (Kd.R_elder' (Kd.rr HO1069.out) (Kd.R_base ho0) hb); have n1_ := am (Kd.R_lower (Kd.R_new' ho0 (Kd.R_lt (Kd.rr HO1069.out))) (below_size (bl HB))); have n2_ := sb HB hb; clear HO1069; clear HB; have HO1069 := n0_; have HO1072 := n1_; have HB := n2_; clear n0_ n1_ n2_; (try clear hb); (try clear hb2 hk hi); (try clear ho0); obtain ⟨Ao9, co9, eo9⟩ := Kd.R_slice HO1069.out; subst eo9; obtain ⟨Ao10, co10, eo10⟩ := Kd.R_slice HO1072.out; subst eo10) | ((with_reducible refine gate_callee (f := 48) rfl ?_); refine goesL_ (some 7) rfl rfl Tryd.func48 (by kernel_rfl) rfl #[.slice Ao9 t1067.length co9, .slice Ao10 t1070.length co10] rfl ar ?_; (with_reducible refine (vellumref02_Same.calls k _ _ t1067 _ _ t1070 true _ ?side1 ?side2 ?side3 ?side4 A4.out).mono ?_); (case side1 => repeat (first | exact (Kd.R_reads' HO1069.out).2.2 | (with_reducible refine Kd.C_alloc ?_ _) | (with_reducible refine Kd.C_drewN ?_ _) | (with_reducible refine Kd.C_drew ?_))); (case side2 => exact (Kd.R_reads' HO1069.out).2.1); (case side3 => repeat (first | exact (Kd.R_reads' HO1072.out).2.2 | (with_reducible refine Kd.C_alloc ?_ _) | (with_reducible refine Kd.C_drewN ?_ _) | (with_reducible refine Kd.C_drew ?_))); (case side4 => exact (Kd.R_reads' HO1072.out).2.1); rintro e w' ⟨rfl, ⟨nd, rfl⟩⟩; refine ⟨_, rfl, ?_⟩) | (go_at_call 23; (with_reducible refine (vellumlaw02_awake.calls k  t1074 _ (Glob.below HG.out (bl HB)) A6.out).mono ?_); rintro e w11 ⟨rfl, hb⟩; have n0_ := am (Kd.R_below (Kd.rr HO1069.out) hb); have n1_ := am (Kd.R_below (Kd.rr HO1072.out) hb); have n2_ := sb HB hb; clear HO1069; clear HO1072; clear HB; have HO1069 := n0_; have HO1072 := n1_; have HB := n2_; clear n0_ n1_ n2_; (try clear hb); (try clear hb2 hk hi)))
    go_ret
    exact ⟨er, bl HB⟩
  · replace c5 := Bool.eq_false_iff.mpr c5
    subst c5
    have H1 : (some false) = some r := by rw [if_neg (show ¬ (false = true) by decide)] at H; exact H
    clear H
    have H := H1
    clear H1
    obtain rfl := Option.some.inj H
    go_enter Tryd.func10, Tryd.ntmps10
    go_wp2_with (first | ((with_reducible refine gate_callee (f := 49) rfl ?_); refine goesL_ (some 4) rfl rfl Tryd.func49 (by kernel_rfl) rfl #[.slice A0 l0.length c0] rfl ar ?_; (with_reducible refine (code_Union.calls _ _ l0 t1067 _ ?side1 HC0.out A2.out).mono ?_); (case side1 => repeat (first | exact HR0.out | (with_reducible refine Kd.C_alloc ?_ _) | (with_reducible refine Kd.C_drewN ?_ _) | (with_reducible refine Kd.C_drew ?_))); rintro e w12 ⟨v1068, rfl, ho0, hb⟩; refine ⟨_, rfl, ?_⟩; have n0_ := am (Kd.R_lower ho0 (below_size (bl HB))); have n1_ := sb HB hb; clear HB; have HO1069 := n0_; have HB := n1_; clear n0_ n1_; (try clear hb); (try clear hb2 hk hi); (try clear ho0)) | ((with_reducible refine gate_callee (f := 50) rfl ?_); refine goesL_ (some 6) rfl rfl Tryd.func50 (by kernel_rfl) rfl #[.slice A0 l0.length c0] rfl ar ?_; (with_reducible refine (vellumref02_Union.calls k _ _ l0 t1070 _ (Kd.cb HR0 HB) HC0.out A3.out).mono ?_); rintro e w13 ⟨v1071, rfl, ho0, hb⟩; refine ⟨_, rfl, ?_⟩; have n0_ := am (Kd.R_elder' (Kd.rr HO1069.out) (Kd.R_base ho0) hb); have n1_ := am (Kd.R_lower (Kd.R_new' ho0 (Kd.R_lt (Kd.rr HO1069.out))) (below_size (bl HB))); have n2_ := sb HB hb; clear HO1069; clear HB; have HO1069 := n0_; have HO1072 := n1_; have HB := n2_; clear n0_ n1_ n2_; (try clear hb); (try clear hb2 hk hi); (try clear ho0); obtain ⟨Ao14, co14, eo14⟩ := Kd.R_slice HO1069.out; subst eo14; obtain ⟨Ao15, co15, eo15⟩ := Kd.R_slice HO1072.out; subst eo15) | ((with_reducible refine gate_callee (f := 48) rfl ?_); refine goesL_ (some 7) rfl rfl Tryd.func48 (by kernel_rfl) rfl #[.slice Ao14 t1067.length co14, .slice Ao15 t1070.length co15] rfl ar ?_; (with_reducible refine (vellumref02_Same.calls k _ _ t1067 _ _ t1070 false _ ?side1 ?side2 ?side3 ?side4 A4.out).mono ?_); (case side1 => repeat (first | exact (Kd.R_reads' HO1069.out).2.2 | (with_reducible refine Kd.C_alloc ?_ _) | (with_reducible refine Kd.C_drewN ?_ _) | (with_reducible refine Kd.C_drew ?_))); (case side2 => exact (Kd.R_reads' HO1069.out).2.1); (case side3 => repeat (first | exact (Kd.R_reads' HO1072.out).2.2 | (with_reducible refine Kd.C_alloc ?_ _) | (with_reducible refine Kd.C_drewN ?_ _) | (with_reducible refine Kd.C_drew ?_))); (case side4 => exact (Kd.R_reads' HO1072.out).2.1); rintro e w' ⟨rfl, ⟨nd, rfl⟩⟩; refine ⟨_, rfl, ?_⟩))
    go_ret
    exact ⟨er, bl HB⟩
end Go.Proofs.YtpiifdbicibelaaDoor.PA
end
section
namespace Go.Proofs.YtpiifdbicibelaaDoor.Pure
open Go.RowKit Go.Proofs Go.Proofs.YtpiifdbicibelaaDoorW.PrintWords Go.Proofs.YtpiifdbicibelaaDoorW.PrintLast Go.Proofs.YtpiifdbicibelaaDoorW.PrintMore Go.Proofs.YtpiifdbicibelaaDoor.PA Go.Proofs.YtpiifdbicibelaaDoor.OpenK
set_option linter.unusedVariables false
set_option linter.unusedSimpArgs false
theorem CodeUnites (l0 : List S32) (h0_ : l0.length * 40 ≤ 140737488351232 ∧ ∀ y ∈ l0, wf32 y) : ∃ k, vellumlaw02_CodeUnites.f k l0 = some true := by
  have h0 := h0_.1
  have hun : code_Union.f l0 = some (PU.unionR l0) := by unfold code_Union.f; exact if_pos (by omega)
  have hul : (PU.unionR l0).length ≤ l0.length := by
    have h2 := fold_len (PU.sortR (PU.neR l0)) []
    have h3 := (PU.sortR_perm (PU.neR l0)).length_eq
    have h4 : (PU.neR l0).length ≤ l0.length := List.length_filter_le _ _
    have h5 : PU.unionR l0 = (PU.sortR (PU.neR l0)).foldl PU.stepU [] := rfl
    rw [h5]
    simp only [List.length_nil] at h2
    omega
  have hru : Ev (fun k => vellumref02_Union.f k l0) (PU.unionR l0) := Ev.from_ 0 fun k => hun
  refine Ev.ex ?_
  simp only [vellumlaw02_CodeUnites.f, hun, Option.bind_some]
  exact Ev.bind hru (Ev.bind (same32_self _ (by omega)) (Ev.pos rfl (Ev.bind awake_ev Ev.pure)))
end Go.Proofs.YtpiifdbicibelaaDoor.Pure
end
section
namespace Go.Proofs.YtpiifdbicibelaaDoor
open Go.RowKit
theorem main_ : Tryd.pinned.checked.prog.mainIs = some (true, "409e20a6319c123f59629b35fea50f486835097bfbed967dc062cdc0fc9eff79".toList) := by kernel_rfl
theorem looks_ : false = Tryd.prog.looks [] := by kernel_rfl
end Go.Proofs.YtpiifdbicibelaaDoor
end
section
namespace Go.Proofs.YtpiifdbicibelaaDoor.codeUnites
open Go.ChangeShapes Go.WideShapes Go.ChangeAt Go.RowKit Go.Proofs.YtpiifdbicibelaaDoorW.PrintWords Go.Proofs.YtpiifdbicibelaaDoor.PA Go.Proofs.YtpiifdbicibelaaDoor.OpenK Go.Proofs.YtpiifdbicibelaaDoor.Pure
open Go.ChangeMaps (open_string shut_string)
set_option linter.unusedVariables false
theorem walk {H : Type} {enc : TypeId × Value → H} (W : World) (base : Nat) (args : Array Value) (ds : List (DataW H)) (ps : List MemPlace) (hA0 : DataW.TrodAll enc Tryd.prog W 0 (fun _ => true) true Tryd.f10.params.toList args.toList ds ps)
    (hw0 : (DataW.weightsEach Tryd.prog Tryd.f10.params.toList ds).all (· ≤ reachBytes) = true) (hval0 : ∀ (j : Nat) t v, Tryd.f10.params[j]? = some t → args[j]? = some v → Value.okWide Tryd.prog W .any base t v) (hG : Glob W) :
    Calls Tryd.prog 10 args W fun e W' => e = .returned (.bool true) ∧ Below W.heap.size W W' := by
  have hval : ∀ (j : Nat) t v, Tryd.f10.params[j]? = some t → args[j]? = some v → Value.okWide Tryd.prog W .any base t v := @hval0
  have hA : DataW.TrodAll enc Tryd.prog W 0 (fun _ => true) true Tryd.f10.params.toList args.toList ds ps := hA0
  have hw : (DataW.weightsEach Tryd.prog Tryd.f10.params.toList ds).all (· ≤ reachBytes) = true := hw0
  rw [Tryd.params10] at hA hval hw
  clear hA0 hw0 hval0
  obtain ⟨v0, vs0, d0, ds0, p0, q0, hargs, rfl, rfl, h0, r0⟩ := trodAll_cons hA
  obtain ⟨rfl, rfl, rfl⟩ := trodAll_nil r0
  obtain rfl : args = #[v0] := by cases args; simp_all
  simp only [DataW.weightsEach, all_append_iff] at hw
  obtain ⟨hw0, _⟩ := hw
  obtain ⟨a0, len0, cap0, rfl⟩ := arg_slice (j := 0) @hval rfl rfl Tryd.underlying53
  obtain ⟨fuel0, hf0⟩ := h0
  obtain ⟨l0, ⟨A0, c0, he0, hl0, hC0⟩, wf0_⟩ := (Opn.slice Tryd.underlying53 opn32 (by kernel_rfl) (by kernel_rfl)) hf0 hw0
  simp [Value.cells] at he0
  obtain ⟨rfl, rfl, rfl⟩ := he0
  obtain ⟨k, h⟩ := CodeUnites l0 wf0_
  refine (vellumlaw02_CodeUnites.calls k _ _ l0 true W hC0 hl0 hG h).mono ?_
  rintro e W' ⟨rfl, hd⟩
  exact ⟨rfl, hd⟩
theorem witness_row (os : Os) {H : Type} (enc : TypeId × Value → H) :
    (OpenSpec.ofChange Rows.codeUnitesSpec).preRow enc Tryd.prog Tryd.f10 [] false laidList ((laidWorld os).forCall (fun _ _ => 0) ⟨#[], #[.slice none 0 0], []⟩).memory #[.slice none 0 0] := by
  have hw : (DataW.whole enc Tryd.prog ((laidWorld os).forCall (fun _ _ => 0) ⟨#[], #[.slice none 0 0], []⟩).memory Tryd.f10.params.toList (OpenSpec.ofChange Rows.codeUnitesSpec).vars false (#[.slice none 0 0] : Array Value).toList 8).map (fun x => (x.1, x.2.1)) = some ([.nil], []) := by kernel_rfl
  obtain ⟨⟨x1, x2, x3⟩, hx, hx1⟩ := Option.map_eq_some_iff.1 hw
  simp only [Prod.mk.injEq] at hx1
  obtain ⟨rfl, rfl⟩ := hx1
  exact OpenSpec.preRow_of_cond 8 hx (by kernel_rfl) (fun k hk => by cases hk) (by kernel_rfl) (laid_met os _)
theorem ends {os : Os} (started : os.Started) {H : Type} {enc : TypeId × Value → H} {F : Stop.Interp} : ReturnsInHanded { modest := false } Tryd.checked os 10 .any ((OpenSpec.ofChange Rows.codeUnitesSpec).preRow enc Tryd.prog Tryd.f10 [] false laidList) (((OpenSpec.ofChange Rows.codeUnitesSpec).at F).post enc Tryd.prog Tryd.f10 false true false false) :=
  law_lifted (spec := Rows.codeUnitesSpec) Tryd.func10 (by kernel_rfl) (tb := 4) rfl Tryd.underlying4 (by kernel_rfl) rfl
    (fun H ds hl => by
      match ds, hl with
      | [_], _ => rfl) started
    (witness_row_atRef (enc := enc) (C := Tryd.checked) false (laidWorld os) #[.slice none 0 0] rfl (by kernel_rfl) (by kernel_rfl) (by kernel_rfl) (witness_row os enc))
    (fun W base args ds ps hA hw hval hG => walk W base args ds ps hA hw @hval hG)
theorem inPlace_ : Tryd.prog.inPlace 10 = Rows.codeUnitesRow.inPlace := by kernel_rfl
theorem unfollowed_ : Tryd.prog.unfollowed 10 = Rows.codeUnitesRow.unfollowed := by kernel_rfl
theorem recurses_ : Tryd.prog.recurses 10 = Rows.codeUnitesRow.recurses := by kernel_rfl
theorem named_ : Tryd.prog.varsNamed 10 = Rows.codeUnitesRow.named := by kernel_rfl
theorem closed : joinedFacts Tryd.prog 10 Tryd.f10 (OpenSpec.ofChange Rows.codeUnitesSpec).bare Rows.codeUnitesRow = true := by
  unfold joinedFacts
  rw [laidOut, mapsRowed_, stops_, stopKnobs_, plainKeys_, stopsHeard_, mayEnter_, lifts_, make_, inPlace_, unfollowed_, recurses_, named_]
  kernel_rfl
set_option maxRecDepth 100000 in
theorem over : Rows.codeUnitesRow.holds Tryd.pinned (OpenSpec.ofChange Rows.codeUnitesSpec) :=
  OpenClaim.holds_of_cond 10 Tryd.f10 rfl rfl rfl rfl rfl rfl rfl ⟨rfl, rfl, rfl, rfl, rfl⟩ rfl rfl rfl rfl rfl (by kernel_rfl) Tryd.func10 closed
    (of_decide_eq_true (by kernel_rfl)) (by unfold Func.isWrapper; rw [if_neg (of_decide_eq_false (by kernel_rfl))]; exact ⟨rfl, rfl⟩)
    (fun os started H enc _ F => by
      rw [OpenClaim.pre_eq_preRow]
      exact ends started)
theorem goes_ : false = Rows.codeUnitesRow.goesBy Tryd.prog := by kernel_rfl
theorem fnamed_ : Tryd.prog.funcNamed "vellum/vellumlaw02.CodeUnites" = some 10 := by kernel_rfl
theorem card : Rows.CodeUnitesCardSaid :=
  Claim7.holds_tied_plain_at .later [] [.data, .pinned] true (true, "409e20a6319c123f59629b35fea50f486835097bfbed967dc062cdc0fc9eff79") false
    over (fun _ h => by cases h) (by kernel_rfl) (fun _ h => by cases h) codeUnites_row_tie rfl ⟨rfl, rfl⟩ main_ rfl
    (fun f fn hf hfn => by
      obtain rfl : f = 10 := Option.some.inj (fnamed_.symm.trans hf) |>.symm
      obtain rfl : fn = Tryd.f10 := (Option.some.inj (Tryd.func10.symm.trans hfn)).symm
      exact ⟨looks_, fun j t ht => by
        rw [Tryd.params10] at ht
        have h3 : t ∈ [53] := by
          have := List.mem_of_getElem? (l := [53]) (i := j) (by simpa using ht)
          exact this
        have h4 : ∀ t ∈ [53], Tryd.prog.wantsStandIn t = false := by
          intro t ht
          simp only [List.mem_cons, List.mem_nil_iff, or_false] at ht
          rcases ht with rfl
          all_goals kernel_rfl
        exact h4 t h3⟩)
    goes_
end Go.Proofs.YtpiifdbicibelaaDoor.codeUnites
namespace Go.Proofs.YtpiifdbicibelaaDoor
theorem codeUnites_holds : Rows.CodeUnitesCardSaid := codeUnites.card
end Go.Proofs.YtpiifdbicibelaaDoor
end
