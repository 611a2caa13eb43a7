/- SetsNorms: the law returns true at every input, and its arguments read as before. Conditions: as the row has them. -/
import Derived.Test.YtldlenjfpjihdaaGreatKSetsNorms4
section
namespace Go.Proofs.YtldlenjfpjihdaaGreat.PU
open Go.Proofs.YtldlenjfpjihdaaGreat.PS
set_option linter.unusedVariables false
set_option linter.unusedSimpArgs false
def refStep (out : List S44) (r : S44) : List S44 :=
 match out.getLast? with
 | none => [r]
 | some l =>
  if l.f2 = false ∧ bs l.f1 < bs r.f0 then out ++ [r]
  else if r.f2 = true ∨ (l.f2 = false ∧ bs l.f1 < bs r.f1) then out.dropLast ++ [⟨l.f0, r.f1, r.f2⟩]
  else out
theorem refStep_clean (out : List S44) (r : S44) : (refStep out r).map cleanR = stepU (out.map cleanR) r := by
 rcases List.eq_nil_or_concat out with rfl | ⟨o, l, rfl⟩
 ·rfl
 ·unfold refStep stepU
  rw [List.concat_eq_append, List.map_append, List.map_cons, List.map_nil, List.getLast?_concat, List.getLast?_concat, List.dropLast_concat, List.dropLast_concat]
  cases hl : l.f2 with
  | true =>
   have hc : cleanR l = ⟨l.f0, mt, true⟩ := by simp [cleanR, hl]
   cases hr : r.f2 with
   | true => simp [hc, hl, hr, cleanR]
   | false => simp [hc, hl, hr, cleanR]
  | false =>
   have hc : cleanR l = l := by simp [cleanR, hl]
   by_cases h1 : bs l.f1 < bs r.f0
   ·have h3 : bs (cleanR l).f1 < bs (cleanR r).f0 := by rw [hc, cleanR_f0]; exact h1
    dsimp only
    rw [if_pos ⟨hl, h1⟩, if_neg (by rw [hc, hl]; decide), if_pos h3, List.map_append, List.map_append]
    rfl
   ·cases hr : r.f2 with
    | true => simp [hc, hl, hr, h1, cleanR]
    | false =>
     have hcr : cleanR r = r := by simp [cleanR, hr]
     by_cases h2 : bs l.f1 < bs r.f1
     ·have hm : Go.Lib.maxS l.f1 r.f1 = r.f1 := if_pos h2
      simp [hc, hl, hr, h1, h2, hm, cleanR]
     ·have hm : Go.Lib.maxS l.f1 r.f1 = l.f1 := if_neg h2
      have he : (⟨l.f0, l.f1, false⟩ : S44) = l := by cases l; cases hl; rfl
      simp [hc, hl, hr, h1, h2, hm, cleanR, he]
theorem refFold_clean : ∀ (L out : List S44), (L.foldl refStep out).map cleanR = L.foldl stepU (out.map cleanR)
 | [], out => rfl
 | r :: L, out => by
  rw [List.foldl_cons, List.foldl_cons, refFold_clean L (refStep out r), refStep_clean]
theorem refStep_len (out : List S44) (r : S44) : (refStep out r).length ≤ out.length + 1 := by
 rcases List.eq_nil_or_concat out with rfl | ⟨o, l, rfl⟩
 ·simp [refStep]
 ·unfold refStep
  rw [List.concat_eq_append, List.getLast?_concat, List.dropLast_concat]
  simp only
  split
  ·simp
  ·split <;> simp
theorem refFold_len : ∀ (L out : List S44), (L.foldl refStep out).length ≤ out.length + L.length
 | [], out => by simp
 | a :: l, out => by
  have h1 := refFold_len l (refStep out a)
  have h2 := refStep_len out a
  simp only [List.foldl_cons, List.length_cons]
  omega
theorem sunk_sorted {P : List S44} {x : S44} {j : Nat} (hs : sortedR P) (hj : j ≤ P.length) (h1 : ∀ y ∈ P.drop j, bs x.f0 < bs y.f0) (h2 : ∀ y, j ≠ 0 → P[j - 1]? = some y → ¬ bs x.f0 < bs y.f0) : sortedR (P.take j ++ x :: P.drop j) := by
 have hp : sortedR (P.take j ++ P.drop j) := by rw [List.take_append_drop]; exact hs
 unfold sortedR at hp ⊢
 rw [List.pairwise_append] at hp ⊢
 have hlow : ∀ y ∈ P.take j, ¬ bs x.f0 < bs y.f0 := by
  intro y hy
  obtain ⟨t, ht, rfl⟩ := List.mem_take_iff_getElem.1 hy
  have ht' : t < j ∧ t < P.length := by omega
  have hlast := h2 P[j - 1] (by omega) (List.getElem?_eq_getElem (by omega))
  by_cases e : t = j - 1
  ·subst e; exact hlast
  ·have hk : keyLe P[t] P[j - 1] := (List.pairwise_iff_getElem.1 hs) t (j - 1) _ _ (by omega)
   unfold keyLe at hk
   exact fun h => by
    rcases lt_tri (bs P[t].f0) (bs P[j - 1].f0) with q | q | q
    ·exact hlast (List.lt_trans h q)
    ·rw [q] at h; exact hlast h
    ·exact hk q
 refine ⟨hp.1, List.pairwise_cons.2 ⟨fun y hy => ?_, hp.2.1⟩, ?_⟩
 ·exact fun h => lt_irrefl' _ (List.lt_trans h (h1 y hy))
 ·intro a ha b hb
  rcases List.mem_cons.1 hb with rfl | hb
  ·exact hlow a ha
  ·exact hp.2.2 a ha b hb
theorem sunk_perm (P : List S44) (x : S44) (j : Nat) : (P.take j ++ x :: P.drop j).Perm (P ++ [x]) := by
 have h1 : (P.take j ++ x :: P.drop j).Perm (x :: (P.take j ++ P.drop j)) := List.perm_middle
 rw [List.take_append_drop] at h1
 exact h1.trans (List.perm_append_comm (l₁ := [x]) (l₂ := P))
end Go.Proofs.YtldlenjfpjihdaaGreat.PU
end
section
namespace Go.Proofs.YtldlenjfpjihdaaGreat.PA
open Go.Proofs.YtldlenjfpjihdaaGreat.PS hiding below_step bs bless_eq
open Go.RowKit Go.Proofs Go.Proofs.YtldlenjfpjihdaaGreatW.PrintWords Go.Proofs.YtldlenjfpjihdaaGreatW.PrintLast Go.Proofs.YtldlenjfpjihdaaGreatW.PrintMore Go.Proofs.YtldlenjfpjihdaaGreat.PU
attribute [local go_sem] Go.Lib.run_max_strs Go.Lib.run_min_strs
set_option linter.unusedVariables false
set_option linter.unusedSimpArgs false
theorem rempty_rng (W : World) (x : S44) : Calls Tryz.prog 79 #[.agg #[.string x.f0, .string x.f1, .bool x.f2]] W fun e w' => e = .returned (.bool (emptyR x)) ∧ Below W.heap.size W w' := by
 have h : vellumref02_Empty.f x.f0 x.f1 x.f2 = some (emptyR x) := by
  unfold vellumref02_Empty.f emptyR
  rw [bless_eq]
  cases x.f2 <;> simp
 exact vellumref02_Empty.calls x.f0 x.f1 x.f2 _ W h
theorem rjoins_rng (W : World) (x y : S44) : Calls Tryz.prog 80 #[.agg #[.string x.f0, .string x.f1, .bool x.f2], .agg #[.string y.f0, .string y.f1, .bool y.f2]] W fun e w' => e = .returned (.bool (!(!x.f2 && decide (bs x.f1 < bs y.f0)))) ∧ Below W.heap.size W w' := by
 have h : vellumref02_joins.f x.f0 x.f1 x.f2 y.f0 y.f1 y.f2 = some (!(!x.f2 && decide (bs x.f1 < bs y.f0))) := by
  unfold vellumref02_joins.f
  rw [bless_eq]
  cases x.f2 <;> simp
 exact vellumref02_joins.calls x.f0 x.f1 x.f2 y.f0 y.f1 y.f2 _ W h
theorem put3s {w : World} {base g n cap : Nat} {xs : List S44} (h : Kd.R k44 44 w base (fun _ => True) (.slice (some ⟨g, 0, none⟩) n cap) xs) (i : Nat) (hi : i < xs.length) (y : S44) :
  Kd.R k44 44 (w.setCells g (i * 3) (enc44 y)) base (fun _ => True) (.slice (some ⟨g, 0, none⟩) n cap) (xs.set i y) := by
 obtain ⟨rfl, hg, hn, hm, hr, cur, hh, hs⟩ := own3_parts h
 obtain ⟨cur', h1, h2⟩ : ∃ cur' : Array Value, (w.setCells g (i * 3) (enc44 y)).heap[g]? = some (.cells cur' 44 (0, 0)) ∧ cur'.size = cur.size := by
  refine ⟨_, Go.Lib.heap_setCell_same (i := i * 3 + 1 + 1) (Go.Lib.heap_setCell_same (i := i * 3 + 1) (Go.Lib.heap_setCell_same (i := i * 3) hh (.string y.f0)) (.string y.f1)) (.bool y.f2), by simp⟩
 have := own3_mk (xs := xs.set i y) hg (by rw [List.length_set]; exact hn) hm (hr.set i hi y) h1 (by rw [h2]; exact hs)
 rwa [List.length_set] at this
theorem app3h {ops : Array Oper} {rest : List Oper} {o : Oper} {a : Act} {Q : Exit → Act → World → Prop} {w0 W : World} {base n0 : Nat} (hgd : o.guard = none) (s x : Operand) (ho : o.op = .call { callee := .builtin .append, args := #[s, x], argTypes := #[70, 70] })
  (v : Value) (xs : List S44) (p : S44) (hs : a.eval s = v) (hx : a.eval x = .slice (some ⟨n0, 0, none⟩) 1 1) (hn0 : n0 = W.heap.size)
  (HO : Kd.R k44 44 W base (fun _ => True) v xs) (HB : Below base w0 W) (hbase : base ≤ W.heap.size) (hl : (xs.length + 1) * 40 ≤ 140737488355328)
  (h : ∀ g c w1, Kd.R k44 44 w1 base (fun _ => True) (.slice (some ⟨g, 0, none⟩) (xs.length + 1) c) (xs ++ [p]) → Below base w0 w1 → wpList Tryz.prog ops Q rest (a.put o.dst (.slice (some ⟨g, 0, none⟩) (xs.length + 1) c)) w1) :
  wpList Tryz.prog ops Q (o :: rest) a (W.alloc (.cells (enc44 p).toArray 44)) := by
 refine app3 hgd s x ho v xs p hs hx hn0 HO HB hbase hl ?_
 intro v1 w1 hR hB
 obtain ⟨g, c, rfl⟩ := own3_head hR (by simp)
 have e : (xs ++ [p]).length = xs.length + 1 := by simp
 rw [e] at hR ⊢
 exact h g c w1 hR hB
theorem sink_list (P : List S44) (x y : S44) (j : Nat) (hj : P[j]? = some y) : ((P.take (j + 1) ++ x :: P.drop (j + 1)).set (j + 1) y).set j x = P.take j ++ x :: P.drop j := by
 have hlt := (List.getElem?_eq_some_iff.1 hj).1
 have e1 : P.take (j + 1) = P.take j ++ [y] := by rw [List.take_add_one, hj]; rfl
 have e2 : P.drop j = y :: P.drop (j + 1) := by rw [List.drop_eq_getElem_cons hlt, (List.getElem?_eq_some_iff.1 hj).2]
 have hl : (P.take j).length = j := by rw [List.length_take]; omega
 rw [e1, e2, List.append_assoc, List.set_append_right (h := by omega), hl, show j + 1 - j = 1 by omega]
 rw [List.set_append_right (h := by omega), hl, Nat.sub_self]
 rfl
theorem neR_take (l : List S44) (i : Nat) (y : S44) (h : l[i]? = some y) : neR (l.take (i + 1)) = neR (l.take i) ++ (if emptyR y = true then [] else [y]) := by
 unfold neR
 rw [List.take_add_one, h, List.filter_append]
 cases e : emptyR y <;> simp [e]
def uni50T16 : Bool × List (List Nat × List Nat) := (true, [([], []), ([0], [0]), ([1], [1]), ([2], [2]), ([2], [2]), ([3, 4, 2], [2, 3, 4]), ([5, 2], [2, 5]), ([2], [2]), ([2], [2]), ([7, 8, 2], [2, 7, 8]), ([9, 2], [2, 9]), ([6, 10, 2, 2], [2, 6, 10]), ([11, 2], [2, 11]), ([2, 12], [2, 12])])
def uni50B16 : List Nat := [0, 1, 3, 7, 7, 31, 63, 7, 7, 391, 903, 2047, 4095, 8191]
theorem uni50tab16 : rtab .any (opsOf Tryz.f57 16) = uni50T16 := by kernel_rfl
theorem uni50bits16 : waitsOk uni50T16.2 uni50B16 = true := by kernel_rfl
theorem clean_set (L : List S44) (k : Nat) (y : S44) (h : L[k]? = some y) : ((L.take k).map cleanR ++ L.drop k).set k (cleanR y) = (L.take (k + 1)).map cleanR ++ L.drop (k + 1) := by
 have hlt := (List.getElem?_eq_some_iff.1 h).1
 have hl : ((L.take k).map cleanR).length = k := by rw [List.length_map, List.length_take]; omega
 rw [List.set_append_right (h := by omega), hl, Nat.sub_self, List.drop_eq_getElem_cons hlt, List.set_cons_zero, List.take_add_one, h, List.map_append]
 simp
theorem clean_same (L : List S44) (k : Nat) (y : S44) (h : L[k]? = some y) (hc : cleanR y = y) : (L.take (k + 1)).map cleanR ++ L.drop (k + 1) = (L.take k).map cleanR ++ L.drop k := by
 have hlt := (List.getElem?_eq_some_iff.1 h).1
 have he : L[k] = y := (List.getElem?_eq_some_iff.1 h).2
 rw [List.drop_eq_getElem_cons hlt, List.take_add_one, h, List.map_append, he]
 simp [hc]
theorem clean_at (L : List S44) (k : Nat) (y : S44) (h : L[k]? = some y) : ((L.take k).map cleanR ++ L.drop k)[k]? = some y := by
 have hlt := (List.getElem?_eq_some_iff.1 h).1
 have hl : ((L.take k).map cleanR).length = k := by rw [List.length_map, List.length_take]; omega
 rw [List.getElem?_append_right (by omega), hl, Nat.sub_self, List.drop_eq_getElem_cons hlt]
 simpa using h
theorem clean_len (L : List S44) (k : Nat) : ((L.take k).map cleanR ++ L.drop k).length = L.length := by
 rw [List.length_append, List.length_map, List.length_take, List.length_drop]; omega
set_option maxHeartbeats 8000000 in
set_option maxRecDepth 100000 in
theorem runion_any (l0 : List S44) (A0 : Option Addr) (c0 : Nat) (w : World) (hC : Kd.C k44 w A0 l0.length l0) (hl : l0.length * 40 ≤ 140737488355328) :
  Calls Tryz.prog 57 #[.slice A0 l0.length c0] w fun e w' => ∃ v, e = .returned v ∧ Kd.R k44 44 w' w.heap.size (fun _ => True) v (unionR l0) ∧ Below w.heap.size w w' := by
 have HC := Aside0.mk hC
 clear hC
 go_enter Tryz.func57, Tryz.ntmps57
 go_wp2
 go_loopg [3, 4, 5] l0.length (fun gg s3 s4 s5 wr => ∃ (i : Nat) (P : List S44), s4 = .int .i64 i ∧ i ≤ l0.length ∧ Aside0 (l0.length - i ≤ gg) ∧ Aside0 (P.Perm (neR (l0.take i)) ∧ sortedR P) ∧ P.length ≤ i ∧ Aside0 (Kd.R k44 44 wr w.heap.size (fun _ => True) s3 P) ∧ Aside0 (Below w.heap.size w wr))
 case atStart => exact ⟨0, [], rfl, Nat.zero_le _, ⟨by omega⟩, ⟨List.Perm.refl _, List.Pairwise.nil⟩, Nat.le_refl _, ⟨Kd.R_nil _ _ _ _ _⟩, ⟨Below.refl _ _⟩⟩
 case round =>
  obtain ⟨i, P, rfl, hi, HM, HP, hPl, HO, HB⟩ := hrel
  by_cases hlt : i < l0.length
  ·have hltz : (i : Int) < (l0.length : Int) := by omega
   obtain ⟨y, hy⟩ : ∃ y, l0[i]? = some y := ⟨_, List.getElem?_eq_getElem hlt⟩
   obtain ⟨ad, e, hx0, hx1, hx2⟩ := at_T44 HC.out (i : Int) (by omega) hltz
   subst e
   simp only [Int.toNat_natCast] at hx0 hx1 hx2
   have hrd : rd_T44 l0 (i : Int) = y := by unfold rd_T44; simp [List.getD, hy]
   rw [hrd] at hx0 hx1 hx2
   have HX := Aside0.mk (And.intro hx0 (And.intro hx1 hx2))
   replace hx0 := (HB.out.cell (World.block_lt_of_cell? w _ hx0)).trans hx0
   replace hx1 := (HB.out.cell (World.block_lt_of_cell? w _ hx1)).trans hx1
   replace hx2 := (HB.out.cell (World.block_lt_of_cell? w _ hx2)).trans hx2
   have HN := Aside0.mk (neR_take l0 i y hy)
   clear hrd hy
   have hcall := rempty_rng wr y
   cases hq : emptyR y with
   | true =>
    rw [hq] at hcall
    go_wp2_with (go_at_call 79; refine hcall.mono ?_; rintro e w' ⟨rfl, hb'⟩)
    go_roundg (l0.length - (i + 1))
    case measure => have := HM.out; omega
    case rel => exact ⟨i + 1, P, by go_num, hlt, ⟨Nat.le_refl _⟩, ⟨by rw [HN.out, if_pos hq, List.append_nil]; exact HP.out.1, HP.out.2⟩, by omega, ⟨Kd.R_below HO.out hb'⟩, ⟨below_step HB.out hb'⟩⟩
   | false =>
    rw [hq] at hcall
    have hwi : True → wrap64 (((P.length + 1 : Nat) : Int) - 1) = (P.length : Int) := fun _ => by rw [Go.IntWalk.wrap64_in _ (by omega)]; omega
    replace hwi := hwi trivial
    have hl40 : (P.length + 1) * 40 ≤ 140737488355328 := by omega
    go_wp2_with (first | (go_at_call 79; refine hcall.mono ?_; rintro e w' ⟨rfl, hb'⟩; have HO1 := Aside0.mk (Kd.R_below HO.out hb'); have HB1 := Aside0.mk (below_step HB.out hb'); have hz1 := Aside0.mk hb'.size; obtain ⟨hx0, hx1, hx2⟩ := HX.out; replace hx0 := (HB1.out.cell (World.block_lt_of_cell? w _ hx0)).trans hx0; replace hx1 := (HB1.out.cell (World.block_lt_of_cell? w _ hx1)).trans hx1; replace hx2 := (HB1.out.cell (World.block_lt_of_cell? w _ hx2)).trans hx2; clear hb') | ((with_reducible refine gate_builtin (b := .append) (xs := #[.tmp 21, .tmp 26]) rfl ?_); at_builtin; refine app3h (w0 := w) (base := w.heap.size) rfl (.tmp 21) (.tmp 26) rfl _ P y rfl rfl rfl HO1.out HB1.out HB1.out.size hl40 ?_; intro g c w4 ho hb; have HO4 := Aside0.mk ho; have HB4 := Aside0.mk hb; clear ho hb))
    go_loopg [5] P.length (fun gg s5 wi => ∃ j : Nat, s5 = .int .i64 j ∧ j ≤ P.length ∧ Aside0 (j ≤ gg) ∧ Aside0 (∀ x ∈ P.drop j, bs y.f0 < bs x.f0) ∧ Aside0 (Kd.R k44 44 wi w.heap.size (fun _ => True) (.slice (some ⟨g, 0, none⟩) (P.length + 1) c) (P.take j ++ y :: P.drop j)) ∧ Aside0 (Below w.heap.size w wi))
    case atStart => exact ⟨P.length, by go_num, Nat.le_refl _, ⟨Nat.le_refl _⟩, ⟨fun x hx => by rw [List.drop_length] at hx; cases hx⟩, ⟨by rw [List.take_length, List.drop_length]; exact HO4.out⟩, ⟨HB4.out⟩⟩
    case round =>
     obtain ⟨j, rfl, hj, HM5, HD, HO5, HB5⟩ := hrel
     rcases Nat.eq_zero_or_pos j with rfl | hj0
     ·go_wp2
      repeat (go_quiet (fail); try go_wp2)
      go_roundg (l0.length - (i + 1))
      case measure => have := HM.out; omega
      case rel => exact ⟨i + 1, P.take 0 ++ y :: P.drop 0, by go_num, hlt, ⟨Nat.le_refl _⟩, ⟨by rw [HN.out, if_neg (by rw [hq]; decide)]; exact (sunk_perm P y 0).trans (List.Perm.append_right [y] HP.out.1), sunk_sorted HP.out.2 hj HD.out (fun x hx => absurd rfl hx)⟩, by simp; omega, ⟨Kd.R_drewN HO5.out nq⟩, ⟨pw_below_drewN HB5.out nq⟩⟩
     ·obtain ⟨j, rfl⟩ : ∃ t, j = t + 1 := ⟨j - 1, by omega⟩
      obtain ⟨x, hx⟩ : ∃ x, P[j]? = some x := ⟨_, List.getElem?_eq_getElem (by omega)⟩
      have hR := (own3_parts HO5.out).2.2.2.2.1
      have hlt1 : (P.take (j + 1)).length = j + 1 := by rw [List.length_take]; omega
      have hm1 : (P.take (j + 1) ++ y :: P.drop (j + 1))[j + 1]? = some y := by rw [List.getElem?_append_right (by omega), hlt1, Nat.sub_self]; rfl
      have hm0 : (P.take (j + 1) ++ y :: P.drop (j + 1))[j]? = some x := by rw [List.getElem?_append_left (by omega), List.getElem?_take, if_pos (by omega)]; exact hx
      obtain ⟨ax0, ax1, ax2, bx0, bx1, bx2⟩ := hR.at0 hm1
      obtain ⟨dx0, dx1, dx2, gx0, gx1, gx2⟩ := hR.at0 hm0
      have HX2 := Aside0.mk hx
      clear hR hm1 hm0 hlt1 hx
      have hk1 : True → wrap64 (((j + 1 : Nat) : Int) - 1) = (j : Int) := fun _ => by rw [Go.IntWalk.wrap64_in _ (by omega)]; omega
      replace hk1 := hk1 trivial
      have hr1 : ((j + 1 : Nat) : Int) < ((P.length + 1 : Nat) : Int) := by omega
      have hr0 : (j : Int) < ((P.length + 1 : Nat) : Int) := by omega
      have hpos : ((j + 1 : Nat) : Int) > 0 := by omega
      by_cases hc : bs y.f0 < bs x.f0
      ·have hcm : Op.bytesLess y.f0.toList x.f0.toList = true := by rw [bless_eq]; exact decide_eq_true hc
       go_wp2
       have hd00 : ((j + 1) * 3 = j * 3) = False := eq_false (by omega)
       have hd01 : ((j + 1) * 3 = j * 3 + 1) = False := eq_false (by omega)
       have hd02 : ((j + 1) * 3 = j * 3 + 2) = False := eq_false (by omega)
       have hd10 : ((j + 1) * 3 + 1 = j * 3) = False := eq_false (by omega)
       have hd11 : ((j + 1) * 3 + 1 = j * 3 + 1) = False := eq_false (by omega)
       have hd12 : ((j + 1) * 3 + 1 = j * 3 + 2) = False := eq_false (by omega)
       have hd20 : ((j + 1) * 3 + 2 = j * 3) = False := eq_false (by omega)
       have hd21 : ((j + 1) * 3 + 2 = j * 3 + 1) = False := eq_false (by omega)
       have hd22 : ((j + 1) * 3 + 2 = j * 3 + 2) = False := eq_false (by omega)
       repeat (go_quiet (fail); try go_wp2)
       go_region
       go_wp2
       have hge := (own3_parts HO5.out).2.1
       have hdj : P.drop j = x :: P.drop (j + 1) := by
        have hjl := (List.getElem?_eq_some_iff.1 HX2.out).1
        rw [List.drop_eq_getElem_cons hjl, (List.getElem?_eq_some_iff.1 HX2.out).2]
       have hML : (P.take (j + 1) ++ y :: P.drop (j + 1)).length = P.length + 1 := by simp; omega
       have hO6 := put3s (put3s (Kd.R_drewN HO5.out (nq + 1)) (j + 1) (by rw [hML]; omega) x) j (by rw [List.length_set, hML]; omega) y
       rw [sink_list P y x j HX2.out] at hO6
       have hB6 := below_sets hge (enc44 y) (j * 3) (below_sets hge (enc44 x) ((j + 1) * 3) (pw_below_drewN HB5.out (nq + 1)))
       go_roundg j
       case measure => have := HM5.out; omega
       case rel => exact ⟨j, rfl, by omega, ⟨Nat.le_refl _⟩, ⟨fun z hz => by rw [hdj] at hz; rcases List.mem_cons.1 hz with rfl | hz; exact hc; exact HD.out z hz⟩, ⟨hO6⟩, ⟨hB6⟩⟩
      ·have hcm : Op.bytesLess y.f0.toList x.f0.toList = false := by rw [bless_eq]; exact decide_eq_false hc
       go_wp2
       repeat (go_quiet (fail); try go_wp2)
       go_roundg (l0.length - (i + 1))
       case measure => have := HM.out; omega
       case rel => exact ⟨i + 1, P.take (j + 1) ++ y :: P.drop (j + 1), by go_num, hlt, ⟨Nat.le_refl _⟩, ⟨by rw [HN.out, if_neg (by rw [hq]; decide)]; exact (sunk_perm P y (j + 1)).trans (List.Perm.append_right [y] HP.out.1), sunk_sorted HP.out.2 hj HD.out (fun z _ hz => by rw [Nat.add_sub_cancel, HX2.out] at hz; obtain rfl := Option.some.inj hz; exact hc)⟩, by simp; omega, ⟨Kd.R_drewN HO5.out nq⟩, ⟨pw_below_drewN HB5.out nq⟩⟩
  ·obtain rfl : i = l0.length := by omega
   have hltz : ¬ (l0.length : Int) < (l0.length : Int) := by omega
   have hperm := HP.out.1
   rw [List.take_length] at hperm
   have HU := Aside0.mk (union_of hperm HP.out.2)
   have hfold := refFold_clean P []
   rw [List.map_nil, HU.out] at hfold
   have HF := Aside0.mk hfold
   obtain ⟨A, cA, rfl⟩ := Kd.R_slice HO.out
   clear hperm hfold
   go_wp2
   have HOi := Aside0.mk HO.out
   have HBi := Aside0.mk HB.out
   have hPc : P.length * 40 ≤ 140737488355328 := by omega
   generalize hWA : wr = wA at HOi HBi
   go_loopg [6, 7, 8] P.length (fun gg s6 s7 s8 wb => ∃ (k : Nat), s7 = .int .i64 k ∧ k ≤ P.length ∧ Aside0 (P.length - k ≤ gg) ∧ Aside0 (Kd.R k44 44 wb wA.heap.size (fun _ => True) s6 ((P.take k).foldl refStep [])) ∧ Aside0 (Below wA.heap.size wA wb))
   case atStart => exact ⟨0, rfl, Nat.zero_le _, ⟨by omega⟩, ⟨Kd.R_nil _ _ _ _ _⟩, ⟨by rw [← hWA]; exact Below.refl _ _⟩⟩
   case round =>
    obtain ⟨k, rfl, hk, HM2, HO2, HB2⟩ := hrel
    by_cases hlt : k < P.length
    ·have hltz : (k : Int) < (P.length : Int) := by omega
     obtain ⟨g, c, eA⟩ := own3_head HOi.out (by intro e; rw [e] at hlt; simp at hlt)
     injection eA with e1 _ e3
     subst e1
     subst e3
     obtain ⟨y, hy⟩ : ∃ y, P[k]? = some y := ⟨_, List.getElem?_eq_getElem hlt⟩
     have hgA := (own3_parts HOi.out).2.2.2.2.1.lt (by omega)
     have HRw := Aside0.mk ((own3_parts HOi.out).2.2.2.2.1.same (HB2.out.block g hgA))
     obtain ⟨cx0, cx1, cx2, _, _, _⟩ := HRw.out.at0 hy
     have hstep : (P.take (k + 1)).foldl refStep [] = refStep ((P.take k).foldl refStep []) y := by rw [List.take_add_one, hy, List.foldl_append]; rfl
     have hLl : ((P.take k).foldl refStep []).length ≤ k := by have := refFold_len (P.take k) []; rw [List.length_take] at this; simp at this; omega
     generalize (P.take k).foldl refStep [] = L at HO2 hstep hLl
     have HS := Aside0.mk hstep
     have HY := Aside0.mk hy
     have hzr := HB2.out.size
     clear hstep hy
     obtain ⟨A2, c2, rfl⟩ := Kd.R_slice HO2.out
     rcases List.eq_nil_or_concat L with rfl | ⟨o, l, eL⟩
     ·have hs : refStep [] y = [] ++ [y] := rfl
      have hl40 : (([] : List S44).length + 1) * 40 ≤ 140737488355328 := by decide
      go_wp2
      go_quiet (fail)
      go_wp2_with ((with_reducible refine gate_builtin (b := .append) (xs := #[.tmp 88, .tmp 93]) rfl ?_); at_builtin; refine app3 (w0 := wA) (base := wA.heap.size) rfl (.tmp 88) (.tmp 93) rfl _ ([] : List S44) y rfl rfl rfl (Kd.R_drewN HO2.out nq) (pw_below_drewN HB2.out nq) hzr hl40 ?_; intro v1 w4 ho hb)
      go_roundg (P.length - (k + 1))
      case measure => have := HM2.out; omega
      case rel => exact ⟨k + 1, by go_num, hlt, ⟨Nat.le_refl _⟩, ⟨by rw [HS.out, hs]; exact ho⟩, ⟨hb⟩⟩
     ·rw [List.concat_eq_append] at eL
      subst eL
      obtain ⟨g2, c3, e2⟩ := own3_head HO2.out (by simp)
      rw [e2] at HO2 ⊢
      clear e2
      have hlen1 : (o ++ [l]).length = o.length + 1 := by simp
      have HP2 := Aside0.mk (own3_parts HO2.out)
      have hg2 : g2 < wr.heap.size := HP2.out.2.2.2.2.1.lt (by simp)
      obtain ⟨dx0, dx1, dx2, _, gx1, gx2⟩ := HP2.out.2.2.2.2.1.at0 (i := o.length) (x := l) (by simp)
      rw [hlen1] at HO2 ⊢ hLl
      have hwi : True → wrap64 (((o.length + 1 : Nat) : Int) - 1) = (o.length : Int) := fun _ => by rw [Go.IntWalk.wrap64_in _ (by omega)]; omega
      have hil : (o.length : Int) < ((o.length + 1 : Nat) : Int) := by omega
      have hnn : ¬ (o.length : Int) < 0 := by omega
      have hil2 : ((o.length : Int) < (o.length : Int) + 1) = True := eq_true (by omega)
      replace hwi := hwi trivial
      by_cases hj : l.f2 = false ∧ bs l.f1 < bs y.f0
      ·have hcall : ∀ W : World, Calls Tryz.prog 80 #[.agg #[.string l.f0, .string l.f1, .bool l.f2], .agg #[.string y.f0, .string y.f1, .bool y.f2]] W fun e w' => e = .returned (.bool false) ∧ Below W.heap.size W w' := fun W => by
        have := rjoins_rng W l y
        rwa [show (!(!l.f2 && decide (bs l.f1 < bs y.f0))) = false by rw [hj.1, decide_eq_true hj.2]; rfl] at this
       have hs : refStep (o ++ [l]) y = (o ++ [l]) ++ [y] := by unfold refStep; rw [List.getLast?_concat]; simp only; rw [if_pos hj]
       have hl40 : ((o ++ [l]).length + 1) * 40 ≤ 140737488355328 := by rw [hlen1]; omega
       clear hj
       go_wp2
       refine start_ (n := 14) (S := fun w' => w'.cell? ⟨g2, o.length * 3, none⟩ = some (.string l.f0) ∧ w'.cell? ⟨g2, o.length * 3 + 1, none⟩ = some (.string l.f1) ∧ w'.cell? ⟨g2, o.length * 3 + 2, none⟩ = some (.bool l.f2) ∧ w'.cell? ⟨g, k * 3, none⟩ = some (.string y.f0) ∧ w'.cell? ⟨g, k * 3 + 1, none⟩ = some (.string y.f1) ∧ w'.cell? ⟨g, k * 3 + 2, none⟩ = some (.bool y.f2)) (ds := []) #[false, false, false, false, false, false, false, false, false, false, false, false, false, false] (by kernel_rfl) rfl rfl ⟨dx0, dx1, dx2, cx0, cx1, cx2⟩ (fun hHeld => ?_); refine with_tabW uni50tab16 uni50bits16 (fun HT_ HW_ => ?_)
       refine pure_ (i := 0) (N := (some 74)) (v := ?_) (a' := ?_) #[true, false, false, false, false, false, false, false, false, false, false, false, false, false] rfl rfl (any_of HT_.out (by kernel_rfl)) (fun _ _ _ h => h) (Or.inl ⟨by rfl, ?_⟩) ?_ ?_
       rotate_left
       ·intro w'
        go_simp
        with_reducible rfl
       rotate_left
       ·simp only [Act.put, List.setIfInBounds_toArray, List.set_cons_zero, List.set_cons_succ, i64_w, i32_w]
        rfl
       refine pure_ (i := 1) (N := (some 75)) (v := ?_) (a' := ?_) #[true, true, false, false, false, false, false, false, false, false, false, false, false, false] rfl rfl (any_of HT_.out (by kernel_rfl)) (fun _ _ _ h => h) (Or.inl ⟨by rfl, ?_⟩) ?_ ?_
       rotate_left
       ·intro w'
        go_simp
        with_reducible rfl
       rotate_left
       ·simp only [Act.put, List.setIfInBounds_toArray, List.set_cons_zero, List.set_cons_succ, i64_w, i32_w]
        rfl
       refine pure_ (i := 2) (N := (some 76)) (v := ?_) (a' := ?_) #[true, true, true, false, false, false, false, false, false, false, false, false, false, false] rfl rfl (any_of HT_.out (by kernel_rfl)) (fun _ _ _ h => h) (Or.inl ⟨by rfl, ?_⟩) ?_ ?_
       rotate_left
       ·intro w'
        go_simp
        with_reducible rfl
       rotate_left
       ·simp only [Act.put, List.setIfInBounds_toArray, List.set_cons_zero, List.set_cons_succ, i64_w, i32_w]
        rfl
       refine pure_ (i := 3) (N := (some 77)) (v := ?_) (a' := ?_) #[true, true, true, true, false, false, false, false, false, false, false, false, false, false] rfl rfl (any_of HT_.out (by kernel_rfl)) (fun _ _ _ h => h) (Or.inl ⟨by rfl, ?_⟩) ?_ ?_
       rotate_left
       ·intro w'
        go_simp
        with_reducible rfl
       rotate_left
       ·simp only [Act.put, List.setIfInBounds_toArray, List.set_cons_zero, List.set_cons_succ, i64_w, i32_w]
        rfl
       refine pure_ (i := 4) (N := (some 78)) (v := ?_) (a' := ?_) #[true, true, true, true, true, false, false, false, false, false, false, false, false, false] rfl rfl (any_of HT_.out (by kernel_rfl)) (fun _ _ _ h => h) (Or.inl ⟨by rfl, ?_⟩) ?_ ?_
       rotate_left
       ·intro w'
        go_simp
        with_reducible rfl
       rotate_left
       ·simp only [Act.put, List.setIfInBounds_toArray, List.set_cons_zero, List.set_cons_succ, i64_w, i32_w]
        rfl
       refine pure_ (i := 5) (N := (some 79)) (v := ?_) (a' := ?_) #[true, true, true, true, true, true, false, false, false, false, false, false, false, false] rfl rfl (any_of HT_.out (by kernel_rfl)) (fun _ _ _ h => h) (Or.inl ⟨by rfl, ?_⟩) ?_ ?_
       rotate_left
       ·intro w'
        go_simp
        with_reducible rfl
       rotate_left
       ·simp only [Act.put, List.setIfInBounds_toArray, List.set_cons_zero, List.set_cons_succ, i64_w, i32_w]
        rfl
       refine pure_ (i := 7) (N := (some 81)) (v := ?_) (a' := ?_) #[true, true, true, true, true, true, false, true, false, false, false, false, false, false] rfl rfl (any_of HT_.out (by kernel_rfl)) (fun _ _ _ h => h) (Or.inl ⟨by rfl, ?_⟩) ?_ ?_
       rotate_left
       ·intro w'
        go_simp
        with_reducible rfl
       rotate_left
       ·simp only [Act.put, List.setIfInBounds_toArray, List.set_cons_zero, List.set_cons_succ, i64_w, i32_w]
        rfl
       refine pure_ (i := 8) (N := (some 82)) (v := ?_) (a' := ?_) #[true, true, true, true, true, true, false, true, true, false, false, false, false, false] rfl rfl (any_of HT_.out (by kernel_rfl)) (fun _ _ _ h => h) (Or.inl ⟨by rfl, ?_⟩) ?_ ?_
       rotate_left
       ·intro w'
        go_simp
        with_reducible rfl
       rotate_left
       ·simp only [Act.put, List.setIfInBounds_toArray, List.set_cons_zero, List.set_cons_succ, i64_w, i32_w]
        rfl
       refine pure_ (i := 9) (N := (some 83)) (v := ?_) (a' := ?_) #[true, true, true, true, true, true, false, true, true, true, false, false, false, false] rfl rfl (any_of HT_.out (by kernel_rfl)) (fun _ _ _ h => h) (Or.inl ⟨by rfl, ?_⟩) ?_ ?_
       rotate_left
       ·intro w'
        go_simp
        with_reducible rfl
       rotate_left
       ·simp only [Act.put, List.setIfInBounds_toArray, List.set_cons_zero, List.set_cons_succ, i64_w, i32_w]
        rfl
       refine take_ (i := 6) (N := (some 80)) (v := ?_) (a' := ?_) #[true, true, true, true, true, true, true, true, true, true, false, false, false, false] rfl rfl (take_ofW HT_.out HW_.out (by kernel_rfl)) (fun _ _ _ h => h) (Or.inl ⟨by rfl, ?_⟩) hHeld ?_ ?_
       rotate_left
       ·rintro w' ⟨s0, s1, s2, s3, s4, s5⟩
        go_simp
        with_reducible rfl
       rotate_left
       ·simp only [Act.put, List.setIfInBounds_toArray, List.set_cons_zero, List.set_cons_succ, i64_w, i32_w]
        rfl
       refine take_ (i := 10) (N := (some 84)) (v := ?_) (a' := ?_) #[true, true, true, true, true, true, true, true, true, true, true, false, false, false] rfl rfl (take_ofW HT_.out HW_.out (by kernel_rfl)) (fun _ _ _ h => h) (Or.inl ⟨by rfl, ?_⟩) hHeld ?_ ?_
       rotate_left
       ·rintro w' ⟨s0, s1, s2, s3, s4, s5⟩
        go_simp
        with_reducible rfl
       rotate_left
       ·simp only [Act.put, List.setIfInBounds_toArray, List.set_cons_zero, List.set_cons_succ, i64_w, i32_w]
        rfl
       refine one_ (i := 11) (N := (some 85)) #[true, true, true, true, true, true, true, true, true, true, true, true, false, false] rfl rfl (one_of HT_.out (by kernel_rfl)) (by decide) (fun K hK => ?_)
       refine goes_ Tryz.func80 (by kernel_rfl) rfl #[.agg #[.string l.f0, .string l.f1, .bool l.f2], .agg #[.string y.f0, .string y.f1, .bool y.f2]] (by rfl) rfl rfl (by (try simp only [List.map_toArray, List.map_cons, List.map_nil]); first | done | rfl | (simp only [*])) ?_
       refine (hcall _).mono ?_; rintro e w' ⟨rfl, hb'⟩; have HO3 := Aside0.mk (Kd.R_below (Kd.R_drew HO2.out) hb'); have HB3 := Aside0.mk (below_step (below_drew1 HB2.out) hb'); have hz3 := HB3.out.size
       refine ⟨_, rfl, ?_⟩
       have Hs0_ := (hb'.cell (World.block_lt_of_cell? _ _ hHeld.1)).trans hHeld.1
       have Hs1_ := (hb'.cell (World.block_lt_of_cell? _ _ hHeld.2.1)).trans hHeld.2.1
       have Hs2_ := (hb'.cell (World.block_lt_of_cell? _ _ hHeld.2.2.1)).trans hHeld.2.2.1
       have Hs3_ := (hb'.cell (World.block_lt_of_cell? _ _ hHeld.2.2.2.1)).trans hHeld.2.2.2.1
       have Hs4_ := (hb'.cell (World.block_lt_of_cell? _ _ hHeld.2.2.2.2.1)).trans hHeld.2.2.2.2.1
       have Hs5_ := (hb'.cell (World.block_lt_of_cell? _ _ hHeld.2.2.2.2.2)).trans hHeld.2.2.2.2.2
       refine hK.out _ _ ⟨Hs0_, Hs1_, Hs2_, Hs3_, Hs4_, Hs5_⟩ (fun hHeld => ?_)
       clear hK K
       refine norm_ (a' := ?_) ?_ ?_
       rotate_left
       ·show Act.put _ (some 85) _ = _
        simp only [Act.put, List.setIfInBounds_toArray, List.set_cons_zero, List.set_cons_succ, i64_w, i32_w]
        rfl
       refine pure_ (i := 12) (N := (some 86)) (v := ?_) (a' := ?_) #[true, true, true, true, true, true, true, true, true, true, true, true, true, false] rfl rfl (any_of HT_.out (by kernel_rfl)) (fun _ _ _ h => h) (Or.inl ⟨by rfl, ?_⟩) ?_ ?_
       rotate_left
       ·intro w'
        go_simp
        with_reducible rfl
       rotate_left
       ·simp only [Act.put, List.setIfInBounds_toArray, List.set_cons_zero, List.set_cons_succ, i64_w, i32_w]
        rfl
       refine pure_ (i := 13) (N := (some 87)) (v := ?_) (a' := ?_) #[true, true, true, true, true, true, true, true, true, true, true, true, true, true] rfl rfl (any_of HT_.out (by kernel_rfl)) (fun _ _ _ h => h) (Or.inl ⟨by rfl, ?_⟩) ?_ ?_
       rotate_left
       ·intro w'
        go_simp
        with_reducible rfl
       rotate_left
       ·simp only [Act.put, List.setIfInBounds_toArray, List.set_cons_zero, List.set_cons_succ, i64_w, i32_w]
        rfl
       refine done_ (done_of HT_.out (by kernel_rfl)) ?_
       clear dx0 dx1 dx2 gx1 gx2 cx0 cx1 cx2
       obtain ⟨_, _, _, cx0, cx1, cx2⟩ := hHeld
       obtain ⟨dx0, dx1, dx2, _, gx1, gx2⟩ := (own3_parts HO3.out).2.2.2.2.1.at0 (i := o.length) (x := l) (by simp)
       go_wp2_with ((with_reducible refine gate_builtin (b := .append) (xs := #[.tmp 88, .tmp 93]) rfl ?_); at_builtin; refine app3 (w0 := wA) (base := wA.heap.size) rfl (.tmp 88) (.tmp 93) rfl _ (o ++ [l]) y rfl rfl rfl HO3.out HB3.out hz3 hl40 ?_; intro v1 w4 ho hb)
       go_roundg (P.length - (k + 1))
       case measure => have := HM2.out; omega
       case rel => exact ⟨k + 1, by go_num, hlt, ⟨Nat.le_refl _⟩, ⟨by rw [HS.out, hs]; exact ho⟩, ⟨hb⟩⟩
      ·have hcall : ∀ W : World, Calls Tryz.prog 80 #[.agg #[.string l.f0, .string l.f1, .bool l.f2], .agg #[.string y.f0, .string y.f1, .bool y.f2]] W fun e w' => e = .returned (.bool true) ∧ Below W.heap.size W w' := fun W => by
        have := rjoins_rng W l y
        have he : (!(!l.f2 && decide (bs l.f1 < bs y.f0))) = true := by
         cases hq : l.f2 with
         | true => rfl
         | false =>
          have : ¬ bs l.f1 < bs y.f0 := fun h => hj ⟨hq, h⟩
          rw [decide_eq_false this]; rfl
        rwa [he] at this
       have HJ := Aside0.mk hj
       clear hj
       go_wp2
       refine start_ (n := 14) (S := fun w' => w'.cell? ⟨g2, o.length * 3, none⟩ = some (.string l.f0) ∧ w'.cell? ⟨g2, o.length * 3 + 1, none⟩ = some (.string l.f1) ∧ w'.cell? ⟨g2, o.length * 3 + 2, none⟩ = some (.bool l.f2) ∧ w'.cell? ⟨g, k * 3, none⟩ = some (.string y.f0) ∧ w'.cell? ⟨g, k * 3 + 1, none⟩ = some (.string y.f1) ∧ w'.cell? ⟨g, k * 3 + 2, none⟩ = some (.bool y.f2)) (ds := []) #[false, false, false, false, false, false, false, false, false, false, false, false, false, false] (by kernel_rfl) rfl rfl ⟨dx0, dx1, dx2, cx0, cx1, cx2⟩ (fun hHeld => ?_); refine with_tabW uni50tab16 uni50bits16 (fun HT_ HW_ => ?_)
       refine pure_ (i := 0) (N := (some 74)) (v := ?_) (a' := ?_) #[true, false, false, false, false, false, false, false, false, false, false, false, false, false] rfl rfl (any_of HT_.out (by kernel_rfl)) (fun _ _ _ h => h) (Or.inl ⟨by rfl, ?_⟩) ?_ ?_
       rotate_left
       ·intro w'
        go_simp
        with_reducible rfl
       rotate_left
       ·simp only [Act.put, List.setIfInBounds_toArray, List.set_cons_zero, List.set_cons_succ, i64_w, i32_w]
        rfl
       refine pure_ (i := 1) (N := (some 75)) (v := ?_) (a' := ?_) #[true, true, false, false, false, false, false, false, false, false, false, false, false, false] rfl rfl (any_of HT_.out (by kernel_rfl)) (fun _ _ _ h => h) (Or.inl ⟨by rfl, ?_⟩) ?_ ?_
       rotate_left
       ·intro w'
        go_simp
        with_reducible rfl
       rotate_left
       ·simp only [Act.put, List.setIfInBounds_toArray, List.set_cons_zero, List.set_cons_succ, i64_w, i32_w]
        rfl
       refine pure_ (i := 2) (N := (some 76)) (v := ?_) (a' := ?_) #[true, true, true, false, false, false, false, false, false, false, false, false, false, false] rfl rfl (any_of HT_.out (by kernel_rfl)) (fun _ _ _ h => h) (Or.inl ⟨by rfl, ?_⟩) ?_ ?_
       rotate_left
       ·intro w'
        go_simp
        with_reducible rfl
       rotate_left
       ·simp only [Act.put, List.setIfInBounds_toArray, List.set_cons_zero, List.set_cons_succ, i64_w, i32_w]
        rfl
       refine pure_ (i := 3) (N := (some 77)) (v := ?_) (a' := ?_) #[true, true, true, true, false, false, false, false, false, false, false, false, false, false] rfl rfl (any_of HT_.out (by kernel_rfl)) (fun _ _ _ h => h) (Or.inl ⟨by rfl, ?_⟩) ?_ ?_
       rotate_left
       ·intro w'
        go_simp
        with_reducible rfl
       rotate_left
       ·simp only [Act.put, List.setIfInBounds_toArray, List.set_cons_zero, List.set_cons_succ, i64_w, i32_w]
        rfl
       refine pure_ (i := 4) (N := (some 78)) (v := ?_) (a' := ?_) #[true, true, true, true, true, false, false, false, false, false, false, false, false, false] rfl rfl (any_of HT_.out (by kernel_rfl)) (fun _ _ _ h => h) (Or.inl ⟨by rfl, ?_⟩) ?_ ?_
       rotate_left
       ·intro w'
        go_simp
        with_reducible rfl
       rotate_left
       ·simp only [Act.put, List.setIfInBounds_toArray, List.set_cons_zero, List.set_cons_succ, i64_w, i32_w]
        rfl
       refine pure_ (i := 5) (N := (some 79)) (v := ?_) (a' := ?_) #[true, true, true, true, true, true, false, false, false, false, false, false, false, false] rfl rfl (any_of HT_.out (by kernel_rfl)) (fun _ _ _ h => h) (Or.inl ⟨by rfl, ?_⟩) ?_ ?_
       rotate_left
       ·intro w'
        go_simp
        with_reducible rfl
       rotate_left
       ·simp only [Act.put, List.setIfInBounds_toArray, List.set_cons_zero, List.set_cons_succ, i64_w, i32_w]
        rfl
       refine pure_ (i := 7) (N := (some 81)) (v := ?_) (a' := ?_) #[true, true, true, true, true, true, false, true, false, false, false, false, false, false] rfl rfl (any_of HT_.out (by kernel_rfl)) (fun _ _ _ h => h) (Or.inl ⟨by rfl, ?_⟩) ?_ ?_
       rotate_left
       ·intro w'
        go_simp
        with_reducible rfl
       rotate_left
       ·simp only [Act.put, List.setIfInBounds_toArray, List.set_cons_zero, List.set_cons_succ, i64_w, i32_w]
        rfl
       refine pure_ (i := 8) (N := (some 82)) (v := ?_) (a' := ?_) #[true, true, true, true, true, true, false, true, true, false, false, false, false, false] rfl rfl (any_of HT_.out (by kernel_rfl)) (fun _ _ _ h => h) (Or.inl ⟨by rfl, ?_⟩) ?_ ?_
       rotate_left
       ·intro w'
        go_simp
        with_reducible rfl
       rotate_left
       ·simp only [Act.put, List.setIfInBounds_toArray, List.set_cons_zero, List.set_cons_succ, i64_w, i32_w]
        rfl
       refine pure_ (i := 9) (N := (some 83)) (v := ?_) (a' := ?_) #[true, true, true, true, true, true, false, true, true, true, false, false, false, false] rfl rfl (any_of HT_.out (by kernel_rfl)) (fun _ _ _ h => h) (Or.inl ⟨by rfl, ?_⟩) ?_ ?_
       rotate_left
       ·intro w'
        go_simp
        with_reducible rfl
       rotate_left
       ·simp only [Act.put, List.setIfInBounds_toArray, List.set_cons_zero, List.set_cons_succ, i64_w, i32_w]
        rfl
       refine take_ (i := 6) (N := (some 80)) (v := ?_) (a' := ?_) #[true, true, true, true, true, true, true, true, true, true, false, false, false, false] rfl rfl (take_ofW HT_.out HW_.out (by kernel_rfl)) (fun _ _ _ h => h) (Or.inl ⟨by rfl, ?_⟩) hHeld ?_ ?_
       rotate_left
       ·rintro w' ⟨s0, s1, s2, s3, s4, s5⟩
        go_simp
        with_reducible rfl
       rotate_left
       ·simp only [Act.put, List.setIfInBounds_toArray, List.set_cons_zero, List.set_cons_succ, i64_w, i32_w]
        rfl
       refine take_ (i := 10) (N := (some 84)) (v := ?_) (a' := ?_) #[true, true, true, true, true, true, true, true, true, true, true, false, false, false] rfl rfl (take_ofW HT_.out HW_.out (by kernel_rfl)) (fun _ _ _ h => h) (Or.inl ⟨by rfl, ?_⟩) hHeld ?_ ?_
       rotate_left
       ·rintro w' ⟨s0, s1, s2, s3, s4, s5⟩
        go_simp
        with_reducible rfl
       rotate_left
       ·simp only [Act.put, List.setIfInBounds_toArray, List.set_cons_zero, List.set_cons_succ, i64_w, i32_w]
        rfl
       refine one_ (i := 11) (N := (some 85)) #[true, true, true, true, true, true, true, true, true, true, true, true, false, false] rfl rfl (one_of HT_.out (by kernel_rfl)) (by decide) (fun K hK => ?_)
       refine goes_ Tryz.func80 (by kernel_rfl) rfl #[.agg #[.string l.f0, .string l.f1, .bool l.f2], .agg #[.string y.f0, .string y.f1, .bool y.f2]] (by rfl) rfl rfl (by (try simp only [List.map_toArray, List.map_cons, List.map_nil]); first | done | rfl | (simp only [*])) ?_
       refine (hcall _).mono ?_; rintro e w' ⟨rfl, hb'⟩; have HO3 := Aside0.mk (Kd.R_below (Kd.R_drew HO2.out) hb'); have HB3 := Aside0.mk (below_step (below_drew1 HB2.out) hb'); have hz3 := HB3.out.size
       refine ⟨_, rfl, ?_⟩
       have Hs0_ := (hb'.cell (World.block_lt_of_cell? _ _ hHeld.1)).trans hHeld.1
       have Hs1_ := (hb'.cell (World.block_lt_of_cell? _ _ hHeld.2.1)).trans hHeld.2.1
       have Hs2_ := (hb'.cell (World.block_lt_of_cell? _ _ hHeld.2.2.1)).trans hHeld.2.2.1
       have Hs3_ := (hb'.cell (World.block_lt_of_cell? _ _ hHeld.2.2.2.1)).trans hHeld.2.2.2.1
       have Hs4_ := (hb'.cell (World.block_lt_of_cell? _ _ hHeld.2.2.2.2.1)).trans hHeld.2.2.2.2.1
       have Hs5_ := (hb'.cell (World.block_lt_of_cell? _ _ hHeld.2.2.2.2.2)).trans hHeld.2.2.2.2.2
       refine hK.out _ _ ⟨Hs0_, Hs1_, Hs2_, Hs3_, Hs4_, Hs5_⟩ (fun hHeld => ?_)
       clear hK K
       refine norm_ (a' := ?_) ?_ ?_
       rotate_left
       ·show Act.put _ (some 85) _ = _
        simp only [Act.put, List.setIfInBounds_toArray, List.set_cons_zero, List.set_cons_succ, i64_w, i32_w]
        rfl
       refine pure_ (i := 12) (N := (some 86)) (v := ?_) (a' := ?_) #[true, true, true, true, true, true, true, true, true, true, true, true, true, false] rfl rfl (any_of HT_.out (by kernel_rfl)) (fun _ _ _ h => h) (Or.inl ⟨by rfl, ?_⟩) ?_ ?_
       rotate_left
       ·intro w'
        go_simp
        with_reducible rfl
       rotate_left
       ·simp only [Act.put, List.setIfInBounds_toArray, List.set_cons_zero, List.set_cons_succ, i64_w, i32_w]
        rfl
       refine pure_ (i := 13) (N := (some 87)) (v := ?_) (a' := ?_) #[true, true, true, true, true, true, true, true, true, true, true, true, true, true] rfl rfl (any_of HT_.out (by kernel_rfl)) (fun _ _ _ h => h) (Or.inl ⟨by rfl, ?_⟩) ?_ ?_
       rotate_left
       ·intro w'
        go_simp
        with_reducible rfl
       rotate_left
       ·simp only [Act.put, List.setIfInBounds_toArray, List.set_cons_zero, List.set_cons_succ, i64_w, i32_w]
        rfl
       refine done_ (done_of HT_.out (by kernel_rfl)) ?_
       clear dx0 dx1 dx2 gx1 gx2 cx0 cx1 cx2
       obtain ⟨_, _, _, cx0, cx1, cx2⟩ := hHeld
       obtain ⟨dx0, dx1, dx2, _, gx1, gx2⟩ := (own3_parts HO3.out).2.2.2.2.1.at0 (i := o.length) (x := l) (by simp)
       have hge2 := HP2.out.2.1
       have hne1 : (g2 = g) = False := eq_false (by omega)
       have hne2 : (g = g2) = False := eq_false (by omega)
       have hset : ∀ z l : S44, (o ++ [l]).set o.length z = o ++ [z] := by intro z l; simp
       cases hq : y.f2 with
       | true =>
        rw [hq] at cx2
        have hs : refStep (o ++ [l]) y = o ++ [⟨l.f0, y.f1, true⟩] := by unfold refStep; rw [List.getLast?_concat, List.dropLast_concat]; simp only; rw [if_neg HJ.out, if_pos (Or.inl hq), hq]
        go_wp2
        repeat (go_quiet (fail); try go_wp2)
        have hO1 := put3 (Kd.R_drewN HO3.out nq) (i := o.length) (x := l) (by simp) ⟨l.f0, y.f1, l.f2⟩ 1 (.string y.f1) rfl (by intro j hj; rcases j with _ | _ | _ | j <;> first | rfl | exact absurd rfl hj)
        rw [hset] at hO1
        have hO2 := put3 hO1 (i := o.length) (x := ⟨l.f0, y.f1, l.f2⟩) (by simp) ⟨l.f0, y.f1, true⟩ 2 (.bool true) rfl (by intro j hj; rcases j with _ | _ | _ | j <;> first | rfl | exact absurd rfl hj)
        rw [hset] at hO2
        have hB2 := ((pw_below_drewN HB3.out nq).setCell (p := ⟨g2, o.length * 3 + 1, none⟩) hge2 (.string y.f1)).setCell (p := ⟨g2, o.length * 3 + 2, none⟩) hge2 (.bool true)
        go_roundg (P.length - (k + 1))
        case measure => have := HM2.out; omega
        case rel => exact ⟨k + 1, by go_num, hlt, ⟨Nat.le_refl _⟩, ⟨by rw [HS.out, hs]; exact hO2⟩, ⟨hB2⟩⟩
       | false =>
        rw [hq] at cx2
        cases hql : l.f2 with
        | true =>
         rw [hql] at dx2
         have hs : refStep (o ++ [l]) y = o ++ [l] := by unfold refStep; rw [List.getLast?_concat]; simp only; rw [if_neg HJ.out, if_neg (by rw [hq, hql]; simp)]
         go_wp2
         repeat (go_quiet (fail); try go_wp2)
         go_roundg (P.length - (k + 1))
         case measure => have := HM2.out; omega
         case rel => exact ⟨k + 1, by go_num, hlt, ⟨Nat.le_refl _⟩, ⟨by rw [HS.out, hs]; exact Kd.R_drewN HO3.out nq⟩, ⟨pw_below_drewN HB3.out nq⟩⟩
        | false =>
         rw [hql] at dx2
         by_cases hc : bs l.f1 < bs y.f1
         ·have hcm : Op.bytesLess l.f1.toList y.f1.toList = true := by rw [bless_eq]; exact decide_eq_true hc
          have hs : refStep (o ++ [l]) y = o ++ [⟨l.f0, y.f1, false⟩] := by unfold refStep; rw [List.getLast?_concat, List.dropLast_concat]; simp only; rw [if_neg HJ.out, if_pos (Or.inr ⟨hql, hc⟩), hq]
          go_wp2
          repeat (go_quiet (fail); try go_wp2)
          have hO1 := put3 (Kd.R_drewN HO3.out nq) (i := o.length) (x := l) (by simp) ⟨l.f0, y.f1, l.f2⟩ 1 (.string y.f1) rfl (by intro j hj; rcases j with _ | _ | _ | j <;> first | rfl | exact absurd rfl hj)
          rw [hset] at hO1
          have hO2 := put3 hO1 (i := o.length) (x := ⟨l.f0, y.f1, l.f2⟩) (by simp) ⟨l.f0, y.f1, false⟩ 2 (.bool false) rfl (by intro j hj; rcases j with _ | _ | _ | j <;> first | rfl | exact absurd rfl hj)
          rw [hset] at hO2
          have hB2 := ((pw_below_drewN HB3.out nq).setCell (p := ⟨g2, o.length * 3 + 1, none⟩) hge2 (.string y.f1)).setCell (p := ⟨g2, o.length * 3 + 2, none⟩) hge2 (.bool false)
          go_roundg (P.length - (k + 1))
          case measure => have := HM2.out; omega
          case rel => exact ⟨k + 1, by go_num, hlt, ⟨Nat.le_refl _⟩, ⟨by rw [HS.out, hs]; exact hO2⟩, ⟨hB2⟩⟩
         ·have hcm : Op.bytesLess l.f1.toList y.f1.toList = false := by rw [bless_eq]; exact decide_eq_false hc
          have hs : refStep (o ++ [l]) y = o ++ [l] := by unfold refStep; rw [List.getLast?_concat]; simp only; rw [if_neg HJ.out, if_neg (fun h => h.elim (fun h => by rw [hq] at h; cases h) (fun h => hc h.2))]
          go_wp2
          repeat (go_quiet (fail); try go_wp2)
          go_roundg (P.length - (k + 1))
          case measure => have := HM2.out; omega
          case rel => exact ⟨k + 1, by go_num, hlt, ⟨Nat.le_refl _⟩, ⟨by rw [HS.out, hs]; exact Kd.R_drewN HO3.out nq⟩, ⟨pw_below_drewN HB3.out nq⟩⟩
    ·obtain rfl : k = P.length := by omega
     have hltz : ¬ (P.length : Int) < (P.length : Int) := by omega
     have hfin := HO2.out
     rw [List.take_length] at hfin
     have hLl := refFold_len P []
     generalize P.foldl refStep [] = L at hfin HF hLl
     have hLP : L.length ≤ P.length := by simpa using hLl
     have HO5 := Aside0.mk hfin
     obtain ⟨A2, c2, rfl⟩ := Kd.R_slice HO5.out
     have HB5 := Aside0.mk HB2.out
     clear hfin hLl HO2 HB2
     go_wp2
     go_loopg [9] L.length (fun gg s9 wc => ∃ i : Nat, s9 = .int .i64 i ∧ i ≤ L.length ∧ Aside0 (L.length - i ≤ gg) ∧ Aside0 (Kd.R k44 44 wc wA.heap.size (fun _ => True) (.slice A2 L.length c2) ((L.take i).map cleanR ++ L.drop i)) ∧ Aside0 (Below wA.heap.size wA wc))
     case atStart => exact ⟨0, rfl, Nat.zero_le _, ⟨by omega⟩, ⟨by simpa using HO5.out⟩, ⟨HB5.out⟩⟩
     case round =>
      obtain ⟨i, rfl, hi, HM3, HO3, HB3⟩ := hrel
      by_cases hlt : i < L.length
      ·have hltz : (i : Int) < (L.length : Int) := by omega
       obtain ⟨y, hy⟩ : ∃ y, L[i]? = some y := ⟨_, List.getElem?_eq_getElem hlt⟩
       have HY := Aside0.mk hy
       obtain ⟨g, c, eA⟩ := own3_head HO3.out (by intro e; have := clean_len L i; rw [e] at this; simp at this; omega)
       injection eA with e1 e2 e3
       clear e2
       subst e1
       subst e3
       obtain ⟨cx0, cx1, cx2, fx0, fx1, fx2⟩ := (own3_parts HO3.out).2.2.2.2.1.at0 (clean_at L i y hy)
       have hge := (own3_parts HO3.out).2.1
       clear hy
       cases hq : y.f2 with
       | true =>
        rw [hq] at cx2
        have hcl : (⟨y.f0, ⟨#[]⟩, y.f2⟩ : S44) = cleanR y := by unfold cleanR; rw [if_pos hq, hq]
        go_wp2
        have hO7 := put3 HO3.out (i := i) (x := y) (clean_at L i y HY.out) ⟨y.f0, ⟨#[]⟩, y.f2⟩ 1 (.string ⟨#[]⟩) rfl (by intro j hj; rcases j with _ | _ | _ | j <;> first | rfl | exact absurd rfl hj)
        rw [hcl, clean_set L i y HY.out] at hO7
        have hB7 := HB3.out.setCell (p := ⟨g, i * 3 + 1, none⟩) hge (.string ⟨#[]⟩)
        go_roundg (L.length - (i + 1))
        case measure => have := HM3.out; omega
        case rel => exact ⟨i + 1, by go_num, hlt, ⟨Nat.le_refl _⟩, ⟨hO7⟩, ⟨hB7⟩⟩
       | false =>
        rw [hq] at cx2
        go_wp2
        go_roundg (L.length - (i + 1))
        case measure => have := HM3.out; omega
        case rel => exact ⟨i + 1, by go_num, hlt, ⟨Nat.le_refl _⟩, ⟨by rw [clean_same L i y HY.out (by unfold cleanR; rw [if_neg (by rw [hq]; decide)])]; exact HO3.out⟩, ⟨HB3.out⟩⟩
      ·obtain rfl : i = L.length := by omega
       have hltz : ¬ (L.length : Int) < (L.length : Int) := by omega
       have hfin := HO3.out
       rw [List.take_length, List.drop_length, List.append_nil, HF.out] at hfin
       go_wp2
       go_ret
       exact ⟨_, rfl, Kd.R_lower hfin HBi.out.size, Below.trans HBi.out (HB3.out.mono HBi.out.size)⟩
def vellumref02_Union.f (k : Nat) (l0 : List S44) : Option (List S44) := code_Union.f l0
theorem vellumref02_Union.calls (k : Nat) (A0 : Option Addr) (c0 : Nat) (l0 : List S44) (r : List S44) (w : World) (hr0 : Kd.C k44 w A0 l0.length l0) (hc0 : l0.length ≤ c0) (h : vellumref02_Union.f k l0 = some r) :
  Calls Tryz.prog 57 #[.slice A0 l0.length c0] w fun e w' => ∃ v0_, e = .returned v0_ ∧ Kd.R k44 44 w' w.heap.size (fun _ => True) v0_ r ∧ Below w.heap.size w w' := by
 unfold vellumref02_Union.f code_Union.f at h
 by_cases hl : l0.length * 40 ≤ 140737488355328
 ·rw [if_pos hl] at h
  obtain rfl := Option.some.inj h
  exact runion_any l0 A0 c0 w hr0 hl
 ·rw [if_neg hl] at h
  cases h
end Go.Proofs.YtldlenjfpjihdaaGreat.PA
end
section
namespace Go.Proofs.YtldlenjfpjihdaaGreat.PS
open Go Go.RowKit Go.Proofs Go.Maps Go.WideMaps Go.Proofs.YtldlenjfpjihdaaGreatW.PrintWords Go.Proofs.YtldlenjfpjihdaaGreatW.PrintLast Go.Proofs.YtldlenjfpjihdaaGreatW.PrintMore
set_option linter.unusedVariables false
set_option linter.unusedSimpArgs false
open Go.Proofs.YtldlenjfpjihdaaGreat.PU (unionR)
def T22_10 : Bool × List (List Nat × List Nat) := (true, [([], []), ([0], [0]), ([], []), ([1, 2], [1, 2]), ([3], [3]), ([4], [4]), ([], []), ([], []), ([6, 7], [6, 7]), ([8], [8]), ([9], [9]), ([5, 10], [5, 10]), ([11], [11]), ([12], [12]), ([13, 12], [12, 13]), ([12], [12]), ([14, 15, 12], [12, 14, 15]), ([16, 12], [12, 16]), ([17, 12], [12, 17]), ([12], [12]), ([12], [12]), ([19, 20, 12], [12, 19, 20]), ([21, 12], [12, 21]), ([22, 12], [12, 22]), ([18, 23, 12], [12, 18, 23]), ([12, 24], [12, 24])])
theorem tab22_10 : rtab .any (opsOf Tryz.f22 10) = T22_10 := by kernel_rfl
def T22_16 : Bool × List (List Nat × List Nat) := (true, [([], []), ([0], [0]), ([], []), ([], []), ([2, 3], [2, 3]), ([4], [4]), ([5], [5]), ([], []), ([], []), ([7, 8], [7, 8]), ([9], [9]), ([10], [10]), ([], []), ([], []), ([12, 13], [12, 13]), ([14], [14]), ([6, 11, 15], [6, 11, 15]), ([16], [16]), ([1, 17], [1, 17]), ([0, 1, 2, 3, 4, 5, 6, 7, 8, 9, 10, 11, 12, 13, 14, 15, 16, 17, 18], []), ([19, 18, 18, 0, 1, 2, 3, 4, 5, 6, 7, 8, 9, 10, 11, 12, 13, 14, 15, 16, 17, 18], [18, 19])])
theorem tab22_16 : rtab .any (opsOf Tryz.f22 16) = T22_16 := by kernel_rfl
def T22_21 : Bool × List (List Nat × List Nat) := (true, [([], []), ([0], [0]), ([], []), ([], []), ([2, 3], [2, 3]), ([4], [4]), ([1, 5], [1, 5]), ([6], [6])])
theorem tab22_21 : rtab .any (opsOf Tryz.f22 21) = T22_21 := by kernel_rfl
def T22_22 : Bool × List (List Nat × List Nat) := (true, [([], []), ([0], [0]), ([], []), ([], []), ([2, 3], [2, 3]), ([4], [4]), ([5], [5]), ([1, 6], [1, 6]), ([0, 1, 2, 3, 4, 5, 6, 7], []), ([8, 7, 7, 0, 1, 2, 3, 4, 5, 6, 7], [7, 8])])
theorem tab22_22 : rtab .any (opsOf Tryz.f22 22) = T22_22 := by kernel_rfl
set_option maxHeartbeats 16000000 in
set_option maxRecDepth 100000 in
theorem rnormal_any (f : Ft) (A0 A1 A2 : Option Addr) (c0 c1 c2 : Nat) (w : World) (hf : FtR w A0 A1 A2 c0 c1 c2 f) (hn : f.ps.length + f.ss.length + f.ws.length ≤ 65536) :
    Calls Tryz.prog 22 #[.agg #[.slice A0 f.ps.length c0, .slice A1 f.ss.length c1, .slice A2 f.ws.length c2]] w fun e w' => ∃ (g : Ft) (pl : List SPl) (v : Value), e = .returned v ∧ NormOf f g pl ∧ FtV w' v g ∧ Below w.heap.size w w' := by
  generalize hW : (w.alloc (ftO A0 A1 A2 c0 c1 c2 f)).alloc zFt = w1
  have hB1 : Below w.heap.size w w1 := by rw [← hW]; exact below_alloc (below_alloc (Below.refl _ _) _) _
  have b0 : w1.heap[w.heap.size]? = some (ftO A0 A1 A2 c0 c1 c2 f) := by rw [← hW]; exact heap_old (heap_new _ _)
  have b1 : w1.heap[w.heap.size + 1]? = some zFt := by rw [← hW]; have := heap_new (w.alloc (ftO A0 A1 A2 c0 c1 c2 f)) zFt; rw [size_new] at this; exact this
  have HF := Aside0.mk hf
  have HB1 := Aside0.mk hB1
  have D0 := Aside0.mk b0
  have D1 := Aside0.mk b1
  unfold ftO zFt at hW
  have HW := Aside0.mk hW
  clear hW hB1 b0 b1 hf
  go_enter Tryz.func22, Tryz.ntmps22
  --@A
  go_wp2_with fail
  rw [HW.out]
  clear HW
  refine (sorted_any _ f.ws A2 c2 w1 rfl (Kd.C_below HF.out.h2 HB1.out) HF.out.l2 (by omega)).mono ?_
  rintro e w2 ⟨Aw, cw, rws, rfl, h1, h2, h3, h4⟩
  have hx0 := (h4.block _ (lt_of D0.out)).trans D0.out
  have HX1 := Aside0.mk ((h4.block _ (lt_of D1.out)).trans D1.out)
  have HB2 := Aside0.mk (Below.trans HB1.out (h4.mono HB1.out.size))
  have HRw := Aside0.mk h1
  have HSw := Aside0.mk h2
  have HCw := Aside0.mk h3
  have m1 : w2.cell? ⟨w.heap.size, 1, none⟩ = some (.slice A1 f.ss.length c1) := cell_of hx0 1
  have hlt1 := lt_of hx0
  have hne1 : (w.heap.size = w2.heap.size) = False := eq_false (by omega)
  have HX0 := Aside0.mk hx0
  generalize hWo : w2.alloc (.cells #[.slice none 0 0, .slice none 0 0, .slice Aw rws.length cw] 25) = wo
  have HWo := Aside0.mk hWo
  clear h1 h2 h3 h4 hx0 hWo
  --@B
  go_wp2_with fail
  rw [HWo.out]
  have hBo : Below w2.heap.size w2 wo := by rw [← HWo.out]; exact below_alloc (Below.refl _ _) _
  have hxo : wo.heap[w2.heap.size]? = some (.cells #[.slice none 0 0, .slice none 0 0, .slice Aw rws.length cw] 25 (0, 0)) := by rw [← HWo.out]; exact heap_new _ _
  clear HWo
  refine (places_any f.ss A1 c1 wo (Kd.C_below HF.out.h1 (Below.trans HB2.out (hBo.mono HB2.out.size))) HF.out.l1 (by omega)).mono ?_
  rintro e w3 ⟨Ap, cp, pl, rfl, h1, h2, h3, h4⟩
  have hBo3 : Below w2.heap.size w2 w3 := Below.trans hBo (h4.mono hBo.size)
  have HX3 := Aside0.mk ((h4.block _ (lt_of hxo)).trans hxo)
  have HBo3 := Aside0.mk hBo3
  have HFr0 := Aside0.mk (Fr.refl (lt_of HX3.out) : Fr w3 w2.heap.size w3)
  have HY0 := Aside0.mk ((hBo3.block _ (lt_of HX0.out)).trans HX0.out)
  have HY1 := Aside0.mk ((hBo3.block _ (lt_of HX1.out)).trans HX1.out)
  have HSp := Aside0.mk h2
  have HCp := Aside0.mk h3
  have hpl : pl.length ≤ 65536 := by have := h2.2.2; rw [List.length_map] at this; omega
  have HSl := Aside0.mk (allSl (a := .slice none 0 0) (b := .slice none 0 0) (c := .slice Aw rws.length cw) rfl rfl rfl)
  have HCs := Aside0.mk (Kd.C_below HF.out.h1 (Below.trans HB2.out (hBo3.mono HB2.out.size)))
  have hlt3 : w2.heap.size < w3.heap.size := lt_of HX3.out
  clear h1 h2 h3 h4 hxo hBo hBo3 m1
  --@C
  go_wp2
  --@D
  go_loopg [5] pl.length (fun gg s5 wr => ∃ (k : Nat) (vs : Value) (sp : List S46), s5 = .int .i64 k ∧ k ≤ pl.length ∧ Aside0 (pl.length - k ≤ gg) ∧ Aside0 (Fr w3 w2.heap.size wr) ∧ Aside0 (wr.heap[w2.heap.size]? = some (.cells #[.slice none 0 0, vs, .slice Aw rws.length cw] 25 (0, 0))) ∧ Aside0 (Kd.R k46 46 wr w3.heap.size (fun _ => True) vs sp) ∧ Aside0 (sp = (pl.take k).flatMap (spanF f.ss)))
  case atStart => exact ⟨0, _, [], rfl, Nat.zero_le _, ⟨Nat.le_refl _⟩, ⟨HFr0.out⟩, ⟨HX3.out⟩, ⟨Kd.R_nil _ _ _ _ _⟩, ⟨rfl⟩⟩
  case round =>
    clear HFr0
    obtain ⟨w4, hwq⟩ : ∃ x, x = wr := ⟨_, rfl⟩
    subst hwq
    obtain ⟨k, vs, sp, rfl, hk, HM4, HFr4, HO4, HR4, HSp4⟩ := hrel
    by_cases hltA : k < pl.length
    · have hltzA : (k : Int) < (pl.length : Int) := by omega
      obtain ⟨ad, ea, a0, a1, -⟩ := at_T37 HCp.out (k : Int) (by omega) hltzA
      subst ea
      obtain ⟨y, hy⟩ := ex_get hltA
      rw [rd37 hy] at a0 a1
      simp only [Int.toNat_natCast] at a0 a1
      have HYy := Aside0.mk hy
      have HA3 := Aside0.mk (And.intro a0 a1)
      have HA := Aside0.mk (And.intro (HFr4.out.cell HX3.out HSl.out a0 rfl) (HFr4.out.cell HX3.out HSl.out a1 rfl))
      generalize hW5 : w4.alloc (.cells #[] 44) = w5
      have hB5 : Below w4.heap.size w4 w5 := by rw [← hW5]; exact below_alloc (Below.refl _ _) _
      have hR5 : Kd.R k44 44 w5 w3.heap.size (fun _ => True) (.slice (some ⟨w4.heap.size, 0, none⟩) 0 0) [] := by rw [← hW5]; exact R_none k44 44 w4 w3.heap.size HFr4.out.size
      have HB5 := Aside0.mk hB5
      have HR5 := Aside0.mk hR5
      have HW5 := Aside0.mk hW5
      have HO5 := Aside0.mk ((hB5.block _ (lt_of HO4.out)).trans HO4.out)
      have HS5 := Aside0.mk (Kd.R_below HR4.out hB5)
      have HFr5 := Aside0.mk (HFr4.out.below hB5)
      clear hy a0 a1 hW5 hB5 hR5
      --@E
      go_wp2_with fail
      rw [HW5.out]
      clear HW5
      --@F
      go_loopg [6, 7] f.ss.length (fun gg s6 s7 wb => ∃ k2 : Nat, s7 = .int .i64 k2 ∧ k2 ≤ f.ss.length ∧ Aside0 (f.ss.length - k2 ≤ gg) ∧ Aside0 (Fr w3 w2.heap.size wb) ∧ Aside0 (wb.heap[w2.heap.size]? = some (.cells #[.slice none 0 0, vs, .slice Aw rws.length cw] 25 (0, 0))) ∧ Aside0 (Kd.R k46 46 wb w3.heap.size (fun _ => True) vs sp) ∧ Aside0 (Kd.R k44 44 wb w3.heap.size (fun _ => True) s6 (rangesAt (f.ss.take k2) ⟨y.f0, y.f1⟩)) ∧ Aside0 (wb.cell? (ad.add (k * 3)) = some (.int .i64 y.f0) ∧ wb.cell? ⟨(ad.add (k * 3)).block, (ad.add (k * 3)).off + 1, none⟩ = some (.int .i64 y.f1)))
      case atStart => exact ⟨0, rfl, Nat.zero_le _, ⟨Nat.le_refl _⟩, ⟨HFr5.out⟩, ⟨HO5.out⟩, ⟨HS5.out⟩, ⟨HR5.out⟩, ⟨⟨(HB5.out.cell (World.block_lt_of_cell? _ _ HA.out.1)).trans HA.out.1, (HB5.out.cell (World.block_lt_of_cell? _ _ HA.out.2)).trans HA.out.2⟩⟩⟩
      case round =>
        clear HFr5 HO5 HS5 HR5 HB5
        obtain ⟨w6, hwq⟩ : ∃ x, x = wr := ⟨_, rfl⟩
        subst hwq
        obtain ⟨k2, rfl, hk2, HM6, HFr6, HO6, HS6, HR6, HA6⟩ := hrel
        have hx0 := (HFr6.out.low.block w.heap.size hlt1).trans HY0.out
        have m1 : w6.cell? ⟨w.heap.size, 1, none⟩ = some (.slice A1 f.ss.length c1) := cell_of hx0 1
        by_cases hltB : k2 < f.ss.length
        · have hltzB : (k2 : Int) < (f.ss.length : Int) := by omega
          have hC6 := HFr6.out.C46 HX3.out HSl.out HCs.out
          obtain ⟨ad2, ea, b0, b1, b2, b3, b4⟩ := at_T46 hC6 (k2 : Int) (by omega) hltzB
          subst ea
          obtain ⟨s, hs⟩ := ex_get hltB
          rw [rd46 hs] at b0 b1 b2 b3 b4
          simp only [Int.toNat_natCast] at b0 b1 b2 b3 b4
          have HSs := Aside0.mk hs
          have a0 := HA6.out.1
          have a1 := HA6.out.2
          clear hx0 hC6 hs
          go_wp2_with fail
          by_cases e0 : s.f0 = y.f0
          · by_cases e1 : s.f1 = y.f1
            · rw [e0] at b0
              rw [e1] at b1
              have HHd := Aside0.mk (show _ ∧ _ ∧ _ ∧ _ ∧ _ from ⟨m1, a0, a1, b0, b1⟩)
              have HCell := Aside0.mk (show _ ∧ _ ∧ _ from ⟨b2, b3, b4⟩)
              have HE0 := Aside0.mk e0
              clear e0
              have HE1 := Aside0.mk e1
              clear e1
              clear m1 a0 a1 b0 b1 b2 b3 b4
              refine start_ (n := 26) (S := fun w' => w'.cell? ⟨w.heap.size, 1, none⟩ = some (.slice (some ad2) f.ss.length c1) ∧ w'.cell? (ad.add (k * 3)) = some (.int .i64 y.f0) ∧ w'.cell? ⟨(ad.add (k * 3)).block, (ad.add (k * 3)).off + 1, none⟩ = some (.int .i64 y.f1) ∧ w'.cell? (ad2.add (k2 * 5)) = some (.int .i64 y.f0) ∧ w'.cell? ⟨(ad2.add (k2 * 5)).block, (ad2.add (k2 * 5)).off + 1, none⟩ = some (.int .i64 y.f1)) (ds := []) #[false, false, false, false, false, false, false, false, false, false, false, false, false, false, false, false, false, false, false, false, false, false, false, false, false, false] (by kernel_rfl) rfl rfl ⟨((below_drew1 (Below.refl w6.heap.size w6)).cell (World.block_lt_of_cell? _ _ HHd.out.1)).trans HHd.out.1, ((below_drew1 (Below.refl w6.heap.size w6)).cell (World.block_lt_of_cell? _ _ HHd.out.2.1)).trans HHd.out.2.1, ((below_drew1 (Below.refl w6.heap.size w6)).cell (World.block_lt_of_cell? _ _ HHd.out.2.2.1)).trans HHd.out.2.2.1, ((below_drew1 (Below.refl w6.heap.size w6)).cell (World.block_lt_of_cell? _ _ HHd.out.2.2.2.1)).trans HHd.out.2.2.2.1, ((below_drew1 (Below.refl w6.heap.size w6)).cell (World.block_lt_of_cell? _ _ HHd.out.2.2.2.2)).trans HHd.out.2.2.2.2⟩ (fun hHeld => ?_); refine with_tab tab22_10 (fun HT_ => ?_)
              have hBA := below_drew1 (Below.refl w6.heap.size w6)
              generalize w6.drew = wA at hBA hHeld ⊢
              have HFrA := Aside0.mk (HFr6.out.below hBA)
              have HOA := Aside0.mk ((hBA.block _ (lt_of HO6.out)).trans HO6.out)
              have HSA := Aside0.mk (Kd.R_below HS6.out hBA)
              have HRA := Aside0.mk (Kd.R_below HR6.out hBA)
              have HAA := Aside0.mk (And.intro ((hBA.cell (World.block_lt_of_cell? _ _ HA6.out.1)).trans HA6.out.1) ((hBA.cell (World.block_lt_of_cell? _ _ HA6.out.2)).trans HA6.out.2))
              have c2_ := (hBA.cell (World.block_lt_of_cell? _ _ HCell.out.1)).trans HCell.out.1
              have c3_ := (hBA.cell (World.block_lt_of_cell? _ _ HCell.out.2.1)).trans HCell.out.2.1
              have c4_ := (hBA.cell (World.block_lt_of_cell? _ _ HCell.out.2.2)).trans HCell.out.2.2
              have HCc := Aside0.mk (And.intro c2_ (And.intro c3_ c4_))
              clear hBA c2_ c3_ c4_
              refine pure_ (i := 0) (N := some 33) (v := ?_) (a' := ?_) #[true, false, false, false, false, false, false, false, false, false, false, false, false, false, false, false, false, false, false, false, false, false, false, false, false, false] rfl rfl (any_of HT_.out (by kernel_rfl)) (fun _ _ _ h => h) (Or.inl ⟨by rfl, ?_⟩) ?_ ?_
              rotate_left
              · intro w'
                go_simp
                with_reducible rfl
              rotate_left
              · simp only [Act.put, List.setIfInBounds_toArray, List.set_cons_zero, List.set_cons_succ, i64_w, i32_w]
                rfl
              refine pure_ (i := 2) (N := some 35) (v := ?_) (a' := ?_) #[true, false, true, false, false, false, false, false, false, false, false, false, false, false, false, false, false, false, false, false, false, false, false, false, false, false] rfl rfl (any_of HT_.out (by kernel_rfl)) (fun _ _ _ h => h) (Or.inl ⟨by rfl, ?_⟩) ?_ ?_
              rotate_left
              · intro w'
                go_simp
                with_reducible rfl
              rotate_left
              · simp only [Act.put, List.setIfInBounds_toArray, List.set_cons_zero, List.set_cons_succ, i64_w, i32_w]
                rfl
              refine pure_ (i := 6) (N := some 39) (v := ?_) (a' := ?_) #[true, false, true, false, false, false, true, false, false, false, false, false, false, false, false, false, false, false, false, false, false, false, false, false, false, false] rfl rfl (any_of HT_.out (by kernel_rfl)) (fun _ _ _ h => h) (Or.inl ⟨by rfl, ?_⟩) ?_ ?_
              rotate_left
              · intro w'
                go_simp
                with_reducible rfl
              rotate_left
              · simp only [Act.put, List.setIfInBounds_toArray, List.set_cons_zero, List.set_cons_succ, i64_w, i32_w]
                rfl
              refine pure_ (i := 7) (N := some 40) (v := ?_) (a' := ?_) #[true, false, true, false, false, false, true, true, false, false, false, false, false, false, false, false, false, false, false, false, false, false, false, false, false, false] rfl rfl (any_of HT_.out (by kernel_rfl)) (fun _ _ _ h => h) (Or.inl ⟨by rfl, ?_⟩) ?_ ?_
              rotate_left
              · intro w'
                go_simp
                with_reducible rfl
              rotate_left
              · simp only [Act.put, List.setIfInBounds_toArray, List.set_cons_zero, List.set_cons_succ, i64_w, i32_w]
                rfl
              refine pure_ (i := 8) (N := some 41) (v := ?_) (a' := ?_) #[true, false, true, false, false, false, true, true, true, false, false, false, false, false, false, false, false, false, false, false, false, false, false, false, false, false] rfl rfl (any_of HT_.out (by kernel_rfl)) (fun _ _ _ h => h) (Or.inl ⟨by rfl, ?_⟩) ?_ ?_
              rotate_left
              · intro w'
                go_simp
                with_reducible rfl
              rotate_left
              · simp only [Act.put, List.setIfInBounds_toArray, List.set_cons_zero, List.set_cons_succ, i64_w, i32_w]
                rfl
              refine pure_ (i := 9) (N := some 42) (v := ?_) (a' := ?_) #[true, false, true, false, false, false, true, true, true, true, false, false, false, false, false, false, false, false, false, false, false, false, false, false, false, false] rfl rfl (any_of HT_.out (by kernel_rfl)) (fun _ _ _ h => h) (Or.inl ⟨by rfl, ?_⟩) ?_ ?_
              rotate_left
              · intro w'
                go_simp
                with_reducible rfl
              rotate_left
              · simp only [Act.put, List.setIfInBounds_toArray, List.set_cons_zero, List.set_cons_succ, i64_w, i32_w]
                rfl
              refine take_ (i := 1) (N := some 34) (v := ?_) (a' := ?_) #[true, true, true, false, false, false, true, true, true, true, false, false, false, false, false, false, false, false, false, false, false, false, false, false, false, false] rfl rfl (take_of HT_.out (by kernel_rfl)) (fun _ _ _ h => h) (Or.inl ⟨by rfl, ?_⟩) hHeld ?_ ?_
              rotate_left
              · rintro w' ⟨s0, s1, s2, s3, s4⟩
                go_simp
                with_reducible rfl
              rotate_left
              · simp only [Act.put, List.setIfInBounds_toArray, List.set_cons_zero, List.set_cons_succ, i64_w, i32_w]
                rfl
              refine pure_ (i := 3) (N := some 36) (v := ?_) (a' := ?_) #[true, true, true, true, false, false, true, true, true, true, false, false, false, false, false, false, false, false, false, false, false, false, false, false, false, false] rfl rfl (any_of HT_.out (by kernel_rfl)) (fun _ _ _ h => h) (Or.inl ⟨by rfl, ?_⟩) ?_ ?_
              rotate_left
              · intro w'
                go_simp
                with_reducible rfl
              rotate_left
              · simp only [Act.put, List.setIfInBounds_toArray, List.set_cons_zero, List.set_cons_succ, i64_w, i32_w]
                rfl
              refine pure_ (i := 4) (N := some 37) (v := ?_) (a' := ?_) #[true, true, true, true, true, false, true, true, true, true, false, false, false, false, false, false, false, false, false, false, false, false, false, false, false, false] rfl rfl (any_of HT_.out (by kernel_rfl)) (fun _ _ _ h => h) (Or.inl ⟨by rfl, ?_⟩) ?_ ?_
              rotate_left
              · intro w'
                go_simp
                with_reducible rfl
              rotate_left
              · simp only [Act.put, List.setIfInBounds_toArray, List.set_cons_zero, List.set_cons_succ, i64_w, i32_w]
                rfl
              refine take_ (i := 5) (N := some 38) (v := ?_) (a' := ?_) #[true, true, true, true, true, true, true, true, true, true, false, false, false, false, false, false, false, false, false, false, false, false, false, false, false, false] rfl rfl (take_of HT_.out (by kernel_rfl)) (fun _ _ _ h => h) (Or.inl ⟨by rfl, ?_⟩) hHeld ?_ ?_
              rotate_left
              · rintro w' ⟨s0, s1, s2, s3, s4⟩
                go_simp
                with_reducible rfl
              rotate_left
              · simp only [Act.put, List.setIfInBounds_toArray, List.set_cons_zero, List.set_cons_succ, i64_w, i32_w]
                rfl
              refine take_ (i := 10) (N := some 43) (v := ?_) (a' := ?_) #[true, true, true, true, true, true, true, true, true, true, true, false, false, false, false, false, false, false, false, false, false, false, false, false, false, false] rfl rfl (take_of HT_.out (by kernel_rfl)) (fun _ _ _ h => h) (Or.inl ⟨by rfl, ?_⟩) hHeld ?_ ?_
              rotate_left
              · rintro w' ⟨s0, s1, s2, s3, s4⟩
                go_simp
                with_reducible rfl
              rotate_left
              · simp only [Act.put, List.setIfInBounds_toArray, List.set_cons_zero, List.set_cons_succ, i64_w, i32_w]
                rfl
              refine pure_ (i := 11) (N := some 44) (v := ?_) (a' := ?_) #[true, true, true, true, true, true, true, true, true, true, true, true, false, false, false, false, false, false, false, false, false, false, false, false, false, false] rfl rfl (any_of HT_.out (by kernel_rfl)) (fun _ _ _ h => h) (Or.inl ⟨by rfl, ?_⟩) ?_ ?_
              rotate_left
              · intro w'
                go_simp
                with_reducible rfl
              rotate_left
              · simp only [Act.put, List.setIfInBounds_toArray, List.set_cons_zero, List.set_cons_succ, i64_w, i32_w]
                rfl
              refine pure_ (i := 12) (N := some 45) (v := ?_) (a' := ?_) #[true, true, true, true, true, true, true, true, true, true, true, true, true, false, false, false, false, false, false, false, false, false, false, false, false, false] rfl rfl (any_of HT_.out (by kernel_rfl)) (fun _ _ _ h => h) (Or.inl ⟨by rfl, ?_⟩) ?_ ?_
              rotate_left
              · intro w'
                go_simp
                with_reducible rfl
              rotate_left
              · simp only [Act.put, List.setIfInBounds_toArray, List.set_cons_zero, List.set_cons_succ, i64_w, i32_w]
                rfl
              refine pure_ (i := 13) (N := some 46) (v := ?_) (a' := ?_) #[true, true, true, true, true, true, true, true, true, true, true, true, true, true, false, false, false, false, false, false, false, false, false, false, false, false] rfl rfl (any_of HT_.out (by kernel_rfl)) (fun _ _ _ h => h) (Or.inl ⟨by rfl, ?_⟩) ?_ ?_
              rotate_left
              · intro w'
                go_simp
                with_reducible rfl
              rotate_left
              · simp only [Act.put, List.setIfInBounds_toArray, List.set_cons_zero, List.set_cons_succ, i64_w, i32_w]
                rfl
              refine pure_ (i := 15) (N := some 48) (v := ?_) (a' := ?_) #[true, true, true, true, true, true, true, true, true, true, true, true, true, true, false, true, false, false, false, false, false, false, false, false, false, false] rfl rfl (any_of HT_.out (by kernel_rfl)) (fun _ _ _ h => h) (Or.inl ⟨by rfl, ?_⟩) ?_ ?_
              rotate_left
              · intro w'
                go_simp
                with_reducible rfl
              rotate_left
              · simp only [Act.put, List.setIfInBounds_toArray, List.set_cons_zero, List.set_cons_succ, i64_w, i32_w]
                rfl
              refine pure_ (i := 19) (N := some 52) (v := ?_) (a' := ?_) #[true, true, true, true, true, true, true, true, true, true, true, true, true, true, false, true, false, false, false, true, false, false, false, false, false, false] rfl rfl (any_of HT_.out (by kernel_rfl)) (fun _ _ _ h => h) (Or.inl ⟨by rfl, ?_⟩) ?_ ?_
              rotate_left
              · intro w'
                go_simp
                with_reducible rfl
              rotate_left
              · simp only [Act.put, List.setIfInBounds_toArray, List.set_cons_zero, List.set_cons_succ, i64_w, i32_w]
                rfl
              refine pure_ (i := 20) (N := some 53) (v := ?_) (a' := ?_) #[true, true, true, true, true, true, true, true, true, true, true, true, true, true, false, true, false, false, false, true, true, false, false, false, false, false] rfl rfl (any_of HT_.out (by kernel_rfl)) (fun _ _ _ h => h) (Or.inl ⟨by rfl, ?_⟩) ?_ ?_
              rotate_left
              · intro w'
                go_simp
                with_reducible rfl
              rotate_left
              · simp only [Act.put, List.setIfInBounds_toArray, List.set_cons_zero, List.set_cons_succ, i64_w, i32_w]
                rfl
              refine pure_ (i := 21) (N := some 54) (v := ?_) (a' := ?_) #[true, true, true, true, true, true, true, true, true, true, true, true, true, true, false, true, false, false, false, true, true, true, false, false, false, false] rfl rfl (any_of HT_.out (by kernel_rfl)) (fun _ _ _ h => h) (Or.inl ⟨by rfl, ?_⟩) ?_ ?_
              rotate_left
              · intro w'
                go_simp
                with_reducible rfl
              rotate_left
              · simp only [Act.put, List.setIfInBounds_toArray, List.set_cons_zero, List.set_cons_succ, i64_w, i32_w]
                rfl
              refine pure_ (i := 22) (N := some 55) (v := ?_) (a' := ?_) #[true, true, true, true, true, true, true, true, true, true, true, true, true, true, false, true, false, false, false, true, true, true, true, false, false, false] rfl rfl (any_of HT_.out (by kernel_rfl)) (fun _ _ _ h => h) (Or.inl ⟨by rfl, ?_⟩) ?_ ?_
              rotate_left
              · intro w'
                go_simp
                with_reducible rfl
              rotate_left
              · simp only [Act.put, List.setIfInBounds_toArray, List.set_cons_zero, List.set_cons_succ, i64_w, i32_w]
                rfl
              refine take_ (i := 14) (N := some 47) (v := ?_) (a' := ?_) #[true, true, true, true, true, true, true, true, true, true, true, true, true, true, true, true, false, false, false, true, true, true, true, false, false, false] rfl rfl (take_of HT_.out (by kernel_rfl)) (fun _ _ _ h => h) (Or.inl ⟨by rfl, ?_⟩) hHeld ?_ ?_
              rotate_left
              · rintro w' ⟨s0, s1, s2, s3, s4⟩
                go_simp
                with_reducible rfl
              rotate_left
              · simp only [Act.put, List.setIfInBounds_toArray, List.set_cons_zero, List.set_cons_succ, i64_w, i32_w]
                rfl
              refine pure_ (i := 16) (N := some 49) (v := ?_) (a' := ?_) #[true, true, true, true, true, true, true, true, true, true, true, true, true, true, true, true, true, false, false, true, true, true, true, false, false, false] rfl rfl (any_of HT_.out (by kernel_rfl)) (fun _ _ _ h => h) (Or.inl ⟨by rfl, ?_⟩) ?_ ?_
              rotate_left
              · intro w'
                go_simp
                with_reducible rfl
              rotate_left
              · simp only [Act.put, List.setIfInBounds_toArray, List.set_cons_zero, List.set_cons_succ, i64_w, i32_w]
                rfl
              refine pure_ (i := 17) (N := some 50) (v := ?_) (a' := ?_) #[true, true, true, true, true, true, true, true, true, true, true, true, true, true, true, true, true, true, false, true, true, true, true, false, false, false] rfl rfl (any_of HT_.out (by kernel_rfl)) (fun _ _ _ h => h) (Or.inl ⟨by rfl, ?_⟩) ?_ ?_
              rotate_left
              · intro w'
                go_simp
                with_reducible rfl
              rotate_left
              · simp only [Act.put, List.setIfInBounds_toArray, List.set_cons_zero, List.set_cons_succ, i64_w, i32_w]
                rfl
              refine take_ (i := 18) (N := some 51) (v := ?_) (a' := ?_) #[true, true, true, true, true, true, true, true, true, true, true, true, true, true, true, true, true, true, true, true, true, true, true, false, false, false] rfl rfl (take_of HT_.out (by kernel_rfl)) (fun _ _ _ h => h) (Or.inl ⟨by rfl, ?_⟩) hHeld ?_ ?_
              rotate_left
              · rintro w' ⟨s0, s1, s2, s3, s4⟩
                go_simp
                with_reducible rfl
              rotate_left
              · simp only [Act.put, List.setIfInBounds_toArray, List.set_cons_zero, List.set_cons_succ, i64_w, i32_w]
                rfl
              refine take_ (i := 23) (N := some 56) (v := ?_) (a' := ?_) #[true, true, true, true, true, true, true, true, true, true, true, true, true, true, true, true, true, true, true, true, true, true, true, true, false, false] rfl rfl (take_of HT_.out (by kernel_rfl)) (fun _ _ _ h => h) (Or.inl ⟨by rfl, ?_⟩) hHeld ?_ ?_
              rotate_left
              · rintro w' ⟨s0, s1, s2, s3, s4⟩
                go_simp
                with_reducible rfl
              rotate_left
              · simp only [Act.put, List.setIfInBounds_toArray, List.set_cons_zero, List.set_cons_succ, i64_w, i32_w]
                rfl
              refine pure_ (i := 24) (N := some 57) (v := ?_) (a' := ?_) #[true, true, true, true, true, true, true, true, true, true, true, true, true, true, true, true, true, true, true, true, true, true, true, true, true, false] rfl rfl (any_of HT_.out (by kernel_rfl)) (fun _ _ _ h => h) (Or.inl ⟨by rfl, ?_⟩) ?_ ?_
              rotate_left
              · intro w'
                go_simp
                with_reducible rfl
              rotate_left
              · simp only [Act.put, List.setIfInBounds_toArray, List.set_cons_zero, List.set_cons_succ, i64_w, i32_w]
                rfl
              refine pure_ (i := 25) (N := some 58) (v := ?_) (a' := ?_) #[true, true, true, true, true, true, true, true, true, true, true, true, true, true, true, true, true, true, true, true, true, true, true, true, true, true] rfl rfl (any_of HT_.out (by kernel_rfl)) (fun _ _ _ h => h) (Or.inl ⟨by rfl, ?_⟩) ?_ ?_
              rotate_left
              · intro w'
                go_simp
                with_reducible rfl
              rotate_left
              · simp only [Act.put, List.setIfInBounds_toArray, List.set_cons_zero, List.set_cons_succ, i64_w, i32_w]
                rfl
              refine done_ (done_of HT_.out (by kernel_rfl)) ?_
              have HHe := Aside0.mk hHeld
              clear hHeld HT_ HFr6 HO6 HS6 HR6 HA6
              --@G1
              have m1 := HHe.out.1
              have b2 := HCc.out.1
              have b3 := HCc.out.2.1
              have b4 := HCc.out.2.2
              have hB7 := below_alloc (Below.refl wA.heap.size wA) (.cells #[.string s.f2.f0, .string s.f2.f1, .bool s.f2.f2] 44)
              have HB7 := Aside0.mk hB7
              have HX7 := Aside0.mk (heap_new wA (.cells #[.string s.f2.f0, .string s.f2.f1, .bool s.f2.f2] 44))
              have HR7 := Aside0.mk (Kd.R_below HRA.out hB7)
              have HBs7 := Aside0.mk (Nat.le_trans HFrA.out.size hB7.size)
              have HFr7 := Aside0.mk (HFrA.out.below hB7)
              have HO7 := Aside0.mk ((hB7.block _ (lt_of HOA.out)).trans HOA.out)
              have HS7 := Aside0.mk (Kd.R_below HSA.out hB7)
              have hll : ((rangesAt (f.ss.take k2) ⟨y.f0, y.f1⟩).length + 1) * 40 ≤ 140737488355328 := by have h1 := rangesAt_len (f.ss.take k2) ⟨y.f0, y.f1⟩; have h2 := List.length_take_le k2 f.ss; omega
              have HLL := Aside0.mk hll
              clear hB7 hll
              skip
              --@G2
              go_wp2_with ((with_reducible refine gate_builtin (b := .append) (xs := #[.tmp 59, .tmp 66]) rfl ?_); at_builtin; (refine app44 (wA.alloc (.cells #[.string s.f2.f0, .string s.f2.f1, .bool s.f2.f2] 44)) rfl (.tmp 59) (.tmp 66) rfl w3.heap.size u6 (rangesAt (f.ss.take k2) ⟨y.f0, y.f1⟩) s.f2 rfl wA.heap.size rfl HX7.out HR7.out HBs7.out HLL.out ?_); intro v8 w8 hv8 hg8 hat8; have HR8 := Aside0.mk hv8; have HFr8 := Aside0.mk (HFr7.out.grown hg8 (fun k e => Kd.R_base HR7.out k e)); have HO8 := Aside0.mk (blk_by HR7.out HO7.out (by decide) hg8); have HS8 := Aside0.mk (R46_by44 HS7.out HR7.out hg8); have HA8 := Aside0.mk (And.intro (HFr8.out.cell HX3.out HSl.out HA3.out.1 rfl) (HFr8.out.cell HX3.out HSl.out HA3.out.2 rfl)); clear hv8 hg8 hat8)
              --@G3
              go_roundg (f.ss.length - (k2 + 1))
              case measure => have := HM6.out; omega
              case rel => exact ⟨k2 + 1, by go_num, hltB, ⟨Nat.le_refl _⟩, ⟨HFr8.out⟩, ⟨HO8.out⟩, ⟨HS8.out⟩, ⟨by rw [take_snoc HSs.out, rangesAt_snoc]; rw [if_pos (by unfold plS; rw [HE0.out, HE1.out])]; exact HR8.out⟩, ⟨HA8.out⟩⟩
            · rw [e0] at b0
              have HHd := Aside0.mk (show _ ∧ _ ∧ _ ∧ _ ∧ _ from ⟨m1, a0, a1, b0, b1⟩)
              have HCell := Aside0.mk (show _ ∧ _ ∧ _ from ⟨b2, b3, b4⟩)
              have HE0 := Aside0.mk e0
              clear e0
              have e1b : (s.f1 == y.f1) = false := by simpa using e1
              have HE1 := Aside0.mk e1
              clear e1
              clear m1 a0 a1 b0 b1 b2 b3 b4
              refine start_ (n := 26) (S := fun w' => w'.cell? ⟨w.heap.size, 1, none⟩ = some (.slice (some ad2) f.ss.length c1) ∧ w'.cell? (ad.add (k * 3)) = some (.int .i64 y.f0) ∧ w'.cell? ⟨(ad.add (k * 3)).block, (ad.add (k * 3)).off + 1, none⟩ = some (.int .i64 y.f1) ∧ w'.cell? (ad2.add (k2 * 5)) = some (.int .i64 y.f0) ∧ w'.cell? ⟨(ad2.add (k2 * 5)).block, (ad2.add (k2 * 5)).off + 1, none⟩ = some (.int .i64 s.f1)) (ds := []) #[false, false, false, false, false, false, false, false, false, false, false, false, false, false, false, false, false, false, false, false, false, false, false, false, false, false] (by kernel_rfl) rfl rfl ⟨((below_drew1 (Below.refl w6.heap.size w6)).cell (World.block_lt_of_cell? _ _ HHd.out.1)).trans HHd.out.1, ((below_drew1 (Below.refl w6.heap.size w6)).cell (World.block_lt_of_cell? _ _ HHd.out.2.1)).trans HHd.out.2.1, ((below_drew1 (Below.refl w6.heap.size w6)).cell (World.block_lt_of_cell? _ _ HHd.out.2.2.1)).trans HHd.out.2.2.1, ((below_drew1 (Below.refl w6.heap.size w6)).cell (World.block_lt_of_cell? _ _ HHd.out.2.2.2.1)).trans HHd.out.2.2.2.1, ((below_drew1 (Below.refl w6.heap.size w6)).cell (World.block_lt_of_cell? _ _ HHd.out.2.2.2.2)).trans HHd.out.2.2.2.2⟩ (fun hHeld => ?_); refine with_tab tab22_10 (fun HT_ => ?_)
              have hBA := below_drew1 (Below.refl w6.heap.size w6)
              generalize w6.drew = wA at hBA hHeld ⊢
              have HFrA := Aside0.mk (HFr6.out.below hBA)
              have HOA := Aside0.mk ((hBA.block _ (lt_of HO6.out)).trans HO6.out)
              have HSA := Aside0.mk (Kd.R_below HS6.out hBA)
              have HRA := Aside0.mk (Kd.R_below HR6.out hBA)
              have HAA := Aside0.mk (And.intro ((hBA.cell (World.block_lt_of_cell? _ _ HA6.out.1)).trans HA6.out.1) ((hBA.cell (World.block_lt_of_cell? _ _ HA6.out.2)).trans HA6.out.2))
              have c2_ := (hBA.cell (World.block_lt_of_cell? _ _ HCell.out.1)).trans HCell.out.1
              have c3_ := (hBA.cell (World.block_lt_of_cell? _ _ HCell.out.2.1)).trans HCell.out.2.1
              have c4_ := (hBA.cell (World.block_lt_of_cell? _ _ HCell.out.2.2)).trans HCell.out.2.2
              have HCc := Aside0.mk (And.intro c2_ (And.intro c3_ c4_))
              clear hBA c2_ c3_ c4_
              refine pure_ (i := 0) (N := some 33) (v := ?_) (a' := ?_) #[true, false, false, false, false, false, false, false, false, false, false, false, false, false, false, false, false, false, false, false, false, false, false, false, false, false] rfl rfl (any_of HT_.out (by kernel_rfl)) (fun _ _ _ h => h) (Or.inl ⟨by rfl, ?_⟩) ?_ ?_
              rotate_left
              · intro w'
                go_simp
                with_reducible rfl
              rotate_left
              · simp only [Act.put, List.setIfInBounds_toArray, List.set_cons_zero, List.set_cons_succ, i64_w, i32_w]
                rfl
              refine pure_ (i := 2) (N := some 35) (v := ?_) (a' := ?_) #[true, false, true, false, false, false, false, false, false, false, false, false, false, false, false, false, false, false, false, false, false, false, false, false, false, false] rfl rfl (any_of HT_.out (by kernel_rfl)) (fun _ _ _ h => h) (Or.inl ⟨by rfl, ?_⟩) ?_ ?_
              rotate_left
              · intro w'
                go_simp
                with_reducible rfl
              rotate_left
              · simp only [Act.put, List.setIfInBounds_toArray, List.set_cons_zero, List.set_cons_succ, i64_w, i32_w]
                rfl
              refine pure_ (i := 6) (N := some 39) (v := ?_) (a' := ?_) #[true, false, true, false, false, false, true, false, false, false, false, false, false, false, false, false, false, false, false, false, false, false, false, false, false, false] rfl rfl (any_of HT_.out (by kernel_rfl)) (fun _ _ _ h => h) (Or.inl ⟨by rfl, ?_⟩) ?_ ?_
              rotate_left
              · intro w'
                go_simp
                with_reducible rfl
              rotate_left
              · simp only [Act.put, List.setIfInBounds_toArray, List.set_cons_zero, List.set_cons_succ, i64_w, i32_w]
                rfl
              refine pure_ (i := 7) (N := some 40) (v := ?_) (a' := ?_) #[true, false, true, false, false, false, true, true, false, false, false, false, false, false, false, false, false, false, false, false, false, false, false, false, false, false] rfl rfl (any_of HT_.out (by kernel_rfl)) (fun _ _ _ h => h) (Or.inl ⟨by rfl, ?_⟩) ?_ ?_
              rotate_left
              · intro w'
                go_simp
                with_reducible rfl
              rotate_left
              · simp only [Act.put, List.setIfInBounds_toArray, List.set_cons_zero, List.set_cons_succ, i64_w, i32_w]
                rfl
              refine pure_ (i := 8) (N := some 41) (v := ?_) (a' := ?_) #[true, false, true, false, false, false, true, true, true, false, false, false, false, false, false, false, false, false, false, false, false, false, false, false, false, false] rfl rfl (any_of HT_.out (by kernel_rfl)) (fun _ _ _ h => h) (Or.inl ⟨by rfl, ?_⟩) ?_ ?_
              rotate_left
              · intro w'
                go_simp
                with_reducible rfl
              rotate_left
              · simp only [Act.put, List.setIfInBounds_toArray, List.set_cons_zero, List.set_cons_succ, i64_w, i32_w]
                rfl
              refine pure_ (i := 9) (N := some 42) (v := ?_) (a' := ?_) #[true, false, true, false, false, false, true, true, true, true, false, false, false, false, false, false, false, false, false, false, false, false, false, false, false, false] rfl rfl (any_of HT_.out (by kernel_rfl)) (fun _ _ _ h => h) (Or.inl ⟨by rfl, ?_⟩) ?_ ?_
              rotate_left
              · intro w'
                go_simp
                with_reducible rfl
              rotate_left
              · simp only [Act.put, List.setIfInBounds_toArray, List.set_cons_zero, List.set_cons_succ, i64_w, i32_w]
                rfl
              refine take_ (i := 1) (N := some 34) (v := ?_) (a' := ?_) #[true, true, true, false, false, false, true, true, true, true, false, false, false, false, false, false, false, false, false, false, false, false, false, false, false, false] rfl rfl (take_of HT_.out (by kernel_rfl)) (fun _ _ _ h => h) (Or.inl ⟨by rfl, ?_⟩) hHeld ?_ ?_
              rotate_left
              · rintro w' ⟨s0, s1, s2, s3, s4⟩
                go_simp
                with_reducible rfl
              rotate_left
              · simp only [Act.put, List.setIfInBounds_toArray, List.set_cons_zero, List.set_cons_succ, i64_w, i32_w]
                rfl
              refine pure_ (i := 3) (N := some 36) (v := ?_) (a' := ?_) #[true, true, true, true, false, false, true, true, true, true, false, false, false, false, false, false, false, false, false, false, false, false, false, false, false, false] rfl rfl (any_of HT_.out (by kernel_rfl)) (fun _ _ _ h => h) (Or.inl ⟨by rfl, ?_⟩) ?_ ?_
              rotate_left
              · intro w'
                go_simp
                with_reducible rfl
              rotate_left
              · simp only [Act.put, List.setIfInBounds_toArray, List.set_cons_zero, List.set_cons_succ, i64_w, i32_w]
                rfl
              refine pure_ (i := 4) (N := some 37) (v := ?_) (a' := ?_) #[true, true, true, true, true, false, true, true, true, true, false, false, false, false, false, false, false, false, false, false, false, false, false, false, false, false] rfl rfl (any_of HT_.out (by kernel_rfl)) (fun _ _ _ h => h) (Or.inl ⟨by rfl, ?_⟩) ?_ ?_
              rotate_left
              · intro w'
                go_simp
                with_reducible rfl
              rotate_left
              · simp only [Act.put, List.setIfInBounds_toArray, List.set_cons_zero, List.set_cons_succ, i64_w, i32_w]
                rfl
              refine take_ (i := 5) (N := some 38) (v := ?_) (a' := ?_) #[true, true, true, true, true, true, true, true, true, true, false, false, false, false, false, false, false, false, false, false, false, false, false, false, false, false] rfl rfl (take_of HT_.out (by kernel_rfl)) (fun _ _ _ h => h) (Or.inl ⟨by rfl, ?_⟩) hHeld ?_ ?_
              rotate_left
              · rintro w' ⟨s0, s1, s2, s3, s4⟩
                go_simp
                with_reducible rfl
              rotate_left
              · simp only [Act.put, List.setIfInBounds_toArray, List.set_cons_zero, List.set_cons_succ, i64_w, i32_w]
                rfl
              refine take_ (i := 10) (N := some 43) (v := ?_) (a' := ?_) #[true, true, true, true, true, true, true, true, true, true, true, false, false, false, false, false, false, false, false, false, false, false, false, false, false, false] rfl rfl (take_of HT_.out (by kernel_rfl)) (fun _ _ _ h => h) (Or.inl ⟨by rfl, ?_⟩) hHeld ?_ ?_
              rotate_left
              · rintro w' ⟨s0, s1, s2, s3, s4⟩
                go_simp
                with_reducible rfl
              rotate_left
              · simp only [Act.put, List.setIfInBounds_toArray, List.set_cons_zero, List.set_cons_succ, i64_w, i32_w]
                rfl
              refine pure_ (i := 11) (N := some 44) (v := ?_) (a' := ?_) #[true, true, true, true, true, true, true, true, true, true, true, true, false, false, false, false, false, false, false, false, false, false, false, false, false, false] rfl rfl (any_of HT_.out (by kernel_rfl)) (fun _ _ _ h => h) (Or.inl ⟨by rfl, ?_⟩) ?_ ?_
              rotate_left
              · intro w'
                go_simp
                with_reducible rfl
              rotate_left
              · simp only [Act.put, List.setIfInBounds_toArray, List.set_cons_zero, List.set_cons_succ, i64_w, i32_w]
                rfl
              refine pure_ (i := 12) (N := some 45) (v := ?_) (a' := ?_) #[true, true, true, true, true, true, true, true, true, true, true, true, true, false, false, false, false, false, false, false, false, false, false, false, false, false] rfl rfl (any_of HT_.out (by kernel_rfl)) (fun _ _ _ h => h) (Or.inl ⟨by rfl, ?_⟩) ?_ ?_
              rotate_left
              · intro w'
                go_simp
                with_reducible rfl
              rotate_left
              · simp only [Act.put, List.setIfInBounds_toArray, List.set_cons_zero, List.set_cons_succ, i64_w, i32_w]
                rfl
              refine pure_ (i := 13) (N := some 46) (v := ?_) (a' := ?_) #[true, true, true, true, true, true, true, true, true, true, true, true, true, true, false, false, false, false, false, false, false, false, false, false, false, false] rfl rfl (any_of HT_.out (by kernel_rfl)) (fun _ _ _ h => h) (Or.inl ⟨by rfl, ?_⟩) ?_ ?_
              rotate_left
              · intro w'
                go_simp
                with_reducible rfl
              rotate_left
              · simp only [Act.put, List.setIfInBounds_toArray, List.set_cons_zero, List.set_cons_succ, i64_w, i32_w]
                rfl
              refine pure_ (i := 15) (N := some 48) (v := ?_) (a' := ?_) #[true, true, true, true, true, true, true, true, true, true, true, true, true, true, false, true, false, false, false, false, false, false, false, false, false, false] rfl rfl (any_of HT_.out (by kernel_rfl)) (fun _ _ _ h => h) (Or.inl ⟨by rfl, ?_⟩) ?_ ?_
              rotate_left
              · intro w'
                go_simp
                with_reducible rfl
              rotate_left
              · simp only [Act.put, List.setIfInBounds_toArray, List.set_cons_zero, List.set_cons_succ, i64_w, i32_w]
                rfl
              refine pure_ (i := 19) (N := some 52) (v := ?_) (a' := ?_) #[true, true, true, true, true, true, true, true, true, true, true, true, true, true, false, true, false, false, false, true, false, false, false, false, false, false] rfl rfl (any_of HT_.out (by kernel_rfl)) (fun _ _ _ h => h) (Or.inl ⟨by rfl, ?_⟩) ?_ ?_
              rotate_left
              · intro w'
                go_simp
                with_reducible rfl
              rotate_left
              · simp only [Act.put, List.setIfInBounds_toArray, List.set_cons_zero, List.set_cons_succ, i64_w, i32_w]
                rfl
              refine pure_ (i := 20) (N := some 53) (v := ?_) (a' := ?_) #[true, true, true, true, true, true, true, true, true, true, true, true, true, true, false, true, false, false, false, true, true, false, false, false, false, false] rfl rfl (any_of HT_.out (by kernel_rfl)) (fun _ _ _ h => h) (Or.inl ⟨by rfl, ?_⟩) ?_ ?_
              rotate_left
              · intro w'
                go_simp
                with_reducible rfl
              rotate_left
              · simp only [Act.put, List.setIfInBounds_toArray, List.set_cons_zero, List.set_cons_succ, i64_w, i32_w]
                rfl
              refine pure_ (i := 21) (N := some 54) (v := ?_) (a' := ?_) #[true, true, true, true, true, true, true, true, true, true, true, true, true, true, false, true, false, false, false, true, true, true, false, false, false, false] rfl rfl (any_of HT_.out (by kernel_rfl)) (fun _ _ _ h => h) (Or.inl ⟨by rfl, ?_⟩) ?_ ?_
              rotate_left
              · intro w'
                go_simp
                with_reducible rfl
              rotate_left
              · simp only [Act.put, List.setIfInBounds_toArray, List.set_cons_zero, List.set_cons_succ, i64_w, i32_w]
                rfl
              refine pure_ (i := 22) (N := some 55) (v := ?_) (a' := ?_) #[true, true, true, true, true, true, true, true, true, true, true, true, true, true, false, true, false, false, false, true, true, true, true, false, false, false] rfl rfl (any_of HT_.out (by kernel_rfl)) (fun _ _ _ h => h) (Or.inl ⟨by rfl, ?_⟩) ?_ ?_
              rotate_left
              · intro w'
                go_simp
                with_reducible rfl
              rotate_left
              · simp only [Act.put, List.setIfInBounds_toArray, List.set_cons_zero, List.set_cons_succ, i64_w, i32_w]
                rfl
              refine take_ (i := 14) (N := some 47) (v := ?_) (a' := ?_) #[true, true, true, true, true, true, true, true, true, true, true, true, true, true, true, true, false, false, false, true, true, true, true, false, false, false] rfl rfl (take_of HT_.out (by kernel_rfl)) (fun _ _ _ h => h) (Or.inl ⟨by rfl, ?_⟩) hHeld ?_ ?_
              rotate_left
              · rintro w' ⟨s0, s1, s2, s3, s4⟩
                go_simp
                with_reducible rfl
              rotate_left
              · simp only [Act.put, List.setIfInBounds_toArray, List.set_cons_zero, List.set_cons_succ, i64_w, i32_w]
                rfl
              refine pure_ (i := 16) (N := some 49) (v := ?_) (a' := ?_) #[true, true, true, true, true, true, true, true, true, true, true, true, true, true, true, true, true, false, false, true, true, true, true, false, false, false] rfl rfl (any_of HT_.out (by kernel_rfl)) (fun _ _ _ h => h) (Or.inl ⟨by rfl, ?_⟩) ?_ ?_
              rotate_left
              · intro w'
                go_simp
                with_reducible rfl
              rotate_left
              · simp only [Act.put, List.setIfInBounds_toArray, List.set_cons_zero, List.set_cons_succ, i64_w, i32_w]
                rfl
              refine pure_ (i := 17) (N := some 50) (v := ?_) (a' := ?_) #[true, true, true, true, true, true, true, true, true, true, true, true, true, true, true, true, true, true, false, true, true, true, true, false, false, false] rfl rfl (any_of HT_.out (by kernel_rfl)) (fun _ _ _ h => h) (Or.inl ⟨by rfl, ?_⟩) ?_ ?_
              rotate_left
              · intro w'
                go_simp
                with_reducible rfl
              rotate_left
              · simp only [Act.put, List.setIfInBounds_toArray, List.set_cons_zero, List.set_cons_succ, i64_w, i32_w]
                rfl
              refine take_ (i := 18) (N := some 51) (v := ?_) (a' := ?_) #[true, true, true, true, true, true, true, true, true, true, true, true, true, true, true, true, true, true, true, true, true, true, true, false, false, false] rfl rfl (take_of HT_.out (by kernel_rfl)) (fun _ _ _ h => h) (Or.inl ⟨by rfl, ?_⟩) hHeld ?_ ?_
              rotate_left
              · rintro w' ⟨s0, s1, s2, s3, s4⟩
                go_simp
                with_reducible rfl
              rotate_left
              · simp only [Act.put, List.setIfInBounds_toArray, List.set_cons_zero, List.set_cons_succ, i64_w, i32_w]
                rfl
              refine take_ (i := 23) (N := some 56) (v := ?_) (a' := ?_) #[true, true, true, true, true, true, true, true, true, true, true, true, true, true, true, true, true, true, true, true, true, true, true, true, false, false] rfl rfl (take_of HT_.out (by kernel_rfl)) (fun _ _ _ h => h) (Or.inl ⟨by rfl, ?_⟩) hHeld ?_ ?_
              rotate_left
              · rintro w' ⟨s0, s1, s2, s3, s4⟩
                go_simp
                with_reducible rfl
              rotate_left
              · simp only [Act.put, List.setIfInBounds_toArray, List.set_cons_zero, List.set_cons_succ, i64_w, i32_w]
                rfl
              refine pure_ (i := 24) (N := some 57) (v := ?_) (a' := ?_) #[true, true, true, true, true, true, true, true, true, true, true, true, true, true, true, true, true, true, true, true, true, true, true, true, true, false] rfl rfl (any_of HT_.out (by kernel_rfl)) (fun _ _ _ h => h) (Or.inl ⟨by rfl, ?_⟩) ?_ ?_
              rotate_left
              · intro w'
                go_simp
                with_reducible rfl
              rotate_left
              · simp only [Act.put, List.setIfInBounds_toArray, List.set_cons_zero, List.set_cons_succ, i64_w, i32_w]
                rfl
              refine pure_ (i := 25) (N := some 58) (v := ?_) (a' := ?_) #[true, true, true, true, true, true, true, true, true, true, true, true, true, true, true, true, true, true, true, true, true, true, true, true, true, true] rfl rfl (any_of HT_.out (by kernel_rfl)) (fun _ _ _ h => h) (Or.inl ⟨by rfl, ?_⟩) ?_ ?_
              rotate_left
              · intro w'
                go_simp
                with_reducible rfl
              rotate_left
              · simp only [Act.put, List.setIfInBounds_toArray, List.set_cons_zero, List.set_cons_succ, i64_w, i32_w]
                rfl
              refine done_ (done_of HT_.out (by kernel_rfl)) ?_
              have HHe := Aside0.mk hHeld
              clear hHeld HT_ HFr6 HO6 HS6 HR6 HA6
              --@G4
              go_wp2
              --@G5
              go_roundg (f.ss.length - (k2 + 1))
              case measure => have := HM6.out; omega
              case rel => exact ⟨k2 + 1, by go_num, hltB, ⟨Nat.le_refl _⟩, ⟨HFrA.out⟩, ⟨HOA.out⟩, ⟨HSA.out⟩, ⟨by rw [take_snoc HSs.out, rangesAt_snoc]; rw [if_neg (by unfold plS; intro e; have := congrArg SPl.f1 e; exact HE1.out this), List.append_nil]; exact HRA.out⟩, ⟨HAA.out⟩⟩
          · have HHd := Aside0.mk (show _ ∧ _ ∧ _ ∧ _ ∧ _ from ⟨m1, a0, a1, b0, b1⟩)
            have HCell := Aside0.mk (show _ ∧ _ ∧ _ from ⟨b2, b3, b4⟩)
            have e0b : (s.f0 == y.f0) = false := by simpa using e0
            have HE0 := Aside0.mk e0
            clear e0
            clear m1 a0 a1 b0 b1 b2 b3 b4
            refine start_ (n := 26) (S := fun w' => w'.cell? ⟨w.heap.size, 1, none⟩ = some (.slice (some ad2) f.ss.length c1) ∧ w'.cell? (ad.add (k * 3)) = some (.int .i64 y.f0) ∧ w'.cell? ⟨(ad.add (k * 3)).block, (ad.add (k * 3)).off + 1, none⟩ = some (.int .i64 y.f1) ∧ w'.cell? (ad2.add (k2 * 5)) = some (.int .i64 s.f0) ∧ w'.cell? ⟨(ad2.add (k2 * 5)).block, (ad2.add (k2 * 5)).off + 1, none⟩ = some (.int .i64 s.f1)) (ds := []) #[false, false, false, false, false, false, false, false, false, false, false, false, false, false, false, false, false, false, false, false, false, false, false, false, false, false] (by kernel_rfl) rfl rfl ⟨((below_drew1 (Below.refl w6.heap.size w6)).cell (World.block_lt_of_cell? _ _ HHd.out.1)).trans HHd.out.1, ((below_drew1 (Below.refl w6.heap.size w6)).cell (World.block_lt_of_cell? _ _ HHd.out.2.1)).trans HHd.out.2.1, ((below_drew1 (Below.refl w6.heap.size w6)).cell (World.block_lt_of_cell? _ _ HHd.out.2.2.1)).trans HHd.out.2.2.1, ((below_drew1 (Below.refl w6.heap.size w6)).cell (World.block_lt_of_cell? _ _ HHd.out.2.2.2.1)).trans HHd.out.2.2.2.1, ((below_drew1 (Below.refl w6.heap.size w6)).cell (World.block_lt_of_cell? _ _ HHd.out.2.2.2.2)).trans HHd.out.2.2.2.2⟩ (fun hHeld => ?_); refine with_tab tab22_10 (fun HT_ => ?_)
            have hBA := below_drew1 (Below.refl w6.heap.size w6)
            generalize w6.drew = wA at hBA hHeld ⊢
            have HFrA := Aside0.mk (HFr6.out.below hBA)
            have HOA := Aside0.mk ((hBA.block _ (lt_of HO6.out)).trans HO6.out)
            have HSA := Aside0.mk (Kd.R_below HS6.out hBA)
            have HRA := Aside0.mk (Kd.R_below HR6.out hBA)
            have HAA := Aside0.mk (And.intro ((hBA.cell (World.block_lt_of_cell? _ _ HA6.out.1)).trans HA6.out.1) ((hBA.cell (World.block_lt_of_cell? _ _ HA6.out.2)).trans HA6.out.2))
            have c2_ := (hBA.cell (World.block_lt_of_cell? _ _ HCell.out.1)).trans HCell.out.1
            have c3_ := (hBA.cell (World.block_lt_of_cell? _ _ HCell.out.2.1)).trans HCell.out.2.1
            have c4_ := (hBA.cell (World.block_lt_of_cell? _ _ HCell.out.2.2)).trans HCell.out.2.2
            have HCc := Aside0.mk (And.intro c2_ (And.intro c3_ c4_))
            clear hBA c2_ c3_ c4_
            refine pure_ (i := 0) (N := some 33) (v := ?_) (a' := ?_) #[true, false, false, false, false, false, false, false, false, false, false, false, false, false, false, false, false, false, false, false, false, false, false, false, false, false] rfl rfl (any_of HT_.out (by kernel_rfl)) (fun _ _ _ h => h) (Or.inl ⟨by rfl, ?_⟩) ?_ ?_
            rotate_left
            · intro w'
              go_simp
              with_reducible rfl
            rotate_left
            · simp only [Act.put, List.setIfInBounds_toArray, List.set_cons_zero, List.set_cons_succ, i64_w, i32_w]
              rfl
            refine pure_ (i := 2) (N := some 35) (v := ?_) (a' := ?_) #[true, false, true, false, false, false, false, false, false, false, false, false, false, false, false, false, false, false, false, false, false, false, false, false, false, false] rfl rfl (any_of HT_.out (by kernel_rfl)) (fun _ _ _ h => h) (Or.inl ⟨by rfl, ?_⟩) ?_ ?_
            rotate_left
            · intro w'
              go_simp
              with_reducible rfl
            rotate_left
            · simp only [Act.put, List.setIfInBounds_toArray, List.set_cons_zero, List.set_cons_succ, i64_w, i32_w]
              rfl
            refine pure_ (i := 6) (N := some 39) (v := ?_) (a' := ?_) #[true, false, true, false, false, false, true, false, false, false, false, false, false, false, false, false, false, false, false, false, false, false, false, false, false, false] rfl rfl (any_of HT_.out (by kernel_rfl)) (fun _ _ _ h => h) (Or.inl ⟨by rfl, ?_⟩) ?_ ?_
            rotate_left
            · intro w'
              go_simp
              with_reducible rfl
            rotate_left
            · simp only [Act.put, List.setIfInBounds_toArray, List.set_cons_zero, List.set_cons_succ, i64_w, i32_w]
              rfl
            refine pure_ (i := 7) (N := some 40) (v := ?_) (a' := ?_) #[true, false, true, false, false, false, true, true, false, false, false, false, false, false, false, false, false, false, false, false, false, false, false, false, false, false] rfl rfl (any_of HT_.out (by kernel_rfl)) (fun _ _ _ h => h) (Or.inl ⟨by rfl, ?_⟩) ?_ ?_
            rotate_left
            · intro w'
              go_simp
              with_reducible rfl
            rotate_left
            · simp only [Act.put, List.setIfInBounds_toArray, List.set_cons_zero, List.set_cons_succ, i64_w, i32_w]
              rfl
            refine pure_ (i := 8) (N := some 41) (v := ?_) (a' := ?_) #[true, false, true, false, false, false, true, true, true, false, false, false, false, false, false, false, false, false, false, false, false, false, false, false, false, false] rfl rfl (any_of HT_.out (by kernel_rfl)) (fun _ _ _ h => h) (Or.inl ⟨by rfl, ?_⟩) ?_ ?_
            rotate_left
            · intro w'
              go_simp
              with_reducible rfl
            rotate_left
            · simp only [Act.put, List.setIfInBounds_toArray, List.set_cons_zero, List.set_cons_succ, i64_w, i32_w]
              rfl
            refine pure_ (i := 9) (N := some 42) (v := ?_) (a' := ?_) #[true, false, true, false, false, false, true, true, true, true, false, false, false, false, false, false, false, false, false, false, false, false, false, false, false, false] rfl rfl (any_of HT_.out (by kernel_rfl)) (fun _ _ _ h => h) (Or.inl ⟨by rfl, ?_⟩) ?_ ?_
            rotate_left
            · intro w'
              go_simp
              with_reducible rfl
            rotate_left
            · simp only [Act.put, List.setIfInBounds_toArray, List.set_cons_zero, List.set_cons_succ, i64_w, i32_w]
              rfl
            refine take_ (i := 1) (N := some 34) (v := ?_) (a' := ?_) #[true, true, true, false, false, false, true, true, true, true, false, false, false, false, false, false, false, false, false, false, false, false, false, false, false, false] rfl rfl (take_of HT_.out (by kernel_rfl)) (fun _ _ _ h => h) (Or.inl ⟨by rfl, ?_⟩) hHeld ?_ ?_
            rotate_left
            · rintro w' ⟨s0, s1, s2, s3, s4⟩
              go_simp
              with_reducible rfl
            rotate_left
            · simp only [Act.put, List.setIfInBounds_toArray, List.set_cons_zero, List.set_cons_succ, i64_w, i32_w]
              rfl
            refine pure_ (i := 3) (N := some 36) (v := ?_) (a' := ?_) #[true, true, true, true, false, false, true, true, true, true, false, false, false, false, false, false, false, false, false, false, false, false, false, false, false, false] rfl rfl (any_of HT_.out (by kernel_rfl)) (fun _ _ _ h => h) (Or.inl ⟨by rfl, ?_⟩) ?_ ?_
            rotate_left
            · intro w'
              go_simp
              with_reducible rfl
            rotate_left
            · simp only [Act.put, List.setIfInBounds_toArray, List.set_cons_zero, List.set_cons_succ, i64_w, i32_w]
              rfl
            refine pure_ (i := 4) (N := some 37) (v := ?_) (a' := ?_) #[true, true, true, true, true, false, true, true, true, true, false, false, false, false, false, false, false, false, false, false, false, false, false, false, false, false] rfl rfl (any_of HT_.out (by kernel_rfl)) (fun _ _ _ h => h) (Or.inl ⟨by rfl, ?_⟩) ?_ ?_
            rotate_left
            · intro w'
              go_simp
              with_reducible rfl
            rotate_left
            · simp only [Act.put, List.setIfInBounds_toArray, List.set_cons_zero, List.set_cons_succ, i64_w, i32_w]
              rfl
            refine take_ (i := 5) (N := some 38) (v := ?_) (a' := ?_) #[true, true, true, true, true, true, true, true, true, true, false, false, false, false, false, false, false, false, false, false, false, false, false, false, false, false] rfl rfl (take_of HT_.out (by kernel_rfl)) (fun _ _ _ h => h) (Or.inl ⟨by rfl, ?_⟩) hHeld ?_ ?_
            rotate_left
            · rintro w' ⟨s0, s1, s2, s3, s4⟩
              go_simp
              with_reducible rfl
            rotate_left
            · simp only [Act.put, List.setIfInBounds_toArray, List.set_cons_zero, List.set_cons_succ, i64_w, i32_w]
              rfl
            refine take_ (i := 10) (N := some 43) (v := ?_) (a' := ?_) #[true, true, true, true, true, true, true, true, true, true, true, false, false, false, false, false, false, false, false, false, false, false, false, false, false, false] rfl rfl (take_of HT_.out (by kernel_rfl)) (fun _ _ _ h => h) (Or.inl ⟨by rfl, ?_⟩) hHeld ?_ ?_
            rotate_left
            · rintro w' ⟨s0, s1, s2, s3, s4⟩
              go_simp
              with_reducible rfl
            rotate_left
            · simp only [Act.put, List.setIfInBounds_toArray, List.set_cons_zero, List.set_cons_succ, i64_w, i32_w]
              rfl
            refine pure_ (i := 11) (N := some 44) (v := ?_) (a' := ?_) #[true, true, true, true, true, true, true, true, true, true, true, true, false, false, false, false, false, false, false, false, false, false, false, false, false, false] rfl rfl (any_of HT_.out (by kernel_rfl)) (fun _ _ _ h => h) (Or.inl ⟨by rfl, ?_⟩) ?_ ?_
            rotate_left
            · intro w'
              go_simp
              with_reducible rfl
            rotate_left
            · simp only [Act.put, List.setIfInBounds_toArray, List.set_cons_zero, List.set_cons_succ, i64_w, i32_w]
              rfl
            refine pure_ (i := 12) (N := some 45) (v := ?_) (a' := ?_) #[true, true, true, true, true, true, true, true, true, true, true, true, true, false, false, false, false, false, false, false, false, false, false, false, false, false] rfl rfl (any_of HT_.out (by kernel_rfl)) (fun _ _ _ h => h) (Or.inl ⟨by rfl, ?_⟩) ?_ ?_
            rotate_left
            · intro w'
              go_simp
              with_reducible rfl
            rotate_left
            · simp only [Act.put, List.setIfInBounds_toArray, List.set_cons_zero, List.set_cons_succ, i64_w, i32_w]
              rfl
            refine pure_ (i := 13) (N := some 46) (v := undef) (a' := ?_) #[true, true, true, true, true, true, true, true, true, true, true, true, true, true, false, false, false, false, false, false, false, false, false, false, false, false] rfl rfl (any_of HT_.out (by kernel_rfl)) (fun _ _ _ h => h) (Or.inr ⟨by rfl, rfl⟩) ?_ ?_
            rotate_left
            · simp only [Act.put, List.setIfInBounds_toArray, List.set_cons_zero, List.set_cons_succ, i64_w, i32_w]
              rfl
            refine pure_ (i := 14) (N := some 47) (v := undef) (a' := ?_) #[true, true, true, true, true, true, true, true, true, true, true, true, true, true, true, false, false, false, false, false, false, false, false, false, false, false] rfl rfl (any_of HT_.out (by kernel_rfl)) (fun _ _ _ h => h) (Or.inr ⟨by rfl, rfl⟩) ?_ ?_
            rotate_left
            · simp only [Act.put, List.setIfInBounds_toArray, List.set_cons_zero, List.set_cons_succ, i64_w, i32_w]
              rfl
            refine pure_ (i := 15) (N := some 48) (v := undef) (a' := ?_) #[true, true, true, true, true, true, true, true, true, true, true, true, true, true, true, true, false, false, false, false, false, false, false, false, false, false] rfl rfl (any_of HT_.out (by kernel_rfl)) (fun _ _ _ h => h) (Or.inr ⟨by rfl, rfl⟩) ?_ ?_
            rotate_left
            · simp only [Act.put, List.setIfInBounds_toArray, List.set_cons_zero, List.set_cons_succ, i64_w, i32_w]
              rfl
            refine pure_ (i := 16) (N := some 49) (v := undef) (a' := ?_) #[true, true, true, true, true, true, true, true, true, true, true, true, true, true, true, true, true, false, false, false, false, false, false, false, false, false] rfl rfl (any_of HT_.out (by kernel_rfl)) (fun _ _ _ h => h) (Or.inr ⟨by rfl, rfl⟩) ?_ ?_
            rotate_left
            · simp only [Act.put, List.setIfInBounds_toArray, List.set_cons_zero, List.set_cons_succ, i64_w, i32_w]
              rfl
            refine pure_ (i := 17) (N := some 50) (v := undef) (a' := ?_) #[true, true, true, true, true, true, true, true, true, true, true, true, true, true, true, true, true, true, false, false, false, false, false, false, false, false] rfl rfl (any_of HT_.out (by kernel_rfl)) (fun _ _ _ h => h) (Or.inr ⟨by rfl, rfl⟩) ?_ ?_
            rotate_left
            · simp only [Act.put, List.setIfInBounds_toArray, List.set_cons_zero, List.set_cons_succ, i64_w, i32_w]
              rfl
            refine pure_ (i := 18) (N := some 51) (v := undef) (a' := ?_) #[true, true, true, true, true, true, true, true, true, true, true, true, true, true, true, true, true, true, true, false, false, false, false, false, false, false] rfl rfl (any_of HT_.out (by kernel_rfl)) (fun _ _ _ h => h) (Or.inr ⟨by rfl, rfl⟩) ?_ ?_
            rotate_left
            · simp only [Act.put, List.setIfInBounds_toArray, List.set_cons_zero, List.set_cons_succ, i64_w, i32_w]
              rfl
            refine pure_ (i := 19) (N := some 52) (v := undef) (a' := ?_) #[true, true, true, true, true, true, true, true, true, true, true, true, true, true, true, true, true, true, true, true, false, false, false, false, false, false] rfl rfl (any_of HT_.out (by kernel_rfl)) (fun _ _ _ h => h) (Or.inr ⟨by rfl, rfl⟩) ?_ ?_
            rotate_left
            · simp only [Act.put, List.setIfInBounds_toArray, List.set_cons_zero, List.set_cons_succ, i64_w, i32_w]
              rfl
            refine pure_ (i := 20) (N := some 53) (v := undef) (a' := ?_) #[true, true, true, true, true, true, true, true, true, true, true, true, true, true, true, true, true, true, true, true, true, false, false, false, false, false] rfl rfl (any_of HT_.out (by kernel_rfl)) (fun _ _ _ h => h) (Or.inr ⟨by rfl, rfl⟩) ?_ ?_
            rotate_left
            · simp only [Act.put, List.setIfInBounds_toArray, List.set_cons_zero, List.set_cons_succ, i64_w, i32_w]
              rfl
            refine pure_ (i := 21) (N := some 54) (v := undef) (a' := ?_) #[true, true, true, true, true, true, true, true, true, true, true, true, true, true, true, true, true, true, true, true, true, true, false, false, false, false] rfl rfl (any_of HT_.out (by kernel_rfl)) (fun _ _ _ h => h) (Or.inr ⟨by rfl, rfl⟩) ?_ ?_
            rotate_left
            · simp only [Act.put, List.setIfInBounds_toArray, List.set_cons_zero, List.set_cons_succ, i64_w, i32_w]
              rfl
            refine pure_ (i := 22) (N := some 55) (v := undef) (a' := ?_) #[true, true, true, true, true, true, true, true, true, true, true, true, true, true, true, true, true, true, true, true, true, true, true, false, false, false] rfl rfl (any_of HT_.out (by kernel_rfl)) (fun _ _ _ h => h) (Or.inr ⟨by rfl, rfl⟩) ?_ ?_
            rotate_left
            · simp only [Act.put, List.setIfInBounds_toArray, List.set_cons_zero, List.set_cons_succ, i64_w, i32_w]
              rfl
            refine pure_ (i := 23) (N := some 56) (v := undef) (a' := ?_) #[true, true, true, true, true, true, true, true, true, true, true, true, true, true, true, true, true, true, true, true, true, true, true, true, false, false] rfl rfl (any_of HT_.out (by kernel_rfl)) (fun _ _ _ h => h) (Or.inr ⟨by rfl, rfl⟩) ?_ ?_
            rotate_left
            · simp only [Act.put, List.setIfInBounds_toArray, List.set_cons_zero, List.set_cons_succ, i64_w, i32_w]
              rfl
            refine pure_ (i := 24) (N := some 57) (v := undef) (a' := ?_) #[true, true, true, true, true, true, true, true, true, true, true, true, true, true, true, true, true, true, true, true, true, true, true, true, true, false] rfl rfl (any_of HT_.out (by kernel_rfl)) (fun _ _ _ h => h) (Or.inr ⟨by rfl, rfl⟩) ?_ ?_
            rotate_left
            · simp only [Act.put, List.setIfInBounds_toArray, List.set_cons_zero, List.set_cons_succ, i64_w, i32_w]
              rfl
            refine pure_ (i := 25) (N := some 58) (v := ?_) (a' := ?_) #[true, true, true, true, true, true, true, true, true, true, true, true, true, true, true, true, true, true, true, true, true, true, true, true, true, true] rfl rfl (any_of HT_.out (by kernel_rfl)) (fun _ _ _ h => h) (Or.inl ⟨by rfl, ?_⟩) ?_ ?_
            rotate_left
            · intro w'
              go_simp
              with_reducible rfl
            rotate_left
            · simp only [Act.put, List.setIfInBounds_toArray, List.set_cons_zero, List.set_cons_succ, i64_w, i32_w]
              rfl
            refine done_ (done_of HT_.out (by kernel_rfl)) ?_
            have HHe := Aside0.mk hHeld
            clear hHeld HT_ HFr6 HO6 HS6 HR6 HA6
            --@G6
            go_wp2
            --@G7
            go_roundg (f.ss.length - (k2 + 1))
            case measure => have := HM6.out; omega
            case rel => exact ⟨k2 + 1, by go_num, hltB, ⟨Nat.le_refl _⟩, ⟨HFrA.out⟩, ⟨HOA.out⟩, ⟨HSA.out⟩, ⟨by rw [take_snoc HSs.out, rangesAt_snoc]; rw [if_neg (by unfold plS; intro e; have := congrArg SPl.f0 e; exact HE0.out this), List.append_nil]; exact HRA.out⟩, ⟨HAA.out⟩⟩
        · obtain rfl : k2 = f.ss.length := by omega
          have hltzB : ¬ (f.ss.length : Int) < (f.ss.length : Int) := by omega
          have hR := HR6.out
          rw [List.take_length] at hR
          obtain ⟨Al, cl, hv⟩ := Kd.R_slice hR
          subst hv
          have hrr := Kd.R_reads' hR
          have hrl := rangesAt_len f.ss ⟨y.f0, y.f1⟩
          have hul : (unionR (rangesAt f.ss ⟨y.f0, y.f1⟩)).length ≤ 65536 := by have h1 := unionR_len (rangesAt f.ss ⟨y.f0, y.f1⟩); omega
          have HU := Aside0.mk (PA.vellumref02_Union.calls 0 Al cl (rangesAt f.ss ⟨y.f0, y.f1⟩) (unionR (rangesAt f.ss ⟨y.f0, y.f1⟩)) w6 hrr.2.2 hrr.2.1 (by unfold PA.vellumref02_Union.f PA.code_Union.f; rw [if_pos (by omega)]))
          generalize (rangesAt f.ss ⟨y.f0, y.f1⟩).length = nl at *
          clear hR hrr hx0
          --@J
          go_wp2_with fail
          refine HU.out.mono ?_
          rintro e w7 ⟨vu, rfl, hu, hb⟩
          obtain ⟨Au, cu, hvu⟩ := Kd.R_slice hu
          subst hvu
          have HFr7 := Aside0.mk (HFr6.out.below hb)
          have HO7 := Aside0.mk ((hb.block _ (lt_of HO6.out)).trans HO6.out)
          have HS7 := Aside0.mk (Kd.R_below HS6.out hb)
          have HU7 := Aside0.mk (Kd.R_lower hu HFr6.out.size)
          clear hu hb HU hrl m1
          --@K
          go_wp2
          --@L
          go_loopg [9] (unionR (rangesAt f.ss ⟨y.f0, y.f1⟩)).length (fun gg s9 wb => ∃ (k3 : Nat) (vs3 : Value), s9 = .int .i64 k3 ∧ k3 ≤ (unionR (rangesAt f.ss ⟨y.f0, y.f1⟩)).length ∧ Aside0 ((unionR (rangesAt f.ss ⟨y.f0, y.f1⟩)).length - k3 ≤ gg) ∧ Aside0 (Fr w3 w2.heap.size wb) ∧ Aside0 (wb.heap[w2.heap.size]? = some (.cells #[.slice none 0 0, vs3, .slice Aw rws.length cw] 25 (0, 0))) ∧ Aside0 (Kd.R k46 46 wb w3.heap.size (fun _ => True) vs3 (sp ++ ((unionR (rangesAt f.ss ⟨y.f0, y.f1⟩)).take k3).map (fun x => ⟨y.f0, y.f1, x⟩))) ∧ Aside0 (Kd.R k44 44 wb w3.heap.size (fun _ => True) (.slice Au (unionR (rangesAt f.ss ⟨y.f0, y.f1⟩)).length cu) (unionR (rangesAt f.ss ⟨y.f0, y.f1⟩))))
          case atStart => exact ⟨0, vs, rfl, Nat.zero_le _, ⟨Nat.le_refl _⟩, ⟨HFr7.out⟩, ⟨HO7.out⟩, ⟨by rw [List.take_zero, List.map_nil, List.append_nil]; exact HS7.out⟩, ⟨HU7.out⟩⟩
          case round =>
            clear HFr7 HO7 HS7 HU7
            obtain ⟨w8, hwq⟩ : ∃ x, x = wr := ⟨_, rfl⟩
            subst hwq
            obtain ⟨k3, vs3, rfl, hk3, HM8, HFr8, HO8, HS8, HU8⟩ := hrel
            by_cases hltC : k3 < (unionR (rangesAt f.ss ⟨y.f0, y.f1⟩)).length
            · have hltzC : (k3 : Int) < ((unionR (rangesAt f.ss ⟨y.f0, y.f1⟩)).length : Int) := by omega
              obtain ⟨adu, ea, b0, b1, b2⟩ := at_T44 (Kd.R_reads' HU8.out).2.2 (k3 : Int) (by omega) hltzC
              subst ea
              obtain ⟨x, hx⟩ := ex_get hltC
              rw [rd44 hx] at b0 b1 b2
              simp only [Int.toNat_natCast] at b0 b1 b2
              have HXx := Aside0.mk hx
              have hcel : ∀ W, Fr w3 w2.heap.size W → W.heap[w2.heap.size]? = some (.cells #[.slice none 0 0, vs3, .slice Aw rws.length cw] 25 (0, 0)) → Kd.R k44 44 W w3.heap.size (fun _ => True) (.slice (some adu) (unionR (rangesAt f.ss ⟨y.f0, y.f1⟩)).length cu) (unionR (rangesAt f.ss ⟨y.f0, y.f1⟩)) → (W.cell? ⟨w2.heap.size, 1, none⟩ = some vs3 ∧ W.cell? (ad.add (k * 3)) = some (.int .i64 y.f0) ∧ W.cell? ⟨(ad.add (k * 3)).block, (ad.add (k * 3)).off + 1, none⟩ = some (.int .i64 y.f1) ∧ W.cell? (adu.add (k3 * 3)) = some (.string x.f0) ∧ W.cell? ⟨(adu.add (k3 * 3)).block, (adu.add (k3 * 3)).off + 1, none⟩ = some (.string x.f1) ∧ W.cell? ⟨(adu.add (k3 * 3)).block, (adu.add (k3 * 3)).off + 2, none⟩ = some (.bool x.f2)) := fun W h1 h2 h3 => by
                obtain ⟨adv, ev, d0, d1, d2⟩ := at_T44 (Kd.R_reads' h3).2.2 (k3 : Int) (by omega) hltzC
                cases ev
                rw [rd44 HXx.out] at d0 d1 d2
                simp only [Int.toNat_natCast] at d0 d1 d2
                exact ⟨cell_of h2 1, h1.cell HX3.out HSl.out HA3.out.1 rfl, h1.cell HX3.out HSl.out HA3.out.2 rfl, d0, d1, d2⟩
              have HCel := Aside0.mk hcel
              have hll : ((sp ++ ((unionR (rangesAt f.ss ⟨y.f0, y.f1⟩)).take k3).map (fun x => (⟨y.f0, y.f1, x⟩ : S46))).length + 1) * 56 ≤ 140737488355328 := by
                have h1 := spanF_len f.ss (by omega) (pl.take k) (by rw [List.length_take]; omega)
                rw [← HSp4.out] at h1
                have h2 := List.length_take_le k3 (unionR (rangesAt f.ss ⟨y.f0, y.f1⟩))
                rw [List.length_append, List.length_map]
                omega
              have HLL := Aside0.mk hll
              clear b0 b1 b2 hx hcel hll
              --@M
              go_wp2_with fail
              refine start_ (n := 21) (S := fun w' => w'.cell? ⟨w2.heap.size, 1, none⟩ = some vs3 ∧ w'.cell? (ad.add (k * 3)) = some (.int .i64 y.f0) ∧ w'.cell? ⟨(ad.add (k * 3)).block, (ad.add (k * 3)).off + 1, none⟩ = some (.int .i64 y.f1) ∧ w'.cell? (adu.add (k3 * 3)) = some (.string x.f0) ∧ w'.cell? ⟨(adu.add (k3 * 3)).block, (adu.add (k3 * 3)).off + 1, none⟩ = some (.string x.f1) ∧ w'.cell? ⟨(adu.add (k3 * 3)).block, (adu.add (k3 * 3)).off + 2, none⟩ = some (.bool x.f2)) (ds := [20]) #[false, false, false, false, false, false, false, false, false, false, false, false, false, false, false, false, false, false, false, false, false] (by kernel_rfl) rfl rfl (by have hb := below_drew1 (Below.refl w8.heap.size w8); exact HCel.out _ (HFr8.out.below hb) ((hb.block _ (lt_of HO8.out)).trans HO8.out) (Kd.R_below HU8.out hb)) (fun hHeld => ?_); refine with_tab tab22_16 (fun HT_ => ?_)
              have hBA := below_drew1 (Below.refl w8.heap.size w8)
              generalize w8.drew = wA at hBA hHeld ⊢
              have HFrA := Aside0.mk (HFr8.out.below hBA)
              have HOA := Aside0.mk ((hBA.block _ (lt_of HO8.out)).trans HO8.out)
              have HSA := Aside0.mk (Kd.R_below HS8.out hBA)
              have HUA := Aside0.mk (Kd.R_below HU8.out hBA)
              clear hBA
              refine pure_ (i := 0) (N := some 76) (v := ?_) (a' := ?_) #[true, false, false, false, false, false, false, false, false, false, false, false, false, false, false, false, false, false, false, false, false] rfl rfl (any_of HT_.out (by kernel_rfl)) (fun _ _ _ h => h) (Or.inl ⟨by rfl, ?_⟩) ?_ ?_
              rotate_left
              · intro w'
                go_simp
                with_reducible rfl
              rotate_left
              · simp only [Act.put, List.setIfInBounds_toArray, List.set_cons_zero, List.set_cons_succ, i64_w, i32_w]
                rfl
              refine pure_ (i := 2) (N := some 78) (v := ?_) (a' := ?_) #[true, false, true, false, false, false, false, false, false, false, false, false, false, false, false, false, false, false, false, false, false] rfl rfl (any_of HT_.out (by kernel_rfl)) (fun _ _ _ h => h) (Or.inl ⟨by rfl, ?_⟩) ?_ ?_
              rotate_left
              · intro w'
                go_simp
                with_reducible rfl
              rotate_left
              · simp only [Act.put, List.setIfInBounds_toArray, List.set_cons_zero, List.set_cons_succ, i64_w, i32_w]
                rfl
              refine pure_ (i := 3) (N := some 79) (v := ?_) (a' := ?_) #[true, false, true, true, false, false, false, false, false, false, false, false, false, false, false, false, false, false, false, false, false] rfl rfl (any_of HT_.out (by kernel_rfl)) (fun _ _ _ h => h) (Or.inl ⟨by rfl, ?_⟩) ?_ ?_
              rotate_left
              · intro w'
                go_simp
                with_reducible rfl
              rotate_left
              · simp only [Act.put, List.setIfInBounds_toArray, List.set_cons_zero, List.set_cons_succ, i64_w, i32_w]
                rfl
              refine pure_ (i := 4) (N := some 80) (v := ?_) (a' := ?_) #[true, false, true, true, true, false, false, false, false, false, false, false, false, false, false, false, false, false, false, false, false] rfl rfl (any_of HT_.out (by kernel_rfl)) (fun _ _ _ h => h) (Or.inl ⟨by rfl, ?_⟩) ?_ ?_
              rotate_left
              · intro w'
                go_simp
                with_reducible rfl
              rotate_left
              · simp only [Act.put, List.setIfInBounds_toArray, List.set_cons_zero, List.set_cons_succ, i64_w, i32_w]
                rfl
              refine pure_ (i := 5) (N := some 81) (v := ?_) (a' := ?_) #[true, false, true, true, true, true, false, false, false, false, false, false, false, false, false, false, false, false, false, false, false] rfl rfl (any_of HT_.out (by kernel_rfl)) (fun _ _ _ h => h) (Or.inl ⟨by rfl, ?_⟩) ?_ ?_
              rotate_left
              · intro w'
                go_simp
                with_reducible rfl
              rotate_left
              · simp only [Act.put, List.setIfInBounds_toArray, List.set_cons_zero, List.set_cons_succ, i64_w, i32_w]
                rfl
              refine pure_ (i := 7) (N := some 83) (v := ?_) (a' := ?_) #[true, false, true, true, true, true, false, true, false, false, false, false, false, false, false, false, false, false, false, false, false] rfl rfl (any_of HT_.out (by kernel_rfl)) (fun _ _ _ h => h) (Or.inl ⟨by rfl, ?_⟩) ?_ ?_
              rotate_left
              · intro w'
                go_simp
                with_reducible rfl
              rotate_left
              · simp only [Act.put, List.setIfInBounds_toArray, List.set_cons_zero, List.set_cons_succ, i64_w, i32_w]
                rfl
              refine pure_ (i := 8) (N := some 84) (v := ?_) (a' := ?_) #[true, false, true, true, true, true, false, true, true, false, false, false, false, false, false, false, false, false, false, false, false] rfl rfl (any_of HT_.out (by kernel_rfl)) (fun _ _ _ h => h) (Or.inl ⟨by rfl, ?_⟩) ?_ ?_
              rotate_left
              · intro w'
                go_simp
                with_reducible rfl
              rotate_left
              · simp only [Act.put, List.setIfInBounds_toArray, List.set_cons_zero, List.set_cons_succ, i64_w, i32_w]
                rfl
              refine pure_ (i := 9) (N := some 85) (v := ?_) (a' := ?_) #[true, false, true, true, true, true, false, true, true, true, false, false, false, false, false, false, false, false, false, false, false] rfl rfl (any_of HT_.out (by kernel_rfl)) (fun _ _ _ h => h) (Or.inl ⟨by rfl, ?_⟩) ?_ ?_
              rotate_left
              · intro w'
                go_simp
                with_reducible rfl
              rotate_left
              · simp only [Act.put, List.setIfInBounds_toArray, List.set_cons_zero, List.set_cons_succ, i64_w, i32_w]
                rfl
              refine pure_ (i := 10) (N := some 86) (v := ?_) (a' := ?_) #[true, false, true, true, true, true, false, true, true, true, true, false, false, false, false, false, false, false, false, false, false] rfl rfl (any_of HT_.out (by kernel_rfl)) (fun _ _ _ h => h) (Or.inl ⟨by rfl, ?_⟩) ?_ ?_
              rotate_left
              · intro w'
                go_simp
                with_reducible rfl
              rotate_left
              · simp only [Act.put, List.setIfInBounds_toArray, List.set_cons_zero, List.set_cons_succ, i64_w, i32_w]
                rfl
              refine pure_ (i := 12) (N := some 88) (v := ?_) (a' := ?_) #[true, false, true, true, true, true, false, true, true, true, true, false, true, false, false, false, false, false, false, false, false] rfl rfl (any_of HT_.out (by kernel_rfl)) (fun _ _ _ h => h) (Or.inl ⟨by rfl, ?_⟩) ?_ ?_
              rotate_left
              · intro w'
                go_simp
                with_reducible rfl
              rotate_left
              · simp only [Act.put, List.setIfInBounds_toArray, List.set_cons_zero, List.set_cons_succ, i64_w, i32_w]
                rfl
              refine pure_ (i := 13) (N := some 89) (v := ?_) (a' := ?_) #[true, false, true, true, true, true, false, true, true, true, true, false, true, true, false, false, false, false, false, false, false] rfl rfl (any_of HT_.out (by kernel_rfl)) (fun _ _ _ h => h) (Or.inl ⟨by rfl, ?_⟩) ?_ ?_
              rotate_left
              · intro w'
                go_simp
                with_reducible rfl
              rotate_left
              · simp only [Act.put, List.setIfInBounds_toArray, List.set_cons_zero, List.set_cons_succ, i64_w, i32_w]
                rfl
              refine pure_ (i := 14) (N := some 90) (v := ?_) (a' := ?_) #[true, false, true, true, true, true, false, true, true, true, true, false, true, true, true, false, false, false, false, false, false] rfl rfl (any_of HT_.out (by kernel_rfl)) (fun _ _ _ h => h) (Or.inl ⟨by rfl, ?_⟩) ?_ ?_
              rotate_left
              · intro w'
                go_simp
                with_reducible rfl
              rotate_left
              · simp only [Act.put, List.setIfInBounds_toArray, List.set_cons_zero, List.set_cons_succ, i64_w, i32_w]
                rfl
              refine take_ (i := 1) (N := some 77) (v := ?_) (a' := ?_) #[true, true, true, true, true, true, false, true, true, true, true, false, true, true, true, false, false, false, false, false, false] rfl rfl (take_of HT_.out (by kernel_rfl)) (fun _ _ _ h => h) (Or.inl ⟨by rfl, ?_⟩) hHeld ?_ ?_
              rotate_left
              · rintro w' ⟨s0, s1, s2, s3, s4, s5⟩
                go_simp
                with_reducible rfl
              rotate_left
              · simp only [Act.put, List.setIfInBounds_toArray, List.set_cons_zero, List.set_cons_succ, i64_w, i32_w]
                rfl
              refine take_ (i := 6) (N := some 82) (v := ?_) (a' := ?_) #[true, true, true, true, true, true, true, true, true, true, true, false, true, true, true, false, false, false, false, false, false] rfl rfl (take_of HT_.out (by kernel_rfl)) (fun _ _ _ h => h) (Or.inl ⟨by rfl, ?_⟩) hHeld ?_ ?_
              rotate_left
              · rintro w' ⟨s0, s1, s2, s3, s4, s5⟩
                go_simp
                with_reducible rfl
              rotate_left
              · simp only [Act.put, List.setIfInBounds_toArray, List.set_cons_zero, List.set_cons_succ, i64_w, i32_w]
                rfl
              refine take_ (i := 11) (N := some 87) (v := ?_) (a' := ?_) #[true, true, true, true, true, true, true, true, true, true, true, true, true, true, true, false, false, false, false, false, false] rfl rfl (take_of HT_.out (by kernel_rfl)) (fun _ _ _ h => h) (Or.inl ⟨by rfl, ?_⟩) hHeld ?_ ?_
              rotate_left
              · rintro w' ⟨s0, s1, s2, s3, s4, s5⟩
                go_simp
                with_reducible rfl
              rotate_left
              · simp only [Act.put, List.setIfInBounds_toArray, List.set_cons_zero, List.set_cons_succ, i64_w, i32_w]
                rfl
              refine take_ (i := 15) (N := some 91) (v := ?_) (a' := ?_) #[true, true, true, true, true, true, true, true, true, true, true, true, true, true, true, true, false, false, false, false, false] rfl rfl (take_of HT_.out (by kernel_rfl)) (fun _ _ _ h => h) (Or.inl ⟨by rfl, ?_⟩) hHeld ?_ ?_
              rotate_left
              · rintro w' ⟨s0, s1, s2, s3, s4, s5⟩
                go_simp
                with_reducible rfl
              rotate_left
              · simp only [Act.put, List.setIfInBounds_toArray, List.set_cons_zero, List.set_cons_succ, i64_w, i32_w]
                rfl
              refine pure_ (i := 16) (N := some 92) (v := ?_) (a' := ?_) #[true, true, true, true, true, true, true, true, true, true, true, true, true, true, true, true, true, false, false, false, false] rfl rfl (any_of HT_.out (by kernel_rfl)) (fun _ _ _ h => h) (Or.inl ⟨by rfl, ?_⟩) ?_ ?_
              rotate_left
              · intro w'
                go_simp
                with_reducible rfl
              rotate_left
              · simp only [Act.put, List.setIfInBounds_toArray, List.set_cons_zero, List.set_cons_succ, i64_w, i32_w]
                rfl
              have hBB := below_alloc (Below.refl wA.heap.size wA) (.cells #[.int .i64 y.f0, .int .i64 y.f1, .string x.f0, .string x.f1, .bool x.f2] 46)
              have HFrB := Aside0.mk (HFrA.out.below hBB)
              have HOB := Aside0.mk ((hBB.block _ (lt_of HOA.out)).trans HOA.out)
              have HSB := Aside0.mk (Kd.R_below HSA.out hBB)
              have HUB := Aside0.mk (Kd.R_below HUA.out hBB)
              clear hBB
              refine one_ (i := 17) (N := some 93) #[true, true, true, true, true, true, true, true, true, true, true, true, true, true, true, true, true, true, false, false, false] rfl rfl (one_of HT_.out (by kernel_rfl)) (by decide) (fun K hK => ?_)
              refine value_ (w1 := ?_) (v := ?_) (by rfl) rfl ?_ ?_
              rotate_left 2
              · go_simp
                constructor
                · rfl
                · rfl
              refine hK.out _ _ (HCel.out _ HFrB.out HOB.out HUB.out) (fun hHeld => ?_)
              clear hK K
              refine norm_ (a' := ?_) ?_ ?_
              rotate_left
              · show Act.put _ (some 93) _ = _
                simp only [Act.put, List.setIfInBounds_toArray, List.set_cons_zero, List.set_cons_succ, i64_w, i32_w]
                rfl
              have hbsz : w3.heap.size ≤ wA.heap.size := HFrA.out.size
              refine one_ (i := 18) (N := some 94) #[true, true, true, true, true, true, true, true, true, true, true, true, true, true, true, true, true, true, true, false, false] rfl rfl (one_of HT_.out (by kernel_rfl)) (by decide) (fun K hK => ?_)
              refine Kd.R_append_step k46 (w0 := wA) w3.heap.size (by rfl) (.tmp 77) (.tmp 93) 23 46 (.agg #[(.int .i64 0), (.int .i64 0), (.string ⟨#[]⟩), (.string ⟨#[]⟩), (.bool false)]) 56 rfl Tryz.underlying23 info46 rfl (by decide) (by omega) vs3 (sp ++ ((unionR (rangesAt f.ss ⟨y.f0, y.f1⟩)).take k3).map (fun x => (⟨y.f0, y.f1, x⟩ : S46))) ⟨y.f0, y.f1, x⟩ [.int .i64 y.f0, .int .i64 y.f1, .string x.f0, .string x.f1, .bool x.f2] (fun _ => True) (fun _ => False) rfl rfl (k46_mkM _ _ _ ⟨y.f0, y.f1, x⟩) (fun _ hk => hk.elim) (fun _ _ => trivial) HSA.out (Below.refl _ _) hbsz HLL.out ?_
              intro v9 w9 ho hb hg hat
              obtain ⟨Av, nv, cv, rfl⟩ : ∃ A n c, v9 = Value.slice A n c := (by obtain ⟨A, c, h⟩ := Kd.R_slice ho; exact ⟨A, _, c, h⟩)
              have HFr9 := Aside0.mk (HFrA.out.grown hg (fun k e => Kd.R_base HSA.out k e))
              have HO9 := Aside0.mk (blk_by HSA.out HOA.out (by decide) hg)
              have HS9 := Aside0.mk ho
              have HU9 := Aside0.mk (R44_by46 HUA.out HSA.out hg)
              clear ho hb hg hat
              refine hK.out _ _ (HCel.out _ HFr9.out HO9.out HU9.out) (fun hHeld => ?_)
              clear hK K
              refine norm_ (a' := ?_) ?_ ?_
              rotate_left
              · show Act.put _ (some 94) _ = _
                simp only [Act.put, List.setIfInBounds_toArray, List.set_cons_zero, List.set_cons_succ, i64_w, i32_w]
                rfl
              refine pure_ (i := 19) (N := some 95) (v := ?_) (a' := ?_) #[true, true, true, true, true, true, true, true, true, true, true, true, true, true, true, true, true, true, true, true, false] rfl rfl (any_of HT_.out (by kernel_rfl)) (fun _ _ _ h => h) (Or.inl ⟨by rfl, ?_⟩) ?_ ?_
              rotate_left
              · intro w'
                go_simp
                with_reducible rfl
              rotate_left
              · simp only [Act.put, List.setIfInBounds_toArray, List.set_cons_zero, List.set_cons_succ, i64_w, i32_w]
                rfl
              have o1 : w9.cell? ⟨w2.heap.size, 1, none⟩ = some vs3 := cell_of HO9.out 1
              have of1 : w9.frozen? ⟨w2.heap.size, 1, none⟩ = false := frozen_of HO9.out 1
              refine last_ (i := 20) (N := none) #[true, true, true, true, true, true, true, true, true, true, true, true, true, true, true, true, true, true, true, true, true] rfl rfl (one_of HT_.out (by kernel_rfl)) (by decide) (fun K hK => ?_)
              refine skip_ (w1 := ?_) (by rfl) rfl ?_ ?_
              rotate_left
              · go_simp
                rfl
              refine hK.out _ _ ?_
              refine done_ (done_of HT_.out (by kernel_rfl)) ?_
              have HFr10 := Aside0.mk (HFr9.out.set 1 (.slice Av nv cv))
              have hO10 := setCell_heap (i := 1) HO9.out (.slice Av nv cv)
              have HO10 : Aside0 ((w9.setCell ⟨w2.heap.size, 1, none⟩ (.slice Av nv cv)).heap[w2.heap.size]? = some (.cells #[.slice none 0 0, .slice Av nv cv, .slice Aw rws.length cw] 25 (0, 0))) := Aside0.mk (by simpa using hO10)
              have HS10 := Aside0.mk (R46_set (g := w2.heap.size) (i := 1) (u := .slice Av nv cv) HS9.out HO9.out)
              have HU10 := Aside0.mk (R44_set (g := w2.heap.size) (i := 1) (u := .slice Av nv cv) HU9.out HO9.out)
              clear hO10 o1 of1 hHeld HT_ HFr8 HO8 HS8 HU8 HFrA HOA HSA HUA HFrB HOB HSB HUB HFr9 HO9 HS9 HU9 hbsz
              --@N
              go_wp2
              go_roundg ((unionR (rangesAt f.ss ⟨y.f0, y.f1⟩)).length - (k3 + 1))
              case measure => have := HM8.out; omega
              case rel => exact ⟨k3 + 1, _, by go_num, hltC, ⟨Nat.le_refl _⟩, ⟨HFr10.out⟩, ⟨HO10.out⟩, ⟨by rw [take_snoc HXx.out, List.map_append, ← List.append_assoc]; exact HS10.out⟩, ⟨HU10.out⟩⟩
            · obtain rfl : k3 = (unionR (rangesAt f.ss ⟨y.f0, y.f1⟩)).length := by omega
              have hltzC : ¬ ((unionR (rangesAt f.ss ⟨y.f0, y.f1⟩)).length : Int) < ((unionR (rangesAt f.ss ⟨y.f0, y.f1⟩)).length : Int) := by omega
              have hS := HS8.out
              rw [List.take_length] at hS
              have HS9 := Aside0.mk hS
              clear hS
              --@O
              go_wp2
              go_roundg (pl.length - (k + 1))
              case measure => have := HM4.out; omega
              case rel => exact ⟨k + 1, _, _, by go_num, hltA, ⟨Nat.le_refl _⟩, ⟨HFr8.out⟩, ⟨HO8.out⟩, ⟨HS9.out⟩, ⟨by rw [HSp4.out, take_snoc HYy.out, List.flatMap_append, List.flatMap_cons, List.flatMap_nil, List.append_nil]; rfl⟩⟩
    · obtain rfl : k = pl.length := by omega
      have hltzA : ¬ (pl.length : Int) < (pl.length : Int) := by omega
      have hsp := HSp4.out
      rw [List.take_length] at hsp
      have HSp5 := Aside0.mk hsp
      have hx0 := (HFr4.out.low.block w.heap.size hlt1).trans HY0.out
      have hB4 : Below w.heap.size w w4 := Below.trans HB2.out ((Below.trans HBo3.out HFr4.out.low).mono HB2.out.size)
      have m0 : w4.cell? ⟨w.heap.size, 0, none⟩ = some (.slice A0 f.ps.length c0) := cell_of hx0 0
      have HSo := Aside0.mk (sorted_any _ f.ps A0 c0 w4 rfl (Kd.C_below HF.out.h0 hB4) HF.out.l0 (by omega))
      have HB4 := Aside0.mk hB4
      obtain ⟨Avs, cvs, hvs⟩ := Kd.R_slice HR4.out
      subst hvs
      clear hsp hB4 hx0
      --@P
      go_wp2_with fail
      refine HSo.out.mono ?_
      rintro e w5 ⟨Aq, cq, pts, rfl, h1, h2, h3, h4⟩
      have hO5 := (h4.block _ (lt_of HO4.out)).trans HO4.out
      have HO5 := Aside0.mk hO5
      have HO5q := Aside0.mk hO5
      have HFr0 := Aside0.mk (Fr.refl (lt_of hO5) : Fr w5 w2.heap.size w5)
      have HSq := Aside0.mk h2
      have HCq := Aside0.mk h3
      have HLq := Aside0.mk h1
      have HFr5 := Aside0.mk (HFr4.out.below h4)
      have HR5 := Aside0.mk (Kd.R_reads' (Kd.R_below HR4.out h4))
      have HB5 := Aside0.mk (below_step HB4.out h4)
      generalize hnsp : sp.length = nsp at *
      have HNsp := Aside0.mk hnsp
      have HSl5 := Aside0.mk (allSl (a := .slice none 0 0) (b := .slice Avs nsp cvs) (c := .slice Aw rws.length cw) rfl rfl rfl)
      have hptl : pts.length ≤ 65536 := by have := h2.2.2; omega
      clear h1 h2 h3 h4 hO5 m0 HSo hnsp
      --@Q
      go_wp2
      --@R
      go_loopg [11] pts.length (fun gg s11 wb => ∃ (k4 : Nat) (vp : Value) (pp : List S37), s11 = .int .i64 k4 ∧ k4 ≤ pts.length ∧ Aside0 (pts.length - k4 ≤ gg) ∧ Aside0 (Fr w5 w2.heap.size wb) ∧ Aside0 (wb.heap[w2.heap.size]? = some (.cells #[vp, .slice Avs nsp cvs, .slice Aw rws.length cw] 25 (0, 0))) ∧ Aside0 (Kd.R k37 37 wb w5.heap.size (fun _ => True) vp pp) ∧ Aside0 (pp = (pts.take k4).filter (fun x => !(sp.any (spanB x)))))
      case atStart => exact ⟨0, _, [], rfl, Nat.zero_le _, ⟨Nat.le_refl _⟩, ⟨HFr0.out⟩, ⟨HO5.out⟩, ⟨Kd.R_nil _ _ _ _ _⟩, ⟨rfl⟩⟩
      case round =>
        clear HFr0 HO5
        obtain ⟨w6, hwq⟩ : ∃ x, x = wr := ⟨_, rfl⟩
        subst hwq
        obtain ⟨k4, vp, pp, rfl, hk4, HM6, HFr6, HO6, HR6, HPp⟩ := hrel
        by_cases hltD : k4 < pts.length
        · have hltzD : (k4 : Int) < (pts.length : Int) := by omega
          obtain ⟨adz, ea, z0, z1, z2⟩ := at_T37 HCq.out (k4 : Int) (by omega) hltzD
          subst ea
          obtain ⟨x, hx⟩ := ex_get hltD
          rw [rd37 hx] at z0 z1 z2
          simp only [Int.toNat_natCast] at z0 z1 z2
          have HXx := Aside0.mk hx
          have hcel : ∀ W, Fr w5 w2.heap.size W → W.heap[w2.heap.size]? = some (.cells #[vp, .slice Avs nsp cvs, .slice Aw rws.length cw] 25 (0, 0)) → (W.cell? ⟨w2.heap.size, 0, none⟩ = some vp ∧ W.cell? ⟨w2.heap.size, 1, none⟩ = some (.slice Avs nsp cvs) ∧ W.cell? (adz.add (k4 * 3)) = some (.int .i64 x.f0) ∧ W.cell? ⟨(adz.add (k4 * 3)).block, (adz.add (k4 * 3)).off + 1, none⟩ = some (.int .i64 x.f1) ∧ W.cell? ⟨(adz.add (k4 * 3)).block, (adz.add (k4 * 3)).off + 2, none⟩ = some (.string x.f2)) := fun W h1 h2 => ⟨cell_of h2 0, cell_of h2 1, h1.cell HO5q.out HSl5.out z0 rfl, h1.cell HO5q.out HSl5.out z1 rfl, h1.cell HO5q.out HSl5.out z2 rfl⟩
          have HCel := Aside0.mk hcel
          have hll : (pp.length + 1) * 32 ≤ 140737488355328 := by
            have h1 := List.length_filter_le (fun x => !(sp.any (spanB x))) (pts.take k4)
            have h2 := List.length_take_le k4 pts
            rw [HPp.out]
            omega
          have HLL := Aside0.mk hll
          obtain ⟨kk, hkk⟩ := (spanned_ev sp x (by rw [HSp5.out]; have := spanF_len f.ss (by omega) pl hpl; omega)).ex
          have HKk := Aside0.mk hkk
          have HC6 := Aside0.mk (HFr6.out.C46 HO5q.out HSl5.out HR5.out.2.2)
          generalize hcov : sp.any (spanB x) = cov at hkk HKk
          have HCov := Aside0.mk hcov
          clear z0 z1 z2 hx hcel hll hkk hcov
          --@S
          go_wp2_with fail
          refine start_ (n := 8) (S := fun w' => w'.cell? ⟨w2.heap.size, 1, none⟩ = some (.slice Avs nsp cvs) ∧ w'.cell? (adz.add (k4 * 3)) = some (.int .i64 x.f0) ∧ w'.cell? ⟨(adz.add (k4 * 3)).block, (adz.add (k4 * 3)).off + 1, none⟩ = some (.int .i64 x.f1) ∧ w'.cell? ⟨(adz.add (k4 * 3)).block, (adz.add (k4 * 3)).off + 2, none⟩ = some (.string x.f2)) (ds := []) #[false, false, false, false, false, false, false, false] (by kernel_rfl) rfl rfl (by have hb := below_drew1 (Below.refl w6.heap.size w6); exact (HCel.out _ (HFr6.out.below hb) ((hb.block _ (lt_of HO6.out)).trans HO6.out)).2) (fun hHeld => ?_); refine with_tab tab22_21 (fun HT_ => ?_)
          have hBA := below_drew1 (Below.refl w6.heap.size w6)
          generalize w6.drew = wA at hBA hHeld ⊢
          have HFrA := Aside0.mk (HFr6.out.below hBA)
          have HOA := Aside0.mk ((hBA.block _ (lt_of HO6.out)).trans HO6.out)
          have HRA := Aside0.mk (Kd.R_below HR6.out hBA)
          have HCA := Aside0.mk (Kd.C_below HC6.out hBA)
          clear hBA
          --@S1
          refine pure_ (i := 0) (N := some 105) (v := ?_) (a' := ?_) #[true, false, false, false, false, false, false, false] rfl rfl (any_of HT_.out (by kernel_rfl)) (fun _ _ _ h => h) (Or.inl ⟨by rfl, ?_⟩) ?_ ?_
          rotate_left
          · intro w'
            go_simp
            with_reducible rfl
          rotate_left
          · simp only [Act.put, List.setIfInBounds_toArray, List.set_cons_zero, List.set_cons_succ, i64_w, i32_w]
            rfl
          refine pure_ (i := 2) (N := some 107) (v := ?_) (a' := ?_) #[true, false, true, false, false, false, false, false] rfl rfl (any_of HT_.out (by kernel_rfl)) (fun _ _ _ h => h) (Or.inl ⟨by rfl, ?_⟩) ?_ ?_
          rotate_left
          · intro w'
            go_simp
            with_reducible rfl
          rotate_left
          · simp only [Act.put, List.setIfInBounds_toArray, List.set_cons_zero, List.set_cons_succ, i64_w, i32_w]
            rfl
          refine pure_ (i := 3) (N := some 108) (v := ?_) (a' := ?_) #[true, false, true, true, false, false, false, false] rfl rfl (any_of HT_.out (by kernel_rfl)) (fun _ _ _ h => h) (Or.inl ⟨by rfl, ?_⟩) ?_ ?_
          rotate_left
          · intro w'
            go_simp
            with_reducible rfl
          rotate_left
          · simp only [Act.put, List.setIfInBounds_toArray, List.set_cons_zero, List.set_cons_succ, i64_w, i32_w]
            rfl
          refine pure_ (i := 4) (N := some 109) (v := ?_) (a' := ?_) #[true, false, true, true, true, false, false, false] rfl rfl (any_of HT_.out (by kernel_rfl)) (fun _ _ _ h => h) (Or.inl ⟨by rfl, ?_⟩) ?_ ?_
          rotate_left
          · intro w'
            go_simp
            with_reducible rfl
          rotate_left
          · simp only [Act.put, List.setIfInBounds_toArray, List.set_cons_zero, List.set_cons_succ, i64_w, i32_w]
            rfl
          refine take_ (i := 1) (N := some 106) (v := ?_) (a' := ?_) #[true, true, true, true, true, false, false, false] rfl rfl (take_of HT_.out (by kernel_rfl)) (fun _ _ _ h => h) (Or.inl ⟨by rfl, ?_⟩) hHeld ?_ ?_
          rotate_left
          · rintro w' ⟨s0, s1, s2, s3⟩
            go_simp
            with_reducible rfl
          rotate_left
          · simp only [Act.put, List.setIfInBounds_toArray, List.set_cons_zero, List.set_cons_succ, i64_w, i32_w]
            rfl
          refine take_ (i := 5) (N := some 110) (v := ?_) (a' := ?_) #[true, true, true, true, true, true, false, false] rfl rfl (take_of HT_.out (by kernel_rfl)) (fun _ _ _ h => h) (Or.inl ⟨by rfl, ?_⟩) hHeld ?_ ?_
          rotate_left
          · rintro w' ⟨s0, s1, s2, s3⟩
            go_simp
            with_reducible rfl
          rotate_left
          · simp only [Act.put, List.setIfInBounds_toArray, List.set_cons_zero, List.set_cons_succ, i64_w, i32_w]
            rfl
          --@S2
          refine one_ (i := 6) (N := some 111) #[true, true, true, true, true, true, true, false] rfl rfl (one_of HT_.out (by kernel_rfl)) (by decide) (fun K hK => ?_)
          refine goes_ Tryz.func58 (by kernel_rfl) rfl #[.slice Avs nsp cvs, .agg #[.int .i64 x.f0, .int .i64 x.f1, .string x.f2]] (by rfl) rfl rfl (by (try simp only [List.map_toArray, List.map_cons, List.map_nil]); first | done | rfl) ?_
          refine ((show Calls Tryz.prog 58 #[.slice Avs nsp cvs, .agg #[.int .i64 x.f0, .int .i64 x.f1, .string x.f2]] wA (fun e w' => e = .returned (.bool cov) ∧ Below wA.heap.size wA w') from (by have h1 := HCA.out; have h2 := HR5.out.2.1; rw [← HNsp.out] at h1 h2 ⊢; exact vellumref17_spanned.calls kk Avs cvs sp _ _ _ cov wA h1 h2 HKk.out))).mono ?_
          rintro e wB ⟨rfl, hb⟩
          refine ⟨_, rfl, ?_⟩
          have HFrB := Aside0.mk (HFrA.out.below hb)
          have HOB := Aside0.mk ((hb.block _ (lt_of HOA.out)).trans HOA.out)
          have HRB := Aside0.mk (Kd.R_below HRA.out hb)
          clear hb
          refine hK.out _ _ (HCel.out _ HFrB.out HOB.out).2 (fun hHeld => ?_)
          clear hK K
          refine norm_ (a' := ?_) ?_ ?_
          rotate_left
          · show Act.put _ (some 111) _ = _
            simp only [Act.put, List.setIfInBounds_toArray, List.set_cons_zero, List.set_cons_succ, i64_w, i32_w]
            rfl
          refine pure_ (i := 7) (N := some 112) (v := ?_) (a' := ?_) #[true, true, true, true, true, true, true, true] rfl rfl (any_of HT_.out (by kernel_rfl)) (fun _ _ _ h => h) (Or.inl ⟨by rfl, ?_⟩) ?_ ?_
          rotate_left
          · intro w'
            go_simp
            with_reducible rfl
          rotate_left
          · simp only [Act.put, List.setIfInBounds_toArray, List.set_cons_zero, List.set_cons_succ, i64_w, i32_w]
            rfl
          refine done_ (done_of HT_.out (by kernel_rfl)) ?_
          clear hHeld HT_ HFr6 HO6 HR6 HFrA HOA HRA HCA HC6
          --@S3
          cases cov with
          | true =>
            --@T
            go_wp2
            go_roundg (pts.length - (k4 + 1))
            case measure => have := HM6.out; omega
            case rel => exact ⟨k4 + 1, _, _, by go_num, hltD, ⟨Nat.le_refl _⟩, ⟨HFrB.out⟩, ⟨HOB.out⟩, ⟨HRB.out⟩, ⟨by rw [HPp.out, take_snoc HXx.out, List.filter_append]; simp [HCov.out]⟩⟩
          | false =>
            --@U
            go_wp2_with fail
            refine start_ (n := 10) (S := fun w' => w'.cell? ⟨w2.heap.size, 0, none⟩ = some vp ∧ w'.cell? (adz.add (k4 * 3)) = some (.int .i64 x.f0) ∧ w'.cell? ⟨(adz.add (k4 * 3)).block, (adz.add (k4 * 3)).off + 1, none⟩ = some (.int .i64 x.f1) ∧ w'.cell? ⟨(adz.add (k4 * 3)).block, (adz.add (k4 * 3)).off + 2, none⟩ = some (.string x.f2)) (ds := [9]) #[false, false, false, false, false, false, false, false, false, false] (by kernel_rfl) rfl rfl (by have hb := below_drew1 (Below.refl wB.heap.size wB); have hc := HCel.out _ (HFrB.out.below hb) ((hb.block _ (lt_of HOB.out)).trans HOB.out); exact ⟨hc.1, hc.2.2⟩) (fun hHeld => ?_); refine with_tab tab22_22 (fun HT_ => ?_)
            have hBA := below_drew1 (Below.refl wB.heap.size wB)
            generalize wB.drew = wC at hBA hHeld ⊢
            have HFrC := Aside0.mk (HFrB.out.below hBA)
            have HOC := Aside0.mk ((hBA.block _ (lt_of HOB.out)).trans HOB.out)
            have HRC := Aside0.mk (Kd.R_below HRB.out hBA)
            clear hBA
            refine pure_ (i := 0) (N := some 113) (v := ?_) (a' := ?_) #[true, false, false, false, false, false, false, false, false, false] rfl rfl (any_of HT_.out (by kernel_rfl)) (fun _ _ _ h => h) (Or.inl ⟨by rfl, ?_⟩) ?_ ?_
            rotate_left
            · intro w'
              go_simp
              with_reducible rfl
            rotate_left
            · simp only [Act.put, List.setIfInBounds_toArray, List.set_cons_zero, List.set_cons_succ, i64_w, i32_w]
              rfl
            refine pure_ (i := 2) (N := some 115) (v := ?_) (a' := ?_) #[true, false, true, false, false, false, false, false, false, false] rfl rfl (any_of HT_.out (by kernel_rfl)) (fun _ _ _ h => h) (Or.inl ⟨by rfl, ?_⟩) ?_ ?_
            rotate_left
            · intro w'
              go_simp
              with_reducible rfl
            rotate_left
            · simp only [Act.put, List.setIfInBounds_toArray, List.set_cons_zero, List.set_cons_succ, i64_w, i32_w]
              rfl
            refine pure_ (i := 3) (N := some 116) (v := ?_) (a' := ?_) #[true, false, true, true, false, false, false, false, false, false] rfl rfl (any_of HT_.out (by kernel_rfl)) (fun _ _ _ h => h) (Or.inl ⟨by rfl, ?_⟩) ?_ ?_
            rotate_left
            · intro w'
              go_simp
              with_reducible rfl
            rotate_left
            · simp only [Act.put, List.setIfInBounds_toArray, List.set_cons_zero, List.set_cons_succ, i64_w, i32_w]
              rfl
            refine pure_ (i := 4) (N := some 117) (v := ?_) (a' := ?_) #[true, false, true, true, true, false, false, false, false, false] rfl rfl (any_of HT_.out (by kernel_rfl)) (fun _ _ _ h => h) (Or.inl ⟨by rfl, ?_⟩) ?_ ?_
            rotate_left
            · intro w'
              go_simp
              with_reducible rfl
            rotate_left
            · simp only [Act.put, List.setIfInBounds_toArray, List.set_cons_zero, List.set_cons_succ, i64_w, i32_w]
              rfl
            refine take_ (i := 1) (N := some 114) (v := ?_) (a' := ?_) #[true, true, true, true, true, false, false, false, false, false] rfl rfl (take_of HT_.out (by kernel_rfl)) (fun _ _ _ h => h) (Or.inl ⟨by rfl, ?_⟩) hHeld ?_ ?_
            rotate_left
            · rintro w' ⟨s0, s1, s2, s3⟩
              go_simp
              with_reducible rfl
            rotate_left
            · simp only [Act.put, List.setIfInBounds_toArray, List.set_cons_zero, List.set_cons_succ, i64_w, i32_w]
              rfl
            refine take_ (i := 5) (N := some 118) (v := ?_) (a' := ?_) #[true, true, true, true, true, true, false, false, false, false] rfl rfl (take_of HT_.out (by kernel_rfl)) (fun _ _ _ h => h) (Or.inl ⟨by rfl, ?_⟩) hHeld ?_ ?_
            rotate_left
            · rintro w' ⟨s0, s1, s2, s3⟩
              go_simp
              with_reducible rfl
            rotate_left
            · simp only [Act.put, List.setIfInBounds_toArray, List.set_cons_zero, List.set_cons_succ, i64_w, i32_w]
              rfl
            refine one_ (i := 6) (N := some 119) #[true, true, true, true, true, true, true, false, false, false] rfl rfl (one_of HT_.out (by kernel_rfl)) (by decide) (fun K hK => ?_)
            refine value_ (w1 := ?_) (v := ?_) (by rfl) rfl ?_ ?_
            rotate_left 2
            · go_simp
              constructor
              · rfl
              · rfl
            refine hK.out _ _ (by have hb := below_alloc (Below.refl wC.heap.size wC) (.cells #[.int .i64 x.f0, .int .i64 x.f1, .string x.f2] 37); have hc := HCel.out _ (HFrC.out.below hb) ((hb.block _ (lt_of HOC.out)).trans HOC.out); exact ⟨hc.1, hc.2.2⟩) (fun hHeld => ?_)
            clear hK K
            refine norm_ (a' := ?_) ?_ ?_
            rotate_left
            · show Act.put _ (some 119) _ = _
              simp only [Act.put, List.setIfInBounds_toArray, List.set_cons_zero, List.set_cons_succ, i64_w, i32_w]
              rfl
            have hbsz : w5.heap.size ≤ wC.heap.size := HFrC.out.size
            refine one_ (i := 7) (N := some 120) #[true, true, true, true, true, true, true, true, false, false] rfl rfl (one_of HT_.out (by kernel_rfl)) (by decide) (fun K hK => ?_)
            refine Kd.R_append_step k37 (w0 := wC) w5.heap.size (by rfl) (.tmp 114) (.tmp 119) 22 37 (.agg #[(.int .i64 0), (.int .i64 0), (.string ⟨#[]⟩)]) 32 rfl Tryz.underlying22 info37 rfl (by decide) (by omega) vp pp x [.int .i64 x.f0, .int .i64 x.f1, .string x.f2] (fun _ => True) (fun _ => False) rfl rfl (k37_mkM _ _ _ x) (fun _ hk => hk.elim) (fun _ _ => trivial) HRC.out (Below.refl _ _) hbsz HLL.out ?_
            intro v9 w9 ho hb hg hat
            obtain ⟨Av, nv, cv, rfl⟩ : ∃ A n c, v9 = Value.slice A n c := (by obtain ⟨A, c, h⟩ := Kd.R_slice ho; exact ⟨A, _, c, h⟩)
            have HFr9 := Aside0.mk (HFrC.out.grown hg (fun k e => Kd.R_base HRC.out k e))
            have HO9 := Aside0.mk (blk_by HRC.out HOC.out (by decide) hg)
            have HR9 := Aside0.mk ho
            clear ho hb hg hat
            refine hK.out _ _ (by have hc := HCel.out _ HFr9.out HO9.out; exact ⟨hc.1, hc.2.2⟩) (fun hHeld => ?_)
            clear hK K
            refine norm_ (a' := ?_) ?_ ?_
            rotate_left
            · show Act.put _ (some 120) _ = _
              simp only [Act.put, List.setIfInBounds_toArray, List.set_cons_zero, List.set_cons_succ, i64_w, i32_w]
              rfl
            refine pure_ (i := 8) (N := some 121) (v := ?_) (a' := ?_) #[true, true, true, true, true, true, true, true, true, false] rfl rfl (any_of HT_.out (by kernel_rfl)) (fun _ _ _ h => h) (Or.inl ⟨by rfl, ?_⟩) ?_ ?_
            rotate_left
            · intro w'
              go_simp
              with_reducible rfl
            rotate_left
            · simp only [Act.put, List.setIfInBounds_toArray, List.set_cons_zero, List.set_cons_succ, i64_w, i32_w]
              rfl
            have o1 : w9.cell? ⟨w2.heap.size, 0, none⟩ = some vp := cell_of HO9.out 0
            have of1 : w9.frozen? ⟨w2.heap.size, 0, none⟩ = false := frozen_of HO9.out 0
            refine last_ (i := 9) (N := none) #[true, true, true, true, true, true, true, true, true, true] rfl rfl (one_of HT_.out (by kernel_rfl)) (by decide) (fun K hK => ?_)
            refine skip_ (w1 := ?_) (by rfl) rfl ?_ ?_
            rotate_left
            · go_simp
              rfl
            refine hK.out _ _ ?_
            refine done_ (done_of HT_.out (by kernel_rfl)) ?_
            have HFr10 := Aside0.mk (HFr9.out.set 0 (.slice Av nv cv))
            have hO10 := setCell_heap (i := 0) HO9.out (.slice Av nv cv)
            have HO10 : Aside0 ((w9.setCell ⟨w2.heap.size, 0, none⟩ (.slice Av nv cv)).heap[w2.heap.size]? = some (.cells #[.slice Av nv cv, .slice Avs nsp cvs, .slice Aw rws.length cw] 25 (0, 0))) := Aside0.mk (by simpa using hO10)
            have HR10 := Aside0.mk (R37_set (g := w2.heap.size) (i := 0) (u := .slice Av nv cv) HR9.out HO9.out)
            clear hO10 o1 of1 hHeld HT_ HFrB HOB HRB HFrC HOC HRC HFr9 HO9 HR9 hbsz
            --@V
            go_wp2
            go_roundg (pts.length - (k4 + 1))
            case measure => have := HM6.out; omega
            case rel => exact ⟨k4 + 1, _, _, by go_num, hltD, ⟨Nat.le_refl _⟩, ⟨HFr10.out⟩, ⟨HO10.out⟩, ⟨HR10.out⟩, ⟨by rw [HPp.out, take_snoc HXx.out, List.filter_append]; simp [HCov.out]⟩⟩
        · obtain rfl : k4 = pts.length := by omega
          have hltzD : ¬ (pts.length : Int) < (pts.length : Int) := by omega
          have hpp := HPp.out
          rw [List.take_length] at hpp
          obtain ⟨Avp, cvp, hvp⟩ := Kd.R_slice HR6.out
          subst hvp
          have HR7 := Aside0.mk (Kd.R_reads' HR6.out)
          generalize hnpp : pp.length = npp at *
          have o0 : w6.cell? ⟨w2.heap.size, 0, none⟩ = some (.slice Avp npp cvp) := cell_of HO6.out 0
          have o1 : w6.cell? ⟨w2.heap.size, 1, none⟩ = some (.slice Avs nsp cvs) := cell_of HO6.out 1
          have o2 : w6.cell? ⟨w2.heap.size, 2, none⟩ = some (.slice Aw rws.length cw) := cell_of HO6.out 2
          have hlt1' : w.heap.size + 1 < w2.heap.size := lt_of HX1.out
          have HX5 := Aside0.mk ((HFr5.out.low.block _ hlt1').trans HY1.out)
          have HX6 := Aside0.mk ((HFr6.out.low.block _ hlt1').trans HX5.out)
          have j0 : w6.cell? ⟨w.heap.size + 1, 0, none⟩ = some (.slice none 0 0) := cell_of HX6.out 0
          have j1 : w6.cell? ⟨w.heap.size + 1, 1, none⟩ = some (.slice none 0 0) := cell_of HX6.out 1
          have j2 : w6.cell? ⟨w.heap.size + 1, 2, none⟩ = some (.slice none 0 0) := cell_of HX6.out 2
          have k0 : w6.frozen? ⟨w.heap.size + 1, 0, none⟩ = false := frozen_of HX6.out 0
          have k1 : w6.frozen? ⟨w.heap.size + 1, 1, none⟩ = false := frozen_of HX6.out 1
          have k2 : w6.frozen? ⟨w.heap.size + 1, 2, none⟩ = false := frozen_of HX6.out 2
          have e1 : (w.heap.size + 1 = w2.heap.size) = False := eq_false (by omega)
          have e2 : (w2.heap.size = w.heap.size + 1) = False := eq_false (by omega)
          have HPp2 := Aside0.mk hpp
          have HNpp := Aside0.mk hnpp
          clear hpp hnpp HPp
          --@W
          go_wp2
          --@X
          refine bodyPost_ret (results_c1 rfl _ _ (w.heap.size + 1) 25 #[.slice Avp npp cvp, .slice Avs nsp cvs, .slice Aw rws.length cw] (0, 0) _ rfl (setCell_heap (setCell_heap (setCell_heap HX6.out _) _) _) Tryz.underlying25 rfl (by kernel_rfl)) rfl ?_
          have hFr7 : Fr w6 (w.heap.size + 1) (((w6.setCell ⟨w.heap.size + 1, 0, none⟩ (.slice Avp npp cvp)).setCell ⟨w.heap.size + 1, 1, none⟩ (.slice Avs nsp cvs)).setCell ⟨w.heap.size + 1, 2, none⟩ (.slice Aw rws.length cw)) := (((Fr.refl (lt_of HX6.out)).set 0 _).set 1 _).set 2 _
          have hSl := allSl (a := .slice none 0 0) (b := .slice none 0 0) (c := .slice none 0 0) rfl rfl rfl
          have hpn := places_norm HSp.out
          refine ⟨⟨pp, sp, rws⟩, pl.map plOf, _, rfl, ⟨hpn.1, hpn.2.1, by rw [HSp5.out]; exact hpn.2.2, ⟨pts, HSq.out, ?_⟩, HSw.out⟩, ⟨Avp, Avs, Aw, cvp, cvs, cw, ?_, ?_⟩, ?_⟩
          · show pp = _
            rw [HPp2.out]
            refine List.filter_congr (fun x _ => ?_)
            rw [HSp5.out, spanned_norm HSp.out]
          · show _ = fv _ _ _ _ _ _ _
            unfold fv
            rw [HNpp.out, HNsp.out]
          · refine ⟨?_, ?_, ?_, ?_, ?_, HRw.out⟩
            · exact hFr7.C37 HX6.out hSl (by have := HR7.out.2.2; rw [HNpp.out]; exact this)
            · have := HR7.out.2.1; show pp.length ≤ _; rw [HNpp.out]; exact this
            · exact hFr7.C46 HX6.out hSl (HFr6.out.C46 HO5q.out HSl5.out (by have := HR5.out.2.2; rw [HNsp.out]; exact this))
            · have := HR5.out.2.1; show sp.length ≤ _; rw [HNsp.out]; exact this
            · exact hFr7.C37 HX6.out hSl (Kd.C_below HCw.out (Below.trans (Below.trans HBo3.out HFr5.out.low) HFr6.out.low))
          · exact Below.trans (Below.trans HB5.out (HFr6.out.low.mono (Nat.le_of_lt hlt1))) (hFr7.low.mono (Nat.le_succ _))
end Go.Proofs.YtldlenjfpjihdaaGreat.PS
end
section
namespace Go.Proofs.YtldlenjfpjihdaaGreat.PS
open Go Go.RowKit Go.Proofs Go.Maps Go.WideMaps Go.Proofs.YtldlenjfpjihdaaGreatW.PrintWords Go.Proofs.YtldlenjfpjihdaaGreatW.PrintLast Go.Proofs.YtldlenjfpjihdaaGreatW.PrintMore
set_option linter.unusedVariables false
set_option linter.unusedSimpArgs false
def okI (t i : Int) : Bool := decide (t ≥ 0) && decide (i ≥ -1)
def badP (p : S37) : Bool := !okI p.f0 p.f1
def badS (s : S46) : Bool := !okI s.f0 s.f1
def Ft.len (f : Ft) : Nat := f.ps.length + f.ss.length + f.ws.length
def Ft.bad (f : Ft) : Bool := f.ps.any badP || (f.ss.any badS || f.ws.any badP)
def checkS (f : Ft) : Int := if f.len > 65536 then 2 else if f.bad = true then 1 else 0
theorem place_eq (t i : Int) : vellumref17_place.f t i = some (okI t i) := by
  unfold vellumref17_place.f okI
  by_cases h : t ≥ 0
  · rw [if_pos h]; simp [h]
  · rw [if_neg h]; simp [h]
theorem may_eq (t i : Int) : sets_may.f t i = some (okI t i) := place_eq t i
theorem check_l2 (ps : List S37) (ss : List S46) (ws : List S37) (hl : ps.length < 4611686018427387904 ∧ ss.length < 4611686018427387904 ∧ ws.length < 4611686018427387904) : ∀ (m i : Nat), i + m = ws.length → Ev (fun k => vellumref17_Check.l2 k (i : Int) ps ss ws) (if ((ws.drop i).any badP) = true then 1 else 0) := by
  intro m
  induction m with
  | zero =>
    intro i hi
    rw [List.drop_eq_nil_of_le (by omega)]
    refine Ev.from_ 1 fun k => ?_
    simp only [vellumref17_Check.l2]
    rw [if_neg (by omega)]
    rfl
  | succ m ih =>
    intro i hi
    obtain ⟨x, hx⟩ : ∃ x, ws[i]? = some x := ⟨_, List.getElem?_eq_getElem (by omega)⟩
    rw [any_drop hx]
    by_cases e : badP x = true
    · rw [e]
      refine Ev.from_ 1 fun k => ?_
      simp only [vellumref17_Check.l2]
      have e' : okI x.f0 x.f1 = false := by unfold badP at e; simpa using e
      rw [if_pos (by omega), if_pos (by omega), rd37 hx, place_eq, e', Option.bind_some, if_neg (by decide)]
      rfl
    · rw [Bool.not_eq_true] at e
      rw [e, Bool.false_or]
      refine Ev.step (g := fun k => vellumref17_Check.l2 k ((i + 1 : Nat) : Int) ps ss ws) (fun k => ?_) (ih (i + 1) (by omega))
      simp only [vellumref17_Check.l2]
      have e' : okI x.f0 x.f1 = true := by unfold badP at e; simpa using e
      rw [if_pos (by omega), if_pos (by omega), rd37 hx, place_eq, e', wrap64_id (by omega) (by omega), Option.bind_some, if_pos rfl]
      rfl
theorem check_l1 (ps : List S37) (ss : List S46) (ws : List S37) (hl : ps.length < 4611686018427387904 ∧ ss.length < 4611686018427387904 ∧ ws.length < 4611686018427387904) : ∀ (m i : Nat), i + m = ss.length → Ev (fun k => vellumref17_Check.l1 k (i : Int) ps ss ws) (if ((ss.drop i).any badS || ws.any badP) = true then 1 else 0) := by
  intro m
  induction m with
  | zero =>
    intro i hi
    rw [List.drop_eq_nil_of_le (by omega)]
    refine Ev.step (g := fun k => vellumref17_Check.l2 k ((0 : Nat) : Int) ps ss ws) (fun k => ?_) (by have h := check_l2 ps ss ws hl _ 0 (Nat.zero_add _); rw [List.drop_zero] at h; exact h)
    simp only [vellumref17_Check.l1]
    rw [if_neg (by omega)]
    rfl
  | succ m ih =>
    intro i hi
    obtain ⟨x, hx⟩ : ∃ x, ss[i]? = some x := ⟨_, List.getElem?_eq_getElem (by omega)⟩
    rw [any_drop hx]
    by_cases e : badS x = true
    · rw [e]
      refine Ev.from_ 1 fun k => ?_
      simp only [vellumref17_Check.l1]
      have e' : okI x.f0 x.f1 = false := by unfold badS at e; simpa using e
      rw [if_pos (by omega), if_pos (by omega), rd46 hx, place_eq, e', Option.bind_some, if_neg (by decide)]
      rfl
    · rw [Bool.not_eq_true] at e
      rw [e, Bool.false_or]
      refine Ev.step (g := fun k => vellumref17_Check.l1 k ((i + 1 : Nat) : Int) ps ss ws) (fun k => ?_) (ih (i + 1) (by omega))
      simp only [vellumref17_Check.l1]
      have e' : okI x.f0 x.f1 = true := by unfold badS at e; simpa using e
      rw [if_pos (by omega), if_pos (by omega), rd46 hx, place_eq, e', wrap64_id (by omega) (by omega), Option.bind_some, if_pos rfl]
      rfl
theorem check_l0 (ps : List S37) (ss : List S46) (ws : List S37) (hl : ps.length < 4611686018427387904 ∧ ss.length < 4611686018427387904 ∧ ws.length < 4611686018427387904) : ∀ (m i : Nat), i + m = ps.length → Ev (fun k => vellumref17_Check.l0 k (i : Int) ps ss ws) (if ((ps.drop i).any badP || (ss.any badS || ws.any badP)) = true then 1 else 0) := by
  intro m
  induction m with
  | zero =>
    intro i hi
    rw [List.drop_eq_nil_of_le (by omega)]
    refine Ev.step (g := fun k => vellumref17_Check.l1 k ((0 : Nat) : Int) ps ss ws) (fun k => ?_) (by have h := check_l1 ps ss ws hl _ 0 (Nat.zero_add _); rw [List.drop_zero] at h; exact h)
    simp only [vellumref17_Check.l0]
    rw [if_neg (by omega)]
    rfl
  | succ m ih =>
    intro i hi
    obtain ⟨x, hx⟩ : ∃ x, ps[i]? = some x := ⟨_, List.getElem?_eq_getElem (by omega)⟩
    rw [any_drop hx]
    by_cases e : badP x = true
    · rw [e]
      refine Ev.from_ 1 fun k => ?_
      simp only [vellumref17_Check.l0]
      have e' : okI x.f0 x.f1 = false := by unfold badP at e; simpa using e
      rw [if_pos (by omega), if_pos (by omega), rd37 hx, place_eq, e', Option.bind_some, if_neg (by decide)]
      rfl
    · rw [Bool.not_eq_true] at e
      rw [e, Bool.false_or]
      refine Ev.step (g := fun k => vellumref17_Check.l0 k ((i + 1 : Nat) : Int) ps ss ws) (fun k => ?_) (ih (i + 1) (by omega))
      simp only [vellumref17_Check.l0]
      have e' : okI x.f0 x.f1 = true := by unfold badP at e; simpa using e
      rw [if_pos (by omega), if_pos (by omega), rd37 hx, place_eq, e', wrap64_id (by omega) (by omega), Option.bind_some, if_pos rfl]
      rfl
theorem rcheck_ev (f : Ft) (hs : f.small) : Ev (fun k => vellumref17_Check.f k f.ps f.ss f.ws) (checkS f) := by
  have hn := hs.n
  unfold vellumref17_Check.f vellumref17_size.f checkS Ft.len
  have h := check_l0 f.ps f.ss f.ws ⟨by omega, by omega, by omega⟩ f.ps.length 0 (Nat.zero_add _)
  have e1 : wrap64 ((f.ps.length : Int) + (f.ss.length : Int)) = (f.ps.length : Int) + (f.ss.length : Int) := wrap64_id (by omega) (by omega)
  have e2 : wrap64 ((f.ps.length : Int) + (f.ss.length : Int) + (f.ws.length : Int)) = (f.ps.length : Int) + (f.ss.length : Int) + (f.ws.length : Int) := wrap64_id (by omega) (by omega)
  rw [e1, e2]
  by_cases hc : f.ps.length + f.ss.length + f.ws.length > 65536
  · rw [if_pos hc]
    refine Ev.from_ 0 fun k => ?_
    rw [Option.bind_some, if_pos (by omega)]
  · rw [if_neg hc]
    obtain ⟨n, hn⟩ := h
    refine ⟨n, fun k hk => ?_⟩
    dsimp only [Option.bind_some]
    rw [if_neg (by omega)]
    exact hn k hk
theorem rcheckV {w : World} {v : Value} {f : Ft} (h : FtV w v f) (hs : f.small) : Calls Tryz.prog 12 #[v] w fun e w' => e = .returned (.int .i64 (checkS f)) ∧ Below w.heap.size w w' := by
  obtain ⟨A0, A1, A2, c0, c1, c2, rfl, h⟩ := h
  obtain ⟨k, hk⟩ := (rcheck_ev f hs).ex
  exact vellumref17_Check.calls k A0 c0 f.ps A1 c1 f.ss A2 c2 f.ws _ w h.h0 h.l0 h.h1 h.l1 h.h2 h.l2 hk
theorem check1_any (p : S37) (w : World) : Calls Tryz.prog 23 (#[pv p] ++ #[]) w fun e w' => e = .returned (.bool (badP p)) ∧ Below w.heap.size w w' := by
  have hm := fun W => sets_may.calls p.f0 p.f1 (okI p.f0 p.f1) W (may_eq p.f0 p.f1)
  unfold pv badP
  generalize okI p.f0 p.f1 = ok at *
  go_enter Tryz.func23, Tryz.ntmps23
  go_wp2_with (go_at_call 24; refine (hm _).mono ?_; rintro e w' ⟨rfl, hD⟩; have HD := Aside0.mk hD; clear hD)
  go_ret
  exact ⟨rfl, below_step (below_alloc (Below.refl w.heap.size w) _) HD.out.below⟩
theorem enter23 : ∀ args w, (callFunc 23 args).run Tryz.prog w = .ok (.enter 23 args) w := fun args w => by simp [go_sem]
theorem check2_any (s : S46) (w : World) : Calls Tryz.prog 28 (#[sv s] ++ #[]) w fun e w' => e = .returned (.bool (badS s)) ∧ Below w.heap.size w w' := by
  have hm := fun W => sets_may.calls s.f0 s.f1 (okI s.f0 s.f1) W (may_eq s.f0 s.f1)
  unfold sv badS
  generalize okI s.f0 s.f1 = ok at *
  go_enter Tryz.func28, Tryz.ntmps28
  go_wp2_with (go_at_call 24; refine (hm _).mono ?_; rintro e w' ⟨rfl, hD⟩; have HD := Aside0.mk hD; clear hD)
  go_ret
  exact ⟨rfl, below_step (below_alloc (Below.refl w.heap.size w) _) HD.out.below⟩
theorem enter28 : ∀ args w, (callFunc 28 args).run Tryz.prog w = .ok (.enter 28 args) w := fun args w => by simp [go_sem]
theorem contf_point (p : S37 → Bool) (g : Nat) (lb : Array Value) (eg : ∀ args w, (callFunc g args).run Tryz.prog w = .ok (.enter g args) w) (A : Option Addr) (xs : List S37) (c : Nat) (w : World) (hC : Kd.C k37 w A xs.length xs)
    (hp : ∀ (W : World) (x : S37), x ∈ xs → Below w.heap.size w W → Calls Tryz.prog g (#[pv x] ++ lb) W fun e w' => e = .returned (.bool (p x)) ∧ Below W.heap.size W w') :
    Calls Tryz.prog 26 #[.slice A xs.length c, .func (.func g) #[] lb] w fun e w' => e = .returned (.bool (xs.any p)) ∧ Below w.heap.size w w' := by
  have hi := idxf_point p g lb eg A xs c w hC hp
  clear hp hC
  go_enter Tryz.func26, Tryz.ntmps26
  go_wp2_with (go_at_call 59; refine hi.mono ?_; rintro e w' ⟨rfl, hb⟩)
  go_ret
  exact ⟨by rw [← idxF_nonneg]; rfl, hb⟩
theorem size_ev (f : Ft) (hs : f.small) : sets_size.f f.ps f.ss f.ws = some (f.len : Int) := by
  have hn := hs.n
  unfold sets_size.f Ft.len
  rw [wrap64_id (n := (f.ps.length : Int) + (f.ss.length : Int)) (by omega) (by omega), wrap64_id (by omega) (by omega)]
  rfl
set_option maxHeartbeats 8000000 in
set_option maxRecDepth 100000 in
theorem check_any (f : Ft) (A0 A1 A2 : Option Addr) (c0 c1 c2 : Nat) (w : World) (hf : FtR w A0 A1 A2 c0 c1 c2 f) (hs : f.small) :
    Calls Tryz.prog 11 #[.agg #[.slice A0 f.ps.length c0, .slice A1 f.ss.length c1, .slice A2 f.ws.length c2]] w fun e w' => e = .returned (.int .i64 (checkS f)) ∧ Below w.heap.size w w' := by
  have hB0 := below_alloc (Below.refl w.heap.size w) (ftO A0 A1 A2 c0 c1 c2 f)
  have HX := Aside0.mk (heap_new w (ftO A0 A1 A2 c0 c1 c2 f))
  have HSz := Aside0.mk (sets_size.calls A0 c0 f.ps A1 c1 f.ss A2 c2 f.ws (f.len : Int) (w.alloc (ftO A0 A1 A2 c0 c1 c2 f)) (Kd.C_below hf.h0 hB0) hf.l0 (Kd.C_below hf.h1 hB0) hf.l1 (Kd.C_below hf.h2 hB0) hf.l2 (size_ev f hs))
  have HP := Aside0.mk (fun (W : World) (h : Below w.heap.size w W) => contf_point badP 23 #[] enter23 A0 f.ps c0 W (Kd.C_below hf.h0 h) (fun V x _ _ => check1_any x V))
  have HW := Aside0.mk (fun (W : World) (h : Below w.heap.size w W) => contf_point badP 23 #[] enter23 A2 f.ws c2 W (Kd.C_below hf.h2 h) (fun V x _ _ => check1_any x V))
  have HS := Aside0.mk (fun (W : World) (h : Below w.heap.size w W) => contf_span badS 28 #[] enter28 A1 f.ss c1 W (Kd.C_below hf.h1 h) (fun V x _ _ => check2_any x V))
  have HB := Aside0.mk hB0
  unfold ftO at HSz HX HB
  clear hB0 hf
  have hck : checkS f = if f.len > 65536 then 2 else if f.bad = true then 1 else 0 := rfl
  have hbd : f.bad = (f.ps.any badP || (f.ss.any badS || f.ws.any badP)) := rfl
  rw [hck, hbd]
  clear hck hbd
  have hbl : f.len < 90000000000000 := by have := hs.n; unfold Ft.len; omega
  clear hs
  generalize f.len = n at *
  generalize hlp : f.ps.any badP = bp at *
  generalize hlw : f.ws.any badP = bw at *
  generalize hls : f.ss.any badS = bs_ at *
  generalize f.ps.length = n0 at *
  generalize f.ss.length = n1 at *
  generalize f.ws.length = n2 at *
  clear hlp hlw hls
  go_enter Tryz.func11, Tryz.ntmps11
  by_cases hc : n > 65536
  · rw [if_pos hc]
    have hcz : (n : Int) > 65536 := by omega
    go_wp2_with (go_at_call 25; refine HSz.out.mono ?_; rintro e w2 ⟨rfl, hb⟩; have HB2 := Aside0.mk (below_step HB.out hb); clear hb)
    go_ret
    exact ⟨rfl, HB2.out⟩
  · rw [if_neg hc]
    have hcz : ¬ (n : Int) > 65536 := by omega
    cases bp <;> cases bw <;> cases bs_
    all_goals
      go_wp2_with (first | (go_at_call 25; refine HSz.out.mono ?_; rintro e w2 ⟨rfl, hb⟩; have HX2 := Aside0.mk ((hb.block _ (lt_of HX.out)).trans HX.out); have HB2 := Aside0.mk (below_step HB.out hb); have p0 : w2.cell? ⟨w.heap.size, 0, none⟩ = some (.slice A0 n0 c0) := cell_of HX2.out 0; have p1 : w2.cell? ⟨w.heap.size, 1, none⟩ = some (.slice A1 n1 c1) := cell_of HX2.out 1; have p2 : w2.cell? ⟨w.heap.size, 2, none⟩ = some (.slice A2 n2 c2) := cell_of HX2.out 2; clear hb HSz HX HB) | (go_at_call 26; refine (HP.out _ HB2.out).mono ?_; rintro e w3 ⟨rfl, hb⟩; have HX3 := Aside0.mk ((hb.block _ (lt_of HX2.out)).trans HX2.out); have HB3 := Aside0.mk (below_step HB2.out hb); have p0 : w3.cell? ⟨w.heap.size, 0, none⟩ = some (.slice A0 n0 c0) := cell_of HX3.out 0; have p1 : w3.cell? ⟨w.heap.size, 1, none⟩ = some (.slice A1 n1 c1) := cell_of HX3.out 1; have p2 : w3.cell? ⟨w.heap.size, 2, none⟩ = some (.slice A2 n2 c2) := cell_of HX3.out 2; clear hb HP HX2) | (go_at_call 26; refine (HW.out _ HB3.out).mono ?_; rintro e w4 ⟨rfl, hb⟩; have HX4 := Aside0.mk ((hb.block _ (lt_of HX3.out)).trans HX3.out); have HB4 := Aside0.mk (below_step HB3.out hb); have p0 : w4.cell? ⟨w.heap.size, 0, none⟩ = some (.slice A0 n0 c0) := cell_of HX4.out 0; have p1 : w4.cell? ⟨w.heap.size, 1, none⟩ = some (.slice A1 n1 c1) := cell_of HX4.out 1; have p2 : w4.cell? ⟨w.heap.size, 2, none⟩ = some (.slice A2 n2 c2) := cell_of HX4.out 2; clear hb HW HX3) | (go_at_call 27; refine (HS.out _ HB4.out).mono ?_; rintro e w5 ⟨rfl, hb⟩; have HB5 := Aside0.mk (below_step HB4.out hb); clear hb))
      go_ret
      first | exact ⟨rfl, HB5.out⟩ | exact ⟨rfl, HB4.out⟩ | exact ⟨rfl, HB3.out⟩
theorem checkV {w : World} {v : Value} {f : Ft} (h : FtV w v f) (hs : f.small) : Calls Tryz.prog 11 #[v] w fun e w' => e = .returned (.int .i64 (checkS f)) ∧ Below w.heap.size w w' := by
  obtain ⟨A0, A1, A2, c0, c1, c2, rfl, h⟩ := h
  exact check_any f A0 A1 A2 c0 c1 c2 w h hs
end Go.Proofs.YtldlenjfpjihdaaGreat.PS
end
section
namespace Go.Proofs.YtldlenjfpjihdaaGreat.PS
open Go Go.RowKit Go.Proofs Go.Maps Go.WideMaps Go.Proofs.YtldlenjfpjihdaaGreatW.PrintWords Go.Proofs.YtldlenjfpjihdaaGreatW.PrintLast Go.Proofs.YtldlenjfpjihdaaGreatW.PrintMore
set_option linter.unusedVariables false
set_option linter.unusedSimpArgs false
open Go.Proofs.YtldlenjfpjihdaaGreat.PU (unionR)
def Ft.nil : Ft := ⟨[], [], []⟩
def NormR (f g : Ft) : Prop := (checkS f = 0 ∧ ∃ pl, NormOf f g pl) ∨ (checkS f ≠ 0 ∧ g = Ft.nil)
def Ft.wfs (f : Ft) : Prop := f.wf ∧ ∀ s ∈ f.ss, wfL (plS s)
theorem check_len {f : Ft} (h : checkS f = 0) : f.ps.length + f.ss.length + f.ws.length ≤ 65536 := by
  unfold checkS Ft.len at h
  by_cases h1 : f.ps.length + f.ss.length + f.ws.length > 65536
  · rw [if_pos h1] at h; cases h
  · omega
theorem FtO.nil (w : World) (b : Nat) : FtO w b (.agg #[.slice none 0 0, .slice none 0 0, .slice none 0 0]) Ft.nil (.slice none 0 0) (.slice none 0 0) (.slice none 0 0) := ⟨rfl, .inl ⟨rfl, rfl⟩, .inl ⟨rfl, rfl⟩, .inl ⟨rfl, rfl⟩, fun k h => by simp [Value.ownBlock] at h⟩
theorem FtO.setc {w : World} {b g i : Nat} {v u : Value} {f : Ft} {v0 v1 v2 : Value} {cs : Array Value} (h : FtO w b v f v0 v1 v2) (hb : w.heap[g]? = some (.cells cs 25 (0, 0))) : FtO (w.setCell ⟨g, i, none⟩ u) b v f v0 v1 v2 :=
  ⟨h.eq, h.h0.setc hb (by decide) i u, h.h1.setc hb (by decide) i u, h.h2.setc hb (by decide) i u, h.ne⟩
theorem FtO.lower {w : World} {b b' : Nat} {v : Value} {f : Ft} {v0 v1 v2 : Value} (h : FtO w b v f v0 v1 v2) (hb : b' ≤ b) : FtO w b' v f v0 v1 v2 := ⟨h.eq, OwnG_lower h.h0 hb, OwnG_lower h.h1 hb, OwnG_lower h.h2 hb, h.ne⟩
theorem FtV.keep {w3 w : World} {bo : Nat} {v : Value} {f : Ft} (hf : FtV w3 v f) (h : Fr w3 bo w) {cs : Array Value} {t : Nat} {fr : Nat × Nat} (hb : w3.heap[bo]? = some (.cells cs t fr)) (hs : ∀ (i : Nat) (v : Value), cs[i]? = some v → isSl v = true) : FtV w v f := by
  obtain ⟨A0, A1, A2, c0, c1, c2, e, h0, l0, h1, l1, h2, l2⟩ := hf
  exact ⟨A0, A1, A2, c0, c1, c2, e, h.C37 hb hs h0, l0, h.C46 hb hs h1, l1, h.C37 hb hs h2, l2⟩
set_option maxHeartbeats 8000000 in
set_option maxRecDepth 100000 in
theorem normV {w : World} {v : Value} {f : Ft} (hf : FtV w v f) (hs : f.small) (hw : f.wfs) : Calls Tryz.prog 7 #[v] w fun e w' => ∃ (g : Ft) (v' v0 v1 v2 : Value), e = .returned (.tuple #[v', .int .i64 (checkS f)]) ∧ NormR f g ∧ FtO w' w.heap.size v' g v0 v1 v2 ∧ Below w.heap.size w w' := by
  obtain ⟨A0, A1, A2, c0, c1, c2, rfl, hf⟩ := hf
  generalize hW : (w.alloc (ftO A0 A1 A2 c0 c1 c2 f)).alloc zFt = w1
  have hB1 : Below w.heap.size w w1 := by rw [← hW]; exact below_alloc (below_alloc (Below.refl _ _) _) _
  have b0 : w1.heap[w.heap.size]? = some (ftO A0 A1 A2 c0 c1 c2 f) := by rw [← hW]; exact heap_old (heap_new _ _)
  have b1 : w1.heap[w.heap.size + 1]? = some zFt := by rw [← hW]; have := heap_new (w.alloc (ftO A0 A1 A2 c0 c1 c2 f)) zFt; rw [size_new] at this; exact this
  have HF := Aside0.mk hf
  have HB1 := Aside0.mk hB1
  have D0 := Aside0.mk b0
  have D1 := Aside0.mk b1
  have HSm := Aside0.mk hs
  have HWf := Aside0.mk hw
  clear hw
  unfold ftO zFt at hW
  have HW := Aside0.mk hW
  clear hW hB1 b0 b1 hf hs
  unfold fv
  go_enter Tryz.func7, Tryz.ntmps7
  --@A
  go_wp2_with fail
  rw [HW.out]
  clear HW
  refine (checkV ⟨A0, A1, A2, c0, c1, c2, rfl, HF.out.below HB1.out⟩ HSm.out).mono ?_
  rintro e w2 ⟨rfl, hb⟩
  have hx0 := (hb.block _ (lt_of D0.out)).trans D0.out
  have hx1 := (hb.block _ (lt_of D1.out)).trans D1.out
  have HX1 := Aside0.mk hx1
  have HB2 := Aside0.mk (below_step HB1.out hb)
  have p0 : w2.cell? ⟨w.heap.size, 0, none⟩ = some (.slice A0 f.ps.length c0) := cell_of hx0 0
  have p1 : w2.cell? ⟨w.heap.size, 1, none⟩ = some (.slice A1 f.ss.length c1) := cell_of hx0 1
  have p2 : w2.cell? ⟨w.heap.size, 2, none⟩ = some (.slice A2 f.ws.length c2) := cell_of hx0 2
  have hz2 := lt_of hx1
  clear hb hx0 hx1 D0 D1
  have hSl := allSl (a := .slice none 0 0) (b := .slice none 0 0) (c := .slice none 0 0) rfl rfl rfl
  have HSl := Aside0.mk hSl
  clear hSl
  by_cases hc : checkS f = 0
  · have HC := Aside0.mk hc
    have HN := Aside0.mk (check_len hc)
    rw [hc]
    clear hc
    --@B
    go_wp2_with fail
    refine (norm_any f A0 A1 A2 c0 c1 c2 w2 (HF.out.below HB2.out) HWf.out.1 HWf.out.2 HN.out).mono ?_
    rintro e w3 ⟨g, pl, v, v0, v1, v2, rfl, hno, ho, hb⟩
    have HX3 := Aside0.mk ((hb.block _ (lt_of HX1.out)).trans HX1.out)
    have HB3 := Aside0.mk (below_step HB2.out hb)
    obtain ⟨B0, d0, e0, -, -⟩ := ho.h0.C37
    obtain ⟨B1, d1, e1, -, -⟩ := ho.h1.C46
    obtain ⟨B2, d2, e2, -, -⟩ := ho.h2.C37
    subst e0 e1 e2
    have heq := ho.eq
    subst heq
    have HO := Aside0.mk ho
    have HNo := Aside0.mk hno
    clear ho hno
    generalize g.ps.length = n0 at *
    generalize g.ss.length = n1 at *
    generalize g.ws.length = n2 at *
    have j0 : w3.cell? ⟨w.heap.size + 1, 0, none⟩ = some (.slice none 0 0) := cell_of HX3.out 0
    have j1 : w3.cell? ⟨w.heap.size + 1, 1, none⟩ = some (.slice none 0 0) := cell_of HX3.out 1
    have j2 : w3.cell? ⟨w.heap.size + 1, 2, none⟩ = some (.slice none 0 0) := cell_of HX3.out 2
    have k0 : w3.frozen? ⟨w.heap.size + 1, 0, none⟩ = false := frozen_of HX3.out 0
    have k1 : w3.frozen? ⟨w.heap.size + 1, 1, none⟩ = false := frozen_of HX3.out 1
    have k2 : w3.frozen? ⟨w.heap.size + 1, 2, none⟩ = false := frozen_of HX3.out 2
    clear hb p0 p1 p2
    --@C
    go_wp2
    --@D
    obtain ⟨cs1, hc1⟩ := setc_typed HX3.out (w.heap.size + 1) 0 (.slice B0 n0 d0)
    obtain ⟨cs2, hc2⟩ := setc_typed hc1 (w.heap.size + 1) 1 (.slice B1 n1 d1)
    have hFr7 : Fr w3 (w.heap.size + 1) (((w3.setCell ⟨w.heap.size + 1, 0, none⟩ (.slice B0 n0 d0)).setCell ⟨w.heap.size + 1, 1, none⟩ (.slice B1 n1 d1)).setCell ⟨w.heap.size + 1, 2, none⟩ (.slice B2 n2 d2)) := (((Fr.refl (lt_of HX3.out)).set 0 _).set 1 _).set 2 _
    refine bodyPost_ret (results_ct rfl _ _ (w.heap.size + 1) 25 #[.slice B0 n0 d0, .slice B1 n1 d1, .slice B2 n2 d2] (0, 0) _ rfl (setCell_heap (setCell_heap (setCell_heap HX3.out _) _) _) Tryz.underlying25 rfl (by kernel_rfl)) rfl ?_
    exact ⟨g, _, _, _, _, (by rw [HC.out]; rfl), .inl ⟨HC.out, pl, HNo.out⟩, (((HO.out.setc HX3.out).setc hc1).setc hc2).lower HB2.out.size, Below.trans HB3.out (hFr7.low.mono (Nat.le_succ _))⟩
  · have HC := Aside0.mk hc
    have hcb : (checkS f == 0) = false := by simpa using hc
    have j0 : w2.cell? ⟨w.heap.size + 1, 0, none⟩ = some (.slice none 0 0) := cell_of HX1.out 0
    have j1 : w2.cell? ⟨w.heap.size + 1, 1, none⟩ = some (.slice none 0 0) := cell_of HX1.out 1
    have j2 : w2.cell? ⟨w.heap.size + 1, 2, none⟩ = some (.slice none 0 0) := cell_of HX1.out 2
    have k0 : w2.frozen? ⟨w.heap.size + 1, 0, none⟩ = false := frozen_of HX1.out 0
    have k1 : w2.frozen? ⟨w.heap.size + 1, 1, none⟩ = false := frozen_of HX1.out 1
    have k2 : w2.frozen? ⟨w.heap.size + 1, 2, none⟩ = false := frozen_of HX1.out 2
    --@E
    go_wp2
    --@F
    refine bodyPost_ret (results_ct rfl _ _ (w.heap.size + 1) 25 #[.slice none 0 0, .slice none 0 0, .slice none 0 0] (0, 0) _ rfl (setCell_heap (setCell_heap (setCell_heap HX1.out _) _) _) Tryz.underlying25 rfl (by kernel_rfl)) rfl ?_
    have hb : Below w.heap.size w (((w2.setCell ⟨w.heap.size + 1, 0, none⟩ (.slice none 0 0)).setCell ⟨w.heap.size + 1, 1, none⟩ (.slice none 0 0)).setCell ⟨w.heap.size + 1, 2, none⟩ (.slice none 0 0)) := ((HB2.out.setCell (p := ⟨w.heap.size + 1, 0, none⟩) (by show w.heap.size ≤ w.heap.size + 1; omega) _).setCell (p := ⟨w.heap.size + 1, 1, none⟩) (by show w.heap.size ≤ w.heap.size + 1; omega) _).setCell (p := ⟨w.heap.size + 1, 2, none⟩) (by show w.heap.size ≤ w.heap.size + 1; omega) _
    exact ⟨Ft.nil, _, _, _, _, rfl, .inr ⟨HC.out, rfl⟩, FtO.nil _ _, hb⟩
set_option maxHeartbeats 8000000 in
set_option maxRecDepth 100000 in
theorem rnormV {w : World} {v : Value} {f : Ft} (hf : FtV w v f) (hs : f.small) : Calls Tryz.prog 9 #[v] w fun e w' => ∃ (g : Ft) (v' : Value), e = .returned (.tuple #[v', .int .i64 (checkS f)]) ∧ NormR f g ∧ FtV w' v' g ∧ Below w.heap.size w w' := by
  obtain ⟨A0, A1, A2, c0, c1, c2, rfl, hf⟩ := hf
  generalize hW : (w.alloc (ftO A0 A1 A2 c0 c1 c2 f)).alloc zFt = w1
  have hB1 : Below w.heap.size w w1 := by rw [← hW]; exact below_alloc (below_alloc (Below.refl _ _) _) _
  have b0 : w1.heap[w.heap.size]? = some (ftO A0 A1 A2 c0 c1 c2 f) := by rw [← hW]; exact heap_old (heap_new _ _)
  have b1 : w1.heap[w.heap.size + 1]? = some zFt := by rw [← hW]; have := heap_new (w.alloc (ftO A0 A1 A2 c0 c1 c2 f)) zFt; rw [size_new] at this; exact this
  have HF := Aside0.mk hf
  have HB1 := Aside0.mk hB1
  have D0 := Aside0.mk b0
  have D1 := Aside0.mk b1
  have HSm := Aside0.mk hs
  skip
  unfold ftO zFt at hW
  have HW := Aside0.mk hW
  clear hW hB1 b0 b1 hf hs
  unfold fv
  go_enter Tryz.func9, Tryz.ntmps9
  --@A
  go_wp2_with fail
  rw [HW.out]
  clear HW
  refine (rcheckV ⟨A0, A1, A2, c0, c1, c2, rfl, HF.out.below HB1.out⟩ HSm.out).mono ?_
  rintro e w2 ⟨rfl, hb⟩
  have hx0 := (hb.block _ (lt_of D0.out)).trans D0.out
  have hx1 := (hb.block _ (lt_of D1.out)).trans D1.out
  have HX1 := Aside0.mk hx1
  have HB2 := Aside0.mk (below_step HB1.out hb)
  have p0 : w2.cell? ⟨w.heap.size, 0, none⟩ = some (.slice A0 f.ps.length c0) := cell_of hx0 0
  have p1 : w2.cell? ⟨w.heap.size, 1, none⟩ = some (.slice A1 f.ss.length c1) := cell_of hx0 1
  have p2 : w2.cell? ⟨w.heap.size, 2, none⟩ = some (.slice A2 f.ws.length c2) := cell_of hx0 2
  have hz2 := lt_of hx1
  clear hb hx0 hx1 D0 D1
  have hSl := allSl (a := .slice none 0 0) (b := .slice none 0 0) (c := .slice none 0 0) rfl rfl rfl
  have HSl := Aside0.mk hSl
  clear hSl
  by_cases hc : checkS f = 0
  · have HC := Aside0.mk hc
    have HN := Aside0.mk (check_len hc)
    rw [hc]
    clear hc
    --@B
    go_wp2_with fail
    refine (rnormal_any f A0 A1 A2 c0 c1 c2 w2 (HF.out.below HB2.out) HN.out).mono ?_
    rintro e w3 ⟨g, pl, v, rfl, hno, hv, hb⟩
    have HX3 := Aside0.mk ((hb.block _ (lt_of HX1.out)).trans HX1.out)
    have HB3 := Aside0.mk (below_step HB2.out hb)
    have HV := Aside0.mk hv
    obtain ⟨B0, B1, B2, d0, d1, d2, heq, -⟩ := hv
    unfold fv at heq
    have HNo := Aside0.mk hno
    clear hno
    subst heq
    generalize g.ps.length = n0 at *
    generalize g.ss.length = n1 at *
    generalize g.ws.length = n2 at *
    have j0 : w3.cell? ⟨w.heap.size + 1, 0, none⟩ = some (.slice none 0 0) := cell_of HX3.out 0
    have j1 : w3.cell? ⟨w.heap.size + 1, 1, none⟩ = some (.slice none 0 0) := cell_of HX3.out 1
    have j2 : w3.cell? ⟨w.heap.size + 1, 2, none⟩ = some (.slice none 0 0) := cell_of HX3.out 2
    have k0 : w3.frozen? ⟨w.heap.size + 1, 0, none⟩ = false := frozen_of HX3.out 0
    have k1 : w3.frozen? ⟨w.heap.size + 1, 1, none⟩ = false := frozen_of HX3.out 1
    have k2 : w3.frozen? ⟨w.heap.size + 1, 2, none⟩ = false := frozen_of HX3.out 2
    clear hb p0 p1 p2
    --@C
    go_wp2
    --@D
    obtain ⟨cs1, hc1⟩ := setc_typed HX3.out (w.heap.size + 1) 0 (.slice B0 n0 d0)
    obtain ⟨cs2, hc2⟩ := setc_typed hc1 (w.heap.size + 1) 1 (.slice B1 n1 d1)
    have hFr7 : Fr w3 (w.heap.size + 1) (((w3.setCell ⟨w.heap.size + 1, 0, none⟩ (.slice B0 n0 d0)).setCell ⟨w.heap.size + 1, 1, none⟩ (.slice B1 n1 d1)).setCell ⟨w.heap.size + 1, 2, none⟩ (.slice B2 n2 d2)) := (((Fr.refl (lt_of HX3.out)).set 0 _).set 1 _).set 2 _
    refine bodyPost_ret (results_ct rfl _ _ (w.heap.size + 1) 25 #[.slice B0 n0 d0, .slice B1 n1 d1, .slice B2 n2 d2] (0, 0) _ rfl (setCell_heap (setCell_heap (setCell_heap HX3.out _) _) _) Tryz.underlying25 rfl (by kernel_rfl)) rfl ?_
    exact ⟨g, _, (by rw [HC.out]; rfl), .inl ⟨HC.out, pl, HNo.out⟩, HV.out.keep hFr7 HX3.out HSl.out, Below.trans HB3.out (hFr7.low.mono (Nat.le_succ _))⟩
  · have HC := Aside0.mk hc
    have hcb : (checkS f == 0) = false := by simpa using hc
    have j0 : w2.cell? ⟨w.heap.size + 1, 0, none⟩ = some (.slice none 0 0) := cell_of HX1.out 0
    have j1 : w2.cell? ⟨w.heap.size + 1, 1, none⟩ = some (.slice none 0 0) := cell_of HX1.out 1
    have j2 : w2.cell? ⟨w.heap.size + 1, 2, none⟩ = some (.slice none 0 0) := cell_of HX1.out 2
    have k0 : w2.frozen? ⟨w.heap.size + 1, 0, none⟩ = false := frozen_of HX1.out 0
    have k1 : w2.frozen? ⟨w.heap.size + 1, 1, none⟩ = false := frozen_of HX1.out 1
    have k2 : w2.frozen? ⟨w.heap.size + 1, 2, none⟩ = false := frozen_of HX1.out 2
    --@E
    go_wp2
    --@F
    refine bodyPost_ret (results_ct rfl _ _ (w.heap.size + 1) 25 #[.slice none 0 0, .slice none 0 0, .slice none 0 0] (0, 0) _ rfl (setCell_heap (setCell_heap (setCell_heap HX1.out _) _) _) Tryz.underlying25 rfl (by kernel_rfl)) rfl ?_
    have hb : Below w.heap.size w (((w2.setCell ⟨w.heap.size + 1, 0, none⟩ (.slice none 0 0)).setCell ⟨w.heap.size + 1, 1, none⟩ (.slice none 0 0)).setCell ⟨w.heap.size + 1, 2, none⟩ (.slice none 0 0)) := ((HB2.out.setCell (p := ⟨w.heap.size + 1, 0, none⟩) (by show w.heap.size ≤ w.heap.size + 1; omega) _).setCell (p := ⟨w.heap.size + 1, 1, none⟩) (by show w.heap.size ≤ w.heap.size + 1; omega) _).setCell (p := ⟨w.heap.size + 1, 2, none⟩) (by show w.heap.size ≤ w.heap.size + 1; omega) _
    exact ⟨Ft.nil, _, rfl, .inr ⟨HC.out, rfl⟩, (FtO.nil _ 0).V, hb⟩
end Go.Proofs.YtldlenjfpjihdaaGreat.PS
end
section
namespace Go.Proofs.YtldlenjfpjihdaaGreat.OpenK
open Go.RowKit Go.Proofs.YtldlenjfpjihdaaGreatW.PrintWords Go.Proofs.YtldlenjfpjihdaaGreat.PS
def wf37 (x : S37) : Prop := (Lit.int .i64 x.f0).wf = true ∧ (Lit.int .i64 x.f1).wf = true ∧ x.f2.size ≤ 140737488351232
theorem wf37_P {x : S37} (h : wf37 x) : wfP x := ⟨h.1, h.2.1, Nat.le_trans h.2.2 (by decide)⟩
theorem opn37 : Opn Tryz.prog 37 k37 wf37 := by
 refine Opn.struct (kd := (Kd.pair (Kd.int .i64) (Kd.pair (Kd.int .i64) Kd.string))) (Wf := fun y => (Lit.int .i64 y.1).wf = true ∧ (Lit.int .i64 y.2.1).wf = true ∧ y.2.2.size ≤ 140737488351232) (fun x : S37 => (x.f0, x.f1, x.f2)) (fun y => ⟨y.1, y.2.1, y.2.2⟩) (fun _ => rfl) Tryz.underlying37 (by kernel_rfl) ?_
 change OpnFs Tryz.prog (_ :: _ :: [_]) 0 _ _
 exact (OpnFs.cons (a := (Kd.int .i64)) (b := (Kd.pair (Kd.int .i64) Kd.string)) (Wa := fun y => (Lit.int .i64 y).wf = true) (Wb := (fun y => (Lit.int .i64 y.1).wf = true ∧ y.2.size ≤ 140737488351232)) rfl (by kernel_rfl) (off' := 1) rfl (Opn.int Tryz.underlying3) (OpnFs.cons (a := (Kd.int .i64)) (b := Kd.string) (Wa := fun y => (Lit.int .i64 y).wf = true) (Wb := (fun y => y.size ≤ 140737488351232)) rfl (by kernel_rfl) (off' := 2) rfl (Opn.int Tryz.underlying3) (OpnFs.one (kd := Kd.string) (Wf := fun y => y.size ≤ 140737488351232) rfl (by kernel_rfl) (Opn.string Tryz.underlying9))))
def wf44 (x : S44) : Prop := x.f0.size ≤ 140737488351232 ∧ x.f1.size ≤ 140737488351232 ∧ True
theorem opn44 : Opn Tryz.prog 44 k44 wf44 := by
 refine Opn.struct (kd := (Kd.pair Kd.string (Kd.pair Kd.string Kd.bool))) (Wf := fun y => y.1.size ≤ 140737488351232 ∧ y.2.1.size ≤ 140737488351232 ∧ True) (fun x : S44 => (x.f0, x.f1, x.f2)) (fun y => ⟨y.1, y.2.1, y.2.2⟩) (fun _ => rfl) Tryz.underlying44 (by kernel_rfl) ?_
 change OpnFs Tryz.prog (_ :: _ :: [_]) 0 _ _
 exact (OpnFs.cons (a := Kd.string) (b := (Kd.pair Kd.string Kd.bool)) (Wa := fun y => y.size ≤ 140737488351232) (Wb := (fun y => y.1.size ≤ 140737488351232 ∧ True)) rfl (by kernel_rfl) (off' := 1) rfl (Opn.string Tryz.underlying9) (OpnFs.cons (a := Kd.string) (b := Kd.bool) (Wa := fun y => y.size ≤ 140737488351232) (Wb := (fun y => True)) rfl (by kernel_rfl) (off' := 2) rfl (Opn.string Tryz.underlying9) (OpnFs.one (kd := Kd.bool) (Wf := fun y => True) rfl (by kernel_rfl) (Opn.bool Tryz.underlying4))))
def wf46 (x : S46) : Prop := (Lit.int .i64 x.f0).wf = true ∧ (Lit.int .i64 x.f1).wf = true ∧ wf44 x.f2
theorem opn46 : Opn Tryz.prog 46 k46 wf46 := by
 refine Opn.struct (kd := (Kd.pair (Kd.int .i64) (Kd.pair (Kd.int .i64) k44))) (Wf := fun y => (Lit.int .i64 y.1).wf = true ∧ (Lit.int .i64 y.2.1).wf = true ∧ wf44 y.2.2) (fun x : S46 => (x.f0, x.f1, x.f2)) (fun y => ⟨y.1, y.2.1, y.2.2⟩) (fun _ => rfl) Tryz.underlying46 (by kernel_rfl) ?_
 change OpnFs Tryz.prog (_ :: _ :: [_]) 0 _ _
 exact (OpnFs.cons (a := (Kd.int .i64)) (b := (Kd.pair (Kd.int .i64) k44)) (Wa := fun y => (Lit.int .i64 y).wf = true) (Wb := (fun y => (Lit.int .i64 y.1).wf = true ∧ wf44 y.2)) rfl (by kernel_rfl) (off' := 1) rfl (Opn.int Tryz.underlying3) (OpnFs.cons (a := (Kd.int .i64)) (b := k44) (Wa := fun y => (Lit.int .i64 y).wf = true) (Wb := (fun y => wf44 y)) rfl (by kernel_rfl) (off' := 2) rfl (Opn.int Tryz.underlying3) (OpnFs.one (kd := k44) (Wf := fun y => wf44 y) rfl (by kernel_rfl) opn44)))
def kFt : Kd Ft := Kd.iso (Kd.pair (Kd.slice 37 k37) (Kd.pair (Kd.slice 46 k46) (Kd.slice 37 k37))) (fun x : Ft => (x.ps, x.ss, x.ws))
def wfFt (x : Ft) : Prop := (x.ps.length * 32 ≤ 140737488351232 ∧ ∀ y ∈ x.ps, wf37 y) ∧ (x.ss.length * 56 ≤ 140737488351232 ∧ ∀ y ∈ x.ss, wf46 y) ∧ (x.ws.length * 32 ≤ 140737488351232 ∧ ∀ y ∈ x.ws, wf37 y)
theorem opnFt : Opn Tryz.prog 25 kFt wfFt := by
 refine Opn.struct (kd := (Kd.pair (Kd.slice 37 k37) (Kd.pair (Kd.slice 46 k46) (Kd.slice 37 k37)))) (Wf := fun y => (y.1.length * 32 ≤ 140737488351232 ∧ ∀ z ∈ y.1, wf37 z) ∧ (y.2.1.length * 56 ≤ 140737488351232 ∧ ∀ z ∈ y.2.1, wf46 z) ∧ (y.2.2.length * 32 ≤ 140737488351232 ∧ ∀ z ∈ y.2.2, wf37 z)) (fun x : Ft => (x.ps, x.ss, x.ws)) (fun y => ⟨y.1, y.2.1, y.2.2⟩) (fun _ => rfl) Tryz.underlying25 (by kernel_rfl) ?_
 change OpnFs Tryz.prog (_ :: _ :: [_]) 0 _ _
 exact (OpnFs.cons (a := (Kd.slice 37 k37)) (b := (Kd.pair (Kd.slice 46 k46) (Kd.slice 37 k37))) (Wa := fun y => (y.length * 32 ≤ 140737488351232 ∧ ∀ z ∈ y, wf37 z)) (Wb := (fun y => (y.1.length * 56 ≤ 140737488351232 ∧ ∀ z ∈ y.1, wf46 z) ∧ (y.2.length * 32 ≤ 140737488351232 ∧ ∀ z ∈ y.2, wf37 z))) rfl (by kernel_rfl) (off' := 1) rfl (Opn.slice Tryz.underlying22 opn37 (by kernel_rfl) (by kernel_rfl)) (OpnFs.cons (a := (Kd.slice 46 k46)) (b := (Kd.slice 37 k37)) (Wa := fun y => (y.length * 56 ≤ 140737488351232 ∧ ∀ z ∈ y, wf46 z)) (Wb := (fun y => (y.length * 32 ≤ 140737488351232 ∧ ∀ z ∈ y, wf37 z))) rfl (by kernel_rfl) (off' := 2) rfl (Opn.slice Tryz.underlying23 opn46 (by kernel_rfl) (by kernel_rfl)) (OpnFs.one (kd := (Kd.slice 37 k37)) (Wf := fun y => (y.length * 32 ≤ 140737488351232 ∧ ∀ z ∈ y, wf37 z)) rfl (by kernel_rfl) (Opn.slice Tryz.underlying22 opn37 (by kernel_rfl) (by kernel_rfl)))))
set_option maxRecDepth 100000 in
/-- A foot as_ an argument. -/
theorem argFt {H : Type} {enc : TypeId × Value → H} {W : World} {n : Nat} {v : Value} {d : DataW H} {ps : List MemPlace} {base : Nat} (hv : Value.okWide Tryz.prog W .any base 25 v)
  (h : DataW.trod enc Tryz.prog W 0 (fun _ => true) true n 25 v.cells.toList = some (d, ps)) (hw : (d.weights Tryz.prog 25).all (· ≤ reachBytes) = true) :
  ∃ (A0 A1 A2 : Option Addr) (c0 c1 c2 : Nat) (f : Ft), v = .agg #[.slice A0 f.ps.length c0, .slice A1 f.ss.length c1, .slice A2 f.ws.length c2] ∧ FtR W A0 A1 A2 c0 c1 c2 f ∧ f.small ∧ f.wfs := by
 obtain ⟨f, hK, wf⟩ := opnFt h hw
 obtain ⟨cs, rfl, hsz⟩ := Go.WideShapes.okWide_struct Tryz.underlying25 hv
 obtain ⟨x1, r1, e1, ⟨A0, c0, rfl, l0, h0⟩, x2, r2, rfl, ⟨A1, c1, rfl, l1, h1⟩, ⟨A2, c2, rfl, l2, h2⟩⟩ := hK
 have e2 : cs = #[.slice A0 f.ps.length c0, .slice A1 f.ss.length c1, .slice A2 f.ws.length c2] := by
  cases cs
  simpa [Value.cells] using e1
 subst e2
 exact ⟨A0, A1, A2, c0, c1, c2, f, rfl, ⟨h0, l0, h1, l1, h2, l2⟩, ⟨wf.1.1, wf.2.1.1, wf.2.2.1⟩, ⟨⟨fun y hy => wf37_P (wf.1.2 y hy), fun y hy => wf37_P (wf.2.2.2 y hy)⟩, fun s hs => ⟨(wf.2.1.2 s hs).1, (wf.2.1.2 s hs).2.1⟩⟩⟩
end Go.Proofs.YtldlenjfpjihdaaGreat.OpenK
end
section
namespace Go.Proofs.YtldlenjfpjihdaaGreat.PS
open Go Go.RowKit Go.Proofs
set_option linter.unusedVariables false
theorem strict_one {α : Type} {lt : α → α → Prop} (irr : ∀ a, ¬ lt a a) (tr : ∀ a b c, lt a b → lt b c → lt a c) : ∀ (l r : List α), l.Pairwise lt → r.Pairwise lt → (∀ x, x ∈ l ↔ x ∈ r) → l = r
  | [], [], _, _, _ => rfl
  | [], y :: r, _, _, h => by have := (h y).2 (by simp); simp at this
  | x :: l, [], _, _, h => by have := (h x).1 (by simp); simp at this
  | x :: l, y :: r, hl, hr, h => by
    obtain ⟨hx, hl'⟩ := List.pairwise_cons.1 hl
    obtain ⟨hy, hr'⟩ := List.pairwise_cons.1 hr
    have e : x = y := by
      rcases List.mem_cons.1 ((h x).1 (by simp)) with e | h1
      · exact e
      · rcases List.mem_cons.1 ((h y).2 (by simp)) with e | h2
        · exact e.symm
        · exact absurd (tr _ _ _ (hx y h2) (hy x h1)) (irr x)
    subst e
    rw [strict_one irr tr l r hl' hr' (fun z => ?_)]
    have hz := h z
    simp only [List.mem_cons] at hz
    constructor
    · intro hm
      rcases hz.1 (.inr hm) with e | h1
      · subst e; exact absurd (hx z hm) (irr z)
      · exact h1
    · intro hm
      rcases hz.2 (.inr hm) with e | h1
      · subst e; exact absurd (hy z hm) (irr z)
      · exact h1
theorem Sorts.one {l a b : List S37} (ha : Sorts l a) (hb : Sorts l b) : a = b :=
  strict_one ltP_irrefl (fun _ _ _ => ltP_trans) a b ha.1 hb.1 (fun x => (ha.2.1 x).trans (hb.2.1 x).symm)
theorem NormOf.one {f g g' : Ft} {pl pl' : List SPl} (h : NormOf f g pl) (h' : NormOf f g' pl') : g = g' := by
  have e : pl = pl' := strict_one ltL_irrefl (fun _ _ _ => ltL_trans) pl pl' h.sp h'.sp (fun x => (h.mp x).trans (h'.mp x).symm)
  subst e
  obtain ⟨q, hq, e1⟩ := h.ps
  obtain ⟨q', hq', e2⟩ := h'.ps
  rw [← hq.one hq'] at e2
  have e3 := h.ws.one h'.ws
  have e4 := h.ss.trans h'.ss.symm
  have e5 := e1.trans e2.symm
  cases g; cases g'
  simp_all
theorem NormR.one {f g g' : Ft} (h : NormR f g) (h' : NormR f g') : g = g' := by
  rcases h with ⟨h0, pl, h⟩ | ⟨h0, rfl⟩
  · rcases h' with ⟨_, pl', h'⟩ | ⟨h1, _⟩
    · exact h.one h'
    · exact absurd h0 h1
  · rcases h' with ⟨h1, _⟩ | ⟨_, rfl⟩
    · exact absurd h1 h0
    · rfl
theorem nodup_len {α : Type} [DecidableEq α] : ∀ (l L : List α), l.Nodup → (∀ x ∈ l, x ∈ L) → l.length ≤ L.length
  | [], _, _, _ => Nat.zero_le _
  | x :: l, L, hn, hs => by
    obtain ⟨h1, h2⟩ := List.nodup_cons.1 hn
    have hx := hs x (by simp)
    have := nodup_len l (L.erase x) h2 (fun y hy => (List.mem_erase_of_ne (fun e => h1 (by rw [← e]; exact hy))).2 (hs y (List.mem_cons_of_mem _ hy)))
    rw [List.length_erase_of_mem hx] at this
    have := List.length_pos_of_mem hx
    rw [List.length_cons]
    omega
theorem NormOf.pl_len {f g : Ft} {pl : List SPl} (h : NormOf f g pl) : pl.length ≤ f.ss.length := by
  have := nodup_len pl (f.ss.map plS) (h.sp.imp (fun hab e => by subst e; exact ltL_irrefl _ hab)) (fun p hp => by
    obtain ⟨s, hs, hb⟩ := List.any_eq_true.1 ((h.mp p).1 hp)
    exact List.mem_map.2 ⟨s, hs, (atP_iff s p).1 hb⟩)
  rwa [List.length_map] at this
theorem NormOf.small {f g : Ft} {pl : List SPl} (h : NormOf f g pl) (hn : f.ps.length + f.ss.length + f.ws.length ≤ 65536) : g.small := by
  obtain ⟨q, hq, e⟩ := h.ps
  have h1 : g.ps.length ≤ f.ps.length := by rw [e]; exact Nat.le_trans (List.length_filter_le _ _) hq.2.2
  have h2 := h.ws.2.2
  have h3 := spans_len f.ss (by omega) pl (by have := h.pl_len; omega)
  rw [← h.ss] at h3
  exact ⟨by omega, by omega, by omega⟩
theorem NormR.small {f g : Ft} (h : NormR f g) : g.small := by
  rcases h with ⟨h0, pl, h⟩ | ⟨_, rfl⟩
  · exact h.small (check_len h0)
  · exact ⟨by decide, by decide, by decide⟩
end Go.Proofs.YtldlenjfpjihdaaGreat.PS
end
section
namespace Go.Proofs.YtldlenjfpjihdaaGreat.PS
open Go Go.RowKit Go.Proofs Go.Maps Go.WideMaps Go.Proofs.YtldlenjfpjihdaaGreatW.PrintWords Go.Proofs.YtldlenjfpjihdaaGreatW.PrintLast Go.Proofs.YtldlenjfpjihdaaGreatW.PrintMore
set_option linter.unusedVariables false
set_option linter.unusedSimpArgs false
def T3_3 : Bool × List (List Nat × List Nat) := (true, [([], []), ([], []), ([0, 1], [0, 1]), ([2], [2]), ([3], [3]), ([3], [3]), ([4, 5, 3, 3], [3, 4, 5]), ([3, 6], [3, 6]), ([7, 6], [7]), ([8], [8]), ([9, 8, 8], [8, 9]), ([10, 10, 8], [8, 10]), ([8], [8]), ([12, 11, 8], [8, 12]), ([11, 13, 8], [8, 11, 13]), ([8, 14], [8, 14]), ([15, 13], [15]), ([16, 16], [16]), ([16, 17], [16, 17]), ([18, 17, 0, 1, 2, 3, 4, 5, 6, 7, 8, 9, 10, 11, 12, 13, 14, 15, 16, 17, 18], [18])])
theorem tab3_3 : rtab .any (opsOf Tryz.f3 3) = T3_3 := by kernel_rfl
set_option maxHeartbeats 16000000 in
set_option maxRecDepth 100000 in
theorem norms_any (f : Ft) (A0 A1 A2 : Option Addr) (c0 c1 c2 : Nat) (w : World) (hf : FtR w A0 A1 A2 c0 c1 c2 f) (hs : f.small) (hw : f.wfs) :
    Calls Tryz.prog 3 #[.agg #[.slice A0 f.ps.length c0, .slice A1 f.ss.length c1, .slice A2 f.ws.length c2]] w fun e w' => e = .returned (.bool true) ∧ Below w.heap.size w w' := by
  generalize hW : w.alloc (ftO A0 A1 A2 c0 c1 c2 f) = w1
  have hB1 : Below w.heap.size w w1 := by rw [← hW]; exact below_alloc (Below.refl _ _) _
  have b0 : w1.heap[w.heap.size]? = some (ftO A0 A1 A2 c0 c1 c2 f) := by rw [← hW]; exact heap_new _ _
  have HF := Aside0.mk (show ∀ W, Below w.heap.size w W → FtV W (.agg #[.slice A0 f.ps.length c0, .slice A1 f.ss.length c1, .slice A2 f.ws.length c2]) f from fun W h => ⟨_, _, _, _, _, _, rfl, hf.below h⟩)
  have HB1 := Aside0.mk hB1
  have D1 := Aside0.mk b0
  have HSm := Aside0.mk hs
  have HWf := Aside0.mk hw
  unfold ftO at hW D1
  have HW := Aside0.mk hW
  clear hW hB1 b0 hf hs hw
  generalize f.ps.length = m0 at *
  generalize f.ss.length = m1 at *
  generalize f.ws.length = m2 at *
  go_enter Tryz.func3, Tryz.ntmps3
  --@A
  go_wp2_with fail
  rw [HW.out]
  clear HW
  refine (copyV (HF.out w1 HB1.out) HSm.out).mono ?_
  rintro e w2 ⟨v2, rfl, hv, hb⟩
  have D2 := Aside0.mk ((hb.block _ (lt_of D1.out)).trans D1.out)
  have HB2 := Aside0.mk (below_step HB1.out hb)
  have HV := Aside0.mk hv
  clear hv hb
  --@B
  go_wp2_with fail
  refine (normV HV.out HSm.out HWf.out).mono ?_
  rintro e w3 ⟨g, v', v0, v1, v2', rfl, hn, ho, hb⟩
  have D3 := Aside0.mk ((hb.block _ (lt_of D2.out)).trans D2.out)
  have HB3 := Aside0.mk (below_step HB2.out hb)
  obtain ⟨B0, d0, e0, -, -⟩ := ho.h0.C37
  obtain ⟨B1, d1, e1, -, -⟩ := ho.h1.C46
  obtain ⟨B2, d2, e2, -, -⟩ := ho.h2.C37
  subst e0 e1 e2
  have heq := ho.eq
  subst heq
  have HN := Aside0.mk hn
  have HG := Aside0.mk ho.V
  clear hn ho hb
  generalize g.ps.length = n0 at *
  generalize g.ss.length = n1 at *
  generalize g.ws.length = n2 at *
  generalize hW4 : w3.alloc (.cells #[.slice B0 n0 d0, .slice B1 n1 d1, .slice B2 n2 d2] 25) = w4
  have hb4 : Below w3.heap.size w3 w4 := by rw [← hW4]; exact below_alloc (Below.refl _ _) _
  have E4 := Aside0.mk (show w4.heap[w3.heap.size]? = some (.cells #[.slice B0 n0 d0, .slice B1 n1 d1, .slice B2 n2 d2] 25) by rw [← hW4]; exact heap_new _ _)
  have D4 := Aside0.mk ((hb4.block _ (lt_of D3.out)).trans D3.out)
  have HB4 := Aside0.mk (below_step HB3.out hb4)
  have HG4 := Aside0.mk (HG.out.below hb4)
  have p0 : w3.cell? ⟨w.heap.size, 0, none⟩ = some (.slice A0 m0 c0) := cell_of D3.out 0
  have p1 : w3.cell? ⟨w.heap.size, 1, none⟩ = some (.slice A1 m1 c1) := cell_of D3.out 1
  have p2 : w3.cell? ⟨w.heap.size, 2, none⟩ = some (.slice A2 m2 c2) := cell_of D3.out 2
  have hl3 := lt_of D3.out
  have HW4 := Aside0.mk hW4
  clear hW4 hb4
  --@C
  go_wp2_with fail
  rw [HW4.out]
  clear HW4 p0 p1 p2
  refine (rnormV (HF.out w4 HB4.out) HSm.out).mono ?_
  rintro e w5 ⟨g', v'', rfl, hn, hv, hb⟩
  have hgg := hn.one HN.out
  subst hgg
  have D5 := Aside0.mk ((hb.block _ (lt_of D4.out)).trans D4.out)
  have E5 := Aside0.mk ((hb.block _ (lt_of E4.out)).trans E4.out)
  have HB5 := Aside0.mk (below_step HB4.out hb)
  have HG5 := Aside0.mk (HG4.out.below hb)
  have HGs := Aside0.mk hn.small
  have HH := Aside0.mk hv
  obtain ⟨X0, X1, X2, x0, x1, x2, hvv, -⟩ := hv
  unfold fv at hvv
  subst hvv
  generalize g'.ps.length = y0 at *
  generalize g'.ss.length = y1 at *
  generalize g'.ws.length = y2 at *
  generalize hW6 : w5.alloc (.cells #[.slice X0 y0 x0, .slice X1 y1 x1, .slice X2 y2 x2] 25) = w6
  have hb6 : Below w5.heap.size w5 w6 := by rw [← hW6]; exact below_alloc (Below.refl _ _) _
  have F6 := Aside0.mk (show w6.heap[w5.heap.size]? = some (.cells #[.slice X0 y0 x0, .slice X1 y1 x1, .slice X2 y2 x2] 25) by rw [← hW6]; exact heap_new _ _)
  have D6 := Aside0.mk ((hb6.block _ (lt_of D5.out)).trans D5.out)
  have E6 := Aside0.mk ((hb6.block _ (lt_of E5.out)).trans E5.out)
  have HB6 := Aside0.mk (below_step HB5.out hb6)
  have HG6 := Aside0.mk (HG5.out.below hb6)
  have HH6 := Aside0.mk (HH.out.below hb6)
  have HW6 := Aside0.mk hW6
  clear hn hb hW6 hb6
  --@D
  go_wp2_with fail
  --@E
  rw [HW6.out]
  clear HW6
  --@F
  refine start_ (n := 20) (S := fun w' => w'.cell? ⟨w.heap.size, 0, none⟩ = some (.slice A0 m0 c0) ∧ w'.cell? ⟨w.heap.size, 1, none⟩ = some (.slice A1 m1 c1) ∧ w'.cell? ⟨w.heap.size, 2, none⟩ = some (.slice A2 m2 c2) ∧ w'.cell? ⟨w3.heap.size, 0, none⟩ = some (.slice B0 n0 d0) ∧ w'.cell? ⟨w3.heap.size, 1, none⟩ = some (.slice B1 n1 d1) ∧ w'.cell? ⟨w3.heap.size, 2, none⟩ = some (.slice B2 n2 d2) ∧ w'.cell? ⟨w5.heap.size, 0, none⟩ = some (.slice X0 y0 x0) ∧ w'.cell? ⟨w5.heap.size, 1, none⟩ = some (.slice X1 y1 x1) ∧ w'.cell? ⟨w5.heap.size, 2, none⟩ = some (.slice X2 y2 x2)) (ds := []) #[false, false, false, false, false, false, false, false, false, false, false, false, false, false, false, false, false, false, false, false] (by kernel_rfl) rfl rfl (by have hbD := below_drew1 (Below.refl w6.heap.size w6); exact ⟨cell_of ((hbD.block _ (lt_of D6.out)).trans D6.out) 0, cell_of ((hbD.block _ (lt_of D6.out)).trans D6.out) 1, cell_of ((hbD.block _ (lt_of D6.out)).trans D6.out) 2, cell_of ((hbD.block _ (lt_of E6.out)).trans E6.out) 0, cell_of ((hbD.block _ (lt_of E6.out)).trans E6.out) 1, cell_of ((hbD.block _ (lt_of E6.out)).trans E6.out) 2, cell_of ((hbD.block _ (lt_of F6.out)).trans F6.out) 0, cell_of ((hbD.block _ (lt_of F6.out)).trans F6.out) 1, cell_of ((hbD.block _ (lt_of F6.out)).trans F6.out) 2⟩) (fun hHeld => ?_); refine with_tab tab3_3 (fun HT_ => ?_)
  have hbD := below_drew1 (Below.refl w6.heap.size w6)
  generalize w6.drew = w7 at hbD hHeld ⊢
  have D7 := Aside0.mk ((hbD.block _ (lt_of D6.out)).trans D6.out)
  have E7 := Aside0.mk ((hbD.block _ (lt_of E6.out)).trans E6.out)
  have F7 := Aside0.mk ((hbD.block _ (lt_of F6.out)).trans F6.out)
  have HB7 := Aside0.mk (below_step HB6.out hbD)
  have HG7 := Aside0.mk (HG6.out.below hbD)
  have HH7 := Aside0.mk (HH6.out.below hbD)
  clear hbD D6 E6 F6
  refine pure_ (i := 0) (N := some 18) (v := ?_) (a' := ?_) #[true, false, false, false, false, false, false, false, false, false, false, false, false, false, false, false, false, false, false, false] rfl rfl (any_of HT_.out (by kernel_rfl)) (fun _ _ _ h => h) (Or.inl ⟨by rfl, ?_⟩) ?_ ?_
  rotate_left
  · intro w'
    go_simp
    with_reducible rfl
  rotate_left
  · simp only [Act.put, List.setIfInBounds_toArray, List.set_cons_zero, List.set_cons_succ, i64_w, i32_w]
    rfl
  refine pure_ (i := 1) (N := some 19) (v := ?_) (a' := ?_) #[true, true, false, false, false, false, false, false, false, false, false, false, false, false, false, false, false, false, false, false] rfl rfl (any_of HT_.out (by kernel_rfl)) (fun _ _ _ h => h) (Or.inl ⟨by rfl, ?_⟩) ?_ ?_
  rotate_left
  · intro w'
    go_simp
    with_reducible rfl
  rotate_left
  · simp only [Act.put, List.setIfInBounds_toArray, List.set_cons_zero, List.set_cons_succ, i64_w, i32_w]
    rfl
  refine pure_ (i := 2) (N := some 20) (v := ?_) (a' := ?_) #[true, true, true, false, false, false, false, false, false, false, false, false, false, false, false, false, false, false, false, false] rfl rfl (any_of HT_.out (by kernel_rfl)) (fun _ _ _ h => h) (Or.inl ⟨by rfl, ?_⟩) ?_ ?_
  rotate_left
  · intro w'
    go_simp
    with_reducible rfl
  rotate_left
  · simp only [Act.put, List.setIfInBounds_toArray, List.set_cons_zero, List.set_cons_succ, i64_w, i32_w]
    rfl
  refine pure_ (i := 3) (N := some 21) (v := ?_) (a' := ?_) #[true, true, true, true, false, false, false, false, false, false, false, false, false, false, false, false, false, false, false, false] rfl rfl (any_of HT_.out (by kernel_rfl)) (fun _ _ _ h => h) (Or.inl ⟨by rfl, ?_⟩) ?_ ?_
  rotate_left
  · intro w'
    go_simp
    with_reducible rfl
  rotate_left
  · simp only [Act.put, List.setIfInBounds_toArray, List.set_cons_zero, List.set_cons_succ, i64_w, i32_w]
    rfl
  refine take_ (i := 4) (N := some 22) (v := ?_) (a' := ?_) #[true, true, true, true, true, false, false, false, false, false, false, false, false, false, false, false, false, false, false, false] rfl rfl (take_of HT_.out (by kernel_rfl)) (fun _ _ _ h => h) (Or.inl ⟨by rfl, ?_⟩) hHeld ?_ ?_
  rotate_left
  · rintro w' ⟨s0, s1, s2, s3, s4, s5, s6, s7, s8⟩
    go_simp
    with_reducible rfl
  rotate_left
  · simp only [Act.put, List.setIfInBounds_toArray, List.set_cons_zero, List.set_cons_succ, i64_w, i32_w]
    rfl
  refine take_ (i := 5) (N := some 23) (v := ?_) (a' := ?_) #[true, true, true, true, true, true, false, false, false, false, false, false, false, false, false, false, false, false, false, false] rfl rfl (take_of HT_.out (by kernel_rfl)) (fun _ _ _ h => h) (Or.inl ⟨by rfl, ?_⟩) hHeld ?_ ?_
  rotate_left
  · rintro w' ⟨s0, s1, s2, s3, s4, s5, s6, s7, s8⟩
    go_simp
    with_reducible rfl
  rotate_left
  · simp only [Act.put, List.setIfInBounds_toArray, List.set_cons_zero, List.set_cons_succ, i64_w, i32_w]
    rfl
  --@G
  refine one_ (i := 6) (N := some 24) #[true, true, true, true, true, true, true, false, false, false, false, false, false, false, false, false, false, false, false, false] rfl rfl (one_of HT_.out (by kernel_rfl)) (by decide) (fun K hK => ?_)
  refine goes_ Tryz.func10 (by kernel_rfl) rfl #[.agg #[.slice B0 n0 d0, .slice B1 n1 d1, .slice B2 n2 d2], .agg #[.slice X0 y0 x0, .slice X1 y1 x1, .slice X2 y2 x2]] (by rfl) rfl rfl (by (try simp only [List.map_toArray, List.map_cons, List.map_nil]); first | done | rfl) ?_
  refine (sameV HG7.out HH7.out HGs.out).mono ?_
  rintro e w8 ⟨rfl, hb⟩
  refine ⟨_, rfl, ?_⟩
  have D8 := Aside0.mk ((hb.block _ (lt_of D7.out)).trans D7.out)
  have E8 := Aside0.mk ((hb.block _ (lt_of E7.out)).trans E7.out)
  have F8 := Aside0.mk ((hb.block _ (lt_of F7.out)).trans F7.out)
  have HB8 := Aside0.mk (below_step HB7.out hb)
  clear hb
  refine hK.out _ _ ⟨cell_of D8.out 0, cell_of D8.out 1, cell_of D8.out 2, cell_of E8.out 0, cell_of E8.out 1, cell_of E8.out 2, cell_of F8.out 0, cell_of F8.out 1, cell_of F8.out 2⟩ (fun hHeld => ?_)
  clear hK K
  refine norm_ (a' := ?_) ?_ ?_
  rotate_left
  · show Act.put _ (some 24) _ = _
    simp only [Act.put, List.setIfInBounds_toArray, List.set_cons_zero, List.set_cons_succ, i64_w, i32_w]
    rfl
  refine pure_ (i := 7) (N := some 25) (v := ?_) (a' := ?_) #[true, true, true, true, true, true, true, true, false, false, false, false, false, false, false, false, false, false, false, false] rfl rfl (any_of HT_.out (by kernel_rfl)) (fun _ _ _ h => h) (Or.inl ⟨by rfl, ?_⟩) ?_ ?_
  rotate_left
  · intro w'
    go_simp
    with_reducible rfl
  rotate_left
  · simp only [Act.put, List.setIfInBounds_toArray, List.set_cons_zero, List.set_cons_succ, i64_w, i32_w]
    rfl
  refine pure_ (i := 8) (N := some 26) (v := ?_) (a' := ?_) #[true, true, true, true, true, true, true, true, true, false, false, false, false, false, false, false, false, false, false, false] rfl rfl (any_of HT_.out (by kernel_rfl)) (fun _ _ _ h => h) (Or.inl ⟨by rfl, ?_⟩) ?_ ?_
  rotate_left
  · intro w'
    go_simp
    with_reducible rfl
  rotate_left
  · simp only [Act.put, List.setIfInBounds_toArray, List.set_cons_zero, List.set_cons_succ, i64_w, i32_w]
    rfl
  refine take_ (i := 9) (N := some 27) (v := ?_) (a' := ?_) #[true, true, true, true, true, true, true, true, true, true, false, false, false, false, false, false, false, false, false, false] rfl rfl (take_of HT_.out (by kernel_rfl)) (fun _ _ _ h => h) (Or.inl ⟨by rfl, ?_⟩) hHeld ?_ ?_
  rotate_left
  · rintro w' ⟨s0, s1, s2, s3, s4, s5, s6, s7, s8⟩
    go_simp
    with_reducible rfl
  rotate_left
  · simp only [Act.put, List.setIfInBounds_toArray, List.set_cons_zero, List.set_cons_succ, i64_w, i32_w]
    rfl
  refine take_ (i := 12) (N := some 30) (v := ?_) (a' := ?_) #[true, true, true, true, true, true, true, true, true, true, false, false, true, false, false, false, false, false, false, false] rfl rfl (take_of HT_.out (by kernel_rfl)) (fun _ _ _ h => h) (Or.inl ⟨by rfl, ?_⟩) hHeld ?_ ?_
  rotate_left
  · rintro w' ⟨s0, s1, s2, s3, s4, s5, s6, s7, s8⟩
    go_simp
    with_reducible rfl
  rotate_left
  · simp only [Act.put, List.setIfInBounds_toArray, List.set_cons_zero, List.set_cons_succ, i64_w, i32_w]
    rfl
  --@H
  refine one_ (i := 10) (N := some 28) #[true, true, true, true, true, true, true, true, true, true, true, false, true, false, false, false, false, false, false, false] rfl rfl (one_of HT_.out (by kernel_rfl)) (by decide) (fun K hK => ?_)
  refine goes_ Tryz.func8 (by kernel_rfl) rfl #[.agg #[.slice A0 m0 c0, .slice A1 m1 c1, .slice A2 m2 c2]] (by rfl) rfl rfl (by (try simp only [List.map_toArray, List.map_cons, List.map_nil]); first | done | rfl) ?_
  refine (copyV (HF.out w8 HB8.out) HSm.out).mono ?_
  rintro e w9 ⟨v10, rfl, hv, hb⟩
  refine ⟨_, rfl, ?_⟩
  have D9 := Aside0.mk ((hb.block _ (lt_of D8.out)).trans D8.out)
  have E9 := Aside0.mk ((hb.block _ (lt_of E8.out)).trans E8.out)
  have F9 := Aside0.mk ((hb.block _ (lt_of F8.out)).trans F8.out)
  have HB9 := Aside0.mk (below_step HB8.out hb)
  have HV9 := Aside0.mk hv
  clear hv
  clear hb hHeld
  refine hK.out _ _ ⟨cell_of D9.out 0, cell_of D9.out 1, cell_of D9.out 2, cell_of E9.out 0, cell_of E9.out 1, cell_of E9.out 2, cell_of F9.out 0, cell_of F9.out 1, cell_of F9.out 2⟩ (fun hHeld => ?_)
  clear hK K
  refine norm_ (a' := ?_) ?_ ?_
  rotate_left
  · show Act.put _ (some 28) _ = _
    simp only [Act.put, List.setIfInBounds_toArray, List.set_cons_zero, List.set_cons_succ, i64_w, i32_w]
    rfl
  refine one_ (i := 11) (N := some 29) #[true, true, true, true, true, true, true, true, true, true, true, true, true, false, false, false, false, false, false, false] rfl rfl (one_of HT_.out (by kernel_rfl)) (by decide) (fun K hK => ?_)
  refine goes_ Tryz.func11 (by kernel_rfl) rfl #[v10] (by rfl) rfl rfl (by (try simp only [List.map_toArray, List.map_cons, List.map_nil]); first | done | rfl) ?_
  refine (checkV HV9.out HSm.out).mono ?_
  rintro e w10 ⟨rfl, hb⟩
  refine ⟨_, rfl, ?_⟩
  have D10 := Aside0.mk ((hb.block _ (lt_of D9.out)).trans D9.out)
  have E10 := Aside0.mk ((hb.block _ (lt_of E9.out)).trans E9.out)
  have F10 := Aside0.mk ((hb.block _ (lt_of F9.out)).trans F9.out)
  have HB10 := Aside0.mk (below_step HB9.out hb)
  clear hb hHeld
  refine hK.out _ _ ⟨cell_of D10.out 0, cell_of D10.out 1, cell_of D10.out 2, cell_of E10.out 0, cell_of E10.out 1, cell_of E10.out 2, cell_of F10.out 0, cell_of F10.out 1, cell_of F10.out 2⟩ (fun hHeld => ?_)
  clear hK K
  refine norm_ (a' := ?_) ?_ ?_
  rotate_left
  · show Act.put _ (some 29) _ = _
    simp only [Act.put, List.setIfInBounds_toArray, List.set_cons_zero, List.set_cons_succ, i64_w, i32_w]
    rfl
  refine one_ (i := 13) (N := some 31) #[true, true, true, true, true, true, true, true, true, true, true, true, true, true, false, false, false, false, false, false] rfl rfl (one_of HT_.out (by kernel_rfl)) (by decide) (fun K hK => ?_)
  refine goes_ Tryz.func12 (by kernel_rfl) rfl #[.agg #[.slice A0 m0 c0, .slice A1 m1 c1, .slice A2 m2 c2]] (by rfl) rfl rfl (by (try simp only [List.map_toArray, List.map_cons, List.map_nil]); first | done | rfl) ?_
  refine (rcheckV (HF.out w10 HB10.out) HSm.out).mono ?_
  rintro e w11 ⟨rfl, hb⟩
  refine ⟨_, rfl, ?_⟩
  have D11 := Aside0.mk ((hb.block _ (lt_of D10.out)).trans D10.out)
  have E11 := Aside0.mk ((hb.block _ (lt_of E10.out)).trans E10.out)
  have F11 := Aside0.mk ((hb.block _ (lt_of F10.out)).trans F10.out)
  have HB11 := Aside0.mk (below_step HB10.out hb)
  clear hb hHeld
  refine hK.out _ _ ⟨cell_of D11.out 0, cell_of D11.out 1, cell_of D11.out 2, cell_of E11.out 0, cell_of E11.out 1, cell_of E11.out 2, cell_of F11.out 0, cell_of F11.out 1, cell_of F11.out 2⟩ (fun hHeld => ?_)
  clear hK K
  refine norm_ (a' := ?_) ?_ ?_
  rotate_left
  · show Act.put _ (some 31) _ = _
    simp only [Act.put, List.setIfInBounds_toArray, List.set_cons_zero, List.set_cons_succ, i64_w, i32_w]
    rfl
  refine pure_ (i := 14) (N := some 32) (v := ?_) (a' := ?_) #[true, true, true, true, true, true, true, true, true, true, true, true, true, true, true, false, false, false, false, false] rfl rfl (any_of HT_.out (by kernel_rfl)) (fun _ _ _ h => h) (Or.inl ⟨by rfl, ?_⟩) ?_ ?_
  rotate_left
  · intro w'
    go_simp
    with_reducible rfl
  rotate_left
  · simp only [Act.put, List.setIfInBounds_toArray, List.set_cons_zero, List.set_cons_succ, i64_w, i32_w]
    rfl
  refine pure_ (i := 15) (N := some 33) (v := ?_) (a' := ?_) #[true, true, true, true, true, true, true, true, true, true, true, true, true, true, true, true, false, false, false, false] rfl rfl (any_of HT_.out (by kernel_rfl)) (fun _ _ _ h => h) (Or.inl ⟨by rfl, ?_⟩) ?_ ?_
  rotate_left
  · intro w'
    go_simp
    with_reducible rfl
  rotate_left
  · simp only [Act.put, List.setIfInBounds_toArray, List.set_cons_zero, List.set_cons_succ, i64_w, i32_w]
    rfl
  refine pure_ (i := 16) (N := some 34) (v := ?_) (a' := ?_) #[true, true, true, true, true, true, true, true, true, true, true, true, true, true, true, true, true, false, false, false] rfl rfl (any_of HT_.out (by kernel_rfl)) (fun _ _ _ h => h) (Or.inl ⟨by rfl, ?_⟩) ?_ ?_
  rotate_left
  · intro w'
    go_simp
    with_reducible rfl
  rotate_left
  · simp only [Act.put, List.setIfInBounds_toArray, List.set_cons_zero, List.set_cons_succ, i64_w, i32_w]
    rfl
  refine one_ (i := 17) (N := some 35) #[true, true, true, true, true, true, true, true, true, true, true, true, true, true, true, true, true, true, false, false] rfl rfl (one_of HT_.out (by kernel_rfl)) (by decide) (fun K hK => ?_)
  refine goes_ Tryz.func13 (by kernel_rfl) rfl #[] (by rfl) rfl rfl (by (try simp only [List.map_toArray, List.map_cons, List.map_nil]); first | done | rfl) ?_
  refine (awake_any w11).mono ?_
  rintro e wz ⟨rfl, hb⟩
  refine ⟨_, rfl, ?_⟩
  have Dz := Aside0.mk ((hb.block _ (lt_of D11.out)).trans D11.out)
  have Ez := Aside0.mk ((hb.block _ (lt_of E11.out)).trans E11.out)
  have Fz := Aside0.mk ((hb.block _ (lt_of F11.out)).trans F11.out)
  have HBz := Aside0.mk (below_step HB11.out hb)
  clear hb hHeld
  refine hK.out _ _ ⟨cell_of Dz.out 0, cell_of Dz.out 1, cell_of Dz.out 2, cell_of Ez.out 0, cell_of Ez.out 1, cell_of Ez.out 2, cell_of Fz.out 0, cell_of Fz.out 1, cell_of Fz.out 2⟩ (fun hHeld => ?_)
  clear hK K
  refine norm_ (a' := ?_) ?_ ?_
  rotate_left
  · show Act.put _ (some 35) _ = _
    simp only [Act.put, List.setIfInBounds_toArray, List.set_cons_zero, List.set_cons_succ, i64_w, i32_w]
    rfl
  refine pure_ (i := 18) (N := some 36) (v := ?_) (a' := ?_) #[true, true, true, true, true, true, true, true, true, true, true, true, true, true, true, true, true, true, true, false] rfl rfl (any_of HT_.out (by kernel_rfl)) (fun _ _ _ h => h) (Or.inl ⟨by rfl, ?_⟩) ?_ ?_
  rotate_left
  · intro w'
    go_simp
    with_reducible rfl
  rotate_left
  · simp only [Act.put, List.setIfInBounds_toArray, List.set_cons_zero, List.set_cons_succ, i64_w, i32_w]
    rfl
  refine pure_ (i := 19) (N := some 2) (v := ?_) (a' := ?_) #[true, true, true, true, true, true, true, true, true, true, true, true, true, true, true, true, true, true, true, true] rfl rfl (any_of HT_.out (by kernel_rfl)) (fun _ _ _ h => h) (Or.inl ⟨by rfl, ?_⟩) ?_ ?_
  rotate_left
  · intro w'
    go_simp
    with_reducible rfl
  rotate_left
  · simp only [Act.put, List.setIfInBounds_toArray, List.set_cons_zero, List.set_cons_succ, i64_w, i32_w]
    rfl
  refine done_ (done_of HT_.out (by kernel_rfl)) ?_
  go_wp2
  go_ret
  exact ⟨rfl, HBz.out⟩
end Go.Proofs.YtldlenjfpjihdaaGreat.PS
end
section
namespace Go.Proofs.YtldlenjfpjihdaaGreat.setsNorms
open Go.ChangeShapes Go.WideShapes Go.ChangeAt Go.RowKit Go.Proofs.YtldlenjfpjihdaaGreatW.PrintWords Go.Proofs.YtldlenjfpjihdaaGreat.PS Go.Proofs.YtldlenjfpjihdaaGreat.OpenK
open Go.ChangeMaps (open_string shut_string)
set_option linter.unusedVariables false
theorem own : ownKnob Tryz.prog.godebug = none := by kernel_rfl
theorem laidOut : laidOutB Tryz.prog = true := by kernel_rfl
set_option maxRecDepth 100000 in
theorem lifted (os : Os) (started : os.Started) (H : Type) (enc : TypeId × Value → H) :
  ReturnsInHanded {} Tryz.checked os 3 .any (Rows.setsNormsSpec.pre6 enc Tryz.prog Tryz.f3 Rows.setsNormsRow.domain false) (Rows.setsNormsSpec.post enc Tryz.prog Tryz.f3 false true false false) := by
 refine returnsInHanded_of_change_sized (C := Tryz.checked) own started (by kernel_rfl) Tryz.func3
  (ChangeSpec.witness6 (enc := enc) (C := Tryz.checked) false ⟨#[], #[.agg #[.slice none 0 0, .slice none 0 0, .slice none 0 0]], []⟩ 8 (by kernel_rfl) (by kernel_rfl) (by kernel_rfl) (by kernel_rfl)) ?_
 intro W base args ds gs before hval0 hW hcnd hsz0 _
 have hsz : (DataW.weightsEach Tryz.prog (Tryz.f3.params.toList ++ Rows.setsNormsSpec.plain.varTypes Tryz.prog) (ds ++ gs)).all (· ≤ reachBytes) = true := hsz0
 have hval : ∀ (j : Nat) t v, Tryz.f3.params[j]? = some t → args[j]? = some v → Value.okWide Tryz.prog W .any base t v := @hval0
 have hW' := hW
 obtain ⟨p, q, hA0, hV, rfl, hfz, hnd⟩ := hW
 have hA : DataW.TrodAll enc Tryz.prog W 0 (fun _ => true) true Tryz.f3.params.toList args.toList ds p := hA0
 rw [Tryz.params3] at hA hval hsz
 obtain ⟨v0, vs0, d0, ds0, p0, q0, hargs, rfl, rfl, h0, r0⟩ := trodAll_cons hA
 obtain ⟨rfl, rfl, rfl⟩ := trodAll_nil r0
 obtain rfl : args = #[v0] := by cases args; simp_all
 obtain ⟨rfl, rfl⟩ := trodVars_none hV
 have hw : (DataW.weightsEach Tryz.prog [25] [d0]).all (· ≤ reachBytes) = true := hsz
 simp only [DataW.weightsEach, all_append_iff] at hw
 obtain ⟨hw0, _⟩ := hw
 have k0 := h0
 have lt0 : ∀ x ∈ p0, x.block < W.heap.size := by obtain ⟨m, hm⟩ := k0; exact DataW.trod_lt m _ _ _ hm
 obtain ⟨fuel0, hf0⟩ := h0
 obtain ⟨A0, A1, A2, c0, c1, c2, f, rfl, ha0, sa0, wa0⟩ := argFt (hval 0 25 v0 rfl rfl) hf0 hw0
 refine (norms_any f A0 A1 A2 c0 c1 c2 W ha0 sa0 wa0).mono fun e W' ⟨he, bel⟩ => ?_
 subst he
 exact ⟨_, rfl, _, _, _, [], _, [], hW', trodAll_mk1 (shut_bool Tryz.underlying4 _), (trodAll_cons_mk (Below.trod laidOut (by kernel_rfl) (of_decide_eq_true (by kernel_rfl)) k0 bel lt0) trodAll_mk0), rfl, bel.frame _, fun h => by cases h⟩
theorem over : Rows.setsNormsRow.holds Tryz.pinned (OpenSpec.ofChange Rows.setsNormsSpec) :=
 OpenClaim.holds_of_wide 3 Tryz.f3 rfl rfl rfl rfl rfl rfl rfl ⟨rfl, rfl, rfl, rfl, rfl⟩ rfl rfl rfl rfl rfl (by kernel_rfl) Tryz.func3 (by kernel_rfl)
  (of_decide_eq_true (by kernel_rfl)) (by unfold Func.isWrapper; first | (rw [if_pos (by decide +kernel)]; kernel_rfl) | (rw [if_neg (by decide +kernel)]; exact ⟨rfl, rfl⟩))
  (fun os started H enc _ => lifted os started H enc)
theorem proved : Rows.SetsNormsSaid := over
end Go.Proofs.YtldlenjfpjihdaaGreat.setsNorms
namespace Go.Proofs.YtldlenjfpjihdaaGreat
theorem setsNorms_holds : Rows.SetsNormsSaid := setsNorms.proved
end Go.Proofs.YtldlenjfpjihdaaGreat
end
