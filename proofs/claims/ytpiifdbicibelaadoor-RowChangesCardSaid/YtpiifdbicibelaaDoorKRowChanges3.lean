/- Part 4 of what the proof of RowChanges stands on: words for walks, printed functions with their contracts, plain laws. -/
import Derived.Test.YtpiifdbicibelaaDoorKRowChanges2
section
namespace Go.Proofs.YtpiifdbicibelaaDoor.Pure
open Go.RowKit Go.Proofs Go.Proofs.YtpiifdbicibelaaDoorW.PrintWords Go.Proofs.YtpiifdbicibelaaDoorW.PrintLast Go.Proofs.YtpiifdbicibelaaDoorW.PrintMore Go.Proofs.YtpiifdbicibelaaDoor.PA Go.Proofs.YtpiifdbicibelaaDoor.OpenK
set_option linter.unusedVariables false
set_option linter.unusedSimpArgs false
theorem contains_cons (b : UInt8) (l p : List UInt8) : Lib.contains (b :: l) p = (p.isPrefixOf (b :: l) || Lib.contains l p) := by
  unfold Lib.contains
  rw [Lib.index]
  cases h : p.isPrefixOf (b :: l)
  · have hg := Lib.index_ge l p
    by_cases h1 : Lib.index l p = -1
    · simp [h1]
    · have h2 : (Lib.index l p == -1) = false := by simpa using h1
      simp [h2]
      omega
  · simp
theorem contains_nil (a : UInt8) (p : List UInt8) : Lib.contains [] (a :: p) = false := by
  unfold Lib.contains; simp [Lib.index]
theorem contains_skip (p : List UInt8) : ∀ (w t : List UInt8), 32 ∉ w → Lib.contains (w ++ t) (32 :: p) = Lib.contains t (32 :: p)
  | [], t, _ => rfl
  | b :: w, t, h => by
    have hb : (32 == b) = false := by
      rw [beq_eq_false_iff_ne]; intro e; exact h (by rw [e]; simp)
    rw [List.cons_append, contains_cons, contains_skip p w t (fun g => h (by simp [g]))]
    simp [List.isPrefixOf, hb]
theorem prefix_word : ∀ (x w t : List UInt8), 32 ∉ x → 32 ∉ w → (x ++ [32]).isPrefixOf (w ++ 32 :: t) = decide (x = w)
  | [], [], t, _, _ => by simp [List.isPrefixOf]
  | [], b :: w, t, _, h => by
    have hb : (32 == b) = false := by
      rw [beq_eq_false_iff_ne]; intro e; exact h (by rw [e]; simp)
    simp [List.isPrefixOf, hb]
  | a :: x, [], t, h, _ => by
    have hb : (a == 32) = false := by
      rw [beq_eq_false_iff_ne]; intro e; exact h (by rw [e]; simp)
    simp [List.isPrefixOf, hb]
  | a :: x, b :: w, t, h, g => by
    have ih := prefix_word x w t (fun e => h (by simp [e])) (fun e => g (by simp [e]))
    show (a == b && (x ++ [32]).isPrefixOf (w ++ 32 :: t)) = _
    rw [ih]
    by_cases e : a = b <;> simp [e]
def joined (ws : List (List UInt8)) : List UInt8 := ws.flatMap (fun w => 32 :: w) ++ [32]
theorem joined_head (ws : List (List UInt8)) : ∃ t, joined ws = 32 :: t := by
  cases ws with
  | nil => exact ⟨[], rfl⟩
  | cons w ws => exact ⟨w ++ (ws.flatMap (fun w => 32 :: w) ++ [32]), by simp [joined]⟩
theorem joined_contains (x : List UInt8) (hx : 32 ∉ x) : ∀ ws : List (List UInt8), (∀ w ∈ ws, 32 ∉ w) → Lib.contains (joined ws) (32 :: x ++ [32]) = decide (x ∈ ws)
  | [], _ => by
    show Lib.contains [32] (32 :: (x ++ [32])) = _
    rw [contains_cons, contains_nil]
    cases x <;> simp [List.isPrefixOf]
  | w :: ws, h => by
    have ih := joined_contains x hx ws (fun v hv => h v (by simp [hv]))
    have e : joined (w :: ws) = 32 :: (w ++ joined ws) := by simp [joined]
    obtain ⟨t, ht⟩ := joined_head ws
    rw [e, List.cons_append, contains_cons, contains_skip _ w _ (h w (by simp))]
    have ih' : Lib.contains (joined ws) (32 :: (x ++ [32])) = decide (x ∈ ws) := ih
    rw [ih', ht]
    have hp := prefix_word x w t hx (h w (by simp))
    show ((32 == (32 : UInt8)) && (x ++ [32]).isPrefixOf (w ++ 32 :: t) || decide (x ∈ ws)) = _
    rw [hp]
    by_cases e1 : x = w <;> by_cases e2 : x ∈ ws <;> simp [e1, e2]
def refWords : List ByteArray := (vellumref03_words.f).getD []
theorem refWords_f : vellumref03_words.f = some refWords := rfl
theorem words_eq : schemaWords.data.toList = joined (refWords.map (fun w => w.data.toList)) := by decide +kernel
theorem words_32 : ∀ w ∈ refWords.map (fun w : ByteArray => w.data.toList), (32 : UInt8) ∉ w := by decide +kernel
theorem wordB_eq {l : List UInt8} (h : l.all (fun b => smallB b || digitB b) = true) : wordB l = decide (l ∈ refWords.map (fun w => w.data.toList)) := by
  unfold wordB
  rw [words_eq]
  refine joined_contains l (fun hm => ?_) _ words_32
  have := List.all_eq_true.1 h 32 hm
  revert this; decide
theorem ref_small_f (b : UInt8) : vellumref03_small.f (b.toNat : Int) = some (smallB b) := by
  have h95 : ((b.toNat : Int) == 95) = (b == 95) := by
    rw [Bool.eq_iff_iff, beq_iff_eq, beq_iff_eq, ← UInt8.toNat_inj]
    show _ ↔ b.toNat = 95
    omega
  unfold vellumref03_small.f smallB
  rw [h95]
  by_cases h1 : 97 ≤ b.toNat <;> by_cases h2 : b.toNat ≤ 122
  · rw [if_pos (by omega), if_pos (by omega)]; simp [h1, h2]
  · rw [if_pos (by omega), if_neg (by omega)]; simp [h1, h2]
  · rw [if_neg (by omega)]; simp [h1, h2]
  · omega
theorem ref_digit_f (b : UInt8) : vellumref03_digit.f (b.toNat : Int) = some (digitB b) := digit_f b
theorem rdOf_get (l : List ByteArray) (i : Nat) (h : i < l.length) : rdOf ByteArray.empty l (i : Int) = l[i] := by
  unfold rdOf; simp [List.getD, List.getElem?_eq_getElem h]
theorem in_ev (ws : List ByteArray) (x : ByteArray) (hl : ws.length < 9223372036854775807) : Ev (fun k => vellumref03_in.f k ws x) (decide (x.data.toList ∈ ws.map (fun w => w.data.toList))) := by
  have go : ∀ (m i : Nat), i + m = ws.length → Ev (fun k => vellumref03_in.l0 k ws x (i : Int)) (decide (x.data.toList ∈ (ws.drop i).map (fun w => w.data.toList))) := by
    intro m
    induction m with
    | zero =>
      intro i hi
      rw [List.drop_of_length_le (by omega)]
      refine Ev.from_ 1 fun k => ?_
      simp only [vellumref03_in.l0]
      rw [if_neg (by omega)]; rfl
    | succ m ih =>
      intro i hi
      have hlt : i < ws.length := by omega
      rw [List.drop_eq_getElem_cons hlt]
      refine Ev.step (g := fun k => if (ws[i]).toList = x.toList then some true else vellumref03_in.l0 k ws x ((i + 1 : Nat) : Int)) (fun k => ?_) ?_
      · simp only [vellumref03_in.l0]
        rw [if_pos (by omega), if_pos (by omega), rdOf_get ws i hlt, wrap64_id (by omega) (by omega)]
        rfl
      · rw [Lib.toList_data, Lib.toList_data]
        by_cases h : ws[i].data.toList = x.data.toList
        · refine Ev.pos h ?_
          rw [decide_eq_true (by rw [List.map_cons]; exact List.mem_cons.2 (.inl h.symm))]
          exact Ev.pure
        · refine Ev.neg h ?_
          have := ih (i + 1) (by omega)
          have e : decide (x.data.toList ∈ (ws[i] :: ws.drop (i + 1)).map (fun w => w.data.toList)) = decide (x.data.toList ∈ (ws.drop (i + 1)).map (fun w => w.data.toList)) := by
            rw [decide_eq_decide, List.map_cons, List.mem_cons]
            exact ⟨fun g => g.resolve_left (fun e => h e.symm), .inr⟩
          rw [e]; exact this
  have := go ws.length 0 (by omega)
  simpa [vellumref03_in.f] using this
theorem ref_name_l0 (s : ByteArray) (hs : s.size ≤ 140737488351232) : ∀ (m i : Nat), i + m = s.size → Ev (fun k => vellumref03_Name.l0 k s (i : Int)) ((s.data.toList.drop i).all (fun b => smallB b || digitB b)) := by
  intro m
  induction m with
  | zero =>
    intro i hi
    rw [List.drop_of_length_le (by rw [data_len]; omega)]
    refine Ev.from_ 1 fun k => ?_
    simp only [vellumref03_Name.l0]
    rw [if_neg (by omega)]; rfl
  | succ m ih =>
    intro i hi
    have hlt : i < s.data.toList.length := by rw [data_len]; omega
    have hb := bt_get s i hlt
    rw [List.drop_eq_getElem_cons hlt]
    generalize s.data.toList[i]'hlt = b at hb
    refine Ev.step (g := fun k => (vellumref03_small.f (bt s (i : Int))).bind fun t103 => if t103 = true then vellumref03_Name.l0 k s ((i + 1 : Nat) : Int) else (vellumref03_digit.f (bt s (i : Int))).bind fun t104 => if t104 = true then vellumref03_Name.l0 k s ((i + 1 : Nat) : Int) else some false) (fun k => ?_) ?_
    · simp only [vellumref03_Name.l0]
      rw [if_pos (by omega), if_pos (by omega), wrap64_id (by omega) (by omega)]
      rfl
    · rw [hb]
      refine Ev.bind (Ev.const (ref_small_f b)) ?_
      have ih' := ih (i + 1) (by omega)
      cases h1 : smallB b
      · refine Ev.neg (by decide) (Ev.bind (Ev.const (ref_digit_f b)) ?_)
        cases h2 : digitB b
        · refine Ev.neg (by decide) ?_
          simp [h1, h2]; exact Ev.pure
        · refine Ev.pos rfl ?_
          simpa [h1, h2] using ih'
      · refine Ev.pos rfl ?_
        simpa [h1] using ih'
theorem name_ref (s : ByteArray) (hs : s.size ≤ 140737488351232) : Ev (fun k => vellumref03_Name.f k s) (nameOk s) := by
  have hj : ∀ b : Bool, Ev (fun k => vellumref03_Name.j0 k s b) (!b && s.data.toList.all (fun b => smallB b || digitB b)) := by
    intro b
    cases b
    · refine Ev.step (g := fun k => vellumref03_Name.l0 k s ((0 : Nat) : Int)) (fun k => ?_) ?_
      · simp only [vellumref03_Name.j0]; rw [if_neg (by decide)]; rfl
      · simpa using ref_name_l0 s hs s.size 0 (by omega)
    · refine Ev.from_ 1 fun k => ?_
      simp [vellumref03_Name.j0]
  simp only [vellumref03_Name.f]
  have hl := data_len s
  unfold nameOk
  generalize hL : s.data.toList = L at *
  cases L with
  | nil =>
    refine Ev.pos (by simp at hl; omega) ?_
    have := hj true
    simpa using this
  | cons b l =>
    have hb : bt s 0 = (b.toNat : Int) := by
      have := bt_get s 0 (by rw [hL]; simp)
      simpa [hL] using this
    simp at hl
    refine Ev.neg (by omega) ?_
    by_cases h1 : (s.size : Int) > 63
    · refine Ev.pos h1 ?_
      have e : decide ((b :: l).length ≤ 63) = false := decide_eq_false (by simp; omega)
      rw [e]
      simpa using hj true
    · refine Ev.neg h1 (Ev.pos (by omega) ?_)
      have e : decide ((b :: l).length ≤ 63) = true := decide_eq_true (by simp; omega)
      rw [e, hb]
      refine Ev.bind (Ev.const (ref_small_f b)) ?_
      cases h2 : smallB b
      · refine Ev.neg (by decide) ?_
        simpa [h2] using hj true
      · refine Ev.pos rfl (Ev.bind (Ev.const refWords_f) (Ev.bind (in_ev refWords s (by decide +kernel)) ?_))
        have := hj (decide (s.data.toList ∈ refWords.map (fun w => w.data.toList)))
        have e3 : (!decide ((b :: l) ∈ refWords.map (fun w => w.data.toList)) && (b :: l).all (fun b => smallB b || digitB b)) = (!wordB (b :: l) && (b :: l).all (fun b => smallB b || digitB b)) := by
          cases ha : (b :: l).all (fun b => smallB b || digitB b)
          · simp
          · rw [wordB_eq ha]
        rw [hL, e3] at this
        simpa [h2, hL] using this
end Go.Proofs.YtpiifdbicibelaaDoor.Pure
end
section
namespace Go.Proofs.YtpiifdbicibelaaDoor.Pure
open Go.RowKit Go.Proofs Go.Proofs.YtpiifdbicibelaaDoorW.PrintWords Go.Proofs.YtpiifdbicibelaaDoorW.PrintLast Go.Proofs.YtpiifdbicibelaaDoorW.PrintMore Go.Proofs.YtpiifdbicibelaaDoor.PA Go.Proofs.YtpiifdbicibelaaDoor.OpenK
set_option linter.unusedVariables false
/-- What a list of values is coded as_: its bytes and the outcome. -/
def chkV (x : S50) : Int := chk x.f0 x.f1 x.f2 x.f3
theorem rd_get (l : List S50) (i : Nat) (x : S50) (h : l[i]? = some x) : rd_T50 l (i : Int) = x := by
  unfold rd_T50
  simp [List.getD, h]
theorem chk_ok {a b : Int} {c : Nat} {d : ByteArray} (h : chk a b c d = 0) : (0 ≤ a ∧ a ≤ 5) ∧ d.size ≤ 65536 := by
  unfold chk at h
  split at h
  · cases h
  · rename_i h1
    split at h
    · cases h
    · rename_i h2
      have : ¬ a < 0 := fun x => h1 (Or.inl x)
      have : ¬ 5 < a := fun x => h1 (Or.inr (Or.inl x))
      constructor
      · omega
      · omega
end Go.Proofs.YtpiifdbicibelaaDoor.Pure
end
section
namespace Go.Proofs.YtpiifdbicibelaaDoor.PA
open Go.RowKit Go.Proofs.YtpiifdbicibelaaDoorW.PrintWords Go.Proofs.YtpiifdbicibelaaDoorW.PrintLast Go.Proofs.YtpiifdbicibelaaDoorW.PrintMore
attribute [local go_sem] max2_int min2_int max_two min_two max_three min_three max_four min_four
set_option linter.unusedVariables false
set_option linter.unusedSimpArgs false
def vellumref03_Admits.l0 : Nat → List (S50) → Int → ByteArray → List (S105) → List Int → List (S115) → List (S139) → Option (Int)
  | 0, _, _, _, _, _, _, _ => none
  | k + 1, x1, x6, x657000, x657001, x657002, x657003, x657004 => if x6 < (x1.length : Int) then (if 0 ≤ x6 then ((vellumref01_Check.f k ((rd_T50 x1 x6).f0) ((rd_T50 x1 x6).f1) ((rd_T50 x1 x6).f2) ((rd_T50 x1 x6).f3)).bind fun t659 => (if t659 = 0 then (if ((rd_T50 x1 x6).f0) = 0 then (if x6 < (x657001.length : Int) then (if ((rd_T105 x657001 x6).f2 = true) then (vellumref03_Admits.l0 k x1 (wrap64 (x6 + 1)) x657000 x657001 x657002 x657003 x657004) else (some 35)) else (none)) else (if x6 < (x657001.length : Int) then (if ((rd_T50 x1 x6).f0) = ((rd_T105 x657001 x6).f1) then (vellumref03_Admits.l0 k x1 (wrap64 (x6 + 1)) x657000 x657001 x657002 x657003 x657004) else (some 32)) else (none))) else (some t659))) else (none)) else (some 0)
def vellumref03_Admits.f (k : Nat) (a0_0 : ByteArray) (l0_1 : List (S105)) (l0_2 : List Int) (l0_3 : List (S115)) (l0_4 : List (S139)) (l1 : List (S50)) : Option (Int) := (vellumref03_Check.f k a0_0 l0_1 l0_2 l0_3 l0_4).bind fun t657 => (if t657 = 0 then (if (l1.length : Int) = (l0_1.length : Int) then (vellumref03_Admits.l0 k l1 0 a0_0 l0_1 l0_2 l0_3 l0_4) else (some 1)) else (some t657))
set_option maxHeartbeats 8000000 in
set_option maxRecDepth 100000 in
theorem vellumref03_Admits.calls (k : Nat) (a0_0 : ByteArray) (A0_1 : Option Addr) (c0_1 : Nat) (l0_1 : List (S105)) (A0_2 : Option Addr) (c0_2 : Nat) (l0_2 : List Int) (A0_3 : Option Addr) (c0_3 : Nat) (l0_3 : List (S115)) (A0_4 : Option Addr) (c0_4 : Nat) (l0_4 : List (S139)) (A1 : Option Addr) (c1 : Nat) (l1 : List (S50)) (r : Int) (w : World) (hr0_1 : Kd.C k105 w A0_1 l0_1.length l0_1) (hc0_1 : l0_1.length ≤ c0_1) (hr0_2 : Kd.C (Kd.int .i64) w A0_2 l0_2.length l0_2) (hc0_2 : l0_2.length ≤ c0_2) (hr0_3 : Kd.C k115 w A0_3 l0_3.length l0_3) (hc0_3 : l0_3.length ≤ c0_3) (hr0_4 : Kd.C k139 w A0_4 l0_4.length l0_4) (hc0_4 : l0_4.length ≤ c0_4) (hr1 : Kd.C k50 w A1 l1.length l1) (hc1 : l1.length ≤ c1) (hG : Glob w) (h : vellumref03_Admits.f k a0_0 l0_1 l0_2 l0_3 l0_4 l1 = some r) :
    Calls Tryd.prog 85 #[.agg #[.string a0_0, .slice A0_1 l0_1.length c0_1, .slice A0_2 l0_2.length c0_2, .slice A0_3 l0_3.length c0_3, .slice A0_4 l0_4.length c0_4], .slice A1 l1.length c1] w fun e w' => e = .returned (.int .i64 r) ∧ Below w.heap.size w w' := by
  have hu65 := Tryd.underlying65
  have hu50 := Tryd.underlying50
  have HR0_1 := am hr0_1
  have HC0_1 := am hc0_1
  clear hr0_1 hc0_1
  have HR0_2 := am hr0_2
  have HC0_2 := am hc0_2
  clear hr0_2 hc0_2
  have HR0_3 := am hr0_3
  have HC0_3 := am hc0_3
  clear hr0_3 hc0_3
  have HR0_4 := am hr0_4
  have HC0_4 := am hc0_4
  clear hr0_4 hc0_4
  have HR1 := am hr1
  have HC1 := am hc1
  clear hr1 hc1
  have HG := am hG
  clear hG
  have HB := am (Below.refl w.heap.size w)
  have H : ((vellumref03_Check.f k a0_0 l0_1 l0_2 l0_3 l0_4).bind fun t657 => (if t657 = 0 then (if (l1.length : Int) = (l0_1.length : Int) then (vellumref03_Admits.l0 k l1 0 a0_0 l0_1 l0_2 l0_3 l0_4) else (some 1)) else (some t657))) = some r := h
  clear h
  replace H := Option.bind_eq_some_iff.mp H
  obtain ⟨t657, A30, H⟩ := H
  replace H : (if t657 = 0 then (if (l1.length : Int) = (l0_1.length : Int) then (vellumref03_Admits.l0 k l1 0 a0_0 l0_1 l0_2 l0_3 l0_4) else (some 1)) else (some t657)) = some r := H
  have A3 := am A30
  clear A30
  by_cases c4 : t657 = 0
  · rw [if_pos c4] at H
    have c4b0 : (t657 == 0) = true := beq_iff_eq.mpr c4
    have c4b1 : (t657 != 0) = false := bne_eq_false_iff_eq.mpr c4
    clear c4
    by_cases c5 : (l1.length : Int) = (l0_1.length : Int)
    · rw [if_pos c5] at H
      have c5b0 : ((l1.length : Int) == (l0_1.length : Int)) = true := beq_iff_eq.mpr c5
      have c5b1 : ((l1.length : Int) != (l0_1.length : Int)) = false := bne_eq_false_iff_eq.mpr c5
      have c5b2 : (l1.length == l0_1.length) = true := by first | simpa using c5 | (simp at c5 ⊢; omega)
      clear c5
      have H' := am H
      clear H
      go_enter Tryd.func85, Tryd.ntmps85
      go_wp2_with (first | ((with_reducible refine gate_dst (N := 2) rfl ?_); refine box_event rfl (N := 2) rfl (cs := #[.string a0_0, .slice A0_1 l0_1.length c0_1, .slice A0_2 l0_2.length c0_2, .slice A0_3 l0_3.length c0_3, .slice A0_4 l0_4.length c0_4]) (t := 65) gs ?_; intro gb656 hg w6 hbox hb; have BK656 := am (hbox); have GW656 := gw hg HB; have GE656 := gw hg HB; replace HB := sb HB hb; clear hb hbox hg; obtain ⟨Z7_0, Z7_1, Z7_2, Z7_3, Z7_4, Y7_0, Y7_1, Y7_2, Y7_3, Y7_4⟩ := bq5 BK656) | (go_at_call 93; (with_reducible refine (vellumref03_Check.calls k a0_0 _ _ l0_1 _ _ l0_2 _ _ l0_3 _ _ l0_4 t657 _ (Kd.cb HR0_1 HB) HC0_1.out (Kd.cb HR0_2 HB) HC0_2.out (Kd.cb HR0_3 HB) HC0_3.out (Kd.cb HR0_4 HB) HC0_4.out (Glob.below HG.out (bl HB)) A3.out).mono ?_); rintro e w8 ⟨rfl, hb⟩; replace BK656 := kb BK656 hb; replace HB := sb HB hb; (try clear hb); (try clear hb2 hk hi); obtain ⟨Z9_0, Z9_1, Z9_2, Z9_3, Z9_4, Y9_0, Y9_1, Y9_2, Y9_3, Y9_4⟩ := bq5 BK656))
      repeat (go_quiet (fail); try go_wp2_with (first | ((with_reducible refine gate_dst (N := 2) rfl ?_); refine box_event rfl (N := 2) rfl (cs := #[.string a0_0, .slice A0_1 l0_1.length c0_1, .slice A0_2 l0_2.length c0_2, .slice A0_3 l0_3.length c0_3, .slice A0_4 l0_4.length c0_4]) (t := 65) gs ?_; intro gb656 hg w6 hbox hb; have BK656 := am (hbox); have GW656 := gw hg HB; have GE656 := gw hg HB; replace HB := sb HB hb; clear hb hbox hg; obtain ⟨Z7_0, Z7_1, Z7_2, Z7_3, Z7_4, Y7_0, Y7_1, Y7_2, Y7_3, Y7_4⟩ := bq5 BK656) | (go_at_call 93; (with_reducible refine (vellumref03_Check.calls k a0_0 _ _ l0_1 _ _ l0_2 _ _ l0_3 _ _ l0_4 t657 _ (Kd.cb HR0_1 HB) HC0_1.out (Kd.cb HR0_2 HB) HC0_2.out (Kd.cb HR0_3 HB) HC0_3.out (Kd.cb HR0_4 HB) HC0_4.out (Glob.below HG.out (bl HB)) A3.out).mono ?_); rintro e w8 ⟨rfl, hb⟩; replace BK656 := kb BK656 hb; replace HB := sb HB hb; (try clear hb); (try clear hb2 hk hi); obtain ⟨Z9_0, Z9_1, Z9_2, Z9_3, Z9_4, Y9_0, Y9_1, Y9_2, Y9_3, Y9_4⟩ := bq5 BK656)))
      go_loopg [6] k (fun kq v6 w' => ∃ (x6_1 : Int), v6 = .int .i64 x6_1 ∧ Aside0 (vellumref03_Admits.l0 kq l1 x6_1 a0_0 l0_1 l0_2 l0_3 l0_4 = some r) ∧ Aside0 (kq ≤ k) ∧ Aside0 (w'.heap[gb656]? = some (.cells #[.string a0_0, (.slice A0_1 l0_1.length c0_1), (.slice A0_2 l0_2.length c0_2), (.slice A0_3 l0_3.length c0_3), (.slice A0_4 l0_4.length c0_4)] 65 (0, 0))) ∧ Aside0 (Below w.heap.size w w'))
      case atStart => exact ⟨(0), eb, H', ⟨Nat.le_refl _⟩, ⟨bk BK656⟩, ⟨bl HB⟩⟩
      case round =>
        clear H'
        try clear c1
        try clear p2
        try clear c4
        try clear c4b0
        try clear c4b1
        try clear c5
        try clear c5b0
        try clear c5b1
        try clear c5b2
        try clear c8
        try clear Z7_0
        try clear Z7_1
        try clear Z7_2
        try clear Z7_3
        try clear Z7_4
        try clear Z9_0
        try clear Z9_1
        try clear Z9_2
        try clear Z9_3
        try clear Z9_4
        try clear Y7_0
        try clear Y7_1
        try clear Y7_2
        try clear Y7_3
        try clear Y7_4
        try clear Y9_0
        try clear Y9_1
        try clear Y9_2
        try clear Y9_3
        try clear Y9_4
        obtain ⟨x6_1, rfl, HA, HK1, BK656, HB⟩ := hrel
        cases gk with
        | zero => exact absurd HA.out (by simp [vellumref03_Admits.l0])
        | succ k1 =>
          have H := HA.out
          clear HA
          simp only [vellumref03_Admits.l0] at H
          by_cases c10 : x6_1 < (l1.length : Int)
          · rw [if_pos c10] at H
            have c10b0 : decide (x6_1 < (l1.length : Int)) = true := decide_eq_true c10
            clear c10
            by_cases c11 : 0 ≤ x6_1
            · rw [if_pos c11] at H
              have c11b0 : decide (0 ≤ x6_1) = true := decide_eq_true c11
              clear c11
              replace H := Option.bind_eq_some_iff.mp H
              obtain ⟨t659, A120, H⟩ := H
              replace H : (if t659 = 0 then (if ((rd_T50 l1 x6_1).f0) = 0 then (if x6_1 < (l0_1.length : Int) then (if ((rd_T105 l0_1 x6_1).f2 = true) then (vellumref03_Admits.l0 k1 l1 (wrap64 (x6_1 + 1)) a0_0 l0_1 l0_2 l0_3 l0_4) else (some 35)) else (none)) else (if x6_1 < (l0_1.length : Int) then (if ((rd_T50 l1 x6_1).f0) = ((rd_T105 l0_1 x6_1).f1) then (vellumref03_Admits.l0 k1 l1 (wrap64 (x6_1 + 1)) a0_0 l0_1 l0_2 l0_3 l0_4) else (some 32)) else (none))) else (some t659)) = some r := H
              have A12 := am A120
              clear A120
              by_cases c13 : t659 = 0
              · rw [if_pos c13] at H
                have c13b0 : (t659 == 0) = true := beq_iff_eq.mpr c13
                have c13b1 : (t659 != 0) = false := bne_eq_false_iff_eq.mpr c13
                clear c13
                by_cases c14 : ((rd_T50 l1 x6_1).f0) = 0
                · rw [if_pos c14] at H
                  have c14b0 : (((rd_T50 l1 x6_1).f0) == 0) = true := beq_iff_eq.mpr c14
                  have c14b1 : (((rd_T50 l1 x6_1).f0) != 0) = false := bne_eq_false_iff_eq.mpr c14
                  clear c14
                  by_cases c15 : x6_1 < (l0_1.length : Int)
                  · rw [if_pos c15] at H
                    have c15b0 : decide (x6_1 < (l0_1.length : Int)) = true := decide_eq_true c15
                    clear c15
                    obtain ⟨bq16, hbq16⟩ : ∃ b_ : Bool, b_ = ((rd_T105 l0_1 x6_1).f2) := ⟨_, rfl⟩
                    replace H : (if (bq16 = true) then (vellumref03_Admits.l0 k1 l1 (wrap64 (x6_1 + 1)) a0_0 l0_1 l0_2 l0_3 l0_4) else (some 35)) = some r := by rw [← hbq16] at H; exact H
                    have Nbq16 := am hbq16
                    clear hbq16
                    by_cases c17 : (bq16 = true)
                    · subst c17
                      have H1 : (vellumref03_Admits.l0 k1 l1 (wrap64 (x6_1 + 1)) a0_0 l0_1 l0_2 l0_3 l0_4) = some r := by rw [if_pos rfl] at H; exact H
                      clear H
                      have H := H1
                      clear H1
                      have H' := am H
                      clear H
                      have p658 : 0 ≤ (x6_1 : Int) := oda
                      have q658 : x6_1 < (l1.length : Int) := oda
                      obtain ⟨ad658, e658, hx658_0, hx658_1, hx658_2, hx658_3⟩ := at_T50 HR1.out x6_1 p658 q658
                      cases e658
                      replace hx658_0 := hc HB hx658_0
                      replace hx658_1 := hc HB hx658_1
                      replace hx658_2 := hc HB hx658_2
                      replace hx658_3 := hc HB hx658_3
                      replace p658 := eq_true p658
                      replace q658 := eq_true q658
                      go_wp2_with (first | (go_at_call 69; (with_reducible refine (vellumref01_Check.calls k1 ((rd_T50 l1 x6_1).f0) ((rd_T50 l1 x6_1).f1) ((rd_T50 l1 x6_1).f2) ((rd_T50 l1 x6_1).f3) t659 _ (Glob.below HG.out (bl HB)) A12.out).mono ?_); rintro e w18 ⟨rfl, hb⟩; replace BK656 := kb BK656 hb; replace HB := sb HB hb; (try clear hb); (try clear hb2 hk hi); have p660 : 0 ≤ (x6_1 : Int) := oda; have q660 : x6_1 < (l1.length : Int) := oda; obtain ⟨ad660, e660, hx660_0, hx660_1, hx660_2, hx660_3⟩ := at_T50 HR1.out x6_1 p660 q660; obtain rfl : ad658 = ad660 := (by injection e660); replace hx660_0 := hc HB hx660_0; replace hx660_1 := hc HB hx660_1; replace hx660_2 := hc HB hx660_2; replace hx660_3 := hc HB hx660_3; replace p660 := eq_true p660; replace q660 := eq_true q660; obtain ⟨Z19_0, Z19_1, Z19_2, Z19_3, Z19_4, Y19_0, Y19_1, Y19_2, Y19_3, Y19_4⟩ := bq5 BK656; have p661 : 0 ≤ (x6_1 : Int) := oda; have q661 : x6_1 < (l0_1.length : Int) := oda; obtain ⟨ad661, e661, hx661_0, hx661_1, hx661_2, hx661_3, hx661_4, hx661_5, hx661_6⟩ := at_T105 HR0_1.out x6_1 p661 q661; (try rw [← Nbq16.out] at hx661_2); (try rw [← Nbq16.out] at hw661_2); cases e661; replace hx661_0 := hc HB hx661_0; replace hx661_1 := hc HB hx661_1; replace hx661_2 := hc HB hx661_2; replace hx661_3 := hc HB hx661_3; replace hx661_4 := hc HB hx661_4; replace hx661_5 := hc HB hx661_5; replace hx661_6 := hc HB hx661_6; replace p661 := eq_true p661; replace q661 := eq_true q661))
                      repeat (go_quiet (fail); try go_wp2_with (first | (go_at_call 69; (with_reducible refine (vellumref01_Check.calls k1 ((rd_T50 l1 x6_1).f0) ((rd_T50 l1 x6_1).f1) ((rd_T50 l1 x6_1).f2) ((rd_T50 l1 x6_1).f3) t659 _ (Glob.below HG.out (bl HB)) A12.out).mono ?_); rintro e w18 ⟨rfl, hb⟩; replace BK656 := kb BK656 hb; replace HB := sb HB hb; (try clear hb); (try clear hb2 hk hi); have p660 : 0 ≤ (x6_1 : Int) := oda; have q660 : x6_1 < (l1.length : Int) := oda; obtain ⟨ad660, e660, hx660_0, hx660_1, hx660_2, hx660_3⟩ := at_T50 HR1.out x6_1 p660 q660; obtain rfl : ad658 = ad660 := (by injection e660); replace hx660_0 := hc HB hx660_0; replace hx660_1 := hc HB hx660_1; replace hx660_2 := hc HB hx660_2; replace hx660_3 := hc HB hx660_3; replace p660 := eq_true p660; replace q660 := eq_true q660; obtain ⟨Z19_0, Z19_1, Z19_2, Z19_3, Z19_4, Y19_0, Y19_1, Y19_2, Y19_3, Y19_4⟩ := bq5 BK656; have p661 : 0 ≤ (x6_1 : Int) := oda; have q661 : x6_1 < (l0_1.length : Int) := oda; obtain ⟨ad661, e661, hx661_0, hx661_1, hx661_2, hx661_3, hx661_4, hx661_5, hx661_6⟩ := at_T105 HR0_1.out x6_1 p661 q661; (try rw [← Nbq16.out] at hx661_2); (try rw [← Nbq16.out] at hw661_2); cases e661; replace hx661_0 := hc HB hx661_0; replace hx661_1 := hc HB hx661_1; replace hx661_2 := hc HB hx661_2; replace hx661_3 := hc HB hx661_3; replace hx661_4 := hc HB hx661_4; replace hx661_5 := hc HB hx661_5; replace hx661_6 := hc HB hx661_6; replace p661 := eq_true p661; replace q661 := eq_true q661)))
                      go_roundg k1
                      case measure => have := HK1.out; omega
                      case rel => exact ⟨(wrap64 (x6_1 + 1)), eb, H', ⟨by have := HK1.out; omega⟩, ⟨bk BK656⟩, ⟨bl HB⟩⟩
                    · replace c17 := Bool.eq_false_iff.mpr c17
                      subst c17
                      have H1 : (some 35) = some r := by rw [if_neg (show ¬ (false = true) by decide)] at H; exact H
                      clear H
                      have H := H1
                      clear H1
                      obtain rfl := Option.some.inj H
                      have p658 : 0 ≤ (x6_1 : Int) := oda
                      have q658 : x6_1 < (l1.length : Int) := oda
                      obtain ⟨ad658, e658, hx658_0, hx658_1, hx658_2, hx658_3⟩ := at_T50 HR1.out x6_1 p658 q658
                      cases e658
                      replace hx658_0 := hc HB hx658_0
                      replace hx658_1 := hc HB hx658_1
                      replace hx658_2 := hc HB hx658_2
                      replace hx658_3 := hc HB hx658_3
                      replace p658 := eq_true p658
                      replace q658 := eq_true q658
                      go_wp2_with (first | (go_at_call 69; (with_reducible refine (vellumref01_Check.calls k1 ((rd_T50 l1 x6_1).f0) ((rd_T50 l1 x6_1).f1) ((rd_T50 l1 x6_1).f2) ((rd_T50 l1 x6_1).f3) t659 _ (Glob.below HG.out (bl HB)) A12.out).mono ?_); rintro e w20 ⟨rfl, hb⟩; replace BK656 := kb BK656 hb; replace HB := sb HB hb; (try clear hb); (try clear hb2 hk hi); have p660 : 0 ≤ (x6_1 : Int) := oda; have q660 : x6_1 < (l1.length : Int) := oda; obtain ⟨ad660, e660, hx660_0, hx660_1, hx660_2, hx660_3⟩ := at_T50 HR1.out x6_1 p660 q660; obtain rfl : ad658 = ad660 := (by injection e660); replace hx660_0 := hc HB hx660_0; replace hx660_1 := hc HB hx660_1; replace hx660_2 := hc HB hx660_2; replace hx660_3 := hc HB hx660_3; replace p660 := eq_true p660; replace q660 := eq_true q660; obtain ⟨Z21_0, Z21_1, Z21_2, Z21_3, Z21_4, Y21_0, Y21_1, Y21_2, Y21_3, Y21_4⟩ := bq5 BK656; have p661 : 0 ≤ (x6_1 : Int) := oda; have q661 : x6_1 < (l0_1.length : Int) := oda; obtain ⟨ad661, e661, hx661_0, hx661_1, hx661_2, hx661_3, hx661_4, hx661_5, hx661_6⟩ := at_T105 HR0_1.out x6_1 p661 q661; (try rw [← Nbq16.out] at hx661_2); (try rw [← Nbq16.out] at hw661_2); cases e661; replace hx661_0 := hc HB hx661_0; replace hx661_1 := hc HB hx661_1; replace hx661_2 := hc HB hx661_2; replace hx661_3 := hc HB hx661_3; replace hx661_4 := hc HB hx661_4; replace hx661_5 := hc HB hx661_5; replace hx661_6 := hc HB hx661_6; replace p661 := eq_true p661; replace q661 := eq_true q661))
                      repeat (go_quiet (fail); try go_wp2_with (first | (go_at_call 69; (with_reducible refine (vellumref01_Check.calls k1 ((rd_T50 l1 x6_1).f0) ((rd_T50 l1 x6_1).f1) ((rd_T50 l1 x6_1).f2) ((rd_T50 l1 x6_1).f3) t659 _ (Glob.below HG.out (bl HB)) A12.out).mono ?_); rintro e w20 ⟨rfl, hb⟩; replace BK656 := kb BK656 hb; replace HB := sb HB hb; (try clear hb); (try clear hb2 hk hi); have p660 : 0 ≤ (x6_1 : Int) := oda; have q660 : x6_1 < (l1.length : Int) := oda; obtain ⟨ad660, e660, hx660_0, hx660_1, hx660_2, hx660_3⟩ := at_T50 HR1.out x6_1 p660 q660; obtain rfl : ad658 = ad660 := (by injection e660); replace hx660_0 := hc HB hx660_0; replace hx660_1 := hc HB hx660_1; replace hx660_2 := hc HB hx660_2; replace hx660_3 := hc HB hx660_3; replace p660 := eq_true p660; replace q660 := eq_true q660; obtain ⟨Z21_0, Z21_1, Z21_2, Z21_3, Z21_4, Y21_0, Y21_1, Y21_2, Y21_3, Y21_4⟩ := bq5 BK656; have p661 : 0 ≤ (x6_1 : Int) := oda; have q661 : x6_1 < (l0_1.length : Int) := oda; obtain ⟨ad661, e661, hx661_0, hx661_1, hx661_2, hx661_3, hx661_4, hx661_5, hx661_6⟩ := at_T105 HR0_1.out x6_1 p661 q661; (try rw [← Nbq16.out] at hx661_2); (try rw [← Nbq16.out] at hw661_2); cases e661; replace hx661_0 := hc HB hx661_0; replace hx661_1 := hc HB hx661_1; replace hx661_2 := hc HB hx661_2; replace hx661_3 := hc HB hx661_3; replace hx661_4 := hc HB hx661_4; replace hx661_5 := hc HB hx661_5; replace hx661_6 := hc HB hx661_6; replace p661 := eq_true p661; replace q661 := eq_true q661)))
                      go_ret
                      exact ⟨er, bl HB⟩
                  · rw [if_neg c15] at H
                    exact absurd H (by simp)
                · rw [if_neg c14] at H
                  have c14b0 : (((rd_T50 l1 x6_1).f0) == 0) = false := beq_eq_false_iff_ne.mpr c14
                  have c14b1 : (((rd_T50 l1 x6_1).f0) != 0) = true := bne_iff_ne.mpr c14
                  by_cases c22 : x6_1 < (l0_1.length : Int)
                  · rw [if_pos c22] at H
                    have c22b0 : decide (x6_1 < (l0_1.length : Int)) = true := decide_eq_true c22
                    clear c22
                    by_cases c23 : ((rd_T50 l1 x6_1).f0) = ((rd_T105 l0_1 x6_1).f1)
                    · rw [if_pos c23] at H
                      have c23b0 : (((rd_T50 l1 x6_1).f0) == ((rd_T105 l0_1 x6_1).f1)) = true := beq_iff_eq.mpr c23
                      have c23b1 : (((rd_T50 l1 x6_1).f0) != ((rd_T105 l0_1 x6_1).f1)) = false := bne_eq_false_iff_eq.mpr c23
                      clear c23
                      have H' := am H
                      clear H
                      have p658 : 0 ≤ (x6_1 : Int) := oda
                      have q658 : x6_1 < (l1.length : Int) := oda
                      obtain ⟨ad658, e658, hx658_0, hx658_1, hx658_2, hx658_3⟩ := at_T50 HR1.out x6_1 p658 q658
                      cases e658
                      replace hx658_0 := hc HB hx658_0
                      replace hx658_1 := hc HB hx658_1
                      replace hx658_2 := hc HB hx658_2
                      replace hx658_3 := hc HB hx658_3
                      replace p658 := eq_true p658
                      replace q658 := eq_true q658
                      go_wp2_with (first | (go_at_call 69; (with_reducible refine (vellumref01_Check.calls k1 ((rd_T50 l1 x6_1).f0) ((rd_T50 l1 x6_1).f1) ((rd_T50 l1 x6_1).f2) ((rd_T50 l1 x6_1).f3) t659 _ (Glob.below HG.out (bl HB)) A12.out).mono ?_); rintro e w24 ⟨rfl, hb⟩; replace BK656 := kb BK656 hb; replace HB := sb HB hb; (try clear hb); (try clear hb2 hk hi); have p660 : 0 ≤ (x6_1 : Int) := oda; have q660 : x6_1 < (l1.length : Int) := oda; obtain ⟨ad660, e660, hx660_0, hx660_1, hx660_2, hx660_3⟩ := at_T50 HR1.out x6_1 p660 q660; obtain rfl : ad658 = ad660 := (by injection e660); replace hx660_0 := hc HB hx660_0; replace hx660_1 := hc HB hx660_1; replace hx660_2 := hc HB hx660_2; replace hx660_3 := hc HB hx660_3; replace p660 := eq_true p660; replace q660 := eq_true q660; have p662 : 0 ≤ (x6_1 : Int) := oda; have q662 : x6_1 < (l1.length : Int) := oda; obtain ⟨ad662, e662, hx662_0, hx662_1, hx662_2, hx662_3⟩ := at_T50 HR1.out x6_1 p662 q662; obtain rfl : ad658 = ad662 := (by injection e662); replace hx662_0 := hc HB hx662_0; replace hx662_1 := hc HB hx662_1; replace hx662_2 := hc HB hx662_2; replace hx662_3 := hc HB hx662_3; replace p662 := eq_true p662; replace q662 := eq_true q662; obtain ⟨Z25_0, Z25_1, Z25_2, Z25_3, Z25_4, Y25_0, Y25_1, Y25_2, Y25_3, Y25_4⟩ := bq5 BK656; have p663 : 0 ≤ (x6_1 : Int) := oda; have q663 : x6_1 < (l0_1.length : Int) := oda; obtain ⟨ad663, e663, hx663_0, hx663_1, hx663_2, hx663_3, hx663_4, hx663_5, hx663_6⟩ := at_T105 HR0_1.out x6_1 p663 q663; cases e663; replace hx663_0 := hc HB hx663_0; replace hx663_1 := hc HB hx663_1; replace hx663_2 := hc HB hx663_2; replace hx663_3 := hc HB hx663_3; replace hx663_4 := hc HB hx663_4; replace hx663_5 := hc HB hx663_5; replace hx663_6 := hc HB hx663_6; replace p663 := eq_true p663; replace q663 := eq_true q663))
                      repeat (go_quiet (fail); try go_wp2_with (first | (go_at_call 69; (with_reducible refine (vellumref01_Check.calls k1 ((rd_T50 l1 x6_1).f0) ((rd_T50 l1 x6_1).f1) ((rd_T50 l1 x6_1).f2) ((rd_T50 l1 x6_1).f3) t659 _ (Glob.below HG.out (bl HB)) A12.out).mono ?_); rintro e w24 ⟨rfl, hb⟩; replace BK656 := kb BK656 hb; replace HB := sb HB hb; (try clear hb); (try clear hb2 hk hi); have p660 : 0 ≤ (x6_1 : Int) := oda; have q660 : x6_1 < (l1.length : Int) := oda; obtain ⟨ad660, e660, hx660_0, hx660_1, hx660_2, hx660_3⟩ := at_T50 HR1.out x6_1 p660 q660; obtain rfl : ad658 = ad660 := (by injection e660); replace hx660_0 := hc HB hx660_0; replace hx660_1 := hc HB hx660_1; replace hx660_2 := hc HB hx660_2; replace hx660_3 := hc HB hx660_3; replace p660 := eq_true p660; replace q660 := eq_true q660; have p662 : 0 ≤ (x6_1 : Int) := oda; have q662 : x6_1 < (l1.length : Int) := oda; obtain ⟨ad662, e662, hx662_0, hx662_1, hx662_2, hx662_3⟩ := at_T50 HR1.out x6_1 p662 q662; obtain rfl : ad658 = ad662 := (by injection e662); replace hx662_0 := hc HB hx662_0; replace hx662_1 := hc HB hx662_1; replace hx662_2 := hc HB hx662_2; replace hx662_3 := hc HB hx662_3; replace p662 := eq_true p662; replace q662 := eq_true q662; obtain ⟨Z25_0, Z25_1, Z25_2, Z25_3, Z25_4, Y25_0, Y25_1, Y25_2, Y25_3, Y25_4⟩ := bq5 BK656; have p663 : 0 ≤ (x6_1 : Int) := oda; have q663 : x6_1 < (l0_1.length : Int) := oda; obtain ⟨ad663, e663, hx663_0, hx663_1, hx663_2, hx663_3, hx663_4, hx663_5, hx663_6⟩ := at_T105 HR0_1.out x6_1 p663 q663; cases e663; replace hx663_0 := hc HB hx663_0; replace hx663_1 := hc HB hx663_1; replace hx663_2 := hc HB hx663_2; replace hx663_3 := hc HB hx663_3; replace hx663_4 := hc HB hx663_4; replace hx663_5 := hc HB hx663_5; replace hx663_6 := hc HB hx663_6; replace p663 := eq_true p663; replace q663 := eq_true q663)))
                      go_roundg k1
                      case measure => have := HK1.out; omega
                      case rel => exact ⟨(wrap64 (x6_1 + 1)), eb, H', ⟨by have := HK1.out; omega⟩, ⟨bk BK656⟩, ⟨bl HB⟩⟩
                    · rw [if_neg c23] at H
                      have c23b0 : (((rd_T50 l1 x6_1).f0) == ((rd_T105 l0_1 x6_1).f1)) = false := beq_eq_false_iff_ne.mpr c23
                      have c23b1 : (((rd_T50 l1 x6_1).f0) != ((rd_T105 l0_1 x6_1).f1)) = true := bne_iff_ne.mpr c23
                      obtain rfl := Option.some.inj H
                      have p658 : 0 ≤ (x6_1 : Int) := oda
                      have q658 : x6_1 < (l1.length : Int) := oda
                      obtain ⟨ad658, e658, hx658_0, hx658_1, hx658_2, hx658_3⟩ := at_T50 HR1.out x6_1 p658 q658
                      cases e658
                      replace hx658_0 := hc HB hx658_0
                      replace hx658_1 := hc HB hx658_1
                      replace hx658_2 := hc HB hx658_2
                      replace hx658_3 := hc HB hx658_3
                      replace p658 := eq_true p658
                      replace q658 := eq_true q658
                      go_wp2_with (first | (go_at_call 69; (with_reducible refine (vellumref01_Check.calls k1 ((rd_T50 l1 x6_1).f0) ((rd_T50 l1 x6_1).f1) ((rd_T50 l1 x6_1).f2) ((rd_T50 l1 x6_1).f3) t659 _ (Glob.below HG.out (bl HB)) A12.out).mono ?_); rintro e w26 ⟨rfl, hb⟩; replace BK656 := kb BK656 hb; replace HB := sb HB hb; (try clear hb); (try clear hb2 hk hi); have p660 : 0 ≤ (x6_1 : Int) := oda; have q660 : x6_1 < (l1.length : Int) := oda; obtain ⟨ad660, e660, hx660_0, hx660_1, hx660_2, hx660_3⟩ := at_T50 HR1.out x6_1 p660 q660; obtain rfl : ad658 = ad660 := (by injection e660); replace hx660_0 := hc HB hx660_0; replace hx660_1 := hc HB hx660_1; replace hx660_2 := hc HB hx660_2; replace hx660_3 := hc HB hx660_3; replace p660 := eq_true p660; replace q660 := eq_true q660; have p662 : 0 ≤ (x6_1 : Int) := oda; have q662 : x6_1 < (l1.length : Int) := oda; obtain ⟨ad662, e662, hx662_0, hx662_1, hx662_2, hx662_3⟩ := at_T50 HR1.out x6_1 p662 q662; obtain rfl : ad658 = ad662 := (by injection e662); replace hx662_0 := hc HB hx662_0; replace hx662_1 := hc HB hx662_1; replace hx662_2 := hc HB hx662_2; replace hx662_3 := hc HB hx662_3; replace p662 := eq_true p662; replace q662 := eq_true q662; obtain ⟨Z27_0, Z27_1, Z27_2, Z27_3, Z27_4, Y27_0, Y27_1, Y27_2, Y27_3, Y27_4⟩ := bq5 BK656; have p663 : 0 ≤ (x6_1 : Int) := oda; have q663 : x6_1 < (l0_1.length : Int) := oda; obtain ⟨ad663, e663, hx663_0, hx663_1, hx663_2, hx663_3, hx663_4, hx663_5, hx663_6⟩ := at_T105 HR0_1.out x6_1 p663 q663; cases e663; replace hx663_0 := hc HB hx663_0; replace hx663_1 := hc HB hx663_1; replace hx663_2 := hc HB hx663_2; replace hx663_3 := hc HB hx663_3; replace hx663_4 := hc HB hx663_4; replace hx663_5 := hc HB hx663_5; replace hx663_6 := hc HB hx663_6; replace p663 := eq_true p663; replace q663 := eq_true q663))
                      repeat (go_quiet (fail); try go_wp2_with (first | (go_at_call 69; (with_reducible refine (vellumref01_Check.calls k1 ((rd_T50 l1 x6_1).f0) ((rd_T50 l1 x6_1).f1) ((rd_T50 l1 x6_1).f2) ((rd_T50 l1 x6_1).f3) t659 _ (Glob.below HG.out (bl HB)) A12.out).mono ?_); rintro e w26 ⟨rfl, hb⟩; replace BK656 := kb BK656 hb; replace HB := sb HB hb; (try clear hb); (try clear hb2 hk hi); have p660 : 0 ≤ (x6_1 : Int) := oda; have q660 : x6_1 < (l1.length : Int) := oda; obtain ⟨ad660, e660, hx660_0, hx660_1, hx660_2, hx660_3⟩ := at_T50 HR1.out x6_1 p660 q660; obtain rfl : ad658 = ad660 := (by injection e660); replace hx660_0 := hc HB hx660_0; replace hx660_1 := hc HB hx660_1; replace hx660_2 := hc HB hx660_2; replace hx660_3 := hc HB hx660_3; replace p660 := eq_true p660; replace q660 := eq_true q660; have p662 : 0 ≤ (x6_1 : Int) := oda; have q662 : x6_1 < (l1.length : Int) := oda; obtain ⟨ad662, e662, hx662_0, hx662_1, hx662_2, hx662_3⟩ := at_T50 HR1.out x6_1 p662 q662; obtain rfl : ad658 = ad662 := (by injection e662); replace hx662_0 := hc HB hx662_0; replace hx662_1 := hc HB hx662_1; replace hx662_2 := hc HB hx662_2; replace hx662_3 := hc HB hx662_3; replace p662 := eq_true p662; replace q662 := eq_true q662; obtain ⟨Z27_0, Z27_1, Z27_2, Z27_3, Z27_4, Y27_0, Y27_1, Y27_2, Y27_3, Y27_4⟩ := bq5 BK656; have p663 : 0 ≤ (x6_1 : Int) := oda; have q663 : x6_1 < (l0_1.length : Int) := oda; obtain ⟨ad663, e663, hx663_0, hx663_1, hx663_2, hx663_3, hx663_4, hx663_5, hx663_6⟩ := at_T105 HR0_1.out x6_1 p663 q663; cases e663; replace hx663_0 := hc HB hx663_0; replace hx663_1 := hc HB hx663_1; replace hx663_2 := hc HB hx663_2; replace hx663_3 := hc HB hx663_3; replace hx663_4 := hc HB hx663_4; replace hx663_5 := hc HB hx663_5; replace hx663_6 := hc HB hx663_6; replace p663 := eq_true p663; replace q663 := eq_true q663)))
                      go_ret
                      exact ⟨er, bl HB⟩
                  · rw [if_neg c22] at H
                    exact absurd H (by simp)
              · rw [if_neg c13] at H
                have c13b0 : (t659 == 0) = false := beq_eq_false_iff_ne.mpr c13
                have c13b1 : (t659 != 0) = true := bne_iff_ne.mpr c13
                obtain rfl := Option.some.inj H
                have p658 : 0 ≤ (x6_1 : Int) := oda
                have q658 : x6_1 < (l1.length : Int) := oda
                obtain ⟨ad658, e658, hx658_0, hx658_1, hx658_2, hx658_3⟩ := at_T50 HR1.out x6_1 p658 q658
                cases e658
                replace hx658_0 := hc HB hx658_0
                replace hx658_1 := hc HB hx658_1
                replace hx658_2 := hc HB hx658_2
                replace hx658_3 := hc HB hx658_3
                replace p658 := eq_true p658
                replace q658 := eq_true q658
                go_wp2_with (first | (go_at_call 69; (with_reducible refine (vellumref01_Check.calls k1 ((rd_T50 l1 x6_1).f0) ((rd_T50 l1 x6_1).f1) ((rd_T50 l1 x6_1).f2) ((rd_T50 l1 x6_1).f3) t659 _ (Glob.below HG.out (bl HB)) A12.out).mono ?_); rintro e w28 ⟨rfl, hb⟩; replace BK656 := kb BK656 hb; replace HB := sb HB hb; (try clear hb); (try clear hb2 hk hi)))
                repeat (go_quiet (fail); try go_wp2_with (first | (go_at_call 69; (with_reducible refine (vellumref01_Check.calls k1 ((rd_T50 l1 x6_1).f0) ((rd_T50 l1 x6_1).f1) ((rd_T50 l1 x6_1).f2) ((rd_T50 l1 x6_1).f3) t659 _ (Glob.below HG.out (bl HB)) A12.out).mono ?_); rintro e w28 ⟨rfl, hb⟩; replace BK656 := kb BK656 hb; replace HB := sb HB hb; (try clear hb); (try clear hb2 hk hi))))
                go_ret
                exact ⟨er, bl HB⟩
            · rw [if_neg c11] at H
              exact absurd H (by simp)
          · rw [if_neg c10] at H
            have c10b0 : decide (x6_1 < (l1.length : Int)) = false := decide_eq_false c10
            clear c10
            obtain rfl := Option.some.inj H
            go_wp2
            repeat (go_quiet (fail); try go_wp2)
            go_ret
            exact ⟨er, bl HB⟩
    · rw [if_neg c5] at H
      have c5b0 : ((l1.length : Int) == (l0_1.length : Int)) = false := beq_eq_false_iff_ne.mpr c5
      have c5b1 : ((l1.length : Int) != (l0_1.length : Int)) = true := bne_iff_ne.mpr c5
      have c5b2 : (l1.length == l0_1.length) = false := by first | simpa using c5 | (simp at c5 ⊢; omega)
      obtain rfl := Option.some.inj H
      go_enter Tryd.func85, Tryd.ntmps85
      go_wp2_with (first | ((with_reducible refine gate_dst (N := 2) rfl ?_); refine box_event rfl (N := 2) rfl (cs := #[.string a0_0, .slice A0_1 l0_1.length c0_1, .slice A0_2 l0_2.length c0_2, .slice A0_3 l0_3.length c0_3, .slice A0_4 l0_4.length c0_4]) (t := 65) gs ?_; intro gb656 hg w29 hbox hb; have BK656 := am (hbox); have GW656 := gw hg HB; have GE656 := gw hg HB; replace HB := sb HB hb; clear hb hbox hg; obtain ⟨Z30_0, Z30_1, Z30_2, Z30_3, Z30_4, Y30_0, Y30_1, Y30_2, Y30_3, Y30_4⟩ := bq5 BK656) | (go_at_call 93; (with_reducible refine (vellumref03_Check.calls k a0_0 _ _ l0_1 _ _ l0_2 _ _ l0_3 _ _ l0_4 t657 _ (Kd.cb HR0_1 HB) HC0_1.out (Kd.cb HR0_2 HB) HC0_2.out (Kd.cb HR0_3 HB) HC0_3.out (Kd.cb HR0_4 HB) HC0_4.out (Glob.below HG.out (bl HB)) A3.out).mono ?_); rintro e w31 ⟨rfl, hb⟩; replace BK656 := kb BK656 hb; replace HB := sb HB hb; (try clear hb); (try clear hb2 hk hi); obtain ⟨Z32_0, Z32_1, Z32_2, Z32_3, Z32_4, Y32_0, Y32_1, Y32_2, Y32_3, Y32_4⟩ := bq5 BK656))
      repeat (go_quiet (fail); try go_wp2_with (first | ((with_reducible refine gate_dst (N := 2) rfl ?_); refine box_event rfl (N := 2) rfl (cs := #[.string a0_0, .slice A0_1 l0_1.length c0_1, .slice A0_2 l0_2.length c0_2, .slice A0_3 l0_3.length c0_3, .slice A0_4 l0_4.length c0_4]) (t := 65) gs ?_; intro gb656 hg w29 hbox hb; have BK656 := am (hbox); have GW656 := gw hg HB; have GE656 := gw hg HB; replace HB := sb HB hb; clear hb hbox hg; obtain ⟨Z30_0, Z30_1, Z30_2, Z30_3, Z30_4, Y30_0, Y30_1, Y30_2, Y30_3, Y30_4⟩ := bq5 BK656) | (go_at_call 93; (with_reducible refine (vellumref03_Check.calls k a0_0 _ _ l0_1 _ _ l0_2 _ _ l0_3 _ _ l0_4 t657 _ (Kd.cb HR0_1 HB) HC0_1.out (Kd.cb HR0_2 HB) HC0_2.out (Kd.cb HR0_3 HB) HC0_3.out (Kd.cb HR0_4 HB) HC0_4.out (Glob.below HG.out (bl HB)) A3.out).mono ?_); rintro e w31 ⟨rfl, hb⟩; replace BK656 := kb BK656 hb; replace HB := sb HB hb; (try clear hb); (try clear hb2 hk hi); obtain ⟨Z32_0, Z32_1, Z32_2, Z32_3, Z32_4, Y32_0, Y32_1, Y32_2, Y32_3, Y32_4⟩ := bq5 BK656)))
      go_ret
      exact ⟨er, bl HB⟩
  · rw [if_neg c4] at H
    have c4b0 : (t657 == 0) = false := beq_eq_false_iff_ne.mpr c4
    have c4b1 : (t657 != 0) = true := bne_iff_ne.mpr c4
    obtain rfl := Option.some.inj H
    go_enter Tryd.func85, Tryd.ntmps85
    go_wp2_with (first | ((with_reducible refine gate_dst (N := 2) rfl ?_); refine box_event rfl (N := 2) rfl (cs := #[.string a0_0, .slice A0_1 l0_1.length c0_1, .slice A0_2 l0_2.length c0_2, .slice A0_3 l0_3.length c0_3, .slice A0_4 l0_4.length c0_4]) (t := 65) gs ?_; intro gb656 hg w33 hbox hb; have BK656 := am (hbox); have GW656 := gw hg HB; have GE656 := gw hg HB; replace HB := sb HB hb; clear hb hbox hg; obtain ⟨Z34_0, Z34_1, Z34_2, Z34_3, Z34_4, Y34_0, Y34_1, Y34_2, Y34_3, Y34_4⟩ := bq5 BK656) | (go_at_call 93; (with_reducible refine (vellumref03_Check.calls k a0_0 _ _ l0_1 _ _ l0_2 _ _ l0_3 _ _ l0_4 t657 _ (Kd.cb HR0_1 HB) HC0_1.out (Kd.cb HR0_2 HB) HC0_2.out (Kd.cb HR0_3 HB) HC0_3.out (Kd.cb HR0_4 HB) HC0_4.out (Glob.below HG.out (bl HB)) A3.out).mono ?_); rintro e w35 ⟨rfl, hb⟩; replace BK656 := kb BK656 hb; replace HB := sb HB hb; (try clear hb); (try clear hb2 hk hi)))
    repeat (go_quiet (fail); try go_wp2_with (first | ((with_reducible refine gate_dst (N := 2) rfl ?_); refine box_event rfl (N := 2) rfl (cs := #[.string a0_0, .slice A0_1 l0_1.length c0_1, .slice A0_2 l0_2.length c0_2, .slice A0_3 l0_3.length c0_3, .slice A0_4 l0_4.length c0_4]) (t := 65) gs ?_; intro gb656 hg w33 hbox hb; have BK656 := am (hbox); have GW656 := gw hg HB; have GE656 := gw hg HB; replace HB := sb HB hb; clear hb hbox hg; obtain ⟨Z34_0, Z34_1, Z34_2, Z34_3, Z34_4, Y34_0, Y34_1, Y34_2, Y34_3, Y34_4⟩ := bq5 BK656) | (go_at_call 93; (with_reducible refine (vellumref03_Check.calls k a0_0 _ _ l0_1 _ _ l0_2 _ _ l0_3 _ _ l0_4 t657 _ (Kd.cb HR0_1 HB) HC0_1.out (Kd.cb HR0_2 HB) HC0_2.out (Kd.cb HR0_3 HB) HC0_3.out (Kd.cb HR0_4 HB) HC0_4.out (Glob.below HG.out (bl HB)) A3.out).mono ?_); rintro e w35 ⟨rfl, hb⟩; replace BK656 := kb BK656 hb; replace HB := sb HB hb; (try clear hb); (try clear hb2 hk hi))))
    go_ret
    exact ⟨er, bl HB⟩
def vellumref04_pair.f (a0_0 : Int) (a0_1 : Int) (a0_2 : Nat) (a0_3 : ByteArray) : Option (Int) := if a0_0 = 0 then (some 0) else (if a0_0 = 1 then (if a0_1 = 1 then (some 2) else (some 1)) else (some 1))
set_option maxHeartbeats 8000000 in
set_option maxRecDepth 100000 in
theorem vellumref04_pair.calls (a0_0 : Int) (a0_1 : Int) (a0_2 : Nat) (a0_3 : ByteArray) (r : Int) (w : World) (h : vellumref04_pair.f a0_0 a0_1 a0_2 a0_3 = some r) :
    Calls Tryd.prog 121 #[.agg #[.int .i64 a0_0, .int .i64 a0_1, .float .f64 a0_2, .string a0_3]] w fun e w' => e = .returned (.int .u8 r) ∧ Below w.heap.size w w' := by
  have hu50 := Tryd.underlying50
  have HB := am (Below.refl w.heap.size w)
  have H : (if a0_0 = 0 then (some 0) else (if a0_0 = 1 then (if a0_1 = 1 then (some 2) else (some 1)) else (some 1))) = some r := h
  clear h
  by_cases c2 : a0_0 = 0
  · rw [if_pos c2] at H
    have c2b0 : (a0_0 == 0) = true := beq_iff_eq.mpr c2
    have c2b1 : (a0_0 != 0) = false := bne_eq_false_iff_eq.mpr c2
    clear c2
    obtain rfl := Option.some.inj H
    go_enter Tryd.func121, Tryd.ntmps121
    go_wp2_with (first | ((with_reducible refine gate_dst (N := 1) rfl ?_); refine box_event rfl (N := 1) rfl (cs := #[.int .i64 a0_0, .int .i64 a0_1, .float .f64 a0_2, .string a0_3]) (t := 50) gs ?_; intro gb664 hg w3 hbox hb; have BK664 := am (hbox); have GW664 := gw hg HB; have GE664 := gw hg HB; replace HB := sb HB hb; clear hb hbox hg; obtain ⟨Z4_0, Z4_1, Z4_2, Z4_3, Y4_0, Y4_1, Y4_2, Y4_3⟩ := bq4 BK664))
    go_ret
    exact ⟨er, bl HB⟩
  · rw [if_neg c2] at H
    have c2b0 : (a0_0 == 0) = false := beq_eq_false_iff_ne.mpr c2
    have c2b1 : (a0_0 != 0) = true := bne_iff_ne.mpr c2
    by_cases c5 : a0_0 = 1
    · rw [if_pos c5] at H
      have c5b0 : (a0_0 == 1) = true := beq_iff_eq.mpr c5
      have c5b1 : (a0_0 != 1) = false := bne_eq_false_iff_eq.mpr c5
      clear c5
      by_cases c6 : a0_1 = 1
      · rw [if_pos c6] at H
        have c6b0 : (a0_1 == 1) = true := beq_iff_eq.mpr c6
        have c6b1 : (a0_1 != 1) = false := bne_eq_false_iff_eq.mpr c6
        clear c6
        obtain rfl := Option.some.inj H
        go_enter Tryd.func121, Tryd.ntmps121
        go_wp2_with (first | ((with_reducible refine gate_dst (N := 1) rfl ?_); refine box_event rfl (N := 1) rfl (cs := #[.int .i64 a0_0, .int .i64 a0_1, .float .f64 a0_2, .string a0_3]) (t := 50) gs ?_; intro gb664 hg w7 hbox hb; have BK664 := am (hbox); have GW664 := gw hg HB; have GE664 := gw hg HB; replace HB := sb HB hb; clear hb hbox hg; obtain ⟨Z8_0, Z8_1, Z8_2, Z8_3, Y8_0, Y8_1, Y8_2, Y8_3⟩ := bq4 BK664))
        go_ret
        exact ⟨er, bl HB⟩
      · rw [if_neg c6] at H
        have c6b0 : (a0_1 == 1) = false := beq_eq_false_iff_ne.mpr c6
        have c6b1 : (a0_1 != 1) = true := bne_iff_ne.mpr c6
        obtain rfl := Option.some.inj H
        go_enter Tryd.func121, Tryd.ntmps121
        go_wp2_with (first | ((with_reducible refine gate_dst (N := 1) rfl ?_); refine box_event rfl (N := 1) rfl (cs := #[.int .i64 a0_0, .int .i64 a0_1, .float .f64 a0_2, .string a0_3]) (t := 50) gs ?_; intro gb664 hg w9 hbox hb; have BK664 := am (hbox); have GW664 := gw hg HB; have GE664 := gw hg HB; replace HB := sb HB hb; clear hb hbox hg; obtain ⟨Z10_0, Z10_1, Z10_2, Z10_3, Y10_0, Y10_1, Y10_2, Y10_3⟩ := bq4 BK664))
        go_ret
        exact ⟨er, bl HB⟩
    · rw [if_neg c5] at H
      have c5b0 : (a0_0 == 1) = false := beq_eq_false_iff_ne.mpr c5
      have c5b1 : (a0_0 != 1) = true := bne_iff_ne.mpr c5
      obtain rfl := Option.some.inj H
      go_enter Tryd.func121, Tryd.ntmps121
      go_wp2_with (first | ((with_reducible refine gate_dst (N := 1) rfl ?_); refine box_event rfl (N := 1) rfl (cs := #[.int .i64 a0_0, .int .i64 a0_1, .float .f64 a0_2, .string a0_3]) (t := 50) gs ?_; intro gb664 hg w11 hbox hb; have BK664 := am (hbox); have GW664 := gw hg HB; have GE664 := gw hg HB; replace HB := sb HB hb; clear hb hbox hg; obtain ⟨Z12_0, Z12_1, Z12_2, Z12_3, Y12_0, Y12_1, Y12_2, Y12_3⟩ := bq4 BK664))
      go_ret
      exact ⟨er, bl HB⟩
def vellumref04_varint.l0 : Nat → Int → List Int → Option (List Int)
  | 0, _, _ => none
  | k + 1, x0, x3 => if x0 > 127 then (if x3.length < 140737488355328 then (vellumref04_varint.l0 k (x0 / 128) (x3 ++ [(Go.bits .or .u64 (Go.bits .and .u64 x0 127) 128) % 256])) else (none)) else (if x3.length < 140737488355328 then (some (x3 ++ [(x0) % 256])) else (none))
def vellumref04_varint.f (k : Nat) (a0 : Int) : Option (List Int) := vellumref04_varint.l0 k a0 ([] : List Int)
set_option maxHeartbeats 8000000 in
set_option maxRecDepth 100000 in
theorem vellumref04_varint.calls (k : Nat) (a0 : Int) (r : List Int) (w : World) (h : vellumref04_varint.f k a0 = some r) :
    Calls Tryd.prog 90 #[.int .u64 a0] w fun e w' => ∃ v0_ : Value, e = .returned (v0_) ∧ Kd.R (Kd.int .u8) 5 w' w.heap.size (fun _ => True) v0_ r ∧ Below w.heap.size w w' := by
  have HB := am (Below.refl w.heap.size w)
  have H : (vellumref04_varint.l0 k a0 ([] : List Int)) = some r := h
  clear h
  have H' := am H
  clear H
  go_enter Tryd.func90, Tryd.ntmps90
  go_wp2
  go_loopg [0, 3] k (fun kq v0 v3 w' => ∃ (x0_1 : Int) (x3_1 : List Int), v0 = .int .u64 x0_1 ∧ Aside0 (vellumref04_varint.l0 kq x0_1 x3_1 = some r) ∧ Aside0 (kq ≤ k) ∧ Aside0 (Kd.R (Kd.int .u8) 5 w' w.heap.size (fun _ => True) v3 x3_1) ∧ Aside0 (Below w.heap.size w w'))
  case atStart => exact ⟨(a0), (([] : List Int)), eb, H', ⟨Nat.le_refl _⟩, ⟨by first | exact Kd.R_nil _ _ _ _ _ | exact Kd.N_nil _ _ _ _ _ | exact Kd.V_nil _ _ _ _ _ | exact Kd.Q_nil _ _ _ _ _ | exact Kd.S_nil _ _ _ _ _⟩, ⟨bl HB⟩⟩
  case round =>
    clear H'
    obtain ⟨x0_1, x3_1, rfl, HA, HK1, HO_3, HB⟩ := hrel
    cases gk with
    | zero => exact absurd HA.out (by simp [vellumref04_varint.l0])
    | succ k1 =>
      have H := HA.out
      clear HA
      simp only [vellumref04_varint.l0] at H
      by_cases c2 : x0_1 > 127
      · rw [if_pos c2] at H
        have c2b0 : decide (127 < x0_1) = true := decide_eq_true c2
        clear c2
        by_cases c3 : x3_1.length < 140737488355328
        · rw [if_pos c3] at H
          have LMc3 := am c3
          clear c3
          obtain ⟨y665, hy665⟩ : ∃ y_ : List Int, y_ = (x3_1 ++ [(Go.bits .or .u64 (Go.bits .and .u64 x0_1 127) 128) % 256]) := ⟨_, rfl⟩
          replace H : (vellumref04_varint.l0 k1 (x0_1 / 128) y665) = some r := by first | (rw [hy665]; with_reducible exact H) | (have H2_ := (Option.bind_some _ _).symm.trans H; rw [hy665]; with_reducible exact H2_) | (have H2_ := (Option.bind_some _ _).symm.trans H; with_reducible exact H2_) | with_reducible exact H | (rw [hy665]; exact H) | exact H
          have Ny665 := am hy665
          clear hy665
          have H' := am H
          clear H
          go_wp2_with (first | ((with_reducible refine gate_builtin (b := .append) (xs := #[.tmp 6, .tmp 11]) rfl ?_); at_builtin; refine Kd.R_append (Kd.int .u8) (w0 := w) w.heap.size rfl (.tmp 6) (.tmp 11) 80 5 (.int .u8 0) 1 rfl Tryd.underlying80 info5 rfl (by decide) (by omega) u3 x3_1 ((Go.bits .or .u64 (Go.bits .and .u64 x0_1 127) 128) % 256) [.int .u8 ((Go.bits .or .u64 (Go.bits .and .u64 x0_1 127) 128) % 256)] (fun _ => True) (fun _ => False) rfl rfl ?aP (fun _ hk => hk.elim) ?aF ?aO ?aB ?aS ?aL ?_; (case aP => exact rfl); (case aB => exact (bl HB)); (case aF => exact (fun _ _ => trivial)); (case aO => exact (Kd.rr HO_3.out)); (case aS => exact (below_size (bl HB))); (case aL => have := LMc3.out; omega); intro v666 w4 ho hb hg hat; rw [← Ny665.out] at ho; have n0_ := am (hb); have n1_ := am (ho); clear HB; clear HO_3; have HB := n0_; have HO667 := n1_; clear n0_ n1_; clear ho hb hg hat))
          go_roundg k1
          case measure => have := HK1.out; omega
          case rel => exact ⟨(x0_1 / 128), (y665), eb, H', ⟨by have := HK1.out; omega⟩, ⟨Kd.rr HO667.out⟩, ⟨bl HB⟩⟩
        · rw [if_neg c3] at H
          exact absurd H (by simp)
      · rw [if_neg c2] at H
        have c2b0 : decide (127 < x0_1) = false := decide_eq_false c2
        clear c2
        by_cases c5 : x3_1.length < 140737488355328
        · rw [if_pos c5] at H
          have LMc5 := am c5
          clear c5
          obtain ⟨y668, hy668⟩ : ∃ y_ : List Int, y_ = (x3_1 ++ [(x0_1) % 256]) := ⟨_, rfl⟩
          replace H : (some y668) = some r := by first | (rw [hy668]; with_reducible exact H) | (have H2_ := (Option.bind_some _ _).symm.trans H; rw [hy668]; with_reducible exact H2_) | (have H2_ := (Option.bind_some _ _).symm.trans H; with_reducible exact H2_) | with_reducible exact H | (rw [hy668]; exact H) | exact H
          have Ny668 := am hy668
          clear hy668
          obtain rfl := Option.some.inj H
          go_wp2_with (first | ((with_reducible refine gate_builtin (b := .append) (xs := #[.tmp 15, .tmp 18]) rfl ?_); at_builtin; refine Kd.R_append (Kd.int .u8) (w0 := w) w.heap.size rfl (.tmp 15) (.tmp 18) 80 5 (.int .u8 0) 1 rfl Tryd.underlying80 info5 rfl (by decide) (by omega) u3 x3_1 ((x0_1) % 256) [.int .u8 ((x0_1) % 256)] (fun _ => True) (fun _ => False) rfl rfl ?aP (fun _ hk => hk.elim) ?aF ?aO ?aB ?aS ?aL ?_; (case aP => exact rfl); (case aB => exact (bl HB)); (case aF => exact (fun _ _ => trivial)); (case aO => exact (Kd.rr HO_3.out)); (case aS => exact (below_size (bl HB))); (case aL => have := LMc5.out; omega); intro v669 w6 ho hb hg hat; rw [← Ny668.out] at ho; have n0_ := am (hb); have n1_ := am (ho); clear HB; clear HO_3; have HB := n0_; have HO670 := n1_; clear n0_ n1_; clear ho hb hg hat))
          go_ret
          exact ⟨_, er, Kd.rr HO670.out, bl HB⟩
        · rw [if_neg c5] at H
          exact absurd H (by simp)
def vellumref04_zigzag.f (a0 : Int) : Option (Int) := if a0 ≥ 0 then (some (IntKind.u64.wrap ((IntKind.u64.wrap (a0)) * 2))) else (some (IntKind.u64.wrap ((IntKind.u64.wrap ((IntKind.u64.wrap (wrap64 (-(wrap64 (a0 + 1))))) * 2)) + 1)))
set_option maxHeartbeats 8000000 in
set_option maxRecDepth 100000 in
theorem vellumref04_zigzag.calls (a0 : Int) (r : Int) (w : World) (h : vellumref04_zigzag.f a0 = some r) :
    Calls Tryd.prog 160 #[.int .i64 a0] w fun e w' => e = .returned (.int .u64 r) ∧ Drawn0 w w' := by
  have H : (if a0 ≥ 0 then (some (IntKind.u64.wrap ((IntKind.u64.wrap (a0)) * 2))) else (some (IntKind.u64.wrap ((IntKind.u64.wrap ((IntKind.u64.wrap (wrap64 (-(wrap64 (a0 + 1))))) * 2)) + 1)))) = some r := h
  clear h
  by_cases c2 : a0 ≥ 0
  · rw [if_pos c2] at H
    have c2b0 : decide (0 ≤ a0) = true := decide_eq_true c2
    clear c2
    obtain rfl := Option.some.inj H
    go_enter Tryd.func160, Tryd.ntmps160
    go_wp2
    go_ret
    exact ⟨eb, by repeat (first | exact Drawn0.refl _ | apply Drawn0.step)⟩
  · rw [if_neg c2] at H
    have c2b0 : decide (0 ≤ a0) = false := decide_eq_false c2
    clear c2
    obtain rfl := Option.some.inj H
    go_enter Tryd.func160, Tryd.ntmps160
    go_wp2
    go_ret
    exact ⟨eb, by repeat (first | exact Drawn0.refl _ | apply Drawn0.step)⟩
end Go.Proofs.YtpiifdbicibelaaDoor.PA
end
section
namespace Go.Proofs.YtpiifdbicibelaaDoor.Pure
open Go.RowKit Go.Proofs Go.Proofs.YtpiifdbicibelaaDoorW.PrintWords Go.Proofs.YtpiifdbicibelaaDoorW.PrintLast Go.Proofs.YtpiifdbicibelaaDoorW.PrintMore Go.Proofs.YtpiifdbicibelaaDoor.PA Go.Proofs.YtpiifdbicibelaaDoor.OpenK
set_option linter.unusedVariables false
set_option linter.unusedSimpArgs false
theorem rd105_eq {xs : List S105} {i : Nat} (h : i < xs.length) : rd_T105 xs (i : Int) = xs[i] := by
  have := rd105_get h
  rw [List.getElem?_eq_getElem h] at this
  exact (Option.some.inj this).symm
theorem rd115_eq {xs : List S115} {i : Nat} (h : i < xs.length) : rd_T115 xs (i : Int) = xs[i] := by
  have := rd115_get h
  rw [List.getElem?_eq_getElem h] at this
  exact (Option.some.inj this).symm
theorem rd139_eq {xs : List S139} {i : Nat} (h : i < xs.length) : rd_T139 xs (i : Int) = xs[i] := by
  have := rd139_get h
  rw [List.getElem?_eq_getElem h] at this
  exact (Option.some.inj this).symm
open Classical in
theorem cols_all (n : Nat) (l : List Int) : decide (∀ j, 0 ≤ j → ∀ h : j < l.length, (0 ≤ l[j] ∧ l[j] < n) ∧ l[j] ∉ l.take j) = (l.all (fun x => decide (0 ≤ x) && decide (x < n)) && decide l.Nodup) := by
  rw [Bool.eq_iff_iff, decide_eq_true_eq, Bool.and_eq_true, List.all_eq_true, decide_eq_true_eq]
  constructor
  · intro g
    refine ⟨fun x hx => ?_, ?_⟩
    · obtain ⟨j, hj, rfl⟩ := List.getElem_of_mem hx
      have := (g j (Nat.zero_le _) hj).1
      simp; omega
    · rw [List.nodup_iff_pairwise_ne, List.pairwise_iff_getElem]
      intro i j hi hj hij e
      exact (g j (Nat.zero_le _) hj).2 (by rw [← e]; exact List.mem_take_iff_getElem.2 ⟨i, by omega, rfl⟩)
  · rintro ⟨g1, g2⟩ j _ hj
    have h1 := g1 l[j] (List.getElem_mem hj)
    simp at h1
    refine ⟨h1, fun hm => ?_⟩
    obtain ⟨i, hi, e⟩ := List.mem_take_iff_getElem.1 hm
    rw [List.nodup_iff_pairwise_ne, List.pairwise_iff_getElem] at g2
    exact g2 i j (by omega) hj (by omega) e
theorem some_ev (a : ByteArray) (c : List S105) (d : List Int) (e : List S115) (f : List S139) (l : List Int) (hl : l.length < 9223372036854775807) : Ev (fun k => vellumref03_some.f k a c d e f l) (colsOk c.length l) := by
  classical
  have inner : ∀ (i : Nat) (hlt : i < l.length) (b : Bool), Ev (fun k => vellumref03_some.l0 k l ((i + 1 : Nat) : Int) a c d e f) b → ∀ (m j : Nat), j + m = i →
      Ev (fun k => vellumref03_some.l1 k l (i : Int) (j : Int) a c d e f) (if l[i] ∈ (l.take i).drop j then false else b) := by
    intro i hlt b hb m
    induction m with
    | zero =>
      intro j hj
      obtain rfl : j = i := by omega
      rw [List.drop_of_length_le (by simp; omega), if_neg (by simp)]
      refine Ev.step (g := fun k => vellumref03_some.l0 k l ((j + 1 : Nat) : Int) a c d e f) (fun k => ?_) hb
      simp only [vellumref03_some.l1]
      rw [if_neg (by omega), wrap64_id (by omega) (by omega)]
      rfl
    | succ m ih =>
      intro j hj
      have hjl : j < l.length := by omega
      have hd : (l.take i).drop j = l[j] :: (l.take i).drop (j + 1) := by
        rw [List.drop_eq_getElem_cons (by simp; omega)]
        simp
      refine Ev.step (g := fun k => if l[j] = l[i] then some false else vellumref03_some.l1 k l (i : Int) ((j + 1 : Nat) : Int) a c d e f) (fun k => ?_) ?_
      · simp only [vellumref03_some.l1]
        rw [if_pos (by omega), if_pos (by omega), if_pos (by omega), if_pos (by omega), if_pos (by omega), rd_getI l j hjl, rd_getI l i hlt, wrap64_id (by omega) (by omega)]
        rfl
      · rw [hd]
        by_cases h : l[j] = l[i]
        · refine Ev.pos h ?_
          rw [if_pos (by rw [h]; simp)]
          exact Ev.pure
        · refine Ev.neg h ?_
          have := ih (j + 1) (by omega)
          have e2 : (l[i] ∈ l[j] :: (l.take i).drop (j + 1)) ↔ l[i] ∈ (l.take i).drop (j + 1) := by
            rw [List.mem_cons]; exact ⟨fun g => g.resolve_left (fun e => h e.symm), .inr⟩
          simp only [e2]; exact this
  have hloop : ∀ (m i : Nat), i + m = l.length → Ev (fun k => vellumref03_some.l0 k l (i : Int) a c d e f)
      (decide (∀ j, i ≤ j → ∀ h : j < l.length, (0 ≤ l[j] ∧ l[j] < c.length) ∧ l[j] ∉ l.take j)) := by
    intro m
    induction m with
    | zero =>
      intro i hi
      refine Ev.from_ 1 fun k => ?_
      simp only [vellumref03_some.l0]
      rw [if_neg (by omega)]
      congr 1
      exact (decide_eq_true (fun j h1 h2 => by omega)).symm
    | succ m ih =>
      intro i hi
      have hlt : i < l.length := by omega
      have hj2 : ∀ b : Bool, Ev (fun k => vellumref03_some.j2 k l (i : Int) b a c d e f) (if b = true then false else if l[i] ∈ l.take i then false else decide (∀ j, i + 1 ≤ j → ∀ h : j < l.length, (0 ≤ l[j] ∧ l[j] < c.length) ∧ l[j] ∉ l.take j)) := by
        intro b
        cases b
        · refine Ev.step (g := fun k => vellumref03_some.l1 k l (i : Int) ((0 : Nat) : Int) a c d e f) (fun k => ?_) ?_
          · simp only [vellumref03_some.j2]; rw [if_neg (by decide)]; rfl
          · have := inner i hlt _ (ih (i + 1) (by omega)) i 0 (by omega)
            simpa using this
        · refine Ev.from_ 1 fun k => ?_
          simp [vellumref03_some.j2]
      refine Ev.step (g := fun k => if l[i] < 0 then vellumref03_some.j2 k l (i : Int) true a c d e f else vellumref03_some.j2 k l (i : Int) (decide (l[i] ≥ (c.length : Int))) a c d e f) (fun k => ?_) ?_
      · simp only [vellumref03_some.l0]
        rw [if_pos (by omega), if_pos (by omega), rd_getI l i hlt]
      · by_cases h1 : l[i] < 0
        · refine Ev.pos h1 ?_
          rw [decide_eq_false (fun g => by have := (g i (Nat.le_refl _) hlt).1.1; omega)]
          simpa using hj2 true
        refine Ev.neg h1 ?_
        have hh := hj2 (decide (l[i] ≥ (c.length : Int)))
        by_cases h2 : l[i] ≥ (c.length : Int)
        · rw [decide_eq_false (p := ∀ j, i ≤ j → ∀ h : j < l.length, (0 ≤ l[j] ∧ l[j] < c.length) ∧ l[j] ∉ l.take j) (fun g => by have := (g i (Nat.le_refl _) hlt).1.2; omega)]
          rw [decide_eq_true h2] at hh ⊢
          simpa using hh
        rw [decide_eq_false h2] at hh ⊢
        by_cases h3 : l[i] ∈ l.take i
        · rw [decide_eq_false (p := ∀ j, i ≤ j → ∀ h : j < l.length, (0 ≤ l[j] ∧ l[j] < c.length) ∧ l[j] ∉ l.take j) (fun g => (g i (Nat.le_refl _) hlt).2 h3)]
          rw [if_neg (by decide), if_pos h3] at hh
          exact hh
        · rw [if_neg (by decide), if_neg h3] at hh
          have e2 : decide (∀ j, i + 1 ≤ j → ∀ h : j < l.length, (0 ≤ l[j] ∧ l[j] < c.length) ∧ l[j] ∉ l.take j) = decide (∀ j, i ≤ j → ∀ h : j < l.length, (0 ≤ l[j] ∧ l[j] < c.length) ∧ l[j] ∉ l.take j) := by
            rw [decide_eq_decide]
            constructor
            · intro g j h4 h5
              rcases Nat.lt_or_ge i j with h6 | h6
              · exact g j h6 h5
              · obtain rfl : j = i := by omega
                exact ⟨⟨by omega, by omega⟩, h3⟩
            · exact fun g j h4 h5 => g j (by omega) h5
          rw [← e2]; exact hh
  have hj : ∀ b : Bool, Ev (fun k => vellumref03_some.j0 k l b a c d e f) (!b && (l.all (fun x => decide (0 ≤ x) && decide (x < c.length)) && decide l.Nodup)) := by
    intro b
    cases b
    · refine Ev.step (g := fun k => vellumref03_some.l0 k l ((0 : Nat) : Int) a c d e f) (fun k => ?_) ?_
      · simp only [vellumref03_some.j0]; rw [if_neg (by decide)]; rfl
      · have := hloop l.length 0 (by omega)
        rw [cols_all] at this
        simpa using this
    · refine Ev.from_ 1 fun k => ?_
      simp [vellumref03_some.j0]
  simp only [vellumref03_some.f]
  unfold colsOk
  by_cases h1 : (l.length : Int) < 1
  · refine Ev.pos h1 ?_
    have : decide (1 ≤ l.length) = false := decide_eq_false (by omega)
    simpa [this] using hj true
  · refine Ev.neg h1 ?_
    have e1 : decide (1 ≤ l.length) = true := decide_eq_true (by omega)
    by_cases h2 : (l.length : Int) > 64
    · have e2 : decide (l.length ≤ 64) = false := decide_eq_false (by omega)
      rw [decide_eq_true h2]
      simpa [e2] using hj true
    · have e2 : decide (l.length ≤ 64) = true := decide_eq_true (by omega)
      rw [decide_eq_false h2]
      simpa [e1, e2] using hj false
theorem columns_ev (a : ByteArray) (c : List S105) (d : List Int) (e : List S115) (f : List S139) (hl : c.length < 9223372036854775807) (hw : ∀ x ∈ c, wfC x) : Ev (fun k => vellumref03_columns.f k a c d e f) (colErrs [] c) := by
  have inner : ∀ (i : Nat) (hlt : i < c.length) (b : Int), Ev (fun k => vellumref03_columns.l0 k ((i + 1 : Nat) : Int) a c d e f) b → ∀ (m j : Nat), j + m = i →
      Ev (fun k => vellumref03_columns.l1 k (i : Int) (j : Int) a c d e f c[i].f0 c[i].f1 c[i].f2 c[i].f3.f0 c[i].f3.f1 c[i].f3.f2 c[i].f3.f3)
        (if ((c.take i).drop j).any (fun x => x.f0.toList == c[i].f0.toList) = true then 31 else if colBad c[i] = true then 32 else b) := by
    intro i hlt b hb m
    have hwi := hw c[i] (List.getElem_mem hlt)
    induction m with
    | zero =>
      intro j hj
      obtain rfl : j = i := by omega
      rw [List.drop_of_length_le (by simp; omega), if_neg (by simp)]
      refine Ev.step (g := fun k => if c[j].f1 < 1 then (some 32) else (if c[j].f1 > 5 then (some 32) else ((vellumref01_Check.f k c[j].f3.f0 c[j].f3.f1 c[j].f3.f2 c[j].f3.f3).bind fun t633 => (if t633 = 0 then (if c[j].f3.f0 = c[j].f1 then (vellumref03_columns.l0 k ((j + 1 : Nat) : Int) a c d e f) else (if c[j].f3.f0 = 0 then (vellumref03_columns.l0 k ((j + 1 : Nat) : Int) a c d e f) else (some 32))) else (some 32))))) (fun k => ?_) ?_
      · simp only [vellumref03_columns.l1]
        rw [if_neg (by omega), wrap64_id (by omega) (by omega)]
        rfl
      · unfold colBad
        by_cases h1 : c[j].f1 < 1
        · refine Ev.pos h1 ?_
          rw [if_pos (by simp [h1])]; exact Ev.pure
        refine Ev.neg h1 ?_
        by_cases h2 : c[j].f1 > 5
        · refine Ev.pos h2 ?_
          rw [if_pos (by simp; omega)]; exact Ev.pure
        refine Ev.neg h2 (Ev.bind (Ev.from_ 6 fun k => check_ref k _ _ _ _ hwi.2) ?_)
        generalize chk c[j].f3.f0 c[j].f3.f1 c[j].f3.f2 c[j].f3.f3 = r
        have d1 : decide (c[j].f1 < 1) = false := decide_eq_false h1
        have d2 : decide (5 < c[j].f1) = false := decide_eq_false h2
        rw [d1, d2]
        by_cases h3 : r = 0
        · refine Ev.pos h3 ?_
          subst h3
          by_cases h4 : c[j].f3.f0 = c[j].f1
          · refine Ev.pos h4 ?_
            rw [if_neg (by simp [h4])]; exact hb
          · refine Ev.neg h4 ?_
            by_cases h5 : c[j].f3.f0 = 0
            · refine Ev.pos h5 ?_
              rw [if_neg (by simp [h5])]; exact hb
            · refine Ev.neg h5 ?_
              rw [if_pos (by simp [h4, h5])]; exact Ev.pure
        · refine Ev.neg h3 ?_
          rw [if_pos (by simp [h3])]; exact Ev.pure
    | succ m ih =>
      intro j hj
      have hjl : j < c.length := by omega
      have hd : (c.take i).drop j = c[j] :: (c.take i).drop (j + 1) := by
        rw [List.drop_eq_getElem_cons (by simp; omega)]
        simp
      refine Ev.step (g := fun k => if c[j].f0.toList = c[i].f0.toList then some 31 else vellumref03_columns.l1 k (i : Int) ((j + 1 : Nat) : Int) a c d e f c[i].f0 c[i].f1 c[i].f2 c[i].f3.f0 c[i].f3.f1 c[i].f3.f2 c[i].f3.f3) (fun k => ?_) ?_
      · simp only [vellumref03_columns.l1]
        rw [if_pos (by omega), if_pos (by omega), if_pos (by omega), rd105_eq hjl, wrap64_id (by omega) (by omega)]
        rfl
      · rw [hd]
        by_cases h : c[j].f0.toList = c[i].f0.toList
        · refine Ev.pos h ?_
          rw [if_pos (by simp [h])]
          exact Ev.pure
        · refine Ev.neg h ?_
          have := ih (j + 1) (by omega)
          have e2 : (c[j] :: (c.take i).drop (j + 1)).any (fun x => x.f0.toList == c[i].f0.toList) = ((c.take i).drop (j + 1)).any (fun x => x.f0.toList == c[i].f0.toList) := by
            rw [List.any_cons]; simp [h]
          rw [e2]; exact this
  have hloop : ∀ (m i : Nat), i + m = c.length → Ev (fun k => vellumref03_columns.l0 k (i : Int) a c d e f) (colErrs (c.take i) (c.drop i)) := by
    intro m
    induction m with
    | zero =>
      intro i hi
      rw [List.drop_of_length_le (by omega)]
      refine Ev.from_ 1 fun k => ?_
      simp only [vellumref03_columns.l0]
      rw [if_neg (by omega)]; rfl
    | succ m ih =>
      intro i hi
      have hlt : i < c.length := by omega
      have hwi := hw c[i] (List.getElem_mem hlt)
      rw [List.drop_eq_getElem_cons hlt]
      simp only [colErrs]
      refine Ev.step (g := fun k => (vellumref03_Name.f k c[i].f0).bind fun t631 => (if t631 = true then (vellumref03_columns.l1 k (i : Int) ((0 : Nat) : Int) a c d e f c[i].f0 c[i].f1 c[i].f2 c[i].f3.f0 c[i].f3.f1 c[i].f3.f2 c[i].f3.f3) else (some 30))) (fun k => ?_) (Ev.bind (name_ref _ hwi.1) ?_)
      · simp only [vellumref03_columns.l0]
        rw [if_pos (by omega), if_pos (by omega), rd105_eq hlt]
        rfl
      cases hn : nameOk c[i].f0 with
      | false => exact Ev.neg (by decide) (by rw [if_pos rfl]; exact Ev.pure)
      | true =>
        rw [if_neg (by decide)]
        refine Ev.pos rfl ?_
        have hii := ih (i + 1) (by omega)
        have ht : c.take (i + 1) = c.take i ++ [c[i]] := by rw [List.take_succ_eq_append_getElem hlt]
        rw [ht] at hii
        have := inner i hlt _ hii i 0 (by omega)
        simpa using this
  have := hloop c.length 0 (by omega)
  simpa [vellumref03_columns.f] using this
theorem indexes_ev (a : ByteArray) (c : List S105) (d : List Int) (e : List S115) (f : List S139) (hl : e.length < 9223372036854775807) (hw : ∀ x ∈ e, wfX x) : Ev (fun k => vellumref03_indexes.f k a c d e f) (idxErrs c.length [] e) := by
  have inner : ∀ (i : Nat) (hlt : i < e.length) (b : Int), Ev (fun k => vellumref03_indexes.l0 k ((i + 1 : Nat) : Int) a c d e f) b → ∀ (m j : Nat), j + m = i →
      Ev (fun k => vellumref03_indexes.l1 k (i : Int) (j : Int) a c d e f e[i].f0 e[i].f1 e[i].f2)
        (if ((e.take i).drop j).any (fun x => x.f0.toList == e[i].f0.toList) = true then 31 else if colsOk c.length e[i].f1 = false then 33 else b) := by
    intro i hlt b hb m
    have hwi := hw e[i] (List.getElem_mem hlt)
    induction m with
    | zero =>
      intro j hj
      obtain rfl : j = i := by omega
      rw [List.drop_of_length_le (by simp; omega), if_neg (by simp)]
      refine Ev.step (g := fun k => (vellumref03_some.f k a c d e f e[j].f1).bind fun t644 => (if t644 = true then (vellumref03_indexes.l0 k ((j + 1 : Nat) : Int) a c d e f) else (some 33))) (fun k => ?_) (Ev.bind (some_ev a c d e f e[j].f1 hwi.2) ?_)
      · simp only [vellumref03_indexes.l1]
        rw [if_neg (by omega), wrap64_id (by omega) (by omega)]
        rfl
      · cases hc : colsOk c.length e[j].f1 with
        | false => exact Ev.neg (by decide) (by rw [if_pos rfl]; exact Ev.pure)
        | true => exact Ev.pos rfl (by rw [if_neg (by decide)]; exact hb)
    | succ m ih =>
      intro j hj
      have hjl : j < e.length := by omega
      have hd : (e.take i).drop j = e[j] :: (e.take i).drop (j + 1) := by
        rw [List.drop_eq_getElem_cons (by simp; omega)]
        simp
      refine Ev.step (g := fun k => if e[j].f0.toList = e[i].f0.toList then some 31 else vellumref03_indexes.l1 k (i : Int) ((j + 1 : Nat) : Int) a c d e f e[i].f0 e[i].f1 e[i].f2) (fun k => ?_) ?_
      · simp only [vellumref03_indexes.l1]
        rw [if_pos (by omega), if_pos (by omega), if_pos (by omega), rd115_eq hjl, wrap64_id (by omega) (by omega)]
        rfl
      · rw [hd]
        by_cases h : e[j].f0.toList = e[i].f0.toList
        · refine Ev.pos h ?_
          rw [if_pos (by simp [h])]
          exact Ev.pure
        · refine Ev.neg h ?_
          have := ih (j + 1) (by omega)
          have e2 : (e[j] :: (e.take i).drop (j + 1)).any (fun x => x.f0.toList == e[i].f0.toList) = ((e.take i).drop (j + 1)).any (fun x => x.f0.toList == e[i].f0.toList) := by
            rw [List.any_cons]; simp [h]
          rw [e2]; exact this
  have hloop : ∀ (m i : Nat), i + m = e.length → Ev (fun k => vellumref03_indexes.l0 k (i : Int) a c d e f) (idxErrs c.length (e.take i) (e.drop i)) := by
    intro m
    induction m with
    | zero =>
      intro i hi
      rw [List.drop_of_length_le (by omega)]
      refine Ev.from_ 1 fun k => ?_
      simp only [vellumref03_indexes.l0]
      rw [if_neg (by omega)]; rfl
    | succ m ih =>
      intro i hi
      have hlt : i < e.length := by omega
      have hwi := hw e[i] (List.getElem_mem hlt)
      rw [List.drop_eq_getElem_cons hlt]
      simp only [idxErrs]
      refine Ev.step (g := fun k => (vellumref03_Name.f k e[i].f0).bind fun t642 => (if t642 = true then (vellumref03_indexes.l1 k (i : Int) ((0 : Nat) : Int) a c d e f e[i].f0 e[i].f1 e[i].f2) else (some 30))) (fun k => ?_) (Ev.bind (name_ref _ hwi.1) ?_)
      · simp only [vellumref03_indexes.l0]
        rw [if_pos (by omega), if_pos (by omega), rd115_eq hlt]
        rfl
      cases hn : nameOk e[i].f0 with
      | false => exact Ev.neg (by decide) (by rw [if_pos rfl]; exact Ev.pure)
      | true =>
        rw [if_neg (by decide)]
        refine Ev.pos rfl ?_
        have hii := ih (i + 1) (by omega)
        have ht : e.take (i + 1) = e.take i ++ [e[i]] := by rw [List.take_succ_eq_append_getElem hlt]
        rw [ht] at hii
        have := inner i hlt _ hii i 0 (by omega)
        simpa using this
  have := hloop e.length 0 (by omega)
  simpa [vellumref03_indexes.f] using this
theorem keyloop_ev (a : ByteArray) (c : List S105) (d : List Int) (e : List S115) (f : List S139) (hd : d.length < 9223372036854775807) (hk : colsOk c.length d = true) (b : Int) (hb : Ev (fun k => (vellumref03_indexes.f k a c d e f).bind fun t651 => (if t651 = 0 then (vellumref03_Check.l1 k 0 a c d e f) else (some t651))) b) :
    Ev (fun k => vellumref03_Check.l0 k 0 a c d e f) (if d.any (fun k => (rd_T105 c k).f2) = true then 33 else b) := by
  have hloop : ∀ (m i : Nat), i + m = d.length → Ev (fun k => vellumref03_Check.l0 k (i : Int) a c d e f) (if (d.drop i).any (fun k => (rd_T105 c k).f2) = true then 33 else b) := by
    intro m
    induction m with
    | zero =>
      intro i hi
      rw [List.drop_of_length_le (by omega), if_neg (by simp)]
      refine Ev.step (g := fun k => (vellumref03_indexes.f k a c d e f).bind fun t651 => (if t651 = 0 then (vellumref03_Check.l1 k 0 a c d e f) else (some t651))) (fun k => ?_) hb
      simp only [vellumref03_Check.l0]
      rw [if_neg (by omega)]
    | succ m ih =>
      intro i hi
      have hlt : i < d.length := by omega
      have hr := colsOk_mem hk (List.getElem_mem hlt)
      rw [List.drop_eq_getElem_cons hlt]
      refine Ev.step (g := fun k => if (rd_T105 c d[i]).f2 = true then some 33 else vellumref03_Check.l0 k ((i + 1 : Nat) : Int) a c d e f) (fun k => ?_) ?_
      · simp only [vellumref03_Check.l0]
        rw [if_pos (by omega), if_pos (by omega), rd_getI d i hlt, if_pos hr.1, if_pos hr.2, wrap64_id (by omega) (by omega)]
        rfl
      · cases h : (rd_T105 c d[i]).f2 with
        | true =>
          refine Ev.pos rfl ?_
          rw [if_pos (by rw [List.any_cons, h]; rfl)]
          exact Ev.pure
        | false =>
          refine Ev.neg (by decide) ?_
          have e2 : (d[i] :: d.drop (i + 1)).any (fun k => (rd_T105 c k).f2) = (d.drop (i + 1)).any (fun k => (rd_T105 c k).f2) := by rw [List.any_cons, h]; rfl
          rw [e2]
          exact ih (i + 1) (by omega)
  have := hloop d.length 0 (by omega)
  simpa using this
theorem refs_ev (a : ByteArray) (c : List S105) (d : List Int) (e : List S115) (f : List S139) (hl : f.length < 9223372036854775807) (hw : ∀ x ∈ f, wfR x) : Ev (fun k => vellumref03_Check.l1 k 0 a c d e f) (refErrs c.length f) := by
  have hloop : ∀ (m i : Nat), i + m = f.length → Ev (fun k => vellumref03_Check.l1 k (i : Int) a c d e f) (refErrs c.length (f.drop i)) := by
    intro m
    induction m with
    | zero =>
      intro i hi
      rw [List.drop_of_length_le (by omega)]
      refine Ev.from_ 1 fun k => ?_
      simp only [vellumref03_Check.l1]
      rw [if_neg (by omega)]; rfl
    | succ m ih =>
      intro i hi
      have hlt : i < f.length := by omega
      have hwi := hw f[i] (List.getElem_mem hlt)
      rw [List.drop_eq_getElem_cons hlt]
      simp only [refErrs]
      refine Ev.step (g := fun k => (vellumref03_Name.f k f[i].f1).bind fun t653 => (if t653 = true then ((vellumref03_some.f k a c d e f f[i].f0).bind fun t655 => (if t655 = true then (vellumref03_Check.l1 k ((i + 1 : Nat) : Int) a c d e f) else (some 33))) else (some 30))) (fun k => ?_) (Ev.bind (name_ref _ hwi.1) ?_)
      · simp only [vellumref03_Check.l1]
        rw [if_pos (by omega), if_pos (by omega), rd139_eq hlt, wrap64_id (by omega) (by omega)]
        rfl
      cases hn : nameOk f[i].f1 with
      | false => exact Ev.neg (by decide) (by rw [if_pos rfl]; exact Ev.pure)
      | true =>
        rw [if_neg (by decide)]
        refine Ev.pos rfl (Ev.bind (some_ev a c d e f f[i].f0 hwi.2) ?_)
        cases hc : colsOk c.length f[i].f0 with
        | false => exact Ev.neg (by decide) (by rw [if_pos rfl]; exact Ev.pure)
        | true => exact Ev.pos rfl (by rw [if_neg (by decide)]; exact ih (i + 1) (by omega))
  have := hloop f.length 0 (by omega)
  simpa using this
theorem tcheck_ev (a : ByteArray) (c : List S105) (d : List Int) (e : List S115) (f : List S139) (hw : WfT a c d e f) (hc : c.length < 9223372036854775807) (he : e.length < 9223372036854775807) (hf : f.length < 9223372036854775807) : Ev (fun k => vellumref03_Check.f k a c d e f) (checkT a c d e f) := by
  have hj : ∀ b : Bool, Ev (fun k => vellumref03_Check.j0 k b a c d e f) (if b = true then 2 else if colErrs [] c ≠ 0 then colErrs [] c else if colsOk c.length d = false then 33 else if d.any (fun k => (rd_T105 c k).f2) = true then 33 else if idxErrs c.length [] e ≠ 0 then idxErrs c.length [] e else refErrs c.length f) := by
    intro b
    cases b with
    | true =>
      refine Ev.from_ 1 fun k => ?_
      simp [vellumref03_Check.j0]
    | false =>
      refine Ev.step (g := fun k => (vellumref03_columns.f k a c d e f).bind fun t647 => (if t647 = 0 then ((vellumref03_some.f k a c d e f d).bind fun t648 => (if t648 = true then (vellumref03_Check.l0 k 0 a c d e f) else (some 33))) else (some t647))) (fun k => ?_) (Ev.bind (columns_ev a c d e f hc hw.cols) ?_)
      · simp only [vellumref03_Check.j0]; rw [if_neg (by decide)]
      rw [if_neg (by decide)]
      by_cases h1 : colErrs [] c = 0
      · rw [if_neg (by simp [h1])]
        refine Ev.pos h1 (Ev.bind (some_ev a c d e f d hw.key) ?_)
        cases hk : colsOk c.length d with
        | false => exact Ev.neg (by decide) (by rw [if_pos rfl]; exact Ev.pure)
        | true =>
          rw [if_neg (by decide)]
          refine Ev.pos rfl (keyloop_ev a c d e f hw.key hk _ (Ev.bind (indexes_ev a c d e f he hw.idx) ?_))
          by_cases h2 : idxErrs c.length [] e = 0
          · rw [if_neg (by simp [h2])]
            exact Ev.pos h2 (refs_ev a c d e f hf hw.refs)
          · rw [if_pos h2]
            exact Ev.neg h2 Ev.pure
      · rw [if_pos h1]
        exact Ev.neg h1 Ev.pure
  simp only [vellumref03_Check.f]
  unfold checkT
  refine Ev.bind (name_ref a hw.name) ?_
  cases hn : nameOk a with
  | false => exact Ev.neg (by decide) (by rw [if_pos rfl]; exact Ev.pure)
  | true =>
    rw [if_neg (by decide)]
    refine Ev.pos rfl ?_
    by_cases h1 : (c.length : Int) < 1
    · refine Ev.pos h1 ?_
      rw [if_pos (.inl (by omega))]
      simpa using hj true
    refine Ev.neg h1 ?_
    by_cases h2 : (c.length : Int) > 64
    · refine Ev.pos h2 ?_
      rw [if_pos (.inr (.inl (by omega)))]
      simpa using hj true
    refine Ev.neg h2 ?_
    by_cases h3 : (e.length : Int) > 16
    · refine Ev.pos h3 ?_
      rw [if_pos (.inr (.inr (.inl (by omega))))]
      simpa using hj true
    refine Ev.neg h3 ?_
    by_cases h4 : (f.length : Int) > 16
    · rw [decide_eq_true h4, if_pos (.inr (.inr (.inr (by omega))))]
      simpa using hj true
    · rw [decide_eq_false h4, if_neg (by omega)]
      have := hj false
      rwa [if_neg (by decide)] at this
theorem admits_ev (a : ByteArray) (c : List S105) (d : List Int) (e : List S115) (f : List S139) (row : List S50) (hw : WfT a c d e f) (hc : c.length < 9223372036854775807) (he : e.length < 9223372036854775807) (hf : f.length < 9223372036854775807) (hrow : row.length < 9223372036854775807) (hv : ∀ v ∈ row, v.f3.size ≤ 140737488351232) :
    Ev (fun k => vellumref03_Admits.f k a c d e f row) (admT a c d e f row) := by
  have hloop : row.length = c.length → ∀ (m i : Nat), i + m = row.length → Ev (fun k => vellumref03_Admits.l0 k row (i : Int) a c d e f) (admRow (c.drop i) (row.drop i)) := by
    intro hlen m
    induction m with
    | zero =>
      intro i hi
      rw [List.drop_of_length_le (l := c) (by omega)]
      refine Ev.from_ 1 fun k => ?_
      simp only [vellumref03_Admits.l0]
      rw [if_neg (by omega)]; simp [admRow]
    | succ m ih =>
      intro i hi
      have hlt : i < row.length := by omega
      have hltc : i < c.length := by omega
      have hic : (i : Int) < (c.length : Int) := by omega
      have hx : row[i]? = some row[i] := List.getElem?_eq_getElem hlt
      have hvi := hv row[i] (List.getElem_mem hlt)
      rw [List.drop_eq_getElem_cons hlt, List.drop_eq_getElem_cons hltc]
      simp only [admRow]
      have ih' := ih (i + 1) (by omega)
      refine Ev.step (g := fun k => (vellumref01_Check.f k row[i].f0 row[i].f1 row[i].f2 row[i].f3).bind fun t659 => (if t659 = 0 then (if row[i].f0 = 0 then (if (c[i].f2 = true) then (vellumref03_Admits.l0 k row ((i + 1 : Nat) : Int) a c d e f) else (some 35)) else (if row[i].f0 = c[i].f1 then (vellumref03_Admits.l0 k row ((i + 1 : Nat) : Int) a c d e f) else (some 32))) else (some t659))) (fun k => ?_) (Ev.bind (Ev.from_ 6 fun k => check_ref k _ _ _ _ hvi) ?_)
      · simp only [vellumref03_Admits.l0]
        rw [if_pos (by omega), if_pos (by omega), rd_get row i _ hx, rd105_eq hltc, if_pos hic, if_pos hic, wrap64_id (by omega) (by omega)]
        rfl
      · generalize chk row[i].f0 row[i].f1 row[i].f2 row[i].f3 = r
        by_cases h0 : r = 0
        · subst h0
          rw [if_neg (by simp)]
          refine Ev.pos rfl ?_
          by_cases h1 : row[i].f0 = 0
          · rw [if_pos h1]
            refine Ev.pos h1 ?_
            by_cases h2 : c[i].f2 = true
            · rw [if_pos h2]; exact Ev.pos h2 ih'
            · rw [if_neg h2]; exact Ev.neg h2 Ev.pure
          · rw [if_neg h1]
            refine Ev.neg h1 ?_
            by_cases h2 : row[i].f0 = c[i].f1
            · rw [if_pos h2]; exact Ev.pos h2 ih'
            · rw [if_neg h2]; exact Ev.neg h2 Ev.pure
        · rw [if_pos h0]
          exact Ev.neg h0 Ev.pure
  simp only [vellumref03_Admits.f]
  unfold admT
  refine Ev.bind (tcheck_ev a c d e f hw hc he hf) ?_
  by_cases h0 : checkT a c d e f = 0
  · rw [if_neg (by simp [h0])]
    refine Ev.pos h0 ?_
    by_cases h1 : row.length = c.length
    · rw [if_neg (by simp [h1])]
      refine Ev.pos (by omega) ?_
      have := hloop h1 row.length 0 (by omega)
      simpa using this
    · rw [if_pos h1]
      exact Ev.neg (by omega) Ev.pure
  · rw [if_pos h0]
    exact Ev.neg h0 Ev.pure
end Go.Proofs.YtpiifdbicibelaaDoor.Pure
end
section
namespace Go.Proofs.YtpiifdbicibelaaDoor.PA
open Go.RowKit Go.Proofs.YtpiifdbicibelaaDoorW.PrintWords Go.Proofs.YtpiifdbicibelaaDoorW.PrintLast Go.Proofs.YtpiifdbicibelaaDoorW.PrintMore
attribute [local go_sem] max2_int min2_int max_two min_two max_three min_three max_four min_four
set_option linter.unusedVariables false
set_option linter.unusedSimpArgs false
end Go.Proofs.YtpiifdbicibelaaDoor.PA
end
section
namespace Go.Proofs.YtpiifdbicibelaaDoor.Pure
open Go.RowKit Go.Proofs Go.Proofs.YtpiifdbicibelaaDoorW.PrintWords Go.Proofs.YtpiifdbicibelaaDoorW.PrintLast Go.Proofs.YtpiifdbicibelaaDoorW.PrintMore Go.Proofs.YtpiifdbicibelaaDoor.PA Go.Proofs.YtpiifdbicibelaaDoor.OpenK
set_option linter.unusedVariables false
/-- What may follow a text's code: nothing, or a byte below 255. -/
def Tail (r : List Int) : Prop := ∀ x l, r = x :: l → x < 255
/-- u's code is before v's, whatever follows. -/
def Bf (u v : List Int) : Prop := ∀ r s, Tail r → u ++ r < v ++ s
theorem Bf.cons {a : Int} {u v : List Int} (h : Bf u v) : Bf (a :: u) (a :: v) := fun r s hr => List.cons_lt_cons_iff.2 (Or.inr ⟨rfl, h r s hr⟩)
theorem Bf.head {a b : Int} {u v : List Int} (h : a < b) : Bf (a :: u) (b :: v) := fun r s hr => List.cons_lt_cons_iff.2 (Or.inl h)
/-- Three answers of a comparing, and what each says of the codes. -/
def Says (t : Int) (u v : List Int) : Prop := (t = -1 ∧ Bf u v) ∨ (t = 1 ∧ Bf v u) ∨ (t = 0 ∧ u = v)
theorem Says.cons {t a : Int} {u v : List Int} (h : Says t u v) : Says t (a :: u) (a :: v) := by
  rcases h with ⟨h1, h2⟩ | ⟨h1, h2⟩ | ⟨h1, h2⟩
  · exact Or.inl ⟨h1, h2.cons⟩
  · exact Or.inr (Or.inl ⟨h1, h2.cons⟩)
  · exact Or.inr (Or.inr ⟨h1, by rw [h2]⟩)
def Bytes (l : List Int) : Prop := ∀ x ∈ l, 0 ≤ x ∧ x ≤ 255
theorem Bytes.cons {a : Int} {l : List Int} (h : 0 ≤ a ∧ a ≤ 255) (hl : Bytes l) : Bytes (a :: l) := by
  intro x hx
  rcases List.mem_cons.1 hx with rfl | hx
  · exact h
  · exact hl x hx
end Go.Proofs.YtpiifdbicibelaaDoor.Pure
end
section
namespace Go.Proofs.YtpiifdbicibelaaDoor.Pure
open Go.RowKit Go.Proofs Go.Proofs.YtpiifdbicibelaaDoorW.PrintWords Go.Proofs.YtpiifdbicibelaaDoorW.PrintLast Go.Proofs.YtpiifdbicibelaaDoorW.PrintMore Go.Proofs.YtpiifdbicibelaaDoor.PA Go.Proofs.YtpiifdbicibelaaDoor.OpenK
set_option linter.unusedVariables false
set_option linter.unusedSimpArgs false
theorem Bytes.drop {L : List Int} (h : Bytes L) (i : Nat) : Bytes (L.drop i) := fun x hx => h x (List.mem_of_mem_drop hx)
theorem Bytes.take {L : List Int} (h : Bytes L) (i : Nat) : Bytes (L.take i) := fun x hx => h x (List.mem_of_mem_take hx)
theorem Bytes.tail {a : Int} {L : List Int} (h : Bytes (a :: L)) : Bytes L := fun x hx => h x (by simp [hx])
theorem xor_ones (n j : Nat) (h : n < 2 ^ j) : n ^^^ (2 ^ j - 1) = 2 ^ j - 1 - n := by
  apply Nat.eq_of_testBit_eq
  intro i
  have e : 2 ^ j - 1 - n = 2 ^ j - (n + 1) := by omega
  rw [e, Nat.testBit_xor, Nat.testBit_two_pow_sub_one, Nat.testBit_two_pow_sub_succ h]
  by_cases hi : i < j
  · simp [hi]
  · have : n.testBit i = false := Nat.testBit_lt_two_pow (Nat.lt_of_lt_of_le h (Nat.pow_le_pow_right (by decide) (by omega)))
    simp [hi, this]
end Go.Proofs.YtpiifdbicibelaaDoor.Pure
end
section
namespace Go.Proofs.YtpiifdbicibelaaDoor.PA
open Go.RowKit Go.Proofs.YtpiifdbicibelaaDoorW.PrintWords Go.Proofs.YtpiifdbicibelaaDoorW.PrintLast Go.Proofs.YtpiifdbicibelaaDoorW.PrintMore
attribute [local go_sem] max2_int min2_int max_two min_two max_three min_three max_four min_four
set_option linter.unusedVariables false
set_option linter.unusedSimpArgs false
def vellumref04_told.l0 : Nat → List Int → Int → Int → Option (List Int)
  | 0, _, _, _ => none
  | k + 1, x3, x4, x5 => if x5 < 8 then (if 0 ≤ (IntKind.u64.wrap (wrap64 (8 * x5))) then (if x3.length < 140737488355328 then (vellumref04_told.l0 k (x3 ++ [(shr .u64 x4 (IntKind.u64.wrap (wrap64 (8 * x5)))) % 256]) x4 (wrap64 (x5 + 1))) else (none)) else (none)) else (some x3)
def vellumref04_told.f (k : Nat) (a0_0 : Int) (a0_1 : Int) (a0_2 : Nat) (a0_3 : ByteArray) : Option (List Int) := if a0_0 = 2 then ((vellumref04_zigzag.f a0_1).bind fun t672 => ((vellumref04_varint.f k t672).bind fun t673 => (some t673))) else (if a0_0 = 3 then (vellumref04_told.l0 k ([] : List Int) ((a0_2 : Nat) : Int) 0) else (if a0_0 = 4 then ((vellumref04_varint.f k (IntKind.u64.wrap ((a0_3.size : Int)))).bind fun t679 => (if t679.length + a0_3.size < 140737488355328 then (some (t679 ++ bytesOf a0_3)) else (none))) else (if a0_0 = 5 then ((vellumref04_varint.f k (IntKind.u64.wrap ((a0_3.size : Int)))).bind fun t685 => (if t685.length + a0_3.size < 140737488355328 then (some (t685 ++ bytesOf a0_3)) else (none))) else (some ([] : List Int)))))
def vellumref04_told.T14 : Bool × List (List Nat × List Nat) := (true, [([], []), ([0], [0]), ([1], [1]), ([2], [2]), ([3], [3]), ([], []), ([5], [5]), ([4, 6, 4], [4, 6]), ([7, 7, 0, 1, 2, 3, 4, 5, 6, 7], [7])])
def vellumref04_told.B14 : List Nat := [0, 1, 3, 7, 15, 0, 32, 127, 255]
theorem vellumref04_told.tab14 : rtab .any (opsOf Tryd.f122 14) = vellumref04_told.T14 := by kernel_rfl
theorem vellumref04_told.bits14 : waitsOk vellumref04_told.T14.2 vellumref04_told.B14 = true := by kernel_rfl
set_option maxHeartbeats 8000000 in
set_option maxRecDepth 100000 in
theorem vellumref04_told.calls (k : Nat) (a0_0 : Int) (a0_1 : Int) (a0_2 : Nat) (a0_3 : ByteArray) (r : List Int) (w : World) (h : vellumref04_told.f k a0_0 a0_1 a0_2 a0_3 = some r) :
    Calls Tryd.prog 122 #[.agg #[.int .i64 a0_0, .int .i64 a0_1, .float .f64 a0_2, .string a0_3]] w fun e w' => ∃ v0_ : Value, e = .returned (v0_) ∧ Kd.R (Kd.int .u8) 5 w' w.heap.size (fun _ => True) v0_ r ∧ Below w.heap.size w w' := by
  have hu50 := Tryd.underlying50
  have HB := am (Below.refl w.heap.size w)
  have H : (if a0_0 = 2 then ((vellumref04_zigzag.f a0_1).bind fun t672 => ((vellumref04_varint.f k t672).bind fun t673 => (some t673))) else (if a0_0 = 3 then (vellumref04_told.l0 k ([] : List Int) ((a0_2 : Nat) : Int) 0) else (if a0_0 = 4 then ((vellumref04_varint.f k (IntKind.u64.wrap ((a0_3.size : Int)))).bind fun t679 => (if t679.length + a0_3.size < 140737488355328 then (some (t679 ++ bytesOf a0_3)) else (none))) else (if a0_0 = 5 then ((vellumref04_varint.f k (IntKind.u64.wrap ((a0_3.size : Int)))).bind fun t685 => (if t685.length + a0_3.size < 140737488355328 then (some (t685 ++ bytesOf a0_3)) else (none))) else (some ([] : List Int)))))) = some r := h
  clear h
  by_cases c2 : a0_0 = 2
  · rw [if_pos c2] at H
    have c2b0 : (a0_0 == 2) = true := beq_iff_eq.mpr c2
    have c2b1 : (a0_0 != 2) = false := bne_eq_false_iff_eq.mpr c2
    clear c2
    replace H := Option.bind_eq_some_iff.mp H
    obtain ⟨t672, A30, H⟩ := H
    replace H : ((vellumref04_varint.f k t672).bind fun t673 => (some t673)) = some r := H
    have A3 := am A30
    clear A30
    replace H := Option.bind_eq_some_iff.mp H
    obtain ⟨t673, A40, H⟩ := H
    replace H : (some t673) = some r := H
    have A4 := am A40
    clear A40
    obtain rfl := Option.some.inj H
    go_enter Tryd.func122, Tryd.ntmps122
    go_wp2_with (first | ((with_reducible refine gate_dst (N := 1) rfl ?_); refine box_event rfl (N := 1) rfl (cs := #[.int .i64 a0_0, .int .i64 a0_1, .float .f64 a0_2, .string a0_3]) (t := 50) gs ?_; intro gb671 hg w5 hbox hb; have BK671 := am (hbox); have GW671 := gw hg HB; have GE671 := gw hg HB; replace HB := sb HB hb; clear hb hbox hg; obtain ⟨Z6_0, Z6_1, Z6_2, Z6_3, Y6_0, Y6_1, Y6_2, Y6_3⟩ := bq4 BK671) | ((with_reducible refine gate_callee (f := 160) rfl ?_); refine goesL_ (some 12) rfl rfl Tryd.func160 (by kernel_rfl) rfl #[.int .i64 a0_1] rfl ar ?_; (with_reducible refine (vellumref04_zigzag.calls a0_1 t672 _ A3.out).mono ?_); rintro e w' ⟨rfl, ⟨nd, rfl⟩⟩; refine ⟨_, rfl, ?_⟩) | ((with_reducible refine gate_callee (f := 90) rfl ?_); refine goesL_ (some 13) rfl rfl Tryd.func90 (by kernel_rfl) rfl #[.int .u64 t672] rfl ar ?_; (with_reducible refine (vellumref04_varint.calls k t672 t673 _ A4.out).mono ?_); rintro e w7 ⟨v674, rfl, ho0, hb⟩; refine ⟨_, rfl, ?_⟩; have n0_ := am (Kd.R_lower ho0 (below_size (bl HB))); have n1_ := kb BK671 hb; have n2_ := sb HB hb; clear BK671; clear HB; have HO675 := n0_; have BK671 := n1_; have HB := n2_; clear n0_ n1_ n2_; (try clear hb); (try clear hb2 hk hi); (try clear ho0)))
    go_ret
    exact ⟨_, er, Kd.rr HO675.out, bl HB⟩
  · rw [if_neg c2] at H
    have c2b0 : (a0_0 == 2) = false := beq_eq_false_iff_ne.mpr c2
    have c2b1 : (a0_0 != 2) = true := bne_iff_ne.mpr c2
    by_cases c8 : a0_0 = 3
    · rw [if_pos c8] at H
      have c8b0 : (a0_0 == 3) = true := beq_iff_eq.mpr c8
      have c8b1 : (a0_0 != 3) = false := bne_eq_false_iff_eq.mpr c8
      clear c8
      have H' := am H
      clear H
      go_enter Tryd.func122, Tryd.ntmps122
      go_wp2_with (first | ((with_reducible refine gate_dst (N := 1) rfl ?_); refine box_event rfl (N := 1) rfl (cs := #[.int .i64 a0_0, .int .i64 a0_1, .float .f64 a0_2, .string a0_3]) (t := 50) gs ?_; intro gb671 hg w9 hbox hb; have BK671 := am (hbox); have GW671 := gw hg HB; have GE671 := gw hg HB; replace HB := sb HB hb; clear hb hbox hg; obtain ⟨Z10_0, Z10_1, Z10_2, Z10_3, Y10_0, Y10_1, Y10_2, Y10_3⟩ := bq4 BK671))
      go_loopg [3, 5] k (fun kq v3 v5 w' => ∃ (x3_1 : List Int) (x5_1 : Int), v5 = .int .i64 x5_1 ∧ Aside0 (vellumref04_told.l0 kq x3_1 ((a0_2 : Nat) : Int) x5_1 = some r) ∧ Aside0 (kq ≤ k) ∧ Aside0 (Kd.R (Kd.int .u8) 5 w' w.heap.size (fun _ => True) v3 x3_1) ∧ Aside0 (w'.heap[gb671]? = some (.cells #[.int .i64 a0_0, .int .i64 a0_1, .float .f64 a0_2, .string a0_3] 50 (0, 0))) ∧ Aside0 (Below w.heap.size w w'))
      case atStart => exact ⟨(([] : List Int)), (0), eb, H', ⟨Nat.le_refl _⟩, ⟨by first | exact Kd.R_nil _ _ _ _ _ | exact Kd.N_nil _ _ _ _ _ | exact Kd.V_nil _ _ _ _ _ | exact Kd.Q_nil _ _ _ _ _ | exact Kd.S_nil _ _ _ _ _⟩, ⟨bk BK671⟩, ⟨bl HB⟩⟩
      case round =>
        clear H'
        try clear c1
        try clear c2
        try clear c2b0
        try clear c2b1
        try clear p2
        try clear c8
        try clear c8b0
        try clear c8b1
        try clear c9
        try clear Z10_0
        try clear Z10_1
        try clear Z10_2
        try clear Z10_3
        try clear Z6_0
        try clear Z6_1
        try clear Z6_2
        try clear Z6_3
        try clear Y10_0
        try clear Y10_1
        try clear Y10_2
        try clear Y10_3
        try clear Y6_0
        try clear Y6_1
        try clear Y6_2
        try clear Y6_3
        obtain ⟨x3_1, x5_1, rfl, HA, HK1, HO_3, BK671, HB⟩ := hrel
        cases gk with
        | zero => exact absurd HA.out (by simp [vellumref04_told.l0])
        | succ k1 =>
          have H := HA.out
          clear HA
          simp only [vellumref04_told.l0] at H
          by_cases c11 : x5_1 < 8
          · rw [if_pos c11] at H
            have c11b0 : decide (x5_1 < 8) = true := decide_eq_true c11
            clear c11
            obtain ⟨ji12, hji12⟩ : ∃ j_ : Int, (IntKind.u64.wrap (wrap64 (8 * x5_1))) = j_ := ⟨_, rfl⟩
            replace H : (if 0 ≤ (ji12) then (if x3_1.length < 140737488355328 then (vellumref04_told.l0 k1 (x3_1 ++ [(shr .u64 ((a0_2 : Nat) : Int) (ji12)) % 256]) ((a0_2 : Nat) : Int) (wrap64 (x5_1 + 1))) else (none)) else (none)) = some r := by first | (rw [hji12] at H; exact H) | (simp only [hji12] at H ⊢; exact H)
            by_cases c13 : 0 ≤ (ji12)
            · rw [if_pos c13] at H
              have c13b0 := eq_true c13
              have c13b1 : decide (0 ≤ (ji12)) = true := decide_eq_true c13
              clear c13
              obtain ⟨ji14, hji14⟩ : ∃ j_ : Int, (shr .u64 ((a0_2 : Nat) : Int) (ji12)) = j_ := ⟨_, rfl⟩
              replace H : (if x3_1.length < 140737488355328 then (vellumref04_told.l0 k1 (x3_1 ++ [(ji14) % 256]) ((a0_2 : Nat) : Int) (wrap64 (x5_1 + 1))) else (none)) = some r := by first | (rw [hji14] at H; exact H) | (simp only [hji14] at H ⊢; exact H)
              have hji14_ : (((a0_2 : Nat) : Int) / 2 ^ min (ji12).toNat 64) = ji14 := hji14
              have hji14z : (ji12) ≤ 64 → (((a0_2 : Nat) : Int) / 2 ^ (ji12).toNat) = ji14 := shr_small hji14
              by_cases c15 : x3_1.length < 140737488355328
              · rw [if_pos c15] at H
                have LMc15 := am c15
                clear c15
                obtain ⟨y676, hy676⟩ : ∃ y_ : List Int, y_ = (x3_1 ++ [(ji14) % 256]) := ⟨_, rfl⟩
                replace H : (vellumref04_told.l0 k1 y676 ((a0_2 : Nat) : Int) (wrap64 (x5_1 + 1))) = some r := by first | (rw [hy676]; with_reducible exact H) | (have H2_ := (Option.bind_some _ _).symm.trans H; rw [hy676]; with_reducible exact H2_) | (have H2_ := (Option.bind_some _ _).symm.trans H; with_reducible exact H2_) | with_reducible exact H | (rw [hy676]; exact H) | exact H
                have Ny676 := am hy676
                clear hy676
                have H' := am H
                clear H
                go_wp2_with (first | ((with_reducible refine gate_builtin (b := .append) (xs := #[.tmp 23, .tmp 30]) rfl ?_); at_builtin; refine Kd.R_append (Kd.int .u8) (w0 := w) w.heap.size rfl (.tmp 23) (.tmp 30) 80 5 (.int .u8 0) 1 rfl Tryd.underlying80 info5 rfl (by decide) (by omega) u3 x3_1 ((ji14) % 256) [.int .u8 ((ji14) % 256)] (fun _ => True) (fun _ => False) rfl rfl ?aP (fun _ hk => hk.elim) ?aF ?aO ?aB ?aS ?aL ?_; (case aP => exact rfl); (case aB => exact (bl HB)); (case aF => exact (fun _ _ => trivial)); (case aO => exact (Kd.rr HO_3.out)); (case aS => exact (below_size (bl HB))); (case aL => have := LMc15.out; omega); intro v677 w16 ho hb hg hat; rw [← Ny676.out] at ho; have n0_ := am (blk_grown (g := gb671) (o := .cells #[.int .i64 a0_0, .int .i64 a0_1, .float .f64 a0_2, .string a0_3] 50 (0, 0)) (bk BK671) hg (Kd.R_ne HO_3.out BK671.out (by decide))); have n1_ := am (hb); have n2_ := am (ho); clear BK671; clear HB; clear HO_3; have BK671 := n0_; have HB := n1_; have HO678 := n2_; clear n0_ n1_ n2_; clear ho hb hg hat))
                go_roundg k1
                case measure => have := HK1.out; omega
                case rel => exact ⟨(y676), (wrap64 (x5_1 + 1)), eb, H', ⟨by have := HK1.out; omega⟩, ⟨Kd.rr HO678.out⟩, ⟨bk BK671⟩, ⟨bl HB⟩⟩
              · rw [if_neg c15] at H
                exact absurd H (by simp)
            · rw [if_neg c13] at H
              exact absurd H (by simp)
          · rw [if_neg c11] at H
            have c11b0 : decide (x5_1 < 8) = false := decide_eq_false c11
            clear c11
            obtain rfl := Option.some.inj H
            go_wp2
            go_ret
            exact ⟨_, er, Kd.rr HO_3.out, bl HB⟩
    · rw [if_neg c8] at H
      have c8b0 : (a0_0 == 3) = false := beq_eq_false_iff_ne.mpr c8
      have c8b1 : (a0_0 != 3) = true := bne_iff_ne.mpr c8
      by_cases c17 : a0_0 = 4
      · rw [if_pos c17] at H
        have c17b0 : (a0_0 == 4) = true := beq_iff_eq.mpr c17
        have c17b1 : (a0_0 != 4) = false := bne_eq_false_iff_eq.mpr c17
        clear c17
        replace H := Option.bind_eq_some_iff.mp H
        obtain ⟨t679, A180, H⟩ := H
        replace H : (if t679.length + a0_3.size < 140737488355328 then (some (t679 ++ bytesOf a0_3)) else (none)) = some r := H
        have A18 := am A180
        clear A180
        by_cases c19 : t679.length + a0_3.size < 140737488355328
        · rw [if_pos c19] at H
          have LMc19 := am c19
          clear c19
          obtain ⟨y682, hy682⟩ : ∃ y_ : List Int, y_ = (t679 ++ bytesOf a0_3) := ⟨_, rfl⟩
          replace H : (some y682) = some r := by first | (rw [hy682]; with_reducible exact H) | (have H2_ := (Option.bind_some _ _).symm.trans H; rw [hy682]; with_reducible exact H2_) | (have H2_ := (Option.bind_some _ _).symm.trans H; with_reducible exact H2_) | with_reducible exact H | (rw [hy682]; exact H) | exact H
          have Ny682 := am hy682
          clear hy682
          obtain rfl := Option.some.inj H
          go_enter Tryd.func122, Tryd.ntmps122
          try go_wp2_with (first | ((with_reducible refine gate_dst (N := 1) rfl ?_); refine box_event rfl (N := 1) rfl (cs := #[.int .i64 a0_0, .int .i64 a0_1, .float .f64 a0_2, .string a0_3]) (t := 50) gs ?_; intro gb671 hg w20 hbox hb; have BK671 := am (hbox); have GW671 := gw hg HB; have GE671 := gw hg HB; replace HB := sb HB hb; clear hb hbox hg; obtain ⟨Z21_0, Z21_1, Z21_2, Z21_3, Y21_0, Y21_1, Y21_2, Y21_3⟩ := bq4 BK671))
          have n0_ := am (blk_drew BK671.out)
          have n1_ := am (below_drew1 HB.out)
          clear BK671
          clear HB
          have BK671 := n0_
          have HB := n1_
          clear n0_ n1_
          refine start_ (n := 9) (S := fun w' => w'.cell? ⟨gb671, 0, none⟩ = some (.int .i64 a0_0) ∧ w'.cell? ⟨gb671, 1, none⟩ = some (.int .i64 a0_1) ∧ w'.cell? ⟨gb671, 2, none⟩ = some (.float .f64 a0_2) ∧ w'.cell? ⟨gb671, 3, none⟩ = some (.string a0_3)) (ds := []) (bb 0 9) (by kernel_rfl) rfl rfl ⟨(blk_cell BK671.out 0).trans rfl, (blk_cell BK671.out 1).trans rfl, (blk_cell BK671.out 2).trans rfl, (blk_cell BK671.out 3).trans rfl⟩ (fun hHeld => ?_); refine with_tabW vellumref04_told.tab14 vellumref04_told.bits14 (fun HT_ HW_ => ?_)
          generalize w20.drew = w22 at BK671 HB hHeld ⊢
          refine pu HT_ 0 (some 36) (bb 1 9) ?_
          refine pu HT_ 5 (some 41) (bs 9 33) ?_
          refine tk HT_ HW_ hHeld 1 (some 37) (bs 9 35) ?_
          refine pu HT_ 2 (some 38) (bs 9 39) ?_
          refine pu HT_ 3 (some 39) (bs 9 47) ?_
          refine tk HT_ HW_ hHeld 6 (some 42) (bs 9 111) ?_
          refine one_ (i := 4) (N := some 40) (bb 7 9) rfl rfl (one_of HT_.out (by kernel_rfl)) (by decide) (fun K hK => ?_)
          refine goes_ Tryd.func90 (by kernel_rfl) rfl #[.int .u64 (IntKind.u64.wrap ((a0_3.size : Int)))] (by rfl) rfl rfl ar ?_
          with_reducible refine (vellumref04_varint.calls k (IntKind.u64.wrap ((a0_3.size : Int))) t679 _ A18.out).mono ?_
          rintro e w23 ⟨v680, rfl, ho0, hb⟩
          refine ⟨_, rfl, ?_⟩
          have n0_ := am (Kd.R_lower ho0 (below_size (bl HB)))
          have n1_ := kb BK671 hb
          have n2_ := sb HB hb
          clear BK671
          clear HB
          have HO681 := n0_
          have BK671 := n1_
          have HB := n2_
          clear n0_ n1_ n2_
          (try clear hb)
          (try clear hb2)
          (try clear hk)
          (try clear hi)
          (try clear ho0)
          refine hK.out _ _ ⟨(blk_cell BK671.out 0).trans rfl, (blk_cell BK671.out 1).trans rfl, (blk_cell BK671.out 2).trans rfl, (blk_cell BK671.out 3).trans rfl⟩ (fun hHeld => ?_)
          clear hK K
          refine norm_ (a' := ?_) ?_ ?_
          rotate_left
          · show Act.put _ (some 40) _ = _
            simp only [Act.put, List.setIfInBounds_toArray, List.set_cons_zero, List.set_cons_succ, i64_w, i32_w]
            rfl
          refine one_ (i := 7) (N := some 43) (bb 8 9) rfl rfl (one_of HT_.out (by kernel_rfl)) (by decide) (fun K hK => ?_)
          refine Kd.R_append_str_step (w0 := w) w.heap.size (by rfl) (.tmp 40) _ 80 9 5 rfl Tryd.underlying80 Tryd.underlying9 info5 v680 t679 a0_3 (fun _ => True) rfl rfl ?aF ?aO ?aB ?aS ?aL ?_
          (case aB => exact (bl HB))
          (case aF => exact (fun _ _ => trivial))
          (case aO => exact (Kd.rr HO681.out))
          (case aS => exact (below_size (bl HB)))
          (case aL => have := LMc19.out; omega)
          intro v683 w24 ho hb hg hat
          rw [← Ny682.out] at ho
          have n0_ := am (blk_grown (g := gb671) (o := .cells #[.int .i64 a0_0, .int .i64 a0_1, .float .f64 a0_2, .string a0_3] 50 (0, 0)) (bk BK671) hg (Kd.R_ne HO681.out BK671.out (by decide)))
          have n1_ := am (hb)
          have n2_ := am (ho)
          clear BK671
          clear HB
          clear HO681
          have BK671 := n0_
          have HB := n1_
          have HO684 := n2_
          clear n0_ n1_ n2_
          clear ho hb hg hat
          refine hK.out _ _ ⟨(blk_cell BK671.out 0).trans rfl, (blk_cell BK671.out 1).trans rfl, (blk_cell BK671.out 2).trans rfl, (blk_cell BK671.out 3).trans rfl⟩ (fun hHeld => ?_)
          clear hK K
          refine norm_ (a' := ?_) ?_ ?_
          rotate_left
          · show Act.put _ (some 43) _ = _
            simp only [Act.put, List.setIfInBounds_toArray, List.set_cons_zero, List.set_cons_succ, i64_w, i32_w]
            rfl
          refine pu HT_ 8 (some 2) (bb 9 9) ?_
          refine done_ (done_of HT_.out (by kernel_rfl)) ?_
          try go_wp2
          go_ret
          exact ⟨_, er, Kd.rr HO684.out, bl HB⟩
        · rw [if_neg c19] at H
          exact absurd H (by simp)
      · rw [if_neg c17] at H
        have c17b0 : (a0_0 == 4) = false := beq_eq_false_iff_ne.mpr c17
        have c17b1 : (a0_0 != 4) = true := bne_iff_ne.mpr c17
        by_cases c25 : a0_0 = 5
        · rw [if_pos c25] at H
          have c25b0 : (a0_0 == 5) = true := beq_iff_eq.mpr c25
          have c25b1 : (a0_0 != 5) = false := bne_eq_false_iff_eq.mpr c25
          clear c25
          replace H := Option.bind_eq_some_iff.mp H
          obtain ⟨t685, A260, H⟩ := H
          replace H : (if t685.length + a0_3.size < 140737488355328 then (some (t685 ++ bytesOf a0_3)) else (none)) = some r := H
          have A26 := am A260
          clear A260
          by_cases c27 : t685.length + a0_3.size < 140737488355328
          · rw [if_pos c27] at H
            have LMc27 := am c27
            clear c27
            obtain ⟨y688, hy688⟩ : ∃ y_ : List Int, y_ = (t685 ++ bytesOf a0_3) := ⟨_, rfl⟩
            replace H : (some y688) = some r := by first | (rw [hy688]; with_reducible exact H) | (have H2_ := (Option.bind_some _ _).symm.trans H; rw [hy688]; with_reducible exact H2_) | (have H2_ := (Option.bind_some _ _).symm.trans H; with_reducible exact H2_) | with_reducible exact H | (rw [hy688]; exact H) | exact H
            have Ny688 := am hy688
            clear hy688
            obtain rfl := Option.some.inj H
            go_enter Tryd.func122, Tryd.ntmps122
            try go_wp2_with (first | ((with_reducible refine gate_dst (N := 1) rfl ?_); refine box_event rfl (N := 1) rfl (cs := #[.int .i64 a0_0, .int .i64 a0_1, .float .f64 a0_2, .string a0_3]) (t := 50) gs ?_; intro gb671 hg w28 hbox hb; have BK671 := am (hbox); have GW671 := gw hg HB; have GE671 := gw hg HB; replace HB := sb HB hb; clear hb hbox hg; obtain ⟨Z29_0, Z29_1, Z29_2, Z29_3, Y29_0, Y29_1, Y29_2, Y29_3⟩ := bq4 BK671))
            have n0_ := am (blk_drew BK671.out)
            have n1_ := am (below_drew1 HB.out)
            clear BK671
            clear HB
            have BK671 := n0_
            have HB := n1_
            clear n0_ n1_
            refine start_ (n := 9) (S := fun w' => w'.cell? ⟨gb671, 0, none⟩ = some (.int .i64 a0_0) ∧ w'.cell? ⟨gb671, 1, none⟩ = some (.int .i64 a0_1) ∧ w'.cell? ⟨gb671, 2, none⟩ = some (.float .f64 a0_2) ∧ w'.cell? ⟨gb671, 3, none⟩ = some (.string a0_3)) (ds := []) (bb 0 9) (by kernel_rfl) rfl rfl ⟨(blk_cell BK671.out 0).trans rfl, (blk_cell BK671.out 1).trans rfl, (blk_cell BK671.out 2).trans rfl, (blk_cell BK671.out 3).trans rfl⟩ (fun hHeld => ?_); refine with_tabW vellumref04_told.tab14 vellumref04_told.bits14 (fun HT_ HW_ => ?_)
            generalize w28.drew = w30 at BK671 HB hHeld ⊢
            refine pu HT_ 0 (some 36) (bb 1 9) ?_
            refine pu HT_ 5 (some 41) (bs 9 33) ?_
            refine tk HT_ HW_ hHeld 1 (some 37) (bs 9 35) ?_
            refine pu HT_ 2 (some 38) (bs 9 39) ?_
            refine pu HT_ 3 (some 39) (bs 9 47) ?_
            refine tk HT_ HW_ hHeld 6 (some 42) (bs 9 111) ?_
            refine one_ (i := 4) (N := some 40) (bb 7 9) rfl rfl (one_of HT_.out (by kernel_rfl)) (by decide) (fun K hK => ?_)
            refine goes_ Tryd.func90 (by kernel_rfl) rfl #[.int .u64 (IntKind.u64.wrap ((a0_3.size : Int)))] (by rfl) rfl rfl ar ?_
            with_reducible refine (vellumref04_varint.calls k (IntKind.u64.wrap ((a0_3.size : Int))) t685 _ A26.out).mono ?_
            rintro e w31 ⟨v686, rfl, ho0, hb⟩
            refine ⟨_, rfl, ?_⟩
            have n0_ := am (Kd.R_lower ho0 (below_size (bl HB)))
            have n1_ := kb BK671 hb
            have n2_ := sb HB hb
            clear BK671
            clear HB
            have HO687 := n0_
            have BK671 := n1_
            have HB := n2_
            clear n0_ n1_ n2_
            (try clear hb)
            (try clear hb2)
            (try clear hk)
            (try clear hi)
            (try clear ho0)
            refine hK.out _ _ ⟨(blk_cell BK671.out 0).trans rfl, (blk_cell BK671.out 1).trans rfl, (blk_cell BK671.out 2).trans rfl, (blk_cell BK671.out 3).trans rfl⟩ (fun hHeld => ?_)
            clear hK K
            refine norm_ (a' := ?_) ?_ ?_
            rotate_left
            · show Act.put _ (some 40) _ = _
              simp only [Act.put, List.setIfInBounds_toArray, List.set_cons_zero, List.set_cons_succ, i64_w, i32_w]
              rfl
            refine one_ (i := 7) (N := some 43) (bb 8 9) rfl rfl (one_of HT_.out (by kernel_rfl)) (by decide) (fun K hK => ?_)
            refine Kd.R_append_str_step (w0 := w) w.heap.size (by rfl) (.tmp 40) _ 80 9 5 rfl Tryd.underlying80 Tryd.underlying9 info5 v686 t685 a0_3 (fun _ => True) rfl rfl ?aF ?aO ?aB ?aS ?aL ?_
            (case aB => exact (bl HB))
            (case aF => exact (fun _ _ => trivial))
            (case aO => exact (Kd.rr HO687.out))
            (case aS => exact (below_size (bl HB)))
            (case aL => have := LMc27.out; omega)
            intro v689 w32 ho hb hg hat
            rw [← Ny688.out] at ho
            have n0_ := am (blk_grown (g := gb671) (o := .cells #[.int .i64 a0_0, .int .i64 a0_1, .float .f64 a0_2, .string a0_3] 50 (0, 0)) (bk BK671) hg (Kd.R_ne HO687.out BK671.out (by decide)))
            have n1_ := am (hb)
            have n2_ := am (ho)
            clear BK671
            clear HB
            clear HO687
            have BK671 := n0_
            have HB := n1_
            have HO690 := n2_
            clear n0_ n1_ n2_
            clear ho hb hg hat
            refine hK.out _ _ ⟨(blk_cell BK671.out 0).trans rfl, (blk_cell BK671.out 1).trans rfl, (blk_cell BK671.out 2).trans rfl, (blk_cell BK671.out 3).trans rfl⟩ (fun hHeld => ?_)
            clear hK K
            refine norm_ (a' := ?_) ?_ ?_
            rotate_left
            · show Act.put _ (some 43) _ = _
              simp only [Act.put, List.setIfInBounds_toArray, List.set_cons_zero, List.set_cons_succ, i64_w, i32_w]
              rfl
            refine pu HT_ 8 (some 2) (bb 9 9) ?_
            refine done_ (done_of HT_.out (by kernel_rfl)) ?_
            try go_wp2
            go_ret
            exact ⟨_, er, Kd.rr HO690.out, bl HB⟩
          · rw [if_neg c27] at H
            exact absurd H (by simp)
        · rw [if_neg c25] at H
          have c25b0 : (a0_0 == 5) = false := beq_eq_false_iff_ne.mpr c25
          have c25b1 : (a0_0 != 5) = true := bne_iff_ne.mpr c25
          obtain rfl := Option.some.inj H
          go_enter Tryd.func122, Tryd.ntmps122
          go_wp2_with (first | ((with_reducible refine gate_dst (N := 1) rfl ?_); refine box_event rfl (N := 1) rfl (cs := #[.int .i64 a0_0, .int .i64 a0_1, .float .f64 a0_2, .string a0_3]) (t := 50) gs ?_; intro gb671 hg w33 hbox hb; have BK671 := am (hbox); have GW671 := gw hg HB; have GE671 := gw hg HB; replace HB := sb HB hb; clear hb hbox hg; obtain ⟨Z34_0, Z34_1, Z34_2, Z34_3, Y34_0, Y34_1, Y34_2, Y34_3⟩ := bq4 BK671))
          go_ret
          exact ⟨_, er, by first | exact Kd.R_nil _ _ _ _ _ | exact Kd.N_nil _ _ _ _ _ | exact Kd.V_nil _ _ _ _ _ | exact Kd.Q_nil _ _ _ _ _ | exact Kd.S_nil _ _ _ _ _, bl HB⟩
mutual
def vellumref04_bytesOf.l0 : Nat → List (S50) → List Int → Int → Option (List Int)
  | 0, _, _, _ => none
  | k + 1, x0, x3, x4 => if x4 < (x0.length : Int) then (if 0 ≤ (wrap64 (Int.tdiv x4 4)) then (if (wrap64 (Int.tdiv x4 4)) < (x3.length : Int) then (if 0 ≤ x4 then ((vellumref04_pair.f ((rd_T50 x0 x4).f0) ((rd_T50 x0 x4).f1) ((rd_T50 x0 x4).f2) ((rd_T50 x0 x4).f3)).bind fun t696 => (if 0 ≤ (IntKind.u64.wrap (wrap64 ((Int.tmod x4 4) * 2))) then (vellumref04_bytesOf.l0 k x0 (x3.set ((wrap64 (Int.tdiv x4 4)) : Int).toNat (Go.bits .or .u8 (rd x3 (wrap64 (Int.tdiv x4 4))) (shl .u8 t696 (IntKind.u64.wrap (wrap64 ((Int.tmod x4 4) * 2)))))) (wrap64 (x4 + 1))) else (none))) else (none)) else (none)) else (none)) else (vellumref04_bytesOf.l1 k x0 x3 0)
def vellumref04_bytesOf.l1 : Nat → List (S50) → List Int → Int → Option (List Int)
  | 0, _, _, _ => none
  | k + 1, x0, x3, x5 => if x5 < (x0.length : Int) then (if 0 ≤ x5 then ((vellumref04_told.f k ((rd_T50 x0 x5).f0) ((rd_T50 x0 x5).f1) ((rd_T50 x0 x5).f2) ((rd_T50 x0 x5).f3)).bind fun t699 => (if x3.length + t699.length < 140737488355328 then (vellumref04_bytesOf.l1 k x0 (x3 ++ t699) (wrap64 (x5 + 1))) else (none))) else (none)) else (some x3)
end
def vellumref04_bytesOf.f (k : Nat) (l0 : List (S50)) : Option (List Int) := if 0 ≤ (wrap64 (Int.tdiv (wrap64 ((l0.length : Int) + 3)) 4)) then (if (wrap64 (Int.tdiv (wrap64 ((l0.length : Int) + 3)) 4) : Int).toNat ≤ 281474976710656 then (vellumref04_bytesOf.l0 k l0 (List.replicate (wrap64 (Int.tdiv (wrap64 ((l0.length : Int) + 3)) 4) : Int).toNat 0) 0) else (none)) else (none)
def vellumref04_bytesOf.T5 : Bool × List (List Nat × List Nat) := (true, [([], []), ([], []), ([1], [1]), ([], []), ([], []), ([4], [4]), ([3, 5], [3, 5]), ([6], [6]), ([], []), ([], []), ([8, 9], [8, 9]), ([10], [10]), ([11], [11]), ([], []), ([13], [13]), ([14], [14]), ([15], [15]), ([12, 16], [12, 16]), ([7, 17], [7, 17]), ([0, 2, 0, 1, 2, 3, 4, 5, 6, 7, 8, 9, 10, 11, 12, 13, 14, 15, 16, 17, 18], [0, 2]), ([19, 18, 12, 0, 1, 2, 3, 4, 5, 6, 7, 8, 9, 10, 11, 12, 13, 14, 15, 16, 17, 18], [18, 19])])
def vellumref04_bytesOf.B5 : List Nat := [0, 0, 2, 0, 0, 16, 56, 120, 0, 0, 768, 1792, 3840, 0, 8192, 24576, 57344, 130816, 262136, 524287, 1048575]
theorem vellumref04_bytesOf.tab5 : rtab .any (opsOf Tryd.f86 5) = vellumref04_bytesOf.T5 := by kernel_rfl
theorem vellumref04_bytesOf.bits5 : waitsOk vellumref04_bytesOf.T5.2 vellumref04_bytesOf.B5 = true := by kernel_rfl
set_option maxHeartbeats 8000000 in
set_option maxRecDepth 100000 in
theorem vellumref04_bytesOf.calls (k : Nat) (A0 : Option Addr) (c0 : Nat) (l0 : List (S50)) (r : List Int) (w : World) (hr0 : Kd.C k50 w A0 l0.length l0) (hc0 : l0.length ≤ c0) (h : vellumref04_bytesOf.f k l0 = some r) :
    Calls Tryd.prog 86 #[.slice A0 l0.length c0] w fun e w' => ∃ v0_ : Value, e = .returned (v0_) ∧ Kd.R (Kd.int .u8) 5 w' w.heap.size (fun _ => True) v0_ r ∧ Below w.heap.size w w' := by
  have hu50 := Tryd.underlying50
  have HR0 := am hr0
  have HC0 := am hc0
  clear hr0 hc0
  have HB := am (Below.refl w.heap.size w)
  have H : (if 0 ≤ (wrap64 (Int.tdiv (wrap64 ((l0.length : Int) + 3)) 4)) then (if (wrap64 (Int.tdiv (wrap64 ((l0.length : Int) + 3)) 4) : Int).toNat ≤ 281474976710656 then (vellumref04_bytesOf.l0 k l0 (List.replicate (wrap64 (Int.tdiv (wrap64 ((l0.length : Int) + 3)) 4) : Int).toNat 0) 0) else (none)) else (none)) = some r := h
  clear h
  obtain ⟨ji2, hji2⟩ : ∃ j_ : Int, (wrap64 (Int.tdiv (wrap64 ((l0.length : Int) + 3)) 4)) = j_ := ⟨_, rfl⟩
  replace H : (if 0 ≤ (ji2) then (if (ji2 : Int).toNat ≤ 281474976710656 then (vellumref04_bytesOf.l0 k l0 (List.replicate (ji2 : Int).toNat 0) 0) else (none)) else (none)) = some r := by first | (rw [hji2] at H; exact H) | (simp only [hji2] at H ⊢; exact H)
  have hji2w : (IntKind.i64.wrap (Int.tdiv (wrap64 ((l0.length : Int) + 3)) 4)) = ji2 := (i64_w _).trans hji2
  by_cases c3 : 0 ≤ (ji2)
  · rw [if_pos c3] at H
    have c3b0 := eq_true c3
    have c3b1 : decide (0 ≤ (ji2)) = true := decide_eq_true c3
    clear c3
    by_cases c4 : (ji2 : Int).toNat ≤ 281474976710656
    · rw [if_pos c4] at H
      have c4b0 := eq_true c4
      have c4b1 : decide ((ji2 : Int).toNat ≤ 281474976710656) = true := decide_eq_true c4
      clear c4
      obtain ⟨y691, hy691⟩ : ∃ y_ : List Int, y_ = (List.replicate (ji2 : Int).toNat 0) := ⟨_, rfl⟩
      replace H : (vellumref04_bytesOf.l0 k l0 y691 0) = some r := by first | (rw [hy691]; with_reducible exact H) | (have H2_ := (Option.bind_some _ _).symm.trans H; rw [hy691]; with_reducible exact H2_) | (have H2_ := (Option.bind_some _ _).symm.trans H; with_reducible exact H2_) | with_reducible exact H | (rw [hy691]; exact H) | exact H
      have Ny691 := am hy691
      clear hy691
      have H' := am H
      clear H
      go_enter Tryd.func86, Tryd.ntmps86
      go_wp2_with (first | ((with_reducible refine gate_dst (N := 10) rfl ?_); refine Kd.R_make (Kd.int .u8) _ 5 rfl (N := 10) rfl 80 _ _ rfl ji2 rfl rfl Tryd.underlying80 (.int .u8 0) 1 info5 rfl (by decide) (by omega) 0 (ok := fun _ => True) (okp := fun _ => True) rfl (fun _ hk => hk) trivial (oda) (Nat.le_trans (Nat.mul_le_mul_right _ (oda : ji2.toNat ≤ 281474976710656)) (by omega)) (Below.refl _ _) (Nat.le_refl _) ?_; intro v692 w5 ho6 hb hg_ hnew_; clear hg_ hnew_; (first | rw [← Ny691.out] at ho6 | (simp only [Int.reduceToNat] at ho6; rw [← Ny691.out] at ho6)); have n0_ := am (Kd.R_lower ho6 (below_size (bl HB))); have n1_ := sb HB hb; clear HB; have HO693 := n0_; have HB := n1_; clear n0_ n1_; clear hb ho6))
      go_loopg [4] k (fun kq v4 w' => ∃ (x3_1 : List Int) (x4_1 : Int), v4 = .int .i64 x4_1 ∧ Aside0 (vellumref04_bytesOf.l0 kq l0 x3_1 x4_1 = some r) ∧ Aside0 (kq ≤ k) ∧ Aside0 (Kd.R (Kd.int .u8) 5 w' w.heap.size (fun _ => True) v692 x3_1) ∧ Aside0 (Below w.heap.size w w'))
      case atStart => exact ⟨(y691), (0), eb, H', ⟨Nat.le_refl _⟩, ⟨Kd.rr HO693.out⟩, ⟨bl HB⟩⟩
      case round =>
        clear H'
        try clear p2
        try clear c3
        try clear c3b0
        try clear c3b1
        try clear c4
        try clear c4b0
        try clear c4b1
        try clear p6
        obtain ⟨x3_1, x4_1, rfl, HA, HK1, HO_3, HB⟩ := hrel
        cases gk with
        | zero => exact absurd HA.out (by simp [vellumref04_bytesOf.l0])
        | succ k1 =>
          have H := HA.out
          clear HA
          simp only [vellumref04_bytesOf.l0] at H
          by_cases c7 : x4_1 < (l0.length : Int)
          · rw [if_pos c7] at H
            have c7b0 : decide (x4_1 < (l0.length : Int)) = true := decide_eq_true c7
            clear c7
            obtain ⟨ji8, hji8⟩ : ∃ j_ : Int, (wrap64 (Int.tdiv x4_1 4)) = j_ := ⟨_, rfl⟩
            replace H : (if 0 ≤ (ji8) then (if (ji8) < (x3_1.length : Int) then (if 0 ≤ x4_1 then ((vellumref04_pair.f ((rd_T50 l0 x4_1).f0) ((rd_T50 l0 x4_1).f1) ((rd_T50 l0 x4_1).f2) ((rd_T50 l0 x4_1).f3)).bind fun t696 => (if 0 ≤ (IntKind.u64.wrap (wrap64 ((Int.tmod x4_1 4) * 2))) then (vellumref04_bytesOf.l0 k1 l0 (x3_1.set ((ji8) : Int).toNat (Go.bits .or .u8 (rd x3_1 (ji8)) (shl .u8 t696 (IntKind.u64.wrap (wrap64 ((Int.tmod x4_1 4) * 2)))))) (wrap64 (x4_1 + 1))) else (none))) else (none)) else (none)) else (none)) = some r := by first | (rw [hji8] at H; exact H) | (simp only [hji8] at H ⊢; exact H)
            have hji8w : (IntKind.i64.wrap (Int.tdiv x4_1 4)) = ji8 := (i64_w _).trans hji8
            by_cases c9 : 0 ≤ (ji8)
            · rw [if_pos c9] at H
              have c9b0 : decide (0 ≤ (ji8)) = true := decide_eq_true c9
              clear c9
              by_cases c10 : (ji8) < (x3_1.length : Int)
              · rw [if_pos c10] at H
                have c10b0 : decide ((ji8) < (x3_1.length : Int)) = true := decide_eq_true c10
                clear c10
                by_cases c11 : 0 ≤ x4_1
                · rw [if_pos c11] at H
                  have c11b0 : decide (0 ≤ x4_1) = true := decide_eq_true c11
                  clear c11
                  replace H := Option.bind_eq_some_iff.mp H
                  obtain ⟨t696, A120, H⟩ := H
                  replace H : (if 0 ≤ (IntKind.u64.wrap (wrap64 ((Int.tmod x4_1 4) * 2))) then (vellumref04_bytesOf.l0 k1 l0 (x3_1.set ((ji8) : Int).toNat (Go.bits .or .u8 (rd x3_1 (ji8)) (shl .u8 t696 (IntKind.u64.wrap (wrap64 ((Int.tmod x4_1 4) * 2)))))) (wrap64 (x4_1 + 1))) else (none)) = some r := H
                  have A12 := am A120
                  clear A120
                  obtain ⟨ji13, hji13⟩ : ∃ j_ : Int, (IntKind.u64.wrap (wrap64 ((Int.tmod x4_1 4) * 2))) = j_ := ⟨_, rfl⟩
                  replace H : (if 0 ≤ (ji13) then (vellumref04_bytesOf.l0 k1 l0 (x3_1.set ((ji8) : Int).toNat (Go.bits .or .u8 (rd x3_1 (ji8)) (shl .u8 t696 (ji13)))) (wrap64 (x4_1 + 1))) else (none)) = some r := by first | (rw [hji13] at H; exact H) | (simp only [hji13] at H ⊢; exact H)
                  (try rw [hji13] at A12)
                  by_cases c14 : 0 ≤ (ji13)
                  · rw [if_pos c14] at H
                    have c14b0 := eq_true c14
                    have c14b1 : decide (0 ≤ (ji13)) = true := decide_eq_true c14
                    clear c14
                    obtain ⟨ji15, hji15⟩ : ∃ j_ : Int, (shl .u8 t696 (ji13)) = j_ := ⟨_, rfl⟩
                    replace H : (vellumref04_bytesOf.l0 k1 l0 (x3_1.set ((ji8) : Int).toNat (Go.bits .or .u8 (rd x3_1 (ji8)) (ji15))) (wrap64 (x4_1 + 1))) = some r := by first | (rw [hji15] at H; exact H) | (simp only [hji15] at H ⊢; exact H)
                    (try rw [hji15] at A12)
                    have hji15_ : (IntKind.u8.wrap (t696 * 2 ^ min (ji13).toNat 8)) = ji15 := hji15
                    have hji15z : (ji13) ≤ 8 → (IntKind.u8.wrap (t696 * 2 ^ (ji13).toNat)) = ji15 := shl_small hji15
                    obtain ⟨y697, hy697⟩ : ∃ y_ : List Int, y_ = (x3_1.set ((ji8) : Int).toNat (Go.bits .or .u8 (rd x3_1 (ji8)) (ji15))) := ⟨_, rfl⟩
                    replace H : (vellumref04_bytesOf.l0 k1 l0 y697 (wrap64 (x4_1 + 1))) = some r := by first | (rw [hy697]; with_reducible exact H) | (have H2_ := (Option.bind_some _ _).symm.trans H; rw [hy697]; with_reducible exact H2_) | (have H2_ := (Option.bind_some _ _).symm.trans H; with_reducible exact H2_) | with_reducible exact H | (rw [hy697]; exact H) | exact H
                    have Ny697 := am hy697
                    clear hy697
                    have H' := am H
                    clear H
                    try go_wp2
                    have n0_ := am (Kd.R_drew HO_3.out)
                    have n1_ := am (below_drew1 HB.out)
                    clear HO_3
                    clear HB
                    have HO_3 := n0_
                    have HB := n1_
                    clear n0_ n1_
                    obtain ⟨Ao18, co18, eo18⟩ := Kd.R_slice HO_3.out
                    (first | subst eo18 | (injection eo18 with f1_ f2_ f3_; have f4_ := f1_.symm; have f5_ := f3_.symm; clear f1_ f2_ f3_; subst f4_; subst f5_))
                    have p694 : 0 ≤ ((ji8) : Int) := oda
                    have q694 : (ji8) < (x3_1.length : Int) := oda
                    obtain ⟨ad694, e694, hx694_0⟩ := Kd.at_int (Kd.R_reads' HO_3.out).2.2 (ji8) p694 q694
                    cases e694
                    replace p694 := eq_true p694
                    replace q694 := eq_true q694
                    have p695 : 0 ≤ (x4_1 : Int) := oda
                    have q695 : x4_1 < (l0.length : Int) := oda
                    obtain ⟨ad695, e695, hx695_0, hx695_1, hx695_2, hx695_3⟩ := at_T50 HR0.out x4_1 p695 q695
                    have hw695_3 := hx695_3
                    have hw695_2 := hx695_2
                    have hw695_1 := hx695_1
                    have hw695_0 := hx695_0
                    cases e695
                    replace hx695_0 := hc HB hx695_0
                    replace hx695_1 := hc HB hx695_1
                    replace hx695_2 := hc HB hx695_2
                    replace hx695_3 := hc HB hx695_3
                    replace p695 := eq_true p695
                    replace q695 := eq_true q695
                    refine start_ (n := 21) (S := fun w' => w'.cell? (ad694.add ((ji8)).toNat) = some (.int .u8 (rd x3_1 (ji8))) ∧ w'.cell? (ad695.add ((x4_1).toNat * 4)) = some (.int .i64 ((rd_T50 l0 x4_1).f0)) ∧ w'.cell? ⟨(ad695.add ((x4_1).toNat * 4)).block, (ad695.add ((x4_1).toNat * 4)).off + 1, none⟩ = some (.int .i64 ((rd_T50 l0 x4_1).f1)) ∧ w'.cell? ⟨(ad695.add ((x4_1).toNat * 4)).block, (ad695.add ((x4_1).toNat * 4)).off + 2, none⟩ = some (.float .f64 ((rd_T50 l0 x4_1).f2)) ∧ w'.cell? ⟨(ad695.add ((x4_1).toNat * 4)).block, (ad695.add ((x4_1).toNat * 4)).off + 3, none⟩ = some (.string ((rd_T50 l0 x4_1).f3))) (ds := [20]) (bb 0 21) (by kernel_rfl) rfl rfl ⟨hx694_0, (hc HB hw695_0), (hc HB hw695_1), (hc HB hw695_2), (hc HB hw695_3)⟩ (fun hHeld => ?_); refine with_tabW vellumref04_bytesOf.tab5 vellumref04_bytesOf.bits5 (fun HT_ HW_ => ?_)
                    generalize wr.drew = w17 at HO_3 HB hx694_0 hx695_0 hx695_1 hx695_2 hx695_3 hHeld ⊢
                    refine pu HT_ 0 (some 17) (bb 1 21) ?_
                    refine pu HT_ 1 (some 18) (bb 2 21) ?_
                    refine pu HT_ 2 (some 19) (bb 3 21) ?_
                    refine pu HT_ 3 (some 20) (bb 4 21) ?_
                    refine pu HT_ 4 (some 21) (bb 5 21) ?_
                    refine pu HT_ 5 (some 22) (bb 6 21) ?_
                    refine pu HT_ 6 (some 23) (bb 7 21) ?_
                    refine pu HT_ 8 (some 25) (bs 21 383) ?_
                    refine pu HT_ 9 (some 26) (bs 21 895) ?_
                    refine pu HT_ 10 (some 27) (bs 21 1919) ?_
                    refine pu HT_ 13 (some 30) (bs 21 10111) ?_
                    refine pu HT_ 14 (some 31) (bs 21 26495) ?_
                    refine pu HT_ 15 (some 32) (bs 21 59263) ?_
                    refine pu HT_ 16 (some 33) (bs 21 124799) ?_
                    refine tk HT_ HW_ hHeld 7 (some 24) (bs 21 124927) ?_
                    refine tk HT_ HW_ hHeld 11 (some 28) (bs 21 126975) ?_
                    refine one_ (i := 12) (N := some 29) (bb 17 21) rfl rfl (one_of HT_.out (by kernel_rfl)) (by decide) (fun K hK => ?_)
                    refine goes_ Tryd.func121 (by kernel_rfl) rfl #[.agg #[.int .i64 ((rd_T50 l0 x4_1).f0), .int .i64 ((rd_T50 l0 x4_1).f1), .float .f64 ((rd_T50 l0 x4_1).f2), .string ((rd_T50 l0 x4_1).f3)]] (by rfl) rfl rfl ar ?_
                    with_reducible refine (vellumref04_pair.calls ((rd_T50 l0 x4_1).f0) ((rd_T50 l0 x4_1).f1) ((rd_T50 l0 x4_1).f2) ((rd_T50 l0 x4_1).f3) t696 _ A12.out).mono ?_
                    rintro e w19 ⟨rfl, hb⟩
                    have HS0_ := (hb.cell (World.block_lt_of_cell? _ _ (hHeld.1))).trans (hHeld.1)
                    refine ⟨_, rfl, ?_⟩
                    have n0_ := am (Kd.R_below (Kd.rr HO_3.out) hb)
                    have n1_ := sb HB hb
                    clear HO_3
                    clear HB
                    have HO_3 := n0_
                    have HB := n1_
                    clear n0_ n1_
                    (try clear hb)
                    (try clear hb2)
                    (try clear hk)
                    (try clear hi)
                    have p16 : 0 ≤ ((ji8) : Int) := oda
                    have q16 : ((ji8) : Int) < ((x3_1.length : Int) : Int) := oda
                    obtain ⟨go16, co16, eo16, gb16, gl16, cl16, HG16⟩ := Kd.R_form HO_3.out (by omega)
                    (first | cases eo16 | (injection eo16 with ea_ en_ ec_; (first | subst ea_ | (injection ea_ with ea_; subst ea_)); subst ec_; clear en_))
                    have GB16 := am gb16
                    have GG16 := am HG16
                    clear gb16 gl16 HG16
                    (first | simp only [add_plain] at hx694_0 | skip)
                    obtain ⟨hx16_0, hf16_0⟩ := Kd.R_celln 0 HO_3.out ((ji8) : Int) p16 q16
                    replace p16 := eq_true p16
                    replace q16 := eq_true q16
                    have HP20 := Kd.R_putn HO_3.out ((ji8) : Int) (Go.bits .or .u8 (rd x3_1 (ji8)) (ji15))
                    rw [← Ny697.out] at HP20
                    have HQ20 := am HP20
                    clear HP20
                    refine hK.out _ _ ⟨HS0_, (hc HB hw695_0), (hc HB hw695_1), (hc HB hw695_2), (hc HB hw695_3)⟩ (fun hHeld => ?_)
                    clear hK K
                    refine norm_ (a' := ?_) ?_ ?_
                    rotate_left
                    · show Act.put _ (some 29) _ = _
                      simp only [Act.put, List.setIfInBounds_toArray, List.set_cons_zero, List.set_cons_succ, i64_w, i32_w]
                      rfl
                    refine pu HT_ 17 (some 34) (bb 18 21) ?_
                    refine pu HT_ 18 (some 35) (bb 19 21) ?_
                    refine pu HT_ 19 (some 36) (bb 20 21) ?_
                    refine last_ (i := 20) (N := none) (bb 21 21) rfl rfl (one_of HT_.out (by kernel_rfl)) (by decide) (fun K hK => ?_)
                    refine skip_ (w1 := ?_) (by rfl) rfl ?_ ?_
                    rotate_left
                    · go_simp
                      rfl
                    refine hK.out _ _ ?_
                    clear hK K
                    refine done_ (done_of HT_.out (by kernel_rfl)) ?_
                    try go_wp2
                    go_roundg k1
                    case measure => have := HK1.out; omega
                    case rel => exact ⟨(y697), (wrap64 (x4_1 + 1)), eb, H', ⟨by have := HK1.out; omega⟩, ⟨by (with_reducible repeat (first | apply Kd.R_alloc | apply Kd.R_drewN | apply Kd.R_drew)); exact HQ20.out⟩, ⟨by repeat (first | (with_reducible first | exact HB.out | apply below_alloc | apply pw_below_drewN | apply below_drew1 | refine below_set ?_ GB16.out) | exact HB.out)⟩⟩
                  · rw [if_neg c14] at H
                    exact absurd H (by simp)
                · rw [if_neg c11] at H
                  exact absurd H (by simp)
              · rw [if_neg c10] at H
                exact absurd H (by simp)
            · rw [if_neg c9] at H
              exact absurd H (by simp)
          · rw [if_neg c7] at H
            have c7b0 : decide (x4_1 < (l0.length : Int)) = false := decide_eq_false c7
            clear c7
            have H' := am H
            clear H
            go_wp2
            go_loopg [3, 5] k1 (fun kq v3 v5 w' => ∃ (x3_2 : List Int) (x5_2 : Int), v5 = .int .i64 x5_2 ∧ Aside0 (vellumref04_bytesOf.l1 kq l0 x3_2 x5_2 = some r) ∧ Aside0 (kq ≤ k1) ∧ Aside0 (Kd.R (Kd.int .u8) 5 w' w.heap.size (fun _ => True) v3 x3_2) ∧ Aside0 (Below w.heap.size w w'))
            case atStart => exact ⟨(x3_1), (0), eb, H', ⟨Nat.le_refl _⟩, ⟨Kd.rr HO_3.out⟩, ⟨bl HB⟩⟩
            case round =>
              clear H'
              try clear c1
              try clear p1
              try clear q1
              try clear hx1
              try clear hf1
              try clear p2
              try clear c3
              try clear c3b0
              try clear c3b1
              try clear c4
              try clear c4b0
              try clear c4b1
              try clear p6
              try clear q6
              try clear hx6
              try clear c7
              try clear c7b0
              try clear c8
              try clear c9
              try clear c9b0
              try clear c10
              try clear c10b0
              try clear c11
              try clear c11b0
              try clear c12
              try clear c14
              try clear c14b0
              try clear c14b1
              try clear p16
              try clear q16
              try clear hx16
              try clear hf16
              try clear hx16_0
              try clear hx694_0
              try clear hx695_0
              try clear hx695_1
              try clear hx695_2
              try clear hx695_3
              try clear p16
              try clear p2
              try clear p6
              try clear p694
              try clear p695
              try clear q16
              try clear q694
              try clear q695
              obtain ⟨x3_2, x5_2, rfl, HA, HK2, HO_3, HB⟩ := hrel
              cases gk with
              | zero => exact absurd HA.out (by simp [vellumref04_bytesOf.l1])
              | succ k2 =>
                have H := HA.out
                clear HA
                simp only [vellumref04_bytesOf.l1] at H
                by_cases c21 : x5_2 < (l0.length : Int)
                · rw [if_pos c21] at H
                  have c21b0 : decide (x5_2 < (l0.length : Int)) = true := decide_eq_true c21
                  clear c21
                  by_cases c22 : 0 ≤ x5_2
                  · rw [if_pos c22] at H
                    have c22b0 : decide (0 ≤ x5_2) = true := decide_eq_true c22
                    clear c22
                    replace H := Option.bind_eq_some_iff.mp H
                    obtain ⟨t699, A230, H⟩ := H
                    replace H : (if x3_2.length + t699.length < 140737488355328 then (vellumref04_bytesOf.l1 k2 l0 (x3_2 ++ t699) (wrap64 (x5_2 + 1))) else (none)) = some r := H
                    have A23 := am A230
                    clear A230
                    by_cases c24 : x3_2.length + t699.length < 140737488355328
                    · rw [if_pos c24] at H
                      have LMc24 := am c24
                      clear c24
                      obtain ⟨y702, hy702⟩ : ∃ y_ : List Int, y_ = (x3_2 ++ t699) := ⟨_, rfl⟩
                      replace H : (vellumref04_bytesOf.l1 k2 l0 y702 (wrap64 (x5_2 + 1))) = some r := by first | (rw [hy702]; with_reducible exact H) | (have H2_ := (Option.bind_some _ _).symm.trans H; rw [hy702]; with_reducible exact H2_) | (have H2_ := (Option.bind_some _ _).symm.trans H; with_reducible exact H2_) | with_reducible exact H | (rw [hy702]; exact H) | exact H
                      have Ny702 := am hy702
                      clear hy702
                      have H' := am H
                      clear H
                      have p698 : 0 ≤ (x5_2 : Int) := oda
                      have q698 : x5_2 < (l0.length : Int) := oda
                      obtain ⟨ad698, e698, hx698_0, hx698_1, hx698_2, hx698_3⟩ := at_T50 HR0.out x5_2 p698 q698
                      cases e698
                      replace hx698_0 := hc HB hx698_0
                      replace hx698_1 := hc HB hx698_1
                      replace hx698_2 := hc HB hx698_2
                      replace hx698_3 := hc HB hx698_3
                      replace p698 := eq_true p698
                      replace q698 := eq_true q698
                      go_wp2_with (first | ((with_reducible refine gate_callee (f := 122) rfl ?_); refine goesL_ (some 48) rfl rfl Tryd.func122 (by kernel_rfl) rfl #[.agg #[.int .i64 ((rd_T50 l0 x5_2).f0), .int .i64 ((rd_T50 l0 x5_2).f1), .float .f64 ((rd_T50 l0 x5_2).f2), .string ((rd_T50 l0 x5_2).f3)]] rfl ar ?_; (with_reducible refine (vellumref04_told.calls k2 ((rd_T50 l0 x5_2).f0) ((rd_T50 l0 x5_2).f1) ((rd_T50 l0 x5_2).f2) ((rd_T50 l0 x5_2).f3) t699 _ A23.out).mono ?_); rintro e w25 ⟨v700, rfl, ho0, hb⟩; refine ⟨_, rfl, ?_⟩; have n0_ := am (Kd.R_elder' (Kd.rr HO_3.out) (Kd.R_base ho0) hb); have n1_ := am (Kd.R_lower (Kd.R_new' ho0 (Kd.R_lt (Kd.rr HO_3.out))) (below_size (bl HB))); have n2_ := sb HB hb; clear HO_3; clear HB; have HO_3 := n0_; have HO701 := n1_; have HB := n2_; clear n0_ n1_ n2_; (try clear hb); (try clear hb2 hk hi); (try clear ho0); obtain ⟨Ao27, co27, eo27⟩ := Kd.R_slice HO701.out; subst eo27) | ((with_reducible refine gate_builtin (b := .append) (xs := #[.tmp 43, .tmp 48]) rfl ?_); at_builtin; refine Kd.R_append_rows (Kd.int .u8) (w0 := w) w.heap.size rfl (.tmp 43) (.tmp 48) 80 5 (.int .u8 0) 1 rfl Tryd.underlying80 info5 rfl (by decide) (by omega) u3 x3_2 t699 _ _ _ (fun k_ => some k_ ≠ (.slice Ao27 t699.length co27 : Value).ownBlock) (fun _ => False) rfl rfl ?aO ?aR (fun _ _ h => h) (fun _ h => h.elim) ?aF ?aB ?aS ?aL ?_; (case aR => repeat (first | exact (Kd.R_reads' HO701.out).2.2 | (with_reducible refine Kd.C_alloc ?_ _) | (with_reducible refine Kd.C_drewN ?_ _) | (with_reducible refine Kd.C_drew ?_))); (case aB => exact (bl HB)); (case aF => exact (fun k_ hk => Kd.fresh' (Kd.R_lt (Kd.rr HO701.out)) k_ hk)); (case aO => exact (by (with_reducible repeat (first | apply Kd.R_alloc | apply Kd.R_drewN | apply Kd.R_drew)); exact Kd.R_mono HO_3.out (fun _ hk => hk.2))); (case aS => exact (below_size (bl HB))); (case aL => have := LMc24.out; omega); intro v703 w26 ho hb hg hat; rw [← Ny702.out] at ho; have n0_ := am (Kd.R_after (ok := (fun _ => True)) (Kd.rr HO701.out) hg hat); have n1_ := am (hb); have n2_ := am (ho); clear HO701; clear HB; clear HO_3; have HO701 := n0_; have HB := n1_; have HO704 := n2_; clear n0_ n1_ n2_; clear ho hb hg hat))
                      go_roundg k2
                      case measure => have := HK1.out; have := HK2.out; omega
                      case rel => exact ⟨(y702), (wrap64 (x5_2 + 1)), eb, H', ⟨by have := HK1.out; have := HK2.out; omega⟩, ⟨by (with_reducible repeat (first | apply Kd.R_alloc | apply Kd.R_drewN | apply Kd.R_drew)); exact Kd.R_mono HO704.out (fun _ hk => trivial)⟩, ⟨bl HB⟩⟩
                    · rw [if_neg c24] at H
                      exact absurd H (by simp)
                  · rw [if_neg c22] at H
                    exact absurd H (by simp)
                · rw [if_neg c21] at H
                  have c21b0 : decide (x5_2 < (l0.length : Int)) = false := decide_eq_false c21
                  clear c21
                  obtain rfl := Option.some.inj H
                  go_wp2
                  go_ret
                  exact ⟨_, by first | rfl | (simp [errW_none, errW_some] <;> rfl) | (simp only [← hji2]; first | rfl | (simp [errW_none, errW_some] <;> rfl)) | (simp [*, errW_none, errW_some] <;> rfl), Kd.rr HO_3.out, bl HB⟩
    · rw [if_neg c4] at H
      exact absurd H (by simp)
  · rw [if_neg c3] at H
    exact absurd H (by simp)
def vellumlaw04_small.f  : Option (ByteArray × (List (S105)) × List Int × (List (S115)) × (List (S139))) := some ((⟨#[116]⟩ : ByteArray), (([(⟨(⟨#[97]⟩ : ByteArray), 2, false, (⟨0, 0, 0, (⟨#[]⟩ : ByteArray)⟩ : S50)⟩ : S105), (⟨(⟨#[98]⟩ : ByteArray), 4, true, (⟨0, 0, 0, (⟨#[]⟩ : ByteArray)⟩ : S50)⟩ : S105)] : List (S105))), (([0] : List Int)), ([] : List (S115)), ([] : List (S139)))
set_option maxHeartbeats 8000000 in
set_option maxRecDepth 100000 in
theorem vellumlaw04_small.calls  (r1 : ByteArray) (r2 : List (S105)) (r3 : List Int) (r4 : List (S115)) (r5 : List (S139)) (w : World) (h : vellumlaw04_small.f  = some (r1, r2, r3, r4, r5)) :
    Calls Tryd.prog 87 #[] w fun e w' => ∃ v1_ v2_ v3_ v4_ : Value, e = .returned (.agg #[.string r1, v1_, v2_, v3_, v4_]) ∧ Kd.R k105 105 w' w.heap.size (fun _ => True) v1_ r2 ∧ Kd.R (Kd.int .i64) 3 w' w.heap.size (fun _ => True) v2_ r3 ∧ Kd.S k115 115 w' w.heap.size (fun k_ => some k_ ≠ (v2_ : Value).ownBlock) v3_ r4 ∧ Kd.S k139 139 w' w.heap.size (fun k_ => some k_ ≠ (v2_ : Value).ownBlock) v4_ r5 ∧ Below w.heap.size w w' := by
  have hu65 := Tryd.underlying65
  have hu105 := Tryd.underlying105
  have HB := am (Below.refl w.heap.size w)
  have H : (some ((⟨#[116]⟩ : ByteArray), (([(⟨(⟨#[97]⟩ : ByteArray), 2, false, (⟨0, 0, 0, (⟨#[]⟩ : ByteArray)⟩ : S50)⟩ : S105), (⟨(⟨#[98]⟩ : ByteArray), 4, true, (⟨0, 0, 0, (⟨#[]⟩ : ByteArray)⟩ : S50)⟩ : S105)] : List (S105))), (([0] : List Int)), ([] : List (S115)), ([] : List (S139)))) = some (r1, r2, r3, r4, r5) := h
  clear h
  obtain ⟨y711, hy711⟩ : ∃ y_ : List (S105), y_ = (([(⟨(⟨#[97]⟩ : ByteArray), 2, false, (⟨0, 0, 0, (⟨#[]⟩ : ByteArray)⟩ : S50)⟩ : S105), (⟨(⟨#[98]⟩ : ByteArray), 4, true, (⟨0, 0, 0, (⟨#[]⟩ : ByteArray)⟩ : S50)⟩ : S105)] : List (S105))) := ⟨_, rfl⟩
  replace H : (some ((⟨#[116]⟩ : ByteArray), y711, (([0] : List Int)), ([] : List (S115)), ([] : List (S139)))) = some (r1, r2, r3, r4, r5) := by first | (rw [hy711]; with_reducible exact H) | (have H2_ := (Option.bind_some _ _).symm.trans H; rw [hy711]; with_reducible exact H2_) | (have H2_ := (Option.bind_some _ _).symm.trans H; with_reducible exact H2_) | with_reducible exact H | (rw [hy711]; exact H) | exact H
  have Ny711 := am hy711
  clear hy711
  obtain ⟨y714, hy714⟩ : ∃ y_ : List Int, y_ = (([0] : List Int)) := ⟨_, rfl⟩
  replace H : (some ((⟨#[116]⟩ : ByteArray), y711, y714, ([] : List (S115)), ([] : List (S139)))) = some (r1, r2, r3, r4, r5) := by first | (rw [hy714]; with_reducible exact H) | (have H2_ := (Option.bind_some _ _).symm.trans H; rw [hy714]; with_reducible exact H2_) | (have H2_ := (Option.bind_some _ _).symm.trans H; with_reducible exact H2_) | with_reducible exact H | (rw [hy714]; exact H) | exact H
  have Ny714 := am hy714
  clear hy714
  simp only [Option.some.injEq, Prod.mk.injEq] at H
  obtain ⟨rfl, rfl, rfl, rfl, rfl⟩ := H
  go_enter Tryd.func87, Tryd.ntmps87
  go_wp2_with (first | ((with_reducible refine gate_dst (N := 0) rfl ?_); refine box_event rfl (N := 0) rfl (cs := #[.string (⟨#[]⟩ : ByteArray), .slice none 0 0, .slice none 0 0, .slice none 0 0, .slice none 0 0]) (t := 65) gs ?_; intro gb710 hg w1 hbox hb; have BK710 := am (hbox); have GW710 := gw hg HB; have GE710 := gw hg HB; replace HB := sb HB hb; clear hb hbox hg) | ((with_reducible refine gate_dst (N := 3) rfl ?_); refine Kd.R_lit k105 _ 105 ?hg (N := 3) ?hd (xs := ([(⟨(⟨#[97]⟩ : ByteArray), 2, false, (⟨0, 0, 0, (⟨#[]⟩ : ByteArray)⟩ : S50)⟩ : S105), (⟨(⟨#[98]⟩ : ByteArray), 4, true, (⟨0, 0, 0, (⟨#[]⟩ : ByteArray)⟩ : S50)⟩ : S105)] : List (S105))) (inner := [.string (⟨#[97]⟩ : ByteArray), .int .i64 2, .bool false, .int .i64 0, .int .i64 0, .float .f64 0, .string (⟨#[]⟩ : ByteArray), .string (⟨#[98]⟩ : ByteArray), .int .i64 4, .bool true, .int .i64 0, .int .i64 0, .float .f64 0, .string (⟨#[]⟩ : ByteArray)]) (ok := fun _ => True) (okp := fun _ => True) ?hr ?hp (fun _ hk => hk) trivial (Below.refl _ _) (Nat.le_refl _) (by simp) ?_; (case hd => rfl); (case hg => rfl); (case hr => first | (go_simp; done) | (go_simp; rfl)); (case hp => exact (Reps.c7 (show Kd.M k105 _ _ _ (⟨(⟨#[97]⟩ : ByteArray), 2, false, (⟨0, 0, 0, (⟨#[]⟩ : ByteArray)⟩ : S50)⟩ : S105) [.string (⟨#[97]⟩ : ByteArray), .int .i64 2, .bool false, .int .i64 0, .int .i64 0, .float .f64 0, .string (⟨#[]⟩ : ByteArray)] from (k105_mkM _ _ _ (⟨(⟨#[97]⟩ : ByteArray), 2, false, (⟨0, 0, 0, (⟨#[]⟩ : ByteArray)⟩ : S50)⟩ : S105) )) (Reps.c7 (show Kd.M k105 _ _ _ (⟨(⟨#[98]⟩ : ByteArray), 4, true, (⟨0, 0, 0, (⟨#[]⟩ : ByteArray)⟩ : S50)⟩ : S105) [.string (⟨#[98]⟩ : ByteArray), .int .i64 4, .bool true, .int .i64 0, .int .i64 0, .float .f64 0, .string (⟨#[]⟩ : ByteArray)] from (k105_mkM _ _ _ (⟨(⟨#[98]⟩ : ByteArray), 4, true, (⟨0, 0, 0, (⟨#[]⟩ : ByteArray)⟩ : S50)⟩ : S105) )) (Reps.none _ _)))); intro v712 w2 ho3 hb hg_ hnew_; clear hg_ hnew_; (first | rw [← Ny711.out] at ho3 | (simp only [Int.reduceToNat] at ho3; rw [← Ny711.out] at ho3)); have n0_ := am (Kd.R_lower ho3 (below_size (bl HB))); have n1_ := kb BK710 hb; have n2_ := sb HB hb; clear BK710; clear HB; have HO713 := n0_; have BK710 := n1_; have HB := n2_; clear n0_ n1_ n2_; clear hb ho3) | ((with_reducible refine gate_dst (N := 4) rfl ?_); refine Kd.R_lit (Kd.int .i64) _ 3 ?hg (N := 4) ?hd (xs := ([0] : List Int)) (inner := [.int .i64 0]) (ok := fun _ => True) (okp := fun _ => True) ?hr ?hp (fun _ hk => hk) trivial (Below.refl _ _) (Nat.le_refl _) (by simp) ?_; (case hd => rfl); (case hg => rfl); (case hr => first | (go_simp; done) | (go_simp; rfl)); (case hp => exact (Reps.one (show Kd.M (Kd.int .i64) _ _ _ 0 [.int .i64 0] from rfl) (Reps.none _ _))); intro v715 w4 ho5 hb hg_ hnew_; clear hg_ hnew_; (first | rw [← Ny714.out] at ho5 | (simp only [Int.reduceToNat] at ho5; rw [← Ny714.out] at ho5)); have n0_ := am (Kd.R_below (Kd.rr HO713.out) hb); have n1_ := am (Kd.R_lower ho5 (below_size (bl HB))); have n2_ := kb BK710 hb; have n3_ := sb HB hb; clear HO713; clear BK710; clear HB; have HO713 := n0_; have HO716 := n1_; have BK710 := n2_; have HB := n3_; clear n0_ n1_ n2_ n3_; clear hb ho5; obtain ⟨Ao6, co6, eo6⟩ := Kd.R_slice HO716.out; subst eo6; obtain ⟨Ao7, co7, eo7⟩ := Kd.R_slice HO713.out; subst eo7; obtain ⟨Z8_0, Z8_1, Z8_2, Z8_3, Z8_4, Y8_0, Y8_1, Y8_2, Y8_3, Y8_4⟩ := bq5 BK710))
  refine bodyPost_ret (results_cell_row rfl _ _ gb710 65 #[.string (⟨#[116]⟩ : ByteArray), .slice Ao7 y711.length co7, .slice Ao6 y714.length co6, .slice none 0 0, .slice none 0 0] (0, 0) _ rfl (by refine rp ?_; refine blk_put (cs := #[.string (⟨#[116]⟩ : ByteArray), .slice Ao7 y711.length co7, .slice Ao6 y714.length co6, .slice none 0 0, .slice none 0 0]) ?_ 4 _ rfl; refine rp ?_; refine blk_put (cs := #[.string (⟨#[116]⟩ : ByteArray), .slice Ao7 y711.length co7, .slice Ao6 y714.length co6, .slice none 0 0, .slice none 0 0]) ?_ 3 _ rfl; refine rp ?_; refine blk_put (cs := #[.string (⟨#[116]⟩ : ByteArray), .slice Ao7 y711.length co7, .slice none 0 0, .slice none 0 0, .slice none 0 0]) ?_ 2 _ rfl; refine rp ?_; refine blk_put (cs := #[.string (⟨#[116]⟩ : ByteArray), .slice none 0 0, .slice none 0 0, .slice none 0 0, .slice none 0 0]) ?_ 1 _ rfl; refine rp ?_; refine blk_put (cs := #[.string (⟨#[]⟩ : ByteArray), .slice none 0 0, .slice none 0 0, .slice none 0 0, .slice none 0 0]) ?_ 0 _ rfl; exact bk BK710) Tryd.underlying65 rfl (by kernel_rfl)) rfl ?_
  exact ⟨_, _, _, _, er, by (with_reducible repeat (first | apply Kd.R_alloc | apply Kd.R_drewN | apply Kd.R_drew)); exact Kd.R_mono (Kd.R_far (p := ⟨gb710, 4, none⟩) (Kd.R_far (p := ⟨gb710, 3, none⟩) (Kd.R_far (p := ⟨gb710, 2, none⟩) (Kd.R_far (p := ⟨gb710, 1, none⟩) (Kd.R_far (p := ⟨gb710, 0, none⟩) (Kd.R_types HO713.out BK710.out (by decide)) (fun _ hk => hk.2) (.string (⟨#[116]⟩ : ByteArray))) (fun _ hk => hk.2) (.slice Ao7 y711.length co7)) (fun _ hk => hk.2) (.slice Ao6 y714.length co6)) (fun _ hk => hk.2) (.slice none 0 0)) (fun _ hk => hk.2) (.slice none 0 0)) (fun _ hk => trivial), by (with_reducible repeat (first | apply Kd.R_alloc | apply Kd.R_drewN | apply Kd.R_drew)); exact Kd.R_mono (Kd.R_far (p := ⟨gb710, 4, none⟩) (Kd.R_far (p := ⟨gb710, 3, none⟩) (Kd.R_far (p := ⟨gb710, 2, none⟩) (Kd.R_far (p := ⟨gb710, 1, none⟩) (Kd.R_far (p := ⟨gb710, 0, none⟩) (Kd.R_types HO716.out BK710.out (by decide)) (fun _ hk => hk.2) (.string (⟨#[116]⟩ : ByteArray))) (fun _ hk => hk.2) (.slice Ao7 y711.length co7)) (fun _ hk => hk.2) (.slice Ao6 y714.length co6)) (fun _ hk => hk.2) (.slice none 0 0)) (fun _ hk => hk.2) (.slice none 0 0)) (fun _ hk => trivial), by first | exact Kd.S_nil _ _ _ _ _ | exact Kd.N_nil _ _ _ _ _ | exact Kd.V_nil _ _ _ _ _ | exact Kd.Q_nil _ _ _ _ _ | exact Kd.R_nil _ _ _ _ _, by first | exact Kd.S_nil _ _ _ _ _ | exact Kd.N_nil _ _ _ _ _ | exact Kd.V_nil _ _ _ _ _ | exact Kd.Q_nil _ _ _ _ _ | exact Kd.R_nil _ _ _ _ _, bl HB⟩
def vellumlaw04_awake.f (k : Nat)  : Option (Bool) := (vellumlaw04_small.f).bind fun bt717 => ((row_Encode.f k bt717.1 bt717.2.1 bt717.2.2.1 bt717.2.2.2.1 bt717.2.2.2.2 (([(⟨2, 5, 0, (⟨#[]⟩ : ByteArray)⟩ : S50), (⟨4, 0, 0, (⟨#[97]⟩ : ByteArray)⟩ : S50)] : List (S50)))).bind fun bt733 => (if bt733.2 = 0 then (some (bt733.1.toList == ([5, 10, 1, 97] : List UInt8))) else (some false)))
set_option maxHeartbeats 8000000 in
set_option maxRecDepth 100000 in
theorem vellumlaw04_awake.calls (k : Nat)  (r : Bool) (w : World) (hG : Glob w) (h : vellumlaw04_awake.f k  = some r) :
    Calls Tryd.prog 54 #[] w fun e w' => e = .returned (.bool r) ∧ Below w.heap.size w w' := by
  have hu50 := Tryd.underlying50
  have HG := am hG
  clear hG
  have HB := am (Below.refl w.heap.size w)
  have H : ((vellumlaw04_small.f).bind fun bt717 => ((row_Encode.f k bt717.1 bt717.2.1 bt717.2.2.1 bt717.2.2.2.1 bt717.2.2.2.2 (([(⟨2, 5, 0, (⟨#[]⟩ : ByteArray)⟩ : S50), (⟨4, 0, 0, (⟨#[97]⟩ : ByteArray)⟩ : S50)] : List (S50)))).bind fun bt733 => (if bt733.2 = 0 then (some (bt733.1.toList == ([5, 10, 1, 97] : List UInt8))) else (some false)))) = some r := h
  clear h
  replace H := Option.bind_eq_some_iff.mp H
  obtain ⟨⟨t717, t718, t721, t724, t727⟩, A10, H⟩ := H
  replace H : ((row_Encode.f k t717 t718 t721 t724 t727 (([(⟨2, 5, 0, (⟨#[]⟩ : ByteArray)⟩ : S50), (⟨4, 0, 0, (⟨#[97]⟩ : ByteArray)⟩ : S50)] : List (S50)))).bind fun bt733 => (if bt733.2 = 0 then (some (bt733.1.toList == ([5, 10, 1, 97] : List UInt8))) else (some false))) = some r := H
  have A1 := am A10
  clear A10
  obtain ⟨y730, hy730⟩ : ∃ y_ : List (S50), y_ = (([(⟨2, 5, 0, (⟨#[]⟩ : ByteArray)⟩ : S50), (⟨4, 0, 0, (⟨#[97]⟩ : ByteArray)⟩ : S50)] : List (S50))) := ⟨_, rfl⟩
  replace H : ((row_Encode.f k t717 t718 t721 t724 t727 y730).bind fun bt733 => (if bt733.2 = 0 then (some (bt733.1.toList == ([5, 10, 1, 97] : List UInt8))) else (some false))) = some r := by first | (rw [hy730]; with_reducible exact H) | (have H2_ := (Option.bind_some _ _).symm.trans H; rw [hy730]; with_reducible exact H2_) | (have H2_ := (Option.bind_some _ _).symm.trans H; with_reducible exact H2_) | with_reducible exact H | (rw [hy730]; exact H) | exact H
  have Ny730 := am hy730
  clear hy730
  replace H := Option.bind_eq_some_iff.mp H
  obtain ⟨⟨t733, t734⟩, A20, H⟩ := H
  replace H : (if t734 = 0 then (some (t733.toList == ([5, 10, 1, 97] : List UInt8))) else (some false)) = some r := H
  have A2 := am A20
  clear A20
  by_cases c3 : t734 = 0
  · rw [if_pos c3] at H
    have c3b0 : (t734 == 0) = true := beq_iff_eq.mpr c3
    have c3b1 : (t734 != 0) = false := bne_eq_false_iff_eq.mpr c3
    clear c3
    obtain rfl := Option.some.inj H
    go_enter Tryd.func54, Tryd.ntmps54
    go_wp2_with (first | ((with_reducible refine gate_callee (f := 87) rfl ?_); refine goesL_ (some 4) rfl rfl Tryd.func87 (by kernel_rfl) rfl #[] rfl ar ?_; (with_reducible refine (vellumlaw04_small.calls  t717 t718 t721 t724 t727 _ A1.out).mono ?_); rintro e w4 ⟨v719, v722, v725, v728, rfl, ho0, ho1, ho2, ho3, hb⟩; refine ⟨_, rfl, ?_⟩; have n0_ := am (Kd.R_lower ho0 (below_size (bl HB))); have n1_ := am (Kd.R_lower ho1 (below_size (bl HB))); have n2_ := am (Kd.S_lower ho2 (below_size (bl HB))); have n3_ := am (Kd.S_lower ho3 (below_size (bl HB))); have n4_ := sb HB hb; clear HB; have HO720 := n0_; have HO723 := n1_; have HO726 := n2_; have HO729 := n3_; have HB := n4_; clear n0_ n1_ n2_ n3_ n4_; (try clear hb); (try clear hb2 hk hi); (try clear ho0); (try clear ho1); (try clear ho2); (try clear ho3)) | ((with_reducible refine gate_dst (N := 7) rfl ?_); refine Kd.R_lit k50 _ 50 ?hg (N := 7) ?hd (xs := ([(⟨2, 5, 0, (⟨#[]⟩ : ByteArray)⟩ : S50), (⟨4, 0, 0, (⟨#[97]⟩ : ByteArray)⟩ : S50)] : List (S50))) (inner := [.int .i64 2, .int .i64 5, .float .f64 0, .string (⟨#[]⟩ : ByteArray), .int .i64 4, .int .i64 0, .float .f64 0, .string (⟨#[97]⟩ : ByteArray)]) (ok := fun _ => True) (okp := fun _ => True) ?hr ?hp (fun _ hk => hk) trivial (Below.refl _ _) (Nat.le_refl _) (by simp) ?_; (case hd => rfl); (case hg => rfl); (case hr => first | (go_simp; done) | (go_simp; rfl)); (case hp => exact (Reps.c4 (show Kd.M k50 _ _ _ (⟨2, 5, 0, (⟨#[]⟩ : ByteArray)⟩ : S50) [.int .i64 2, .int .i64 5, .float .f64 0, .string (⟨#[]⟩ : ByteArray)] from (k50_mkM _ _ _ (⟨2, 5, 0, (⟨#[]⟩ : ByteArray)⟩ : S50) )) (Reps.c4 (show Kd.M k50 _ _ _ (⟨4, 0, 0, (⟨#[97]⟩ : ByteArray)⟩ : S50) [.int .i64 4, .int .i64 0, .float .f64 0, .string (⟨#[97]⟩ : ByteArray)] from (k50_mkM _ _ _ (⟨4, 0, 0, (⟨#[97]⟩ : ByteArray)⟩ : S50) )) (Reps.none _ _)))); intro v731 w5 ho6 hb hg_ hnew_; clear hg_ hnew_; (first | rw [← Ny730.out] at ho6 | (simp only [Int.reduceToNat] at ho6; rw [← Ny730.out] at ho6)); have n0_ := am (Kd.R_below (Kd.rr HO720.out) hb); have n1_ := am (Kd.R_below (Kd.rr HO723.out) hb); have n2_ := am (Kd.S_below (by (with_reducible repeat (first | apply Kd.S_alloc | apply Kd.S_drewN | apply Kd.S_drew)); exact HO726.out) hb); have n3_ := am (Kd.S_below (by (with_reducible repeat (first | apply Kd.S_alloc | apply Kd.S_drewN | apply Kd.S_drew)); exact HO729.out) hb); have n4_ := am (Kd.R_lower ho6 (below_size (bl HB))); have n5_ := sb HB hb; clear HO720; clear HO723; clear HO726; clear HO729; clear HB; have HO720 := n0_; have HO723 := n1_; have HO726 := n2_; have HO729 := n3_; have HO732 := n4_; have HB := n5_; clear n0_ n1_ n2_ n3_ n4_ n5_; clear hb ho6; obtain ⟨Ao7, co7, eo7⟩ := Kd.R_slice HO720.out; subst eo7; obtain ⟨Ao8, co8, eo8⟩ := Kd.R_slice HO723.out; subst eo8; obtain ⟨Ao9, co9, eo9⟩ := Kd.S_slice HO726.out; subst eo9; obtain ⟨Ao10, co10, eo10⟩ := Kd.S_slice HO729.out; subst eo10; obtain ⟨Ao11, co11, eo11⟩ := Kd.R_slice HO732.out; subst eo11) | ((with_reducible refine gate_callee (f := 52) rfl ?_); refine goesL_ (some 8) rfl rfl Tryd.func52 (by kernel_rfl) rfl #[.agg #[.string t717, .slice Ao7 t718.length co7, .slice Ao8 t721.length co8, .slice Ao9 t724.length co9, .slice Ao10 t727.length co10], .slice Ao11 y730.length co11] rfl ar ?_; (with_reducible refine (row_Encode.calls k t717 _ _ t718 _ _ t721 _ _ t724 _ _ t727 _ _ y730 t733 t734 _ ?side1 ?side2 ?side3 ?side4 ?side5 ?side6 ?side7 ?side8 ?side9 ?side10 (Glob.below HG.out (bl HB)) A2.out).mono ?_); (case side1 => repeat (first | exact (Kd.R_reads' HO720.out).2.2 | (with_reducible refine Kd.C_alloc ?_ _) | (with_reducible refine Kd.C_drewN ?_ _) | (with_reducible refine Kd.C_drew ?_))); (case side2 => exact (Kd.R_reads' HO720.out).2.1); (case side3 => repeat (first | exact (Kd.R_reads' HO723.out).2.2 | (with_reducible refine Kd.C_alloc ?_ _) | (with_reducible refine Kd.C_drewN ?_ _) | (with_reducible refine Kd.C_drew ?_))); (case side4 => exact (Kd.R_reads' HO723.out).2.1); (case side5 => repeat (first | exact (Kd.S_reads' HO726.out).2.2 | (with_reducible refine Kd.C_alloc ?_ _) | (with_reducible refine Kd.C_drewN ?_ _) | (with_reducible refine Kd.C_drew ?_))); (case side6 => exact (Kd.S_reads' HO726.out).2.1); (case side7 => repeat (first | exact (Kd.S_reads' HO729.out).2.2 | (with_reducible refine Kd.C_alloc ?_ _) | (with_reducible refine Kd.C_drewN ?_ _) | (with_reducible refine Kd.C_drew ?_))); (case side8 => exact (Kd.S_reads' HO729.out).2.1); (case side9 => repeat (first | exact (Kd.R_reads' HO732.out).2.2 | (with_reducible refine Kd.C_alloc ?_ _) | (with_reducible refine Kd.C_drewN ?_ _) | (with_reducible refine Kd.C_drew ?_))); (case side10 => exact (Kd.R_reads' HO732.out).2.1); rintro e w12 ⟨rfl, hb⟩; refine ⟨_, rfl, ?_⟩; have n0_ := am (Kd.R_below (Kd.rr HO720.out) hb); have n1_ := am (Kd.R_below (Kd.rr HO723.out) hb); have n2_ := am (Kd.S_below (by (with_reducible repeat (first | apply Kd.S_alloc | apply Kd.S_drewN | apply Kd.S_drew)); exact HO726.out) hb); have n3_ := am (Kd.S_below (by (with_reducible repeat (first | apply Kd.S_alloc | apply Kd.S_drewN | apply Kd.S_drew)); exact HO729.out) hb); have n4_ := am (Kd.R_below (Kd.rr HO732.out) hb); have n5_ := sb HB hb; clear HO720; clear HO723; clear HO726; clear HO729; clear HO732; clear HB; have HO720 := n0_; have HO723 := n1_; have HO726 := n2_; have HO729 := n3_; have HO732 := n4_; have HB := n5_; clear n0_ n1_ n2_ n3_ n4_ n5_; (try clear hb); (try clear hb2 hk hi)))
    go_ret
    exact ⟨er, bl HB⟩
  · rw [if_neg c3] at H
    have c3b0 : (t734 == 0) = false := beq_eq_false_iff_ne.mpr c3
    have c3b1 : (t734 != 0) = true := bne_iff_ne.mpr c3
    obtain rfl := Option.some.inj H
    go_enter Tryd.func54, Tryd.ntmps54
    go_wp2_with (first | ((with_reducible refine gate_callee (f := 87) rfl ?_); refine goesL_ (some 4) rfl rfl Tryd.func87 (by kernel_rfl) rfl #[] rfl ar ?_; (with_reducible refine (vellumlaw04_small.calls  t717 t718 t721 t724 t727 _ A1.out).mono ?_); rintro e w13 ⟨v719, v722, v725, v728, rfl, ho0, ho1, ho2, ho3, hb⟩; refine ⟨_, rfl, ?_⟩; have n0_ := am (Kd.R_lower ho0 (below_size (bl HB))); have n1_ := am (Kd.R_lower ho1 (below_size (bl HB))); have n2_ := am (Kd.S_lower ho2 (below_size (bl HB))); have n3_ := am (Kd.S_lower ho3 (below_size (bl HB))); have n4_ := sb HB hb; clear HB; have HO720 := n0_; have HO723 := n1_; have HO726 := n2_; have HO729 := n3_; have HB := n4_; clear n0_ n1_ n2_ n3_ n4_; (try clear hb); (try clear hb2 hk hi); (try clear ho0); (try clear ho1); (try clear ho2); (try clear ho3)) | ((with_reducible refine gate_dst (N := 7) rfl ?_); refine Kd.R_lit k50 _ 50 ?hg (N := 7) ?hd (xs := ([(⟨2, 5, 0, (⟨#[]⟩ : ByteArray)⟩ : S50), (⟨4, 0, 0, (⟨#[97]⟩ : ByteArray)⟩ : S50)] : List (S50))) (inner := [.int .i64 2, .int .i64 5, .float .f64 0, .string (⟨#[]⟩ : ByteArray), .int .i64 4, .int .i64 0, .float .f64 0, .string (⟨#[97]⟩ : ByteArray)]) (ok := fun _ => True) (okp := fun _ => True) ?hr ?hp (fun _ hk => hk) trivial (Below.refl _ _) (Nat.le_refl _) (by simp) ?_; (case hd => rfl); (case hg => rfl); (case hr => first | (go_simp; done) | (go_simp; rfl)); (case hp => exact (Reps.c4 (show Kd.M k50 _ _ _ (⟨2, 5, 0, (⟨#[]⟩ : ByteArray)⟩ : S50) [.int .i64 2, .int .i64 5, .float .f64 0, .string (⟨#[]⟩ : ByteArray)] from (k50_mkM _ _ _ (⟨2, 5, 0, (⟨#[]⟩ : ByteArray)⟩ : S50) )) (Reps.c4 (show Kd.M k50 _ _ _ (⟨4, 0, 0, (⟨#[97]⟩ : ByteArray)⟩ : S50) [.int .i64 4, .int .i64 0, .float .f64 0, .string (⟨#[97]⟩ : ByteArray)] from (k50_mkM _ _ _ (⟨4, 0, 0, (⟨#[97]⟩ : ByteArray)⟩ : S50) )) (Reps.none _ _)))); intro v731 w14 ho15 hb hg_ hnew_; clear hg_ hnew_; (first | rw [← Ny730.out] at ho15 | (simp only [Int.reduceToNat] at ho15; rw [← Ny730.out] at ho15)); have n0_ := am (Kd.R_below (Kd.rr HO720.out) hb); have n1_ := am (Kd.R_below (Kd.rr HO723.out) hb); have n2_ := am (Kd.S_below (by (with_reducible repeat (first | apply Kd.S_alloc | apply Kd.S_drewN | apply Kd.S_drew)); exact HO726.out) hb); have n3_ := am (Kd.S_below (by (with_reducible repeat (first | apply Kd.S_alloc | apply Kd.S_drewN | apply Kd.S_drew)); exact HO729.out) hb); have n4_ := am (Kd.R_lower ho15 (below_size (bl HB))); have n5_ := sb HB hb; clear HO720; clear HO723; clear HO726; clear HO729; clear HB; have HO720 := n0_; have HO723 := n1_; have HO726 := n2_; have HO729 := n3_; have HO732 := n4_; have HB := n5_; clear n0_ n1_ n2_ n3_ n4_ n5_; clear hb ho15; obtain ⟨Ao16, co16, eo16⟩ := Kd.R_slice HO720.out; subst eo16; obtain ⟨Ao17, co17, eo17⟩ := Kd.R_slice HO723.out; subst eo17; obtain ⟨Ao18, co18, eo18⟩ := Kd.S_slice HO726.out; subst eo18; obtain ⟨Ao19, co19, eo19⟩ := Kd.S_slice HO729.out; subst eo19; obtain ⟨Ao20, co20, eo20⟩ := Kd.R_slice HO732.out; subst eo20) | ((with_reducible refine gate_callee (f := 52) rfl ?_); refine goesL_ (some 8) rfl rfl Tryd.func52 (by kernel_rfl) rfl #[.agg #[.string t717, .slice Ao16 t718.length co16, .slice Ao17 t721.length co17, .slice Ao18 t724.length co18, .slice Ao19 t727.length co19], .slice Ao20 y730.length co20] rfl ar ?_; (with_reducible refine (row_Encode.calls k t717 _ _ t718 _ _ t721 _ _ t724 _ _ t727 _ _ y730 t733 t734 _ ?side1 ?side2 ?side3 ?side4 ?side5 ?side6 ?side7 ?side8 ?side9 ?side10 (Glob.below HG.out (bl HB)) A2.out).mono ?_); (case side1 => repeat (first | exact (Kd.R_reads' HO720.out).2.2 | (with_reducible refine Kd.C_alloc ?_ _) | (with_reducible refine Kd.C_drewN ?_ _) | (with_reducible refine Kd.C_drew ?_))); (case side2 => exact (Kd.R_reads' HO720.out).2.1); (case side3 => repeat (first | exact (Kd.R_reads' HO723.out).2.2 | (with_reducible refine Kd.C_alloc ?_ _) | (with_reducible refine Kd.C_drewN ?_ _) | (with_reducible refine Kd.C_drew ?_))); (case side4 => exact (Kd.R_reads' HO723.out).2.1); (case side5 => repeat (first | exact (Kd.S_reads' HO726.out).2.2 | (with_reducible refine Kd.C_alloc ?_ _) | (with_reducible refine Kd.C_drewN ?_ _) | (with_reducible refine Kd.C_drew ?_))); (case side6 => exact (Kd.S_reads' HO726.out).2.1); (case side7 => repeat (first | exact (Kd.S_reads' HO729.out).2.2 | (with_reducible refine Kd.C_alloc ?_ _) | (with_reducible refine Kd.C_drewN ?_ _) | (with_reducible refine Kd.C_drew ?_))); (case side8 => exact (Kd.S_reads' HO729.out).2.1); (case side9 => repeat (first | exact (Kd.R_reads' HO732.out).2.2 | (with_reducible refine Kd.C_alloc ?_ _) | (with_reducible refine Kd.C_drewN ?_ _) | (with_reducible refine Kd.C_drew ?_))); (case side10 => exact (Kd.R_reads' HO732.out).2.1); rintro e w21 ⟨rfl, hb⟩; refine ⟨_, rfl, ?_⟩; have n0_ := am (Kd.R_below (Kd.rr HO720.out) hb); have n1_ := am (Kd.R_below (Kd.rr HO723.out) hb); have n2_ := am (Kd.S_below (by (with_reducible repeat (first | apply Kd.S_alloc | apply Kd.S_drewN | apply Kd.S_drew)); exact HO726.out) hb); have n3_ := am (Kd.S_below (by (with_reducible repeat (first | apply Kd.S_alloc | apply Kd.S_drewN | apply Kd.S_drew)); exact HO729.out) hb); have n4_ := am (Kd.R_below (Kd.rr HO732.out) hb); have n5_ := sb HB hb; clear HO720; clear HO723; clear HO726; clear HO729; clear HO732; clear HB; have HO720 := n0_; have HO723 := n1_; have HO726 := n2_; have HO729 := n3_; have HO732 := n4_; have HB := n5_; clear n0_ n1_ n2_ n3_ n4_ n5_; (try clear hb); (try clear hb2 hk hi)))
    go_ret
    exact ⟨er, bl HB⟩
def value_Same.f (a0_0 : Int) (a0_1 : Int) (a0_2 : Nat) (a0_3 : ByteArray) (a1_0 : Int) (a1_1 : Int) (a1_2 : Nat) (a1_3 : ByteArray) : Option (Bool) := if a0_0 = a1_0 then (if a0_1 = a1_1 then (if ((a0_2 : Nat) : Int) = ((a1_2 : Nat) : Int) then (some (a0_3.toList == a1_3.toList)) else (some false)) else (some false)) else (some false)
set_option maxHeartbeats 8000000 in
set_option maxRecDepth 100000 in
theorem value_Same.calls (a0_0 : Int) (a0_1 : Int) (a0_2 : Nat) (a0_3 : ByteArray) (a1_0 : Int) (a1_1 : Int) (a1_2 : Nat) (a1_3 : ByteArray) (r : Bool) (w : World) (h : value_Same.f a0_0 a0_1 a0_2 a0_3 a1_0 a1_1 a1_2 a1_3 = some r) :
    Calls Tryd.prog 123 #[.agg #[.int .i64 a0_0, .int .i64 a0_1, .float .f64 a0_2, .string a0_3], .agg #[.int .i64 a1_0, .int .i64 a1_1, .float .f64 a1_2, .string a1_3]] w fun e w' => e = .returned (.bool r) ∧ Below w.heap.size w w' := by
  have hu50 := Tryd.underlying50
  have HB := am (Below.refl w.heap.size w)
  have H : (if a0_0 = a1_0 then (if a0_1 = a1_1 then (if ((a0_2 : Nat) : Int) = ((a1_2 : Nat) : Int) then (some (a0_3.toList == a1_3.toList)) else (some false)) else (some false)) else (some false)) = some r := h
  clear h
  by_cases c3 : a0_0 = a1_0
  · rw [if_pos c3] at H
    have c3b0 : (a0_0 == a1_0) = true := beq_iff_eq.mpr c3
    have c3b1 : (a0_0 != a1_0) = false := bne_eq_false_iff_eq.mpr c3
    clear c3
    by_cases c4 : a0_1 = a1_1
    · rw [if_pos c4] at H
      have c4b0 : (a0_1 == a1_1) = true := beq_iff_eq.mpr c4
      have c4b1 : (a0_1 != a1_1) = false := bne_eq_false_iff_eq.mpr c4
      clear c4
      by_cases c5 : ((a0_2 : Nat) : Int) = ((a1_2 : Nat) : Int)
      · rw [if_pos c5] at H
        have c5b0 : (((a0_2 : Nat) : Int) == ((a1_2 : Nat) : Int)) = true := beq_iff_eq.mpr c5
        have c5b1 : (((a0_2 : Nat) : Int) != ((a1_2 : Nat) : Int)) = false := bne_eq_false_iff_eq.mpr c5
        clear c5
        obtain rfl := Option.some.inj H
        go_enter Tryd.func123, Tryd.ntmps123
        go_wp2_with (first | ((with_reducible refine gate_dst (N := 2) rfl ?_); refine box_event rfl (N := 2) rfl (cs := #[.int .i64 a0_0, .int .i64 a0_1, .float .f64 a0_2, .string a0_3]) (t := 50) gs ?_; intro gb741 hg w6 hbox hb; have BK741 := am (hbox); have GW741 := gw hg HB; have GE741 := gw hg HB; replace HB := sb HB hb; clear hb hbox hg) | ((with_reducible refine gate_dst (N := 3) rfl ?_); refine box_event rfl (N := 3) rfl (cs := #[.int .i64 a1_0, .int .i64 a1_1, .float .f64 a1_2, .string a1_3]) (t := 50) gs ?_; intro gb742 hg w7 hbox hb; have BK742 := am (hbox); have GW742 := gw hg HB; have GE742 := gw hg HB; have NB741_742 := am ((by rw [hg]; exact Nat.ne_of_lt (blk_lt (bk BK741)) : gb741 ≠ gb742)); have NB742_741 := am ((by rw [hg]; exact Nat.ne_of_gt (blk_lt (bk BK741)) : gb742 ≠ gb741)); replace BK741 := kb BK741 hb; replace HB := sb HB hb; clear hb hbox hg; have hnb8 := NB741_742.out; have hnc8 := NB742_741.out; obtain ⟨Z9_0, Z9_1, Z9_2, Z9_3, Y9_0, Y9_1, Y9_2, Y9_3⟩ := bq4 BK741; obtain ⟨Z10_0, Z10_1, Z10_2, Z10_3, Y10_0, Y10_1, Y10_2, Y10_3⟩ := bq4 BK742))
        repeat (go_quiet (fail); try go_wp2_with (first | ((with_reducible refine gate_dst (N := 2) rfl ?_); refine box_event rfl (N := 2) rfl (cs := #[.int .i64 a0_0, .int .i64 a0_1, .float .f64 a0_2, .string a0_3]) (t := 50) gs ?_; intro gb741 hg w6 hbox hb; have BK741 := am (hbox); have GW741 := gw hg HB; have GE741 := gw hg HB; replace HB := sb HB hb; clear hb hbox hg) | ((with_reducible refine gate_dst (N := 3) rfl ?_); refine box_event rfl (N := 3) rfl (cs := #[.int .i64 a1_0, .int .i64 a1_1, .float .f64 a1_2, .string a1_3]) (t := 50) gs ?_; intro gb742 hg w7 hbox hb; have BK742 := am (hbox); have GW742 := gw hg HB; have GE742 := gw hg HB; have NB741_742 := am ((by rw [hg]; exact Nat.ne_of_lt (blk_lt (bk BK741)) : gb741 ≠ gb742)); have NB742_741 := am ((by rw [hg]; exact Nat.ne_of_gt (blk_lt (bk BK741)) : gb742 ≠ gb741)); replace BK741 := kb BK741 hb; replace HB := sb HB hb; clear hb hbox hg; have hnb8 := NB741_742.out; have hnc8 := NB742_741.out; obtain ⟨Z9_0, Z9_1, Z9_2, Z9_3, Y9_0, Y9_1, Y9_2, Y9_3⟩ := bq4 BK741; obtain ⟨Z10_0, Z10_1, Z10_2, Z10_3, Y10_0, Y10_1, Y10_2, Y10_3⟩ := bq4 BK742)))
        go_ret
        exact ⟨er, bl HB⟩
      · rw [if_neg c5] at H
        have c5b0 : (((a0_2 : Nat) : Int) == ((a1_2 : Nat) : Int)) = false := beq_eq_false_iff_ne.mpr c5
        have c5b1 : (((a0_2 : Nat) : Int) != ((a1_2 : Nat) : Int)) = true := bne_iff_ne.mpr c5
        obtain rfl := Option.some.inj H
        go_enter Tryd.func123, Tryd.ntmps123
        go_wp2_with (first | ((with_reducible refine gate_dst (N := 2) rfl ?_); refine box_event rfl (N := 2) rfl (cs := #[.int .i64 a0_0, .int .i64 a0_1, .float .f64 a0_2, .string a0_3]) (t := 50) gs ?_; intro gb741 hg w11 hbox hb; have BK741 := am (hbox); have GW741 := gw hg HB; have GE741 := gw hg HB; replace HB := sb HB hb; clear hb hbox hg) | ((with_reducible refine gate_dst (N := 3) rfl ?_); refine box_event rfl (N := 3) rfl (cs := #[.int .i64 a1_0, .int .i64 a1_1, .float .f64 a1_2, .string a1_3]) (t := 50) gs ?_; intro gb742 hg w12 hbox hb; have BK742 := am (hbox); have GW742 := gw hg HB; have GE742 := gw hg HB; have NB741_742 := am ((by rw [hg]; exact Nat.ne_of_lt (blk_lt (bk BK741)) : gb741 ≠ gb742)); have NB742_741 := am ((by rw [hg]; exact Nat.ne_of_gt (blk_lt (bk BK741)) : gb742 ≠ gb741)); replace BK741 := kb BK741 hb; replace HB := sb HB hb; clear hb hbox hg; have hnb13 := NB741_742.out; have hnc13 := NB742_741.out; obtain ⟨Z14_0, Z14_1, Z14_2, Z14_3, Y14_0, Y14_1, Y14_2, Y14_3⟩ := bq4 BK741; obtain ⟨Z15_0, Z15_1, Z15_2, Z15_3, Y15_0, Y15_1, Y15_2, Y15_3⟩ := bq4 BK742))
        repeat (go_quiet (fail); try go_wp2_with (first | ((with_reducible refine gate_dst (N := 2) rfl ?_); refine box_event rfl (N := 2) rfl (cs := #[.int .i64 a0_0, .int .i64 a0_1, .float .f64 a0_2, .string a0_3]) (t := 50) gs ?_; intro gb741 hg w11 hbox hb; have BK741 := am (hbox); have GW741 := gw hg HB; have GE741 := gw hg HB; replace HB := sb HB hb; clear hb hbox hg) | ((with_reducible refine gate_dst (N := 3) rfl ?_); refine box_event rfl (N := 3) rfl (cs := #[.int .i64 a1_0, .int .i64 a1_1, .float .f64 a1_2, .string a1_3]) (t := 50) gs ?_; intro gb742 hg w12 hbox hb; have BK742 := am (hbox); have GW742 := gw hg HB; have GE742 := gw hg HB; have NB741_742 := am ((by rw [hg]; exact Nat.ne_of_lt (blk_lt (bk BK741)) : gb741 ≠ gb742)); have NB742_741 := am ((by rw [hg]; exact Nat.ne_of_gt (blk_lt (bk BK741)) : gb742 ≠ gb741)); replace BK741 := kb BK741 hb; replace HB := sb HB hb; clear hb hbox hg; have hnb13 := NB741_742.out; have hnc13 := NB742_741.out; obtain ⟨Z14_0, Z14_1, Z14_2, Z14_3, Y14_0, Y14_1, Y14_2, Y14_3⟩ := bq4 BK741; obtain ⟨Z15_0, Z15_1, Z15_2, Z15_3, Y15_0, Y15_1, Y15_2, Y15_3⟩ := bq4 BK742)))
        go_ret
        exact ⟨er, bl HB⟩
    · rw [if_neg c4] at H
      have c4b0 : (a0_1 == a1_1) = false := beq_eq_false_iff_ne.mpr c4
      have c4b1 : (a0_1 != a1_1) = true := bne_iff_ne.mpr c4
      obtain rfl := Option.some.inj H
      go_enter Tryd.func123, Tryd.ntmps123
      go_wp2_with (first | ((with_reducible refine gate_dst (N := 2) rfl ?_); refine box_event rfl (N := 2) rfl (cs := #[.int .i64 a0_0, .int .i64 a0_1, .float .f64 a0_2, .string a0_3]) (t := 50) gs ?_; intro gb741 hg w16 hbox hb; have BK741 := am (hbox); have GW741 := gw hg HB; have GE741 := gw hg HB; replace HB := sb HB hb; clear hb hbox hg) | ((with_reducible refine gate_dst (N := 3) rfl ?_); refine box_event rfl (N := 3) rfl (cs := #[.int .i64 a1_0, .int .i64 a1_1, .float .f64 a1_2, .string a1_3]) (t := 50) gs ?_; intro gb742 hg w17 hbox hb; have BK742 := am (hbox); have GW742 := gw hg HB; have GE742 := gw hg HB; have NB741_742 := am ((by rw [hg]; exact Nat.ne_of_lt (blk_lt (bk BK741)) : gb741 ≠ gb742)); have NB742_741 := am ((by rw [hg]; exact Nat.ne_of_gt (blk_lt (bk BK741)) : gb742 ≠ gb741)); replace BK741 := kb BK741 hb; replace HB := sb HB hb; clear hb hbox hg; have hnb18 := NB741_742.out; have hnc18 := NB742_741.out; obtain ⟨Z19_0, Z19_1, Z19_2, Z19_3, Y19_0, Y19_1, Y19_2, Y19_3⟩ := bq4 BK741; obtain ⟨Z20_0, Z20_1, Z20_2, Z20_3, Y20_0, Y20_1, Y20_2, Y20_3⟩ := bq4 BK742))
      repeat (go_quiet (fail); try go_wp2_with (first | ((with_reducible refine gate_dst (N := 2) rfl ?_); refine box_event rfl (N := 2) rfl (cs := #[.int .i64 a0_0, .int .i64 a0_1, .float .f64 a0_2, .string a0_3]) (t := 50) gs ?_; intro gb741 hg w16 hbox hb; have BK741 := am (hbox); have GW741 := gw hg HB; have GE741 := gw hg HB; replace HB := sb HB hb; clear hb hbox hg) | ((with_reducible refine gate_dst (N := 3) rfl ?_); refine box_event rfl (N := 3) rfl (cs := #[.int .i64 a1_0, .int .i64 a1_1, .float .f64 a1_2, .string a1_3]) (t := 50) gs ?_; intro gb742 hg w17 hbox hb; have BK742 := am (hbox); have GW742 := gw hg HB; have GE742 := gw hg HB; have NB741_742 := am ((by rw [hg]; exact Nat.ne_of_lt (blk_lt (bk BK741)) : gb741 ≠ gb742)); have NB742_741 := am ((by rw [hg]; exact Nat.ne_of_gt (blk_lt (bk BK741)) : gb742 ≠ gb741)); replace BK741 := kb BK741 hb; replace HB := sb HB hb; clear hb hbox hg; have hnb18 := NB741_742.out; have hnc18 := NB742_741.out; obtain ⟨Z19_0, Z19_1, Z19_2, Z19_3, Y19_0, Y19_1, Y19_2, Y19_3⟩ := bq4 BK741; obtain ⟨Z20_0, Z20_1, Z20_2, Z20_3, Y20_0, Y20_1, Y20_2, Y20_3⟩ := bq4 BK742)))
      go_ret
      exact ⟨er, bl HB⟩
  · rw [if_neg c3] at H
    have c3b0 : (a0_0 == a1_0) = false := beq_eq_false_iff_ne.mpr c3
    have c3b1 : (a0_0 != a1_0) = true := bne_iff_ne.mpr c3
    obtain rfl := Option.some.inj H
    go_enter Tryd.func123, Tryd.ntmps123
    go_wp2_with (first | ((with_reducible refine gate_dst (N := 2) rfl ?_); refine box_event rfl (N := 2) rfl (cs := #[.int .i64 a0_0, .int .i64 a0_1, .float .f64 a0_2, .string a0_3]) (t := 50) gs ?_; intro gb741 hg w21 hbox hb; have BK741 := am (hbox); have GW741 := gw hg HB; have GE741 := gw hg HB; replace HB := sb HB hb; clear hb hbox hg) | ((with_reducible refine gate_dst (N := 3) rfl ?_); refine box_event rfl (N := 3) rfl (cs := #[.int .i64 a1_0, .int .i64 a1_1, .float .f64 a1_2, .string a1_3]) (t := 50) gs ?_; intro gb742 hg w22 hbox hb; have BK742 := am (hbox); have GW742 := gw hg HB; have GE742 := gw hg HB; have NB741_742 := am ((by rw [hg]; exact Nat.ne_of_lt (blk_lt (bk BK741)) : gb741 ≠ gb742)); have NB742_741 := am ((by rw [hg]; exact Nat.ne_of_gt (blk_lt (bk BK741)) : gb742 ≠ gb741)); replace BK741 := kb BK741 hb; replace HB := sb HB hb; clear hb hbox hg; have hnb23 := NB741_742.out; have hnc23 := NB742_741.out; obtain ⟨Z24_0, Z24_1, Z24_2, Z24_3, Y24_0, Y24_1, Y24_2, Y24_3⟩ := bq4 BK741; obtain ⟨Z25_0, Z25_1, Z25_2, Z25_3, Y25_0, Y25_1, Y25_2, Y25_3⟩ := bq4 BK742))
    repeat (go_quiet (fail); try go_wp2_with (first | ((with_reducible refine gate_dst (N := 2) rfl ?_); refine box_event rfl (N := 2) rfl (cs := #[.int .i64 a0_0, .int .i64 a0_1, .float .f64 a0_2, .string a0_3]) (t := 50) gs ?_; intro gb741 hg w21 hbox hb; have BK741 := am (hbox); have GW741 := gw hg HB; have GE741 := gw hg HB; replace HB := sb HB hb; clear hb hbox hg) | ((with_reducible refine gate_dst (N := 3) rfl ?_); refine box_event rfl (N := 3) rfl (cs := #[.int .i64 a1_0, .int .i64 a1_1, .float .f64 a1_2, .string a1_3]) (t := 50) gs ?_; intro gb742 hg w22 hbox hb; have BK742 := am (hbox); have GW742 := gw hg HB; have GE742 := gw hg HB; have NB741_742 := am ((by rw [hg]; exact Nat.ne_of_lt (blk_lt (bk BK741)) : gb741 ≠ gb742)); have NB742_741 := am ((by rw [hg]; exact Nat.ne_of_gt (blk_lt (bk BK741)) : gb742 ≠ gb741)); replace BK741 := kb BK741 hb; replace HB := sb HB hb; clear hb hbox hg; have hnb23 := NB741_742.out; have hnc23 := NB742_741.out; obtain ⟨Z24_0, Z24_1, Z24_2, Z24_3, Y24_0, Y24_1, Y24_2, Y24_3⟩ := bq4 BK741; obtain ⟨Z25_0, Z25_1, Z25_2, Z25_3, Y25_0, Y25_1, Y25_2, Y25_3⟩ := bq4 BK742)))
    go_ret
    exact ⟨er, bl HB⟩
def row_same.f (a0_0 : Int) (a0_1 : Int) (a0_2 : Nat) (a0_3 : ByteArray) (a1_0 : Int) (a1_1 : Int) (a1_2 : Nat) (a1_3 : ByteArray) : Option (Bool) := (value_Same.f a0_0 a0_1 a0_2 a0_3 a1_0 a1_1 a1_2 a1_3).bind fun t745 => (some t745)
set_option maxHeartbeats 8000000 in
set_option maxRecDepth 100000 in
theorem row_same.calls (a0_0 : Int) (a0_1 : Int) (a0_2 : Nat) (a0_3 : ByteArray) (a1_0 : Int) (a1_1 : Int) (a1_2 : Nat) (a1_3 : ByteArray) (r : Bool) (w : World) (h : row_same.f a0_0 a0_1 a0_2 a0_3 a1_0 a1_1 a1_2 a1_3 = some r) :
    Calls Tryd.prog 88 #[.agg #[.int .i64 a0_0, .int .i64 a0_1, .float .f64 a0_2, .string a0_3], .agg #[.int .i64 a1_0, .int .i64 a1_1, .float .f64 a1_2, .string a1_3]] w fun e w' => e = .returned (.bool r) ∧ Below w.heap.size w w' := by
  have hu50 := Tryd.underlying50
  have HB := am (Below.refl w.heap.size w)
  have H : ((value_Same.f a0_0 a0_1 a0_2 a0_3 a1_0 a1_1 a1_2 a1_3).bind fun t745 => (some t745)) = some r := h
  clear h
  replace H := Option.bind_eq_some_iff.mp H
  obtain ⟨t745, A30, H⟩ := H
  replace H : (some t745) = some r := H
  have A3 := am A30
  clear A30
  obtain rfl := Option.some.inj H
  go_enter Tryd.func88, Tryd.ntmps88
  go_wp2_with (first | ((with_reducible refine gate_dst (N := 2) rfl ?_); refine box_event rfl (N := 2) rfl (cs := #[.int .i64 a0_0, .int .i64 a0_1, .float .f64 a0_2, .string a0_3]) (t := 50) gs ?_; intro gb743 hg w4 hbox hb; have BK743 := am (hbox); have GW743 := gw hg HB; have GE743 := gw hg HB; replace HB := sb HB hb; clear hb hbox hg) | ((with_reducible refine gate_dst (N := 3) rfl ?_); refine box_event rfl (N := 3) rfl (cs := #[.int .i64 a1_0, .int .i64 a1_1, .float .f64 a1_2, .string a1_3]) (t := 50) gs ?_; intro gb744 hg w5 hbox hb; have BK744 := am (hbox); have GW744 := gw hg HB; have GE744 := gw hg HB; have NB743_744 := am ((by rw [hg]; exact Nat.ne_of_lt (blk_lt (bk BK743)) : gb743 ≠ gb744)); have NB744_743 := am ((by rw [hg]; exact Nat.ne_of_gt (blk_lt (bk BK743)) : gb744 ≠ gb743)); replace BK743 := kb BK743 hb; replace HB := sb HB hb; clear hb hbox hg; have hnb6 := NB743_744.out; have hnc6 := NB744_743.out; obtain ⟨Z7_0, Z7_1, Z7_2, Z7_3, Y7_0, Y7_1, Y7_2, Y7_3⟩ := bq4 BK743; obtain ⟨Z8_0, Z8_1, Z8_2, Z8_3, Y8_0, Y8_1, Y8_2, Y8_3⟩ := bq4 BK744) | ((with_reducible refine gate_callee (f := 123) rfl ?_); refine goesL_ (some 7) rfl rfl Tryd.func123 (by kernel_rfl) rfl #[.agg #[.int .i64 a0_0, .int .i64 a0_1, .float .f64 a0_2, .string a0_3], .agg #[.int .i64 a1_0, .int .i64 a1_1, .float .f64 a1_2, .string a1_3]] rfl ar ?_; (with_reducible refine (value_Same.calls a0_0 a0_1 a0_2 a0_3 a1_0 a1_1 a1_2 a1_3 t745 _ A3.out).mono ?_); rintro e w9 ⟨rfl, hb⟩; refine ⟨_, rfl, ?_⟩; replace BK743 := kb BK743 hb; replace BK744 := kb BK744 hb; replace HB := sb HB hb; (try clear hb); (try clear hb2 hk hi)))
  go_ret
  exact ⟨er, bl HB⟩
end Go.Proofs.YtpiifdbicibelaaDoor.PA
end
section
namespace Go.Proofs.YtpiifdbicibelaaDoor.Pure
open Go.RowKit Go.Proofs Go.Proofs.YtpiifdbicibelaaDoorW.PrintWords Go.Proofs.YtpiifdbicibelaaDoorW.PrintLast Go.Proofs.YtpiifdbicibelaaDoorW.PrintMore Go.Proofs.YtpiifdbicibelaaDoor.PA Go.Proofs.YtpiifdbicibelaaDoor.OpenK
set_option linter.unusedVariables false
set_option linter.unusedSimpArgs false
theorem or128 (a : Int) (h : 0 ≤ a ∧ a ≤ 255) : Go.bits .or .u8 a 128 = a % 128 + 128 := by
  have hall : ∀ x : Fin 256, Go.bits .or .u8 (x.val : Int) 128 = (x.val : Int) % 128 + 128 := by decide +kernel
  have := hall ⟨a.toNat, by omega⟩
  have e : ((a.toNat : Nat) : Int) = a := by omega
  simpa [e] using this
theorem or128_64 (x : Int) (h0 : 0 ≤ x) (h1 : x < 18446744073709551616) : (Go.bits .or .u64 (Go.bits .and .u64 x 127) 128) % 256 = x % 128 + 128 := by
  have e1 : Go.bits .and .u64 x 127 = IntKind.u64.wrap (((BitVec.ofInt 64 x) &&& (BitVec.ofInt 64 127)).toNat : Int) := rfl
  have e2 : (BitVec.ofInt 64 127).toNat = 2 ^ 7 - 1 := by decide
  have e3 : Go.bits .and .u64 x 127 = x % 128 := by
    rw [e1, BitVec.toNat_and, e2, Nat.and_two_pow_sub_one_eq_mod, BitVec.toNat_ofInt, u64_wrap]
    omega
  rw [e3]
  have hall : ∀ y : Fin 128, (Go.bits .or .u64 (y.val : Int) 128) % 256 = (y.val : Int) + 128 := by decide +kernel
  have := hall ⟨(x % 128).toNat, by omega⟩
  have e : (((x % 128).toNat : Nat) : Int) = x % 128 := by omega
  simpa [e] using this
def vb (n : Nat) : List Int := if h : 128 ≤ n then ((n % 128 + 128 : Nat) : Int) :: vb (n / 128) else [(n : Int)]
decreasing_by omega
theorem vb_length : ∀ (m n : Nat), n < 128 ^ (m + 1) → (vb n).length ≤ m + 1
  | 0, n, h => by
    unfold vb
    rw [dif_neg (by omega)]; simp
  | m + 1, n, h => by
    unfold vb
    split
    · have := vb_length m (n / 128) (by rw [Nat.pow_succ] at h; omega)
      simp; omega
    · simp
theorem varint_code : ∀ (m n : Nat) (acc : List Int), n < 128 ^ (m + 1) → n < 18446744073709551616 → acc.length + m + 1 < 140737488355328 → Ev (fun k => row_putVarint.l0 k acc (n : Int)) (acc ++ vb n)
  | 0, n, acc, h, _, hl => by
    refine Ev.from_ 1 fun k => ?_
    simp only [row_putVarint.l0]
    rw [if_neg (by omega), if_pos (by omega)]
    unfold vb
    rw [dif_neg (by omega)]
    have : (n : Int) % 256 = (n : Int) := by omega
    rw [this]
  | m + 1, n, acc, h, h64, hl => by
    by_cases hb : 128 ≤ n
    · have e1 : ((n : Int) % 256) % 128 + 128 = ((n % 128 + 128 : Nat) : Int) := by omega
      have e2 : (n : Int) / 128 = ((n / 128 : Nat) : Int) := by omega
      have ih := varint_code m (n / 128) (acc ++ [((n % 128 + 128 : Nat) : Int)]) (by rw [Nat.pow_succ] at h; omega) (by omega) (by simp; omega)
      refine Ev.step (g := fun k => row_putVarint.l0 k (acc ++ [((n % 128 + 128 : Nat) : Int)]) ((n / 128 : Nat) : Int)) (fun k => ?_) ?_
      · simp only [row_putVarint.l0]
        rw [if_pos (by omega), if_pos (by omega), or128 _ (by omega), e1, e2]
      · have e3 : vb n = ((n % 128 + 128 : Nat) : Int) :: vb (n / 128) := by
          rw [vb.eq_1 n, dif_pos hb]
        rw [e3]
        simpa using ih
    · refine Ev.from_ 1 fun k => ?_
      simp only [row_putVarint.l0]
      rw [if_neg (by omega), if_pos (by omega)]
      have e3 : vb n = [(n : Int)] := by rw [vb.eq_1 n, dif_neg hb]
      have : (n : Int) % 256 = (n : Int) := by omega
      rw [this, e3]
theorem varint_ref : ∀ (m n : Nat) (acc : List Int), n < 128 ^ (m + 1) → n < 18446744073709551616 → acc.length + m + 1 < 140737488355328 → Ev (fun k => vellumref04_varint.l0 k (n : Int) acc) (acc ++ vb n)
  | 0, n, acc, h, _, hl => by
    refine Ev.from_ 1 fun k => ?_
    simp only [vellumref04_varint.l0]
    rw [if_neg (by omega), if_pos (by omega)]
    unfold vb
    rw [dif_neg (by omega)]
    have : (n : Int) % 256 = (n : Int) := by omega
    rw [this]
  | m + 1, n, acc, h, h64, hl => by
    by_cases hb : 128 ≤ n
    · have e1 : (n : Int) % 128 + 128 = ((n % 128 + 128 : Nat) : Int) := by omega
      have e2 : (n : Int) / 128 = ((n / 128 : Nat) : Int) := by omega
      have ih := varint_ref m (n / 128) (acc ++ [((n % 128 + 128 : Nat) : Int)]) (by rw [Nat.pow_succ] at h; omega) (by omega) (by simp; omega)
      refine Ev.step (g := fun k => vellumref04_varint.l0 k ((n / 128 : Nat) : Int) (acc ++ [((n % 128 + 128 : Nat) : Int)])) (fun k => ?_) ?_
      · simp only [vellumref04_varint.l0]
        rw [if_pos (by omega), if_pos (by omega), or128_64 _ (by omega) (by omega), e1, e2]
      · have e3 : vb n = ((n % 128 + 128 : Nat) : Int) :: vb (n / 128) := by
          rw [vb.eq_1 n, dif_pos hb]
        rw [e3]
        simpa using ih
    · refine Ev.from_ 1 fun k => ?_
      simp only [vellumref04_varint.l0]
      rw [if_neg (by omega), if_pos (by omega)]
      have e3 : vb n = [(n : Int)] := by rw [vb.eq_1 n, dif_neg hb]
      have : (n : Int) % 256 = (n : Int) := by omega
      rw [this, e3]
def zz (n : Int) : Nat := if 0 ≤ n then (2 * n).toNat else (-2 * n - 1).toNat
theorem zz_lt {n : Int} (h : (Lit.int .i64 n).wf = true) : zz n < 18446744073709551616 := by
  obtain ⟨h0, h1⟩ := isInt_range h
  unfold zz
  split <;> omega
theorem xor_u64 (x y : Nat) (hx : x < 2 ^ 64) (hy : y < 2 ^ 64) : Go.bits .xor .u64 (x : Int) (y : Int) = ((x ^^^ y : Nat) : Int) := by
  have e1 : Go.bits .xor .u64 (x : Int) (y : Int) = IntKind.u64.wrap (((BitVec.ofInt 64 (x : Int)) ^^^ (BitVec.ofInt 64 (y : Int))).toNat : Int) := rfl
  have hlt := Nat.xor_lt_two_pow hx hy
  rw [e1, BitVec.toNat_xor, BitVec.toNat_ofInt, BitVec.toNat_ofInt, u64_wrap]
  have h1 : ((x : Int) % ((2 ^ 64 : Nat) : Int)).toNat = x := by omega
  have h2 : ((y : Int) % ((2 ^ 64 : Nat) : Int)).toNat = y := by omega
  rw [h1, h2]
  omega
theorem zigzag_code {n : Int} (h : (Lit.int .i64 n).wf = true) : row_zigzag.f n = some (zz n : Int) := by
  obtain ⟨h0, h1⟩ := isInt_range h
  unfold row_zigzag.f zz
  congr 1
  by_cases hp : 0 ≤ n
  · have e1 : n / 9223372036854775808 = 0 := by omega
    rw [if_pos hp, e1, u64_wrap, u64_wrap, u64_wrap]
    have e2 : (n % 18446744073709551616 * 2) % 18446744073709551616 = (((2 * n).toNat : Nat) : Int) := by omega
    have e3 : (0 : Int) % 18446744073709551616 = ((0 : Nat) : Int) := rfl
    rw [e2, e3, xor_u64 _ _ (by omega) (by decide), Nat.xor_zero]
  · have e1 : n / 9223372036854775808 = -1 := by omega
    rw [if_neg hp, e1, u64_wrap, u64_wrap, u64_wrap]
    have e2 : (n % 18446744073709551616 * 2) % 18446744073709551616 = (((2 * n + 18446744073709551616).toNat : Nat) : Int) := by omega
    have e3 : (-1 : Int) % 18446744073709551616 = ((2 ^ 64 - 1 : Nat) : Int) := by decide
    rw [e2, e3, xor_u64 _ _ (by omega) (by decide), xor_ones _ _ (by omega)]
    omega
theorem zigzag_ref {n : Int} (h : (Lit.int .i64 n).wf = true) : vellumref04_zigzag.f n = some (zz n : Int) := by
  obtain ⟨h0, h1⟩ := isInt_range h
  unfold vellumref04_zigzag.f zz
  by_cases hp : 0 ≤ n
  · rw [if_pos (by omega), if_pos hp, u64_wrap, u64_wrap]
    congr 1; omega
  · rw [if_neg (by omega), if_neg hp, wrap64_id (n := n + 1) (by omega) (by omega), wrap64_id (n := -(n + 1)) (by omega) (by omega), u64_wrap, u64_wrap, u64_wrap]
    congr 1; omega
def lowB (n : Int) (i m : Nat) : List Int := (List.range' i m).map fun (j : Nat) => (shr .u64 n (8 * (j : Int))) % 256
theorem low_code (n : Int) : ∀ (m i : Nat) (acc : List Int), i + m = 8 → acc.length + m < 140737488355328 → Ev (fun k => row_putLow.l0 k acc n (i : Int)) (acc ++ lowB n i m)
  | 0, i, acc, h, hl => by
    refine Ev.from_ 1 fun k => ?_
    simp only [row_putLow.l0]
    rw [if_neg (by omega)]; simp [lowB]
  | m + 1, i, acc, h, hl => by
    have ih := low_code n m (i + 1) (acc ++ [(shr .u64 n (8 * (i : Int))) % 256]) (by omega) (by simp; omega)
    refine Ev.step (g := fun k => row_putLow.l0 k (acc ++ [(shr .u64 n (8 * (i : Int))) % 256]) n ((i + 1 : Nat) : Int)) (fun k => ?_) ?_
    · simp only [row_putLow.l0]
      rw [wrap64_id (n := 8 * (i : Int)) (by omega) (by omega), wrap64_id (n := (i : Int) + 1) (by omega) (by omega), if_pos (by omega), if_pos (by omega), if_pos (by omega)]
      rfl
    · have : lowB n i (m + 1) = (shr .u64 n (8 * (i : Int))) % 256 :: lowB n (i + 1) m := rfl
      rw [this]
      simpa using ih
theorem low_ref (n : Int) : ∀ (m i : Nat) (acc : List Int), i + m = 8 → acc.length + m < 140737488355328 → Ev (fun k => vellumref04_told.l0 k acc n (i : Int)) (acc ++ lowB n i m)
  | 0, i, acc, h, hl => by
    refine Ev.from_ 1 fun k => ?_
    simp only [vellumref04_told.l0]
    rw [if_neg (by omega)]; simp [lowB]
  | m + 1, i, acc, h, hl => by
    have ih := low_ref n m (i + 1) (acc ++ [(shr .u64 n (8 * (i : Int))) % 256]) (by omega) (by simp; omega)
    refine Ev.step (g := fun k => vellumref04_told.l0 k (acc ++ [(shr .u64 n (8 * (i : Int))) % 256]) n ((i + 1 : Nat) : Int)) (fun k => ?_) ?_
    · simp only [vellumref04_told.l0]
      rw [wrap64_id (n := 8 * (i : Int)) (by omega) (by omega), wrap64_id (n := (i : Int) + 1) (by omega) (by omega), u64_wrap_id (n := 8 * (i : Int)) (by omega) (by omega), if_pos (by omega), if_pos (by omega), if_pos (by omega)]
      rfl
    · have : lowB n i (m + 1) = (shr .u64 n (8 * (i : Int))) % 256 :: lowB n (i + 1) m := rfl
      rw [this]
      simpa using ih
def toldB (v : S50) : List Int := if v.f0 = 2 then vb (zz v.f1) else if v.f0 = 3 then lowB (v.f2 : Int) 0 8 else if v.f0 = 4 ∨ v.f0 = 5 then vb v.f3.size ++ bytesOf v.f3 else []
theorem p128 : (18446744073709551616 : Nat) ≤ 128 ^ (9 + 1) := by decide
theorem bytesOf_length (s : ByteArray) : (bytesOf s).length = s.size := by simp [bytesOf]
theorem toldB_length {v : S50} (hw : wf50 v) (hs : v.f3.size ≤ 65536) : (toldB v).length ≤ 65546 := by
  unfold toldB
  split
  · have := vb_length 9 (zz v.f1) (Nat.lt_of_lt_of_le (zz_lt hw.2.1) p128); omega
  · split
    · simp [lowB]
    · split
      · have := vb_length 9 v.f3.size (Nat.lt_of_lt_of_le (by omega) p128)
        rw [List.length_append, bytesOf_length]; omega
      · simp
theorem row_put_ev (acc : List Int) {v : S50} (hw : wf50 v) (hs : v.f3.size ≤ 65536) (hl : acc.length + 100000 < 140737488355328) : Ev (fun k => row_put.f k acc v.f0 v.f1 v.f2 v.f3) (acc ++ toldB v) := by
  simp only [row_put.f, toldB, row_putVarint.f, row_putLow.f]
  by_cases h2 : v.f0 = 2
  · rw [if_pos h2]
    exact Ev.pos h2 (Ev.bind (Ev.const (zigzag_code hw.2.1)) (Ev.bind (varint_code 9 _ acc (Nat.lt_of_lt_of_le (zz_lt hw.2.1) p128) (zz_lt hw.2.1) (by omega)) Ev.pure))
  rw [if_neg h2]
  refine Ev.neg h2 ?_
  by_cases h3 : v.f0 = 3
  · rw [if_pos h3]
    exact Ev.pos h3 (Ev.bind (low_code (v.f2 : Int) 8 0 acc rfl (by omega)) Ev.pure)
  rw [if_neg h3]
  refine Ev.neg h3 ?_
  have hvl := vb_length 9 v.f3.size (Nat.lt_of_lt_of_le (by omega) p128)
  have hv := varint_code 9 v.f3.size acc (Nat.lt_of_lt_of_le (by omega) p128) (by omega) (by omega)
  have hwr : IntKind.u64.wrap (v.f3.size : Int) = (v.f3.size : Int) := u64_wrap_id (by omega) (by omega)
  rw [hwr]
  by_cases h4 : v.f0 = 4
  · rw [if_pos (.inl h4)]
    refine Ev.pos h4 (Ev.bind hv (Ev.pos (by rw [List.length_append]; omega) ?_))
    rw [List.append_assoc]; exact Ev.pure
  refine Ev.neg h4 ?_
  by_cases h5 : v.f0 = 5
  · rw [if_pos (.inr h5)]
    refine Ev.pos h5 (Ev.bind hv (Ev.pos (by rw [List.length_append]; omega) ?_))
    rw [List.append_assoc]; exact Ev.pure
  · rw [if_neg (by omega), List.append_nil]
    exact Ev.neg h5 Ev.pure
theorem told_ev {v : S50} (hw : wf50 v) (hs : v.f3.size ≤ 65536) : Ev (fun k => vellumref04_told.f k v.f0 v.f1 v.f2 v.f3) (toldB v) := by
  simp only [vellumref04_told.f, toldB, vellumref04_varint.f]
  by_cases h2 : v.f0 = 2
  · rw [if_pos h2]
    exact Ev.pos h2 (Ev.bind (Ev.const (zigzag_ref hw.2.1)) (Ev.bind (varint_ref 9 _ [] (Nat.lt_of_lt_of_le (zz_lt hw.2.1) p128) (zz_lt hw.2.1) (by simp)) Ev.pure))
  rw [if_neg h2]
  refine Ev.neg h2 ?_
  by_cases h3 : v.f0 = 3
  · rw [if_pos h3]
    exact Ev.pos h3 (low_ref (v.f2 : Int) 8 0 [] rfl (by simp))
  rw [if_neg h3]
  refine Ev.neg h3 ?_
  have hvl := vb_length 9 v.f3.size (Nat.lt_of_lt_of_le (by omega) p128)
  have hv := varint_ref 9 v.f3.size [] (Nat.lt_of_lt_of_le (by omega) p128) (by omega) (by simp)
  have hwr : IntKind.u64.wrap (v.f3.size : Int) = (v.f3.size : Int) := u64_wrap_id (by omega) (by omega)
  rw [hwr]
  by_cases h4 : v.f0 = 4
  · rw [if_pos (.inl h4)]
    exact Ev.pos h4 (Ev.bind hv (Ev.pos (by rw [List.nil_append]; omega) Ev.pure))
  refine Ev.neg h4 ?_
  by_cases h5 : v.f0 = 5
  · rw [if_pos (.inr h5)]
    exact Ev.pos h5 (Ev.bind hv (Ev.pos (by rw [List.nil_append]; omega) Ev.pure))
  · rw [if_neg (by omega)]
    exact Ev.neg h5 Ev.pure
def mark (v : S50) : Int := if v.f0 = 0 then 0 else if v.f0 = 1 then (if v.f1 = 1 then 2 else 1) else 1
theorem mark_code (v : S50) : row_mark.f v.f0 v.f1 v.f2 v.f3 = some (mark v) := by
  unfold row_mark.f mark
  repeat' split
  all_goals rfl
theorem mark_ref (v : S50) : vellumref04_pair.f v.f0 v.f1 v.f2 v.f3 = some (mark v) := by
  unfold vellumref04_pair.f mark
  repeat' split
  all_goals rfl
def setM : List S50 → Nat → List Int → List Int
  | [], _, acc => acc
  | v :: vs, i, acc => setM vs (i + 1) (acc.set (i / 4) (Go.bits .or .u8 (rd acc ((i / 4 : Nat) : Int)) (shl .u8 (mark v) ((2 * (i % 4) : Nat) : Int))))
theorem setM_length : ∀ (vs : List S50) (i : Nat) (acc : List Int), (setM vs i acc).length = acc.length
  | [], _, _ => rfl
  | v :: vs, i, acc => by simp only [setM]; rw [setM_length vs]; simp
/-- A row's bytes. -/
def rowB (xs : List S50) : List Int := setM xs 0 (List.replicate ((xs.length + 3) / 4) 0) ++ xs.flatMap toldB
theorem tdiv4 (i : Nat) : Int.tdiv (i : Int) 4 = ((i / 4 : Nat) : Int) := rfl
theorem tmod4 (i : Nat) : Int.tmod (i : Int) 4 = ((i % 4 : Nat) : Int) := rfl
theorem tails_code (xs : List S50) (hn : xs.length ≤ 1000) (hw : ∀ v ∈ xs, wf50 v ∧ v.f3.size ≤ 65536) : ∀ (m i : Nat) (acc : List Int), i + m = xs.length → acc.length ≤ 1000 + i * 65546 →
    Ev (fun k => row_encode.l1 k acc xs (xs.length : Int) (i : Int)) (acc ++ (xs.drop i).flatMap toldB)
  | 0, i, acc, h, _ => by
    refine Ev.from_ 1 fun k => ?_
    simp only [row_encode.l1]
    rw [if_neg (by omega), List.drop_of_length_le (by omega)]; simp
  | m + 1, i, acc, h, hl => by
    have hlt : i < xs.length := by omega
    have hx : xs[i]? = some xs[i] := List.getElem?_eq_getElem hlt
    obtain ⟨w1, w2⟩ := hw xs[i] (List.getElem_mem hlt)
    have hL := toldB_length w1 w2
    have ih := tails_code xs hn hw m (i + 1) (acc ++ toldB xs[i]) (by omega) (by rw [List.length_append]; omega)
    refine Ev.step (g := fun k => (row_put.f k acc xs[i].f0 xs[i].f1 xs[i].f2 xs[i].f3).bind fun t609 => (row_encode.l1 k t609 xs (xs.length : Int) ((i + 1 : Nat) : Int))) (fun k => ?_) (Ev.bind (row_put_ev acc w1 w2 (by omega)) ?_)
    · simp only [row_encode.l1]
      rw [if_pos (by omega), if_pos (by omega), if_pos (by omega), rd_get xs i _ hx, wrap64_id (by omega) (by omega)]
      rfl
    · rw [List.drop_eq_getElem_cons hlt, List.flatMap_cons, ← List.append_assoc]
      exact ih
theorem tails_ref (xs : List S50) (hn : xs.length ≤ 1000) (hw : ∀ v ∈ xs, wf50 v ∧ v.f3.size ≤ 65536) : ∀ (m i : Nat) (acc : List Int), i + m = xs.length → acc.length ≤ 1000 + i * 65546 →
    Ev (fun k => vellumref04_bytesOf.l1 k xs acc (i : Int)) (acc ++ (xs.drop i).flatMap toldB)
  | 0, i, acc, h, _ => by
    refine Ev.from_ 1 fun k => ?_
    simp only [vellumref04_bytesOf.l1]
    rw [if_neg (by omega), List.drop_of_length_le (by omega)]; simp
  | m + 1, i, acc, h, hl => by
    have hlt : i < xs.length := by omega
    have hx : xs[i]? = some xs[i] := List.getElem?_eq_getElem hlt
    obtain ⟨w1, w2⟩ := hw xs[i] (List.getElem_mem hlt)
    have hL := toldB_length w1 w2
    have ih := tails_ref xs hn hw m (i + 1) (acc ++ toldB xs[i]) (by omega) (by rw [List.length_append]; omega)
    refine Ev.step (g := fun k => (vellumref04_told.f k xs[i].f0 xs[i].f1 xs[i].f2 xs[i].f3).bind fun t699 => (if acc.length + t699.length < 140737488355328 then (vellumref04_bytesOf.l1 k xs (acc ++ t699) ((i + 1 : Nat) : Int)) else (none))) (fun k => ?_) (Ev.bind (told_ev w1 w2) (Ev.pos (by omega) ?_))
    · simp only [vellumref04_bytesOf.l1]
      rw [if_pos (by omega), if_pos (by omega), rd_get xs i _ hx, wrap64_id (by omega) (by omega)]
      rfl
    · rw [List.drop_eq_getElem_cons hlt, List.flatMap_cons, ← List.append_assoc]
      exact ih
theorem marks_code (xs : List S50) (hn : xs.length ≤ 1000) (b : List Int → List Int) (hb : ∀ acc : List Int, acc.length = (xs.length + 3) / 4 → Ev (fun k => row_encode.l1 k acc xs (xs.length : Int) 0) (b acc)) : ∀ (m i : Nat) (acc : List Int), i + m = xs.length → acc.length = (xs.length + 3) / 4 →
    Ev (fun k => row_encode.l0 k xs acc xs (xs.length : Int) (i : Int)) (b (setM (xs.drop i) i acc))
  | 0, i, acc, h, hl => by
    rw [List.drop_of_length_le (by omega)]
    refine Ev.step (g := fun k => row_encode.l1 k acc xs (xs.length : Int) 0) (fun k => ?_) (hb acc hl)
    simp only [row_encode.l0]
    rw [if_neg (by omega)]
  | m + 1, i, acc, h, hl => by
    have hlt : i < xs.length := by omega
    have hx : xs[i]? = some xs[i] := List.getElem?_eq_getElem hlt
    have ih := marks_code xs hn b hb m (i + 1) (acc.set (i / 4) (Go.bits .or .u8 (rd acc ((i / 4 : Nat) : Int)) (shl .u8 (mark xs[i]) ((2 * (i % 4) : Nat) : Int)))) (by omega) (by simpa using hl)
    rw [List.drop_eq_getElem_cons hlt]
    refine Ev.step (g := fun k => row_encode.l0 k xs (acc.set (i / 4) (Go.bits .or .u8 (rd acc ((i / 4 : Nat) : Int)) (shl .u8 (mark xs[i]) ((2 * (i % 4) : Nat) : Int)))) xs (xs.length : Int) ((i + 1 : Nat) : Int)) (fun k => ?_) ih
    simp only [row_encode.l0, tdiv4, tmod4]
    rw [wrap64_id (n := ((i / 4 : Nat) : Int)) (by omega) (by omega), wrap64_id (n := 2 * ((i % 4 : Nat) : Int)) (by omega) (by omega), wrap64_id (n := (i : Int) + 1) (by omega) (by omega), rd_get xs i _ hx, mark_code]
    rw [if_pos (by omega), if_pos (by omega), if_pos (by omega), if_pos (by omega), if_pos (by omega)]
    simp only [Option.bind_some]
    rw [if_pos (by omega)]
    have e : 2 * ((i % 4 : Nat) : Int) = ((2 * (i % 4) : Nat) : Int) := by omega
    rw [e]
    rfl
theorem marks_ref (xs : List S50) (hn : xs.length ≤ 1000) (b : List Int → List Int) (hb : ∀ acc : List Int, acc.length = (xs.length + 3) / 4 → Ev (fun k => vellumref04_bytesOf.l1 k xs acc 0) (b acc)) : ∀ (m i : Nat) (acc : List Int), i + m = xs.length → acc.length = (xs.length + 3) / 4 →
    Ev (fun k => vellumref04_bytesOf.l0 k xs acc (i : Int)) (b (setM (xs.drop i) i acc))
  | 0, i, acc, h, hl => by
    rw [List.drop_of_length_le (by omega)]
    refine Ev.step (g := fun k => vellumref04_bytesOf.l1 k xs acc 0) (fun k => ?_) (hb acc hl)
    simp only [vellumref04_bytesOf.l0]
    rw [if_neg (by omega)]
  | m + 1, i, acc, h, hl => by
    have hlt : i < xs.length := by omega
    have hx : xs[i]? = some xs[i] := List.getElem?_eq_getElem hlt
    have ih := marks_ref xs hn b hb m (i + 1) (acc.set (i / 4) (Go.bits .or .u8 (rd acc ((i / 4 : Nat) : Int)) (shl .u8 (mark xs[i]) ((2 * (i % 4) : Nat) : Int)))) (by omega) (by simpa using hl)
    rw [List.drop_eq_getElem_cons hlt]
    refine Ev.step (g := fun k => vellumref04_bytesOf.l0 k xs (acc.set (i / 4) (Go.bits .or .u8 (rd acc ((i / 4 : Nat) : Int)) (shl .u8 (mark xs[i]) ((2 * (i % 4) : Nat) : Int)))) ((i + 1 : Nat) : Int)) (fun k => ?_) ih
    simp only [vellumref04_bytesOf.l0, tdiv4, tmod4]
    rw [wrap64_id (n := ((i / 4 : Nat) : Int)) (by omega) (by omega), wrap64_id (n := ((i % 4 : Nat) : Int) * 2) (by omega) (by omega), wrap64_id (n := (i : Int) + 1) (by omega) (by omega), u64_wrap_id (n := ((i % 4 : Nat) : Int) * 2) (by omega) (by omega), rd_get xs i _ hx, mark_ref]
    rw [if_pos (by omega), if_pos (by omega), if_pos (by omega), if_pos (by omega)]
    simp only [Option.bind_some]
    rw [if_pos (by omega)]
    have e : ((i % 4 : Nat) : Int) * 2 = ((2 * (i % 4) : Nat) : Int) := by omega
    rw [e]
    rfl
theorem rowB_code (xs : List S50) (hn : xs.length ≤ 1000) (hw : ∀ v ∈ xs, wf50 v ∧ v.f3.size ≤ 65536) : Ev (fun k => row_encode.f k xs) (rowB xs) := by
  have e1 : wrap64 (Int.tdiv (wrap64 ((wrap64 (2 * (xs.length : Int))) + 7)) 8) = (((xs.length + 3) / 4 : Nat) : Int) := by
    rw [wrap64_id (n := 2 * (xs.length : Int)) (by omega) (by omega), wrap64_id (n := 2 * (xs.length : Int) + 7) (by omega) (by omega)]
    have e : Int.tdiv (2 * (xs.length : Int) + 7) 8 = (((2 * xs.length + 7) / 8 : Nat) : Int) := rfl
    rw [e, wrap64_id (by omega) (by omega)]; omega
  simp only [row_encode.f, e1]
  refine Ev.pos (by omega) (Ev.pos (by omega) ?_)
  have := marks_code xs hn (fun acc => acc ++ xs.flatMap toldB) (fun acc hl => by
    have := tails_code xs hn hw xs.length 0 acc (by omega) (by omega)
    simpa using this) xs.length 0 (List.replicate ((xs.length + 3) / 4) 0) (by omega) (by simp)
  exact this
theorem rowB_ref (xs : List S50) (hn : xs.length ≤ 1000) (hw : ∀ v ∈ xs, wf50 v ∧ v.f3.size ≤ 65536) : Ev (fun k => vellumref04_bytesOf.f k xs) (rowB xs) := by
  have e1 : wrap64 (Int.tdiv (wrap64 ((xs.length : Int) + 3)) 4) = (((xs.length + 3) / 4 : Nat) : Int) := by
    rw [wrap64_id (n := (xs.length : Int) + 3) (by omega) (by omega)]
    have e : Int.tdiv ((xs.length : Int) + 3) 4 = (((xs.length + 3) / 4 : Nat) : Int) := rfl
    rw [e, wrap64_id (by omega) (by omega)]
  simp only [vellumref04_bytesOf.f, e1]
  refine Ev.pos (by omega) (Ev.pos (by omega) ?_)
  have := marks_ref xs hn (fun acc => acc ++ xs.flatMap toldB) (fun acc hl => by
    have := tails_ref xs hn hw xs.length 0 acc (by omega) (by omega)
    simpa using this) xs.length 0 (List.replicate ((xs.length + 3) / 4) 0) (by omega) (by simp)
  exact this
theorem admRow_ok : ∀ {cs : List S105} {vs : List S50}, vs.length ≤ cs.length → admRow cs vs = 0 → ∀ v ∈ vs, chkV v = 0
  | _, [], _, _ => by simp
  | [], v :: vs, h, _ => by simp at h
  | c :: cs, v :: vs, h, h0 => by
    simp only [admRow] at h0
    by_cases hc : chk v.f0 v.f1 v.f2 v.f3 = 0
    · rw [if_neg (by simp [hc])] at h0
      have hr : admRow cs vs = 0 := by
        by_cases h1 : v.f0 = 0
        · rw [if_pos h1] at h0
          by_cases h2 : c.f2 = true
          · rwa [if_pos h2] at h0
          · rw [if_neg h2] at h0; cases h0
        · rw [if_neg h1] at h0
          by_cases h2 : v.f0 = c.f1
          · rwa [if_pos h2] at h0
          · rw [if_neg h2] at h0; cases h0
      intro x hx
      rcases List.mem_cons.1 hx with rfl | hx
      · exact hc
      · exact admRow_ok (by simpa using h) hr x hx
    · rw [if_pos hc] at h0; exact absurd h0 hc
theorem checkT_len {a : ByteArray} {c : List S105} {d : List Int} {e : List S115} {f : List S139} (h : checkT a c d e f = 0) : c.length ≤ 64 := by
  unfold checkT at h
  split at h
  · cases h
  · split at h
    · cases h
    · rename_i h2; omega
theorem admT_ok {a : ByteArray} {c : List S105} {d : List Int} {e : List S115} {f : List S139} {row : List S50} (h : admT a c d e f row = 0) : row.length ≤ 64 ∧ ∀ v ∈ row, chkV v = 0 := by
  unfold admT at h
  by_cases h0 : checkT a c d e f = 0
  · rw [if_neg (by simp [h0])] at h
    by_cases h1 : row.length = c.length
    · rw [if_neg (by simp [h1])] at h
      exact ⟨by rw [h1]; exact checkT_len h0, admRow_ok (by omega) h⟩
    · rw [if_pos h1] at h; cases h
  · rw [if_pos h0] at h; exact absurd h h0
theorem wf65_T {x : S65} (h : wf65 x) : WfT x.f0 x.f1 x.f2 x.f3 x.f4 := by
  obtain ⟨h0, h1, h2, h3, h4⟩ := h
  exact ⟨h0, fun c hc => ⟨(h1.2 c hc).1, (h1.2 c hc).2.2.2.2.2.2⟩, by omega, fun y hy => ⟨(h3.2 y hy).1, by have := (h3.2 y hy).2.1.1; omega⟩, fun y hy => ⟨(h4.2 y hy).2, by have := (h4.2 y hy).1.1; omega⟩⟩
theorem wfT_wfTB {a : ByteArray} {c : List S105} {d : List Int} {e : List S115} {f : List S139} (h : WfT a c d e f) : wfTB a c d e f = true := by
  unfold wfTB
  simp only [Bool.and_eq_true, decide_eq_true_eq, List.all_eq_true]
  exact ⟨⟨⟨⟨h.name, fun x hx => h.cols x hx⟩, h.key⟩, fun x hx => h.idx x hx⟩, fun x hx => h.refs x hx⟩
theorem admits_f {a : ByteArray} {c : List S105} {d : List Int} {e : List S115} {f : List S139} {row : List S50} (h : WfT a c d e f) (hr : ∀ v ∈ row, wf50 v) : schema_Admits.f a c d e f row = some (admT a c d e f row) := by
  unfold schema_Admits.f
  have h2 : okV row = true := List.all_eq_true.2 fun v hv => decide_eq_true (hr v hv).2.2.2
  rw [if_pos (by rw [wfT_wfTB h, h2]; rfl)]
/-- What both sides tell of a row. -/
def encR (a : ByteArray) (c : List S105) (d : List Int) (e : List S115) (f : List S139) (row : List S50) : ByteArray × Int :=
  if admT a c d e f row = 0 then (if 65536 < (rowB row).length then ((⟨#[]⟩ : ByteArray), 3) else (strOfNums (rowB row), 0)) else ((⟨#[]⟩ : ByteArray), admT a c d e f row)
theorem encR_code {a : ByteArray} {c : List S105} {d : List Int} {e : List S115} {f : List S139} {row : List S50} (h : WfT a c d e f) (hr : ∀ v ∈ row, wf50 v) : Ev (fun k => row_Encode.f k a c d e f row) (encR a c d e f row) := by
  simp only [row_Encode.f, admits_f h hr, Option.bind_some]
  unfold encR
  by_cases h0 : admT a c d e f row = 0
  · obtain ⟨g1, g2⟩ := admT_ok h0
    rw [if_pos h0]
    refine Ev.pos h0 (Ev.bind (rowB_code row (by omega) (fun v hv => ⟨hr v hv, (chk_ok (g2 v hv)).2⟩)) ?_)
    by_cases hl : 65536 < (rowB row).length
    · rw [if_pos hl]; exact Ev.pos (by omega) Ev.pure
    · rw [if_neg hl]; exact Ev.neg (by omega) Ev.pure
  · rw [if_neg h0]; exact Ev.neg h0 Ev.pure
def cA : S105 := ⟨(⟨#[97]⟩ : ByteArray), 2, false, (⟨0, 0, 0, (⟨#[]⟩ : ByteArray)⟩ : S50)⟩
def cB : S105 := ⟨(⟨#[98]⟩ : ByteArray), 4, true, (⟨0, 0, 0, (⟨#[]⟩ : ByteArray)⟩ : S50)⟩
def rowS : List S50 := [(⟨2, 5, 0, (⟨#[]⟩ : ByteArray)⟩ : S50), (⟨4, 0, 0, (⟨#[97]⟩ : ByteArray)⟩ : S50)]
theorem small_wf : WfT (⟨#[116]⟩ : ByteArray) [cA, cB] [0] [] [] := by
  refine ⟨by decide, ?_, by decide, by simp, by simp⟩
  intro c hc
  simp at hc
  rcases hc with rfl | rfl
  · exact ⟨by decide, by decide⟩
  · exact ⟨by decide, by decide⟩
theorem small_row : ∀ v ∈ rowS, wf50 v := by
  intro v hv
  simp [rowS] at hv
  rcases hv with rfl | rfl
  · exact ⟨by decide, by decide, by decide, by decide⟩
  · exact ⟨by decide, by decide, by decide, by decide⟩
theorem small_adm : admT (⟨#[116]⟩ : ByteArray) [cA, cB] [0] [] [] rowS = 0 := by decide +kernel
theorem vb_small (n : Nat) (h : n < 128) : vb n = [(n : Int)] := by rw [vb.eq_1, dif_neg (by omega)]
theorem small_rowB : rowB rowS = [5, 10, 1, 97] := by
  have e1 : setM rowS 0 (List.replicate ((rowS.length + 3) / 4) 0) = [5] := by decide +kernel
  have e2 : rowS.flatMap toldB = [10, 1, 97] := by
    have h1 : toldB (⟨2, 5, 0, (⟨#[]⟩ : ByteArray)⟩ : S50) = [10] := by
      simp only [toldB]; rw [if_pos trivial]
      have : zz 5 = 10 := by decide
      rw [this, vb_small 10 (by decide)]; rfl
    have h2 : toldB (⟨4, 0, 0, (⟨#[97]⟩ : ByteArray)⟩ : S50) = [1, 97] := by
      simp only [toldB]
      rw [if_neg (by decide), if_neg (by decide), if_pos (by decide)]
      have : (⟨#[97]⟩ : ByteArray).size = 1 := rfl
      rw [this, vb_small 1 (by decide)]; rfl
    simp only [rowS, List.flatMap_cons, List.flatMap_nil, h1, h2]; rfl
  unfold rowB
  rw [e1, e2]; rfl
theorem awake4_ev : Ev (fun k => vellumlaw04_awake.f k) true := by
  simp only [vellumlaw04_awake.f, vellumlaw04_small.f, Option.bind_some]
  have h := encR_code small_wf small_row
  have he : encR (⟨#[116]⟩ : ByteArray) [cA, cB] [0] [] [] rowS = (strOfNums [5, 10, 1, 97], 0) := by
    unfold encR
    rw [if_pos small_adm, small_rowB, if_neg (by decide)]
  rw [he] at h
  refine Ev.bind h ?_
  exact Ev.pos rfl (Ev.const (by decide +kernel))
end Go.Proofs.YtpiifdbicibelaaDoor.Pure
end
section
namespace Go.Proofs.YtpiifdbicibelaaDoor.PA
open Go.RowKit Go.Proofs.YtpiifdbicibelaaDoorW.PrintWords Go.Proofs.YtpiifdbicibelaaDoorW.PrintLast Go.Proofs.YtpiifdbicibelaaDoorW.PrintMore
attribute [local go_sem] max2_int min2_int max_two min_two max_three min_three max_four min_four
set_option linter.unusedVariables false
set_option linter.unusedSimpArgs false
def row_Change.l0 : Nat → List (S50) → List (S50) → List Int → Int → Int → Int → Option (ByteArray × Int)
  | 0, _, _, _, _, _, _ => none
  | k + 1, x1, x2, x10, x11, x26, x27 => if x27 < x26 then (if 0 ≤ x27 then (if x27 < (x1.length : Int) then (if x27 < (x2.length : Int) then ((row_same.f ((rd_T50 x1 x27).f0) ((rd_T50 x1 x27).f1) ((rd_T50 x1 x27).f2) ((rd_T50 x1 x27).f3) ((rd_T50 x2 x27).f0) ((rd_T50 x2 x27).f1) ((rd_T50 x2 x27).f2) ((rd_T50 x2 x27).f3)).bind fun t751 => (if t751 = true then (row_Change.l0 k x1 x2 x10 x11 x26 (wrap64 (x27 + 1))) else ((row_putVarint.f k x10 (IntKind.u64.wrap (wrap64 (x27 - x11)))).bind fun t752 => (if x27 ≤ (wrap64 (x27 + 1)) then (if (wrap64 (x27 + 1)) ≤ (x2.length : Int) then ((row_encode.f k ((x2.take ((wrap64 (x27 + 1)) : Int).toNat).drop (x27 : Int).toNat)).bind fun t759 => (if t752.length + t759.length < 140737488355328 then (row_Change.l0 k x1 x2 (t752 ++ t759) (wrap64 (x27 + 1)) x26 (wrap64 (x27 + 1))) else (none))) else (none)) else (none))))) else (none)) else (none)) else (none)) else (if (x10.length : Int) > 65536 then (some ((⟨#[]⟩ : ByteArray), 3)) else (some (strOfNums x10, 0)))
def row_Change.f (k : Nat) (a0_0 : ByteArray) (l0_1 : List (S105)) (l0_2 : List Int) (l0_3 : List (S115)) (l0_4 : List (S139)) (l1 : List (S50)) (l2 : List (S50)) : Option (ByteArray × Int) := (schema_Admits.f a0_0 l0_1 l0_2 l0_3 l0_4 l1).bind fun t747 => (if t747 = 0 then ((schema_Admits.f a0_0 l0_1 l0_2 l0_3 l0_4 l2).bind fun t748 => (if t748 = 0 then (row_Change.l0 k l1 l2 ([] : List Int) 0 (l2.length : Int) 0) else (some ((⟨#[]⟩ : ByteArray), t748)))) else (some ((⟨#[]⟩ : ByteArray), t747)))
def row_Change.T12 : Bool × List (List Nat × List Nat) := (true, [([], []), ([], []), ([0, 1], [0, 1]), ([2], [2]), ([], []), ([], []), ([4, 5], [4, 5]), ([6], [6]), ([3, 7], [3, 7]), ([8], [8])])
def row_Change.B12 : List Nat := [0, 0, 3, 7, 0, 0, 48, 112, 255, 511]
theorem row_Change.tab12 : rtab .any (opsOf Tryd.f55 12) = row_Change.T12 := by kernel_rfl
theorem row_Change.bits12 : waitsOk row_Change.T12.2 row_Change.B12 = true := by kernel_rfl
set_option maxHeartbeats 8000000 in
set_option maxRecDepth 100000 in
theorem row_Change.calls (k : Nat) (a0_0 : ByteArray) (A0_1 : Option Addr) (c0_1 : Nat) (l0_1 : List (S105)) (A0_2 : Option Addr) (c0_2 : Nat) (l0_2 : List Int) (A0_3 : Option Addr) (c0_3 : Nat) (l0_3 : List (S115)) (A0_4 : Option Addr) (c0_4 : Nat) (l0_4 : List (S139)) (A1 : Option Addr) (c1 : Nat) (l1 : List (S50)) (A2 : Option Addr) (c2 : Nat) (l2 : List (S50)) (r1 : ByteArray) (r2 : Int) (w : World) (hr0_1 : Kd.C k105 w A0_1 l0_1.length l0_1) (hc0_1 : l0_1.length ≤ c0_1) (hr0_2 : Kd.C (Kd.int .i64) w A0_2 l0_2.length l0_2) (hc0_2 : l0_2.length ≤ c0_2) (hr0_3 : Kd.C k115 w A0_3 l0_3.length l0_3) (hc0_3 : l0_3.length ≤ c0_3) (hr0_4 : Kd.C k139 w A0_4 l0_4.length l0_4) (hc0_4 : l0_4.length ≤ c0_4) (hr1 : Kd.C k50 w A1 l1.length l1) (hc1 : l1.length ≤ c1) (hr2 : Kd.C k50 w A2 l2.length l2) (hc2 : l2.length ≤ c2) (hG : Glob w) (h : row_Change.f k a0_0 l0_1 l0_2 l0_3 l0_4 l1 l2 = some (r1, r2)) :
    Calls Tryd.prog 55 #[.agg #[.string a0_0, .slice A0_1 l0_1.length c0_1, .slice A0_2 l0_2.length c0_2, .slice A0_3 l0_3.length c0_3, .slice A0_4 l0_4.length c0_4], .slice A1 l1.length c1, .slice A2 l2.length c2] w fun e w' => e = .returned (.tuple #[.string r1, .int .i64 r2]) ∧ Below w.heap.size w w' := by
  have hu65 := Tryd.underlying65
  have hu50 := Tryd.underlying50
  have HR0_1 := am hr0_1
  have HC0_1 := am hc0_1
  clear hr0_1 hc0_1
  have HR0_2 := am hr0_2
  have HC0_2 := am hc0_2
  clear hr0_2 hc0_2
  have HR0_3 := am hr0_3
  have HC0_3 := am hc0_3
  clear hr0_3 hc0_3
  have HR0_4 := am hr0_4
  have HC0_4 := am hc0_4
  clear hr0_4 hc0_4
  have HR1 := am hr1
  have HC1 := am hc1
  clear hr1 hc1
  have HR2 := am hr2
  have HC2 := am hc2
  clear hr2 hc2
  have HG := am hG
  clear hG
  have HB := am (Below.refl w.heap.size w)
  have H : ((schema_Admits.f a0_0 l0_1 l0_2 l0_3 l0_4 l1).bind fun t747 => (if t747 = 0 then ((schema_Admits.f a0_0 l0_1 l0_2 l0_3 l0_4 l2).bind fun t748 => (if t748 = 0 then (row_Change.l0 k l1 l2 ([] : List Int) 0 (l2.length : Int) 0) else (some ((⟨#[]⟩ : ByteArray), t748)))) else (some ((⟨#[]⟩ : ByteArray), t747)))) = some (r1, r2) := h
  clear h
  replace H := Option.bind_eq_some_iff.mp H
  obtain ⟨t747, A40, H⟩ := H
  replace H : (if t747 = 0 then ((schema_Admits.f a0_0 l0_1 l0_2 l0_3 l0_4 l2).bind fun t748 => (if t748 = 0 then (row_Change.l0 k l1 l2 ([] : List Int) 0 (l2.length : Int) 0) else (some ((⟨#[]⟩ : ByteArray), t748)))) else (some ((⟨#[]⟩ : ByteArray), t747))) = some (r1, r2) := H
  have A4 := am A40
  clear A40
  by_cases c5 : t747 = 0
  · rw [if_pos c5] at H
    have c5b0 : (t747 == 0) = true := beq_iff_eq.mpr c5
    have c5b1 : (t747 != 0) = false := bne_eq_false_iff_eq.mpr c5
    clear c5
    replace H := Option.bind_eq_some_iff.mp H
    obtain ⟨t748, A60, H⟩ := H
    replace H : (if t748 = 0 then (row_Change.l0 k l1 l2 ([] : List Int) 0 (l2.length : Int) 0) else (some ((⟨#[]⟩ : ByteArray), t748))) = some (r1, r2) := H
    have A6 := am A60
    clear A60
    by_cases c7 : t748 = 0
    · rw [if_pos c7] at H
      have c7b0 : (t748 == 0) = true := beq_iff_eq.mpr c7
      have c7b1 : (t748 != 0) = false := bne_eq_false_iff_eq.mpr c7
      clear c7
      have H' := am H
      clear H
      go_enter Tryd.func55, Tryd.ntmps55
      go_wp2_with (first | ((with_reducible refine gate_dst (N := 3) rfl ?_); refine box_event rfl (N := 3) rfl (cs := #[.string a0_0, .slice A0_1 l0_1.length c0_1, .slice A0_2 l0_2.length c0_2, .slice A0_3 l0_3.length c0_3, .slice A0_4 l0_4.length c0_4]) (t := 65) gs ?_; intro gb746 hg w8 hbox hb; have BK746 := am (hbox); have GW746 := gw hg HB; have GE746 := gw hg HB; replace HB := sb HB hb; clear hb hbox hg; obtain ⟨Z9_0, Z9_1, Z9_2, Z9_3, Z9_4, Y9_0, Y9_1, Y9_2, Y9_3, Y9_4⟩ := bq5 BK746) | ((with_reducible refine gate_callee (f := 83) rfl ?_); refine goesL_ (some 15) rfl rfl Tryd.func83 (by kernel_rfl) rfl #[.agg #[.string a0_0, .slice A0_1 l0_1.length c0_1, .slice A0_2 l0_2.length c0_2, .slice A0_3 l0_3.length c0_3, .slice A0_4 l0_4.length c0_4], .slice A1 l1.length c1] rfl ar ?_; (with_reducible refine (schema_Admits.calls a0_0 _ _ l0_1 _ _ l0_2 _ _ l0_3 _ _ l0_4 _ _ l1 t747 _ (Kd.cb HR0_1 HB) HC0_1.out (Kd.cb HR0_2 HB) HC0_2.out (Kd.cb HR0_3 HB) HC0_3.out (Kd.cb HR0_4 HB) HC0_4.out (Kd.cb HR1 HB) HC1.out (Glob.below HG.out (bl HB)) A4.out).mono ?_); rintro e w10 ⟨rfl, hb⟩; refine ⟨_, rfl, ?_⟩; replace BK746 := kb BK746 hb; replace HB := sb HB hb; (try clear hb); (try clear hb2 hk hi); obtain ⟨Z11_0, Z11_1, Z11_2, Z11_3, Z11_4, Y11_0, Y11_1, Y11_2, Y11_3, Y11_4⟩ := bq5 BK746) | ((with_reducible refine gate_callee (f := 83) rfl ?_); refine goesL_ (some 21) rfl rfl Tryd.func83 (by kernel_rfl) rfl #[.agg #[.string a0_0, .slice A0_1 l0_1.length c0_1, .slice A0_2 l0_2.length c0_2, .slice A0_3 l0_3.length c0_3, .slice A0_4 l0_4.length c0_4], .slice A2 l2.length c2] rfl ar ?_; (with_reducible refine (schema_Admits.calls a0_0 _ _ l0_1 _ _ l0_2 _ _ l0_3 _ _ l0_4 _ _ l2 t748 _ (Kd.cb HR0_1 HB) HC0_1.out (Kd.cb HR0_2 HB) HC0_2.out (Kd.cb HR0_3 HB) HC0_3.out (Kd.cb HR0_4 HB) HC0_4.out (Kd.cb HR2 HB) HC2.out (Glob.below HG.out (bl HB)) A6.out).mono ?_); rintro e w12 ⟨rfl, hb⟩; refine ⟨_, rfl, ?_⟩; replace BK746 := kb BK746 hb; replace HB := sb HB hb; (try clear hb); (try clear hb2 hk hi)))
      go_loopg [10, 11, 27] k (fun kq v10 v11 v27 w' => ∃ (x10_1 : List Int) (x11_1 : Int) (x27_1 : Int), v11 = .int .i64 x11_1 ∧ v27 = .int .i64 x27_1 ∧ Aside0 (row_Change.l0 kq l1 l2 x10_1 x11_1 (l2.length : Int) x27_1 = some (r1, r2)) ∧ Aside0 (kq ≤ k) ∧ Aside0 (Kd.R (Kd.int .u8) 5 w' w.heap.size (fun _ => True) v10 x10_1) ∧ Aside0 (w'.heap[gb746]? = some (.cells #[.string a0_0, (.slice A0_1 l0_1.length c0_1), (.slice A0_2 l0_2.length c0_2), (.slice A0_3 l0_3.length c0_3), (.slice A0_4 l0_4.length c0_4)] 65 (0, 0))) ∧ Aside0 (Below w.heap.size w w'))
      case atStart => exact ⟨(([] : List Int)), (0), (0), eb, eb, H', ⟨Nat.le_refl _⟩, ⟨by first | exact Kd.R_nil _ _ _ _ _ | exact Kd.N_nil _ _ _ _ _ | exact Kd.V_nil _ _ _ _ _ | exact Kd.Q_nil _ _ _ _ _ | exact Kd.S_nil _ _ _ _ _⟩, ⟨bk BK746⟩, ⟨bl HB⟩⟩
      case round =>
        clear H'
        try clear c1
        try clear c2
        try clear p2
        try clear c5
        try clear c5b0
        try clear c5b1
        try clear c7
        try clear c7b0
        try clear c7b1
        try clear c8
        try clear Z11_0
        try clear Z11_1
        try clear Z11_2
        try clear Z11_3
        try clear Z11_4
        try clear Z9_0
        try clear Z9_1
        try clear Z9_2
        try clear Z9_3
        try clear Z9_4
        try clear Y11_0
        try clear Y11_1
        try clear Y11_2
        try clear Y11_3
        try clear Y11_4
        try clear Y9_0
        try clear Y9_1
        try clear Y9_2
        try clear Y9_3
        try clear Y9_4
        obtain ⟨x10_1, x11_1, x27_1, rfl, rfl, HA, HK1, HO_10, BK746, HB⟩ := hrel
        cases gk with
        | zero => exact absurd HA.out (by simp [row_Change.l0])
        | succ k1 =>
          have H := HA.out
          clear HA
          simp only [row_Change.l0] at H
          by_cases c13 : x27_1 < (l2.length : Int)
          · rw [if_pos c13] at H
            have c13b0 : decide (x27_1 < (l2.length : Int)) = true := decide_eq_true c13
            clear c13
            by_cases c14 : 0 ≤ x27_1
            · rw [if_pos c14] at H
              have c14b0 : decide (0 ≤ x27_1) = true := decide_eq_true c14
              clear c14
              by_cases c15 : x27_1 < (l1.length : Int)
              · rw [if_pos c15] at H
                have c15b0 : decide (x27_1 < (l1.length : Int)) = true := decide_eq_true c15
                clear c15
                by_cases c16 : x27_1 < (l2.length : Int)
                · rw [if_pos c16] at H
                  have c16b0 : decide (x27_1 < (l2.length : Int)) = true := decide_eq_true c16
                  clear c16
                  replace H := Option.bind_eq_some_iff.mp H
                  obtain ⟨t751, A170, H⟩ := H
                  replace H : (if t751 = true then (row_Change.l0 k1 l1 l2 x10_1 x11_1 (l2.length : Int) (wrap64 (x27_1 + 1))) else ((row_putVarint.f k1 x10_1 (IntKind.u64.wrap (wrap64 (x27_1 - x11_1)))).bind fun t752 => (if x27_1 ≤ (wrap64 (x27_1 + 1)) then (if (wrap64 (x27_1 + 1)) ≤ (l2.length : Int) then ((row_encode.f k1 ((l2.take ((wrap64 (x27_1 + 1)) : Int).toNat).drop (x27_1 : Int).toNat)).bind fun t759 => (if t752.length + t759.length < 140737488355328 then (row_Change.l0 k1 l1 l2 (t752 ++ t759) (wrap64 (x27_1 + 1)) (l2.length : Int) (wrap64 (x27_1 + 1))) else (none))) else (none)) else (none)))) = some (r1, r2) := H
                  have A17 := am A170
                  clear A170
                  by_cases c18 : t751 = true
                  · subst c18
                    have H1 : (row_Change.l0 k1 l1 l2 x10_1 x11_1 (l2.length : Int) (wrap64 (x27_1 + 1))) = some (r1, r2) := by rw [if_pos rfl] at H; exact H
                    clear H
                    have H := H1
                    clear H1
                    have H' := am H
                    clear H
                    try go_wp2
                    have n0_ := am (Kd.R_drew HO_10.out)
                    have n1_ := am (blk_drew BK746.out)
                    have n2_ := am (below_drew1 HB.out)
                    clear HO_10
                    clear BK746
                    clear HB
                    have HO_10 := n0_
                    have BK746 := n1_
                    have HB := n2_
                    clear n0_ n1_ n2_
                    have p749 : 0 ≤ (x27_1 : Int) := oda
                    have q749 : x27_1 < (l1.length : Int) := oda
                    obtain ⟨ad749, e749, hx749_0, hx749_1, hx749_2, hx749_3⟩ := at_T50 HR1.out x27_1 p749 q749
                    have hw749_3 := hx749_3
                    have hw749_2 := hx749_2
                    have hw749_1 := hx749_1
                    have hw749_0 := hx749_0
                    cases e749
                    replace hx749_0 := hc HB hx749_0
                    replace hx749_1 := hc HB hx749_1
                    replace hx749_2 := hc HB hx749_2
                    replace hx749_3 := hc HB hx749_3
                    replace p749 := eq_true p749
                    replace q749 := eq_true q749
                    have p750 : 0 ≤ (x27_1 : Int) := oda
                    have q750 : x27_1 < (l2.length : Int) := oda
                    obtain ⟨ad750, e750, hx750_0, hx750_1, hx750_2, hx750_3⟩ := at_T50 HR2.out x27_1 p750 q750
                    have hw750_3 := hx750_3
                    have hw750_2 := hx750_2
                    have hw750_1 := hx750_1
                    have hw750_0 := hx750_0
                    cases e750
                    replace hx750_0 := hc HB hx750_0
                    replace hx750_1 := hc HB hx750_1
                    replace hx750_2 := hc HB hx750_2
                    replace hx750_3 := hc HB hx750_3
                    replace p750 := eq_true p750
                    replace q750 := eq_true q750
                    refine start_ (n := 10) (S := fun w' => w'.cell? (ad749.add ((x27_1).toNat * 4)) = some (.int .i64 ((rd_T50 l1 x27_1).f0)) ∧ w'.cell? ⟨(ad749.add ((x27_1).toNat * 4)).block, (ad749.add ((x27_1).toNat * 4)).off + 1, none⟩ = some (.int .i64 ((rd_T50 l1 x27_1).f1)) ∧ w'.cell? ⟨(ad749.add ((x27_1).toNat * 4)).block, (ad749.add ((x27_1).toNat * 4)).off + 2, none⟩ = some (.float .f64 ((rd_T50 l1 x27_1).f2)) ∧ w'.cell? ⟨(ad749.add ((x27_1).toNat * 4)).block, (ad749.add ((x27_1).toNat * 4)).off + 3, none⟩ = some (.string ((rd_T50 l1 x27_1).f3)) ∧ w'.cell? (ad750.add ((x27_1).toNat * 4)) = some (.int .i64 ((rd_T50 l2 x27_1).f0)) ∧ w'.cell? ⟨(ad750.add ((x27_1).toNat * 4)).block, (ad750.add ((x27_1).toNat * 4)).off + 1, none⟩ = some (.int .i64 ((rd_T50 l2 x27_1).f1)) ∧ w'.cell? ⟨(ad750.add ((x27_1).toNat * 4)).block, (ad750.add ((x27_1).toNat * 4)).off + 2, none⟩ = some (.float .f64 ((rd_T50 l2 x27_1).f2)) ∧ w'.cell? ⟨(ad750.add ((x27_1).toNat * 4)).block, (ad750.add ((x27_1).toNat * 4)).off + 3, none⟩ = some (.string ((rd_T50 l2 x27_1).f3))) (ds := []) (bb 0 10) (by kernel_rfl) rfl rfl ⟨(hc HB hw749_0), (hc HB hw749_1), (hc HB hw749_2), (hc HB hw749_3), (hc HB hw750_0), (hc HB hw750_1), (hc HB hw750_2), (hc HB hw750_3)⟩ (fun hHeld => ?_); refine with_tabW row_Change.tab12 row_Change.bits12 (fun HT_ HW_ => ?_)
                    generalize wr.drew = w19 at HO_10 BK746 HB hx749_0 hx749_1 hx749_2 hx749_3 hx750_0 hx750_1 hx750_2 hx750_3 hHeld ⊢
                    refine pu HT_ 0 (some 30) (bb 1 10) ?_
                    refine pu HT_ 1 (some 31) (bb 2 10) ?_
                    refine pu HT_ 2 (some 32) (bb 3 10) ?_
                    refine pu HT_ 4 (some 34) (bs 10 23) ?_
                    refine pu HT_ 5 (some 35) (bs 10 55) ?_
                    refine pu HT_ 6 (some 36) (bs 10 119) ?_
                    refine tk HT_ HW_ hHeld 3 (some 33) (bb 7 10) ?_
                    refine tk HT_ HW_ hHeld 7 (some 37) (bb 8 10) ?_
                    refine one_ (i := 8) (N := some 38) (bb 9 10) rfl rfl (one_of HT_.out (by kernel_rfl)) (by decide) (fun K hK => ?_)
                    refine goes_ Tryd.func88 (by kernel_rfl) rfl #[.agg #[.int .i64 ((rd_T50 l1 x27_1).f0), .int .i64 ((rd_T50 l1 x27_1).f1), .float .f64 ((rd_T50 l1 x27_1).f2), .string ((rd_T50 l1 x27_1).f3)], .agg #[.int .i64 ((rd_T50 l2 x27_1).f0), .int .i64 ((rd_T50 l2 x27_1).f1), .float .f64 ((rd_T50 l2 x27_1).f2), .string ((rd_T50 l2 x27_1).f3)]] (by rfl) rfl rfl ar ?_
                    with_reducible refine (row_same.calls ((rd_T50 l1 x27_1).f0) ((rd_T50 l1 x27_1).f1) ((rd_T50 l1 x27_1).f2) ((rd_T50 l1 x27_1).f3) ((rd_T50 l2 x27_1).f0) ((rd_T50 l2 x27_1).f1) ((rd_T50 l2 x27_1).f2) ((rd_T50 l2 x27_1).f3) true _ A17.out).mono ?_
                    rintro e w20 ⟨rfl, hb⟩
                    refine ⟨_, rfl, ?_⟩
                    have n0_ := am (Kd.R_below (Kd.rr HO_10.out) hb)
                    have n1_ := kb BK746 hb
                    have n2_ := sb HB hb
                    clear HO_10
                    clear BK746
                    clear HB
                    have HO_10 := n0_
                    have BK746 := n1_
                    have HB := n2_
                    clear n0_ n1_ n2_
                    (try clear hb)
                    (try clear hb2)
                    (try clear hk)
                    (try clear hi)
                    refine hK.out _ _ ⟨(hc HB hw749_0), (hc HB hw749_1), (hc HB hw749_2), (hc HB hw749_3), (hc HB hw750_0), (hc HB hw750_1), (hc HB hw750_2), (hc HB hw750_3)⟩ (fun hHeld => ?_)
                    clear hK K
                    refine norm_ (a' := ?_) ?_ ?_
                    rotate_left
                    · show Act.put _ (some 38) _ = _
                      simp only [Act.put, List.setIfInBounds_toArray, List.set_cons_zero, List.set_cons_succ, i64_w, i32_w]
                      rfl
                    refine pu HT_ 9 (some 39) (bb 10 10) ?_
                    refine done_ (done_of HT_.out (by kernel_rfl)) ?_
                    try go_wp2
                    go_roundg k1
                    case measure => have := HK1.out; omega
                    case rel => exact ⟨(x10_1), (x11_1), (wrap64 (x27_1 + 1)), eb, eb, H', ⟨by have := HK1.out; omega⟩, ⟨Kd.rr HO_10.out⟩, ⟨bk BK746⟩, ⟨bl HB⟩⟩
                  · replace c18 := Bool.eq_false_iff.mpr c18
                    subst c18
                    have H1 : ((row_putVarint.f k1 x10_1 (IntKind.u64.wrap (wrap64 (x27_1 - x11_1)))).bind fun t752 => (if x27_1 ≤ (wrap64 (x27_1 + 1)) then (if (wrap64 (x27_1 + 1)) ≤ (l2.length : Int) then ((row_encode.f k1 ((l2.take ((wrap64 (x27_1 + 1)) : Int).toNat).drop (x27_1 : Int).toNat)).bind fun t759 => (if t752.length + t759.length < 140737488355328 then (row_Change.l0 k1 l1 l2 (t752 ++ t759) (wrap64 (x27_1 + 1)) (l2.length : Int) (wrap64 (x27_1 + 1))) else (none))) else (none)) else (none))) = some (r1, r2) := by rw [if_neg (show ¬ (false = true) by decide)] at H; exact H
                    clear H
                    have H := H1
                    clear H1
                    replace H := Option.bind_eq_some_iff.mp H
                    obtain ⟨t752, A210, H⟩ := H
                    replace H : (if x27_1 ≤ (wrap64 (x27_1 + 1)) then (if (wrap64 (x27_1 + 1)) ≤ (l2.length : Int) then ((row_encode.f k1 ((l2.take ((wrap64 (x27_1 + 1)) : Int).toNat).drop (x27_1 : Int).toNat)).bind fun t759 => (if t752.length + t759.length < 140737488355328 then (row_Change.l0 k1 l1 l2 (t752 ++ t759) (wrap64 (x27_1 + 1)) (l2.length : Int) (wrap64 (x27_1 + 1))) else (none))) else (none)) else (none)) = some (r1, r2) := H
                    have A21 := am A210
                    clear A210
                    have c22b0 := eq_true (oda : 0 ≤ x27_1)
                    by_cases c23 : x27_1 ≤ (wrap64 (x27_1 + 1))
                    · rw [if_pos c23] at H
                      have c23b0 := eq_true c23
                      have c23b1 : decide (x27_1 ≤ (wrap64 (x27_1 + 1))) = true := decide_eq_true c23
                      by_cases c24 : (wrap64 (x27_1 + 1)) ≤ (l2.length : Int)
                      · rw [if_pos c24] at H
                        have c24b0 := eq_true c24
                        have c24b1 : decide ((wrap64 (x27_1 + 1)) ≤ (l2.length : Int)) = true := decide_eq_true c24
                        obtain ⟨y755, hy755⟩ : ∃ y_ : List (S50), y_ = ((l2.take ((wrap64 (x27_1 + 1)) : Int).toNat).drop (x27_1 : Int).toNat) := ⟨_, rfl⟩
                        replace H : ((row_encode.f k1 y755).bind fun t759 => (if t752.length + t759.length < 140737488355328 then (row_Change.l0 k1 l1 l2 (t752 ++ t759) (wrap64 (x27_1 + 1)) (l2.length : Int) (wrap64 (x27_1 + 1))) else (none))) = some (r1, r2) := by first | (rw [hy755]; with_reducible exact H) | (have H2_ := (Option.bind_some _ _).symm.trans H; rw [hy755]; with_reducible exact H2_) | (have H2_ := (Option.bind_some _ _).symm.trans H; with_reducible exact H2_) | with_reducible exact H | (rw [hy755]; exact H) | exact H
                        have Ny755 := am hy755
                        clear hy755
                        replace H := Option.bind_eq_some_iff.mp H
                        obtain ⟨t759, A250, H⟩ := H
                        replace H : (if t752.length + t759.length < 140737488355328 then (row_Change.l0 k1 l1 l2 (t752 ++ t759) (wrap64 (x27_1 + 1)) (l2.length : Int) (wrap64 (x27_1 + 1))) else (none)) = some (r1, r2) := H
                        have A25 := am A250
                        clear A250
                        by_cases c26 : t752.length + t759.length < 140737488355328
                        · rw [if_pos c26] at H
                          have LMc26 := am c26
                          clear c26
                          obtain ⟨y762, hy762⟩ : ∃ y_ : List Int, y_ = (t752 ++ t759) := ⟨_, rfl⟩
                          replace H : (row_Change.l0 k1 l1 l2 y762 (wrap64 (x27_1 + 1)) (l2.length : Int) (wrap64 (x27_1 + 1))) = some (r1, r2) := by first | (rw [hy762]; with_reducible exact H) | (have H2_ := (Option.bind_some _ _).symm.trans H; rw [hy762]; with_reducible exact H2_) | (have H2_ := (Option.bind_some _ _).symm.trans H; with_reducible exact H2_) | with_reducible exact H | (rw [hy762]; exact H) | exact H
                          have Ny762 := am hy762
                          clear hy762
                          have H' := am H
                          clear H
                          try go_wp2
                          have n0_ := am (Kd.R_drew HO_10.out)
                          have n1_ := am (blk_drew BK746.out)
                          have n2_ := am (below_drew1 HB.out)
                          clear HO_10
                          clear BK746
                          clear HB
                          have HO_10 := n0_
                          have BK746 := n1_
                          have HB := n2_
                          clear n0_ n1_ n2_
                          have p749 : 0 ≤ (x27_1 : Int) := oda
                          have q749 : x27_1 < (l1.length : Int) := oda
                          obtain ⟨ad749, e749, hx749_0, hx749_1, hx749_2, hx749_3⟩ := at_T50 HR1.out x27_1 p749 q749
                          have hw749_3 := hx749_3
                          have hw749_2 := hx749_2
                          have hw749_1 := hx749_1
                          have hw749_0 := hx749_0
                          cases e749
                          replace hx749_0 := hc HB hx749_0
                          replace hx749_1 := hc HB hx749_1
                          replace hx749_2 := hc HB hx749_2
                          replace hx749_3 := hc HB hx749_3
                          replace p749 := eq_true p749
                          replace q749 := eq_true q749
                          have p750 : 0 ≤ (x27_1 : Int) := oda
                          have q750 : x27_1 < (l2.length : Int) := oda
                          obtain ⟨ad750, e750, hx750_0, hx750_1, hx750_2, hx750_3⟩ := at_T50 HR2.out x27_1 p750 q750
                          have hw750_3 := hx750_3
                          have hw750_2 := hx750_2
                          have hw750_1 := hx750_1
                          have hw750_0 := hx750_0
                          cases e750
                          replace hx750_0 := hc HB hx750_0
                          replace hx750_1 := hc HB hx750_1
                          replace hx750_2 := hc HB hx750_2
                          replace hx750_3 := hc HB hx750_3
                          replace p750 := eq_true p750
                          replace q750 := eq_true q750
                          refine start_ (n := 10) (S := fun w' => w'.cell? (ad749.add ((x27_1).toNat * 4)) = some (.int .i64 ((rd_T50 l1 x27_1).f0)) ∧ w'.cell? ⟨(ad749.add ((x27_1).toNat * 4)).block, (ad749.add ((x27_1).toNat * 4)).off + 1, none⟩ = some (.int .i64 ((rd_T50 l1 x27_1).f1)) ∧ w'.cell? ⟨(ad749.add ((x27_1).toNat * 4)).block, (ad749.add ((x27_1).toNat * 4)).off + 2, none⟩ = some (.float .f64 ((rd_T50 l1 x27_1).f2)) ∧ w'.cell? ⟨(ad749.add ((x27_1).toNat * 4)).block, (ad749.add ((x27_1).toNat * 4)).off + 3, none⟩ = some (.string ((rd_T50 l1 x27_1).f3)) ∧ w'.cell? (ad750.add ((x27_1).toNat * 4)) = some (.int .i64 ((rd_T50 l2 x27_1).f0)) ∧ w'.cell? ⟨(ad750.add ((x27_1).toNat * 4)).block, (ad750.add ((x27_1).toNat * 4)).off + 1, none⟩ = some (.int .i64 ((rd_T50 l2 x27_1).f1)) ∧ w'.cell? ⟨(ad750.add ((x27_1).toNat * 4)).block, (ad750.add ((x27_1).toNat * 4)).off + 2, none⟩ = some (.float .f64 ((rd_T50 l2 x27_1).f2)) ∧ w'.cell? ⟨(ad750.add ((x27_1).toNat * 4)).block, (ad750.add ((x27_1).toNat * 4)).off + 3, none⟩ = some (.string ((rd_T50 l2 x27_1).f3))) (ds := []) (bb 0 10) (by kernel_rfl) rfl rfl ⟨(hc HB hw749_0), (hc HB hw749_1), (hc HB hw749_2), (hc HB hw749_3), (hc HB hw750_0), (hc HB hw750_1), (hc HB hw750_2), (hc HB hw750_3)⟩ (fun hHeld => ?_); refine with_tabW row_Change.tab12 row_Change.bits12 (fun HT_ HW_ => ?_)
                          generalize wr.drew = w27 at HO_10 BK746 HB hx749_0 hx749_1 hx749_2 hx749_3 hx750_0 hx750_1 hx750_2 hx750_3 hHeld ⊢
                          refine pu HT_ 0 (some 30) (bb 1 10) ?_
                          refine pu HT_ 1 (some 31) (bb 2 10) ?_
                          refine pu HT_ 2 (some 32) (bb 3 10) ?_
                          refine pu HT_ 4 (some 34) (bs 10 23) ?_
                          refine pu HT_ 5 (some 35) (bs 10 55) ?_
                          refine pu HT_ 6 (some 36) (bs 10 119) ?_
                          refine tk HT_ HW_ hHeld 3 (some 33) (bb 7 10) ?_
                          refine tk HT_ HW_ hHeld 7 (some 37) (bb 8 10) ?_
                          refine one_ (i := 8) (N := some 38) (bb 9 10) rfl rfl (one_of HT_.out (by kernel_rfl)) (by decide) (fun K hK => ?_)
                          refine goes_ Tryd.func88 (by kernel_rfl) rfl #[.agg #[.int .i64 ((rd_T50 l1 x27_1).f0), .int .i64 ((rd_T50 l1 x27_1).f1), .float .f64 ((rd_T50 l1 x27_1).f2), .string ((rd_T50 l1 x27_1).f3)], .agg #[.int .i64 ((rd_T50 l2 x27_1).f0), .int .i64 ((rd_T50 l2 x27_1).f1), .float .f64 ((rd_T50 l2 x27_1).f2), .string ((rd_T50 l2 x27_1).f3)]] (by rfl) rfl rfl ar ?_
                          with_reducible refine (row_same.calls ((rd_T50 l1 x27_1).f0) ((rd_T50 l1 x27_1).f1) ((rd_T50 l1 x27_1).f2) ((rd_T50 l1 x27_1).f3) ((rd_T50 l2 x27_1).f0) ((rd_T50 l2 x27_1).f1) ((rd_T50 l2 x27_1).f2) ((rd_T50 l2 x27_1).f3) false _ A17.out).mono ?_
                          rintro e w28 ⟨rfl, hb⟩
                          refine ⟨_, rfl, ?_⟩
                          have n0_ := am (Kd.R_below (Kd.rr HO_10.out) hb)
                          have n1_ := kb BK746 hb
                          have n2_ := sb HB hb
                          clear HO_10
                          clear BK746
                          clear HB
                          have HO_10 := n0_
                          have BK746 := n1_
                          have HB := n2_
                          clear n0_ n1_ n2_
                          (try clear hb)
                          (try clear hb2)
                          (try clear hk)
                          (try clear hi)
                          refine hK.out _ _ ⟨(hc HB hw749_0), (hc HB hw749_1), (hc HB hw749_2), (hc HB hw749_3), (hc HB hw750_0), (hc HB hw750_1), (hc HB hw750_2), (hc HB hw750_3)⟩ (fun hHeld => ?_)
                          clear hK K
                          refine norm_ (a' := ?_) ?_ ?_
                          rotate_left
                          · show Act.put _ (some 38) _ = _
                            simp only [Act.put, List.setIfInBounds_toArray, List.set_cons_zero, List.set_cons_succ, i64_w, i32_w]
                            rfl
                          refine pu HT_ 9 (some 39) (bb 10 10) ?_
                          refine done_ (done_of HT_.out (by kernel_rfl)) ?_
                          obtain ⟨Ao29, co29, eo29⟩ := Kd.R_slice HO_10.out
                          subst eo29
                          try go_wp2_with (first | ((with_reducible refine gate_callee (f := 89) rfl ?_); refine goesL_ (some 45) rfl rfl Tryd.func89 (by kernel_rfl) rfl #[.slice Ao29 x10_1.length co29, .int .u64 (IntKind.u64.wrap (wrap64 (x27_1 - x11_1)))] rfl ar ?_; (with_reducible refine (row_putVarint.calls k1 (fun k_ => some k_ = (.slice Ao29 x10_1.length co29 : Value).ownBlock) (.slice Ao29 x10_1.length co29) x10_1 (IntKind.u64.wrap (wrap64 (x27_1 - x11_1))) t752 w _ ?side1 ?side2 A21.out).mono ?_); (case side1 => repeat (first | (with_reducible first | exact HB.out | apply below_alloc | apply pw_below_drewN | apply below_drew1 | refine below_set ?_ GE746.out) | exact HB.out)); (case side2 => exact Kd.R_tight rfl HO_10.out); rintro e w30 ⟨v753, rfl, ho0, hb, hkp⟩; refine ⟨_, rfl, ?_⟩; have n0_ := am (blk_kept (bk BK746) hkp (fun hs_ => (fun e_ => (Kd.R_ne HO_10.out BK746.out (by decide)) e_) hs_)); have n1_ := am (Kd.R_mono (ok' := fun k_ => True) ho0 (fun k_ hk_ => trivial)); have n2_ := am (hb); clear BK746; clear HB; clear HO_10; have BK746 := n0_; have HO754 := n1_; have HB := n2_; clear n0_ n1_ n2_; (try clear hb); (try clear hkp); (try clear ho0); have q31 : ((wrap64 (x27_1 + 1)) : Int) ≤ ((l2.length : Int) : Int) := oda; obtain ⟨i031, hi031, _, hsz31, _⟩ := info_parts info50; have hroom31 : l2.length ≤ c2 := HC2.out; have hC31 : Kd.C k50 _ (some ad750) l2.length l2 := HR2.out; have ql31 : (x27_1 : Int) ≤ ((wrap64 (x27_1 + 1)) : Int) := oda; have q031 : (0 : Int) ≤ (x27_1 : Int) := oda; have hcut31 := cut_mid (P := Tryd.prog) 22 50 .i64 .i64 Tryd.underlying22 hi031 4 hsz31 (some ad750) l2.length c2 x27_1 (wrap64 (x27_1 + 1)) q031 ql31 q31 hroom31; have hr31 := Kd.C_mid (lo := (x27_1 : Int).toNat) (hi := ((wrap64 (x27_1 + 1)) : Int).toNat) (c := c2) hC31 (by omega) (by omega) hroom31; obtain ⟨A31, hA31⟩ : ∃ A1, A1 = (if c2 = (x27_1 : Int).toNat then (some ad750) else ((some ad750) : Option Addr).map (·.add ((x27_1 : Int).toNat * 4))) := ⟨_, rfl⟩; obtain ⟨c31, hc31⟩ : ∃ c1, c1 = c2 - (x27_1 : Int).toNat := ⟨_, rfl⟩; have hy31 : y755.length = ((wrap64 (x27_1 + 1)) : Int).toNat - (x27_1 : Int).toNat := (by rw [Ny755.out, List.length_drop, List.length_take] <;> omega); rw [show ((l2).take ((wrap64 (x27_1 + 1)) : Int).toNat).drop (x27_1 : Int).toNat = y755 from Ny755.out.symm] at hr31; replace hr31 : Kd.C k50 _ A31 y755.length y755 := (by rw [hA31]; exact hr31); rw [← hy31, ← hA31, ← hc31] at hcut31; have HR758 := am hr31; have HC758 := am (show y755.length ≤ c31 from by rw [hy31, hc31]; exact Nat.sub_le_sub_right (Nat.le_trans (by omega) hroom31) _); clear hr31 hC31 hroom31 hi031 hsz31 hc31; have KY31 := am hy31; have KA31 := am hA31; clear hy31 hA31; replace q31 := eq_true q31) | ((with_reducible refine gate_callee (f := 84) rfl ?_); refine goesL_ (some 52) rfl rfl Tryd.func84 (by kernel_rfl) rfl #[.slice A31 y755.length c31] rfl ar ?_; (with_reducible refine (row_encode.calls k1 _ _ y755 t759 _ ?side1 HC758.out A25.out).mono ?_); (case side1 => exact Kd.cb HR758 HB); rintro e w32 ⟨v760, rfl, ho0, hb⟩; refine ⟨_, rfl, ?_⟩; have n0_ := am (Kd.R_elder' (Kd.rr HO754.out) (Kd.R_base ho0) hb); have n1_ := am (Kd.R_lower (Kd.R_new' ho0 (Kd.R_lt (Kd.rr HO754.out))) (below_size (bl HB))); have n2_ := kb BK746 hb; have n3_ := sb HB hb; clear HO754; clear BK746; clear HB; have HO754 := n0_; have HO761 := n1_; have BK746 := n2_; have HB := n3_; clear n0_ n1_ n2_ n3_; (try clear hb); (try clear hb2 hk hi); (try clear ho0); obtain ⟨Ao34, co34, eo34⟩ := Kd.R_slice HO761.out; subst eo34) | ((with_reducible refine gate_builtin (b := .append) (xs := #[.tmp 46, .tmp 52]) rfl ?_); at_builtin; refine Kd.R_append_rows (Kd.int .u8) (w0 := w) w.heap.size rfl (.tmp 46) (.tmp 52) 80 5 (.int .u8 0) 1 rfl Tryd.underlying80 info5 rfl (by decide) (by omega) v753 t752 t759 _ _ _ (fun k_ => some k_ ≠ (.slice Ao34 t759.length co34 : Value).ownBlock) (fun _ => False) rfl rfl ?aO ?aR (fun _ _ h => h) (fun _ h => h.elim) ?aF ?aB ?aS ?aL ?_; (case aR => repeat (first | exact (Kd.R_reads' HO761.out).2.2 | (with_reducible refine Kd.C_alloc ?_ _) | (with_reducible refine Kd.C_drewN ?_ _) | (with_reducible refine Kd.C_drew ?_))); (case aB => exact (bl HB)); (case aF => exact (fun k_ hk => Kd.fresh' (Kd.R_lt (Kd.rr HO761.out)) k_ hk)); (case aO => exact (by (with_reducible repeat (first | apply Kd.R_alloc | apply Kd.R_drewN | apply Kd.R_drew)); exact Kd.R_mono HO754.out (fun _ hk => hk.2))); (case aS => exact (below_size (bl HB))); (case aL => have := LMc26.out; omega); intro v763 w33 ho hb hg hat; rw [← Ny762.out] at ho; have n0_ := am (blk_grown (g := gb746) (o := .cells #[.string a0_0, .slice A0_1 l0_1.length c0_1, .slice A0_2 l0_2.length c0_2, .slice A0_3 l0_3.length c0_3, .slice A0_4 l0_4.length c0_4] 65 (0, 0)) (bk BK746) hg (Kd.R_ne HO754.out BK746.out (by decide))); have n1_ := am (Kd.R_after (ok := (fun _ => True)) (Kd.rr HO761.out) hg hat); have n2_ := am (hb); have n3_ := am (ho); clear BK746; clear HO761; clear HB; clear HO754; have BK746 := n0_; have HO761 := n1_; have HB := n2_; have HO764 := n3_; clear n0_ n1_ n2_ n3_; clear ho hb hg hat))
                          go_roundg k1
                          case measure => have := HK1.out; omega
                          case rel => exact ⟨(y762), (wrap64 (x27_1 + 1)), (wrap64 (x27_1 + 1)), eb, eb, H', ⟨by have := HK1.out; omega⟩, ⟨by (with_reducible repeat (first | apply Kd.R_alloc | apply Kd.R_drewN | apply Kd.R_drew)); exact Kd.R_mono HO764.out (fun _ hk => trivial)⟩, ⟨bk BK746⟩, ⟨bl HB⟩⟩
                        · rw [if_neg c26] at H
                          exact absurd H (by simp)
                      · rw [if_neg c24] at H
                        exact absurd H (by simp)
                    · rw [if_neg c23] at H
                      exact absurd H (by simp)
                · rw [if_neg c16] at H
                  exact absurd H (by simp)
              · rw [if_neg c15] at H
                exact absurd H (by simp)
            · rw [if_neg c14] at H
              exact absurd H (by simp)
          · rw [if_neg c13] at H
            have c13b0 : decide (x27_1 < (l2.length : Int)) = false := decide_eq_false c13
            clear c13
            by_cases c35 : (x10_1.length : Int) > 65536
            · rw [if_pos c35] at H
              have c35b0 : decide (65536 < (x10_1.length : Int)) = true := decide_eq_true c35
              have c35b1 : decide (65536 < x10_1.length) = true := decide_eq_true (by omega)
              clear c35
              simp only [Option.some.injEq, Prod.mk.injEq] at H
              obtain ⟨rfl, rfl⟩ := H
              obtain ⟨Ao36, co36, eo36⟩ := Kd.R_slice HO_10.out
              subst eo36
              go_wp2
              go_ret2
              exact ⟨er, bl HB⟩
            · rw [if_neg c35] at H
              have c35b0 : decide (65536 < (x10_1.length : Int)) = false := decide_eq_false c35
              have c35b1 : decide (65536 < x10_1.length) = false := decide_eq_false (by omega)
              clear c35
              simp only [Option.some.injEq, Prod.mk.injEq] at H
              obtain ⟨rfl, rfl⟩ := H
              obtain ⟨Ao37, co37, eo37⟩ := Kd.R_slice HO_10.out
              subst eo37
              have hcv38 := own_string (P := Tryd.prog) Tryd.underlying80 Tryd.underlying5 Tryd.underlying9 (Kd.own_of_R HO_10.out)
              go_wp2
              go_ret2
              exact ⟨er, bl HB⟩
    · rw [if_neg c7] at H
      have c7b0 : (t748 == 0) = false := beq_eq_false_iff_ne.mpr c7
      have c7b1 : (t748 != 0) = true := bne_iff_ne.mpr c7
      simp only [Option.some.injEq, Prod.mk.injEq] at H
      obtain ⟨rfl, rfl⟩ := H
      go_enter Tryd.func55, Tryd.ntmps55
      go_wp2_with (first | ((with_reducible refine gate_dst (N := 3) rfl ?_); refine box_event rfl (N := 3) rfl (cs := #[.string a0_0, .slice A0_1 l0_1.length c0_1, .slice A0_2 l0_2.length c0_2, .slice A0_3 l0_3.length c0_3, .slice A0_4 l0_4.length c0_4]) (t := 65) gs ?_; intro gb746 hg w39 hbox hb; have BK746 := am (hbox); have GW746 := gw hg HB; have GE746 := gw hg HB; replace HB := sb HB hb; clear hb hbox hg; obtain ⟨Z40_0, Z40_1, Z40_2, Z40_3, Z40_4, Y40_0, Y40_1, Y40_2, Y40_3, Y40_4⟩ := bq5 BK746) | ((with_reducible refine gate_callee (f := 83) rfl ?_); refine goesL_ (some 15) rfl rfl Tryd.func83 (by kernel_rfl) rfl #[.agg #[.string a0_0, .slice A0_1 l0_1.length c0_1, .slice A0_2 l0_2.length c0_2, .slice A0_3 l0_3.length c0_3, .slice A0_4 l0_4.length c0_4], .slice A1 l1.length c1] rfl ar ?_; (with_reducible refine (schema_Admits.calls a0_0 _ _ l0_1 _ _ l0_2 _ _ l0_3 _ _ l0_4 _ _ l1 t747 _ (Kd.cb HR0_1 HB) HC0_1.out (Kd.cb HR0_2 HB) HC0_2.out (Kd.cb HR0_3 HB) HC0_3.out (Kd.cb HR0_4 HB) HC0_4.out (Kd.cb HR1 HB) HC1.out (Glob.below HG.out (bl HB)) A4.out).mono ?_); rintro e w41 ⟨rfl, hb⟩; refine ⟨_, rfl, ?_⟩; replace BK746 := kb BK746 hb; replace HB := sb HB hb; (try clear hb); (try clear hb2 hk hi); obtain ⟨Z42_0, Z42_1, Z42_2, Z42_3, Z42_4, Y42_0, Y42_1, Y42_2, Y42_3, Y42_4⟩ := bq5 BK746) | ((with_reducible refine gate_callee (f := 83) rfl ?_); refine goesL_ (some 21) rfl rfl Tryd.func83 (by kernel_rfl) rfl #[.agg #[.string a0_0, .slice A0_1 l0_1.length c0_1, .slice A0_2 l0_2.length c0_2, .slice A0_3 l0_3.length c0_3, .slice A0_4 l0_4.length c0_4], .slice A2 l2.length c2] rfl ar ?_; (with_reducible refine (schema_Admits.calls a0_0 _ _ l0_1 _ _ l0_2 _ _ l0_3 _ _ l0_4 _ _ l2 t748 _ (Kd.cb HR0_1 HB) HC0_1.out (Kd.cb HR0_2 HB) HC0_2.out (Kd.cb HR0_3 HB) HC0_3.out (Kd.cb HR0_4 HB) HC0_4.out (Kd.cb HR2 HB) HC2.out (Glob.below HG.out (bl HB)) A6.out).mono ?_); rintro e w43 ⟨rfl, hb⟩; refine ⟨_, rfl, ?_⟩; replace BK746 := kb BK746 hb; replace HB := sb HB hb; (try clear hb); (try clear hb2 hk hi)))
      go_ret2
      exact ⟨er, bl HB⟩
  · rw [if_neg c5] at H
    have c5b0 : (t747 == 0) = false := beq_eq_false_iff_ne.mpr c5
    have c5b1 : (t747 != 0) = true := bne_iff_ne.mpr c5
    simp only [Option.some.injEq, Prod.mk.injEq] at H
    obtain ⟨rfl, rfl⟩ := H
    go_enter Tryd.func55, Tryd.ntmps55
    go_wp2_with (first | ((with_reducible refine gate_dst (N := 3) rfl ?_); refine box_event rfl (N := 3) rfl (cs := #[.string a0_0, .slice A0_1 l0_1.length c0_1, .slice A0_2 l0_2.length c0_2, .slice A0_3 l0_3.length c0_3, .slice A0_4 l0_4.length c0_4]) (t := 65) gs ?_; intro gb746 hg w44 hbox hb; have BK746 := am (hbox); have GW746 := gw hg HB; have GE746 := gw hg HB; replace HB := sb HB hb; clear hb hbox hg; obtain ⟨Z45_0, Z45_1, Z45_2, Z45_3, Z45_4, Y45_0, Y45_1, Y45_2, Y45_3, Y45_4⟩ := bq5 BK746) | ((with_reducible refine gate_callee (f := 83) rfl ?_); refine goesL_ (some 15) rfl rfl Tryd.func83 (by kernel_rfl) rfl #[.agg #[.string a0_0, .slice A0_1 l0_1.length c0_1, .slice A0_2 l0_2.length c0_2, .slice A0_3 l0_3.length c0_3, .slice A0_4 l0_4.length c0_4], .slice A1 l1.length c1] rfl ar ?_; (with_reducible refine (schema_Admits.calls a0_0 _ _ l0_1 _ _ l0_2 _ _ l0_3 _ _ l0_4 _ _ l1 t747 _ (Kd.cb HR0_1 HB) HC0_1.out (Kd.cb HR0_2 HB) HC0_2.out (Kd.cb HR0_3 HB) HC0_3.out (Kd.cb HR0_4 HB) HC0_4.out (Kd.cb HR1 HB) HC1.out (Glob.below HG.out (bl HB)) A4.out).mono ?_); rintro e w46 ⟨rfl, hb⟩; refine ⟨_, rfl, ?_⟩; replace BK746 := kb BK746 hb; replace HB := sb HB hb; (try clear hb); (try clear hb2 hk hi)))
    go_ret2
    exact ⟨er, bl HB⟩
end Go.Proofs.YtpiifdbicibelaaDoor.PA
end
