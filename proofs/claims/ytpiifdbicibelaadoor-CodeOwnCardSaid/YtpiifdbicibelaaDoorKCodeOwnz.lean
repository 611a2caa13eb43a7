/- CodeOwn: the law returns true at every input, and its arguments read as before. Conditions: as the row has them (the listed tables as the program's text lays them). -/
import Derived.Test.YtpiifdbicibelaaDoorKCodeOwn3
section
namespace Go.Proofs.YtpiifdbicibelaaDoor.PU
open Go.Proofs.YtpiifdbicibelaaDoor.PA
set_option linter.unusedSimpArgs false
set_option linter.unusedVariables false
/-- The bytes of a text. -/
abbrev bs (s : ByteArray) : List UInt8 := s.data.toList
abbrev mt : ByteArray := ⟨#[]⟩
theorem lt_irrefl' (a : List UInt8) : ¬ a < a := List.lt_irrefl a
theorem lt_tri (a b : List UInt8) : a < b ∨ a = b ∨ b < a := by
  by_cases h : a < b
  · exact .inl h
  · by_cases h2 : b < a
    · exact .inr (.inr h2)
    · exact .inr (.inl (List.le_antisymm (List.not_lt.1 h2) (List.not_lt.1 h)))
theorem bs_inj {a b : ByteArray} (h : bs a = bs b) : a = b := by
  cases a; cases b; simp [bs] at h; rw [h]
/-- Is no key in a range? -/
def emptyR (r : S32) : Bool := !r.f2 && !decide (bs r.f0 < bs r.f1)
def cleanR (r : S32) : S32 := if r.f2 then ⟨r.f0, mt, true⟩ else r
/-- One range more. -/
def stepU (out : List S32) (r0 : S32) : List S32 :=
  let r := cleanR r0
  match out.getLast? with
  | none => [r]
  | some l =>
    if l.f2 then out
    else if bs l.f1 < bs r.f0 then out ++ [r]
    else if r.f2 then out.dropLast ++ [⟨l.f0, mt, true⟩]
    else out.dropLast ++ [⟨l.f0, Go.Lib.maxS l.f1 r.f1, false⟩]
def keyLe (a b : S32) : Prop := ¬ bs b.f0 < bs a.f0
def sortedR (l : List S32) : Prop := l.Pairwise keyLe
theorem maxS_comm3 (a b c : ByteArray) : Go.Lib.maxS (Go.Lib.maxS a b) c = Go.Lib.maxS (Go.Lib.maxS a c) b := by
  unfold Go.Lib.maxS
  have t := fun x y : List UInt8 => lt_tri x y
  have tr : ∀ {x y z : List UInt8}, x < y → y < z → x < z := fun h g => List.lt_trans h g
  have asy : ∀ {x y : List UInt8}, x < y → ¬ y < x := fun h => List.lt_asymm h
  by_cases h1 : bs a < bs b <;> by_cases h2 : bs a < bs c <;> simp only [h1, h2, if_true, if_false]
  · rcases t (bs b) (bs c) with h | h | h
    · rw [if_pos h, if_neg (asy h)]
    · have := bs_inj h; subst this; simp [lt_irrefl']
    · rw [if_neg (asy h), if_pos h]
  · by_cases h3 : bs b < bs c
    · exact absurd (tr h1 h3) h2
    · simp [h3, h1]
  · by_cases h3 : bs c < bs b
    · exact absurd (tr h2 h3) h1
    · simp [h3, h2]
theorem maxS_comm (a b : ByteArray) : Go.Lib.maxS a b = Go.Lib.maxS b a := by
  unfold Go.Lib.maxS
  rcases lt_tri (bs a) (bs b) with h | h | h
  · rw [if_pos h, if_neg (List.lt_asymm h)]
  · have := bs_inj h; subst this; rfl
  · rw [if_neg (List.lt_asymm h), if_pos h]
theorem le_maxS (a b : ByteArray) : ¬ bs (Go.Lib.maxS a b) < bs a := by
  unfold Go.Lib.maxS; split
  · rename_i h; exact List.lt_asymm h
  · exact lt_irrefl' _
theorem not_lt_of (a b c : List UInt8) (h : ¬ b < a) (g : ¬ c < b) : ¬ c < a := fun k => by
  rcases lt_tri a b with x | x | x
  · rcases lt_tri b c with y | y | y
    · exact List.lt_asymm (List.lt_trans x y) k
    · subst y; exact List.lt_asymm x k
    · exact g y
  · subst x; exact g k
  · exact h x
/-- Two ranges that begin at one place may be taken in either order. -/
theorem stepU_comm (out : List S32) (a b : S32) (hk : a.f0 = b.f0) (ha : emptyR a = false) (hb : emptyR b = false) : stepU (stepU out a) b = stepU (stepU out b) a := by
  have ea : a.f2 = true ∨ (a.f2 = false ∧ bs a.f0 < bs a.f1) := by
    cases h : a.f2 <;> simp [emptyR, h] at ha ⊢; exact ha
  have eb : b.f2 = true ∨ (b.f2 = false ∧ bs b.f0 < bs b.f1) := by
    cases h : b.f2 <;> simp [emptyR, h] at hb ⊢; exact hb
  rcases List.eq_nil_or_concat out with rfl | ⟨o, l, rfl⟩
  · rcases ea with h1 | ⟨h1, g1⟩ <;> rcases eb with h2 | ⟨h2, g2⟩
    · simp [stepU, cleanR, h1, h2, hk]
    · have : ¬ bs b.f1 < bs b.f0 := List.lt_asymm g2
      simp [stepU, cleanR, h1, h2, hk, this]
    · have : ¬ bs a.f1 < bs b.f0 := by rw [← hk]; exact List.lt_asymm g1
      simp [stepU, cleanR, h1, h2, hk, this]
    · have t1 : ¬ bs a.f1 < bs b.f0 := by rw [← hk]; exact List.lt_asymm g1
      have t2 : ¬ bs b.f1 < bs b.f0 := List.lt_asymm g2
      simp [stepU, cleanR, h1, h2, hk, t1, t2, maxS_comm]
  · by_cases hl : l.f2 = true
    · simp [stepU, hl]
    · have hl' : l.f2 = false := by simpa using hl
      by_cases hlt : bs l.f1 < bs a.f0
      · have hlt2 : bs l.f1 < bs b.f0 := by rw [← hk]; exact hlt
        rcases ea with h1 | ⟨h1, g1⟩ <;> rcases eb with h2 | ⟨h2, g2⟩
        · simp [stepU, cleanR, h1, h2, hk, hl', hlt2]
        · have : ¬ bs b.f1 < bs b.f0 := List.lt_asymm g2
          simp [stepU, cleanR, h1, h2, hk, this, hl', hlt2]
        · have : ¬ bs a.f1 < bs b.f0 := by rw [← hk]; exact List.lt_asymm g1
          simp [stepU, cleanR, h1, h2, hk, this, hl', hlt2]
        · have t1 : ¬ bs a.f1 < bs b.f0 := by rw [← hk]; exact List.lt_asymm g1
          have t2 : ¬ bs b.f1 < bs b.f0 := List.lt_asymm g2
          simp [stepU, cleanR, h1, h2, hk, t1, t2, maxS_comm, hl', hlt2]
      · have hlt2 : ¬ bs l.f1 < bs b.f0 := by rw [← hk]; exact hlt
        have n1 : ¬ bs (Go.Lib.maxS l.f1 a.f1) < bs b.f0 := not_lt_of _ _ _ hlt2 (le_maxS _ _)
        have n2 : ¬ bs (Go.Lib.maxS l.f1 b.f1) < bs b.f0 := not_lt_of _ _ _ hlt2 (le_maxS _ _)
        rcases ea with h1 | ⟨h1, g1⟩ <;> rcases eb with h2 | ⟨h2, g2⟩
        · simp [stepU, cleanR, h1, h2, hk, hl', hlt2]
        · simp [stepU, cleanR, h1, h2, hk, hl', hlt2, n1, n2]
        · simp [stepU, cleanR, h1, h2, hk, hl', hlt2, n1, n2]
        · simp [stepU, cleanR, h1, h2, hk, hl', hlt2, n1, n2, maxS_comm3]
theorem fold_front : ∀ (p s : List S32) (a : S32) (out : List S32), (∀ x ∈ p, x.f0 = a.f0 ∧ emptyR x = false) → emptyR a = false → (p ++ a :: s).foldl stepU out = (a :: (p ++ s)).foldl stepU out
  | [], s, a, out, _, _ => rfl
  | x :: p, s, a, out, hp, ha => by
    have ih := fold_front p s a (stepU out x) (fun y hy => hp y (by simp [hy])) ha
    obtain ⟨h1, h2⟩ := hp x (by simp)
    simp only [List.cons_append, List.foldl_cons] at ih ⊢
    rw [ih, stepU_comm out x a h1 h2 ha]
/-- Sorted by where they begin, the ranges are united to the same, however equals stand. -/
theorem fold_perm : ∀ (n : Nat) (l m : List S32) (out : List S32), l.length = n → l.Perm m → sortedR l → sortedR m → (∀ x ∈ l, emptyR x = false) → l.foldl stepU out = m.foldl stepU out
  | 0, l, m, out, hn, hp, _, _, _ => by
    obtain rfl := List.length_eq_zero_iff.1 hn
    obtain rfl := (List.Perm.nil_eq hp).symm
    rfl
  | n + 1, [], m, out, hn, _, _, _, _ => by simp at hn
  | n + 1, a :: t, m, out, hn, hp, hl, hm, he => by
    have ham : a ∈ m := hp.subset (by simp)
    obtain ⟨p, s, rfl⟩ := List.append_of_mem ham
    have hpt : t.Perm (p ++ s) := (List.Perm.cons_inv ((hp.trans List.perm_middle)))
    have hka : ∀ x ∈ p, x.f0 = a.f0 ∧ emptyR x = false := by
      intro x hx
      have hxt : x ∈ t := hpt.symm.subset (by simp [hx])
      have h1 : keyLe a x := (List.pairwise_cons.1 hl).1 x hxt
      have h2 : keyLe x a := (List.pairwise_append.1 hm).2.2 x hx a (by simp)
      refine ⟨?_, he x (by simp [hxt])⟩
      unfold keyLe at h1 h2
      rcases lt_tri (bs x.f0) (bs a.f0) with h | h | h
      · exact absurd h h1
      · exact bs_inj h
      · exact absurd h h2
    rw [fold_front p s a out hka (he a (by simp))]
    simp only [List.foldl_cons]
    refine fold_perm n t (p ++ s) _ (by simpa using hn) hpt (List.pairwise_cons.1 hl).2 ?_ (fun x hx => he x (by simp [hx]))
    unfold sortedR at hm ⊢
    rw [List.pairwise_append] at hm ⊢
    exact ⟨hm.1, (List.pairwise_cons.1 hm.2.1).2, fun x hx y hy => hm.2.2 x hx y (by simp [hy])⟩
/-- Taking in by where they begin: behind all that do not begin later. -/
def insR (x : S32) : List S32 → List S32
  | [] => [x]
  | y :: l => if bs x.f0 < bs y.f0 then x :: y :: l else y :: insR x l
def sortR : List S32 → List S32 := fun l => l.foldl (fun acc x => insR x acc) []
theorem insR_perm (x : S32) : ∀ l, (insR x l).Perm (x :: l)
  | [] => List.Perm.refl _
  | y :: l => by
    unfold insR; split
    · exact List.Perm.refl _
    · exact ((insR_perm x l).cons y).trans (List.Perm.swap x y l)
theorem insR_sorted (x : S32) : ∀ l, sortedR l → sortedR (insR x l)
  | [], _ => by simp [insR, sortedR]
  | y :: l, h => by
    unfold insR
    have h' := List.pairwise_cons.1 h
    split
    · rename_i hlt
      refine List.pairwise_cons.2 ⟨fun z hz => ?_, h⟩
      rcases List.mem_cons.1 hz with rfl | hz
      · exact List.lt_asymm hlt
      · exact fun g => h'.1 z hz (List.lt_trans g hlt)
    · rename_i hlt
      refine List.pairwise_cons.2 ⟨fun z hz => ?_, insR_sorted x l h'.2⟩
      rcases List.mem_cons.1 ((insR_perm x l).subset hz) with rfl | hz
      · exact hlt
      · exact h'.1 z hz
theorem sortR_perm_aux : ∀ (l acc : List S32), (l.foldl (fun acc x => insR x acc) acc).Perm (acc ++ l) ∧ (sortedR acc → sortedR (l.foldl (fun acc x => insR x acc) acc))
  | [], acc => by simp
  | x :: l, acc => by
    obtain ⟨h1, h2⟩ := sortR_perm_aux l (insR x acc)
    refine ⟨h1.trans ?_, fun h => h2 (insR_sorted x acc h)⟩
    exact ((insR_perm x acc).append_right l).trans (List.perm_middle.symm)
theorem sortR_perm (l : List S32) : (sortR l).Perm l := by have := (sortR_perm_aux l []).1; rwa [List.nil_append] at this
theorem sortR_sorted (l : List S32) : sortedR (sortR l) := (sortR_perm_aux l []).2 (by simp [sortedR])
def neR (l : List S32) : List S32 := l.filter fun r => !emptyR r
/-- The least ranges of the same keys. -/
def unionR (l : List S32) : List S32 := (sortR (neR l)).foldl stepU []
theorem union_of {l m : List S32} (hp : m.Perm (neR l)) (hs : sortedR m) : m.foldl stepU [] = unionR l := by
  refine fold_perm _ m _ [] rfl (hp.trans (sortR_perm _).symm) hs (sortR_sorted _) fun x hx => ?_
  have := hp.subset hx
  unfold neR at this
  simpa using (List.mem_filter.1 this).2
end Go.Proofs.YtpiifdbicibelaaDoor.PU
end
section
namespace Go.Proofs.YtpiifdbicibelaaDoor.PA
open Go.RowKit Go.Proofs.YtpiifdbicibelaaDoorW.PrintWords Go.Proofs.YtpiifdbicibelaaDoorW.PrintLast Go.Proofs.YtpiifdbicibelaaDoorW.PrintMore
attribute [local go_sem] max2_int min2_int max_two min_two max_three min_three max_four min_four
set_option linter.unusedVariables false
set_option linter.unusedSimpArgs false
theorem eqA32 (d : Nat) (w : World) (x0 y0 : ByteArray) (x1 y1 : ByteArray) (x2 y2 : Bool) :
    (Op.equalIn (d + 2) 32 (.agg #[.string x0, .string x1, .bool x2]) (.agg #[.string y0, .string y1, .bool y2])).run Tryd.prog w = .ok (x0.toList == y0.toList && (x1.toList == y1.toList && (x2 == y2))) w := by
  refine eqA_of Tryd.underlying32 (by kernel_rfl) ?_
  refine eqf_cons (by rfl) (by go_simp; rfl) (by go_simp; rfl) (by go_simp) ?_
  refine eqf_cons (by rfl) (by go_simp; rfl) (by go_simp; rfl) (by go_simp) ?_
  exact eqf_last (by rfl) (by go_simp; rfl) (by go_simp; rfl) (by go_simp)
end Go.Proofs.YtpiifdbicibelaaDoor.PA
end
section
namespace Go.Proofs.YtpiifdbicibelaaDoor.PA
open Go.RowKit Go.Proofs.YtpiifdbicibelaaDoorW.PrintWords Go.Proofs.YtpiifdbicibelaaDoorW.PrintLast Go.Proofs.YtpiifdbicibelaaDoorW.PrintMore
attribute [local go_sem] max2_int min2_int max_two min_two max_three min_three max_four min_four
set_option linter.unusedVariables false
set_option linter.unusedSimpArgs false
attribute [local go_sem high] eqA32
def code_Empty.f (a0_0 : ByteArray) (a0_1 : ByteArray) (a0_2 : Bool) : Option (Bool) := if a0_2 = true then (some false) else (some (!(Op.bytesLess a0_0.toList a0_1.toList)))
set_option maxHeartbeats 8000000 in
set_option maxRecDepth 100000 in
theorem code_Empty.calls (a0_0 : ByteArray) (a0_1 : ByteArray) (a0_2 : Bool) (r : Bool) (w : World) (h : code_Empty.f a0_0 a0_1 a0_2 = some r) :
    Calls Tryd.prog 30 #[.agg #[.string a0_0, .string a0_1, .bool a0_2]] w fun e w' => e = .returned (.bool r) ∧ Below w.heap.size w w' := by
  have hu32 := Tryd.underlying32
  have HB := am (Below.refl w.heap.size w)
  have H : (if a0_2 = true then (some false) else (some (!(Op.bytesLess a0_0.toList a0_1.toList)))) = some r := h
  clear h
  by_cases c2 : a0_2 = true
  · subst c2
    have H1 : (some false) = some r := by rw [if_pos rfl] at H; exact H
    clear H
    have H := H1
    clear H1
    obtain rfl := Option.some.inj H
    go_enter Tryd.func30, Tryd.ntmps30
    go_wp2_with (first | ((with_reducible refine gate_dst (N := 1) rfl ?_); refine box_event rfl (N := 1) rfl (cs := #[.string a0_0, .string a0_1, .bool true]) (t := 32) gs ?_; intro gb320 hg w3 hbox hb; have BK320 := am (hbox); have GW320 := gw hg HB; have GE320 := gw hg HB; replace HB := sb HB hb; clear hb hbox hg; obtain ⟨Z4_0, Z4_1, Z4_2, Y4_0, Y4_1, Y4_2⟩ := bq3 BK320))
    go_ret
    exact ⟨er, bl HB⟩
  · replace c2 := Bool.eq_false_iff.mpr c2
    subst c2
    have H1 : (some (!(Op.bytesLess a0_0.toList a0_1.toList))) = some r := by rw [if_neg (show ¬ (false = true) by decide)] at H; exact H
    clear H
    have H := H1
    clear H1
    obtain rfl := Option.some.inj H
    go_enter Tryd.func30, Tryd.ntmps30
    go_wp2_with (first | ((with_reducible refine gate_dst (N := 1) rfl ?_); refine box_event rfl (N := 1) rfl (cs := #[.string a0_0, .string a0_1, .bool false]) (t := 32) gs ?_; intro gb320 hg w5 hbox hb; have BK320 := am (hbox); have GW320 := gw hg HB; have GE320 := gw hg HB; replace HB := sb HB hb; clear hb hbox hg; obtain ⟨Z6_0, Z6_1, Z6_2, Y6_0, Y6_1, Y6_2⟩ := bq3 BK320))
    go_ret
    exact ⟨er, bl HB⟩
end Go.Proofs.YtpiifdbicibelaaDoor.PA
end
section
namespace Go.Proofs.YtpiifdbicibelaaDoor.PA
open Go.RowKit Go.Proofs Go.Proofs.YtpiifdbicibelaaDoorW.PrintWords Go.Proofs.YtpiifdbicibelaaDoorW.PrintLast Go.Proofs.YtpiifdbicibelaaDoorW.PrintMore Go.Proofs.YtpiifdbicibelaaDoor.PU
set_option linter.unusedVariables false
set_option linter.unusedSimpArgs false
theorem bless_eq (a b : ByteArray) : Op.bytesLess a.toList b.toList = decide (bs a < bs b) := by
  rw [Go.Proofs.bytesLess_eq, Go.Lib.toList_data, Go.Lib.toList_data]
theorem empty_rng (W : World) (x : S32) : Calls Tryd.prog 30 (#[.agg (enc32 x).toArray] ++ #[]) W fun e w' => e = .returned (.bool (emptyR x)) ∧ Below W.heap.size W w' := by
  have h : code_Empty.f x.f0 x.f1 x.f2 = some (emptyR x) := by
    unfold code_Empty.f emptyR
    rw [bless_eq]
    cases x.f2 <;> simp
  exact code_Empty.calls x.f0 x.f1 x.f2 _ W h
theorem none_delf (g : Nat) (lb : Array Value) (w : World) (p : S32 → Bool) (eg : ∀ args w, (callFunc g args).run Tryd.prog w = .ok (.enter g args) w)
    (hp : ∀ (W : World) (x : S32), Calls Tryd.prog g (#[.agg (enc32 x).toArray] ++ lb) W fun e w' => e = .returned (.bool (p x)) ∧ Below W.heap.size W w') :
    Calls Tryd.prog 77 #[.slice none 0 0, .func (.func g) #[] lb] w fun e w' => e = .returned (.slice none 0 0) ∧ Below w.heap.size w w' := by
  have hidx := idxf_rng p g lb eg none [] 0 w ⟨rfl, Nat.zero_le _, fun h => absurd h (Nat.lt_irrefl 0)⟩ (fun W x hb => (hp W x).mono fun e w' h => ⟨h.1, Below.trans hb (h.2.mono hb.size)⟩)
  have e1 : idxF p [] = -1 := rfl
  rw [e1] at hidx
  replace hidx : Calls Tryd.prog 115 #[.slice none 0 0, .func (.func g) #[] lb] w fun e w' => e = .returned (.int .i64 (-1)) ∧ Below w.heap.size w w' := hidx
  clear hp e1
  go_enter Tryd.func77, Tryd.ntmps77
  go_wp2_with (go_at_call 115; refine hidx.mono ?_; rintro e w' ⟨rfl, hb'⟩)
  go_ret
  exact ⟨rfl, hb'⟩
theorem none_sort (w : World) (fv : Value) : Calls Tryd.prog 79 #[.slice none 0 0, fv] w fun e w' => e = .returned (.tuple #[]) ∧ w = w' :=
  (Go.Proofs.AnyF.slices_SortFunc_none Go.Proofs.Tryd.sortR none 0 fv w).mono fun e w' h => ⟨h.1, h.2.symm⟩
set_option maxHeartbeats 4000000 in
set_option maxRecDepth 100000 in
theorem union_nil (c0 : Nat) (w : World) : Calls Tryd.prog 49 #[.slice none 0 c0] w fun e w' => e = .returned (.slice none 0 0) ∧ Below w.heap.size w w' := by
  have hcl := clone_rng [] none c0 w ⟨rfl, Nat.zero_le _, fun h => absurd h (Nat.lt_irrefl 0)⟩ (by decide)
  replace hcl : Calls Tryd.prog 78 #[.slice none 0 c0] w fun e w' => e = .returned (.slice none 0 0) ∧ w = w' := hcl.mono fun e w' h => by
    rcases h with ⟨_, h1, h2⟩ | ⟨h0, _⟩
    · exact ⟨h1, h2.symm⟩
    · exact absurd rfl h0
  have hdel := none_delf 30 #[] w emptyR (enters_of Tryd.func30 (by kernel_rfl) rfl) empty_rng
  go_enter Tryd.func49, Tryd.ntmps49
  go_wp2_with (first | (go_at_call 78; refine hcl.mono ?_; rintro e w' ⟨rfl, rfl⟩) | (go_at_call 77; refine hdel.mono ?_; rintro e w2 ⟨rfl, hb'⟩) | (go_at_call 79; refine (none_sort _ _).mono ?_; rintro e w' ⟨rfl, rfl⟩))
  go_loopg [4, 6, 7, 15] 0 (fun gg s4 s6 s7 s15 wr => s4 = .slice none 0 0 ∧ s15 = .int .i64 0 ∧ Aside0 (Below w.heap.size w wr))
  case atStart => exact ⟨rfl, rfl, ⟨by assumption⟩⟩
  case round =>
    obtain ⟨rfl, rfl, HB⟩ := hrel
    go_wp2
    go_ret
    exact ⟨rfl, HB.out⟩
/-- append(v, p), p being boxed as_ one element. -/
theorem app3 {ops : Array Oper} {rest : List Oper} {o : Oper} {a : Act} {Q : Exit → Act → World → Prop} {w0 W : World} {base n0 : Nat} (hgd : o.guard = none) (s x : Operand) (ho : o.op = .call { callee := .builtin .append, args := #[s, x], argTypes := #[53, 53] })
    (v : Value) (xs : List S32) (p : S32) (hs : a.eval s = v) (hx : a.eval x = .slice (some ⟨n0, 0, none⟩) 1 1) (hn0 : n0 = W.heap.size)
    (HO : Kd.R k32 32 W base (fun _ => True) v xs) (HB : Below base w0 W) (hbase : base ≤ W.heap.size) (hl : (xs.length + 1) * 40 ≤ 140737488355328)
    (h : ∀ v1 w1, Kd.R k32 32 w1 base (fun _ => True) v1 (xs ++ [p]) → Below base w0 w1 → wpList Tryd.prog ops Q rest (a.put o.dst v1) w1) :
    wpList Tryd.prog ops Q (o :: rest) a (W.alloc (.cells (enc32 p).toArray 32)) := by
  subst hn0
  refine Kd.R_append k32 (w0 := w0) (W := W) base hgd s x 53 32 (.agg #[(.string ⟨#[]⟩), (.string ⟨#[]⟩), (.bool false)]) 40 ho Tryd.underlying53 info32U rfl (by decide) (by omega) v xs p (enc32 p) (fun _ => True) (fun _ => False) hs hx (k32_mkM _ _ _ p) (fun _ hk => hk.elim) (fun _ _ => trivial) HO HB hbase hl ?_
  intro v1 w1 ho hb _ _
  exact h v1 w1 ho hb
theorem Row3.alloc {w : World} {g : Nat} {xs : List S32} (h : Row3 w g xs) (hg : g < w.heap.size) (o : Obj) : Row3 (w.alloc o) g xs := h.same (by show (w.heap.push o)[g]? = w.heap[g]?; rw [Array.getElem?_push, if_neg (Nat.ne_of_lt hg)])
theorem size_alloc1 (w : World) (o : Obj) : w.heap.size + 1 = (w.alloc o).heap.size := (Array.size_push o).symm
theorem own3_head {w : World} {base : Nat} {v : Value} {xs : List S32} (h : Kd.R k32 32 w base (fun _ => True) v xs) (hn : xs ≠ []) : ∃ g cap, v = .slice (some ⟨g, 0, none⟩) xs.length cap := by
  obtain ⟨_, inner, ⟨hlen, hor⟩, hreps⟩ := h
  rcases hor with ⟨_, e⟩ | ⟨g', cap', cur, e, _⟩
  · exact absurd (List.length_eq_zero_iff.1 e) hn
  · exact ⟨g', cap', e⟩
theorem stepU_len (out : List S32) (r : S32) : (stepU out r).length ≤ out.length + 1 := by
  rcases List.eq_nil_or_concat out with rfl | ⟨o, l, rfl⟩
  · simp [stepU]
  · simp only [stepU, List.getLast?_concat]
    (repeat' split) <;> simp
theorem fold_len : ∀ (l out : List S32), (l.foldl stepU out).length ≤ out.length + l.length
  | [], out => by simp
  | a :: l, out => by
    have h1 := fold_len l (stepU out a)
    have h2 := stepU_len out a
    simp only [List.foldl_cons, List.length_cons]
    omega
set_option maxHeartbeats 8000000 in
set_option maxRecDepth 100000 in
theorem union_some (l0 : List S32) (ad : Addr) (c0 : Nat) (w : World) (hC : Kd.C k32 w (some ad) l0.length l0) (hl : l0.length * 40 ≤ 140737488355328) :
    Calls Tryd.prog 49 #[.slice (some ad) l0.length c0] w fun e w' => ∃ v, e = .returned v ∧ Kd.R k32 32 w' w.heap.size (fun _ => True) v (unionR l0) ∧ Below w.heap.size w w' := by
  have hcl := clone_rng l0 (some ad) c0 w hC hl
  replace hcl : Calls Tryd.prog 78 #[.slice (some ad) l0.length c0] w fun e w' => ∃ g cap, e = .returned (.slice (some ⟨g, 0, none⟩) l0.length cap) ∧ w.heap.size ≤ g ∧ g < w'.heap.size ∧ l0.length ≤ cap ∧ Row3 w' g l0 ∧ Below w.heap.size w w' := hcl.mono fun e w' h => by
    rcases h with ⟨h0, _⟩ | ⟨_, h⟩
    · cases h0
    · exact h
  have hl2 : l0.length ≤ 4611686018427387904 := by omega
  have hfl : (neR l0).length ≤ l0.length := List.length_filter_le _ _
  have hdel := fun g cap w1 => delf_rng emptyR 30 #[] (enters_of Tryd.func30 (by kernel_rfl) rfl) w g cap l0 w1
  have hsort := fun g cap w1 => sorted_rng w g cap (neR l0) w1
  clear hC
  go_enter Tryd.func49, Tryd.ntmps49
  go_wp2_with (first | (go_at_call 78; refine hcl.mono ?_; rintro e w1 ⟨g, cap, rfl, hg, hgw, hcap, hR1, hb1⟩) | (go_at_call 77; refine (hdel _ _ _ hR1 hl2 hcap hg hb1 empty_rng).mono ?_; rintro e w2 ⟨rfl, hR2, hb2, hz2⟩; have hgw2 := Nat.lt_of_lt_of_le hgw hz2) | (go_at_call 79; refine (hsort _ _ _ hR2 (by omega) hg hgw2 hb2).mono ?_; rintro e w3 ⟨rfl, ys, hperm, hsrt, hR3, hb3, hz3⟩))
  have hn : ys.length = (List.filter (fun x => !emptyR x) l0).length := hperm.length_eq
  rw [← hn]
  have hun := union_of hperm hsrt
  have hyl : ys.length ≤ l0.length := by rw [hn]; exact hfl
  have HY := Aside0.mk hR3
  have HB3 := Aside0.mk hb3
  have HU := Aside0.mk hun
  have hgw3 : g < w3.heap.size := Nat.lt_of_lt_of_le hgw2 hz3
  clear hcl hdel hsort hR1 hb1 hR2 hb2 hz2 hgw2 hR3 hb3 hz3 hperm hsrt hun hn hfl hgw hcap
  go_loopg [4, 6, 7, 15] ys.length (fun gg s4 s6 s7 s15 wr => ∃ k : Nat, s15 = .int .i64 k ∧ k ≤ ys.length ∧ Aside0 (ys.length - k ≤ gg) ∧ Aside0 (Kd.R k32 32 wr (g + 1) (fun _ => True) s4 ((ys.take k).foldl stepU [])) ∧ Aside0 (Below (g + 1) w3 wr))
  case atStart => exact ⟨0, rfl, Nat.zero_le _, ⟨by omega⟩, ⟨Kd.R_nil _ _ _ _ _⟩, ⟨Below.refl _ _⟩⟩
  case round =>
    obtain ⟨k, rfl, hk, HM, HO, HB⟩ := hrel
    by_cases hlt : k < ys.length
    · have hltz : (k : Int) < (ys.length : Int) := by omega
      obtain ⟨y, hy⟩ : ∃ y, ys[k]? = some y := ⟨_, List.getElem?_eq_getElem hlt⟩
      obtain ⟨cx0, cx1, cx2, fx0, fx1, fx2⟩ := (HY.out.same (HB.out.block g (Nat.lt_succ_self g))).at0 hy
      have hstep : (ys.take (k + 1)).foldl stepU [] = stepU ((ys.take k).foldl stepU []) y := by rw [List.take_add_one, hy, List.foldl_append]; rfl
      have hLl : ((ys.take k).foldl stepU []).length ≤ k := by have := fold_len (ys.take k) []; rw [List.length_take] at this; simp at this; omega
      generalize (ys.take k).foldl stepU [] = L at HO hstep hLl
      have HS := Aside0.mk hstep
      have hzr : g + 1 ≤ wr.heap.size := Nat.le_trans hgw3 HB.out.size
      clear hstep hy
      obtain ⟨A, c, rfl⟩ := Kd.R_slice HO.out
      rcases List.eq_nil_or_concat L with rfl | ⟨o, l, eL⟩
      · have hl40 : (([] : List S32).length + 1) * 40 ≤ 140737488355328 := by decide
        cases hq : y.f2 with
        | true =>
          rw [hq] at cx2
          have hs : stepU [] y = [] ++ [⟨y.f0, ⟨#[]⟩, true⟩] := by unfold stepU cleanR; rw [if_pos hq]; rfl
          go_wp2_with ((with_reducible refine gate_builtin (b := .append) (xs := #[.tmp 25, .tmp 27]) rfl ?_); at_builtin; refine app3 (w0 := w3) (base := g + 1) rfl (.tmp 25) (.tmp 27) rfl (.slice A 0 c) ([] : List S32) (⟨y.f0, ⟨#[]⟩, true⟩ : S32) rfl rfl (size_alloc1 _ _) (Kd.R_alloc HO.out _) (HB.out.alloc hzr _) (Nat.le_trans hzr (by rw [← size_alloc1]; exact Nat.le_succ _)) hl40 ?_; intro v1 w4 ho hb)
          go_roundg (ys.length - (k + 1))
          case measure => have := HM.out; omega
          case rel => exact ⟨k + 1, by go_num, hlt, ⟨Nat.le_refl _⟩, ⟨by rw [HS.out, hs]; exact ho⟩, ⟨hb⟩⟩
        | false =>
          rw [hq] at cx2
          have hs : stepU [] y = [] ++ [⟨y.f0, y.f1, false⟩] := by unfold stepU cleanR; rw [if_neg (by rw [hq]; decide)]; cases y; cases hq; rfl
          go_wp2_with ((with_reducible refine gate_builtin (b := .append) (xs := #[.tmp 25, .tmp 27]) rfl ?_); at_builtin; refine app3 (w0 := w3) (base := g + 1) rfl (.tmp 25) (.tmp 27) rfl (.slice A 0 c) ([] : List S32) (⟨y.f0, y.f1, false⟩ : S32) rfl rfl (size_alloc1 _ _) (Kd.R_alloc HO.out _) (HB.out.alloc hzr _) (Nat.le_trans hzr (by rw [← size_alloc1]; exact Nat.le_succ _)) hl40 ?_; intro v1 w4 ho hb)
          go_roundg (ys.length - (k + 1))
          case measure => have := HM.out; omega
          case rel => exact ⟨k + 1, by go_num, hlt, ⟨Nat.le_refl _⟩, ⟨by rw [HS.out, hs]; exact ho⟩, ⟨hb⟩⟩
      · rw [List.concat_eq_append] at eL
        subst eL
        obtain ⟨g2, c2, e2⟩ := own3_head HO.out (by simp)
        rw [e2] at HO ⊢
        clear e2
        have hlen1 : (o ++ [l]).length = o.length + 1 := by simp
        have HP := Aside0.mk (own3_parts HO.out)
        have hg2 : g2 < wr.heap.size := HP.out.2.2.2.2.1.lt (by simp)
        have hD := fun ob => (HP.out.2.2.2.2.1.alloc hg2 ob).at0 (i := o.length) (x := l) (by simp)
        have dx0 := fun ob => (hD ob).1
        have dx1 := fun ob => (hD ob).2.1
        have dx2 := fun ob => (hD ob).2.2.1
        have gx1 := fun ob => (hD ob).2.2.2.2.1
        have gx2 := fun ob => (hD ob).2.2.2.2.2
        clear hD
        rw [hlen1] at HO ⊢ hLl
        have hwi : True → wrap64 (((o.length + 1 : Nat) : Int) - 1) = (o.length : Int) := fun _ => by rw [Go.IntWalk.wrap64_in _ (by omega)]; omega
        have hil : (o.length : Int) < ((o.length + 1 : Nat) : Int) := by omega
        replace hwi := hwi trivial
        cases hq : y.f2 with
        | true =>
          rw [hq] at cx2
          cases hql : l.f2 with
          | true =>
            rw [hql] at dx2
            have hs : stepU (o ++ [l]) y = o ++ [l] := by unfold stepU; rw [List.getLast?_concat]; simp only [hql, if_true]
            go_wp2
            go_roundg (ys.length - (k + 1))
            case measure => have := HM.out; omega
            case rel => exact ⟨k + 1, by go_num, hlt, ⟨Nat.le_refl _⟩, ⟨by rw [HS.out, hs]; exact Kd.R_alloc HO.out _⟩, ⟨HB.out.alloc hzr _⟩⟩
          | false =>
            rw [hql] at dx2
            by_cases hc : bs l.f1 < bs y.f0
            · have hcm : Op.bytesLess l.f1.toList y.f0.toList = true := by rw [bless_eq]; exact decide_eq_true hc
              have hs : stepU (o ++ [l]) y = (o ++ [l]) ++ [⟨y.f0, ⟨#[]⟩, true⟩] := by unfold stepU cleanR; rw [List.getLast?_concat]; simp only [hql, hq, if_true, if_false, hc, Bool.false_eq_true]
              have hl40 : ((o ++ [l]).length + 1) * 40 ≤ 140737488355328 := by rw [hlen1]; omega
              go_wp2
              go_quiet (fail)
              go_wp2_with ((with_reducible refine gate_builtin (b := .append) (xs := #[.tmp 57, .tmp 59]) rfl ?_); at_builtin; refine app3 (w0 := w3) (base := g + 1) rfl (.tmp 57) (.tmp 59) rfl (.slice (some ⟨g2, 0, none⟩) (o.length + 1) c2) (o ++ [l]) (⟨y.f0, ⟨#[]⟩, true⟩ : S32) rfl rfl (size_alloc1 _ _) (Kd.R_drewN (Kd.R_alloc HO.out _) _) (pw_below_drewN (HB.out.alloc hzr _) _) (Nat.le_trans hzr (by rw [show ∀ (W : World) q, (W.drewN q).heap.size = W.heap.size from fun _ _ => rfl, ← size_alloc1]; exact Nat.le_succ _)) hl40 ?_; intro v1 w4 ho hb)
              go_roundg (ys.length - (k + 1))
              case measure => have := HM.out; omega
              case rel => exact ⟨k + 1, by go_num, hlt, ⟨Nat.le_refl _⟩, ⟨by rw [HS.out, hs]; exact ho⟩, ⟨hb⟩⟩
            · have hcm : Op.bytesLess l.f1.toList y.f0.toList = false := by rw [bless_eq]; exact decide_eq_false hc
              go_wp2
              go_quiet (fail)
              go_wp2
              have hset : ∀ z l : S32, (o ++ [l]).set o.length z = o ++ [z] := by intro z l; simp
              have hs : stepU (o ++ [l]) y = o ++ [⟨l.f0, ⟨#[]⟩, true⟩] := by unfold stepU cleanR; rw [List.getLast?_concat, List.dropLast_concat]; simp only [hql, hq, if_true, if_false, hc, Bool.false_eq_true]
              have hO1 := put3 (Kd.R_drewN (Kd.R_alloc HO.out (.cells #[.string y.f0, .string ⟨#[]⟩, .bool true] 32)) nq) (i := o.length) (x := l) (by simp) ⟨l.f0, l.f1, true⟩ 2 (.bool true) rfl (by intro j hj; rcases j with _ | _ | _ | j <;> first | rfl | exact absurd rfl hj)
              rw [hset] at hO1
              have hO2 := put3 hO1 (i := o.length) (x := ⟨l.f0, l.f1, true⟩) (by simp) ⟨l.f0, ⟨#[]⟩, true⟩ 1 (.string ⟨#[]⟩) rfl (by intro j hj; rcases j with _ | _ | _ | j <;> first | rfl | exact absurd rfl hj)
              rw [hset] at hO2
              have hge := HP.out.2.1
              have hB2 := ((pw_below_drewN (HB.out.alloc hzr (.cells #[.string y.f0, .string ⟨#[]⟩, .bool true] 32)) nq).setCell (p := ⟨g2, o.length * 3 + 2, none⟩) hge (.bool true)).setCell (p := ⟨g2, o.length * 3 + 1, none⟩) hge (.string ⟨#[]⟩)
              go_roundg (ys.length - (k + 1))
              case measure => have := HM.out; omega
              case rel => exact ⟨k + 1, by go_num, hlt, ⟨Nat.le_refl _⟩, ⟨by rw [HS.out, hs]; exact hO2⟩, ⟨hB2⟩⟩
        | false =>
          rw [hq] at cx2
          cases hql : l.f2 with
          | true =>
            rw [hql] at dx2
            have hs : stepU (o ++ [l]) y = o ++ [l] := by unfold stepU; rw [List.getLast?_concat]; simp only [hql, if_true]
            go_wp2
            go_roundg (ys.length - (k + 1))
            case measure => have := HM.out; omega
            case rel => exact ⟨k + 1, by go_num, hlt, ⟨Nat.le_refl _⟩, ⟨by rw [HS.out, hs]; exact Kd.R_alloc HO.out _⟩, ⟨HB.out.alloc hzr _⟩⟩
          | false =>
            rw [hql] at dx2
            by_cases hc : bs l.f1 < bs y.f0
            · have hcm : Op.bytesLess l.f1.toList y.f0.toList = true := by rw [bless_eq]; exact decide_eq_true hc
              have hs : stepU (o ++ [l]) y = (o ++ [l]) ++ [⟨y.f0, y.f1, false⟩] := by unfold stepU cleanR; rw [List.getLast?_concat]; simp only [hql, hq, if_true, if_false, hc, Bool.false_eq_true]; cases y; cases hq; rfl
              have hl40 : ((o ++ [l]).length + 1) * 40 ≤ 140737488355328 := by rw [hlen1]; omega
              go_wp2
              go_quiet (fail)
              go_wp2_with ((with_reducible refine gate_builtin (b := .append) (xs := #[.tmp 57, .tmp 59]) rfl ?_); at_builtin; refine app3 (w0 := w3) (base := g + 1) rfl (.tmp 57) (.tmp 59) rfl (.slice (some ⟨g2, 0, none⟩) (o.length + 1) c2) (o ++ [l]) (⟨y.f0, y.f1, false⟩ : S32) rfl rfl (size_alloc1 _ _) (Kd.R_drewN (Kd.R_alloc HO.out _) _) (pw_below_drewN (HB.out.alloc hzr _) _) (Nat.le_trans hzr (by rw [show ∀ (W : World) q, (W.drewN q).heap.size = W.heap.size from fun _ _ => rfl, ← size_alloc1]; exact Nat.le_succ _)) hl40 ?_; intro v1 w4 ho hb)
              go_roundg (ys.length - (k + 1))
              case measure => have := HM.out; omega
              case rel => exact ⟨k + 1, by go_num, hlt, ⟨Nat.le_refl _⟩, ⟨by rw [HS.out, hs]; exact ho⟩, ⟨hb⟩⟩
            · have hcm : Op.bytesLess l.f1.toList y.f0.toList = false := by rw [bless_eq]; exact decide_eq_false hc
              go_wp2
              go_quiet (fail)
              go_wp2
              go_region
              go_wp2
              have hset : ∀ z l : S32, (o ++ [l]).set o.length z = o ++ [z] := by intro z l; simp
              have hs : stepU (o ++ [l]) y = o ++ [⟨l.f0, Go.Lib.maxS l.f1 y.f1, l.f2⟩] := by unfold stepU cleanR; rw [List.getLast?_concat, List.dropLast_concat]; simp only [hql, hq, if_true, if_false, hc, Bool.false_eq_true]
              have hO1 := put3 (Kd.R_drewN (Kd.R_alloc HO.out (.cells #[.string y.f0, .string y.f1, .bool false] 32)) (nq + 1)) (i := o.length) (x := l) (by simp) ⟨l.f0, Go.Lib.maxS l.f1 y.f1, l.f2⟩ 1 (.string (Go.Lib.maxS l.f1 y.f1)) rfl (by intro j hj; rcases j with _ | _ | _ | j <;> first | rfl | exact absurd rfl hj)
              rw [hset] at hO1
              have hge := HP.out.2.1
              have hB2 := (pw_below_drewN (HB.out.alloc hzr (.cells #[.string y.f0, .string y.f1, .bool false] 32)) (nq + 1)).setCell (p := ⟨g2, o.length * 3 + 1, none⟩) hge (.string (Go.Lib.maxS l.f1 y.f1))
              go_roundg (ys.length - (k + 1))
              case measure => have := HM.out; omega
              case rel => exact ⟨k + 1, by go_num, hlt, ⟨Nat.le_refl _⟩, ⟨by rw [HS.out, hs]; exact hO1⟩, ⟨hB2⟩⟩
    · obtain rfl : k = ys.length := by omega
      have hltz : ¬ (ys.length : Int) < (ys.length : Int) := by omega
      have hfin := HO.out
      rw [List.take_length, HU.out] at hfin
      go_wp2
      go_ret
      exact ⟨_, rfl, Kd.R_lower hfin (Nat.le_succ_of_le hg), Below.trans HB3.out (HB.out.mono (Nat.le_succ_of_le hg))⟩
def code_Union.f (l0 : List S32) : Option (List S32) := if l0.length * 40 ≤ 140737488355328 then some (unionR l0) else none
theorem code_Union.calls (A0 : Option Addr) (c0 : Nat) (l0 : List S32) (r : List S32) (w : World) (hr0 : Kd.C k32 w A0 l0.length l0) (hc0 : l0.length ≤ c0) (h : code_Union.f l0 = some r) :
    Calls Tryd.prog 49 #[.slice A0 l0.length c0] w fun e w' => ∃ v0_, e = .returned v0_ ∧ Kd.R k32 32 w' w.heap.size (fun _ => True) v0_ r ∧ Below w.heap.size w w' := by
  unfold code_Union.f at h
  by_cases hl : l0.length * 40 ≤ 140737488355328
  · rw [if_pos hl] at h
    obtain rfl := Option.some.inj h
    cases A0 with
    | some ad => exact union_some l0 ad c0 w hr0 hl
    | none =>
      obtain rfl : l0 = [] := by
        rcases Nat.eq_zero_or_pos l0.length with h0 | h0
        · exact List.length_eq_zero_iff.1 h0
        · obtain ⟨_, h1, _⟩ := hr0.2.2 h0
          cases h1
      exact (union_nil c0 w).mono fun e w' h => ⟨_, h.1, Kd.R_nil _ _ _ _ _, h.2⟩
  · rw [if_neg hl] at h
    cases h
end Go.Proofs.YtpiifdbicibelaaDoor.PA
end
section
namespace Go.Proofs.YtpiifdbicibelaaDoor.PA
open Go.RowKit Go.Proofs.YtpiifdbicibelaaDoorW.PrintWords Go.Proofs.YtpiifdbicibelaaDoorW.PrintLast Go.Proofs.YtpiifdbicibelaaDoorW.PrintMore
attribute [local go_sem] max2_int min2_int max_two min_two max_three min_three max_four min_four
set_option linter.unusedVariables false
set_option linter.unusedSimpArgs false
theorem info32 : (Tryd.prog.info? 32).map (fun i => (i.zero, i.size, i.bytes)) = some (some (.agg #[(.string ⟨#[]⟩), (.string ⟨#[]⟩), (.bool false)]), 3, 40) := by kernel_rfl
attribute [local go_sem high] eqA32
def vellumref02_Same.l0 : Nat → List (S32) → List (S32) → Int → Option (Bool)
  | 0, _, _, _ => none
  | k + 1, x0, x1, x5 => if x5 < (x0.length : Int) then (if 0 ≤ x5 then (if x5 < (x1.length : Int) then (if (!((((rd_T32 x0 x5).f0).toList) == (((rd_T32 x1 x5).f0).toList)) || (!((((rd_T32 x0 x5).f1).toList) == (((rd_T32 x1 x5).f1).toList)) || (!(((rd_T32 x0 x5).f2) == ((rd_T32 x1 x5).f2))))) = true then (some false) else (vellumref02_Same.l0 k x0 x1 (wrap64 (x5 + 1)))) else (none)) else (none)) else (some true)
def vellumref02_Same.f (k : Nat) (l0 : List (S32)) (l1 : List (S32)) : Option (Bool) := if (l0.length : Int) = (l1.length : Int) then (vellumref02_Same.l0 k l0 l1 0) else (some false)
set_option maxHeartbeats 8000000 in
set_option maxRecDepth 100000 in
theorem vellumref02_Same.calls (k : Nat) (A0 : Option Addr) (c0 : Nat) (l0 : List (S32)) (A1 : Option Addr) (c1 : Nat) (l1 : List (S32)) (r : Bool) (w : World) (hr0 : Kd.C k32 w A0 l0.length l0) (hc0 : l0.length ≤ c0) (hr1 : Kd.C k32 w A1 l1.length l1) (hc1 : l1.length ≤ c1) (h : vellumref02_Same.f k l0 l1 = some r) :
    Calls Tryd.prog 48 #[.slice A0 l0.length c0, .slice A1 l1.length c1] w fun e w' => e = .returned (.bool r) ∧ Drawn0 w w' := by
  have hu32 := Tryd.underlying32
  have HR0 := am hr0
  have HC0 := am hc0
  clear hr0 hc0
  have HR1 := am hr1
  have HC1 := am hc1
  clear hr1 hc1
  have H : (if (l0.length : Int) = (l1.length : Int) then (vellumref02_Same.l0 k l0 l1 0) else (some false)) = some r := h
  clear h
  by_cases c3 : (l0.length : Int) = (l1.length : Int)
  · rw [if_pos c3] at H
    have c3b0 : ((l0.length : Int) == (l1.length : Int)) = true := beq_iff_eq.mpr c3
    have c3b1 : ((l0.length : Int) != (l1.length : Int)) = false := bne_eq_false_iff_eq.mpr c3
    have c3b2 : (l0.length == l1.length) = true := by first | simpa using c3 | (simp at c3 ⊢; omega)
    clear c3
    have H' := am H
    clear H
    go_enter Tryd.func48, Tryd.ntmps48
    go_wp2
    repeat (go_quiet (fail); try go_wp2)
    go_loopg [5] k (fun kq v5 w' => ∃ (x5_1 : Int), v5 = .int .i64 x5_1 ∧ Aside0 (vellumref02_Same.l0 kq l0 l1 x5_1 = some r) ∧ Aside0 (kq ≤ k) ∧ Drawn0 w w')
    case atStart => exact ⟨(0), eb, H', ⟨Nat.le_refl _⟩, by repeat (first | exact Drawn0.refl _ | apply Drawn0.step)⟩
    case round =>
      clear H'
      try clear c1
      try clear p2
      try clear c3
      try clear c3b0
      try clear c3b1
      try clear c3b2
      obtain ⟨x5_1, rfl, HA, HK1, ⟨m1, rfl⟩⟩ := hrel
      cases gk with
      | zero => exact absurd HA.out (by simp [vellumref02_Same.l0])
      | succ k1 =>
        have H := HA.out
        clear HA
        simp only [vellumref02_Same.l0] at H
        by_cases c4 : x5_1 < (l0.length : Int)
        · rw [if_pos c4] at H
          have c4b0 : decide (x5_1 < (l0.length : Int)) = true := decide_eq_true c4
          clear c4
          by_cases c5 : 0 ≤ x5_1
          · rw [if_pos c5] at H
            have c5b0 : decide (0 ≤ x5_1) = true := decide_eq_true c5
            clear c5
            by_cases c6 : x5_1 < (l1.length : Int)
            · rw [if_pos c6] at H
              have c6b0 : decide (x5_1 < (l1.length : Int)) = true := decide_eq_true c6
              clear c6
              by_cases c7 : (!((((rd_T32 l0 x5_1).f0).toList) == (((rd_T32 l1 x5_1).f0).toList)) || (!((((rd_T32 l0 x5_1).f1).toList) == (((rd_T32 l1 x5_1).f1).toList)) || (!(((rd_T32 l0 x5_1).f2) == ((rd_T32 l1 x5_1).f2))))) = true
              · rw [if_pos c7] at H
                have c7b0 : (!((((rd_T32 l0 x5_1).f0).toList) == (((rd_T32 l1 x5_1).f0).toList)) || (!((((rd_T32 l0 x5_1).f1).toList) == (((rd_T32 l1 x5_1).f1).toList)) || (!(((rd_T32 l0 x5_1).f2) == ((rd_T32 l1 x5_1).f2))))) = true := c7
                clear c7
                obtain rfl := Option.some.inj H
                have p1030 : 0 ≤ (x5_1 : Int) := oda
                have q1030 : x5_1 < (l0.length : Int) := oda
                obtain ⟨ad1030, e1030, hx1030_0, hx1030_1, hx1030_2⟩ := at_T32 HR0.out x5_1 p1030 q1030
                cases e1030
                replace p1030 := eq_true p1030
                replace q1030 := eq_true q1030
                have p1031 : 0 ≤ (x5_1 : Int) := oda
                have q1031 : x5_1 < (l1.length : Int) := oda
                obtain ⟨ad1031, e1031, hx1031_0, hx1031_1, hx1031_2⟩ := at_T32 HR1.out x5_1 p1031 q1031
                cases e1031
                replace p1031 := eq_true p1031
                replace q1031 := eq_true q1031
                go_wp2
                repeat (go_quiet (fail); try go_wp2)
                go_ret
                exact ⟨eb, by repeat (first | exact Drawn0.refl _ | apply Drawn0.step)⟩
              · rw [if_neg c7] at H
                have c7b0 : (!((((rd_T32 l0 x5_1).f0).toList) == (((rd_T32 l1 x5_1).f0).toList)) || (!((((rd_T32 l0 x5_1).f1).toList) == (((rd_T32 l1 x5_1).f1).toList)) || (!(((rd_T32 l0 x5_1).f2) == ((rd_T32 l1 x5_1).f2))))) = false := by simpa using c7
                clear c7
                have H' := am H
                clear H
                have p1030 : 0 ≤ (x5_1 : Int) := oda
                have q1030 : x5_1 < (l0.length : Int) := oda
                obtain ⟨ad1030, e1030, hx1030_0, hx1030_1, hx1030_2⟩ := at_T32 HR0.out x5_1 p1030 q1030
                cases e1030
                replace p1030 := eq_true p1030
                replace q1030 := eq_true q1030
                have p1031 : 0 ≤ (x5_1 : Int) := oda
                have q1031 : x5_1 < (l1.length : Int) := oda
                obtain ⟨ad1031, e1031, hx1031_0, hx1031_1, hx1031_2⟩ := at_T32 HR1.out x5_1 p1031 q1031
                cases e1031
                replace p1031 := eq_true p1031
                replace q1031 := eq_true q1031
                go_wp2
                repeat (go_quiet (fail); try go_wp2)
                go_roundg k1
                case measure => have := HK1.out; omega
                case rel => exact ⟨(wrap64 (x5_1 + 1)), eb, H', ⟨by have := HK1.out; omega⟩, by repeat (first | exact Drawn0.refl _ | apply Drawn0.step)⟩
            · rw [if_neg c6] at H
              exact absurd H (by simp)
          · rw [if_neg c5] at H
            exact absurd H (by simp)
        · rw [if_neg c4] at H
          have c4b0 : decide (x5_1 < (l0.length : Int)) = false := decide_eq_false c4
          clear c4
          obtain rfl := Option.some.inj H
          go_wp2
          repeat (go_quiet (fail); try go_wp2)
          go_ret
          exact ⟨eb, by repeat (first | exact Drawn0.refl _ | apply Drawn0.step)⟩
  · rw [if_neg c3] at H
    have c3b0 : ((l0.length : Int) == (l1.length : Int)) = false := beq_eq_false_iff_ne.mpr c3
    have c3b1 : ((l0.length : Int) != (l1.length : Int)) = true := bne_iff_ne.mpr c3
    have c3b2 : (l0.length == l1.length) = false := by first | simpa using c3 | (simp at c3 ⊢; omega)
    obtain rfl := Option.some.inj H
    go_enter Tryd.func48, Tryd.ntmps48
    go_wp2
    repeat (go_quiet (fail); try go_wp2)
    go_ret
    exact ⟨eb, by repeat (first | exact Drawn0.refl _ | apply Drawn0.step)⟩
mutual
def vellumlaw02_CodeOwn.l0 : Nat → List (S50) → List (S32) → List (S50) → ByteArray → Int → List (S50) → Int → Option (Bool)
  | 0, _, _, _, _, _, _, _ => none
  | k + 1, x0, x1, x5, x6, x7, x8, x10 => if x10 < (x8.length : Int) then (if 0 ≤ x10 then (vellumlaw02_CodeOwn.l0 k x0 x1 x5 x6 x7 (x8.set (x10 : Int).toNat (⟨77, 0, 0, (⟨#[]⟩ : ByteArray)⟩ : S50)) (wrap64 (x10 + 1))) else (none)) else (if ([] : List (S32)).length + x1.length < 3518437208883 then ((some (([] : List (S32)) ++ x1 : List (S32))).bind fun y1116 => ((code_Union.f y1116).bind fun t1119 => (vellumlaw02_CodeOwn.l1 k x0 x1 x5 x6 x7 y1116 t1119 0))) else (none))
def vellumlaw02_CodeOwn.l1 : Nat → List (S50) → List (S32) → List (S50) → ByteArray → Int → List (S32) → List (S32) → Int → Option (Bool)
  | 0, _, _, _, _, _, _, _, _ => none
  | k + 1, x0, x1, x5, x6, x7, x11, x12, x13 => if x13 < (x12.length : Int) then (if 0 ≤ x13 then (vellumlaw02_CodeOwn.l1 k x0 x1 x5 x6 x7 x11 (x12.set (x13 : Int).toNat (⟨(⟨#[115, 112, 111, 105, 108, 116]⟩ : ByteArray), (⟨#[]⟩ : ByteArray), false⟩ : S32)) (wrap64 (x13 + 1))) else (none)) else ((code_Encode.f k x5).bind fun bt1123 => (if x7 = bt1123.2 then (if x6.toList = bt1123.1.toList then ((vellumref01_SameRow.f k x5 x0).bind fun t1125 => (if t1125 = true then ((vellumref02_Same.f k x11 x1).bind fun t1126 => (if t1126 = true then ((vellumlaw02_awake.f k).bind fun t1127 => (some t1127)) else (some false))) else (some false))) else (some false)) else (some false)))
end
def vellumlaw02_CodeOwn.f (k : Nat) (l0 : List (S50)) (l1 : List (S32)) : Option (Bool) := (vellumref01_Row.f k l0).bind fun t1106 => ((code_Encode.f k t1106).bind fun bt1109 => ((code_Decode.f k bt1109.1).bind fun bt1111 => (vellumlaw02_CodeOwn.l0 k l0 l1 t1106 bt1109.1 bt1109.2 bt1111.1 0)))
set_option maxHeartbeats 8000000 in
set_option maxRecDepth 100000 in
theorem vellumlaw02_CodeOwn.calls (k : Nat) (A0 : Option Addr) (c0 : Nat) (l0 : List (S50)) (A1 : Option Addr) (c1 : Nat) (l1 : List (S32)) (r : Bool) (w : World) (hr0 : Kd.C k50 w A0 l0.length l0) (hc0 : l0.length ≤ c0) (hr1 : Kd.C k32 w A1 l1.length l1) (hc1 : l1.length ≤ c1) (hG : Glob w) (h : vellumlaw02_CodeOwn.f k l0 l1 = some r) :
    Calls Tryd.prog 12 #[.slice A0 l0.length c0, .slice A1 l1.length c1] w fun e w' => e = .returned (.bool r) ∧ Below w.heap.size w w' := by
  have hu50 := Tryd.underlying50
  have hu32 := Tryd.underlying32
  have HR0 := am hr0
  have HC0 := am hc0
  clear hr0 hc0
  have HR1 := am hr1
  have HC1 := am hc1
  clear hr1 hc1
  have HG := am hG
  clear hG
  have HB := am (Below.refl w.heap.size w)
  have H : ((vellumref01_Row.f k l0).bind fun t1106 => ((code_Encode.f k t1106).bind fun bt1109 => ((code_Decode.f k bt1109.1).bind fun bt1111 => (vellumlaw02_CodeOwn.l0 k l0 l1 t1106 bt1109.1 bt1109.2 bt1111.1 0)))) = some r := h
  clear h
  replace H := Option.bind_eq_some_iff.mp H
  obtain ⟨t1106, A30, H⟩ := H
  replace H : ((code_Encode.f k t1106).bind fun bt1109 => ((code_Decode.f k bt1109.1).bind fun bt1111 => (vellumlaw02_CodeOwn.l0 k l0 l1 t1106 bt1109.1 bt1109.2 bt1111.1 0))) = some r := H
  have A3 := am A30
  clear A30
  replace H := Option.bind_eq_some_iff.mp H
  obtain ⟨⟨t1109, t1110⟩, A40, H⟩ := H
  replace H : ((code_Decode.f k t1109).bind fun bt1111 => (vellumlaw02_CodeOwn.l0 k l0 l1 t1106 t1109 t1110 bt1111.1 0)) = some r := H
  have A4 := am A40
  clear A40
  replace H := Option.bind_eq_some_iff.mp H
  obtain ⟨⟨t1111, t1112⟩, A50, H⟩ := H
  replace H : (vellumlaw02_CodeOwn.l0 k l0 l1 t1106 t1109 t1110 t1111 0) = some r := H
  have A5 := am A50
  clear A50
  have H' := am H
  clear H
  go_enter Tryd.func12, Tryd.ntmps12
  go_wp2_with (first | ((with_reducible refine gate_callee (f := 51) rfl ?_); refine goesL_ (some 17) rfl rfl Tryd.func51 (by kernel_rfl) rfl #[.slice A0 l0.length c0] rfl ar ?_; (with_reducible refine (vellumref01_Row.calls k _ _ l0 t1106 _ ?side1 HC0.out A3.out).mono ?_); (case side1 => repeat (first | exact HR0.out | (with_reducible refine Kd.C_alloc ?_ _) | (with_reducible refine Kd.C_drewN ?_ _) | (with_reducible refine Kd.C_drew ?_))); rintro e w6 ⟨v1107, rfl, ho0, hb⟩; refine ⟨_, rfl, ?_⟩; have n0_ := am (Kd.R_lower ho0 (below_size (bl HB))); have n1_ := sb HB hb; clear HB; have HO1108 := n0_; have HB := n1_; clear n0_ n1_; (try clear hb); (try clear hb2 hk hi); (try clear ho0); obtain ⟨Ao7, co7, eo7⟩ := Kd.R_slice HO1108.out; subst eo7) | ((with_reducible refine gate_callee (f := 21) rfl ?_); refine goesL_ (some 20) rfl rfl Tryd.func21 (by kernel_rfl) rfl #[.slice Ao7 t1106.length co7] rfl ar ?_; (with_reducible refine (code_Encode.calls k _ _ t1106 t1109 t1110 _ ?side1 ?side2 (Glob.below HG.out (bl HB)) A4.out).mono ?_); (case side1 => repeat (first | exact (Kd.R_reads' HO1108.out).2.2 | (with_reducible refine Kd.C_alloc ?_ _) | (with_reducible refine Kd.C_drewN ?_ _) | (with_reducible refine Kd.C_drew ?_))); (case side2 => exact (Kd.R_reads' HO1108.out).2.1); rintro e w8 ⟨rfl, hb⟩; refine ⟨_, rfl, ?_⟩; have n0_ := am (Kd.R_below (Kd.rr HO1108.out) hb); have n1_ := sb HB hb; clear HO1108; clear HB; have HO1108 := n0_; have HB := n1_; clear n0_ n1_; (try clear hb); (try clear hb2 hk hi)) | ((with_reducible refine gate_callee (f := 43) rfl ?_); refine goesL_ (some 25) rfl rfl Tryd.func43 (by kernel_rfl) rfl #[.string t1109] rfl ar ?_; (with_reducible refine (code_Decode.calls k t1109 t1111 t1112 _ (Glob.below HG.out (bl HB)) A5.out).mono ?_); rintro e w9 ⟨v1113, rfl, ho0, hb⟩; refine ⟨_, rfl, ?_⟩; have n0_ := am (Kd.R_elder' (Kd.rr HO1108.out) (Kd.R_base ho0) hb); have n1_ := am (Kd.R_lower (Kd.R_new' ho0 (Kd.R_lt (Kd.rr HO1108.out))) (below_size (bl HB))); have n2_ := sb HB hb; clear HO1108; clear HB; have HO1108 := n0_; have HO1114 := n1_; have HB := n2_; clear n0_ n1_ n2_; (try clear hb); (try clear hb2 hk hi); (try clear ho0)))
  go_loopg [10] k (fun kq v10 w' => ∃ (x8_1 : List (S50)) (x10_1 : Int), v10 = .int .i64 x10_1 ∧ Aside0 (vellumlaw02_CodeOwn.l0 kq l0 l1 t1106 t1109 t1110 x8_1 x10_1 = some r) ∧ Aside0 (kq ≤ k) ∧ Aside0 (Kd.R k50 50 w' w.heap.size (fun k_ => some k_ ≠ (v1113 : Value).ownBlock) (.slice Ao7 t1106.length co7) t1106) ∧ Aside0 (Kd.R k50 50 w' w.heap.size (fun k_ => some k_ ≠ ((.slice Ao7 t1106.length co7) : Value).ownBlock) v1113 x8_1) ∧ Aside0 (Below w.heap.size w w'))
  case atStart => exact ⟨(t1111), (0), eb, H', ⟨Nat.le_refl _⟩, ⟨by (with_reducible repeat (first | apply Kd.R_alloc | apply Kd.R_drewN | apply Kd.R_drew)); exact Kd.R_mono HO1108.out (fun _ hk => hk.2)⟩, ⟨by (with_reducible repeat (first | apply Kd.R_alloc | apply Kd.R_drewN | apply Kd.R_drew)); exact Kd.R_mono HO1114.out (fun _ hk => hk.2)⟩, ⟨bl HB⟩⟩
  case round =>
    clear H'
    try clear c1
    try clear c2
    try clear p2
    try clear c4
    try clear c5
    obtain ⟨x8_1, x10_1, rfl, HA, HK1, HO_5, HO_8, HB⟩ := hrel
    cases gk with
    | zero => exact absurd HA.out (by simp [vellumlaw02_CodeOwn.l0])
    | succ k1 =>
      have H := HA.out
      clear HA
      simp only [vellumlaw02_CodeOwn.l0] at H
      by_cases c10 : x10_1 < (x8_1.length : Int)
      · rw [if_pos c10] at H
        have c10b0 : decide (x10_1 < (x8_1.length : Int)) = true := decide_eq_true c10
        clear c10
        by_cases c11 : 0 ≤ x10_1
        · rw [if_pos c11] at H
          have c11b0 : decide (0 ≤ x10_1) = true := decide_eq_true c11
          clear c11
          obtain ⟨y1115, hy1115⟩ : ∃ y_ : List (S50), y_ = (x8_1.set (x10_1 : Int).toNat (⟨77, 0, 0, (⟨#[]⟩ : ByteArray)⟩ : S50)) := ⟨_, rfl⟩
          replace H : (vellumlaw02_CodeOwn.l0 k1 l0 l1 t1106 t1109 t1110 y1115 (wrap64 (x10_1 + 1))) = some r := by first | (rw [hy1115]; with_reducible exact H) | (have H2_ := (Option.bind_some _ _).symm.trans H; rw [hy1115]; with_reducible exact H2_) | (have H2_ := (Option.bind_some _ _).symm.trans H; with_reducible exact H2_) | with_reducible exact H | (rw [hy1115]; exact H) | exact H
          have Ny1115 := am hy1115
          clear hy1115
          have H' := am H
          clear H
          obtain ⟨Ao13, co13, eo13⟩ := Kd.R_slice HO_8.out
          subst eo13
          have p12 : 0 ≤ (x10_1 : Int) := oda
          have q12 : (x10_1 : Int) < ((x8_1.length : Int) : Int) := oda
          obtain ⟨go12, co12, eo12, gb12, gl12, cl12, HG12⟩ := Kd.R_form HO_8.out (by omega)
          (first | cases eo12 | (injection eo12 with ea_ en_ ec_; (first | subst ea_ | (injection ea_ with ea_; subst ea_)); subst ec_; clear en_))
          have GB12 := am gb12
          have GG12 := am HG12
          clear gb12 gl12 HG12
          obtain ⟨ce12, hcl12, hM12, hcc12, hfr12⟩ := Kd.R_elem HO_8.out z50 (x10_1 : Int) p12 q12
          obtain rfl := k50_openM hM12
          have hx12_0 : wr.cell? ⟨go12, (x10_1 : Int).toNat * 4, none⟩ = some (.int .i64 ((rd_T50 x8_1 x10_1).f0)) := hcc12 0 _ rfl
          have hx12_1 : wr.cell? ⟨go12, (x10_1 : Int).toNat * 4 + 1, none⟩ = some (.int .i64 ((rd_T50 x8_1 x10_1).f1)) := hcc12 1 _ rfl
          have hx12_2 : wr.cell? ⟨go12, (x10_1 : Int).toNat * 4 + 2, none⟩ = some (.float .f64 ((rd_T50 x8_1 x10_1).f2)) := hcc12 2 _ rfl
          have hx12_3 : wr.cell? ⟨go12, (x10_1 : Int).toNat * 4 + 3, none⟩ = some (.string ((rd_T50 x8_1 x10_1).f3)) := hcc12 3 _ rfl
          have hf12_0 : wr.frozen? ⟨go12, (x10_1 : Int).toNat * 4, none⟩ = false := hfr12 0
          have hf12_1 : wr.frozen? ⟨go12, (x10_1 : Int).toNat * 4 + 1, none⟩ = false := hfr12 1
          have hf12_2 : wr.frozen? ⟨go12, (x10_1 : Int).toNat * 4 + 2, none⟩ = false := hfr12 2
          have hf12_3 : wr.frozen? ⟨go12, (x10_1 : Int).toNat * 4 + 3, none⟩ = false := hfr12 3
          clear hcl12 hcc12 hfr12 hM12
          replace p12 := eq_true p12
          replace q12 := eq_true q12
          have HX14 := am (show Kd.R k50 50 wr w.heap.size (fun k_ => some k_ ≠ (.slice Ao7 t1106.length co7 : Value).ownBlock) (.slice (some ⟨go12, 0, none⟩) x8_1.length co13) x8_1 from (Kd.rr HO_8.out))
          obtain ⟨ce14, hcl14, hM14, hcc14, hfr14⟩ := Kd.R_elem HX14.out z50 (x10_1 : Int) (oda) (by have h_ : (x10_1 : Int) < ((x8_1.length : Int) : Int) := oda; first | exact h_ | (have e_ := (Kd.R_reads' HO_8.out).1; omega) | simpa using h_)
          obtain rfl := k50_openM hM14
          have HP14 := Kd.R_seg HX14.out (x10_1 : Int) (oda) (by have h_ : (x10_1 : Int) < ((x8_1.length : Int) : Int) := oda; first | exact h_ | (have e_ := (Kd.R_reads' HO_8.out).1; omega) | simpa using h_) (seg := [.int .i64 77, .int .i64 0, .float .f64 0, .string (⟨#[]⟩ : ByteArray)]) (j := 0) hcl14 hcc14 (show 4 ≤ 4 from by decide) (x' := (⟨77, 0, 0, (⟨#[]⟩ : ByteArray)⟩ : S50)) (k50_mkM _ _ _ (⟨77, 0, 0, (⟨#[]⟩ : ByteArray)⟩ : S50) ) (fun _ hk => hk)
          have hx14_0 := hcc14 0 _ rfl
          (try simp only [show (k50).sz = 4 from rfl, Nat.mul_one, Nat.add_zero] at hx14_0)
          have hf14_0 := hfr14 0
          (try simp only [show (k50).sz = 4 from rfl, Nat.mul_one, Nat.add_zero] at hf14_0)
          have hx14_1 := hcc14 1 _ rfl
          (try simp only [show (k50).sz = 4 from rfl, Nat.mul_one, Nat.add_zero] at hx14_1)
          have hf14_1 := hfr14 1
          (try simp only [show (k50).sz = 4 from rfl, Nat.mul_one, Nat.add_zero] at hf14_1)
          have hx14_2 := hcc14 2 _ rfl
          (try simp only [show (k50).sz = 4 from rfl, Nat.mul_one, Nat.add_zero] at hx14_2)
          have hf14_2 := hfr14 2
          (try simp only [show (k50).sz = 4 from rfl, Nat.mul_one, Nat.add_zero] at hf14_2)
          have hx14_3 := hcc14 3 _ rfl
          (try simp only [show (k50).sz = 4 from rfl, Nat.mul_one, Nat.add_zero] at hx14_3)
          have hf14_3 := hfr14 3
          (try simp only [show (k50).sz = 4 from rfl, Nat.mul_one, Nat.add_zero] at hf14_3)
          clear hcl14 hcc14 hfr14 hM14
          go_wp2_with (first | ((with_reducible refine gate_store (t := 50) (p := 37) rfl ?_); refine store_event (t := 50) (p := 37) (v := ?vo_w15) (w1 := ((((wr.setCell ⟨go12, (x10_1 : Int).toNat * 4, none⟩ (.int .i64 77)).setCell ⟨go12, (x10_1 : Int).toNat * 4 + 1, none⟩ (.int .i64 0)).setCell ⟨go12, (x10_1 : Int).toNat * 4 + 2, none⟩ (.float .f64 0)).setCell ⟨go12, (x10_1 : Int).toNat * 4 + 3, none⟩ (.string (⟨#[]⟩ : ByteArray)))) ?hg ?ho ?hn ?hr ?_; (case ho => rfl); (case hg => rfl); (case hn => rfl); (case hr => first | (go_simp; done) | (go_simp; rfl)); intro w15 hw; have hg : wr.grownBy w15 (some go12) := (by rw [hw]; exact HP14.2); have hp_ : Kd.R k50 50 w15 w.heap.size (fun k_ => some k_ ≠ (.slice Ao7 t1106.length co7 : Value).ownBlock) (.slice (some ⟨go12, 0, none⟩) x8_1.length co13) y1115 := (by rw [hw, Ny1115.out]; exact HP14.1); clear HP14; have n0_ := am (Kd.R_after (v := (.slice (some ⟨go12, 0, none⟩) x8_1.length co13)) (v1 := (.slice (some ⟨go12, 0, none⟩) x8_1.length co13)) (ok := (fun _ => True)) (by (with_reducible repeat (first | apply Kd.R_alloc | apply Kd.R_drewN | apply Kd.R_drew)); exact Kd.R_mono HO_5.out (fun _ hk => ⟨trivial, hk⟩)) hg (.inl rfl)); have n1_ := am (hp_); have n2_ := am ((by rw [hw]; exact below_set (below_set (below_set (below_set (HB.out) GB12.out) GB12.out) GB12.out) GB12.out : Below w.heap.size w w15)); clear HO_5; clear HO_8; clear HB; have HO_5 := n0_; have HO_8 := n1_; have HB := n2_; clear n0_ n1_ n2_; clear hg hw hp_))
          go_roundg k1
          case measure => have := HK1.out; omega
          case rel => exact ⟨(y1115), (wrap64 (x10_1 + 1)), eb, H', ⟨by have := HK1.out; omega⟩, ⟨by (with_reducible repeat (first | apply Kd.R_alloc | apply Kd.R_drewN | apply Kd.R_drew)); exact Kd.R_mono HO_5.out (fun _ hk => hk.2)⟩, ⟨Kd.rr HO_8.out⟩, ⟨bl HB⟩⟩
        · rw [if_neg c11] at H
          exact absurd H (by simp)
      · rw [if_neg c10] at H
        have c10b0 : decide (x10_1 < (x8_1.length : Int)) = false := decide_eq_false c10
        clear c10
        by_cases c16 : ([] : List (S32)).length + l1.length < 3518437208883
        · rw [if_pos c16] at H
          have LMc16 := am c16
          clear c16
          obtain ⟨y1116, hy1116⟩ : ∃ y_ : List (S32), y_ = (([] : List (S32)) ++ l1) := ⟨_, rfl⟩
          replace H : ((code_Union.f y1116).bind fun t1119 => (vellumlaw02_CodeOwn.l1 k1 l0 l1 t1106 t1109 t1110 y1116 t1119 0)) = some r := by first | (rw [hy1116]; with_reducible exact H) | (have H2_ := (Option.bind_some _ _).symm.trans H; rw [hy1116]; with_reducible exact H2_) | (have H2_ := (Option.bind_some _ _).symm.trans H; with_reducible exact H2_) | with_reducible exact H | (rw [hy1116]; exact H) | exact H
          have Ny1116 := am hy1116
          clear hy1116
          replace H := Option.bind_eq_some_iff.mp H
          obtain ⟨t1119, A170, H⟩ := H
          replace H : (vellumlaw02_CodeOwn.l1 k1 l0 l1 t1106 t1109 t1110 y1116 t1119 0) = some r := H
          have A17 := am A170
          clear A170
          have H' := am H
          clear H
          obtain ⟨Ao18, co18, eo18⟩ := Kd.R_slice HO_8.out
          subst eo18
          go_wp2_with (first | ((with_reducible refine gate_builtin (b := .append) (xs := #[.tmp 38, .tmp 39]) rfl ?_); at_builtin; refine Kd.R_append_rows k32 (w0 := w) w.heap.size rfl (.tmp 38) (.tmp 39) 53 32 (.agg #[(.string ⟨#[]⟩), (.string ⟨#[]⟩), (.bool false)]) 40 rfl Tryd.underlying53 info32 rfl (by decide) (by omega) (.slice none 0 0) ([] : List (S32)) l1 _ _ _ (fun _ => True) (fun _ => False) rfl rfl ?aO ?aR (fun _ _ h => h) (fun _ h => h.elim) ?aF ?aB ?aS ?aL ?_; (case aR => exact Kd.cb HR1 HB); (case aB => exact (bl HB)); (case aF => exact (fun _ _ => trivial)); (case aO => exact ((Kd.R_nil _ _ _ _ (fun _ => True)))); (case aS => exact (below_size (bl HB))); (case aL => have := LMc16.out; omega); intro v1117 w19 ho hb hg hat; rw [← Ny1116.out] at ho; have n0_ := am (Kd.R_grown (Kd.rr HO_5.out) hg (fun _ _ => by simp [Value.ownBlock])); have n1_ := am (Kd.R_grown (Kd.rr HO_8.out) hg (fun _ _ => by simp [Value.ownBlock])); have n2_ := am (hb); have n3_ := am (ho); clear HO_5; clear HO_8; clear HB; have HO_5 := n0_; have HO_8 := n1_; have HB := n2_; have HO1118 := n3_; clear n0_ n1_ n2_ n3_; clear ho hb hg hat; obtain ⟨Ao20, co20, eo20⟩ := Kd.R_slice HO1118.out; subst eo20) | ((with_reducible refine gate_callee (f := 49) rfl ?_); refine goesL_ (some 42) rfl rfl Tryd.func49 (by kernel_rfl) rfl #[.slice Ao20 y1116.length co20] rfl ar ?_; (with_reducible refine (code_Union.calls _ _ y1116 t1119 _ ?side1 ?side2 A17.out).mono ?_); (case side1 => repeat (first | exact (Kd.R_reads' HO1118.out).2.2 | (with_reducible refine Kd.C_alloc ?_ _) | (with_reducible refine Kd.C_drewN ?_ _) | (with_reducible refine Kd.C_drew ?_))); (case side2 => exact (Kd.R_reads' HO1118.out).2.1); rintro e w21 ⟨v1120, rfl, ho0, hb⟩; refine ⟨_, rfl, ?_⟩; have n0_ := am (Kd.R_below (Kd.rr HO_5.out) hb); have n1_ := am (Kd.R_below (Kd.rr HO_8.out) hb); have n2_ := am (Kd.R_elder' (Kd.rr HO1118.out) (Kd.R_base ho0) hb); have n3_ := am (Kd.R_lower (Kd.R_new' ho0 (Kd.R_lt (Kd.rr HO1118.out))) (below_size (bl HB))); have n4_ := sb HB hb; clear HO_5; clear HO_8; clear HO1118; clear HB; have HO_5 := n0_; have HO_8 := n1_; have HO1118 := n2_; have HO1121 := n3_; have HB := n4_; clear n0_ n1_ n2_ n3_ n4_; (try clear hb); (try clear hb2 hk hi); (try clear ho0)))
          go_loopg [13] k1 (fun kq v13 w' => ∃ (x12_2 : List (S32)) (x13_2 : Int), v13 = .int .i64 x13_2 ∧ Aside0 (vellumlaw02_CodeOwn.l1 kq l0 l1 t1106 t1109 t1110 y1116 x12_2 x13_2 = some r) ∧ Aside0 (kq ≤ k1) ∧ Aside0 (Kd.R k50 50 w' w.heap.size (fun _ => True) (.slice Ao7 t1106.length co7) t1106) ∧ Aside0 (Kd.R k32 32 w' w.heap.size (fun k_ => some k_ ≠ (v1120 : Value).ownBlock) (.slice Ao20 y1116.length co20) y1116) ∧ Aside0 (Kd.R k32 32 w' w.heap.size (fun k_ => some k_ ≠ ((.slice Ao20 y1116.length co20) : Value).ownBlock) v1120 x12_2) ∧ Aside0 (Below w.heap.size w w'))
          case atStart => exact ⟨(t1119), (0), eb, H', ⟨Nat.le_refl _⟩, ⟨by (with_reducible repeat (first | apply Kd.R_alloc | apply Kd.R_drewN | apply Kd.R_drew)); exact Kd.R_mono HO_5.out (fun _ hk => trivial)⟩, ⟨by (with_reducible repeat (first | apply Kd.R_alloc | apply Kd.R_drewN | apply Kd.R_drew)); exact Kd.R_mono HO1118.out (fun _ hk => hk.2)⟩, ⟨by (with_reducible repeat (first | apply Kd.R_alloc | apply Kd.R_drewN | apply Kd.R_drew)); exact Kd.R_mono HO1121.out (fun _ hk => hk.2)⟩, ⟨bl HB⟩⟩
          case round =>
            clear H'
            try clear c1
            try clear p1
            try clear q1
            try clear hx1
            try clear c2
            try clear p2
            try clear c4
            try clear c5
            try clear p6
            try clear c10
            try clear c10b0
            try clear c11
            try clear c11b0
            try clear c12
            try clear p12
            try clear q12
            try clear hx12
            try clear hf12
            try clear c14
            try clear hx14
            try clear hf14
            try clear c16
            try clear c21
            try clear hx12_0
            try clear hx12_1
            try clear hx12_2
            try clear hx12_3
            try clear hx14_0
            try clear hx14_1
            try clear hx14_2
            try clear hx14_3
            try clear p12
            try clear p2
            try clear q12
            obtain ⟨x12_2, x13_2, rfl, HA, HK2, HO_5, HO_11, HO_12, HB⟩ := hrel
            cases gk with
            | zero => exact absurd HA.out (by simp [vellumlaw02_CodeOwn.l1])
            | succ k2 =>
              have H := HA.out
              clear HA
              simp only [vellumlaw02_CodeOwn.l1] at H
              by_cases c22 : x13_2 < (x12_2.length : Int)
              · rw [if_pos c22] at H
                have c22b0 : decide (x13_2 < (x12_2.length : Int)) = true := decide_eq_true c22
                clear c22
                by_cases c23 : 0 ≤ x13_2
                · rw [if_pos c23] at H
                  have c23b0 : decide (0 ≤ x13_2) = true := decide_eq_true c23
                  clear c23
                  obtain ⟨y1122, hy1122⟩ : ∃ y_ : List (S32), y_ = (x12_2.set (x13_2 : Int).toNat (⟨(⟨#[115, 112, 111, 105, 108, 116]⟩ : ByteArray), (⟨#[]⟩ : ByteArray), false⟩ : S32)) := ⟨_, rfl⟩
                  replace H : (vellumlaw02_CodeOwn.l1 k2 l0 l1 t1106 t1109 t1110 y1116 y1122 (wrap64 (x13_2 + 1))) = some r := by first | (rw [hy1122]; with_reducible exact H) | (have H2_ := (Option.bind_some _ _).symm.trans H; rw [hy1122]; with_reducible exact H2_) | (have H2_ := (Option.bind_some _ _).symm.trans H; with_reducible exact H2_) | with_reducible exact H | (rw [hy1122]; exact H) | exact H
                  have Ny1122 := am hy1122
                  clear hy1122
                  have H' := am H
                  clear H
                  obtain ⟨Ao25, co25, eo25⟩ := Kd.R_slice HO_12.out
                  subst eo25
                  have p24 : 0 ≤ (x13_2 : Int) := oda
                  have q24 : (x13_2 : Int) < ((x12_2.length : Int) : Int) := oda
                  obtain ⟨go24, co24, eo24, gb24, gl24, cl24, HG24⟩ := Kd.R_form HO_12.out (by omega)
                  (first | cases eo24 | (injection eo24 with ea_ en_ ec_; (first | subst ea_ | (injection ea_ with ea_; subst ea_)); subst ec_; clear en_))
                  have GB24 := am gb24
                  have GG24 := am HG24
                  clear gb24 gl24 HG24
                  obtain ⟨ce24, hcl24, hM24, hcc24, hfr24⟩ := Kd.R_elem HO_12.out z32 (x13_2 : Int) p24 q24
                  obtain rfl := k32_openM hM24
                  have hx24_0 : wr.cell? ⟨go24, (x13_2 : Int).toNat * 3, none⟩ = some (.string ((rd_T32 x12_2 x13_2).f0)) := hcc24 0 _ rfl
                  have hx24_1 : wr.cell? ⟨go24, (x13_2 : Int).toNat * 3 + 1, none⟩ = some (.string ((rd_T32 x12_2 x13_2).f1)) := hcc24 1 _ rfl
                  have hx24_2 : wr.cell? ⟨go24, (x13_2 : Int).toNat * 3 + 2, none⟩ = some (.bool ((rd_T32 x12_2 x13_2).f2)) := hcc24 2 _ rfl
                  have hf24_0 : wr.frozen? ⟨go24, (x13_2 : Int).toNat * 3, none⟩ = false := hfr24 0
                  have hf24_1 : wr.frozen? ⟨go24, (x13_2 : Int).toNat * 3 + 1, none⟩ = false := hfr24 1
                  have hf24_2 : wr.frozen? ⟨go24, (x13_2 : Int).toNat * 3 + 2, none⟩ = false := hfr24 2
                  clear hcl24 hcc24 hfr24 hM24
                  replace p24 := eq_true p24
                  replace q24 := eq_true q24
                  have HX26 := am (show Kd.R k32 32 wr w.heap.size (fun k_ => some k_ ≠ (.slice Ao20 y1116.length co20 : Value).ownBlock) (.slice (some ⟨go24, 0, none⟩) x12_2.length co25) x12_2 from (Kd.rr HO_12.out))
                  obtain ⟨ce26, hcl26, hM26, hcc26, hfr26⟩ := Kd.R_elem HX26.out z32 (x13_2 : Int) (oda) (by have h_ : (x13_2 : Int) < ((x12_2.length : Int) : Int) := oda; first | exact h_ | (have e_ := (Kd.R_reads' HO_12.out).1; omega) | simpa using h_)
                  obtain rfl := k32_openM hM26
                  have HP26 := Kd.R_seg HX26.out (x13_2 : Int) (oda) (by have h_ : (x13_2 : Int) < ((x12_2.length : Int) : Int) := oda; first | exact h_ | (have e_ := (Kd.R_reads' HO_12.out).1; omega) | simpa using h_) (seg := [.string (⟨#[115, 112, 111, 105, 108, 116]⟩ : ByteArray), .string (⟨#[]⟩ : ByteArray), .bool false]) (j := 0) hcl26 hcc26 (show 3 ≤ 3 from by decide) (x' := (⟨(⟨#[115, 112, 111, 105, 108, 116]⟩ : ByteArray), (⟨#[]⟩ : ByteArray), false⟩ : S32)) (k32_mkM _ _ _ (⟨(⟨#[115, 112, 111, 105, 108, 116]⟩ : ByteArray), (⟨#[]⟩ : ByteArray), false⟩ : S32) ) (fun _ hk => hk)
                  have hx26_0 := hcc26 0 _ rfl
                  (try simp only [show (k32).sz = 3 from rfl, Nat.mul_one, Nat.add_zero] at hx26_0)
                  have hf26_0 := hfr26 0
                  (try simp only [show (k32).sz = 3 from rfl, Nat.mul_one, Nat.add_zero] at hf26_0)
                  have hx26_1 := hcc26 1 _ rfl
                  (try simp only [show (k32).sz = 3 from rfl, Nat.mul_one, Nat.add_zero] at hx26_1)
                  have hf26_1 := hfr26 1
                  (try simp only [show (k32).sz = 3 from rfl, Nat.mul_one, Nat.add_zero] at hf26_1)
                  have hx26_2 := hcc26 2 _ rfl
                  (try simp only [show (k32).sz = 3 from rfl, Nat.mul_one, Nat.add_zero] at hx26_2)
                  have hf26_2 := hfr26 2
                  (try simp only [show (k32).sz = 3 from rfl, Nat.mul_one, Nat.add_zero] at hf26_2)
                  clear hcl26 hcc26 hfr26 hM26
                  go_wp2_with (first | ((with_reducible refine gate_store (t := 32) (p := 52) rfl ?_); refine store_event (t := 32) (p := 52) (v := ?vo_w27) (w1 := (((wr.setCell ⟨go24, (x13_2 : Int).toNat * 3, none⟩ (.string (⟨#[115, 112, 111, 105, 108, 116]⟩ : ByteArray))).setCell ⟨go24, (x13_2 : Int).toNat * 3 + 1, none⟩ (.string (⟨#[]⟩ : ByteArray))).setCell ⟨go24, (x13_2 : Int).toNat * 3 + 2, none⟩ (.bool false))) ?hg ?ho ?hn ?hr ?_; (case ho => rfl); (case hg => rfl); (case hn => rfl); (case hr => first | (go_simp; done) | (go_simp; rfl)); intro w27 hw; have hg : wr.grownBy w27 (some go24) := (by rw [hw]; exact HP26.2); have hp_ : Kd.R k32 32 w27 w.heap.size (fun k_ => some k_ ≠ (.slice Ao20 y1116.length co20 : Value).ownBlock) (.slice (some ⟨go24, 0, none⟩) x12_2.length co25) y1122 := (by rw [hw, Ny1122.out]; exact HP26.1); clear HP26; have n0_ := am (Kd.R_over' (v := (.slice (some ⟨go24, 0, none⟩) x12_2.length co25)) (Kd.rr HO_5.out) (Kd.R_typed HO_12.out) (by decide) hg); have n1_ := am (Kd.R_after (v := (.slice (some ⟨go24, 0, none⟩) x12_2.length co25)) (v1 := (.slice (some ⟨go24, 0, none⟩) x12_2.length co25)) (ok := (fun _ => True)) (by (with_reducible repeat (first | apply Kd.R_alloc | apply Kd.R_drewN | apply Kd.R_drew)); exact Kd.R_mono HO_11.out (fun _ hk => ⟨trivial, hk⟩)) hg (.inl rfl)); have n2_ := am (hp_); have n3_ := am ((by rw [hw]; exact below_set (below_set (below_set (HB.out) GB24.out) GB24.out) GB24.out : Below w.heap.size w w27)); clear HO_5; clear HO_11; clear HO_12; clear HB; have HO_5 := n0_; have HO_11 := n1_; have HO_12 := n2_; have HB := n3_; clear n0_ n1_ n2_ n3_; clear hg hw hp_))
                  go_roundg k2
                  case measure => have := HK1.out; have := HK2.out; omega
                  case rel => exact ⟨(y1122), (wrap64 (x13_2 + 1)), eb, H', ⟨by have := HK1.out; have := HK2.out; omega⟩, ⟨Kd.rr HO_5.out⟩, ⟨by (with_reducible repeat (first | apply Kd.R_alloc | apply Kd.R_drewN | apply Kd.R_drew)); exact Kd.R_mono HO_11.out (fun _ hk => hk.2)⟩, ⟨Kd.rr HO_12.out⟩, ⟨bl HB⟩⟩
                · rw [if_neg c23] at H
                  exact absurd H (by simp)
              · rw [if_neg c22] at H
                have c22b0 : decide (x13_2 < (x12_2.length : Int)) = false := decide_eq_false c22
                clear c22
                replace H := Option.bind_eq_some_iff.mp H
                obtain ⟨⟨t1123, t1124⟩, A280, H⟩ := H
                replace H : (if t1110 = t1124 then (if t1109.toList = t1123.toList then ((vellumref01_SameRow.f k2 t1106 l0).bind fun t1125 => (if t1125 = true then ((vellumref02_Same.f k2 y1116 l1).bind fun t1126 => (if t1126 = true then ((vellumlaw02_awake.f k2).bind fun t1127 => (some t1127)) else (some false))) else (some false))) else (some false)) else (some false)) = some r := H
                have A28 := am A280
                clear A280
                by_cases c29 : t1110 = t1124
                · rw [if_pos c29] at H
                  have c29b0 : (t1110 == t1124) = true := beq_iff_eq.mpr c29
                  have c29b1 : (t1110 != t1124) = false := bne_eq_false_iff_eq.mpr c29
                  clear c29
                  by_cases c30 : t1109.toList = t1123.toList
                  · rw [if_pos c30] at H
                    have c30b0 : (t1109.toList == t1123.toList) = true := beq_iff_eq.mpr c30
                    have c30b1 : (t1109.toList != t1123.toList) = false := bne_eq_false_iff_eq.mpr c30
                    clear c30
                    replace H := Option.bind_eq_some_iff.mp H
                    obtain ⟨t1125, A310, H⟩ := H
                    replace H : (if t1125 = true then ((vellumref02_Same.f k2 y1116 l1).bind fun t1126 => (if t1126 = true then ((vellumlaw02_awake.f k2).bind fun t1127 => (some t1127)) else (some false))) else (some false)) = some r := H
                    have A31 := am A310
                    clear A310
                    by_cases c32 : t1125 = true
                    · subst c32
                      have H1 : ((vellumref02_Same.f k2 y1116 l1).bind fun t1126 => (if t1126 = true then ((vellumlaw02_awake.f k2).bind fun t1127 => (some t1127)) else (some false))) = some r := by rw [if_pos rfl] at H; exact H
                      clear H
                      have H := H1
                      clear H1
                      replace H := Option.bind_eq_some_iff.mp H
                      obtain ⟨t1126, A330, H⟩ := H
                      replace H : (if t1126 = true then ((vellumlaw02_awake.f k2).bind fun t1127 => (some t1127)) else (some false)) = some r := H
                      have A33 := am A330
                      clear A330
                      by_cases c34 : t1126 = true
                      · subst c34
                        have H1 : ((vellumlaw02_awake.f k2).bind fun t1127 => (some t1127)) = some r := by rw [if_pos rfl] at H; exact H
                        clear H
                        have H := H1
                        clear H1
                        replace H := Option.bind_eq_some_iff.mp H
                        obtain ⟨t1127, A350, H⟩ := H
                        replace H : (some t1127) = some r := H
                        have A35 := am A350
                        clear A350
                        obtain rfl := Option.some.inj H
                        obtain ⟨Ao36, co36, eo36⟩ := Kd.R_slice HO_12.out
                        subst eo36
                        go_wp2_with (first | ((with_reducible refine gate_callee (f := 21) rfl ?_); refine goesL_ (some 55) rfl rfl Tryd.func21 (by kernel_rfl) rfl #[.slice Ao7 t1106.length co7] rfl ar ?_; (with_reducible refine (code_Encode.calls k2 _ _ t1106 t1123 t1124 _ ?side1 ?side2 (Glob.below HG.out (bl HB)) A28.out).mono ?_); (case side1 => repeat (first | exact (Kd.R_reads' HO_5.out).2.2 | (with_reducible refine Kd.C_alloc ?_ _) | (with_reducible refine Kd.C_drewN ?_ _) | (with_reducible refine Kd.C_drew ?_))); (case side2 => exact (Kd.R_reads' HO_5.out).2.1); rintro e w37 ⟨rfl, hb⟩; refine ⟨_, rfl, ?_⟩; have n0_ := am (Kd.R_below (Kd.rr HO_5.out) hb); have n1_ := am (Kd.R_below (Kd.rr HO_11.out) hb); have n2_ := am (Kd.R_below (Kd.rr HO_12.out) hb); have n3_ := sb HB hb; clear HO_5; clear HO_11; clear HO_12; clear HB; have HO_5 := n0_; have HO_11 := n1_; have HO_12 := n2_; have HB := n3_; clear n0_ n1_ n2_ n3_; (try clear hb); (try clear hb2 hk hi)) | (go_at_call 45; (with_reducible refine (vellumref01_SameRow.calls k2 _ _ t1106 _ _ l0 true _ ?side1 ?side2 (Kd.cb HR0 HB) HC0.out A31.out).mono ?_); (case side1 => repeat (first | exact (Kd.R_reads' HO_5.out).2.2 | (with_reducible refine Kd.C_alloc ?_ _) | (with_reducible refine Kd.C_drewN ?_ _) | (with_reducible refine Kd.C_drew ?_))); (case side2 => exact (Kd.R_reads' HO_5.out).2.1); rintro e w38 ⟨rfl, hb⟩; have n0_ := am (Kd.R_below (Kd.rr HO_5.out) hb); have n1_ := am (Kd.R_below (Kd.rr HO_11.out) hb); have n2_ := am (Kd.R_below (Kd.rr HO_12.out) hb); have n3_ := sb HB hb; clear HO_5; clear HO_11; clear HO_12; clear HB; have HO_5 := n0_; have HO_11 := n1_; have HO_12 := n2_; have HB := n3_; clear n0_ n1_ n2_ n3_; (try clear hb); (try clear hb2 hk hi)) | (go_at_call 48; (with_reducible refine (vellumref02_Same.calls k2 _ _ y1116 _ _ l1 true _ ?side1 ?side2 (Kd.cb HR1 HB) HC1.out A33.out).mono ?_); (case side1 => repeat (first | exact (Kd.R_reads' HO_11.out).2.2 | (with_reducible refine Kd.C_alloc ?_ _) | (with_reducible refine Kd.C_drewN ?_ _) | (with_reducible refine Kd.C_drew ?_))); (case side2 => exact (Kd.R_reads' HO_11.out).2.1); rintro e w' ⟨rfl, ⟨nd, rfl⟩⟩) | (go_at_call 23; (with_reducible refine (vellumlaw02_awake.calls k2  t1127 _ (Glob.below HG.out (bl HB)) A35.out).mono ?_); rintro e w39 ⟨rfl, hb⟩; have n0_ := am (Kd.R_below (Kd.rr HO_5.out) hb); have n1_ := am (Kd.R_below (Kd.rr HO_11.out) hb); have n2_ := am (Kd.R_below (Kd.rr HO_12.out) hb); have n3_ := sb HB hb; clear HO_5; clear HO_11; clear HO_12; clear HB; have HO_5 := n0_; have HO_11 := n1_; have HO_12 := n2_; have HB := n3_; clear n0_ n1_ n2_ n3_; (try clear hb); (try clear hb2 hk hi)))
                        go_ret
                        exact ⟨er, bl HB⟩
                      · replace c34 := Bool.eq_false_iff.mpr c34
                        subst c34
                        have H1 : (some false) = some r := by rw [if_neg (show ¬ (false = true) by decide)] at H; exact H
                        clear H
                        have H := H1
                        clear H1
                        obtain rfl := Option.some.inj H
                        obtain ⟨Ao40, co40, eo40⟩ := Kd.R_slice HO_12.out
                        subst eo40
                        go_wp2_with (first | ((with_reducible refine gate_callee (f := 21) rfl ?_); refine goesL_ (some 55) rfl rfl Tryd.func21 (by kernel_rfl) rfl #[.slice Ao7 t1106.length co7] rfl ar ?_; (with_reducible refine (code_Encode.calls k2 _ _ t1106 t1123 t1124 _ ?side1 ?side2 (Glob.below HG.out (bl HB)) A28.out).mono ?_); (case side1 => repeat (first | exact (Kd.R_reads' HO_5.out).2.2 | (with_reducible refine Kd.C_alloc ?_ _) | (with_reducible refine Kd.C_drewN ?_ _) | (with_reducible refine Kd.C_drew ?_))); (case side2 => exact (Kd.R_reads' HO_5.out).2.1); rintro e w41 ⟨rfl, hb⟩; refine ⟨_, rfl, ?_⟩; have n0_ := am (Kd.R_below (Kd.rr HO_5.out) hb); have n1_ := am (Kd.R_below (Kd.rr HO_11.out) hb); have n2_ := am (Kd.R_below (Kd.rr HO_12.out) hb); have n3_ := sb HB hb; clear HO_5; clear HO_11; clear HO_12; clear HB; have HO_5 := n0_; have HO_11 := n1_; have HO_12 := n2_; have HB := n3_; clear n0_ n1_ n2_ n3_; (try clear hb); (try clear hb2 hk hi)) | (go_at_call 45; (with_reducible refine (vellumref01_SameRow.calls k2 _ _ t1106 _ _ l0 true _ ?side1 ?side2 (Kd.cb HR0 HB) HC0.out A31.out).mono ?_); (case side1 => repeat (first | exact (Kd.R_reads' HO_5.out).2.2 | (with_reducible refine Kd.C_alloc ?_ _) | (with_reducible refine Kd.C_drewN ?_ _) | (with_reducible refine Kd.C_drew ?_))); (case side2 => exact (Kd.R_reads' HO_5.out).2.1); rintro e w42 ⟨rfl, hb⟩; have n0_ := am (Kd.R_below (Kd.rr HO_5.out) hb); have n1_ := am (Kd.R_below (Kd.rr HO_11.out) hb); have n2_ := am (Kd.R_below (Kd.rr HO_12.out) hb); have n3_ := sb HB hb; clear HO_5; clear HO_11; clear HO_12; clear HB; have HO_5 := n0_; have HO_11 := n1_; have HO_12 := n2_; have HB := n3_; clear n0_ n1_ n2_ n3_; (try clear hb); (try clear hb2 hk hi)) | (go_at_call 48; (with_reducible refine (vellumref02_Same.calls k2 _ _ y1116 _ _ l1 false _ ?side1 ?side2 (Kd.cb HR1 HB) HC1.out A33.out).mono ?_); (case side1 => repeat (first | exact (Kd.R_reads' HO_11.out).2.2 | (with_reducible refine Kd.C_alloc ?_ _) | (with_reducible refine Kd.C_drewN ?_ _) | (with_reducible refine Kd.C_drew ?_))); (case side2 => exact (Kd.R_reads' HO_11.out).2.1); rintro e w' ⟨rfl, ⟨nd, rfl⟩⟩))
                        go_ret
                        exact ⟨er, bl HB⟩
                    · replace c32 := Bool.eq_false_iff.mpr c32
                      subst c32
                      have H1 : (some false) = some r := by rw [if_neg (show ¬ (false = true) by decide)] at H; exact H
                      clear H
                      have H := H1
                      clear H1
                      obtain rfl := Option.some.inj H
                      obtain ⟨Ao43, co43, eo43⟩ := Kd.R_slice HO_12.out
                      subst eo43
                      go_wp2_with (first | ((with_reducible refine gate_callee (f := 21) rfl ?_); refine goesL_ (some 55) rfl rfl Tryd.func21 (by kernel_rfl) rfl #[.slice Ao7 t1106.length co7] rfl ar ?_; (with_reducible refine (code_Encode.calls k2 _ _ t1106 t1123 t1124 _ ?side1 ?side2 (Glob.below HG.out (bl HB)) A28.out).mono ?_); (case side1 => repeat (first | exact (Kd.R_reads' HO_5.out).2.2 | (with_reducible refine Kd.C_alloc ?_ _) | (with_reducible refine Kd.C_drewN ?_ _) | (with_reducible refine Kd.C_drew ?_))); (case side2 => exact (Kd.R_reads' HO_5.out).2.1); rintro e w44 ⟨rfl, hb⟩; refine ⟨_, rfl, ?_⟩; have n0_ := am (Kd.R_below (Kd.rr HO_5.out) hb); have n1_ := am (Kd.R_below (Kd.rr HO_11.out) hb); have n2_ := am (Kd.R_below (Kd.rr HO_12.out) hb); have n3_ := sb HB hb; clear HO_5; clear HO_11; clear HO_12; clear HB; have HO_5 := n0_; have HO_11 := n1_; have HO_12 := n2_; have HB := n3_; clear n0_ n1_ n2_ n3_; (try clear hb); (try clear hb2 hk hi)) | (go_at_call 45; (with_reducible refine (vellumref01_SameRow.calls k2 _ _ t1106 _ _ l0 false _ ?side1 ?side2 (Kd.cb HR0 HB) HC0.out A31.out).mono ?_); (case side1 => repeat (first | exact (Kd.R_reads' HO_5.out).2.2 | (with_reducible refine Kd.C_alloc ?_ _) | (with_reducible refine Kd.C_drewN ?_ _) | (with_reducible refine Kd.C_drew ?_))); (case side2 => exact (Kd.R_reads' HO_5.out).2.1); rintro e w45 ⟨rfl, hb⟩; have n0_ := am (Kd.R_below (Kd.rr HO_5.out) hb); have n1_ := am (Kd.R_below (Kd.rr HO_11.out) hb); have n2_ := am (Kd.R_below (Kd.rr HO_12.out) hb); have n3_ := sb HB hb; clear HO_5; clear HO_11; clear HO_12; clear HB; have HO_5 := n0_; have HO_11 := n1_; have HO_12 := n2_; have HB := n3_; clear n0_ n1_ n2_ n3_; (try clear hb); (try clear hb2 hk hi)))
                      go_ret
                      exact ⟨er, bl HB⟩
                  · rw [if_neg c30] at H
                    have c30b0 : (t1109.toList == t1123.toList) = false := beq_eq_false_iff_ne.mpr c30
                    have c30b1 : (t1109.toList != t1123.toList) = true := bne_iff_ne.mpr c30
                    obtain rfl := Option.some.inj H
                    obtain ⟨Ao46, co46, eo46⟩ := Kd.R_slice HO_12.out
                    subst eo46
                    go_wp2_with (first | ((with_reducible refine gate_callee (f := 21) rfl ?_); refine goesL_ (some 55) rfl rfl Tryd.func21 (by kernel_rfl) rfl #[.slice Ao7 t1106.length co7] rfl ar ?_; (with_reducible refine (code_Encode.calls k2 _ _ t1106 t1123 t1124 _ ?side1 ?side2 (Glob.below HG.out (bl HB)) A28.out).mono ?_); (case side1 => repeat (first | exact (Kd.R_reads' HO_5.out).2.2 | (with_reducible refine Kd.C_alloc ?_ _) | (with_reducible refine Kd.C_drewN ?_ _) | (with_reducible refine Kd.C_drew ?_))); (case side2 => exact (Kd.R_reads' HO_5.out).2.1); rintro e w47 ⟨rfl, hb⟩; refine ⟨_, rfl, ?_⟩; have n0_ := am (Kd.R_below (Kd.rr HO_5.out) hb); have n1_ := am (Kd.R_below (Kd.rr HO_11.out) hb); have n2_ := am (Kd.R_below (Kd.rr HO_12.out) hb); have n3_ := sb HB hb; clear HO_5; clear HO_11; clear HO_12; clear HB; have HO_5 := n0_; have HO_11 := n1_; have HO_12 := n2_; have HB := n3_; clear n0_ n1_ n2_ n3_; (try clear hb); (try clear hb2 hk hi)))
                    go_ret
                    exact ⟨er, bl HB⟩
                · rw [if_neg c29] at H
                  have c29b0 : (t1110 == t1124) = false := beq_eq_false_iff_ne.mpr c29
                  have c29b1 : (t1110 != t1124) = true := bne_iff_ne.mpr c29
                  obtain rfl := Option.some.inj H
                  obtain ⟨Ao48, co48, eo48⟩ := Kd.R_slice HO_12.out
                  subst eo48
                  go_wp2_with (first | ((with_reducible refine gate_callee (f := 21) rfl ?_); refine goesL_ (some 55) rfl rfl Tryd.func21 (by kernel_rfl) rfl #[.slice Ao7 t1106.length co7] rfl ar ?_; (with_reducible refine (code_Encode.calls k2 _ _ t1106 t1123 t1124 _ ?side1 ?side2 (Glob.below HG.out (bl HB)) A28.out).mono ?_); (case side1 => repeat (first | exact (Kd.R_reads' HO_5.out).2.2 | (with_reducible refine Kd.C_alloc ?_ _) | (with_reducible refine Kd.C_drewN ?_ _) | (with_reducible refine Kd.C_drew ?_))); (case side2 => exact (Kd.R_reads' HO_5.out).2.1); rintro e w49 ⟨rfl, hb⟩; refine ⟨_, rfl, ?_⟩; have n0_ := am (Kd.R_below (Kd.rr HO_5.out) hb); have n1_ := am (Kd.R_below (Kd.rr HO_11.out) hb); have n2_ := am (Kd.R_below (Kd.rr HO_12.out) hb); have n3_ := sb HB hb; clear HO_5; clear HO_11; clear HO_12; clear HB; have HO_5 := n0_; have HO_11 := n1_; have HO_12 := n2_; have HB := n3_; clear n0_ n1_ n2_ n3_; (try clear hb); (try clear hb2 hk hi)))
                  go_ret
                  exact ⟨er, bl HB⟩
        · rw [if_neg c16] at H
          exact absurd H (by simp)
end Go.Proofs.YtpiifdbicibelaaDoor.PA
end
section
namespace Go.Proofs.YtpiifdbicibelaaDoor.Pure
open Go.RowKit Go.Proofs Go.Proofs.YtpiifdbicibelaaDoorW.PrintWords Go.Proofs.YtpiifdbicibelaaDoorW.PrintLast Go.Proofs.YtpiifdbicibelaaDoorW.PrintMore Go.Proofs.YtpiifdbicibelaaDoor.PA Go.Proofs.YtpiifdbicibelaaDoor.OpenK
set_option linter.unusedVariables false
set_option linter.unusedSimpArgs false
/-- The reference's Same at ranges, at one list. -/
theorem same32_self (l : List S32) (hl : l.length < 9223372036854775807) : Ev (fun k => vellumref02_Same.f k l l) true := by
  have go : ∀ (m i : Nat), i + m = l.length → Ev (fun k => vellumref02_Same.l0 k l l (i : Int)) true := by
    intro m
    induction m with
    | zero =>
      intro i hi
      refine Ev.from_ 1 fun k => ?_
      simp only [vellumref02_Same.l0]
      rw [if_neg (by omega)]
    | succ m ih =>
      intro i hi
      refine Ev.step (g := fun k => vellumref02_Same.l0 k l l ((i + 1 : Nat) : Int)) (fun k => ?_) (ih (i + 1) (by omega))
      simp only [vellumref02_Same.l0]
      rw [if_pos (by omega), if_pos (by omega), if_pos (by omega), if_neg (by simp), wrap64_id (by omega) (by omega)]
      rfl
  simp only [vellumref02_Same.f]
  exact Ev.pos (by first | rfl | trivial) (go l.length 0 (by omega))
theorem CodeOwn (l0 : List S50) (l1 : List S32) (h0 : l0.length * 40 ≤ 140737488351232 ∧ ∀ y ∈ l0, wf50 y) (h1_ : l1.length * 40 ≤ 140737488351232 ∧ ∀ y ∈ l1, wf32 y) : ∃ k, vellumlaw02_CodeOwn.f k l0 l1 = some true := by
  have h1 := h1_.1
  have he := encode_code l0 h0.2 (by omega)
  obtain ⟨r, hd, _, hcase⟩ := decode_both (encode l0).1
  have hrl : r.1.length ≤ 1024 := by
    rcases hcase with ⟨e, _⟩ | ⟨_, _, _, hl⟩
    · rw [e]; exact Nat.zero_le _
    · exact Nat.le_trans (flat_len r.1) hl
  have hun : code_Union.f l1 = some (PU.unionR l1) := by unfold code_Union.f; exact if_pos (by omega)
  have hul : (PU.unionR l1).length ≤ l1.length := by
    have h2 := fold_len (PU.sortR (PU.neR l1)) []
    have h3 := (PU.sortR_perm (PU.neR l1)).length_eq
    have h4 : (PU.neR l1).length ≤ l1.length := List.length_filter_le _ _
    have h5 : PU.unionR l1 = (PU.sortR (PU.neR l1)).foldl PU.stepU [] := rfl
    rw [h5]
    simp only [List.length_nil] at h2
    omega
  have tail : Ev (fun k => (code_Encode.f k l0).bind fun bt1123 => (if (encode l0).2 = bt1123.2 then (if (encode l0).1.toList = bt1123.1.toList then ((vellumref01_SameRow.f k l0 l0).bind fun t1125 => (if t1125 = true then ((vellumref02_Same.f k l1 l1).bind fun t1126 => (if t1126 = true then ((vellumlaw02_awake.f k).bind fun t1127 => (some t1127)) else (some false))) else (some false))) else (some false)) else (some false))) true := by
    refine Ev.bind he (Ev.pos rfl (Ev.pos rfl (Ev.bind (same_ref l0 l0 (by omega)) (Ev.pos ?_ (Ev.bind (same32_self l1 (by omega)) (Ev.pos rfl (Ev.bind awake_ev Ev.pure)))))))
    rw [decide_eq_true rfl, sameL_self]; rfl
  have w1 : ∀ (m i : Nat) (u : List S32), i + m = u.length → u.length ≤ l1.length → Ev (fun k => vellumlaw02_CodeOwn.l1 k l0 l1 l0 (encode l0).1 (encode l0).2 l1 u (i : Int)) true := by
    intro m
    induction m with
    | zero =>
      intro i u hi hu
      refine Ev.step (fun k => ?_) tail
      simp only [vellumlaw02_CodeOwn.l1]
      rw [if_neg (by omega)]
    | succ m ih =>
      intro i u hi hu
      refine Ev.step (fun k => ?_) (ih (i + 1) (u.set i (⟨(⟨#[115, 112, 111, 105, 108, 116]⟩ : ByteArray), (⟨#[]⟩ : ByteArray), false⟩ : S32)) (by rw [List.length_set]; omega) (by rw [List.length_set]; exact hu))
      simp only [vellumlaw02_CodeOwn.l1]
      rw [if_pos (by omega), if_pos (by omega), wrap64_id (by omega) (by omega)]
      rfl
  have w0 : ∀ (m i : Nat) (u : List S50), i + m = u.length → u.length ≤ 1024 → Ev (fun k => vellumlaw02_CodeOwn.l0 k l0 l1 l0 (encode l0).1 (encode l0).2 u (i : Int)) true := by
    intro m
    induction m with
    | zero =>
      intro i u hi hu
      refine Ev.step (g := fun k => vellumlaw02_CodeOwn.l1 k l0 l1 l0 (encode l0).1 (encode l0).2 l1 (PU.unionR l1) 0) (fun k => ?_) (w1 (PU.unionR l1).length 0 (PU.unionR l1) (by omega) hul)
      simp only [vellumlaw02_CodeOwn.l0]
      rw [if_neg (by omega), if_pos (by simp; omega)]
      simp only [List.nil_append, Option.bind_some, hun]
    | succ m ih =>
      intro i u hi hu
      refine Ev.step (fun k => ?_) (ih (i + 1) (u.set i (⟨77, 0, 0, (⟨#[]⟩ : ByteArray)⟩ : S50)) (by rw [List.length_set]; omega) (by rw [List.length_set]; exact hu))
      simp only [vellumlaw02_CodeOwn.l0]
      rw [if_pos (by omega), if_pos (by omega), wrap64_id (by omega) (by omega)]
      rfl
  refine Ev.ex ?_
  simp only [vellumlaw02_CodeOwn.f]
  exact Ev.bind (row_copy l0 h0.1) (Ev.bind he (Ev.bind hd (w0 r.1.length 0 r.1 (by omega) hrl)))
end Go.Proofs.YtpiifdbicibelaaDoor.Pure
end
section
namespace Go.Proofs.YtpiifdbicibelaaDoor
open Go.RowKit
theorem main_ : Tryd.pinned.checked.prog.mainIs = some (true, "409e20a6319c123f59629b35fea50f486835097bfbed967dc062cdc0fc9eff79".toList) := by kernel_rfl
theorem looks_ : false = Tryd.prog.looks [] := by kernel_rfl
end Go.Proofs.YtpiifdbicibelaaDoor
end
section
namespace Go.Proofs.YtpiifdbicibelaaDoor.codeOwn
open Go.ChangeShapes Go.WideShapes Go.ChangeAt Go.RowKit Go.Proofs.YtpiifdbicibelaaDoorW.PrintWords Go.Proofs.YtpiifdbicibelaaDoor.PA Go.Proofs.YtpiifdbicibelaaDoor.OpenK Go.Proofs.YtpiifdbicibelaaDoor.Pure
open Go.ChangeMaps (open_string shut_string)
set_option linter.unusedVariables false
theorem walk {H : Type} {enc : TypeId × Value → H} (W : World) (base : Nat) (args : Array Value) (ds : List (DataW H)) (ps : List MemPlace) (hA0 : DataW.TrodAll enc Tryd.prog W 0 (fun _ => true) true Tryd.f12.params.toList args.toList ds ps)
    (hw0 : (DataW.weightsEach Tryd.prog Tryd.f12.params.toList ds).all (· ≤ reachBytes) = true) (hval0 : ∀ (j : Nat) t v, Tryd.f12.params[j]? = some t → args[j]? = some v → Value.okWide Tryd.prog W .any base t v) (hG : Glob W) :
    Calls Tryd.prog 12 args W fun e W' => e = .returned (.bool true) ∧ Below W.heap.size W W' := by
  have hval : ∀ (j : Nat) t v, Tryd.f12.params[j]? = some t → args[j]? = some v → Value.okWide Tryd.prog W .any base t v := @hval0
  have hA : DataW.TrodAll enc Tryd.prog W 0 (fun _ => true) true Tryd.f12.params.toList args.toList ds ps := hA0
  have hw : (DataW.weightsEach Tryd.prog Tryd.f12.params.toList ds).all (· ≤ reachBytes) = true := hw0
  rw [Tryd.params12] at hA hval hw
  clear hA0 hw0 hval0
  obtain ⟨v0, vs0, d0, ds0, p0, q0, hargs, rfl, rfl, h0, r0⟩ := trodAll_cons hA
  obtain ⟨v1, vs1, d1, ds1, p1, q1, rfl, rfl, rfl, h1, r1⟩ := trodAll_cons r0
  obtain ⟨rfl, rfl, rfl⟩ := trodAll_nil r1
  obtain rfl : args = #[v0, v1] := by cases args; simp_all
  simp only [DataW.weightsEach, all_append_iff] at hw
  obtain ⟨hw0, hw1, _⟩ := hw
  obtain ⟨a0, len0, cap0, rfl⟩ := arg_slice (j := 0) @hval rfl rfl Tryd.underlying22
  obtain ⟨fuel0, hf0⟩ := h0
  obtain ⟨l0, ⟨A0, c0, he0, hl0, hC0⟩, wf0_⟩ := (Opn.slice Tryd.underlying22 opn50 (by kernel_rfl) (by kernel_rfl)) hf0 hw0
  simp [Value.cells] at he0
  obtain ⟨rfl, rfl, rfl⟩ := he0
  obtain ⟨a1, len1, cap1, rfl⟩ := arg_slice (j := 1) @hval rfl rfl Tryd.underlying53
  obtain ⟨fuel1, hf1⟩ := h1
  obtain ⟨l1, ⟨A1, c1, he1, hl1, hC1⟩, wf1_⟩ := (Opn.slice Tryd.underlying53 opn32 (by kernel_rfl) (by kernel_rfl)) hf1 hw1
  simp [Value.cells] at he1
  obtain ⟨rfl, rfl, rfl⟩ := he1
  obtain ⟨k, h⟩ := CodeOwn l0 l1 wf0_ wf1_
  refine (vellumlaw02_CodeOwn.calls k _ _ l0 _ _ l1 true W hC0 hl0 hC1 hl1 hG h).mono ?_
  rintro e W' ⟨rfl, hd⟩
  exact ⟨rfl, hd⟩
theorem witness_row (os : Os) {H : Type} (enc : TypeId × Value → H) :
    (OpenSpec.ofChange Rows.codeOwnSpec).preRow enc Tryd.prog Tryd.f12 [] false laidList ((laidWorld os).forCall (fun _ _ => 0) ⟨#[], #[.slice none 0 0, .slice none 0 0], []⟩).memory #[.slice none 0 0, .slice none 0 0] := by
  have hw : (DataW.whole enc Tryd.prog ((laidWorld os).forCall (fun _ _ => 0) ⟨#[], #[.slice none 0 0, .slice none 0 0], []⟩).memory Tryd.f12.params.toList (OpenSpec.ofChange Rows.codeOwnSpec).vars false (#[.slice none 0 0, .slice none 0 0] : Array Value).toList 8).map (fun x => (x.1, x.2.1)) = some ([.nil, .nil], []) := by kernel_rfl
  obtain ⟨⟨x1, x2, x3⟩, hx, hx1⟩ := Option.map_eq_some_iff.1 hw
  simp only [Prod.mk.injEq] at hx1
  obtain ⟨rfl, rfl⟩ := hx1
  exact OpenSpec.preRow_of_cond 8 hx (by kernel_rfl) (fun k hk => by cases hk) (by kernel_rfl) (laid_met os _)
theorem ends {os : Os} (started : os.Started) {H : Type} {enc : TypeId × Value → H} {F : Stop.Interp} : ReturnsInHanded { modest := false } Tryd.checked os 12 .any ((OpenSpec.ofChange Rows.codeOwnSpec).preRow enc Tryd.prog Tryd.f12 [] false laidList) (((OpenSpec.ofChange Rows.codeOwnSpec).at F).post enc Tryd.prog Tryd.f12 false true false false) :=
  law_lifted (spec := Rows.codeOwnSpec) Tryd.func12 (by kernel_rfl) (tb := 4) rfl Tryd.underlying4 (by kernel_rfl) rfl
    (fun H ds hl => by
      match ds, hl with
      | [_, _], _ => rfl) started
    (witness_row_atRef (enc := enc) (C := Tryd.checked) false (laidWorld os) #[.slice none 0 0, .slice none 0 0] rfl (by kernel_rfl) (by kernel_rfl) (by kernel_rfl) (witness_row os enc))
    (fun W base args ds ps hA hw hval hG => walk W base args ds ps hA hw @hval hG)
theorem inPlace_ : Tryd.prog.inPlace 12 = Rows.codeOwnRow.inPlace := by kernel_rfl
theorem unfollowed_ : Tryd.prog.unfollowed 12 = Rows.codeOwnRow.unfollowed := by kernel_rfl
theorem recurses_ : Tryd.prog.recurses 12 = Rows.codeOwnRow.recurses := by kernel_rfl
theorem named_ : Tryd.prog.varsNamed 12 = Rows.codeOwnRow.named := by kernel_rfl
theorem closed : joinedFacts Tryd.prog 12 Tryd.f12 (OpenSpec.ofChange Rows.codeOwnSpec).bare Rows.codeOwnRow = true := by
  unfold joinedFacts
  rw [laidOut, mapsRowed_, stops_, stopKnobs_, plainKeys_, stopsHeard_, mayEnter_, lifts_, make_, inPlace_, unfollowed_, recurses_, named_]
  kernel_rfl
set_option maxRecDepth 100000 in
theorem over : Rows.codeOwnRow.holds Tryd.pinned (OpenSpec.ofChange Rows.codeOwnSpec) :=
  OpenClaim.holds_of_cond 12 Tryd.f12 rfl rfl rfl rfl rfl rfl rfl ⟨rfl, rfl, rfl, rfl, rfl⟩ rfl rfl rfl rfl rfl (by kernel_rfl) Tryd.func12 closed
    (of_decide_eq_true (by kernel_rfl)) (by unfold Func.isWrapper; rw [if_neg (of_decide_eq_false (by kernel_rfl))]; exact ⟨rfl, rfl⟩)
    (fun os started H enc _ F => by
      rw [OpenClaim.pre_eq_preRow]
      exact ends started)
theorem goes_ : false = Rows.codeOwnRow.goesBy Tryd.prog := by kernel_rfl
theorem fnamed_ : Tryd.prog.funcNamed "vellum/vellumlaw02.CodeOwn" = some 12 := by kernel_rfl
theorem card : Rows.CodeOwnCardSaid :=
  Claim7.holds_tied_plain_at .later [] [.data, .pinned] true (true, "409e20a6319c123f59629b35fea50f486835097bfbed967dc062cdc0fc9eff79") false
    over (fun _ h => by cases h) (by kernel_rfl) (fun _ h => by cases h) codeOwn_row_tie rfl ⟨rfl, rfl⟩ main_ rfl
    (fun f fn hf hfn => by
      obtain rfl : f = 12 := Option.some.inj (fnamed_.symm.trans hf) |>.symm
      obtain rfl : fn = Tryd.f12 := (Option.some.inj (Tryd.func12.symm.trans hfn)).symm
      exact ⟨looks_, fun j t ht => by
        rw [Tryd.params12] at ht
        have h3 : t ∈ [22, 53] := by
          have := List.mem_of_getElem? (l := [22, 53]) (i := j) (by simpa using ht)
          exact this
        have h4 : ∀ t ∈ [22, 53], Tryd.prog.wantsStandIn t = false := by
          intro t ht
          simp only [List.mem_cons, List.mem_nil_iff, or_false] at ht
          rcases ht with rfl | rfl
          all_goals kernel_rfl
        exact h4 t h3⟩)
    goes_
end Go.Proofs.YtpiifdbicibelaaDoor.codeOwn
namespace Go.Proofs.YtpiifdbicibelaaDoor
theorem codeOwn_holds : Rows.CodeOwnCardSaid := codeOwn.card
end Go.Proofs.YtpiifdbicibelaaDoor
end
