/- Part 5 of what the proof of SetsAsks stands on: words for walks, printed functions with their contracts, plain laws. -/
import Derived.Test.YtldlenjfpjihdaaKSetsAsks3
section
namespace Go.Proofs.Ytldlenjfpjihdaa.PS
open Go Go.RowKit Go.Proofs Go.Proofs.YtldlenjfpjihdaaW.PrintWords
set_option linter.unusedVariables false
set_option linter.unusedSimpArgs false
def Ev {α : Type} (f : Nat → Option α) (v : α) : Prop := ∃ k0, ∀ k, k0 ≤ k → f k = some v
namespace Ev
variable {α β : Type} {f g : Nat → Option α} {v : α}
theorem pure {v : α} : Ev (fun _ => some v) v := ⟨0, fun _ _ => rfl⟩
theorem bind {F : Nat → α → Option β} {b : β} (h : Ev f v) (h2 : Ev (fun k => F k v) b) : Ev (fun k => (f k).bind (F k)) b := by
  obtain ⟨k0, h⟩ := h
  obtain ⟨k1, h2⟩ := h2
  exact ⟨max k0 k1, fun k hk => by show (f k).bind (F k) = some b; rw [h k (by omega)]; exact h2 k (by omega)⟩
theorem step (h : ∀ k, f (k + 1) = g k) (hg : Ev g v) : Ev f v := by
  obtain ⟨k0, hg⟩ := hg
  refine ⟨k0 + 1, fun k hk => ?_⟩
  obtain ⟨j, rfl⟩ : ∃ j, k = j + 1 := ⟨k - 1, by omega⟩
  rw [h]; exact hg j (by omega)
theorem from_ (n : Nat) (h : ∀ k, f (k + n) = some v) : Ev f v := ⟨n, fun k hk => by have := h (k - n); rwa [Nat.sub_add_cancel hk] at this⟩
theorem congr (h : ∀ k, f k = g k) (hg : Ev g v) : Ev f v := by obtain ⟨k0, hg⟩ := hg; exact ⟨k0, fun k hk => by rw [h]; exact hg k hk⟩
theorem pos {c : Prop} [Decidable c] (hc : c) (h : Ev f v) : Ev (fun k => if c then f k else g k) v := congr (fun k => if_pos hc) h
theorem neg {c : Prop} [Decidable c] (hc : ¬ c) (h : Ev g v) : Ev (fun k => if c then f k else g k) v := congr (fun k => if_neg hc) h
theorem ex (h : Ev f v) : ∃ k, f k = some v := by obtain ⟨k0, h⟩ := h; exact ⟨k0, h k0 (Nat.le_refl _)⟩
end Ev
theorem wrap64_id {n : Int} (h0 : -9223372036854775808 ≤ n) (h1 : n < 9223372036854775808) : wrap64 n = n := by unfold wrap64; omega
theorem rd27 {L : List S27} {i : Nat} {x : S27} (h : L[i]? = some x) : rd_T27 L (i : Int) = x := by unfold rd_T27; simp [List.getD, h]
theorem rd50 {L : List S50} {i : Nat} {x : S50} (h : L[i]? = some x) : rd_T50 L (i : Int) = x := by unfold rd_T50; simp [List.getD, h]
def bs (a : ByteArray) : List UInt8 := a.data.toList
theorem bless_eq (a b : ByteArray) : Op.bytesLess a.toList b.toList = decide (bs a < bs b) := by
  rw [Go.Proofs.bytesLess_eq, Go.Lib.toList_data, Go.Lib.toList_data]
  rfl
theorem bs_inj {a b : ByteArray} (h : bs a = bs b) : a = b := by
  cases a; cases b
  unfold bs at h
  congr
  exact Array.toList_inj.1 h
/-- The order of keys. -/
def cmpS (a b : List UInt8) : Int := if a < b then -1 else if b < a then 1 else 0
theorem cmpB_eq : ∀ a b : List UInt8, Lib.compareBytes a b = cmpS a b
  | [], [] => rfl
  | [], _ :: _ => rfl
  | _ :: _, [] => rfl
  | x :: a, y :: b => by
    unfold Lib.compareBytes
    by_cases h1 : x < y
    · have h : x :: a < y :: b := List.cons_lt_cons_iff.2 (.inl h1)
      simp [h1, cmpS, h]
    · by_cases h2 : y < x
      · have hn : ¬ x = y := fun e => by subst e; exact h1 h2
        have h : ¬ x :: a < y :: b := fun h => (List.cons_lt_cons_iff.1 h).elim h1 (fun h => hn h.1)
        have h' : y :: b < x :: a := List.cons_lt_cons_iff.2 (.inl h2)
        simp [h1, h2, cmpS, h, h']
      · have e : x = y := UInt8.le_antisymm (UInt8.not_lt.1 h2) (UInt8.not_lt.1 h1)
        subst e
        simp only [h1, if_false, cmpB_eq a b, cmpS, List.cons_lt_cons_iff, false_or, true_and]
/-- How points stand. -/
def cmpP (a b : S27) : Int :=
  if a.f0 = b.f0 then (if a.f1 = b.f1 then cmpS (bs a.f2) (bs b.f2) else if a.f1 < b.f1 then -1 else 1) else if a.f0 < b.f0 then -1 else 1
def ltP (a b : S27) : Prop := a.f0 < b.f0 ∨ (a.f0 = b.f0 ∧ (a.f1 < b.f1 ∨ (a.f1 = b.f1 ∧ bs a.f2 < bs b.f2)))
instance (a b : S27) : Decidable (ltP a b) := by unfold ltP; infer_instance
theorem ltP_irrefl (a : S27) : ¬ ltP a a := by
  rintro (h | ⟨_, h | ⟨_, h⟩⟩)
  · omega
  · omega
  · exact List.lt_irrefl _ h
theorem ltP_trans {a b c : S27} (h1 : ltP a b) (h2 : ltP b c) : ltP a c := by
  unfold ltP at *
  rcases h1 with h1 | ⟨e1, h1 | ⟨e2, h1⟩⟩ <;> rcases h2 with h2 | ⟨e3, h2 | ⟨e4, h2⟩⟩
  all_goals first | exact .inl (by omega) | exact .inr ⟨by omega, .inl (by omega)⟩ | exact .inr ⟨by omega, .inr ⟨by omega, List.lt_trans h1 h2⟩⟩
theorem ltP_tri (a b : S27) : ltP a b ∨ a = b ∨ ltP b a := by
  unfold ltP
  by_cases h0 : a.f0 = b.f0
  · by_cases h1 : a.f1 = b.f1
    · by_cases h2 : bs a.f2 < bs b.f2
      · exact .inl (.inr ⟨h0, .inr ⟨h1, h2⟩⟩)
      · by_cases h3 : bs b.f2 < bs a.f2
        · exact .inr (.inr (.inr ⟨h0.symm, .inr ⟨h1.symm, h3⟩⟩))
        · refine .inr (.inl ?_)
          have e := bs_inj (List.le_antisymm (List.not_lt.1 h3) (List.not_lt.1 h2))
          cases a; cases b
          simp_all
    · rcases Int.lt_or_gt_of_ne h1 with h | h
      · exact .inl (.inr ⟨h0, .inl h⟩)
      · exact .inr (.inr (.inr ⟨h0.symm, .inl h⟩))
  · rcases Int.lt_or_gt_of_ne h0 with h | h
    · exact .inl (.inl h)
    · exact .inr (.inr (.inl h))
theorem cmpP_eq (a b : S27) : cmpP a b = if ltP a b then -1 else if ltP b a then 1 else 0 := by
  by_cases h0 : a.f0 = b.f0
  · by_cases h1 : a.f1 = b.f1
    · have e1 : ltP a b ↔ bs a.f2 < bs b.f2 := ⟨fun h => h.elim (fun h => absurd h0 (by omega)) (fun h => h.2.elim (fun h => absurd h1 (by omega)) (fun h => h.2)), fun h => .inr ⟨h0, .inr ⟨h1, h⟩⟩⟩
      have e2 : ltP b a ↔ bs b.f2 < bs a.f2 := ⟨fun h => h.elim (fun h => absurd h0 (by omega)) (fun h => h.2.elim (fun h => absurd h1 (by omega)) (fun h => h.2)), fun h => .inr ⟨h0.symm, .inr ⟨h1.symm, h⟩⟩⟩
      unfold cmpP cmpS
      simp only [if_pos h0, if_pos h1, e1, e2]
    · have e1 : ltP a b ↔ a.f1 < b.f1 := ⟨fun h => h.elim (fun h => absurd h0 (by omega)) (fun h => h.2.elim id (fun h => absurd h.1 h1)), fun h => .inr ⟨h0, .inl h⟩⟩
      have e2 : ltP b a ↔ b.f1 < a.f1 := ⟨fun h => h.elim (fun h => absurd h0 (by omega)) (fun h => h.2.elim id (fun h => absurd h.1.symm h1)), fun h => .inr ⟨h0.symm, .inl h⟩⟩
      unfold cmpP
      simp only [if_pos h0, if_neg h1, e1, e2]
      repeat' split
      all_goals omega
  · have e1 : ltP a b ↔ a.f0 < b.f0 := ⟨fun h => h.elim id (fun h => absurd h.1 h0), .inl⟩
    have e2 : ltP b a ↔ b.f0 < a.f0 := ⟨fun h => h.elim id (fun h => absurd h.1.symm h0), .inl⟩
    unfold cmpP
    simp only [if_neg h0, e1, e2]
    repeat' split
    all_goals omega
theorem cmpP_lt (a b : S27) : cmpP a b < 0 ↔ ltP a b := by
  rw [cmpP_eq]
  by_cases h : ltP a b
  · simp [h]
  · by_cases h2 : ltP b a
    · simp [h, h2]
    · simp [h, h2]
theorem cmpP_zero (a b : S27) : cmpP a b = 0 ↔ a = b := by
  rw [cmpP_eq]
  by_cases h : ltP a b
  · simp only [h, if_true]
    exact ⟨fun e => by omega, fun e => by subst e; exact absurd h (ltP_irrefl a)⟩
  · by_cases h2 : ltP b a
    · simp only [h, h2, if_true, if_false]
      exact ⟨fun e => by omega, fun e => by subst e; exact absurd h2 (ltP_irrefl a)⟩
    · simp only [h, h2, if_false, true_iff]
      rcases ltP_tri a b with h3 | h3 | h3
      · exact absurd h3 h
      · exact h3
      · exact absurd h3 h2
theorem strings_eq (a b : ByteArray) : vellumref01_Strings.f a b = some (cmpS (bs a) (bs b)) := by
  unfold vellumref01_Strings.f cmpS
  rw [bless_eq, bless_eq]
  by_cases h : bs a < bs b
  · simp [h]
  · by_cases h2 : bs b < bs a <;> simp [h, h2]
theorem cmp_eq (a b : S27) : vellumref17_Cmp.f a.f0 a.f1 a.f2 b.f0 b.f1 b.f2 = some (cmpP a b) := by
  unfold vellumref17_Cmp.f cmpP
  rw [strings_eq, Option.bind_some]
  repeat' split
  all_goals rfl
theorem cmpI_eq (a b : Int) : cmp_Compare_int.f a b = some (if a < b then -1 else if b < a then 1 else 0) := by
  unfold cmp_Compare_int.f cmp_isNaN_int.f
  simp only [bne_self_eq_false, Option.bind_some, Bool.false_eq_true, if_false]
  repeat' split
  all_goals rfl
theorem or3_ev (a b c : Int) : Ev (fun k => cmp_Or_int.f k [a, b, c]) (if a = 0 then (if b = 0 then c else b) else a) := by
  refine Ev.from_ 4 (fun k => ?_)
  have e1 : wrap64 (0 + 1) = 1 := wrap64_id (by decide) (by decide)
  have e2 : wrap64 (1 + 1) = 2 := wrap64_id (by decide) (by decide)
  have e3 : wrap64 (2 + 1) = 3 := wrap64_id (by decide) (by decide)
  have r0 : rd [a, b, c] 0 = a := rfl
  have r1 : rd [a, b, c] 1 = b := rfl
  have r2 : rd [a, b, c] 2 = c := rfl
  unfold cmp_Or_int.f
  have hl : (([a, b, c] : List Int).length : Int) = 3 := rfl
  rw [hl, cmp_Or_int.l0, r0, e1, cmp_Or_int.l0, r1, e2, cmp_Or_int.l0, r2, e3, cmp_Or_int.l0, hl]
  by_cases ha : a = 0
  · by_cases hb : b = 0
    · by_cases hc : c = 0 <;> simp [ha, hb, hc]
    · simp [ha, hb]
  · simp [ha]
theorem before_ev (a b : S27) : Ev (fun k => sets_before.f k a.f0 a.f1 a.f2 b.f0 b.f1 b.f2) (cmpP a b) := by
  unfold sets_before.f strings_Compare.f
  simp only [cmpI_eq, Option.bind_some]
  refine Ev.bind (F := fun _ t => some t) (v := cmpP a b) ?_ Ev.pure
  have h := or3_ev (if a.f0 < b.f0 then -1 else if b.f0 < a.f0 then 1 else 0) (if a.f1 < b.f1 then -1 else if b.f1 < a.f1 then 1 else 0) (Lib.compareBytes a.f2.data.toList b.f2.data.toList)
  have e : (if (if a.f0 < b.f0 then (-1 : Int) else if b.f0 < a.f0 then 1 else 0) = 0 then (if (if a.f1 < b.f1 then (-1 : Int) else if b.f1 < a.f1 then 1 else 0) = 0 then Lib.compareBytes a.f2.data.toList b.f2.data.toList else if a.f1 < b.f1 then -1 else if b.f1 < a.f1 then 1 else 0) else if a.f0 < b.f0 then -1 else if b.f0 < a.f0 then 1 else 0) = cmpP a b := by
    rw [cmpB_eq]
    unfold cmpP bs
    repeat' split
    all_goals first | rfl | omega
  rwa [e] at h
/-- The first of some points, so far. -/
def lstep (acc : Option S27) (p : S27) : Option S27 := match acc with | none => some p | some q => if ltP p q then some p else some q
def leastS (l : List S27) : Option S27 := l.foldl lstep none
theorem lstep_some (l : List S27) : ∀ q, ∃ p, l.foldl lstep (some q) = some p ∧ (p = q ∨ p ∈ l) ∧ (p = q ∨ ltP p q) ∧ ∀ x ∈ l, x = p ∨ ltP p x := by
  induction l with
  | nil => intro q; exact ⟨q, rfl, .inl rfl, .inl rfl, fun x hx => by cases hx⟩
  | cons y r ih =>
    intro q
    rw [List.foldl_cons]
    by_cases h : ltP y q
    · obtain ⟨p, h1, h2, h3, h4⟩ := ih y
      refine ⟨p, by rw [← h1]; unfold lstep; simp only [if_pos h], ?_, ?_, ?_⟩
      · rcases h2 with h2 | h2
        · exact .inr (by rw [h2]; exact List.mem_cons_self ..)
        · exact .inr (List.mem_cons_of_mem _ h2)
      · rcases h3 with h3 | h3
        · exact .inr (by rw [h3]; exact h)
        · exact .inr (ltP_trans h3 h)
      · intro x hx
        rcases List.mem_cons.1 hx with rfl | hx
        · exact h3.imp Eq.symm id
        · exact h4 x hx
    · obtain ⟨p, h1, h2, h3, h4⟩ := ih q
      refine ⟨p, by rw [← h1]; unfold lstep; simp only [if_neg h], ?_, h3, ?_⟩
      · exact h2.imp id (List.mem_cons_of_mem _)
      · intro x hx
        rcases List.mem_cons.1 hx with rfl | hx
        · rcases ltP_tri p x with h5 | h5 | h5
          · exact .inr h5
          · exact .inl h5.symm
          · rcases h3 with h3 | h3
            · subst h3; exact absurd h5 h
            · exact absurd (ltP_trans h5 h3) h
        · exact h4 x hx
theorem leastS_spec (l : List S27) : (l = [] ∧ leastS l = none) ∨ ∃ p, leastS l = some p ∧ p ∈ l ∧ ∀ x ∈ l, x = p ∨ ltP p x := by
  cases l with
  | nil => exact .inl ⟨rfl, rfl⟩
  | cons y r =>
    obtain ⟨p, h1, h2, h3, h4⟩ := lstep_some r y
    refine .inr ⟨p, h1, h2.elim (fun h => by rw [h]; exact List.mem_cons_self ..) (List.mem_cons_of_mem _), fun x hx => ?_⟩
    rcases List.mem_cons.1 hx with rfl | hx
    · exact h3.imp Eq.symm id
    · exact h4 x hx
theorem leastS_unique {l : List S27} {p : S27} (h1 : p ∈ l) (h2 : ∀ x ∈ l, x = p ∨ ltP p x) : leastS l = some p := by
  rcases leastS_spec l with ⟨rfl, _⟩ | ⟨q, e, h3, h4⟩
  · cases h1
  · rw [e]
    rcases h2 q h3 with h5 | h5
    · rw [h5]
    · rcases h4 p h1 with h6 | h6
      · rw [h6]
      · exact absurd (ltP_trans h5 h6) (ltP_irrefl _)
theorem foldl_filter (f : S27 → Bool) (l : List S27) : ∀ acc, l.foldl (fun a p => if f p = true then lstep a p else a) acc = (l.filter f).foldl lstep acc := by
  induction l with
  | nil => intro acc; rfl
  | cons y r ih =>
    intro acc
    rw [List.foldl_cons, ih, List.filter_cons]
    by_cases h : f y = true
    · rw [if_pos h, if_pos h]; rfl
    · rw [if_neg h, if_neg h]
def eqP (a b : S27) : Bool := a.f0 == b.f0 && (a.f1 == b.f1 && (a.f2.toList == b.f2.toList))
theorem toList_inj {a b : ByteArray} (h : a.toList = b.toList) : a = b := by
  rw [Go.Lib.toList_data, Go.Lib.toList_data] at h
  exact bs_inj h
theorem eqP_iff (a b : S27) : eqP a b = true ↔ a = b := by
  unfold eqP
  cases a; cases b
  simp only [Bool.and_eq_true, beq_iff_eq, S27.mk.injEq]
  exact ⟨fun h => ⟨h.1, h.2.1, toList_inj h.2.2⟩, fun h => ⟨h.1, h.2.1, by rw [h.2.2]⟩⟩
theorem eqP_comm (a b : S27) : eqP a b = eqP b a := by
  rw [Bool.eq_iff_iff, eqP_iff, eqP_iff]
  exact eq_comm
def hasB (r : S48) (key : ByteArray) : Bool := !(decide (bs key < bs r.f0)) && (r.f2 || decide (bs key < bs r.f1))
theorem has_eq (r : S48) (key : ByteArray) : vellumref02_Has.f r.f0 r.f1 r.f2 key = some (hasB r key) := by
  unfold vellumref02_Has.f hasB
  rw [bless_eq, bless_eq]
  by_cases h : bs key < bs r.f0
  · simp [h]
  · cases h2 : r.f2 <;> simp [h]
theorem chas_eq (r : S48) (key : ByteArray) : code_Has.f r.f0 r.f1 r.f2 key = some (hasB r key) := has_eq r key
def spanB (p : S27) (s : S50) : Bool := (s.f0 == p.f0 && s.f1 == p.f1) && hasB s.f2 p.f2
def readsS (ps : List S27) (ss : List S50) (p : S27) : Bool := ps.any (eqP p) || ss.any (spanB p)
theorem any_drop {α : Type} {L : List α} {i : Nat} {x : α} (hx : L[i]? = some x) (f : α → Bool) : (L.drop i).any f = (f x || (L.drop (i + 1)).any f) := by
  have hlt := (List.getElem?_eq_some_iff.1 hx).1
  rw [List.drop_eq_getElem_cons hlt, (List.getElem?_eq_some_iff.1 hx).2]
  rfl
theorem spanned_ev (L : List S50) (p : S27) (hl : L.length < 4611686018427387904) : Ev (fun k => vellumref17_spanned.f k L p.f0 p.f1 p.f2) (L.any (spanB p)) := by
  have go : ∀ (m i : Nat), i + m = L.length → Ev (fun k => vellumref17_spanned.l0 k L (i : Int) p.f0 p.f1 p.f2) ((L.drop i).any (spanB p)) := by
    intro m
    induction m with
    | zero =>
      intro i hi
      refine Ev.from_ 1 fun k => ?_
      simp only [vellumref17_spanned.l0]
      rw [if_neg (by omega), List.drop_eq_nil_of_le (by omega)]
      rfl
    | succ m ih =>
      intro i hi
      obtain ⟨x, hx⟩ : ∃ x, L[i]? = some x := ⟨_, List.getElem?_eq_getElem (by omega)⟩
      rw [any_drop hx]
      by_cases e : spanB p x = true
      · rw [e, Bool.true_or]
        refine Ev.from_ 1 fun k => ?_
        simp only [vellumref17_spanned.l0]
        unfold spanB at e
        simp only [Bool.and_eq_true, beq_iff_eq] at e
        rw [if_pos (by omega), if_pos (by omega), rd50 hx, if_pos e.1.1, if_pos e.1.2, has_eq, Option.bind_some, if_pos e.2]
      · rw [Bool.not_eq_true] at e
        rw [e, Bool.false_or]
        refine Ev.step (g := fun k => vellumref17_spanned.l0 k L ((i + 1 : Nat) : Int) p.f0 p.f1 p.f2) (fun k => ?_) (ih (i + 1) (by omega))
        simp only [vellumref17_spanned.l0]
        rw [if_pos (by omega), if_pos (by omega), rd50 hx, has_eq, Option.bind_some, wrap64_id (by omega) (by omega)]
        unfold spanB at e
        by_cases h1 : x.f0 = p.f0
        · rw [if_pos h1]
          by_cases h2 : x.f1 = p.f1
          · rw [if_pos h2]
            simp only [h1, h2, beq_self_eq_true, Bool.true_and] at e
            rw [e]
            rfl
          · rw [if_neg h2]; rfl
        · rw [if_neg h1]; rfl
  have := go L.length 0 (by omega)
  rw [List.drop_zero] at this
  exact this
theorem reads_ev (ps : List S27) (ss : List S50) (ws : List S27) (p : S27) (hl : ps.length < 4611686018427387904) (hs : ss.length < 4611686018427387904) : Ev (fun k => vellumref17_Reads.f k ps ss ws p.f0 p.f1 p.f2) (readsS ps ss p) := by
  have go : ∀ (m i : Nat), i + m = ps.length → Ev (fun k => vellumref17_Reads.l0 k (i : Int) ps ss ws p.f0 p.f1 p.f2) ((ps.drop i).any (eqP p) || ss.any (spanB p)) := by
    intro m
    induction m with
    | zero =>
      intro i hi
      rw [List.drop_eq_nil_of_le (by omega)]
      refine Ev.step (g := fun k => (vellumref17_spanned.f k ss p.f0 p.f1 p.f2).bind fun t => some t) (fun k => ?_) (Ev.bind (F := fun _ t => some t) (spanned_ev ss p hs) (by simpa using Ev.pure))
      simp only [vellumref17_Reads.l0]
      rw [if_neg (by omega)]
    | succ m ih =>
      intro i hi
      obtain ⟨x, hx⟩ : ∃ x, ps[i]? = some x := ⟨_, List.getElem?_eq_getElem (by omega)⟩
      rw [any_drop hx]
      by_cases e : eqP p x = true
      · rw [e, Bool.true_or, Bool.true_or]
        refine Ev.from_ 1 fun k => ?_
        simp only [vellumref17_Reads.l0]
        have e' : eqP x p = true := by rw [eqP_comm]; exact e
        unfold eqP at e'
        rw [if_pos (by omega), if_pos (by omega), rd27 hx, if_pos e']
      · rw [Bool.not_eq_true] at e
        rw [e, Bool.false_or]
        refine Ev.step (g := fun k => vellumref17_Reads.l0 k ((i + 1 : Nat) : Int) ps ss ws p.f0 p.f1 p.f2) (fun k => ?_) (ih (i + 1) (by omega))
        simp only [vellumref17_Reads.l0]
        have e' : ¬ eqP x p = true := by rw [eqP_comm, e]; decide
        unfold eqP at e'
        rw [if_pos (by omega), if_pos (by omega), rd27 hx, if_neg e', wrap64_id (by omega) (by omega)]
        rfl
  have := go ps.length 0 (by omega)
  rw [List.drop_zero] at this
  exact this
/-- What is told of the least. -/
def tellP (o : Option S27) : Int × Int × ByteArray × Bool := match o with | none => (0, 0, ⟨#[]⟩, false) | some p => (p.f0, p.f1, p.f2, true)
theorem least_ev (L : List S27) (hl : L.length < 4611686018427387904) : Ev (fun k => vellumref17_least.f k L) (tellP (leastS L)) := by
  unfold vellumref17_least.f
  cases L with
  | nil => exact Ev.pos rfl Ev.pure
  | cons y r =>
    refine Ev.neg (by simp only [List.length_cons]; omega) (Ev.pos (by simp only [List.length_cons]; omega) ?_)
    have e0 : rd_T27 (y :: r) 0 = y := rd27 (L := y :: r) (i := 0) rfl
    rw [e0]
    have go : ∀ (m i : Nat) (q : S27), i + m = (y :: r).length → Ev (fun k => vellumref17_least.l0 k (y :: r) (i : Int) q.f0 q.f1 q.f2) (tellP (((y :: r).drop i).foldl lstep (some q))) := by
      intro m
      induction m with
      | zero =>
        intro i q hi
        refine Ev.from_ 1 fun k => ?_
        simp only [vellumref17_least.l0]
        rw [if_neg (by omega), List.drop_eq_nil_of_le (by omega)]
        rfl
      | succ m ih =>
        intro i q hi
        obtain ⟨x, hx⟩ : ∃ x, (y :: r)[i]? = some x := ⟨_, List.getElem?_eq_getElem (by omega)⟩
        have hlt := (List.getElem?_eq_some_iff.1 hx).1
        rw [List.drop_eq_getElem_cons hlt, (List.getElem?_eq_some_iff.1 hx).2, List.foldl_cons]
        by_cases e : ltP x q
        · have e1 : lstep (some q) x = some x := by unfold lstep; simp only [if_pos e]
          rw [e1]
          refine Ev.step (g := fun k => vellumref17_least.l0 k (y :: r) ((i + 1 : Nat) : Int) x.f0 x.f1 x.f2) (fun k => ?_) (ih (i + 1) x (by omega))
          simp only [vellumref17_least.l0]
          rw [if_pos (by omega), if_pos (by omega), rd27 hx, cmp_eq, Option.bind_some, if_pos ((cmpP_lt x q).2 e), wrap64_id (by omega) (by omega)]
          rfl
        · have e1 : lstep (some q) x = some q := by unfold lstep; simp only [if_neg e]
          rw [e1]
          refine Ev.step (g := fun k => vellumref17_least.l0 k (y :: r) ((i + 1 : Nat) : Int) q.f0 q.f1 q.f2) (fun k => ?_) (ih (i + 1) q (by omega))
          simp only [vellumref17_least.l0]
          rw [if_pos (by omega), if_pos (by omega), rd27 hx, cmp_eq, Option.bind_some, if_neg (fun h => e ((cmpP_lt x q).1 h)), wrap64_id (by omega) (by omega)]
          rfl
    exact go r.length 1 y (by simp only [List.length_cons]; omega)
theorem clash_ev (ps : List S27) (ss : List S50) (ws : List S27) (ps2 : List S27) (ss2 : List S50) (L : List S27) (hl : ps.length < 4398046511104) (hs : ss.length < 4611686018427387904) (hw : L.length < 4398046511104) :
    Ev (fun k => vellumref17_Clash.f k ps ss ws ps2 ss2 L) (tellP (leastS (L.filter (readsS ps ss)))) := by
  have go : ∀ (m i : Nat), i + m = L.length → Ev (fun k => vellumref17_Clash.l0 k ((L.take i).filter (readsS ps ss)) (i : Int) ps ss ws ps2 ss2 L) (tellP (leastS (L.filter (readsS ps ss)))) := by
    intro m
    induction m with
    | zero =>
      intro i hi
      rw [List.take_of_length_le (by omega)]
      refine Ev.step (g := fun k => (vellumref17_least.f k (L.filter (readsS ps ss))).bind fun t => some (t.1, t.2.1, t.2.2.1, t.2.2.2)) (fun k => ?_) (Ev.bind (F := fun _ t => some (t.1, t.2.1, t.2.2.1, t.2.2.2)) (least_ev _ (by have := List.length_filter_le (readsS ps ss) L; omega)) Ev.pure)
      simp only [vellumref17_Clash.l0]
      rw [if_neg (by omega)]
    | succ m ih =>
      intro i hi
      obtain ⟨x, hx⟩ : ∃ x, L[i]? = some x := ⟨_, List.getElem?_eq_getElem (by omega)⟩
      have hs1 : (L.take (i + 1)).filter (readsS ps ss) = (L.take i).filter (readsS ps ss) ++ (if readsS ps ss x = true then [x] else []) := by
        rw [List.take_add_one, hx, List.filter_append]
        congr 1
        simp only [Option.toList, List.filter_cons, List.filter_nil]
      have hfl : ((L.take i).filter (readsS ps ss)).length ≤ i := Nat.le_trans (List.length_filter_le _ _) (by rw [List.length_take]; omega)
      refine Ev.step (g := fun k => (vellumref17_Reads.f k ps ss ws x.f0 x.f1 x.f2).bind fun t => if t = true then (if ((L.take i).filter (readsS ps ss)).length < 4398046511104 then vellumref17_Clash.l0 k ((L.take i).filter (readsS ps ss) ++ [x]) ((i + 1 : Nat) : Int) ps ss ws ps2 ss2 L else none) else vellumref17_Clash.l0 k ((L.take i).filter (readsS ps ss)) ((i + 1 : Nat) : Int) ps ss ws ps2 ss2 L) (fun k => ?_) ?_
      · simp only [vellumref17_Clash.l0]
        rw [if_pos (by omega), if_pos (by omega), rd27 hx, wrap64_id (by omega) (by omega)]
        rfl
      · refine Ev.bind (F := fun k t => if t = true then (if ((L.take i).filter (readsS ps ss)).length < 4398046511104 then vellumref17_Clash.l0 k ((L.take i).filter (readsS ps ss) ++ [x]) ((i + 1 : Nat) : Int) ps ss ws ps2 ss2 L else none) else vellumref17_Clash.l0 k ((L.take i).filter (readsS ps ss)) ((i + 1 : Nat) : Int) ps ss ws ps2 ss2 L) (reads_ev ps ss ws x (by omega) hs) ?_
        have h := ih (i + 1) (by omega)
        rw [hs1] at h
        by_cases e : readsS ps ss x = true
        · rw [if_pos e] at h
          exact Ev.pos e (Ev.pos (by omega) h)
        · rw [if_neg e, List.append_nil] at h
          exact Ev.neg e h
  exact go L.length 0 (by omega)
theorem run_loop {σ β : Type} (n : Nat) (g : Nat → Nat → σ → Option β) (st : Nat → σ) (e : Nat → σ → Option β) (r : β) (h1 : ∀ i k, i < n → g (k + 1) i (st i) = g k (i + 1) (st (i + 1))) (h2 : ∀ k, g (k + 1) n (st n) = e k (st n)) (h3 : Ev (fun k => e k (st n)) r) : Ev (fun k => g k 0 (st 0)) r := by
  have go : ∀ (m i : Nat), i + m = n → Ev (fun k => g k i (st i)) r := by
    intro m
    induction m with
    | zero => intro i hi; obtain rfl : i = n := (by omega); exact Ev.step (fun k => h2 k) h3
    | succ m ih => intro i hi; exact Ev.step (fun k => h1 i k (by omega)) (ih (i + 1) (by omega))
  exact go n 0 (by omega)
theorem take_snoc {α : Type} {L : List α} {i : Nat} {x : α} (hx : L[i]? = some x) : L.take (i + 1) = L.take i ++ [x] := by rw [List.take_add_one, hx]; rfl
theorem ex_get {α : Type} {L : List α} {i : Nat} (h : i < L.length) : ∃ x, L[i]? = some x := ⟨_, List.getElem?_eq_getElem h⟩
theorem filt_snoc {α : Type} {L : List α} {i : Nat} {x : α} (hx : L[i]? = some x) (f : α → Bool) : (L.take (i + 1)).filter f = (L.take i).filter f ++ (if f x = true then [x] else []) := by
  rw [List.take_add_one, hx, List.filter_append]
  congr 1
  simp only [Option.toList, List.filter_cons, List.filter_nil]
theorem filt_len {α : Type} (L : List α) (i : Nat) (f : α → Bool) : ((L.take i).filter f).length ≤ i := Nat.le_trans (List.length_filter_le _ _) (by rw [List.length_take]; omega)
theorem both_ev (ps : List S27) (ss : List S50) (ws qs : List S27) (ts : List S50) (vs : List S27) (h1 : ps.length + qs.length < 4398046511104) (h2 : ss.length + ts.length < 2513169434916) (h3 : ws.length + vs.length < 4398046511104) : Ev (fun k => vellumref17_both.f k ps ss ws qs ts vs) (ps ++ qs, ss ++ ts, ws ++ vs) := by
  unfold vellumref17_both.f
  refine Ev.congr (fun k => ?_) (run_loop ps.length (fun k i acc => vellumref17_both.l0 k (i : Int) ps ss ws qs ts vs  acc) (fun i => ps.take i) (fun k acc => vellumref17_both.l1 k 0 ps ss ws qs ts vs acc) (ps ++ qs, ss ++ ts, ws ++ vs) (fun i k hi => ?_) (fun k => ?_) ?_)
  · simp only [List.take_zero]
    rfl
  · obtain ⟨x, hx⟩ := ex_get hi
    show vellumref17_both.l0 (k + 1) (i : Int) ps ss ws qs ts vs  _ = vellumref17_both.l0 k ((i + 1 : Nat) : Int) ps ss ws qs ts vs  _
    simp only [vellumref17_both.l0]
    rw [if_pos (by omega), if_pos (by omega), if_pos (by simp only [List.length_append, List.length_take]; omega), rd27 hx, wrap64_id (by omega) (by omega), take_snoc hx]
    rfl
  · simp only [vellumref17_both.l0]
    rw [if_neg (by omega)]
  simp only [List.take_length]
  refine Ev.congr (fun k => ?_) (run_loop qs.length (fun k i acc => vellumref17_both.l1 k (i : Int) ps ss ws qs ts vs  acc) (fun i => ps ++ qs.take i) (fun k acc => vellumref17_both.l2 k 0 ps ss ws qs ts vs acc []) (ps ++ qs, ss ++ ts, ws ++ vs) (fun i k hi => ?_) (fun k => ?_) ?_)
  · simp only [List.take_zero, List.append_nil]
    rfl
  · obtain ⟨x, hx⟩ := ex_get hi
    show vellumref17_both.l1 (k + 1) (i : Int) ps ss ws qs ts vs  _ = vellumref17_both.l1 k ((i + 1 : Nat) : Int) ps ss ws qs ts vs  _
    simp only [vellumref17_both.l1]
    rw [if_pos (by omega), if_pos (by omega), if_pos (by simp only [List.length_append, List.length_take]; omega), rd27 hx, wrap64_id (by omega) (by omega), take_snoc hx, ← List.append_assoc]
    rfl
  · simp only [vellumref17_both.l1]
    rw [if_neg (by omega)]
  simp only [List.take_length]
  refine Ev.congr (fun k => ?_) (run_loop ss.length (fun k i acc => vellumref17_both.l2 k (i : Int) ps ss ws qs ts vs (ps ++ qs) acc) (fun i => ss.take i) (fun k acc => vellumref17_both.l3 k 0 ps ss ws qs ts vs (ps ++ qs) acc) (ps ++ qs, ss ++ ts, ws ++ vs) (fun i k hi => ?_) (fun k => ?_) ?_)
  · simp only [List.take_zero]
    rfl
  · obtain ⟨x, hx⟩ := ex_get hi
    show vellumref17_both.l2 (k + 1) (i : Int) ps ss ws qs ts vs (ps ++ qs) _ = vellumref17_both.l2 k ((i + 1 : Nat) : Int) ps ss ws qs ts vs (ps ++ qs) _
    simp only [vellumref17_both.l2]
    rw [if_pos (by omega), if_pos (by omega), if_pos (by simp only [List.length_append, List.length_take]; omega), rd50 hx, wrap64_id (by omega) (by omega), take_snoc hx]
    rfl
  · simp only [vellumref17_both.l2]
    rw [if_neg (by omega)]
  simp only [List.take_length]
  refine Ev.congr (fun k => ?_) (run_loop ts.length (fun k i acc => vellumref17_both.l3 k (i : Int) ps ss ws qs ts vs (ps ++ qs) acc) (fun i => ss ++ ts.take i) (fun k acc => vellumref17_both.l4 k 0 ps ss ws qs ts vs (ps ++ qs) acc []) (ps ++ qs, ss ++ ts, ws ++ vs) (fun i k hi => ?_) (fun k => ?_) ?_)
  · simp only [List.take_zero, List.append_nil]
    rfl
  · obtain ⟨x, hx⟩ := ex_get hi
    show vellumref17_both.l3 (k + 1) (i : Int) ps ss ws qs ts vs (ps ++ qs) _ = vellumref17_both.l3 k ((i + 1 : Nat) : Int) ps ss ws qs ts vs (ps ++ qs) _
    simp only [vellumref17_both.l3]
    rw [if_pos (by omega), if_pos (by omega), if_pos (by simp only [List.length_append, List.length_take]; omega), rd50 hx, wrap64_id (by omega) (by omega), take_snoc hx, ← List.append_assoc]
    rfl
  · simp only [vellumref17_both.l3]
    rw [if_neg (by omega)]
  simp only [List.take_length]
  refine Ev.congr (fun k => ?_) (run_loop ws.length (fun k i acc => vellumref17_both.l4 k (i : Int) ps ss ws qs ts vs (ps ++ qs) (ss ++ ts) acc) (fun i => ws.take i) (fun k acc => vellumref17_both.l5 k 0 qs ts vs (ps ++ qs) (ss ++ ts) acc) (ps ++ qs, ss ++ ts, ws ++ vs) (fun i k hi => ?_) (fun k => ?_) ?_)
  · simp only [List.take_zero]
    rfl
  · obtain ⟨x, hx⟩ := ex_get hi
    show vellumref17_both.l4 (k + 1) (i : Int) ps ss ws qs ts vs (ps ++ qs) (ss ++ ts) _ = vellumref17_both.l4 k ((i + 1 : Nat) : Int) ps ss ws qs ts vs (ps ++ qs) (ss ++ ts) _
    simp only [vellumref17_both.l4]
    rw [if_pos (by omega), if_pos (by omega), if_pos (by simp only [List.length_append, List.length_take]; omega), rd27 hx, wrap64_id (by omega) (by omega), take_snoc hx]
    rfl
  · simp only [vellumref17_both.l4]
    rw [if_neg (by omega)]
  simp only [List.take_length]
  refine Ev.congr (fun k => ?_) (run_loop vs.length (fun k i acc => vellumref17_both.l5 k (i : Int) qs ts vs (ps ++ qs) (ss ++ ts) acc) (fun i => ws ++ vs.take i) (fun k acc => some (ps ++ qs, ss ++ ts, acc)) (ps ++ qs, ss ++ ts, ws ++ vs) (fun i k hi => ?_) (fun k => ?_) ?_)
  · simp only [List.take_zero, List.append_nil]
    rfl
  · obtain ⟨x, hx⟩ := ex_get hi
    show vellumref17_both.l5 (k + 1) (i : Int) qs ts vs (ps ++ qs) (ss ++ ts) _ = vellumref17_both.l5 k ((i + 1 : Nat) : Int) qs ts vs (ps ++ qs) (ss ++ ts) _
    simp only [vellumref17_both.l5]
    rw [if_pos (by omega), if_pos (by omega), if_pos (by simp only [List.length_append, List.length_take]; omega), rd27 hx, wrap64_id (by omega) (by omega), take_snoc hx, ← List.append_assoc]
    rfl
  · simp only [vellumref17_both.l5]
    rw [if_neg (by omega)]
  simp only [List.take_length]
  exact Ev.pure
theorem copy_ev (ps : List S27) (ss : List S50) (ws : List S27) (h1 : ps.length < 4398046511104) (h2 : ss.length < 2513169434916) (h3 : ws.length < 4398046511104) : Ev (fun k => vellumref17_Copy.f k ps ss ws) (ps, ss, ws) := by
  unfold vellumref17_Copy.f
  have h := both_ev ps ss ws [] [] [] (by simpa using h1) (by simpa using h2) (by simpa using h3)
  simp only [List.append_nil] at h
  exact Ev.bind (F := fun _ t => some (t.1, t.2.1, t.2.2)) h Ev.pure
theorem without_ev (ps : List S27) (ss : List S50) (ws : List S27) (t : Int) (h1 : ps.length < 4398046511104) (h2 : ss.length < 2513169434916) (h3 : ws.length < 4398046511104) : Ev (fun k => vellumref17_Without.f k ps ss ws t) (ps.filter (fun x => !(x.f0 == t)), ss.filter (fun x => !(x.f0 == t)), ws.filter (fun x => !(x.f0 == t))) := by
  unfold vellumref17_Without.f
  refine Ev.congr (fun k => ?_) (run_loop ps.length (fun k i acc => vellumref17_Without.l0 k t (i : Int) ps ss ws  acc) (fun i => (ps.take i).filter (fun x => !(x.f0 == t))) (fun k acc => vellumref17_Without.l1 k t 0 ps ss ws acc []) (ps.filter (fun x => !(x.f0 == t)), ss.filter (fun x => !(x.f0 == t)), ws.filter (fun x => !(x.f0 == t))) (fun i k hi => ?_) (fun k => ?_) ?_)
  · simp only [List.take_zero, List.filter_nil]
    rfl
  · obtain ⟨x, hx⟩ := ex_get hi
    have hf := filt_len ps i (fun x => !(x.f0 == t))
    show vellumref17_Without.l0 (k + 1) t (i : Int) ps ss ws  _ = vellumref17_Without.l0 k t ((i + 1 : Nat) : Int) ps ss ws  _
    simp only [vellumref17_Without.l0]
    rw [if_pos (by omega), if_pos (by omega), rd27 hx, wrap64_id (by omega) (by omega), filt_snoc hx]
    by_cases e : x.f0 = t
    · have e2 : (!(x.f0 == t)) = false := by simp [e]
      rw [if_pos e, e2]
      simp
    · have e2 : (!(x.f0 == t)) = true := by simp [e]
      rw [if_neg e, if_pos (by omega), e2, if_pos rfl]
      rfl
  · simp only [vellumref17_Without.l0]
    rw [if_neg (by omega)]
  simp only [List.take_length]
  refine Ev.congr (fun k => ?_) (run_loop ss.length (fun k i acc => vellumref17_Without.l1 k t (i : Int) ps ss ws (ps.filter (fun x => !(x.f0 == t))) acc) (fun i => (ss.take i).filter (fun x => !(x.f0 == t))) (fun k acc => vellumref17_Without.l2 k t 0 ps ss ws (ps.filter (fun x => !(x.f0 == t))) acc []) (ps.filter (fun x => !(x.f0 == t)), ss.filter (fun x => !(x.f0 == t)), ws.filter (fun x => !(x.f0 == t))) (fun i k hi => ?_) (fun k => ?_) ?_)
  · simp only [List.take_zero, List.filter_nil]
    rfl
  · obtain ⟨x, hx⟩ := ex_get hi
    have hf := filt_len ss i (fun x => !(x.f0 == t))
    show vellumref17_Without.l1 (k + 1) t (i : Int) ps ss ws (ps.filter (fun x => !(x.f0 == t))) _ = vellumref17_Without.l1 k t ((i + 1 : Nat) : Int) ps ss ws (ps.filter (fun x => !(x.f0 == t))) _
    simp only [vellumref17_Without.l1]
    rw [if_pos (by omega), if_pos (by omega), rd50 hx, wrap64_id (by omega) (by omega), filt_snoc hx]
    by_cases e : x.f0 = t
    · have e2 : (!(x.f0 == t)) = false := by simp [e]
      rw [if_pos e, e2]
      simp
    · have e2 : (!(x.f0 == t)) = true := by simp [e]
      rw [if_neg e, if_pos (by omega), e2, if_pos rfl]
      rfl
  · simp only [vellumref17_Without.l1]
    rw [if_neg (by omega)]
  simp only [List.take_length]
  refine Ev.congr (fun k => ?_) (run_loop ws.length (fun k i acc => vellumref17_Without.l2 k t (i : Int) ps ss ws (ps.filter (fun x => !(x.f0 == t))) (ss.filter (fun x => !(x.f0 == t))) acc) (fun i => (ws.take i).filter (fun x => !(x.f0 == t))) (fun k acc => some (ps.filter (fun x => !(x.f0 == t)), ss.filter (fun x => !(x.f0 == t)), acc)) (ps.filter (fun x => !(x.f0 == t)), ss.filter (fun x => !(x.f0 == t)), ws.filter (fun x => !(x.f0 == t))) (fun i k hi => ?_) (fun k => ?_) ?_)
  · simp only [List.take_zero, List.filter_nil]
    rfl
  · obtain ⟨x, hx⟩ := ex_get hi
    have hf := filt_len ws i (fun x => !(x.f0 == t))
    show vellumref17_Without.l2 (k + 1) t (i : Int) ps ss ws (ps.filter (fun x => !(x.f0 == t))) (ss.filter (fun x => !(x.f0 == t))) _ = vellumref17_Without.l2 k t ((i + 1 : Nat) : Int) ps ss ws (ps.filter (fun x => !(x.f0 == t))) (ss.filter (fun x => !(x.f0 == t))) _
    simp only [vellumref17_Without.l2]
    rw [if_pos (by omega), if_pos (by omega), rd27 hx, wrap64_id (by omega) (by omega), filt_snoc hx]
    by_cases e : x.f0 = t
    · have e2 : (!(x.f0 == t)) = false := by simp [e]
      rw [if_pos e, e2]
      simp
    · have e2 : (!(x.f0 == t)) = true := by simp [e]
      rw [if_neg e, if_pos (by omega), e2, if_pos rfl]
      rfl
  · simp only [vellumref17_Without.l2]
    rw [if_neg (by omega)]
  simp only [List.take_length]
  exact Ev.pure
theorem same_ev (ps : List S27) (ss : List S50) (ws : List S27) (h1 : ps.length < 4398046511104) (h2 : ss.length < 2513169434916) (h3 : ws.length < 4398046511104) : Ev (fun k => vellumref17_Same.f k ps ss ws ps ss ws) true := by
  unfold vellumref17_Same.f
  refine Ev.pos rfl (Ev.pos rfl (Ev.step (g := fun k => vellumref17_Same.l0 k 0 ps ss ws ps ss ws) (fun k => ?_) ?_))
  · simp only [vellumref17_Same.j0, bne_self_eq_false, Bool.false_eq_true, if_false]
  refine Ev.congr (fun k => rfl) (run_loop ps.length (fun k i (_ : Unit) => vellumref17_Same.l0 k (i : Int) ps ss ws ps ss ws) (fun i => ()) (fun k _ => vellumref17_Same.l1 k 0 ps ss ws ps ss ws) true (fun i k hi => ?_) (fun k => ?_) ?_)
  · show vellumref17_Same.l0 (k + 1) (i : Int) ps ss ws ps ss ws = vellumref17_Same.l0 k ((i + 1 : Nat) : Int) ps ss ws ps ss ws
    simp only [vellumref17_Same.l0, beq_self_eq_true, Bool.not_true, Bool.or_false, Bool.false_eq_true, if_false]
    rw [if_pos (by omega), if_pos (by omega), if_pos (by omega), wrap64_id (by omega) (by omega)]
    rfl
  · simp only [vellumref17_Same.l0]
    rw [if_neg (by omega)]
  refine Ev.congr (fun k => rfl) (run_loop ss.length (fun k i (_ : Unit) => vellumref17_Same.l1 k (i : Int) ps ss ws ps ss ws) (fun i => ()) (fun k _ => vellumref17_Same.l2 k 0 ps ss ws ps ss ws) true (fun i k hi => ?_) (fun k => ?_) ?_)
  · show vellumref17_Same.l1 (k + 1) (i : Int) ps ss ws ps ss ws = vellumref17_Same.l1 k ((i + 1 : Nat) : Int) ps ss ws ps ss ws
    simp only [vellumref17_Same.l1, beq_self_eq_true, Bool.not_true, Bool.or_false, Bool.false_eq_true, if_false]
    rw [if_pos (by omega), if_pos (by omega), if_pos (by omega), wrap64_id (by omega) (by omega)]
    rfl
  · simp only [vellumref17_Same.l1]
    rw [if_neg (by omega)]
  refine Ev.congr (fun k => rfl) (run_loop ws.length (fun k i (_ : Unit) => vellumref17_Same.l2 k (i : Int) ps ss ws ps ss ws) (fun i => ()) (fun k _ => some true) true (fun i k hi => ?_) (fun k => ?_) ?_)
  · show vellumref17_Same.l2 (k + 1) (i : Int) ps ss ws ps ss ws = vellumref17_Same.l2 k ((i + 1 : Nat) : Int) ps ss ws ps ss ws
    simp only [vellumref17_Same.l2, beq_self_eq_true, Bool.not_true, Bool.or_false, Bool.false_eq_true, if_false]
    rw [if_pos (by omega), if_pos (by omega), if_pos (by omega), wrap64_id (by omega) (by omega)]
    rfl
  · simp only [vellumref17_Same.l2]
    rw [if_neg (by omega)]
  exact Ev.pure
/-- Is a point among some? -/
theorem contains_ev (L : List S27) (p : S27) (hl : L.length < 4611686018427387904) : Ev (fun k => api_Point_22.f k L p.f0 p.f1 p.f2) (L.any (eqP p)) := by
  unfold api_Point_22.f api_Point_35.f
  have go : ∀ (m i : Nat), i + m = L.length → ∃ r : Int, Ev (fun k => api_Point_35.l0 k L (L.length : Int) (i : Int) p.f0 p.f1 p.f2) r ∧ decide (r ≥ 0) = (L.drop i).any (eqP p) := by
    intro m
    induction m with
    | zero =>
      intro i hi
      refine ⟨-1, Ev.from_ 1 fun k => ?_, ?_⟩
      · simp only [api_Point_35.l0]
        rw [if_neg (by omega)]
      · rw [List.drop_eq_nil_of_le (by omega)]; rfl
    | succ m ih =>
      intro i hi
      obtain ⟨x, hx⟩ := ex_get (L := L) (i := i) (by omega)
      rw [any_drop hx]
      by_cases e : eqP p x = true
      · refine ⟨i, Ev.from_ 1 fun k => ?_, ?_⟩
        · simp only [api_Point_35.l0]
          have e' := e
          unfold eqP at e'
          rw [if_pos (by omega), if_pos (by omega), if_pos (by omega), rd27 hx, if_pos e']
        · rw [e, Bool.true_or]; simp
      · obtain ⟨r, h1, h2⟩ := ih (i + 1) (by omega)
        rw [Bool.not_eq_true] at e
        refine ⟨r, Ev.step (fun k => ?_) h1, by rw [e, Bool.false_or]; exact h2⟩
        simp only [api_Point_35.l0]
        have e' : ¬ eqP p x = true := by rw [e]; decide
        unfold eqP at e'
        rw [if_pos (by omega), if_pos (by omega), if_pos (by omega), rd27 hx, if_neg e', wrap64_id (by omega) (by omega)]
        rfl
  obtain ⟨r, h1, h2⟩ := go L.length 0 (by omega)
  rw [List.drop_zero] at h2
  rw [← h2]
  exact Ev.bind (F := fun _ t => some (decide (t ≥ 0))) h1 Ev.pure
instance : DecidableEq S27 := fun a b => if h : eqP a b = true then isTrue ((eqP_iff a b).1 h) else isFalse (fun e => h ((eqP_iff a b).2 e))
/-- What two sorted lists are merged to. -/
def mergeP : List S27 → List S27 → List S27
  | [], [] => []
  | x :: a, [] => x :: mergeP a []
  | [], y :: b => y :: mergeP [] b
  | x :: a, y :: b => if ltP x y then x :: mergeP a (y :: b) else if x = y then y :: mergeP a b else y :: mergeP (x :: a) b
termination_by a b => a.length + b.length
decreasing_by all_goals (simp only [List.length_cons]; omega)
theorem merge_mem (z : S27) : ∀ (n : Nat) (a b : List S27), a.length + b.length = n → (z ∈ mergeP a b ↔ z ∈ a ∨ z ∈ b) := by
  intro n
  induction n using Nat.strongRecOn with
  | _ n ih =>
    intro a b hn
    cases a with
    | nil =>
      cases b with
      | nil => unfold mergeP; simp
      | cons y b => unfold mergeP; rw [List.mem_cons, ih b.length (by rw [← hn]; simp) [] b (by simp)]; simp
    | cons x a =>
      cases b with
      | nil => unfold mergeP; rw [List.mem_cons, ih a.length (by rw [← hn]; simp) a [] (by simp)]; simp
      | cons y b =>
        unfold mergeP
        split
        · rw [List.mem_cons, ih (a.length + (y :: b).length) (by rw [← hn]; simp only [List.length_cons]; omega) a (y :: b) rfl]
          simp only [List.mem_cons]
          exact or_assoc.symm
        · split
          · rename_i e
            subst e
            rw [List.mem_cons, ih (a.length + b.length) (by rw [← hn]; simp only [List.length_cons]; omega) a b rfl]
            simp only [List.mem_cons]
            exact ⟨fun h => h.elim (fun h => .inl (.inl h)) (fun h => h.elim (fun h => .inl (.inr h)) (fun h => .inr (.inr h))), fun h => h.elim (fun h => h.elim .inl (fun h => .inr (.inl h))) (fun h => h.elim .inl (fun h => .inr (.inr h)))⟩
          · rw [List.mem_cons, ih ((x :: a).length + b.length) (by rw [← hn]; simp only [List.length_cons]; omega) (x :: a) b rfl]
            simp only [List.mem_cons]
            exact ⟨fun h => h.elim (fun h => .inr (.inl h)) (fun h => h.elim .inl (fun h => .inr (.inr h))), fun h => h.elim (fun h => .inr (.inl h)) (fun h => h.elim .inl (fun h => .inr (.inr h)))⟩
theorem merge_len : ∀ (n : Nat) (a b : List S27), a.length + b.length = n → (mergeP a b).length ≤ n := by
  intro n
  induction n using Nat.strongRecOn with
  | _ n ih =>
    intro a b hn
    cases a with
    | nil =>
      cases b with
      | nil => unfold mergeP; simp
      | cons y b => unfold mergeP; have := ih b.length (by rw [← hn]; simp) [] b (by simp); simp only [List.length_cons, List.length_nil] at *; omega
    | cons x a =>
      cases b with
      | nil => unfold mergeP; have := ih a.length (by rw [← hn]; simp) a [] (by simp); simp only [List.length_cons, List.length_nil] at *; omega
      | cons y b =>
        unfold mergeP
        split
        · have := ih (a.length + (y :: b).length) (by rw [← hn]; simp only [List.length_cons]; omega) a (y :: b) rfl
          simp only [List.length_cons] at *; omega
        · split
          · have := ih (a.length + b.length) (by rw [← hn]; simp only [List.length_cons]; omega) a b rfl
            simp only [List.length_cons] at *; omega
          · have := ih ((x :: a).length + b.length) (by rw [← hn]; simp only [List.length_cons]; omega) (x :: a) b rfl
            simp only [List.length_cons] at *; omega
theorem merge_sorted : ∀ (n : Nat) (a b : List S27), a.length + b.length = n → a.Pairwise ltP → b.Pairwise ltP → (mergeP a b).Pairwise ltP := by
  intro n
  induction n using Nat.strongRecOn with
  | _ n ih =>
    intro a b hn ha hb
    cases a with
    | nil =>
      cases b with
      | nil => unfold mergeP; exact List.Pairwise.nil
      | cons y b =>
        unfold mergeP
        obtain ⟨h1, h2⟩ := List.pairwise_cons.1 hb
        refine List.pairwise_cons.2 ⟨fun z hz => ?_, ih b.length (by rw [← hn]; simp) [] b (by simp) List.Pairwise.nil h2⟩
        rcases (merge_mem z _ [] b rfl).1 hz with h | h
        · cases h
        · exact h1 z h
    | cons x a =>
      obtain ⟨g1, g2⟩ := List.pairwise_cons.1 ha
      cases b with
      | nil =>
        unfold mergeP
        refine List.pairwise_cons.2 ⟨fun z hz => ?_, ih a.length (by rw [← hn]; simp) a [] (by simp) g2 List.Pairwise.nil⟩
        rcases (merge_mem z _ a [] rfl).1 hz with h | h
        · exact g1 z h
        · cases h
      | cons y b =>
        obtain ⟨h1, h2⟩ := List.pairwise_cons.1 hb
        unfold mergeP
        split
        · rename_i e
          refine List.pairwise_cons.2 ⟨fun z hz => ?_, ih (a.length + (y :: b).length) (by rw [← hn]; simp only [List.length_cons]; omega) a (y :: b) rfl g2 hb⟩
          rcases (merge_mem z _ a (y :: b) rfl).1 hz with h | h
          · exact g1 z h
          · rcases List.mem_cons.1 h with rfl | h
            · exact e
            · exact ltP_trans e (h1 z h)
        · rename_i hlt
          split
          · rename_i e
            subst e
            refine List.pairwise_cons.2 ⟨fun z hz => ?_, ih (a.length + b.length) (by rw [← hn]; simp only [List.length_cons]; omega) a b rfl g2 h2⟩
            exact ((merge_mem z _ a b rfl).1 hz).elim (g1 z) (h1 z)
          · rename_i hne
            have hyx : ltP y x := by
              rcases ltP_tri x y with h | h | h
              · exact absurd h hlt
              · exact absurd h hne
              · exact h
            refine List.pairwise_cons.2 ⟨fun z hz => ?_, ih ((x :: a).length + b.length) (by rw [← hn]; simp only [List.length_cons]; omega) (x :: a) b rfl ha h2⟩
            rcases (merge_mem z _ (x :: a) b rfl).1 hz with h | h
            · rcases List.mem_cons.1 h with rfl | h
              · exact hyx
              · exact ltP_trans hyx (g1 z h)
            · exact h1 z h
/-- In order, each once. -/
def Sorts (l r : List S27) : Prop := r.Pairwise ltP ∧ (∀ z, z ∈ r ↔ z ∈ l) ∧ r.length ≤ l.length
theorem sorts_one {l : List S27} (h : l.length < 2) : Sorts l l := by
  refine ⟨?_, fun z => Iff.rfl, Nat.le_refl _⟩
  match l, h with
  | [], _ => exact List.Pairwise.nil
  | [x], _ => exact List.pairwise_singleton _ _
theorem sorts_merge {l a b : List S27} {n : Nat} (ha : Sorts (l.take n) a) (hb : Sorts (l.drop n) b) : Sorts l (mergeP a b) := by
  refine ⟨merge_sorted _ a b rfl ha.1 hb.1, fun z => ?_, ?_⟩
  · rw [merge_mem z _ a b rfl, ha.2.1, hb.2.1, ← List.mem_append, List.take_append_drop]
  · have h1 := merge_len _ a b rfl
    have h2 := ha.2.2
    have h3 := hb.2.2
    rw [List.length_take] at h2
    rw [List.length_drop] at h3
    omega
/-- The first that two sorted lists have in common and that is a row's. -/
def bothP : List S27 → List S27 → Option S27
  | x :: a, y :: b => if x = y ∧ x.f1 = -1 then some x else if ltP y x then bothP (x :: a) b else bothP a (y :: b)
  | [], _ => none
  | _, [] => none
termination_by a b => a.length + b.length
decreasing_by all_goals (simp only [List.length_cons]; omega)
theorem bothP_nil (a : List S27) : bothP a [] = none := by cases a <;> simp [bothP]
theorem bothP_nil2 (a : List S27) : bothP [] a = none := by cases a <;> simp [bothP]
theorem bothP_spec : ∀ (n : Nat) (a b : List S27), a.length + b.length = n → a.Pairwise ltP → b.Pairwise ltP →
    (bothP a b = none ∧ ∀ q, q ∈ a → q ∈ b → q.f1 ≠ -1) ∨ ∃ p, bothP a b = some p ∧ p ∈ a ∧ p ∈ b ∧ p.f1 = -1 ∧ ∀ q, q ∈ a → q ∈ b → q.f1 = -1 → q = p ∨ ltP p q := by
  intro n
  induction n using Nat.strongRecOn with
  | _ n ih =>
    intro a b hn ha hb
    cases a with
    | nil => exact .inl ⟨bothP_nil2 b, fun q h => by cases h⟩
    | cons x a =>
      obtain ⟨g1, g2⟩ := List.pairwise_cons.1 ha
      cases b with
      | nil => exact .inl ⟨bothP_nil _, fun q _ h => by cases h⟩
      | cons y b =>
        obtain ⟨h1, h2⟩ := List.pairwise_cons.1 hb
        unfold bothP
        by_cases hc : x = y ∧ x.f1 = -1
        · rw [if_pos hc]
          obtain ⟨rfl, hi⟩ := hc
          refine .inr ⟨x, rfl, List.mem_cons_self .., List.mem_cons_self .., hi, fun q hq _ _ => ?_⟩
          rcases List.mem_cons.1 hq with h | h
          · exact .inl h
          · exact .inr (g1 q h)
        · rw [if_neg hc]
          by_cases hl : ltP y x
          · rw [if_pos hl]
            have hny : y ∉ x :: a := fun h => by
              rcases List.mem_cons.1 h with rfl | h
              · exact ltP_irrefl _ hl
              · exact ltP_irrefl _ (ltP_trans hl (g1 y h))
            rcases ih ((x :: a).length + b.length) (by rw [← hn]; simp only [List.length_cons]; omega) (x :: a) b rfl ha h2 with ⟨e, hq⟩ | ⟨p, e, m1, m2, m3, m4⟩
            · refine .inl ⟨e, fun q h3 h4 => ?_⟩
              rcases List.mem_cons.1 h4 with rfl | h4
              · exact absurd h3 hny
              · exact hq q h3 h4
            · refine .inr ⟨p, e, m1, List.mem_cons_of_mem _ m2, m3, fun q h3 h4 h5 => ?_⟩
              rcases List.mem_cons.1 h4 with rfl | h4
              · exact absurd h3 hny
              · exact m4 q h3 h4 h5
          · rw [if_neg hl]
            have hnx : x ∈ y :: b → x.f1 ≠ -1 := fun h hi => by
              rcases List.mem_cons.1 h with e | h
              · exact hc ⟨e, hi⟩
              · exact hl (h1 x h)
            rcases ih (a.length + (y :: b).length) (by rw [← hn]; simp only [List.length_cons]; omega) a (y :: b) rfl g2 hb with ⟨e, hq⟩ | ⟨p, e, m1, m2, m3, m4⟩
            · refine .inl ⟨e, fun q h3 h4 => ?_⟩
              rcases List.mem_cons.1 h3 with rfl | h3
              · exact hnx h4
              · exact hq q h3 h4
            · refine .inr ⟨p, e, List.mem_cons_of_mem _ m1, m2, m3, fun q h3 h4 h5 => ?_⟩
              rcases List.mem_cons.1 h3 with rfl | h3
              · exact absurd h5 (hnx h4)
              · exact m4 q h3 h4 h5
theorem any_iff (L : List S27) (p : S27) : L.any (eqP p) = true ↔ p ∈ L := by
  rw [List.any_eq_true]
  exact ⟨fun ⟨x, h1, h2⟩ => by rw [(eqP_iff p x).1 h2]; exact h1, fun h => ⟨p, h, (eqP_iff p p).2 rfl⟩⟩
/-- Both: what the program finds is what the two sorted lists tell. -/
theorem both_least {l m x y : List S27} (hx : Sorts l x) (hy : Sorts m y) : leastS (l.filter (fun p => m.any (eqP p) && p.f1 == -1)) = bothP x y := by
  have hm : ∀ q, q ∈ l.filter (fun p => m.any (eqP p) && p.f1 == -1) ↔ q ∈ x ∧ q ∈ y ∧ q.f1 = -1 := fun q => by
    rw [List.mem_filter, Bool.and_eq_true, any_iff, beq_iff_eq, hx.2.1, hy.2.1]
  rcases bothP_spec _ x y rfl hx.1 hy.1 with ⟨e, hq⟩ | ⟨p, e, m1, m2, m3, m4⟩
  · rw [e]
    rcases leastS_spec (l.filter (fun p => m.any (eqP p) && p.f1 == -1)) with ⟨_, h⟩ | ⟨p, _, h1, _⟩
    · exact h
    · obtain ⟨a1, a2, a3⟩ := (hm p).1 h1
      exact absurd a3 (hq p a1 a2)
  · rw [e]
    refine leastS_unique ((hm p).2 ⟨m1, m2, m3⟩) (fun q hq => ?_)
    obtain ⟨a1, a2, a3⟩ := (hm q).1 hq
    exact m4 q a1 a2 a3
end Go.Proofs.Ytldlenjfpjihdaa.PS
end
section
namespace Go.Proofs.Ytldlenjfpjihdaa.PS
open Go Go.RowKit Go.Proofs Go.Maps Go.WideMaps Go.Proofs.YtldlenjfpjihdaaW.PrintWords
set_option linter.unusedVariables false
set_option linter.unusedSimpArgs false
def pv (x : S27) : Value := .agg #[.int .i64 x.f0, .int .i64 x.f1, .string x.f2]
def wfP (x : S27) : Prop := (Lit.int .i64 x.f0).wf = true ∧ (Lit.int .i64 x.f1).wf = true ∧ x.f2.size ≤ 140737488351232
def pk (x : S27) : Lit := .string (keyBytes [.int .i64 x.f0, .int .i64 x.f1, .string x.f2.data.toList])
theorem laidOut_ : laidOutB Try.prog = true := by kernel_rfl
theorem row27 : (27 : TypeId) < Try.prog.types.size := of_decide_eq_true (by kernel_rfl)
theorem wide27 : (match Try.prog.underlying 27 with | some (.array _ _) | some (.struct _) => true | _ => false) = true := by rw [Try.underlying27]
theorem law27 : KeyLaw Try.prog 27 := deep_law_laid laidOut_ (m := 2) (by omega) row27 (by kernel_rfl) wide27
theorem kmap : Keyed Try.prog 27 := Keyed.of_law law27
theorem kt27 : Try.prog.keyType 27 = true := by kernel_rfl
theorem size27 : Try.prog.cellsOf 27 = 3 := by kernel_rfl
theorem size3 : Try.prog.cellsOf 3 = 1 := by kernel_rfl
theorem size9 : Try.prog.cellsOf 9 = 1 := by kernel_rfl
theorem msize : ∃ m, Try.prog.types.size = m + 1 := ⟨Try.prog.types.size - 1, (Nat.succ_pred_eq_of_pos (Nat.lt_of_le_of_lt (Nat.zero_le _) row27)).symm⟩
theorem kpt {x : S27} (h : wfP x) : keyOf Try.prog 27 (pv x) = some (pk x) := by
  have hkt := kt27
  obtain ⟨m, hm⟩ := msize
  obtain ⟨h0, h1, h2⟩ := h
  unfold keyOf pv pk
  simp only [Try.underlying27]
  rw [if_pos (by simp [hkt, Value.formed, Try.underlying27, size27]), hm]
  unfold Program.keyLits
  simp only [Try.underlying27, Value.cells]
  rw [if_pos ⟨by rw [size27]; rfl, by kernel_rfl⟩]
  simp [size3, size9, Program.keyLits, Try.underlying3, Try.underlying9, h0, h1, show x.f2.size ≤ maxLen by unfold maxLen; omega]
theorem pv_inj {x y : S27} (h : pv x = pv y) : x = y := by
  cases x; cases y
  simpa [pv] using h
theorem pk_inj {x y : S27} (hx : wfP x) (hy : wfP y) (h : pk x = pk y) : x = y := by
  have h1 := kpt hx
  rw [h] at h1
  exact pv_inj (kmap.inj h1 (kpt hy))
def ru : Value → Option (DataW Unit × List MemPlace)
  | .agg ⟨[]⟩ => some (.nil, [])
  | _ => none
theorem ru_inv {v : Value} {x : DataW Unit × List MemPlace} (h : ru v = some x) : v = .agg #[] := by
  unfold ru at h
  split at h
  · rfl
  · cases h
/-- A map that has just the points of a list. -/
def PM (w : World) (m nn : Nat) (L : List S27) : Prop := ∃ D : DataW Unit, w.ownsMap Try.prog 27 ru m nn D ∧ ∀ x, wfP x → Maps.has D (pk x) = L.any (eqP x)
theorem PM.blk {w : World} {m nn : Nat} {L : List S27} (h : PM w m nn L) : ∃ es clock, w.heap[m]? = some (.map es clock) := by
  obtain ⟨D, ⟨es, clock, h1, _⟩, _⟩ := h
  exact ⟨es, clock, h1⟩
theorem PM.same {w w' : World} {m nn : Nat} {L : List S27} (h : PM w m nn L) (hm : w'.heap[m]? = w.heap[m]?) : PM w' m nn L := by
  obtain ⟨D, ⟨es, clock, h1, h2⟩, h3⟩ := h
  exact ⟨D, ⟨es, clock, hm.trans h1, h2⟩, h3⟩
theorem PM.lt {w : World} {m nn : Nat} {L : List S27} (h : PM w m nn L) : m < w.heap.size := by
  obtain ⟨es, clock, h1⟩ := h.blk
  exact (Array.getElem?_eq_some_iff.1 h1).1
theorem PM.below {w w' : World} {m nn : Nat} {L : List S27} (h : PM w m nn L) (hb : Below w.heap.size w w') : PM w' m nn L := h.same (hb.block m h.lt)
theorem PM.new (w : World) : PM (w.alloc (.map #[] 0)) w.heap.size 0 [] :=
  ⟨.map [], World.ownsMap_made w Try.prog 27 ru, fun x _ => rfl⟩
theorem PM.look {w : World} {m nn : Nat} {L : List S27} (h : PM w m nn L) {x : S27} (hx : wfP x) :
    (Instr.lookup 36 (.map (some m)) (pv x) true).run Try.prog w = .ok (.tuple #[.agg #[], .bool (L.any (eqP x))]) w := by
  obtain ⟨D, ho, hh⟩ := h
  obtain ⟨v, ps, hrun, hv⟩ := ho.look_ok kmap Try.underlying36 (Try.zeroValue37 _) (zd := .nil) (zp := []) rfl (kpt hx)
  rw [hh x hx, ru_inv hv] at hrun
  exact hrun
theorem PM.put {w : World} {m nn : Nat} {L : List S27} (h : PM w m nn L) (hn : nn < maxLen) {x : S27} (hx : wfP x) :
    ∃ w', (Instr.mapUpdate 36 (.map (some m)) (pv x) (.agg #[])).run Try.prog w = .ok () w' ∧ PM w' m (nn + 1) (L ++ [x]) ∧ w.grownBy w' (some m) := by
  obtain ⟨D, ho, hh⟩ := h
  obtain ⟨w', hrun, h1, h2⟩ := ho.update kmap Try.underlying36 hn (kpt hx) (d := .nil) (ps := []) (val := .agg #[]) rfl
  refine ⟨w', hrun, ⟨_, h1, fun y hy => ?_⟩, h2⟩
  rw [List.any_append]
  have hD : IsMap D := by obtain ⟨es, clock, _, _, _, rfl⟩ := ho; exact ⟨_, rfl⟩
  by_cases e : y = x
  · subst e
    have e2 : eqP y y = true := (eqP_iff y y).2 rfl
    rw [has_put_same hD (kmap.key (kpt hx))]
    simp [e2]
  · have e2 : eqP y x = false := by rw [← Bool.not_eq_true]; exact fun h => e ((eqP_iff y x).1 h)
    rw [has_put_other (fun h => e (pk_inj hy hx h)), hh y hy]
    simp [e2]
end Go.Proofs.Ytldlenjfpjihdaa.PS
end
section
namespace Go.Proofs.Ytldlenjfpjihdaa.PS
open Go Go.RowKit Go.Proofs Go.Maps Go.Proofs.YtldlenjfpjihdaaW.PrintWords Go.Proofs.YtldlenjfpjihdaaW.PrintLast Go.Proofs.YtldlenjfpjihdaaW.PrintMore
set_option linter.unusedVariables false
set_option linter.unusedSimpArgs false
theorem cell_of {w : World} {b t : Nat} {cs : Array Value} {z : Nat × Nat} (h : w.heap[b]? = some (.cells cs t z)) (i : Nat) : w.cell? ⟨b, i, none⟩ = cs[i]? := by
  simp [World.cell?, h]
theorem frozen_of {w : World} {b t : Nat} {cs : Array Value} (h : w.heap[b]? = some (.cells cs t)) (i : Nat) : w.frozen? ⟨b, i, none⟩ = false := by
  simp [World.frozen?, h]
theorem lt_of {w : World} {b : Nat} {o : Obj} (h : w.heap[b]? = some o) : b < w.heap.size := (Array.getElem?_eq_some_iff.1 h).1
theorem heap_new (w : World) (o : Obj) : (w.alloc o).heap[w.heap.size]? = some o := by
  show (w.heap.push o)[w.heap.size]? = some o
  simp
theorem heap_old {w : World} {k : Nat} {o o' : Obj} (h : w.heap[k]? = some o) : (w.alloc o').heap[k]? = some o := by
  show (w.heap.push o')[k]? = some o
  rw [Array.getElem?_push, if_neg (fun e => by have := lt_of h; omega)]
  exact h
theorem size_new (w : World) (o : Obj) : (w.alloc o).heap.size = w.heap.size + 1 := Array.size_push o
theorem setCell_heap {w : World} {b i t : Nat} {cs : Array Value} (h : w.heap[b]? = some (.cells cs t)) (v : Value) : (w.setCell ⟨b, i, none⟩ v).heap[b]? = some (.cells (cs.setIfInBounds i v) t) :=
  Go.Lib.heap_setCell_same h v
theorem below_step {w0 W W' : World} (hb : Below w0.heap.size w0 W) (hB : Below W.heap.size W W') : Below w0.heap.size w0 W' := Below.trans hb (hB.mono hb.size)
theorem results_ct {P : Program} {fn : Func} {p q : Tmp} {ty : TypeId} (h : fn.results = #[.cell p ty, .tmp q]) (tmps : Array Value) (w : World) (g : Nat) (t : TypeId) (cs : Array Value) (fr : Nat × Nat) (d : TypeDesc)
    (hp : tmps.getD p undef = .pointer (some ⟨g, 0, none⟩)) (hg : w.heap[g]? = some (.cells cs t fr))
    (hu : P.underlying ty = some d) (hd : (match d with | .struct _ | .array _ _ => true | _ => false) = true) (hi : (P.info? ty).map (·.size) = some cs.size) :
    (results fn tmps).run P w = .ok (.tuple #[.agg cs, tmps.getD q undef]) w := by
  have hp' : tmps[p]?.getD undef = .pointer (some ⟨g, 0, none⟩) := by simpa using hp
  simp [results, h, hp', asAddr, run_loadVar_row w g t ty cs fr d hg hu hd hi]
/-- A point's block. -/
def pO (x : S27) : Obj := .cells #[.int .i64 x.f0, .int .i64 x.f1, .string x.f2] 27
def zP : S27 := ⟨0, 0, ⟨#[]⟩⟩
theorem before_any (a b : S27) (w : World) : Calls Try.prog 33 #[pv a, pv b] w fun e w' => e = .returned (.int .i64 (cmpP a b)) ∧ Below w.heap.size w w' := by
  obtain ⟨k, hk⟩ := (before_ev a b).ex
  exact sets_before.calls k _ _ _ _ _ _ _ w hk
def fstep (p : S27 → Bool) (acc : Option S27) (x : S27) : Option S27 := if p x = true then lstep acc x else acc
theorem fstep_take {p : S27 → Bool} {xs : List S27} {k : Nat} {y : S27} (hy : xs[k]? = some y) : (xs.take (k + 1)).foldl (fstep p) none = fstep p ((xs.take k).foldl (fstep p) none) y := by
  rw [take_snoc hy, List.foldl_append]; rfl
set_option maxHeartbeats 8000000 in
set_option maxRecDepth 100000 in
theorem least_any (p : S27 → Bool) (g : Nat) (lb : Array Value) (eg : ∀ args w, (callFunc g args).run Try.prog w = .ok (.enter g args) w) (A : Option Addr) (xs : List S27) (c : Nat) (w : World) (hC : Kd.C k27 w A xs.length xs)
    (hp : ∀ (W : World) (x : S27), x ∈ xs → Below w.heap.size w W → Calls Try.prog g (#[pv x] ++ lb) W fun e w' => e = .returned (.bool (p x)) ∧ Below W.heap.size W w') :
    Calls Try.prog 15 #[.slice A xs.length c, .func (.func g) #[] lb] w fun e w' => e = .returned (.tuple #[pv ((leastS (xs.filter p)).getD zP), .bool (leastS (xs.filter p)).isSome]) ∧ Below w.heap.size w w' := by
  have HC := Aside0.mk hC
  have hmax : xs.length ≤ 9223372036854775807 := hC.2.1
  have hfold : xs.foldl (fstep p) none = leastS (xs.filter p) := foldl_filter p xs none
  have HFo := Aside0.mk hfold
  have HPp := Aside0.mk hp
  clear hC hfold hp
  go_enter Try.func15, Try.ntmps15
  go_wp2
  go_loopg [7, 12] xs.length (fun gg s7 s12 wr => ∃ (k : Nat) (acc : Option S27), s7 = .bool acc.isSome ∧ s12 = .int .i64 k ∧ k ≤ xs.length ∧ Aside0 (xs.length - k ≤ gg) ∧ Aside0 (acc = (xs.take k).foldl (fstep p) none) ∧ Aside0 (wr.heap[w.heap.size + 1]? = some (pO (acc.getD zP))) ∧ Aside0 (wr.heap[w.heap.size]? = some (pO zP)) ∧ Aside0 (Below w.heap.size w wr))
  case atStart => exact ⟨0, none, rfl, rfl, Nat.zero_le _, ⟨by omega⟩, ⟨rfl⟩, ⟨by have := heap_new (w.alloc (pO zP)) (pO zP); rw [size_new] at this; exact this⟩, ⟨heap_old (heap_new w (pO zP))⟩, ⟨below_alloc (below_alloc (Below.refl _ _) _) _⟩⟩
  case round =>
    obtain ⟨k, acc, rfl, rfl, hk, HM, HA, HO, HZ, HB⟩ := hrel
    by_cases hlt : k < xs.length
    · have hltz : (k : Int) < (xs.length : Int) := by omega
      obtain ⟨ad, ea, a0, a1, a2⟩ := at_T27 HC.out (k : Int) (by omega) hltz
      subst ea
      obtain ⟨y, hy⟩ := ex_get hlt
      rw [rd27 hy] at a0 a1 a2
      simp only [Int.toNat_natCast] at a0 a1 a2
      replace a0 := (HB.out.cell (World.block_lt_of_cell? _ _ a0)).trans a0
      replace a1 := (HB.out.cell (World.block_lt_of_cell? _ _ a1)).trans a1
      replace a2 := (HB.out.cell (World.block_lt_of_cell? _ _ a2)).trans a2
      have HY := Aside0.mk hy
      have HFS := Aside0.mk (fstep_take (p := p) hy)
      have HMem := Aside0.mk (List.mem_of_getElem? hy)
      have hz0 := lt_of HO.out
      have n1 : (w.heap.size + 1 = wr.heap.size) = False := eq_false (by omega)
      have n2 : (wr.heap.size = w.heap.size + 1) = False := eq_false (by omega)
      have HN := Aside0.mk (heap_new wr (pO y))
      have HO1 := Aside0.mk (heap_old (o' := pO y) HO.out)
      have HZ1 := Aside0.mk (heap_old (o' := pO y) HZ.out)
      have HB1 := Aside0.mk (below_alloc HB.out (pO y))
      clear hy
      cases hacc : acc with
      | none =>
        subst hacc
        cases hq : p y with
        | true =>
          have HPq := Aside0.mk (fun W h => by have := HPp.out W y HMem.out h; rwa [hq] at this)
          have HS := Aside0.mk (show fstep p none y = some y by unfold fstep lstep; simp [hq])
          clear HPp hq
          go_wp2_with (first | (go_at_fn g; refine (HPq.out _ HB1.out).mono ?_; rintro e w3 ⟨rfl, hb⟩; have HN3 := Aside0.mk ((hb.block _ (lt_of HN.out)).trans HN.out); have HO3 := Aside0.mk ((hb.block _ (lt_of HO1.out)).trans HO1.out); have HZ3 := Aside0.mk ((hb.block _ (lt_of HZ1.out)).trans HZ1.out); have HB3 := Aside0.mk (below_step HB1.out hb); clear hb; have k0 : w3.cell? ⟨wr.heap.size, 0, none⟩ = some (.int .i64 y.f0) := cell_of HN3.out 0; have k1 : w3.cell? ⟨wr.heap.size, 1, none⟩ = some (.int .i64 y.f1) := cell_of HN3.out 1; have k2 : w3.cell? ⟨wr.heap.size, 2, none⟩ = some (.string y.f2) := cell_of HN3.out 2; have k3 : w3.frozen? ⟨w.heap.size + 1, 0, none⟩ = false := frozen_of HO3.out 0; have k4 : w3.frozen? ⟨w.heap.size + 1, 1, none⟩ = false := frozen_of HO3.out 1; have k5 : w3.frozen? ⟨w.heap.size + 1, 2, none⟩ = false := frozen_of HO3.out 2; have k6 : w3.cell? ⟨w.heap.size + 1, 0, none⟩ = some (.int .i64 (zP).f0) := cell_of HO3.out 0; have k7 : w3.cell? ⟨w.heap.size + 1, 1, none⟩ = some (.int .i64 (zP).f1) := cell_of HO3.out 1; have k8 : w3.cell? ⟨w.heap.size + 1, 2, none⟩ = some (.string (zP).f2) := cell_of HO3.out 2))
          go_roundg (xs.length - (k + 1))
          case measure => have := HM.out; omega
          case rel => exact ⟨k + 1, some y, rfl, by go_num, hlt, ⟨Nat.le_refl _⟩, ⟨by rw [HFS.out, ← HA.out]; exact HS.out.symm⟩, ⟨setCell_heap (setCell_heap (setCell_heap HO3.out _) _) _⟩, ⟨(Below.heap_setCell _ _ _ _ (show w.heap.size ≠ w.heap.size + 1 by omega)).trans ((Below.heap_setCell _ _ _ _ (show w.heap.size ≠ w.heap.size + 1 by omega)).trans ((Below.heap_setCell _ _ _ _ (show w.heap.size ≠ w.heap.size + 1 by omega)).trans HZ3.out))⟩, ⟨((HB3.out.setCell (p := ⟨w.heap.size + 1, 0, none⟩) (Nat.le_succ _) _).setCell (p := ⟨w.heap.size + 1, 1, none⟩) (Nat.le_succ _) _).setCell (p := ⟨w.heap.size + 1, 2, none⟩) (Nat.le_succ _) _⟩⟩
        | false =>
          have HPq := Aside0.mk (fun W h => by have := HPp.out W y HMem.out h; rwa [hq] at this)
          have HS := Aside0.mk (show fstep p none y = none by unfold fstep lstep; simp [hq])
          clear HPp hq
          go_wp2_with (first | (go_at_fn g; refine (HPq.out _ HB1.out).mono ?_; rintro e w3 ⟨rfl, hb⟩; have HN3 := Aside0.mk ((hb.block _ (lt_of HN.out)).trans HN.out); have HO3 := Aside0.mk ((hb.block _ (lt_of HO1.out)).trans HO1.out); have HZ3 := Aside0.mk ((hb.block _ (lt_of HZ1.out)).trans HZ1.out); have HB3 := Aside0.mk (below_step HB1.out hb); clear hb; have k0 : w3.cell? ⟨wr.heap.size, 0, none⟩ = some (.int .i64 y.f0) := cell_of HN3.out 0; have k1 : w3.cell? ⟨wr.heap.size, 1, none⟩ = some (.int .i64 y.f1) := cell_of HN3.out 1; have k2 : w3.cell? ⟨wr.heap.size, 2, none⟩ = some (.string y.f2) := cell_of HN3.out 2; have k3 : w3.frozen? ⟨w.heap.size + 1, 0, none⟩ = false := frozen_of HO3.out 0; have k4 : w3.frozen? ⟨w.heap.size + 1, 1, none⟩ = false := frozen_of HO3.out 1; have k5 : w3.frozen? ⟨w.heap.size + 1, 2, none⟩ = false := frozen_of HO3.out 2; have k6 : w3.cell? ⟨w.heap.size + 1, 0, none⟩ = some (.int .i64 (zP).f0) := cell_of HO3.out 0; have k7 : w3.cell? ⟨w.heap.size + 1, 1, none⟩ = some (.int .i64 (zP).f1) := cell_of HO3.out 1; have k8 : w3.cell? ⟨w.heap.size + 1, 2, none⟩ = some (.string (zP).f2) := cell_of HO3.out 2))
          go_roundg (xs.length - (k + 1))
          case measure => have := HM.out; omega
          case rel => exact ⟨k + 1, none, rfl, by go_num, hlt, ⟨Nat.le_refl _⟩, ⟨by rw [HFS.out, ← HA.out]; exact HS.out.symm⟩, ⟨HO3.out⟩, ⟨HZ3.out⟩, ⟨HB3.out⟩⟩
      | some q =>
        subst hacc
        have r0 : ∀ W : World, W.heap[w.heap.size + 1]? = some (pO q) → W.cell? ⟨w.heap.size + 1, 0, none⟩ = some (.int .i64 q.f0) ∧ W.cell? ⟨w.heap.size + 1, 1, none⟩ = some (.int .i64 q.f1) ∧ W.cell? ⟨w.heap.size + 1, 2, none⟩ = some (.string q.f2) := fun W h => ⟨cell_of h 0, cell_of h 1, cell_of h 2⟩
        obtain ⟨q0, q1, q2⟩ := r0 _ HO1.out
        unfold pO at q0 q1 q2
        clear r0
        by_cases hc : ltP y q
        · have hcz : cmpP y q < 0 := (cmpP_lt y q).2 hc
          cases hq : p y with
          | true =>
            have HPq := Aside0.mk (fun W h => by have := HPp.out W y HMem.out h; rwa [hq] at this)
            have HS := Aside0.mk (show fstep p (some q) y = some y by unfold fstep lstep; simp [hq, hc])
            clear HPp hq hc
            go_wp2_with (first | (go_at_call 33; refine (before_any y q _).mono ?_; rintro e w2 ⟨rfl, hb⟩; have HN2 := Aside0.mk ((hb.block _ (lt_of HN.out)).trans HN.out); have HO2 := Aside0.mk ((hb.block _ (lt_of HO1.out)).trans HO1.out); have HZ2 := Aside0.mk ((hb.block _ (lt_of HZ1.out)).trans HZ1.out); have HB2 := Aside0.mk (below_step HB1.out hb); clear hb; have k0 : w2.cell? ⟨wr.heap.size, 0, none⟩ = some (.int .i64 y.f0) := cell_of HN2.out 0; have k1 : w2.cell? ⟨wr.heap.size, 1, none⟩ = some (.int .i64 y.f1) := cell_of HN2.out 1; have k2 : w2.cell? ⟨wr.heap.size, 2, none⟩ = some (.string y.f2) := cell_of HN2.out 2; have k3 : w2.frozen? ⟨w.heap.size + 1, 0, none⟩ = false := frozen_of HO2.out 0; have k4 : w2.frozen? ⟨w.heap.size + 1, 1, none⟩ = false := frozen_of HO2.out 1; have k5 : w2.frozen? ⟨w.heap.size + 1, 2, none⟩ = false := frozen_of HO2.out 2; have k6 : w2.cell? ⟨w.heap.size + 1, 0, none⟩ = some (.int .i64 q.f0) := cell_of HO2.out 0; have k7 : w2.cell? ⟨w.heap.size + 1, 1, none⟩ = some (.int .i64 q.f1) := cell_of HO2.out 1; have k8 : w2.cell? ⟨w.heap.size + 1, 2, none⟩ = some (.string q.f2) := cell_of HO2.out 2) | (go_at_fn g; refine (HPq.out _ HB2.out).mono ?_; rintro e w3 ⟨rfl, hb⟩; have HN3 := Aside0.mk ((hb.block _ (lt_of HN2.out)).trans HN2.out); have HO3 := Aside0.mk ((hb.block _ (lt_of HO2.out)).trans HO2.out); have HZ3 := Aside0.mk ((hb.block _ (lt_of HZ2.out)).trans HZ2.out); have HB3 := Aside0.mk (below_step HB2.out hb); clear hb; have k0 : w3.cell? ⟨wr.heap.size, 0, none⟩ = some (.int .i64 y.f0) := cell_of HN3.out 0; have k1 : w3.cell? ⟨wr.heap.size, 1, none⟩ = some (.int .i64 y.f1) := cell_of HN3.out 1; have k2 : w3.cell? ⟨wr.heap.size, 2, none⟩ = some (.string y.f2) := cell_of HN3.out 2; have k3 : w3.frozen? ⟨w.heap.size + 1, 0, none⟩ = false := frozen_of HO3.out 0; have k4 : w3.frozen? ⟨w.heap.size + 1, 1, none⟩ = false := frozen_of HO3.out 1; have k5 : w3.frozen? ⟨w.heap.size + 1, 2, none⟩ = false := frozen_of HO3.out 2; have k6 : w3.cell? ⟨w.heap.size + 1, 0, none⟩ = some (.int .i64 q.f0) := cell_of HO3.out 0; have k7 : w3.cell? ⟨w.heap.size + 1, 1, none⟩ = some (.int .i64 q.f1) := cell_of HO3.out 1; have k8 : w3.cell? ⟨w.heap.size + 1, 2, none⟩ = some (.string q.f2) := cell_of HO3.out 2))
            go_roundg (xs.length - (k + 1))
            case measure => have := HM.out; omega
            case rel => exact ⟨k + 1, some y, rfl, by go_num, hlt, ⟨Nat.le_refl _⟩, ⟨by rw [HFS.out, ← HA.out]; exact HS.out.symm⟩, ⟨setCell_heap (setCell_heap (setCell_heap HO3.out _) _) _⟩, ⟨(Below.heap_setCell _ _ _ _ (show w.heap.size ≠ w.heap.size + 1 by omega)).trans ((Below.heap_setCell _ _ _ _ (show w.heap.size ≠ w.heap.size + 1 by omega)).trans ((Below.heap_setCell _ _ _ _ (show w.heap.size ≠ w.heap.size + 1 by omega)).trans HZ3.out))⟩, ⟨((HB3.out.setCell (p := ⟨w.heap.size + 1, 0, none⟩) (Nat.le_succ _) _).setCell (p := ⟨w.heap.size + 1, 1, none⟩) (Nat.le_succ _) _).setCell (p := ⟨w.heap.size + 1, 2, none⟩) (Nat.le_succ _) _⟩⟩
          | false =>
            have HPq := Aside0.mk (fun W h => by have := HPp.out W y HMem.out h; rwa [hq] at this)
            have HS := Aside0.mk (show fstep p (some q) y = some q by unfold fstep lstep; simp [hq, hc])
            clear HPp hq hc
            go_wp2_with (first | (go_at_call 33; refine (before_any y q _).mono ?_; rintro e w2 ⟨rfl, hb⟩; have HN2 := Aside0.mk ((hb.block _ (lt_of HN.out)).trans HN.out); have HO2 := Aside0.mk ((hb.block _ (lt_of HO1.out)).trans HO1.out); have HZ2 := Aside0.mk ((hb.block _ (lt_of HZ1.out)).trans HZ1.out); have HB2 := Aside0.mk (below_step HB1.out hb); clear hb; have k0 : w2.cell? ⟨wr.heap.size, 0, none⟩ = some (.int .i64 y.f0) := cell_of HN2.out 0; have k1 : w2.cell? ⟨wr.heap.size, 1, none⟩ = some (.int .i64 y.f1) := cell_of HN2.out 1; have k2 : w2.cell? ⟨wr.heap.size, 2, none⟩ = some (.string y.f2) := cell_of HN2.out 2; have k3 : w2.frozen? ⟨w.heap.size + 1, 0, none⟩ = false := frozen_of HO2.out 0; have k4 : w2.frozen? ⟨w.heap.size + 1, 1, none⟩ = false := frozen_of HO2.out 1; have k5 : w2.frozen? ⟨w.heap.size + 1, 2, none⟩ = false := frozen_of HO2.out 2; have k6 : w2.cell? ⟨w.heap.size + 1, 0, none⟩ = some (.int .i64 q.f0) := cell_of HO2.out 0; have k7 : w2.cell? ⟨w.heap.size + 1, 1, none⟩ = some (.int .i64 q.f1) := cell_of HO2.out 1; have k8 : w2.cell? ⟨w.heap.size + 1, 2, none⟩ = some (.string q.f2) := cell_of HO2.out 2) | (go_at_fn g; refine (HPq.out _ HB2.out).mono ?_; rintro e w3 ⟨rfl, hb⟩; have HN3 := Aside0.mk ((hb.block _ (lt_of HN2.out)).trans HN2.out); have HO3 := Aside0.mk ((hb.block _ (lt_of HO2.out)).trans HO2.out); have HZ3 := Aside0.mk ((hb.block _ (lt_of HZ2.out)).trans HZ2.out); have HB3 := Aside0.mk (below_step HB2.out hb); clear hb; have k0 : w3.cell? ⟨wr.heap.size, 0, none⟩ = some (.int .i64 y.f0) := cell_of HN3.out 0; have k1 : w3.cell? ⟨wr.heap.size, 1, none⟩ = some (.int .i64 y.f1) := cell_of HN3.out 1; have k2 : w3.cell? ⟨wr.heap.size, 2, none⟩ = some (.string y.f2) := cell_of HN3.out 2; have k3 : w3.frozen? ⟨w.heap.size + 1, 0, none⟩ = false := frozen_of HO3.out 0; have k4 : w3.frozen? ⟨w.heap.size + 1, 1, none⟩ = false := frozen_of HO3.out 1; have k5 : w3.frozen? ⟨w.heap.size + 1, 2, none⟩ = false := frozen_of HO3.out 2; have k6 : w3.cell? ⟨w.heap.size + 1, 0, none⟩ = some (.int .i64 q.f0) := cell_of HO3.out 0; have k7 : w3.cell? ⟨w.heap.size + 1, 1, none⟩ = some (.int .i64 q.f1) := cell_of HO3.out 1; have k8 : w3.cell? ⟨w.heap.size + 1, 2, none⟩ = some (.string q.f2) := cell_of HO3.out 2))
            go_roundg (xs.length - (k + 1))
            case measure => have := HM.out; omega
            case rel => exact ⟨k + 1, some q, rfl, by go_num, hlt, ⟨Nat.le_refl _⟩, ⟨by rw [HFS.out, ← HA.out]; exact HS.out.symm⟩, ⟨HO3.out⟩, ⟨HZ3.out⟩, ⟨HB3.out⟩⟩
        · have hcz : ¬ cmpP y q < 0 := fun h => hc ((cmpP_lt y q).1 h)
          have HS := Aside0.mk (show fstep p (some q) y = some q by unfold fstep lstep; simp [hc])
          clear HPp hc
          go_wp2_with (first | (go_at_call 33; refine (before_any y q _).mono ?_; rintro e w2 ⟨rfl, hb⟩; have HN2 := Aside0.mk ((hb.block _ (lt_of HN.out)).trans HN.out); have HO2 := Aside0.mk ((hb.block _ (lt_of HO1.out)).trans HO1.out); have HZ2 := Aside0.mk ((hb.block _ (lt_of HZ1.out)).trans HZ1.out); have HB2 := Aside0.mk (below_step HB1.out hb); clear hb; have k0 : w2.cell? ⟨wr.heap.size, 0, none⟩ = some (.int .i64 y.f0) := cell_of HN2.out 0; have k1 : w2.cell? ⟨wr.heap.size, 1, none⟩ = some (.int .i64 y.f1) := cell_of HN2.out 1; have k2 : w2.cell? ⟨wr.heap.size, 2, none⟩ = some (.string y.f2) := cell_of HN2.out 2; have k3 : w2.frozen? ⟨w.heap.size + 1, 0, none⟩ = false := frozen_of HO2.out 0; have k4 : w2.frozen? ⟨w.heap.size + 1, 1, none⟩ = false := frozen_of HO2.out 1; have k5 : w2.frozen? ⟨w.heap.size + 1, 2, none⟩ = false := frozen_of HO2.out 2; have k6 : w2.cell? ⟨w.heap.size + 1, 0, none⟩ = some (.int .i64 q.f0) := cell_of HO2.out 0; have k7 : w2.cell? ⟨w.heap.size + 1, 1, none⟩ = some (.int .i64 q.f1) := cell_of HO2.out 1; have k8 : w2.cell? ⟨w.heap.size + 1, 2, none⟩ = some (.string q.f2) := cell_of HO2.out 2))
          go_roundg (xs.length - (k + 1))
          case measure => have := HM.out; omega
          case rel => exact ⟨k + 1, some q, rfl, by go_num, hlt, ⟨Nat.le_refl _⟩, ⟨by rw [HFS.out, ← HA.out]; exact HS.out.symm⟩, ⟨HO2.out⟩, ⟨HZ2.out⟩, ⟨HB2.out⟩⟩
    · obtain rfl : k = xs.length := by omega
      have hltz : ¬ (xs.length : Int) < (xs.length : Int) := by omega
      have hacc : acc = leastS (xs.filter p) := by rw [HA.out, List.take_length]; exact HFo.out
      have hz0 := lt_of HO.out
      have n1 : (w.heap.size + 1 = w.heap.size) = False := eq_false (by omega)
      have n2 : (w.heap.size = w.heap.size + 1) = False := eq_false (by omega)
      have m0 : wr.cell? ⟨w.heap.size + 1, 0, none⟩ = some (.int .i64 (acc.getD zP).f0) := cell_of HO.out 0
      have m1 : wr.cell? ⟨w.heap.size + 1, 1, none⟩ = some (.int .i64 (acc.getD zP).f1) := cell_of HO.out 1
      have m2 : wr.cell? ⟨w.heap.size + 1, 2, none⟩ = some (.string (acc.getD zP).f2) := cell_of HO.out 2
      have k3 : wr.frozen? ⟨w.heap.size, 0, none⟩ = false := frozen_of HZ.out 0
      have k4 : wr.frozen? ⟨w.heap.size, 1, none⟩ = false := frozen_of HZ.out 1
      have k5 : wr.frozen? ⟨w.heap.size, 2, none⟩ = false := frozen_of HZ.out 2
      have j0 : wr.cell? ⟨w.heap.size, 0, none⟩ = some (.int .i64 0) := cell_of HZ.out 0
      have j1 : wr.cell? ⟨w.heap.size, 1, none⟩ = some (.int .i64 0) := cell_of HZ.out 1
      have j2 : wr.cell? ⟨w.heap.size, 2, none⟩ = some (.string ⟨#[]⟩) := cell_of HZ.out 2
      go_wp2
      subst hacc
      refine bodyPost_ret (results_ct rfl _ _ w.heap.size 27 #[.int .i64 ((leastS (xs.filter p)).getD zP).f0, .int .i64 ((leastS (xs.filter p)).getD zP).f1, .string ((leastS (xs.filter p)).getD zP).f2] (0, 0) _ rfl (setCell_heap (setCell_heap (setCell_heap HZ.out _) _) _) Try.underlying27 rfl (by kernel_rfl)) rfl ?_
      exact ⟨rfl, ((HB.out.setCell (p := ⟨w.heap.size, 0, none⟩) (Nat.le_refl _) _).setCell (p := ⟨w.heap.size, 1, none⟩) (Nat.le_refl _) _).setCell (p := ⟨w.heap.size, 2, none⟩) (Nat.le_refl _) _⟩
def idxF {α : Type} (p : α → Bool) (xs : List α) : Int := if xs.any p then (xs.findIdx p : Int) else -1
theorem idxF_nonneg {α : Type} (p : α → Bool) (xs : List α) : decide (idxF p xs ≥ 0) = xs.any p := by
  unfold idxF; cases h : xs.any p <;> simp
theorem any_take {α : Type} {p : α → Bool} {xs : List α} {k : Nat} {y : α} (hy : xs[k]? = some y) (h : ∀ x ∈ xs.take k, p x = false) (hp : p y = true) : idxF p xs = (k : Int) := by
  have hk : k < xs.length := (List.getElem?_eq_some_iff.1 hy).1
  have hyk : xs[k] = y := (List.getElem?_eq_some_iff.1 hy).2
  unfold idxF
  rw [if_pos (List.any_eq_true.2 ⟨y, List.mem_of_getElem? hy, hp⟩)]
  congr 1
  rw [List.findIdx_eq hk]
  refine ⟨by rw [hyk]; exact hp, fun j hj => ?_⟩
  have := h xs[j] (List.mem_take_iff_getElem.2 ⟨j, by omega, rfl⟩)
  simpa using this
theorem any_none {α : Type} {p : α → Bool} {xs : List α} (h : ∀ x ∈ xs.take xs.length, p x = false) : idxF p xs = -1 := by
  unfold idxF
  rw [if_neg]
  rw [List.any_eq_true]
  rintro ⟨x, hx, hp⟩
  rw [h x (by simpa using hx)] at hp
  cases hp
theorem take_step {α : Type} {p : α → Bool} {xs : List α} {k : Nat} {y : α} (hy : xs[k]? = some y) (h : ∀ x ∈ xs.take k, p x = false) (hp : p y = false) : ∀ x ∈ xs.take (k + 1), p x = false := by
  intro x hx
  rw [List.take_add_one, hy] at hx
  rcases List.mem_append.1 hx with h1 | h1
  · exact h x h1
  · simp at h1; subst h1; exact hp
def sv (s : S50) : Value := .agg #[.int .i64 s.f0, .int .i64 s.f1, .string s.f2.f0, .string s.f2.f1, .bool s.f2.f2]
set_option maxHeartbeats 4000000 in
set_option maxRecDepth 100000 in
theorem idxf_span (p : S50 → Bool) (g : Nat) (lb : Array Value) (eg : ∀ args w, (callFunc g args).run Try.prog w = .ok (.enter g args) w) (A : Option Addr) (xs : List S50) (c : Nat) (w : World) (hC : Kd.C k50 w A xs.length xs)
    (hp : ∀ (W : World) (x : S50), x ∈ xs → Below w.heap.size w W → Calls Try.prog g (#[sv x] ++ lb) W fun e w' => e = .returned (.bool (p x)) ∧ Below W.heap.size W w') :
    Calls Try.prog 36 #[.slice A xs.length c, .func (.func g) #[] lb] w fun e w' => e = .returned (.int .i64 (idxF p xs)) ∧ Below w.heap.size w w' := by
  have HC := Aside0.mk hC
  have hmax : xs.length ≤ 9223372036854775807 := hC.2.1
  clear hC
  go_enter Try.func36, Try.ntmps36
  go_wp2
  go_loopg [5, 8] xs.length (fun gg _ s8 wr => ∃ kk : Nat, s8 = .int .i64 kk ∧ Aside0 (kk ≤ xs.length) ∧ Aside0 (xs.length - kk ≤ gg) ∧ Aside0 (Below w.heap.size w wr) ∧ Aside0 (∀ x ∈ xs.take kk, p x = false))
  case atStart => exact ⟨0, rfl, ⟨Nat.zero_le _⟩, ⟨by omega⟩, ⟨Below.refl _ w⟩, ⟨fun x hx => by simp at hx⟩⟩
  case round =>
    obtain ⟨kk, rfl, HK, HM, HB, HN⟩ := hrel
    have hkk := HK.out
    by_cases hlt : kk < xs.length
    · have hltz : (kk : Int) < (xs.length : Int) := by omega
      obtain ⟨ad, e, hx0, hx1, hx2, hx3, hx4⟩ := at_T50 HC.out (kk : Int) (by omega) hltz
      subst e
      obtain ⟨y, hy⟩ := ex_get hlt
      rw [rd50 hy] at hx0 hx1 hx2 hx3 hx4
      simp only [Int.toNat_natCast] at hx0 hx1 hx2 hx3 hx4
      replace hx0 := (HB.out.cell (World.block_lt_of_cell? w _ hx0)).trans hx0
      replace hx1 := (HB.out.cell (World.block_lt_of_cell? w _ hx1)).trans hx1
      replace hx2 := (HB.out.cell (World.block_lt_of_cell? w _ hx2)).trans hx2
      replace hx3 := (HB.out.cell (World.block_lt_of_cell? w _ hx3)).trans hx3
      replace hx4 := (HB.out.cell (World.block_lt_of_cell? w _ hx4)).trans hx4
      have HY := Aside0.mk hy
      have hcall := hp wr y (List.mem_of_getElem? hy) HB.out
      unfold sv at hcall
      clear hy hp
      cases hq : p y with
      | true =>
        rw [hq] at hcall
        go_wp2_with (go_at_fn g; refine hcall.mono ?_; rintro e w' ⟨rfl, hb'⟩)
        go_ret
        exact ⟨by rw [any_take HY.out HN.out hq]; rfl, below_step HB.out hb'⟩
      | false =>
        rw [hq] at hcall
        go_wp2_with (go_at_fn g; refine hcall.mono ?_; rintro e w' ⟨rfl, hb'⟩)
        go_roundg (xs.length - (kk + 1))
        case measure => have := HM.out; omega
        case rel => exact ⟨kk + 1, by go_num, ⟨by omega⟩, ⟨Nat.le_refl _⟩, ⟨below_step HB.out hb'⟩, ⟨take_step HY.out HN.out hq⟩⟩
    · obtain rfl : kk = xs.length := by omega
      have hltz : ¬ (xs.length : Int) < (xs.length : Int) := by omega
      go_wp2
      go_ret
      exact ⟨by rw [any_none HN.out]; rfl, HB.out⟩
set_option maxHeartbeats 4000000 in
set_option maxRecDepth 100000 in
theorem idxf_point (p : S27 → Bool) (g : Nat) (lb : Array Value) (eg : ∀ args w, (callFunc g args).run Try.prog w = .ok (.enter g args) w) (A : Option Addr) (xs : List S27) (c : Nat) (w : World) (hC : Kd.C k27 w A xs.length xs)
    (hp : ∀ (W : World) (x : S27), x ∈ xs → Below w.heap.size w W → Calls Try.prog g (#[pv x] ++ lb) W fun e w' => e = .returned (.bool (p x)) ∧ Below W.heap.size W w') :
    Calls Try.prog 38 #[.slice A xs.length c, .func (.func g) #[] lb] w fun e w' => e = .returned (.int .i64 (idxF p xs)) ∧ Below w.heap.size w w' := by
  have HC := Aside0.mk hC
  have hmax : xs.length ≤ 9223372036854775807 := hC.2.1
  clear hC
  go_enter Try.func38, Try.ntmps38
  go_wp2
  go_loopg [5, 8] xs.length (fun gg _ s8 wr => ∃ kk : Nat, s8 = .int .i64 kk ∧ Aside0 (kk ≤ xs.length) ∧ Aside0 (xs.length - kk ≤ gg) ∧ Aside0 (Below w.heap.size w wr) ∧ Aside0 (∀ x ∈ xs.take kk, p x = false))
  case atStart => exact ⟨0, rfl, ⟨Nat.zero_le _⟩, ⟨by omega⟩, ⟨Below.refl _ w⟩, ⟨fun x hx => by simp at hx⟩⟩
  case round =>
    obtain ⟨kk, rfl, HK, HM, HB, HN⟩ := hrel
    have hkk := HK.out
    by_cases hlt : kk < xs.length
    · have hltz : (kk : Int) < (xs.length : Int) := by omega
      obtain ⟨ad, e, hx0, hx1, hx2⟩ := at_T27 HC.out (kk : Int) (by omega) hltz
      subst e
      obtain ⟨y, hy⟩ := ex_get hlt
      rw [rd27 hy] at hx0 hx1 hx2
      simp only [Int.toNat_natCast] at hx0 hx1 hx2
      replace hx0 := (HB.out.cell (World.block_lt_of_cell? w _ hx0)).trans hx0
      replace hx1 := (HB.out.cell (World.block_lt_of_cell? w _ hx1)).trans hx1
      replace hx2 := (HB.out.cell (World.block_lt_of_cell? w _ hx2)).trans hx2
      have HY := Aside0.mk hy
      have hcall := hp wr y (List.mem_of_getElem? hy) HB.out
      unfold pv at hcall
      clear hy hp
      cases hq : p y with
      | true =>
        rw [hq] at hcall
        go_wp2_with (go_at_fn g; refine hcall.mono ?_; rintro e w' ⟨rfl, hb'⟩)
        go_ret
        exact ⟨by rw [any_take HY.out HN.out hq]; rfl, below_step HB.out hb'⟩
      | false =>
        rw [hq] at hcall
        go_wp2_with (go_at_fn g; refine hcall.mono ?_; rintro e w' ⟨rfl, hb'⟩)
        go_roundg (xs.length - (kk + 1))
        case measure => have := HM.out; omega
        case rel => exact ⟨kk + 1, by go_num, ⟨by omega⟩, ⟨Nat.le_refl _⟩, ⟨below_step HB.out hb'⟩, ⟨take_step HY.out HN.out hq⟩⟩
    · obtain rfl : kk = xs.length := by omega
      have hltz : ¬ (xs.length : Int) < (xs.length : Int) := by omega
      go_wp2
      go_ret
      exact ⟨by rw [any_none HN.out]; rfl, HB.out⟩
theorem contf_span (p : S50 → Bool) (g : Nat) (lb : Array Value) (eg : ∀ args w, (callFunc g args).run Try.prog w = .ok (.enter g args) w) (A : Option Addr) (xs : List S50) (c : Nat) (w : World) (hC : Kd.C k50 w A xs.length xs)
    (hp : ∀ (W : World) (x : S50), x ∈ xs → Below w.heap.size w W → Calls Try.prog g (#[sv x] ++ lb) W fun e w' => e = .returned (.bool (p x)) ∧ Below W.heap.size W w') :
    Calls Try.prog 23 #[.slice A xs.length c, .func (.func g) #[] lb] w fun e w' => e = .returned (.bool (xs.any p)) ∧ Below w.heap.size w w' := by
  have hi := idxf_span p g lb eg A xs c w hC hp
  clear hp hC
  go_enter Try.func23, Try.ntmps23
  go_wp2_with (go_at_call 36; refine hi.mono ?_; rintro e w' ⟨rfl, hb⟩)
  go_ret
  exact ⟨by rw [← idxF_nonneg]; rfl, hb⟩
theorem chas_any (r : S48) (key : ByteArray) (w : World) : Calls Try.prog 25 #[.agg #[.string r.f0, .string r.f1, .bool r.f2], .string key] w fun e w' => e = .returned (.bool (hasB r key)) ∧ Below w.heap.size w w' :=
  code_Has.calls _ _ _ _ _ w (chas_eq r key)
theorem contains_any (L : List S27) (A : Option Addr) (c : Nat) (p : S27) (w : World) (hC : Kd.C k27 w A L.length L) (hc : L.length ≤ c) (hl : L.length < 4611686018427387904) :
    Calls Try.prog 22 #[.slice A L.length c, pv p] w fun e w' => e = .returned (.bool (L.any (eqP p))) ∧ Below w.heap.size w w' := by
  obtain ⟨k, hk⟩ := (contains_ev L p hl).ex
  exact api_Point_22.calls k A c L _ _ _ _ w hC hc hk
set_option maxHeartbeats 4000000 in
theorem reads1_any (s : S50) (p : S27) (b : Nat) (w : World) (hb : w.heap[b]? = some (pO p)) :
    Calls Try.prog 24 (#[sv s] ++ #[.pointer (some ⟨b, 0, none⟩)]) w fun e w' => e = .returned (.bool (spanB p s)) ∧ Below w.heap.size w w' := by
  have h0 : w.cell? ⟨b, 0, none⟩ = some (.int .i64 p.f0) := cell_of hb 0
  have h1 : w.cell? ⟨b, 1, none⟩ = some (.int .i64 p.f1) := cell_of hb 1
  have h2 : w.cell? ⟨b, 2, none⟩ = some (.string p.f2) := cell_of hb 2
  have hlt := lt_of hb
  have n1 : (b = w.heap.size) = False := eq_false (by omega)
  clear hb
  unfold sv
  by_cases e0 : s.f0 = p.f0
  · by_cases e1 : s.f1 = p.f1
    · have hh := fun W => chas_any s.f2 p.f2 W
      have hs : spanB p s = hasB s.f2 p.f2 := by unfold spanB; simp [e0, e1]
      rw [hs]
      go_enter Try.func24, Try.ntmps24
      go_wp2_with (go_at_call 25; refine (hh _).mono ?_; rintro e w' ⟨rfl, hB⟩)
      go_ret
      exact ⟨rfl, below_step (below_alloc (Below.refl _ _) _) hB⟩
    · have hs : spanB p s = false := by unfold spanB; simp [e0, e1]
      have e1b : (s.f1 == p.f1) = false := by simpa using e1
      rw [hs]
      go_enter Try.func24, Try.ntmps24
      go_wp2
      go_ret
      exact ⟨rfl, below_alloc (Below.refl _ _) _⟩
  · have hs : spanB p s = false := by unfold spanB; simp [e0]
    have e0b : (s.f0 == p.f0) = false := by simpa using e0
    rw [hs]
    go_enter Try.func24, Try.ntmps24
    go_wp2
    go_ret
    exact ⟨rfl, below_alloc (Below.refl _ _) _⟩
theorem enter24 : ∀ args w, (callFunc 24 args).run Try.prog w = .ok (.enter 24 args) w := fun args w => by simp [go_sem]
set_option maxHeartbeats 4000000 in
theorem reads_any (ps : List S27) (ss : List S50) (A0 A1 A2 : Option Addr) (n2 c0 c1 c2 : Nat) (p : S27) (w : World) (h0 : Kd.C k27 w A0 ps.length ps) (hc0 : ps.length ≤ c0) (h1 : Kd.C k50 w A1 ss.length ss) (hc1 : ss.length ≤ c1) (hl : ps.length < 4611686018427387904) :
    Calls Try.prog 9 #[.agg #[.slice A0 ps.length c0, .slice A1 ss.length c1, .slice A2 n2 c2], pv p] w fun e w' => e = .returned (.bool (readsS ps ss p)) ∧ Below w.heap.size w w' := by
  generalize hW : (w.alloc (.cells #[.slice A0 ps.length c0, .slice A1 ss.length c1, .slice A2 n2 c2] 25)).alloc (pO p) = W
  have hB : Below w.heap.size w W := by rw [← hW]; exact below_alloc (below_alloc (Below.refl _ _) _) _
  have g0 : W.heap[w.heap.size]? = some (.cells #[.slice A0 ps.length c0, .slice A1 ss.length c1, .slice A2 n2 c2] 25) := by rw [← hW]; exact heap_old (heap_new _ _)
  have g1 : W.heap[w.heap.size + 1]? = some (pO p) := by rw [← hW]; have := heap_new (w.alloc (.cells #[.slice A0 ps.length c0, .slice A1 ss.length c1, .slice A2 n2 c2] 25)) (pO p); rw [size_new] at this; exact this
  have hcon := contains_any ps A0 c0 p W (Kd.C_below h0 hB) hc0 hl
  have HW := Aside0.mk hW
  have HB := Aside0.mk hB
  have HC1 := Aside0.mk h1
  have HG0 := Aside0.mk g0
  have HG1 := Aside0.mk g1
  unfold pO at HW
  clear hW hB h0 h1 g0 g1
  unfold pv at hcon ⊢
  cases hq : ps.any (eqP p) with
  | true =>
    rw [hq] at hcon
    have hs : readsS ps ss p = true := by unfold readsS; rw [hq, Bool.true_or]
    rw [hs]
    clear hq hs
    go_enter Try.func9, Try.ntmps9
    go_wp2_with (go_at_call 22; rw [HW.out]; refine hcon.mono ?_; rintro e w' ⟨rfl, hb⟩)
    go_ret
    exact ⟨rfl, below_step HB.out hb⟩
  | false =>
    rw [hq] at hcon
    have hs : readsS ps ss p = ss.any (spanB p) := by unfold readsS; rw [hq, Bool.false_or]
    rw [hs]
    clear hq hs
    go_enter Try.func9, Try.ntmps9
    go_wp2_with (first | (go_at_call 22; rw [HW.out]; refine hcon.mono ?_; rintro e w3 ⟨rfl, hb⟩; have hb3 := Aside0.mk hb; have j1 : w3.cell? ⟨w.heap.size, 1, none⟩ = some (.slice A1 ss.length c1) := cell_of ((hb.block _ (lt_of HG0.out)).trans HG0.out) 1; clear hb) | (go_at_call 23; refine (contf_span (spanB p) 24 #[.pointer (some ⟨w.heap.size + 1, 0, none⟩)] enter24 A1 ss c1 _ (Kd.C_below HC1.out (below_step HB.out hb3.out)) (fun V x _ hV => reads1_any x p _ V ((hV.block _ (Nat.lt_of_lt_of_le (lt_of HG1.out) hb3.out.size)).trans ((hb3.out.block _ (lt_of HG1.out)).trans HG1.out)))).mono ?_; rintro e w4 ⟨rfl, hb4⟩; have HB4 := Aside0.mk hb4; clear hb4))
    go_ret
    exact ⟨rfl, below_step (below_step HB.out hb3.out) HB4.out⟩
/-- What lies behind a call of Clash or Both in memory. -/
structure Lay (w wr : World) (f0 f1 : Array Value) (nn : Nat) (L : List S27) : Prop where
  x0 : wr.heap[w.heap.size]? = some (.cells f0 25)
  x1 : wr.heap[w.heap.size + 1]? = some (.cells f1 25)
  x2 : wr.heap[w.heap.size + 1 + 1]? = some (pO zP)
  x3 : PM wr (w.heap.size + 1 + 1 + 1) nn L
  x4 : wr.heap[w.heap.size + 1 + 1 + 1 + 1]? = some (.cells #[.map (some (w.heap.size + 1 + 1 + 1))] 36)
  bel : Below w.heap.size w wr
theorem Lay.below {w wr W : World} {f0 f1 : Array Value} {nn : Nat} {L : List S27} (h : Lay w wr f0 f1 nn L) (hb : Below wr.heap.size wr W) : Lay w W f0 f1 nn L :=
  ⟨(hb.block _ (lt_of h.x0)).trans h.x0, (hb.block _ (lt_of h.x1)).trans h.x1, (hb.block _ (lt_of h.x2)).trans h.x2, h.x3.below hb, (hb.block _ (lt_of h.x4)).trans h.x4, below_step h.bel hb⟩
theorem Lay.put {w wr : World} {f0 f1 : Array Value} {nn : Nat} {L : List S27} (h : Lay w wr f0 f1 nn L) (hn : nn < maxLen) {x : S27} (hx : wfP x) :
    ∃ w', (Instr.mapUpdate 36 (.map (some (w.heap.size + 1 + 1 + 1))) (pv x) (.agg #[])).run Try.prog wr = .ok () w' ∧ Lay w w' f0 f1 (nn + 1) (L ++ [x]) := by
  obtain ⟨w', hrun, hP, hg⟩ := h.x3.put hn hx
  have hz := lt_of h.x4
  have hk : ∀ j, j < wr.heap.size → j ≠ w.heap.size + 1 + 1 + 1 → w'.heap[j]? = wr.heap[j]? := fun j hj hne => hg.block j hj (fun e => hne (Option.some.inj e))
  exact ⟨w', hrun, (hk _ (by omega) (by omega)).trans h.x0, (hk _ (by omega) (by omega)).trans h.x1, (hk _ (by omega) (by omega)).trans h.x2, hP, (hk _ (by omega) (by omega)).trans h.x4,
    h.bel.grown hg h.bel.size (fun k hk => by injection hk with hk; omega)⟩
theorem lay_new (w : World) (f0 f1 : Array Value) : Lay w (((((w.alloc (.cells f0 25)).alloc (.cells f1 25)).alloc (pO zP)).alloc (.map #[] 0)).alloc (.cells #[.map (some (w.heap.size + 1 + 1 + 1))] 36)) f0 f1 0 [] := by
  have s1 := size_new w (.cells f0 25)
  have s2 := size_new (w.alloc (.cells f0 25)) (.cells f1 25)
  have s3 := size_new ((w.alloc (.cells f0 25)).alloc (.cells f1 25)) (pO zP)
  have s4 := size_new (((w.alloc (.cells f0 25)).alloc (.cells f1 25)).alloc (pO zP)) (.map #[] 0)
  have h1 := heap_new (w.alloc (.cells f0 25)) (.cells f1 25)
  have h2 := heap_new ((w.alloc (.cells f0 25)).alloc (.cells f1 25)) (pO zP)
  have h3 := PM.new (((w.alloc (.cells f0 25)).alloc (.cells f1 25)).alloc (pO zP))
  have h4 := heap_new ((((w.alloc (.cells f0 25)).alloc (.cells f1 25)).alloc (pO zP)).alloc (.map #[] 0)) (.cells #[.map (some (w.heap.size + 1 + 1 + 1))] 36)
  rw [s1] at h1 s2
  rw [s2] at h2 s3
  rw [s3] at h3 s4
  rw [s4] at h4
  exact ⟨heap_old (heap_old (heap_old (heap_old (heap_new _ _)))), heap_old (heap_old (heap_old h1)), heap_old (heap_old h2), h3.below (below_alloc (Below.refl _ _) _), h4, below_alloc (below_alloc (below_alloc (below_alloc (below_alloc (Below.refl _ _) _) _) _) _) _⟩
theorem C_nil27 (w : World) : Kd.C k27 w none ([] : List S27).length [] := (Kd.R_reads' (Kd.R_nil k27 27 w 0 (fun _ => True))).2.2
set_option maxHeartbeats 4000000 in
theorem clash1_any (ps : List S27) (ss : List S50) (p : S27) (mv m nn sb : Nat) (A1 : Option Addr) (c1 : Nat) (w : World) (hp : wfP p) (hM : PM w m nn ps) (hv : w.heap[mv]? = some (.cells #[.map (some m)] 36)) (hs : w.heap[sb]? = some (.cells #[.slice none 0 0, .slice A1 ss.length c1, .slice none 0 0] 25)) (h1 : Kd.C k50 w A1 ss.length ss) (hc1 : ss.length ≤ c1) :
    Calls Try.prog 16 (#[pv p] ++ #[.pointer (some ⟨mv, 0, none⟩), .pointer (some ⟨sb, 0, none⟩)]) w fun e w' => e = .returned (.bool (readsS ps ss p)) ∧ Below w.heap.size w w' := by
  have hlook := (hM.below (below_alloc (Below.refl _ _) (pO p))).look hp
  have v0 : w.cell? ⟨mv, 0, none⟩ = some (.map (some m)) := cell_of hv 0
  have s0 : w.cell? ⟨sb, 0, none⟩ = some (.slice none 0 0) := cell_of hs 0
  have s1 : w.cell? ⟨sb, 1, none⟩ = some (.slice A1 ss.length c1) := cell_of hs 1
  have s2 : w.cell? ⟨sb, 2, none⟩ = some (.slice none 0 0) := cell_of hs 2
  have l1 := lt_of hv
  have l2 := lt_of hs
  have n1 : (mv = w.heap.size) = False := eq_false (by omega)
  have n2 : (sb = w.heap.size) = False := eq_false (by omega)
  have n3 : (sb = w.heap.size + 1) = False := eq_false (by omega)
  have n4 : (w.heap.size = w.heap.size + 1) = False := eq_false (by omega)
  have HC1 := Aside0.mk h1
  clear hM hv hs h1
  unfold pv pO at hlook
  unfold pv
  cases hq : ps.any (eqP p) with
  | true =>
    rw [hq] at hlook
    have hr : readsS ps ss p = true := by unfold readsS; rw [hq, Bool.true_or]
    rw [hr]
    clear hq hr
    go_enter Try.func16, Try.ntmps16
    go_wp2
    go_ret
    exact ⟨rfl, below_alloc (below_alloc (Below.refl _ _) _) _⟩
  | false =>
    rw [hq] at hlook
    have hr : readsS ps ss p = readsS [] ss p := by unfold readsS; rw [hq]; rfl
    rw [hr]
    clear hq hr
    go_enter Try.func16, Try.ntmps16
    go_wp2_with (go_at_call 9; refine (reads_any [] ss none A1 none 0 0 c1 0 p _ (C_nil27 _) (Nat.le_refl _) (Kd.C_below HC1.out (below_alloc (below_alloc (Below.refl _ _) _) _)) hc1 (by decide)).mono ?_; rintro e w3 ⟨rfl, hb⟩; have HB := Aside0.mk hb; clear hb)
    go_ret
    exact ⟨rfl, below_step (below_alloc (below_alloc (Below.refl _ _) _) _) HB.out⟩
set_option maxHeartbeats 4000000 in
theorem both1_any (qs : List S27) (p : S27) (mv m nn : Nat) (w : World) (hp : wfP p) (hM : PM w m nn qs) (hv : w.heap[mv]? = some (.cells #[.map (some m)] 36)) :
    Calls Try.prog 19 (#[pv p] ++ #[.pointer (some ⟨mv, 0, none⟩)]) w fun e w' => e = .returned (.bool (qs.any (eqP p) && p.f1 == -1)) ∧ Below w.heap.size w w' := by
  have hlook := (hM.below (below_alloc (Below.refl _ _) (pO p))).look hp
  have v0 : w.cell? ⟨mv, 0, none⟩ = some (.map (some m)) := cell_of hv 0
  have l1 := lt_of hv
  have n1 : (mv = w.heap.size) = False := eq_false (by omega)
  have n4 : (w.heap.size = w.heap.size + 1) = False := eq_false (by omega)
  clear hM hv
  unfold pv pO at hlook
  unfold pv
  cases hq : qs.any (eqP p) with
  | true =>
    rw [hq] at hlook
    clear hq
    rw [Bool.true_and]
    go_enter Try.func19, Try.ntmps19
    go_wp2
    go_ret
    exact ⟨rfl, below_alloc (below_alloc (Below.refl _ _) _) _⟩
  | false =>
    rw [hq] at hlook
    clear hq
    rw [Bool.false_and]
    go_enter Try.func19, Try.ntmps19
    go_wp2
    go_ret
    exact ⟨rfl, below_alloc (below_alloc (Below.refl _ _) _) _⟩
theorem enter16 : ∀ args w, (callFunc 16 args).run Try.prog w = .ok (.enter 16 args) w := fun args w => by simp [go_sem]
theorem enter19 : ∀ args w, (callFunc 19 args).run Try.prog w = .ok (.enter 19 args) w := fun args w => by simp [go_sem]
set_option maxHeartbeats 8000000 in
set_option maxRecDepth 100000 in
theorem clash_any (ps : List S27) (ss : List S50) (ws : List S27) (A0 A1 A2 B0 B1 B2 : Option Addr) (n2 m0 m1 c0 c1 c2 d0 d1 d2 : Nat) (w : World) (h0 : Kd.C k27 w A0 ps.length ps) (hc0 : ps.length ≤ c0) (h1 : Kd.C k50 w A1 ss.length ss) (hc1 : ss.length ≤ c1) (h2 : Kd.C k27 w B2 ws.length ws) (hd2 : ws.length ≤ d2)
    (hl : ps.length < 4398046511104) (hwp : ∀ x ∈ ps, wfP x) (hww : ∀ x ∈ ws, wfP x) :
    Calls Try.prog 4 #[.agg #[.slice A0 ps.length c0, .slice A1 ss.length c1, .slice A2 n2 c2], .agg #[.slice B0 m0 d0, .slice B1 m1 d1, .slice B2 ws.length d2]] w fun e w' => e = .returned (.tuple #[pv ((leastS (ws.filter (readsS ps ss))).getD zP), .bool (leastS (ws.filter (readsS ps ss))).isSome]) ∧ Below w.heap.size w w' := by
  have hmm := @run_makeMap Try.prog
  have HC0 := Aside0.mk h0
  have HC1 := Aside0.mk h1
  have HC2 := Aside0.mk h2
  have HWp := Aside0.mk hwp
  have HWw := Aside0.mk hww
  clear h0 h1 h2 hwp hww
  go_enter Try.func4, Try.ntmps4
  go_wp2
  have HL0 := Aside0.mk (lay_new w #[.slice A0 ps.length c0, .slice A1 ss.length c1, .slice A2 n2 c2] #[.slice B0 m0 d0, .slice B1 m1 d1, .slice B2 ws.length d2])
  go_loopg [14] ps.length (fun gg s14 wr => ∃ k : Nat, s14 = .int .i64 k ∧ k ≤ ps.length ∧ Aside0 (ps.length - k ≤ gg) ∧ Aside0 (Lay w wr #[.slice A0 ps.length c0, .slice A1 ss.length c1, .slice A2 n2 c2] #[.slice B0 m0 d0, .slice B1 m1 d1, .slice B2 ws.length d2] k (ps.take k)))
  case atStart => exact ⟨0, rfl, Nat.zero_le _, ⟨by omega⟩, ⟨HL0.out⟩⟩
  case round =>
    clear HL0
    obtain ⟨k, rfl, hk, HM, HL⟩ := hrel
    by_cases hlt : k < ps.length
    · have hltz : (k : Int) < (ps.length : Int) := by omega
      obtain ⟨ad, ea, a0, a1, a2⟩ := at_T27 HC0.out (k : Int) (by omega) hltz
      subst ea
      obtain ⟨y, hy⟩ := ex_get hlt
      rw [rd27 hy] at a0 a1 a2
      simp only [Int.toNat_natCast] at a0 a1 a2
      replace a0 := (HL.out.bel.cell (World.block_lt_of_cell? _ _ a0)).trans a0
      replace a1 := (HL.out.bel.cell (World.block_lt_of_cell? _ _ a1)).trans a1
      replace a2 := (HL.out.bel.cell (World.block_lt_of_cell? _ _ a2)).trans a2
      obtain ⟨w3, hrun, hL3⟩ := (HL.out.below (below_alloc (Below.refl _ _) (pO y))).put (by unfold maxLen; omega) (HWp.out y (List.mem_of_getElem? hy))
      rw [← take_snoc hy] at hL3
      have HL3 := Aside0.mk hL3
      have x4 : wr.cell? ⟨w.heap.size + 1 + 1 + 1 + 1, 0, none⟩ = some (.map (some (w.heap.size + 1 + 1 + 1))) := cell_of HL.out.x4 0
      have hz := lt_of HL.out.x4
      have n1 : (w.heap.size + 1 + 1 + 1 + 1 = wr.heap.size) = False := eq_false (by omega)
      unfold pv pO at hrun
      clear hy hL3
      go_wp2
      go_roundg (ps.length - (k + 1))
      case measure => have := HM.out; omega
      case rel => exact ⟨k + 1, by go_num, hlt, ⟨Nat.le_refl _⟩, HL3⟩
    · obtain rfl : k = ps.length := by omega
      have hltz : ¬ (ps.length : Int) < (ps.length : Int) := by omega
      have hL := HL.out
      rw [List.take_length] at hL
      have HLz := Aside0.mk hL
      clear hL
      have x01 : wr.cell? ⟨w.heap.size, 1, none⟩ = some (.slice A1 ss.length c1) := cell_of HLz.out.x0 1
      have x12 : wr.cell? ⟨w.heap.size + 1, 2, none⟩ = some (.slice B2 ws.length d2) := cell_of HLz.out.x1 2
      have hz := lt_of HLz.out.x4
      have n1 : (w.heap.size + 1 = wr.heap.size) = False := eq_false (by omega)
      have HNs := Aside0.mk (heap_new wr (.cells #[.slice none 0 0, .slice A1 ss.length c1, .slice none 0 0] 25))
      have HLn := Aside0.mk (HLz.out.below (below_alloc (Below.refl _ _) (.cells #[.slice none 0 0, .slice A1 ss.length c1, .slice none 0 0] 25)))
      have HLe := Aside0.mk (least_any (readsS ps ss) 16 #[.pointer (some ⟨w.heap.size + 1 + 1 + 1 + 1, 0, none⟩), .pointer (some ⟨wr.heap.size, 0, none⟩)] enter16 B2 ws d2 (wr.alloc (.cells #[.slice none 0 0, .slice A1 ss.length c1, .slice none 0 0] 25)) (Kd.C_below HC2.out HLn.out.bel)
        (fun V x hx hV => clash1_any ps ss x _ _ _ _ A1 c1 V (HWw.out x hx) (HLn.out.below hV).x3 (HLn.out.below hV).x4 ((hV.block _ (lt_of HNs.out)).trans HNs.out) (Kd.C_below HC1.out (HLn.out.below hV).bel) hc1))
      have xn : (wr.alloc (.cells #[.slice none 0 0, .slice A1 ss.length c1, .slice none 0 0] 25)).cell? ⟨w.heap.size + 1, 2, none⟩ = some (.slice B2 ws.length d2) := cell_of HLn.out.x1 2
      go_wp2_with (go_at_call 15; refine HLe.out.mono ?_; rintro e w5 ⟨rfl, hb⟩; have HB5 := Aside0.mk hb; have HL5 := Aside0.mk (HLn.out.below hb); clear hb; have j0 : w5.cell? ⟨w.heap.size + 1 + 1, 0, none⟩ = some (.int .i64 0) := cell_of HL5.out.x2 0; have j1 : w5.cell? ⟨w.heap.size + 1 + 1, 1, none⟩ = some (.int .i64 0) := cell_of HL5.out.x2 1; have j2 : w5.cell? ⟨w.heap.size + 1 + 1, 2, none⟩ = some (.string ⟨#[]⟩) := cell_of HL5.out.x2 2; have k3 : w5.frozen? ⟨w.heap.size + 1 + 1, 0, none⟩ = false := frozen_of HL5.out.x2 0; have k4 : w5.frozen? ⟨w.heap.size + 1 + 1, 1, none⟩ = false := frozen_of HL5.out.x2 1; have k5 : w5.frozen? ⟨w.heap.size + 1 + 1, 2, none⟩ = false := frozen_of HL5.out.x2 2; unfold pv)
      refine bodyPost_ret (results_ct rfl _ _ (w.heap.size + 1 + 1) 27 #[.int .i64 ((leastS (ws.filter (readsS ps ss))).getD zP).f0, .int .i64 ((leastS (ws.filter (readsS ps ss))).getD zP).f1, .string ((leastS (ws.filter (readsS ps ss))).getD zP).f2] (0, 0) _ rfl (setCell_heap (setCell_heap (setCell_heap HL5.out.x2 _) _) _) Try.underlying27 rfl (by kernel_rfl)) rfl ?_
      exact ⟨rfl, ((HL5.out.bel.setCell (p := ⟨w.heap.size + 1 + 1, 0, none⟩) (by show w.heap.size ≤ w.heap.size + 1 + 1; omega) _).setCell (p := ⟨w.heap.size + 1 + 1, 1, none⟩) (by show w.heap.size ≤ w.heap.size + 1 + 1; omega) _).setCell (p := ⟨w.heap.size + 1 + 1, 2, none⟩) (by show w.heap.size ≤ w.heap.size + 1 + 1; omega) _⟩
set_option maxHeartbeats 8000000 in
set_option maxRecDepth 100000 in
theorem both_any (ws qs : List S27) (A0 A1 A2 B0 B1 B2 : Option Addr) (n0 n1_ m0 m1 c0 c1 c2 d0 d1 d2 : Nat) (w : World) (h0 : Kd.C k27 w A2 ws.length ws) (hc0 : ws.length ≤ c2) (h2 : Kd.C k27 w B2 qs.length qs) (hd2 : qs.length ≤ d2)
    (hl : qs.length < 4398046511104) (hwp : ∀ x ∈ ws, wfP x) (hww : ∀ x ∈ qs, wfP x) :
    Calls Try.prog 7 #[.agg #[.slice A0 n0 c0, .slice A1 n1_ c1, .slice A2 ws.length c2], .agg #[.slice B0 m0 d0, .slice B1 m1 d1, .slice B2 qs.length d2]] w fun e w' => e = .returned (.tuple #[pv ((leastS (ws.filter (fun p => qs.any (eqP p) && p.f1 == -1))).getD zP), .bool (leastS (ws.filter (fun p => qs.any (eqP p) && p.f1 == -1))).isSome]) ∧ Below w.heap.size w w' := by
  have hmm := @run_makeMap Try.prog
  have HC0 := Aside0.mk h0
  have HC2 := Aside0.mk h2
  have HWw := Aside0.mk hwp
  have HWp := Aside0.mk hww
  clear h0 h2 hwp hww
  go_enter Try.func7, Try.ntmps7
  go_wp2
  have HL0 := Aside0.mk (lay_new w #[.slice A0 n0 c0, .slice A1 n1_ c1, .slice A2 ws.length c2] #[.slice B0 m0 d0, .slice B1 m1 d1, .slice B2 qs.length d2])
  go_loopg [13] qs.length (fun gg s13 wr => ∃ k : Nat, s13 = .int .i64 k ∧ k ≤ qs.length ∧ Aside0 (qs.length - k ≤ gg) ∧ Aside0 (Lay w wr #[.slice A0 n0 c0, .slice A1 n1_ c1, .slice A2 ws.length c2] #[.slice B0 m0 d0, .slice B1 m1 d1, .slice B2 qs.length d2] k (qs.take k)))
  case atStart => exact ⟨0, rfl, Nat.zero_le _, ⟨by omega⟩, ⟨HL0.out⟩⟩
  case round =>
    clear HL0
    obtain ⟨k, rfl, hk, HM, HL⟩ := hrel
    by_cases hlt : k < qs.length
    · have hltz : (k : Int) < (qs.length : Int) := by omega
      obtain ⟨ad, ea, a0, a1, a2⟩ := at_T27 HC2.out (k : Int) (by omega) hltz
      subst ea
      obtain ⟨y, hy⟩ := ex_get hlt
      rw [rd27 hy] at a0 a1 a2
      simp only [Int.toNat_natCast] at a0 a1 a2
      replace a0 := (HL.out.bel.cell (World.block_lt_of_cell? _ _ a0)).trans a0
      replace a1 := (HL.out.bel.cell (World.block_lt_of_cell? _ _ a1)).trans a1
      replace a2 := (HL.out.bel.cell (World.block_lt_of_cell? _ _ a2)).trans a2
      obtain ⟨w3, hrun, hL3⟩ := (HL.out.below (below_alloc (Below.refl _ _) (pO y))).put (by unfold maxLen; omega) (HWp.out y (List.mem_of_getElem? hy))
      rw [← take_snoc hy] at hL3
      have HL3 := Aside0.mk hL3
      have x4 : wr.cell? ⟨w.heap.size + 1 + 1 + 1 + 1, 0, none⟩ = some (.map (some (w.heap.size + 1 + 1 + 1))) := cell_of HL.out.x4 0
      have hz := lt_of HL.out.x4
      have n1 : (w.heap.size + 1 + 1 + 1 + 1 = wr.heap.size) = False := eq_false (by omega)
      unfold pv pO at hrun
      clear hy hL3
      go_wp2
      go_roundg (qs.length - (k + 1))
      case measure => have := HM.out; omega
      case rel => exact ⟨k + 1, by go_num, hlt, ⟨Nat.le_refl _⟩, HL3⟩
    · obtain rfl : k = qs.length := by omega
      have hltz : ¬ (qs.length : Int) < (qs.length : Int) := by omega
      have hL := HL.out
      rw [List.take_length] at hL
      have HLz := Aside0.mk hL
      clear hL
      have x02 : wr.cell? ⟨w.heap.size, 2, none⟩ = some (.slice A2 ws.length c2) := cell_of HLz.out.x0 2
      have HLe := Aside0.mk (least_any (fun p => qs.any (eqP p) && p.f1 == -1) 19 #[.pointer (some ⟨w.heap.size + 1 + 1 + 1 + 1, 0, none⟩)] enter19 A2 ws c2 wr (Kd.C_below HC0.out HLz.out.bel)
        (fun V x hx hV => both1_any qs x _ _ _ V (HWw.out x hx) (HLz.out.below hV).x3 (HLz.out.below hV).x4))
      go_wp2_with (go_at_call 15; refine HLe.out.mono ?_; rintro e w5 ⟨rfl, hb⟩; have HB5 := Aside0.mk hb; have HL5 := Aside0.mk (HLz.out.below hb); clear hb; have j0 : w5.cell? ⟨w.heap.size + 1 + 1, 0, none⟩ = some (.int .i64 0) := cell_of HL5.out.x2 0; have j1 : w5.cell? ⟨w.heap.size + 1 + 1, 1, none⟩ = some (.int .i64 0) := cell_of HL5.out.x2 1; have j2 : w5.cell? ⟨w.heap.size + 1 + 1, 2, none⟩ = some (.string ⟨#[]⟩) := cell_of HL5.out.x2 2; have k3 : w5.frozen? ⟨w.heap.size + 1 + 1, 0, none⟩ = false := frozen_of HL5.out.x2 0; have k4 : w5.frozen? ⟨w.heap.size + 1 + 1, 1, none⟩ = false := frozen_of HL5.out.x2 1; have k5 : w5.frozen? ⟨w.heap.size + 1 + 1, 2, none⟩ = false := frozen_of HL5.out.x2 2; unfold pv)
      refine bodyPost_ret (results_ct rfl _ _ (w.heap.size + 1 + 1) 27 #[.int .i64 ((leastS (ws.filter (fun p => qs.any (eqP p) && p.f1 == -1))).getD zP).f0, .int .i64 ((leastS (ws.filter (fun p => qs.any (eqP p) && p.f1 == -1))).getD zP).f1, .string ((leastS (ws.filter (fun p => qs.any (eqP p) && p.f1 == -1))).getD zP).f2] (0, 0) _ rfl (setCell_heap (setCell_heap (setCell_heap HL5.out.x2 _) _) _) Try.underlying27 rfl (by kernel_rfl)) rfl ?_
      exact ⟨rfl, ((HL5.out.bel.setCell (p := ⟨w.heap.size + 1 + 1, 0, none⟩) (by show w.heap.size ≤ w.heap.size + 1 + 1; omega) _).setCell (p := ⟨w.heap.size + 1 + 1, 1, none⟩) (by show w.heap.size ≤ w.heap.size + 1 + 1; omega) _).setCell (p := ⟨w.heap.size + 1 + 1, 2, none⟩) (by show w.heap.size ≤ w.heap.size + 1 + 1; omega) _⟩
end Go.Proofs.Ytldlenjfpjihdaa.PS
end
section
namespace Go.Proofs.Ytldlenjfpjihdaa.PS
open Go Go.RowKit Go.Proofs Go.Proofs.YtldlenjfpjihdaaW.PrintWords Go.Proofs.YtldlenjfpjihdaaW.PrintLast Go.Proofs.YtldlenjfpjihdaaW.PrintMore
set_option linter.unusedVariables false
set_option linter.unusedSimpArgs false
def enc27 (x : S27) : List Value := [.int .i64 x.f0, .int .i64 x.f1, .string x.f2]
/-- A row of ranges in a block, from its first cell on, none of whose cells is frozen. -/
def RowP (w : World) (g : Nat) (xs : List S27) : Prop := ∀ (i : Nat) (x : S27), xs[i]? = some x → ∀ (j : Nat) (u : Value), (enc27 x)[j]? = some u → w.cell? ⟨g, i * 3 + j, none⟩ = some u ∧ w.frozen? ⟨g, i * 3 + j, none⟩ = false
theorem RowP.at0 {w : World} {g : Nat} {xs : List S27} (h : RowP w g xs) {i : Nat} {x : S27} (hi : xs[i]? = some x) : w.cell? ⟨g, i * 3, none⟩ = some (.int .i64 x.f0) ∧ w.cell? ⟨g, i * 3 + 1, none⟩ = some (.int .i64 x.f1) ∧ w.cell? ⟨g, i * 3 + 2, none⟩ = some (.string x.f2) ∧ w.frozen? ⟨g, i * 3, none⟩ = false ∧ w.frozen? ⟨g, i * 3 + 1, none⟩ = false ∧ w.frozen? ⟨g, i * 3 + 2, none⟩ = false :=
  ⟨(h i x hi 0 _ rfl).1, (h i x hi 1 _ rfl).1, (h i x hi 2 _ rfl).1, (h i x hi 0 _ rfl).2, (h i x hi 1 _ rfl).2, (h i x hi 2 _ rfl).2⟩
theorem RowP.same {w w' : World} {g : Nat} {xs : List S27} (h : RowP w g xs) (e : w'.heap[g]? = w.heap[g]?) : RowP w' g xs := by
  intro i x hi j u hu
  have := h i x hi j u hu
  simpa [World.cell?, World.frozen?, e] using this
theorem RowP.below {w w' : World} {g : Nat} {xs : List S27} (h : RowP w g xs) (hg : g < w.heap.size) (hb : Below w.heap.size w w') : RowP w' g xs := h.same (hb.block g hg)
theorem RowP.lt {w : World} {g : Nat} {xs : List S27} (h : RowP w g xs) (hn : 0 < xs.length) : g < w.heap.size := by
  have := (h 0 _ (List.getElem?_eq_getElem hn) 0 _ rfl).1
  exact World.block_lt_of_cell? w _ this
theorem RowP.take {w : World} {g : Nat} {xs : List S27} (h : RowP w g xs) (n : Nat) : RowP w g (xs.take n) := by
  intro i x hi
  refine h i x ?_
  rw [List.getElem?_take] at hi
  split at hi
  · exact hi
  · cases hi
theorem RowP.C {w : World} {g : Nat} {xs : List S27} (h : RowP w g xs) (hl : xs.length ≤ 9223372036854775807) : Kd.C k27 w (some ⟨g, 0, none⟩) xs.length xs := by
  refine ⟨rfl, hl, fun _ => ⟨_, rfl, fun j p hp => ⟨enc27 p, rfl, k27_mk w p, fun i u hu => ?_⟩⟩⟩
  have := (h j p hp i u hu).1
  rw [add_plain]
  exact this
theorem idxF_cases {α : Type} (p : α → Bool) (xs : List α) : (idxF p xs = -1 ∧ ∀ x ∈ xs, p x = false) ∨ ∃ k : Nat, k < xs.length ∧ idxF p xs = (k : Int) ∧ (∀ x ∈ xs.take k, p x = false) ∧ ∃ y, xs[k]? = some y ∧ p y = true := by
  unfold idxF
  cases h : xs.any p with
  | false =>
    left
    refine ⟨if_neg (by decide), fun x hx => ?_⟩
    have := List.any_eq_false.1 h x hx
    simpa using this
  | true =>
    right
    have hlt : xs.findIdx p < xs.length := List.findIdx_lt_length.2 (by simpa using h)
    refine ⟨xs.findIdx p, hlt, if_pos rfl, fun x hx => ?_, xs[xs.findIdx p], List.getElem?_eq_getElem hlt, List.findIdx_getElem⟩
    obtain ⟨j, hj, rfl⟩ := List.mem_take_iff_getElem.1 hx
    have := List.not_of_lt_findIdx (p := p) (xs := xs) (i := j) (by omega)
    simpa using this
/-- Behind j elements of which i were kept: the begin is what was kept, the rest is as_ it was. -/
structure KeptRowP (p : S27 → Bool) (xs L : List S27) (i j : Nat) : Prop where
  len : L.length = xs.length
  lt : i < j
  le : j ≤ xs.length
  low : L.take i = (xs.take j).filter fun x => !p x
  high : ∀ k, j ≤ k → L[k]? = xs[k]?
theorem KeptRowP.start {p : S27 → Bool} {xs : List S27} {k : Nat} {y : S27} (hk : k < xs.length) (h : ∀ x ∈ xs.take k, p x = false) (hy : xs[k]? = some y) (hp : p y = true) : KeptRowP p xs xs k (k + 1) := by
  refine ⟨rfl, Nat.lt_succ_self _, hk, ?_, fun _ _ => rfl⟩
  rw [List.take_add_one, hy, List.filter_append, List.filter_eq_self.2 (fun x hx => by rw [h x hx]; rfl)]
  simp [hp]
theorem KeptRowP.skip {p : S27 → Bool} {xs L : List S27} {i j : Nat} {y : S27} (h : KeptRowP p xs L i j) (hy : xs[j]? = some y) (hp : p y = true) : KeptRowP p xs L i (j + 1) := by
  have hj := (List.getElem?_eq_some_iff.1 hy).1
  refine ⟨h.len, Nat.lt_succ_of_lt h.lt, hj, ?_, fun k hk => h.high k (by omega)⟩
  rw [List.take_add_one, hy, List.filter_append, h.low]
  simp [hp]
theorem KeptRowP.keep {p : S27 → Bool} {xs L : List S27} {i j : Nat} {y : S27} (h : KeptRowP p xs L i j) (hy : xs[j]? = some y) (hp : p y = false) : KeptRowP p xs (L.set i y) (i + 1) (j + 1) := by
  have hj := (List.getElem?_eq_some_iff.1 hy).1
  have hlen := h.len
  have hlt := h.lt
  refine ⟨by rw [List.length_set]; exact h.len, by omega, hj, ?_, fun k hk => ?_⟩
  · rw [List.take_add_one, List.getElem?_set_self (by omega), List.take_set_of_le (Nat.le_refl _), h.low, List.take_add_one, hy, List.filter_append]
    simp [hp]
  · rw [List.getElem?_set_ne (by omega)]; exact h.high k (by omega)
theorem RowP.set {w : World} {g : Nat} {xs : List S27} (h : RowP w g xs) (i : Nat) (hi : i < xs.length) (y : S27) : RowP (w.setCells g (i * 3) (enc27 y)) g (xs.set i y) := by
  intro k x hk j u hu
  have hj : j < 3 := by have := (List.getElem?_eq_some_iff.1 hu).1; simpa [enc27] using this
  rw [World.frozen?_setCells]
  by_cases e : i = k
  · subst e
    rw [List.getElem?_set_self hi, Option.some.injEq] at hk
    subst hk
    have hin := World.cell?_setCells_in g (enc27 y) (i * 3) w (fun t ht => by
      have ht3 : t < 3 := by simpa [enc27] using ht
      have := (h i _ (List.getElem?_eq_getElem hi) t ((enc27 xs[i])[t]'(by simpa [enc27] using ht3)) (List.getElem?_eq_getElem _)).1
      rw [this]; rfl) j (by simpa [enc27] using hj)
    refine ⟨?_, (h i _ (List.getElem?_eq_getElem hi) j ((enc27 xs[i])[j]'(by simpa [enc27] using hj)) (List.getElem?_eq_getElem _)).2⟩
    rw [hin]
    have := (List.getElem?_eq_some_iff.1 hu).2
    rw [← this]
  · rw [List.getElem?_set_ne e] at hk
    rw [World.cell?_setCells_out g _ _ _ _ (fun _ _ => by simp [enc27]; omega)]
    exact h k x hk j u hu
theorem RowP.cut {w : World} {g : Nat} {xs : List S27} (h : RowP w g xs) (i : Nat) (vs : List Value) : RowP (w.setCells g (i * 3) vs) g (xs.take i) := by
  intro k x hk j u hu
  have hj : j < 3 := by have := (List.getElem?_eq_some_iff.1 hu).1; simpa [enc27] using this
  rw [List.getElem?_take] at hk
  split at hk
  · rw [World.frozen?_setCells, World.cell?_setCells_out g _ _ _ _ (fun _ _ => by left; show k * 3 + j < i * 3; omega)]
    exact h k x hk j u hu
  · cases hk
theorem below_sets {B g : Nat} {w0 w : World} (hg : B ≤ g) (vs : List Value) (o : Nat) (h : Below B w0 w) : Below B w0 (w.setCells g o vs) := by
  obtain ⟨s1, s2, s3, s4⟩ := setCells_same g vs o w
  exact ⟨s1.trans h.os, s2.trans h.tape, s3.trans h.output, by rw [s4]; exact h.size, fun i hi => (setCells_far vs o i (by omega)).trans (h.block i hi)⟩
/-- 'clear' at ranges: some cells are laid, from the first one on. -/
theorem run_clearRowP (w : World) (b i n c : Nat) (L : List S27) (hR : RowP w b L) (hn : 0 < n) (hL : i + n = L.length) : ∃ vs : List Value, ∀ ty, (Builtin.clear_ #[22] ty #[.slice (some ⟨b, i * 3, none⟩) n c]).run Try.prog w = .ok (.tuple #[]) (w.setCells b (i * 3) vs) := by
  have hv := Try.zeroValue27
  generalize hz : (Builtin.zeroCells (#[.int .i64 0, .int .i64 0, .string (⟨#[]⟩ : ByteArray)] : Array Value) n).toList = vs
  have hlen : vs.length = n * 3 := by rw [← hz]; simp [Builtin.zeroCells]
  have hone : ∀ v ∈ vs, v.oneCell' = true := by
    intro v hv'
    rw [← hz] at hv'
    simp only [Builtin.zeroCells, Array.toList_map, Array.toList_range, List.mem_map] at hv'
    obtain ⟨j, _, rfl⟩ := hv'
    have h3 : j % 3 = 0 ∨ j % 3 = 1 ∨ j % 3 = 2 := by omega
    show (#[Value.int .i64 0, .int .i64 0, .string (⟨#[]⟩ : ByteArray)][j % 3]!).oneCell' = true
    rcases h3 with e | e | e <;> rw [e] <;> rfl
  have hcell : ∀ j, j < vs.length → (w.cell? ⟨b, i * 3 + j, none⟩).isSome = true ∧ w.frozen? ⟨b, i * 3 + j, none⟩ = false := by
    intro j hj
    rw [hlen] at hj
    have hk : i + j / 3 < L.length := by omega
    have hj3 : j % 3 < (enc27 L[i + j / 3]).length := by show j % 3 < 3; omega
    have := hR (i + j / 3) _ (List.getElem?_eq_getElem hk) (j % 3) _ (List.getElem?_eq_getElem hj3)
    rw [show (i + j / 3) * 3 + j % 3 = i * 3 + j by omega] at this
    exact ⟨by rw [this.1]; rfl, this.2⟩
  have hst := run_storeCells_cells (P := Try.prog) b (i * 3) vs 0 w (fun j hj => by simpa using (hcell j hj).1) (fun j hj => by simpa using (hcell j hj).2) hone
  simp only [Nat.add_zero] at hst
  refine ⟨vs, fun ty => ?_⟩
  obtain ⟨m, rfl⟩ : ∃ m, n = m + 1 := ⟨n - 1, by omega⟩
  simp [Builtin.clear_, run_underlying Try.underlying22, hv, hz, hst, Value.cells]
set_option maxHeartbeats 4000000 in
set_option maxRecDepth 100000 in
theorem delf_RowP (p : S27 → Bool) (g : Nat) (lb : Array Value) (eg : ∀ args w, (callFunc g args).run Try.prog w = .ok (.enter g args) w) (w0 : World) (gb cap : Nat) (xs : List S27) (w : World) (hR : RowP w gb xs) (hl : xs.length ≤ 4611686018427387904) (hcap : xs.length ≤ cap) (h0 : w0.heap.size ≤ gb) (hB : Below w0.heap.size w0 w)
    (hp : ∀ (W : World) (x : S27), Below w0.heap.size w0 W → Calls Try.prog g (#[pv x] ++ lb) W fun e w' => e = .returned (.bool (p x)) ∧ Below W.heap.size W w') :
    Calls Try.prog 28 #[.slice (some ⟨gb, 0, none⟩) xs.length cap, .func (.func g) #[] lb] w fun e w' => e = .returned (.slice (some ⟨gb, 0, none⟩) (xs.filter fun x => !p x).length cap) ∧ RowP w' gb (xs.filter fun x => !p x) ∧ Below w0.heap.size w0 w' ∧ w.heap.size ≤ w'.heap.size := by
  have hidx := idxf_point p g lb eg (some ⟨gb, 0, none⟩) xs cap w (hR.C (by omega)) (fun W x _ hb => hp W x (below_step hB hb))
  rcases idxF_cases p xs with ⟨e1, hall⟩ | ⟨k0, hk0, e1, hall, y0, hy0, hpy⟩
  · rw [e1] at hidx
    have hf : (xs.filter fun x => !p x) = xs := List.filter_eq_self.2 fun x hx => by rw [hall x hx]; rfl
    rw [hf]
    have HR := Aside0.mk hR
    have HB := Aside0.mk hB
    clear hR hB hp hf hall
    go_enter Try.func28, Try.ntmps28
    go_wp2_with (go_at_call 38; refine hidx.mono ?_; rintro e w' ⟨rfl, hb'⟩)
    go_ret
    refine ⟨rfl, ?_, below_step HB.out hb', hb'.size⟩
    intro i x hi
    exact RowP.below HR.out (HR.out.lt (by have := (List.getElem?_eq_some_iff.1 hi).1; omega)) hb' i x hi
  · rw [e1] at hidx
    have hlow : (k0 : Int) ≠ -1 := by omega
    have HR := Aside0.mk hR
    have HB := Aside0.mk hB
    have HP := Aside0.mk hp
    have HK := Aside0.mk (KeptRowP.start hk0 hall hy0 hpy)
    clear hR hB hp hall hy0 hpy
    go_enter Try.func28, Try.ntmps28
    go_wp2_with (go_at_call 38; refine hidx.mono ?_; rintro e w1 ⟨rfl, hb1⟩)
    have hgb := HR.out.lt (by omega)
    have HR1 := Aside0.mk (HR.out.below hgb hb1)
    have HB1 := Aside0.mk (below_step HB.out hb1)
    have HZ := Aside0.mk hb1.size
    have HG := Aside0.mk hgb
    clear hb1 hgb
    go_loopg [5, 6, 7] xs.length (fun gg s5 s6 _ wr => ∃ (i j : Nat) (L : List S27), s5 = .int .i64 i ∧ s6 = .int .i64 j ∧ Aside0 (KeptRowP p xs L i j) ∧ Aside0 (xs.length - j ≤ gg) ∧ Aside0 (RowP wr gb L) ∧ Aside0 (Below w0.heap.size w0 wr) ∧ Aside0 (w.heap.size ≤ wr.heap.size))
    case atStart => exact ⟨k0, k0 + 1, xs, rfl, by go_num, ⟨HK.out⟩, ⟨by omega⟩, ⟨HR1.out⟩, ⟨HB1.out⟩, ⟨HZ.out⟩⟩
    case round =>
      obtain ⟨i, j, L, rfl, rfl, HKk, HM, HRr, HBr, HZr⟩ := hrel
      have hlen := HKk.out.len
      have hij := HKk.out.lt
      have hjn := HKk.out.le
      by_cases hlt : j < xs.length
      · have hltz : (j : Int) < (xs.length : Int) := by omega
        obtain ⟨y, hy⟩ : ∃ y, xs[j]? = some y := ⟨_, List.getElem?_eq_getElem hlt⟩
        have hyL : L[j]? = some y := by rw [HKk.out.high j (Nat.le_refl _)]; exact hy
        obtain ⟨cx0, cx1, cx2, fx0, fx1, fx2⟩ := HRr.out.at0 hyL
        have hcall : ∀ W, Below w0.heap.size w0 W → Calls Try.prog g (#[.agg #[.int .i64 y.f0, .int .i64 y.f1, .string y.f2]] ++ lb) W fun e w' => e = .returned (.bool (p y)) ∧ Below W.heap.size W w' := fun W h => HP.out W y h
        cases hq : p y with
        | true =>
          rw [hq] at hcall
          go_wp2_with (go_at_fn g; refine (hcall _ (below_alloc HBr.out _)).mono ?_; rintro e w' ⟨rfl, hb'⟩)
          have hgr : gb < wr.heap.size := by have := HG.out; have := HZr.out; omega
          have hbA : Below wr.heap.size wr w' := below_step (below_alloc (Below.refl _ wr) _) hb'
          go_roundg (xs.length - (j + 1))
          case measure => have := HM.out; omega
          case rel => exact ⟨i, j + 1, L, rfl, by go_num, ⟨HKk.out.skip hy hq⟩, ⟨Nat.le_refl _⟩, ⟨HRr.out.below hgr hbA⟩, ⟨below_step HBr.out hbA⟩, ⟨Nat.le_trans HZr.out hbA.size⟩⟩
        | false =>
          rw [hq] at hcall
          have hgr : gb < wr.heap.size := by have := HG.out; have := HZr.out; omega
          have hiL : i < L.length := by omega
          have hltI : (i : Int) < (xs.length : Int) := by omega
          go_wp2_with (go_at_fn g; refine (hcall _ (below_alloc HBr.out _)).mono ?_; rintro e w' ⟨rfl, hb'⟩; have hbA : Below wr.heap.size wr w' := below_step (below_alloc (Below.refl _ wr) _) hb'; have HRn := Aside0.mk (HRr.out.below hgr hbA); obtain ⟨dx0, dx1, dx2, gx0, gx1, gx2⟩ := HRn.out.at0 (List.getElem?_eq_getElem hiL); have vx0 := (hb'.cell (p := ⟨wr.heap.size, 0, none⟩) (by simp)).trans (show _ = some _ by simp; rfl); have vx1 := (hb'.cell (p := ⟨wr.heap.size, 1, none⟩) (by simp)).trans (show _ = some _ by simp; rfl); have vx2 := (hb'.cell (p := ⟨wr.heap.size, 2, none⟩) (by simp)).trans (show _ = some _ by simp; rfl))
          have hRs := HRn.out.set i hiL y
          have hws : (((w'.setCell ⟨gb, i * 3, none⟩ (.int .i64 y.f0)).setCell ⟨gb, i * 3 + 1, none⟩ (.int .i64 y.f1)).setCell ⟨gb, i * 3 + 2, none⟩ (.string y.f2)) = w'.setCells gb (i * 3) (enc27 y) := rfl
          rw [hws]
          have hbS := below_sets h0 (enc27 y) (i * 3) (below_step HBr.out hbA)
          have hzS : (w'.setCells gb (i * 3) (enc27 y)).heap.size = w'.heap.size := (setCells_same gb (enc27 y) (i * 3) w').2.2.2
          go_roundg (xs.length - (j + 1))
          case measure => have := HM.out; omega
          case rel => exact ⟨i + 1, j + 1, L.set i y, by go_num, by go_num, ⟨HKk.out.keep hy hq⟩, ⟨Nat.le_refl _⟩, ⟨hRs⟩, ⟨hbS⟩, ⟨by rw [hzS]; exact Nat.le_trans HZr.out hbA.size⟩⟩
      · obtain rfl : j = xs.length := by omega
        have hltz : ¬ (xs.length : Int) < (xs.length : Int) := by omega
        obtain ⟨vs, hcl⟩ := run_clearRowP wr gb i (xs.length - i) (cap - i) L HRr.out (by omega) (by omega)
        have hlow2 := HKk.out.low
        rw [List.take_of_length_le (Nat.le_refl _)] at hlow2
        have hfl : (xs.filter fun x => !p x).length = i := by rw [← hlow2, List.length_take]; omega
        have HL := Aside0.mk hlow2
        have HF := Aside0.mk hfl
        clear hlow2 hfl
        go_wp2
        go_ret
        rw [HF.out, ← HL.out]
        refine ⟨rfl, HRr.out.cut i vs, below_sets h0 vs (i * 3) HBr.out, ?_⟩
        rw [(setCells_same gb vs (i * 3) wr).2.2.2]
        exact HZr.out
theorem info27U : (Try.prog.info? 27).map (fun i => (i.zero, i.size, i.bytes)) = some (some (.agg #[(.int .i64 0), (.int .i64 0), (.string (⟨#[]⟩ : ByteArray))]), 3, 32) := by kernel_rfl
theorem ownRowP_parts {w : World} {base g n cap : Nat} {xs : List S27} (h : Kd.R k27 27 w base (fun _ => True) (.slice (some ⟨g, 0, none⟩) n cap) xs) : n = xs.length ∧ base ≤ g ∧ xs.length ≤ cap ∧ cap ≤ maxLen ∧ RowP w g xs ∧ ∃ cur, w.heap[g]? = some (.cells cur 27 (0, 0)) ∧ cur.size = cap * 3 := by
  obtain ⟨_, inner, ⟨hlen, hor⟩, hreps⟩ := h
  replace hreps : Reps _ 3 xs inner := hreps
  rcases hor with ⟨e, _⟩ | ⟨g', cap', cur, e, hg, hh, hnc, hcm, hsz, htk⟩
  · simp at e
  · replace hsz : cur.size = cap' * 3 := hsz
    replace htk : cur.toList.take (xs.length * 3) = inner := htk
    simp only [Value.slice.injEq, Option.some.injEq, Addr.mk.injEq, and_true, true_and] at e
    obtain ⟨rfl, rfl, rfl⟩ := e
    refine ⟨rfl, hg, hnc, hcm, ?_, cur, hh, hsz⟩
    intro i x hx j u hu
    have hi := (List.getElem?_eq_some_iff.1 hx).1
    have hj : j < 3 := by have := (List.getElem?_eq_some_iff.1 hu).1; simpa [enc27] using this
    have hM := k27_openM (hreps.2 i x hx)
    have e1 : ((inner.drop (i * 3)).take 3)[j]? = some u := by rw [hM]; exact hu
    rw [List.getElem?_take, if_pos hj, List.getElem?_drop, ← htk, List.getElem?_take, if_pos (by omega)] at e1
    have e2 : cur[i * 3 + j]? = some u := by rw [← Array.getElem?_toList]; exact e1
    exact ⟨by simp [World.cell?, hh, e2], by simp [World.frozen?, hh]⟩
set_option maxHeartbeats 4000000 in
set_option maxRecDepth 100000 in
/-- slices.Clone at ranges. -/
theorem clone_RowP (xs : List S27) (A : Option Addr) (c : Nat) (w : World) (hC : Kd.C k27 w A xs.length xs) (hl : xs.length * 32 ≤ 140737488355328) :
    Calls Try.prog 29 #[.slice A xs.length c] w fun e w' => (A = none ∧ e = .returned (.slice none 0 0) ∧ w' = w) ∨ A ≠ none ∧ ∃ g cap, e = .returned (.slice (some ⟨g, 0, none⟩) xs.length cap) ∧ w.heap.size ≤ g ∧ g < w'.heap.size ∧ xs.length ≤ cap ∧ RowP w' g xs ∧ Below w.heap.size w w' := by
  cases A with
  | none =>
    clear hC
    have qS : ∀ (w : World) (a : Option Addr) (n c n' c' : Nat), (binOp .eql 22 (.slice a n c) (.slice none n' c')).run Try.prog w = .ok (.bool a.isNone) w := fun w a n c n' c' => Go.Lib.run_eql_slice_nil w _ _ a n c n' c' Try.underlying22
    have uS : ∀ w, Sem.run Try.prog (underlying 22) w = .ok (TypeDesc.slice 27) w := run_underlying Try.underlying22
    go_enter Try.func29, Try.ntmps29
    go_wp2
    go_ret
    first | exact .inl ⟨rfl, rfl, rfl⟩ | simp
  | some ad =>
    obtain ⟨inner, hrep, hcells⟩ := ReadsRow.inner_ hC
    replace hrep : Reps (k27.K w) 3 xs inner := hrep
    have hlen := hrep.1
    have hone : ∀ u ∈ inner, u.oneCell' = true := by
      intro u hu
      obtain ⟨t, ht, e⟩ := List.getElem_of_mem hu
      have hk : t / 3 < xs.length := by omega
      have hK := k27_open (hrep.2 (t / 3) _ (List.getElem?_eq_getElem hk))
      have e1 : ((inner.drop (t / 3 * 3)).take 3)[t % 3]? = some u := by rw [List.getElem?_take, if_pos (by omega), List.getElem?_drop, show t / 3 * 3 + t % 3 = t by omega, List.getElem?_eq_getElem ht, e]
      rw [hK] at e1
      have h3 : t % 3 = 0 ∨ t % 3 = 1 ∨ t % 3 = 2 := by omega
      rcases h3 with q | q | q <;> rw [q] at e1 <;> (obtain rfl := Option.some.inj e1) <;> rfl
    have HI := Aside0.mk hrep
    have HC := Aside0.mk hcells
    have HL := Aside0.mk hlen
    have H1 := Aside0.mk hone
    obtain ⟨i0, hi, hz0, hz1, hz2⟩ := info_parts info27U
    clear hC hrep hcells hone hlen
    have qS : ∀ (w : World) (a : Option Addr) (n c n' c' : Nat), (binOp .eql 22 (.slice a n c) (.slice none n' c')).run Try.prog w = .ok (.bool a.isNone) w := fun w a n c n' c' => Go.Lib.run_eql_slice_nil w _ _ a n c n' c' Try.underlying22
    have uS : ∀ w, Sem.run Try.prog (underlying 22) w = .ok (TypeDesc.slice 27) w := run_underlying Try.underlying22
    go_enter Try.func29, Try.ntmps29
    go_wp2_with (at_builtin; refine wpList_append_own _ rfl _ _ 22 rfl w.heap.size 27 i0 (.agg #[(.int .i64 0), (.int .i64 0), (.string (⟨#[]⟩ : ByteArray))]) 3 32 Try.underlying22 hi hz0 hz1 hz2 rfl (by decide) _ _ _ rfl (World.ownsRow_made w #[] 0 (Nat.le_refl _) (Nat.zero_le _) rfl) ad xs.length c inner rfl ?qc1 ?qc2 ?qc3 ?qc4 ?qc5 ?qc6 ?_)
    case qc1 => exact HL.out
    case qc2 => intro j u hj; exact Go.Lib.cell?_alloc_some _ (HC.out j u hj)
    case qc3 => exact H1.out
    case qc4 => unfold maxLen; omega
    case qc5 => omega
    case qc6 => simp
    intro v' w1 hown hgrow hnil
    go_wp2
    go_ret
    have hne : v' ≠ .slice none 0 0 := fun e => by first | exact hnil e | (have := (hnil.1 e).1; simp at this)
    have hown2 : w1.ownsRow w.heap.size 27 3 v' xs.length inner := by simpa using hown
    have hR : Kd.R k27 27 w1 w.heap.size (fun _ => True) v' xs := ⟨fun _ _ => trivial, inner, hown2, HI.out.imp_ fun p cs hp => by rw [k27_open hp]; exact k27_mkM _ _ _ p⟩
    have hb : Below w.heap.size w w1 := ((Below.refl _ w).alloc (Nat.le_refl _) _).grown hgrow (by simp) (by intro k hk; simp [Value.ownBlock] at hk; omega)
    rcases hown2.2 with ⟨e, _⟩ | ⟨g, cap, cur, rfl, hg, hh, hnc, _⟩
    · exact absurd e hne
    · obtain ⟨_, _, hcap, _, hrow, _, _, _⟩ := ownRowP_parts hR
      exact .inr ⟨by simp, g, cap, by simp, hg, blk_lt hh, hcap, hrow, hb⟩
def enc50 (x : S50) : List Value := [.int .i64 x.f0, .int .i64 x.f1, .string x.f2.f0, .string x.f2.f1, .bool x.f2.f2]
/-- A row of ranges in a block, from its first cell on, none of whose cells is frozen. -/
def RowS (w : World) (g : Nat) (xs : List S50) : Prop := ∀ (i : Nat) (x : S50), xs[i]? = some x → ∀ (j : Nat) (u : Value), (enc50 x)[j]? = some u → w.cell? ⟨g, i * 5 + j, none⟩ = some u ∧ w.frozen? ⟨g, i * 5 + j, none⟩ = false
theorem RowS.at0 {w : World} {g : Nat} {xs : List S50} (h : RowS w g xs) {i : Nat} {x : S50} (hi : xs[i]? = some x) : w.cell? ⟨g, i * 5, none⟩ = some (.int .i64 x.f0) ∧ w.cell? ⟨g, i * 5 + 1, none⟩ = some (.int .i64 x.f1) ∧ w.cell? ⟨g, i * 5 + 2, none⟩ = some (.string x.f2.f0) ∧ w.cell? ⟨g, i * 5 + 3, none⟩ = some (.string x.f2.f1) ∧ w.cell? ⟨g, i * 5 + 4, none⟩ = some (.bool x.f2.f2) ∧ w.frozen? ⟨g, i * 5, none⟩ = false ∧ w.frozen? ⟨g, i * 5 + 1, none⟩ = false ∧ w.frozen? ⟨g, i * 5 + 2, none⟩ = false ∧ w.frozen? ⟨g, i * 5 + 3, none⟩ = false ∧ w.frozen? ⟨g, i * 5 + 4, none⟩ = false :=
  ⟨(h i x hi 0 _ rfl).1, (h i x hi 1 _ rfl).1, (h i x hi 2 _ rfl).1, (h i x hi 3 _ rfl).1, (h i x hi 4 _ rfl).1, (h i x hi 0 _ rfl).2, (h i x hi 1 _ rfl).2, (h i x hi 2 _ rfl).2, (h i x hi 3 _ rfl).2, (h i x hi 4 _ rfl).2⟩
theorem RowS.same {w w' : World} {g : Nat} {xs : List S50} (h : RowS w g xs) (e : w'.heap[g]? = w.heap[g]?) : RowS w' g xs := by
  intro i x hi j u hu
  have := h i x hi j u hu
  simpa [World.cell?, World.frozen?, e] using this
theorem RowS.below {w w' : World} {g : Nat} {xs : List S50} (h : RowS w g xs) (hg : g < w.heap.size) (hb : Below w.heap.size w w') : RowS w' g xs := h.same (hb.block g hg)
theorem RowS.lt {w : World} {g : Nat} {xs : List S50} (h : RowS w g xs) (hn : 0 < xs.length) : g < w.heap.size := by
  have := (h 0 _ (List.getElem?_eq_getElem hn) 0 _ rfl).1
  exact World.block_lt_of_cell? w _ this
theorem RowS.take {w : World} {g : Nat} {xs : List S50} (h : RowS w g xs) (n : Nat) : RowS w g (xs.take n) := by
  intro i x hi
  refine h i x ?_
  rw [List.getElem?_take] at hi
  split at hi
  · exact hi
  · cases hi
theorem RowS.C {w : World} {g : Nat} {xs : List S50} (h : RowS w g xs) (hl : xs.length ≤ 9223372036854775807) : Kd.C k50 w (some ⟨g, 0, none⟩) xs.length xs := by
  refine ⟨rfl, hl, fun _ => ⟨_, rfl, fun j p hp => ⟨enc50 p, rfl, k50_mk w p, fun i u hu => ?_⟩⟩⟩
  have := (h j p hp i u hu).1
  rw [add_plain]
  exact this
/-- Behind j elements of which i were kept: the begin is what was kept, the rest is as_ it was. -/
structure KeptRowS (p : S50 → Bool) (xs L : List S50) (i j : Nat) : Prop where
  len : L.length = xs.length
  lt : i < j
  le : j ≤ xs.length
  low : L.take i = (xs.take j).filter fun x => !p x
  high : ∀ k, j ≤ k → L[k]? = xs[k]?
theorem KeptRowS.start {p : S50 → Bool} {xs : List S50} {k : Nat} {y : S50} (hk : k < xs.length) (h : ∀ x ∈ xs.take k, p x = false) (hy : xs[k]? = some y) (hp : p y = true) : KeptRowS p xs xs k (k + 1) := by
  refine ⟨rfl, Nat.lt_succ_self _, hk, ?_, fun _ _ => rfl⟩
  rw [List.take_add_one, hy, List.filter_append, List.filter_eq_self.2 (fun x hx => by rw [h x hx]; rfl)]
  simp [hp]
theorem KeptRowS.skip {p : S50 → Bool} {xs L : List S50} {i j : Nat} {y : S50} (h : KeptRowS p xs L i j) (hy : xs[j]? = some y) (hp : p y = true) : KeptRowS p xs L i (j + 1) := by
  have hj := (List.getElem?_eq_some_iff.1 hy).1
  refine ⟨h.len, Nat.lt_succ_of_lt h.lt, hj, ?_, fun k hk => h.high k (by omega)⟩
  rw [List.take_add_one, hy, List.filter_append, h.low]
  simp [hp]
theorem KeptRowS.keep {p : S50 → Bool} {xs L : List S50} {i j : Nat} {y : S50} (h : KeptRowS p xs L i j) (hy : xs[j]? = some y) (hp : p y = false) : KeptRowS p xs (L.set i y) (i + 1) (j + 1) := by
  have hj := (List.getElem?_eq_some_iff.1 hy).1
  have hlen := h.len
  have hlt := h.lt
  refine ⟨by rw [List.length_set]; exact h.len, by omega, hj, ?_, fun k hk => ?_⟩
  · rw [List.take_add_one, List.getElem?_set_self (by omega), List.take_set_of_le (Nat.le_refl _), h.low, List.take_add_one, hy, List.filter_append]
    simp [hp]
  · rw [List.getElem?_set_ne (by omega)]; exact h.high k (by omega)
theorem RowS.set {w : World} {g : Nat} {xs : List S50} (h : RowS w g xs) (i : Nat) (hi : i < xs.length) (y : S50) : RowS (w.setCells g (i * 5) (enc50 y)) g (xs.set i y) := by
  intro k x hk j u hu
  have hj : j < 5 := by have := (List.getElem?_eq_some_iff.1 hu).1; simpa [enc50] using this
  rw [World.frozen?_setCells]
  by_cases e : i = k
  · subst e
    rw [List.getElem?_set_self hi, Option.some.injEq] at hk
    subst hk
    have hin := World.cell?_setCells_in g (enc50 y) (i * 5) w (fun t ht => by
      have ht3 : t < 5 := by simpa [enc50] using ht
      have := (h i _ (List.getElem?_eq_getElem hi) t ((enc50 xs[i])[t]'(by simpa [enc50] using ht3)) (List.getElem?_eq_getElem _)).1
      rw [this]; rfl) j (by simpa [enc50] using hj)
    refine ⟨?_, (h i _ (List.getElem?_eq_getElem hi) j ((enc50 xs[i])[j]'(by simpa [enc50] using hj)) (List.getElem?_eq_getElem _)).2⟩
    rw [hin]
    have := (List.getElem?_eq_some_iff.1 hu).2
    rw [← this]
  · rw [List.getElem?_set_ne e] at hk
    rw [World.cell?_setCells_out g _ _ _ _ (fun _ _ => by simp [enc50]; omega)]
    exact h k x hk j u hu
theorem RowS.cut {w : World} {g : Nat} {xs : List S50} (h : RowS w g xs) (i : Nat) (vs : List Value) : RowS (w.setCells g (i * 5) vs) g (xs.take i) := by
  intro k x hk j u hu
  have hj : j < 5 := by have := (List.getElem?_eq_some_iff.1 hu).1; simpa [enc50] using this
  rw [List.getElem?_take] at hk
  split at hk
  · rw [World.frozen?_setCells, World.cell?_setCells_out g _ _ _ _ (fun _ _ => by left; show k * 5 + j < i * 5; omega)]
    exact h k x hk j u hu
  · cases hk
/-- 'clear' at ranges: some cells are laid, from the first one on. -/
theorem run_clearRowS (w : World) (b i n c : Nat) (L : List S50) (hR : RowS w b L) (hn : 0 < n) (hL : i + n = L.length) : ∃ vs : List Value, ∀ ty, (Builtin.clear_ #[23] ty #[.slice (some ⟨b, i * 5, none⟩) n c]).run Try.prog w = .ok (.tuple #[]) (w.setCells b (i * 5) vs) := by
  have hv := Try.zeroValue50
  generalize hz : (Builtin.zeroCells (#[.int .i64 0, .int .i64 0, .string (⟨#[]⟩ : ByteArray), .string (⟨#[]⟩ : ByteArray), .bool false] : Array Value) n).toList = vs
  have hlen : vs.length = n * 5 := by rw [← hz]; simp [Builtin.zeroCells]
  have hone : ∀ v ∈ vs, v.oneCell' = true := by
    intro v hv'
    rw [← hz] at hv'
    simp only [Builtin.zeroCells, Array.toList_map, Array.toList_range, List.mem_map] at hv'
    obtain ⟨j, _, rfl⟩ := hv'
    have h3 : j % 5 = 0 ∨ j % 5 = 1 ∨ j % 5 = 2 ∨ j % 5 = 3 ∨ j % 5 = 4 := by omega
    show (#[Value.int .i64 0, .int .i64 0, .string (⟨#[]⟩ : ByteArray), .string (⟨#[]⟩ : ByteArray), .bool false][j % 5]!).oneCell' = true
    rcases h3 with e | e | e | e | e <;> rw [e] <;> rfl
  have hcell : ∀ j, j < vs.length → (w.cell? ⟨b, i * 5 + j, none⟩).isSome = true ∧ w.frozen? ⟨b, i * 5 + j, none⟩ = false := by
    intro j hj
    rw [hlen] at hj
    have hk : i + j / 5 < L.length := by omega
    have hj3 : j % 5 < (enc50 L[i + j / 5]).length := by show j % 5 < 5; omega
    have := hR (i + j / 5) _ (List.getElem?_eq_getElem hk) (j % 5) _ (List.getElem?_eq_getElem hj3)
    rw [show (i + j / 5) * 5 + j % 5 = i * 5 + j by omega] at this
    exact ⟨by rw [this.1]; rfl, this.2⟩
  have hst := run_storeCells_cells (P := Try.prog) b (i * 5) vs 0 w (fun j hj => by simpa using (hcell j hj).1) (fun j hj => by simpa using (hcell j hj).2) hone
  simp only [Nat.add_zero] at hst
  refine ⟨vs, fun ty => ?_⟩
  obtain ⟨m, rfl⟩ : ∃ m, n = m + 1 := ⟨n - 1, by omega⟩
  simp [Builtin.clear_, run_underlying Try.underlying23, hv, hz, hst, Value.cells]
set_option maxHeartbeats 4000000 in
set_option maxRecDepth 100000 in
theorem delf_RowS (p : S50 → Bool) (g : Nat) (lb : Array Value) (eg : ∀ args w, (callFunc g args).run Try.prog w = .ok (.enter g args) w) (w0 : World) (gb cap : Nat) (xs : List S50) (w : World) (hR : RowS w gb xs) (hl : xs.length ≤ 4611686018427387904) (hcap : xs.length ≤ cap) (h0 : w0.heap.size ≤ gb) (hB : Below w0.heap.size w0 w)
    (hp : ∀ (W : World) (x : S50), Below w0.heap.size w0 W → Calls Try.prog g (#[sv x] ++ lb) W fun e w' => e = .returned (.bool (p x)) ∧ Below W.heap.size W w') :
    Calls Try.prog 30 #[.slice (some ⟨gb, 0, none⟩) xs.length cap, .func (.func g) #[] lb] w fun e w' => e = .returned (.slice (some ⟨gb, 0, none⟩) (xs.filter fun x => !p x).length cap) ∧ RowS w' gb (xs.filter fun x => !p x) ∧ Below w0.heap.size w0 w' ∧ w.heap.size ≤ w'.heap.size := by
  have hidx := idxf_span p g lb eg (some ⟨gb, 0, none⟩) xs cap w (hR.C (by omega)) (fun W x _ hb => hp W x (below_step hB hb))
  rcases idxF_cases p xs with ⟨e1, hall⟩ | ⟨k0, hk0, e1, hall, y0, hy0, hpy⟩
  · rw [e1] at hidx
    have hf : (xs.filter fun x => !p x) = xs := List.filter_eq_self.2 fun x hx => by rw [hall x hx]; rfl
    rw [hf]
    have HR := Aside0.mk hR
    have HB := Aside0.mk hB
    clear hR hB hp hf hall
    go_enter Try.func30, Try.ntmps30
    go_wp2_with (go_at_call 36; refine hidx.mono ?_; rintro e w' ⟨rfl, hb'⟩)
    go_ret
    refine ⟨rfl, ?_, below_step HB.out hb', hb'.size⟩
    intro i x hi
    exact RowS.below HR.out (HR.out.lt (by have := (List.getElem?_eq_some_iff.1 hi).1; omega)) hb' i x hi
  · rw [e1] at hidx
    have hlow : (k0 : Int) ≠ -1 := by omega
    have HR := Aside0.mk hR
    have HB := Aside0.mk hB
    have HP := Aside0.mk hp
    have HK := Aside0.mk (KeptRowS.start hk0 hall hy0 hpy)
    clear hR hB hp hall hy0 hpy
    go_enter Try.func30, Try.ntmps30
    go_wp2_with (go_at_call 36; refine hidx.mono ?_; rintro e w1 ⟨rfl, hb1⟩)
    have hgb := HR.out.lt (by omega)
    have HR1 := Aside0.mk (HR.out.below hgb hb1)
    have HB1 := Aside0.mk (below_step HB.out hb1)
    have HZ := Aside0.mk hb1.size
    have HG := Aside0.mk hgb
    clear hb1 hgb
    go_loopg [5, 6, 7] xs.length (fun gg s5 s6 _ wr => ∃ (i j : Nat) (L : List S50), s5 = .int .i64 i ∧ s6 = .int .i64 j ∧ Aside0 (KeptRowS p xs L i j) ∧ Aside0 (xs.length - j ≤ gg) ∧ Aside0 (RowS wr gb L) ∧ Aside0 (Below w0.heap.size w0 wr) ∧ Aside0 (w.heap.size ≤ wr.heap.size))
    case atStart => exact ⟨k0, k0 + 1, xs, rfl, by go_num, ⟨HK.out⟩, ⟨by omega⟩, ⟨HR1.out⟩, ⟨HB1.out⟩, ⟨HZ.out⟩⟩
    case round =>
      obtain ⟨i, j, L, rfl, rfl, HKk, HM, HRr, HBr, HZr⟩ := hrel
      have hlen := HKk.out.len
      have hij := HKk.out.lt
      have hjn := HKk.out.le
      by_cases hlt : j < xs.length
      · have hltz : (j : Int) < (xs.length : Int) := by omega
        obtain ⟨y, hy⟩ : ∃ y, xs[j]? = some y := ⟨_, List.getElem?_eq_getElem hlt⟩
        have hyL : L[j]? = some y := by rw [HKk.out.high j (Nat.le_refl _)]; exact hy
        obtain ⟨cx0, cx1, cx2, cx3, cx4, fx0, fx1, fx2, fx3, fx4⟩ := HRr.out.at0 hyL
        have hcall : ∀ W, Below w0.heap.size w0 W → Calls Try.prog g (#[.agg #[.int .i64 y.f0, .int .i64 y.f1, .string y.f2.f0, .string y.f2.f1, .bool y.f2.f2]] ++ lb) W fun e w' => e = .returned (.bool (p y)) ∧ Below W.heap.size W w' := fun W h => HP.out W y h
        cases hq : p y with
        | true =>
          rw [hq] at hcall
          go_wp2_with (go_at_fn g; refine (hcall _ (below_alloc HBr.out _)).mono ?_; rintro e w' ⟨rfl, hb'⟩)
          have hgr : gb < wr.heap.size := by have := HG.out; have := HZr.out; omega
          have hbA : Below wr.heap.size wr w' := below_step (below_alloc (Below.refl _ wr) _) hb'
          go_roundg (xs.length - (j + 1))
          case measure => have := HM.out; omega
          case rel => exact ⟨i, j + 1, L, rfl, by go_num, ⟨HKk.out.skip hy hq⟩, ⟨Nat.le_refl _⟩, ⟨HRr.out.below hgr hbA⟩, ⟨below_step HBr.out hbA⟩, ⟨Nat.le_trans HZr.out hbA.size⟩⟩
        | false =>
          rw [hq] at hcall
          have hgr : gb < wr.heap.size := by have := HG.out; have := HZr.out; omega
          have hiL : i < L.length := by omega
          have hltI : (i : Int) < (xs.length : Int) := by omega
          go_wp2_with (go_at_fn g; refine (hcall _ (below_alloc HBr.out _)).mono ?_; rintro e w' ⟨rfl, hb'⟩; have hbA : Below wr.heap.size wr w' := below_step (below_alloc (Below.refl _ wr) _) hb'; have HRn := Aside0.mk (HRr.out.below hgr hbA); obtain ⟨dx0, dx1, dx2, dx3, dx4, gx0, gx1, gx2, gx3, gx4⟩ := HRn.out.at0 (List.getElem?_eq_getElem hiL); have vx0 := (hb'.cell (p := ⟨wr.heap.size, 0, none⟩) (by simp)).trans (show _ = some _ by simp; rfl); have vx1 := (hb'.cell (p := ⟨wr.heap.size, 1, none⟩) (by simp)).trans (show _ = some _ by simp; rfl); have vx2 := (hb'.cell (p := ⟨wr.heap.size, 2, none⟩) (by simp)).trans (show _ = some _ by simp; rfl); have vx3 := (hb'.cell (p := ⟨wr.heap.size, 3, none⟩) (by simp)).trans (show _ = some _ by simp; rfl); have vx4 := (hb'.cell (p := ⟨wr.heap.size, 4, none⟩) (by simp)).trans (show _ = some _ by simp; rfl))
          have hRs := HRn.out.set i hiL y
          have hws : (((((w'.setCell ⟨gb, i * 5, none⟩ (.int .i64 y.f0)).setCell ⟨gb, i * 5 + 1, none⟩ (.int .i64 y.f1)).setCell ⟨gb, i * 5 + 2, none⟩ (.string y.f2.f0)).setCell ⟨gb, i * 5 + 3, none⟩ (.string y.f2.f1)).setCell ⟨gb, i * 5 + 4, none⟩ (.bool y.f2.f2)) = w'.setCells gb (i * 5) (enc50 y) := rfl
          rw [hws]
          have hbS := below_sets h0 (enc50 y) (i * 5) (below_step HBr.out hbA)
          have hzS : (w'.setCells gb (i * 5) (enc50 y)).heap.size = w'.heap.size := (setCells_same gb (enc50 y) (i * 5) w').2.2.2
          go_roundg (xs.length - (j + 1))
          case measure => have := HM.out; omega
          case rel => exact ⟨i + 1, j + 1, L.set i y, by go_num, by go_num, ⟨HKk.out.keep hy hq⟩, ⟨Nat.le_refl _⟩, ⟨hRs⟩, ⟨hbS⟩, ⟨by rw [hzS]; exact Nat.le_trans HZr.out hbA.size⟩⟩
      · obtain rfl : j = xs.length := by omega
        have hltz : ¬ (xs.length : Int) < (xs.length : Int) := by omega
        obtain ⟨vs, hcl⟩ := run_clearRowS wr gb i (xs.length - i) (cap - i) L HRr.out (by omega) (by omega)
        have hlow2 := HKk.out.low
        rw [List.take_of_length_le (Nat.le_refl _)] at hlow2
        have hfl : (xs.filter fun x => !p x).length = i := by rw [← hlow2, List.length_take]; omega
        have HL := Aside0.mk hlow2
        have HF := Aside0.mk hfl
        clear hlow2 hfl
        go_wp2
        go_ret
        rw [HF.out, ← HL.out]
        refine ⟨rfl, HRr.out.cut i vs, below_sets h0 vs (i * 5) HBr.out, ?_⟩
        rw [(setCells_same gb vs (i * 5) wr).2.2.2]
        exact HZr.out
theorem info50U : (Try.prog.info? 50).map (fun i => (i.zero, i.size, i.bytes)) = some (some (.agg #[(.int .i64 0), (.int .i64 0), (.string (⟨#[]⟩ : ByteArray)), (.string (⟨#[]⟩ : ByteArray)), (.bool false)]), 5, 56) := by kernel_rfl
theorem ownRowS_parts {w : World} {base g n cap : Nat} {xs : List S50} (h : Kd.R k50 50 w base (fun _ => True) (.slice (some ⟨g, 0, none⟩) n cap) xs) : n = xs.length ∧ base ≤ g ∧ xs.length ≤ cap ∧ cap ≤ maxLen ∧ RowS w g xs ∧ ∃ cur, w.heap[g]? = some (.cells cur 50 (0, 0)) ∧ cur.size = cap * 5 := by
  obtain ⟨_, inner, ⟨hlen, hor⟩, hreps⟩ := h
  replace hreps : Reps _ 5 xs inner := hreps
  rcases hor with ⟨e, _⟩ | ⟨g', cap', cur, e, hg, hh, hnc, hcm, hsz, htk⟩
  · simp at e
  · replace hsz : cur.size = cap' * 5 := hsz
    replace htk : cur.toList.take (xs.length * 5) = inner := htk
    simp only [Value.slice.injEq, Option.some.injEq, Addr.mk.injEq, and_true, true_and] at e
    obtain ⟨rfl, rfl, rfl⟩ := e
    refine ⟨rfl, hg, hnc, hcm, ?_, cur, hh, hsz⟩
    intro i x hx j u hu
    have hi := (List.getElem?_eq_some_iff.1 hx).1
    have hj : j < 5 := by have := (List.getElem?_eq_some_iff.1 hu).1; simpa [enc50] using this
    have hM := k50_openM (hreps.2 i x hx)
    have e1 : ((inner.drop (i * 5)).take 5)[j]? = some u := by rw [hM]; exact hu
    rw [List.getElem?_take, if_pos hj, List.getElem?_drop, ← htk, List.getElem?_take, if_pos (by omega)] at e1
    have e2 : cur[i * 5 + j]? = some u := by rw [← Array.getElem?_toList]; exact e1
    exact ⟨by simp [World.cell?, hh, e2], by simp [World.frozen?, hh]⟩
set_option maxHeartbeats 4000000 in
set_option maxRecDepth 100000 in
/-- slices.Clone at ranges. -/
theorem clone_RowS (xs : List S50) (A : Option Addr) (c : Nat) (w : World) (hC : Kd.C k50 w A xs.length xs) (hl : xs.length * 56 ≤ 140737488355328) :
    Calls Try.prog 31 #[.slice A xs.length c] w fun e w' => (A = none ∧ e = .returned (.slice none 0 0) ∧ w' = w) ∨ A ≠ none ∧ ∃ g cap, e = .returned (.slice (some ⟨g, 0, none⟩) xs.length cap) ∧ w.heap.size ≤ g ∧ g < w'.heap.size ∧ xs.length ≤ cap ∧ RowS w' g xs ∧ Below w.heap.size w w' := by
  cases A with
  | none =>
    clear hC
    have qS : ∀ (w : World) (a : Option Addr) (n c n' c' : Nat), (binOp .eql 23 (.slice a n c) (.slice none n' c')).run Try.prog w = .ok (.bool a.isNone) w := fun w a n c n' c' => Go.Lib.run_eql_slice_nil w _ _ a n c n' c' Try.underlying23
    have uS : ∀ w, Sem.run Try.prog (underlying 23) w = .ok (TypeDesc.slice 50) w := run_underlying Try.underlying23
    go_enter Try.func31, Try.ntmps31
    go_wp2
    go_ret
    first | exact .inl ⟨rfl, rfl, rfl⟩ | simp
  | some ad =>
    obtain ⟨inner, hrep, hcells⟩ := ReadsRow.inner_ hC
    replace hrep : Reps (k50.K w) 5 xs inner := hrep
    have hlen := hrep.1
    have hone : ∀ u ∈ inner, u.oneCell' = true := by
      intro u hu
      obtain ⟨t, ht, e⟩ := List.getElem_of_mem hu
      have hk : t / 5 < xs.length := by omega
      have hK := k50_open (hrep.2 (t / 5) _ (List.getElem?_eq_getElem hk))
      have e1 : ((inner.drop (t / 5 * 5)).take 5)[t % 5]? = some u := by rw [List.getElem?_take, if_pos (by omega), List.getElem?_drop, show t / 5 * 5 + t % 5 = t by omega, List.getElem?_eq_getElem ht, e]
      rw [hK] at e1
      have h3 : t % 5 = 0 ∨ t % 5 = 1 ∨ t % 5 = 2 ∨ t % 5 = 3 ∨ t % 5 = 4 := by omega
      rcases h3 with q | q | q | q | q <;> rw [q] at e1 <;> (obtain rfl := Option.some.inj e1) <;> rfl
    have HI := Aside0.mk hrep
    have HC := Aside0.mk hcells
    have HL := Aside0.mk hlen
    have H1 := Aside0.mk hone
    obtain ⟨i0, hi, hz0, hz1, hz2⟩ := info_parts info50U
    clear hC hrep hcells hone hlen
    have qS : ∀ (w : World) (a : Option Addr) (n c n' c' : Nat), (binOp .eql 23 (.slice a n c) (.slice none n' c')).run Try.prog w = .ok (.bool a.isNone) w := fun w a n c n' c' => Go.Lib.run_eql_slice_nil w _ _ a n c n' c' Try.underlying23
    have uS : ∀ w, Sem.run Try.prog (underlying 23) w = .ok (TypeDesc.slice 50) w := run_underlying Try.underlying23
    go_enter Try.func31, Try.ntmps31
    go_wp2_with (at_builtin; refine wpList_append_own _ rfl _ _ 23 rfl w.heap.size 50 i0 (.agg #[(.int .i64 0), (.int .i64 0), (.string (⟨#[]⟩ : ByteArray)), (.string (⟨#[]⟩ : ByteArray)), (.bool false)]) 5 56 Try.underlying23 hi hz0 hz1 hz2 rfl (by decide) _ _ _ rfl (World.ownsRow_made w #[] 0 (Nat.le_refl _) (Nat.zero_le _) rfl) ad xs.length c inner rfl ?qc1 ?qc2 ?qc3 ?qc4 ?qc5 ?qc6 ?_)
    case qc1 => exact HL.out
    case qc2 => intro j u hj; exact Go.Lib.cell?_alloc_some _ (HC.out j u hj)
    case qc3 => exact H1.out
    case qc4 => unfold maxLen; omega
    case qc5 => omega
    case qc6 => simp
    intro v' w1 hown hgrow hnil
    go_wp2
    go_ret
    have hne : v' ≠ .slice none 0 0 := fun e => by first | exact hnil e | (have := (hnil.1 e).1; simp at this)
    have hown2 : w1.ownsRow w.heap.size 50 5 v' xs.length inner := by simpa using hown
    have hR : Kd.R k50 50 w1 w.heap.size (fun _ => True) v' xs := ⟨fun _ _ => trivial, inner, hown2, HI.out.imp_ fun p cs hp => by rw [k50_open hp]; exact k50_mkM _ _ _ p⟩
    have hb : Below w.heap.size w w1 := ((Below.refl _ w).alloc (Nat.le_refl _) _).grown hgrow (by simp) (by intro k hk; simp [Value.ownBlock] at hk; omega)
    rcases hown2.2 with ⟨e, _⟩ | ⟨g, cap, cur, rfl, hg, hh, hnc, _⟩
    · exact absurd e hne
    · obtain ⟨_, _, hcap, _, hrow, _, _, _⟩ := ownRowS_parts hR
      exact .inr ⟨by simp, g, cap, by simp, hg, blk_lt hh, hcap, hrow, hb⟩
end Go.Proofs.Ytldlenjfpjihdaa.PS
end
section
namespace Go.Proofs.Ytldlenjfpjihdaa.PS
open Go Go.RowKit Go.Proofs Go.Maps Go.Proofs.YtldlenjfpjihdaaW.PrintWords Go.Proofs.YtldlenjfpjihdaaW.PrintLast Go.Proofs.YtldlenjfpjihdaaW.PrintMore
set_option linter.unusedVariables false
set_option linter.unusedSimpArgs false
theorem results_c1 {P : Program} {fn : Func} {p : Tmp} {ty : TypeId} (h : fn.results = #[.cell p ty]) (tmps : Array Value) (w : World) (g : Nat) (t : TypeId) (cs : Array Value) (fr : Nat × Nat) (d : TypeDesc)
    (hp : tmps.getD p undef = .pointer (some ⟨g, 0, none⟩)) (hg : w.heap[g]? = some (.cells cs t fr))
    (hu : P.underlying ty = some d) (hd : (match d with | .struct _ | .array _ _ => true | _ => false) = true) (hi : (P.info? ty).map (·.size) = some cs.size) :
    (results fn tmps).run P w = .ok (.agg cs) w := by
  have hp' : tmps[p]?.getD undef = .pointer (some ⟨g, 0, none⟩) := by simpa using hp
  simp [results, h, hp', asAddr, run_loadVar_row w g t ty cs fr d hg hu hd hi]
/-- A row of one's own, or none. -/
def ClP (W : World) (base : Nat) (v : Value) (xs : List S27) : Prop := (v = .slice none 0 0 ∧ xs = []) ∨ ∃ g cap, v = .slice (some ⟨g, 0, none⟩) xs.length cap ∧ base ≤ g ∧ g < W.heap.size ∧ xs.length ≤ cap ∧ RowP W g xs
theorem ClP.below {w w' : World} {base : Nat} {v : Value} {xs : List S27} (h : ClP w base v xs) (hb : Below w.heap.size w w') : ClP w' base v xs := by
  rcases h with h | ⟨g, cap, e, h1, h2, h3, h4⟩
  · exact .inl h
  · exact .inr ⟨g, cap, e, h1, Nat.lt_of_lt_of_le h2 hb.size, h3, h4.below h2 hb⟩
theorem ClP.far {w w' : World} {base : Nat} {v : Value} {xs : List S27} (h : ClP w base v xs) (b : Nat) (hb : b ≤ base) (hk : ∀ k, base ≤ k → w'.heap[k]? = w.heap[k]?) (hz : w.heap.size ≤ w'.heap.size) : ClP w' b v xs := by
  rcases h with h | ⟨g, cap, e, h1, h2, h3, h4⟩
  · exact .inl h
  · exact .inr ⟨g, cap, e, Nat.le_trans hb h1, Nat.lt_of_lt_of_le h2 hz, h3, h4.same (hk g h1)⟩
theorem ClP.form {w : World} {base : Nat} {v : Value} {xs : List S27} (h : ClP w base v xs) : ∃ A n c, v = .slice A n c := by
  rcases h with ⟨rfl, _⟩ | ⟨g, cap, rfl, _⟩
  · exact ⟨_, _, _, rfl⟩
  · exact ⟨_, _, _, rfl⟩
theorem ClP.reads {w : World} {base : Nat} {v : Value} {xs : List S27} (h : ClP w base v xs) (hl : xs.length ≤ 9223372036854775807) : ∃ A c, v = .slice A xs.length c ∧ xs.length ≤ c ∧ Kd.C k27 w A xs.length xs := by
  rcases h with ⟨rfl, rfl⟩ | ⟨g, cap, e, h1, h2, h3, h4⟩
  · exact ⟨none, 0, rfl, Nat.le_refl _, (Kd.R_reads' (Kd.R_nil k27 27 w 0 (fun _ => True))).2.2⟩
  · exact ⟨_, cap, e, h3, h4.C hl⟩
theorem clone_P (xs : List S27) (A : Option Addr) (c : Nat) (w : World) (hC : Kd.C k27 w A xs.length xs) (hl : xs.length * 32 ≤ 140737488355328) :
    Calls Try.prog 29 #[.slice A xs.length c] w fun e w' => ∃ v, e = .returned v ∧ ClP w' w.heap.size v xs ∧ Below w.heap.size w w' := by
  refine (clone_RowP xs A c w hC hl).mono ?_
  rintro e w' (⟨rfl, rfl, rfl⟩ | ⟨_, g, cap, rfl, h1, h2, h3, h4, h5⟩)
  · refine ⟨_, rfl, .inl ⟨rfl, ?_⟩, Below.refl _ _⟩
    cases xs with
    | nil => rfl
    | cons y r =>
      obtain ⟨ad, e, _⟩ := at_T27 hC 0 (by decide) (by simp only [List.length_cons]; omega)
      cases e
  · exact ⟨_, rfl, .inr ⟨g, cap, rfl, h1, h2, h3, h4⟩, h5⟩
theorem delf_P (p : S27 → Bool) (g : Nat) (lb : Array Value) (eg : ∀ args w, (callFunc g args).run Try.prog w = .ok (.enter g args) w) (w0 w : World) (v : Value) (xs : List S27) (hv : ClP w w0.heap.size v xs) (hl : xs.length ≤ 4611686018427387904) (hB : Below w0.heap.size w0 w)
    (hp : ∀ (W : World) (x : S27), Below w0.heap.size w0 W → Calls Try.prog g (#[pv x] ++ lb) W fun e w' => e = .returned (.bool (p x)) ∧ Below W.heap.size W w') :
    Calls Try.prog 28 #[v, .func (.func g) #[] lb] w fun e w' => ∃ v', e = .returned v' ∧ ClP w' w0.heap.size v' (xs.filter fun x => !p x) ∧ Below w0.heap.size w0 w' := by
  rcases hv with ⟨rfl, rfl⟩ | ⟨gb, cap, rfl, h1, h2, h3, h4⟩
  · have hi := idxf_point p g lb eg none [] 0 w (Kd.R_reads' (Kd.R_nil k27 27 w 0 (fun _ => True))).2.2 (fun W x hx => by cases hx)
    rw [show idxF p [] = -1 from rfl] at hi
    have hi2 : Calls Try.prog 38 #[.slice none 0 0, .func (.func g) #[] lb] w fun e w' => e = .returned (.int .i64 (-1)) ∧ Below w.heap.size w w' := hi
    have HB := Aside0.mk hB
    clear hi hp hB
    go_enter Try.func28, Try.ntmps28
    go_wp2_with (go_at_call 38; refine hi2.mono ?_; rintro e w' ⟨rfl, hb⟩)
    go_ret
    exact ⟨_, rfl, .inl ⟨rfl, rfl⟩, below_step HB.out hb⟩
  · refine (delf_RowP p g lb eg w0 gb cap xs w h4 hl h3 h1 hB hp).mono ?_
    rintro e w' ⟨rfl, h5, h6, h7⟩
    exact ⟨_, rfl, .inr ⟨gb, cap, rfl, h1, Nat.lt_of_lt_of_le h2 h7, Nat.le_trans (List.length_filter_le _ _) h3, h5⟩, h6⟩
/-- A row of one's own, or none. -/
def ClS (W : World) (base : Nat) (v : Value) (xs : List S50) : Prop := (v = .slice none 0 0 ∧ xs = []) ∨ ∃ g cap, v = .slice (some ⟨g, 0, none⟩) xs.length cap ∧ base ≤ g ∧ g < W.heap.size ∧ xs.length ≤ cap ∧ RowS W g xs
theorem ClS.below {w w' : World} {base : Nat} {v : Value} {xs : List S50} (h : ClS w base v xs) (hb : Below w.heap.size w w') : ClS w' base v xs := by
  rcases h with h | ⟨g, cap, e, h1, h2, h3, h4⟩
  · exact .inl h
  · exact .inr ⟨g, cap, e, h1, Nat.lt_of_lt_of_le h2 hb.size, h3, h4.below h2 hb⟩
theorem ClS.far {w w' : World} {base : Nat} {v : Value} {xs : List S50} (h : ClS w base v xs) (b : Nat) (hb : b ≤ base) (hk : ∀ k, base ≤ k → w'.heap[k]? = w.heap[k]?) (hz : w.heap.size ≤ w'.heap.size) : ClS w' b v xs := by
  rcases h with h | ⟨g, cap, e, h1, h2, h3, h4⟩
  · exact .inl h
  · exact .inr ⟨g, cap, e, Nat.le_trans hb h1, Nat.lt_of_lt_of_le h2 hz, h3, h4.same (hk g h1)⟩
theorem ClS.form {w : World} {base : Nat} {v : Value} {xs : List S50} (h : ClS w base v xs) : ∃ A n c, v = .slice A n c := by
  rcases h with ⟨rfl, _⟩ | ⟨g, cap, rfl, _⟩
  · exact ⟨_, _, _, rfl⟩
  · exact ⟨_, _, _, rfl⟩
theorem ClS.reads {w : World} {base : Nat} {v : Value} {xs : List S50} (h : ClS w base v xs) (hl : xs.length ≤ 9223372036854775807) : ∃ A c, v = .slice A xs.length c ∧ xs.length ≤ c ∧ Kd.C k50 w A xs.length xs := by
  rcases h with ⟨rfl, rfl⟩ | ⟨g, cap, e, h1, h2, h3, h4⟩
  · exact ⟨none, 0, rfl, Nat.le_refl _, (Kd.R_reads' (Kd.R_nil k50 50 w 0 (fun _ => True))).2.2⟩
  · exact ⟨_, cap, e, h3, h4.C hl⟩
theorem clone_S (xs : List S50) (A : Option Addr) (c : Nat) (w : World) (hC : Kd.C k50 w A xs.length xs) (hl : xs.length * 56 ≤ 140737488355328) :
    Calls Try.prog 31 #[.slice A xs.length c] w fun e w' => ∃ v, e = .returned v ∧ ClS w' w.heap.size v xs ∧ Below w.heap.size w w' := by
  refine (clone_RowS xs A c w hC hl).mono ?_
  rintro e w' (⟨rfl, rfl, rfl⟩ | ⟨_, g, cap, rfl, h1, h2, h3, h4, h5⟩)
  · refine ⟨_, rfl, .inl ⟨rfl, ?_⟩, Below.refl _ _⟩
    cases xs with
    | nil => rfl
    | cons y r =>
      obtain ⟨ad, e, _⟩ := at_T50 hC 0 (by decide) (by simp only [List.length_cons]; omega)
      cases e
  · exact ⟨_, rfl, .inr ⟨g, cap, rfl, h1, h2, h3, h4⟩, h5⟩
theorem delf_S (p : S50 → Bool) (g : Nat) (lb : Array Value) (eg : ∀ args w, (callFunc g args).run Try.prog w = .ok (.enter g args) w) (w0 w : World) (v : Value) (xs : List S50) (hv : ClS w w0.heap.size v xs) (hl : xs.length ≤ 4611686018427387904) (hB : Below w0.heap.size w0 w)
    (hp : ∀ (W : World) (x : S50), Below w0.heap.size w0 W → Calls Try.prog g (#[sv x] ++ lb) W fun e w' => e = .returned (.bool (p x)) ∧ Below W.heap.size W w') :
    Calls Try.prog 30 #[v, .func (.func g) #[] lb] w fun e w' => ∃ v', e = .returned v' ∧ ClS w' w0.heap.size v' (xs.filter fun x => !p x) ∧ Below w0.heap.size w0 w' := by
  rcases hv with ⟨rfl, rfl⟩ | ⟨gb, cap, rfl, h1, h2, h3, h4⟩
  · have hi := idxf_span p g lb eg none [] 0 w (Kd.R_reads' (Kd.R_nil k50 50 w 0 (fun _ => True))).2.2 (fun W x hx => by cases hx)
    rw [show idxF p [] = -1 from rfl] at hi
    have hi2 : Calls Try.prog 36 #[.slice none 0 0, .func (.func g) #[] lb] w fun e w' => e = .returned (.int .i64 (-1)) ∧ Below w.heap.size w w' := hi
    have HB := Aside0.mk hB
    clear hi hp hB
    go_enter Try.func30, Try.ntmps30
    go_wp2_with (go_at_call 36; refine hi2.mono ?_; rintro e w' ⟨rfl, hb⟩)
    go_ret
    exact ⟨_, rfl, .inl ⟨rfl, rfl⟩, below_step HB.out hb⟩
  · refine (delf_RowS p g lb eg w0 gb cap xs w h4 hl h3 h1 hB hp).mono ?_
    rintro e w' ⟨rfl, h5, h6, h7⟩
    exact ⟨_, rfl, .inr ⟨gb, cap, rfl, h1, Nat.lt_of_lt_of_le h2 h7, Nat.le_trans (List.length_filter_le _ _) h3, h5⟩, h6⟩
set_option maxHeartbeats 4000000 in
theorem in_point (x : S27) (t : Int) (b : Nat) (w : World) (hb : w.heap[b]? = some (.cells #[.int .i64 t] 3)) :
    Calls Try.prog 27 (#[pv x] ++ #[.pointer (some ⟨b, 0, none⟩)]) w fun e w' => e = .returned (.bool (x.f0 == t)) ∧ Below w.heap.size w w' := by
  have h0 : w.cell? ⟨b, 0, none⟩ = some (.int .i64 t) := cell_of hb 0
  have hlt := lt_of hb
  have n1 : (b = w.heap.size) = False := eq_false (by omega)
  clear hb
  unfold pv
  go_enter Try.func27, Try.ntmps27
  go_wp2
  go_ret
  exact ⟨rfl, below_alloc (Below.refl _ _) _⟩
theorem enter27 : ∀ args w, (callFunc 27 args).run Try.prog w = .ok (.enter 27 args) w := fun args w => by simp [go_sem]
set_option maxHeartbeats 4000000 in
theorem in_span (x : S50) (t : Int) (b : Nat) (w : World) (hb : w.heap[b]? = some (.cells #[.int .i64 t] 3)) :
    Calls Try.prog 32 (#[sv x] ++ #[.pointer (some ⟨b, 0, none⟩)]) w fun e w' => e = .returned (.bool (x.f0 == t)) ∧ Below w.heap.size w w' := by
  have h0 : w.cell? ⟨b, 0, none⟩ = some (.int .i64 t) := cell_of hb 0
  have hlt := lt_of hb
  have n1 : (b = w.heap.size) = False := eq_false (by omega)
  clear hb
  unfold sv
  go_enter Try.func32, Try.ntmps32
  go_wp2
  go_ret
  exact ⟨rfl, below_alloc (Below.refl _ _) _⟩
theorem enter32 : ∀ args w, (callFunc 32 args).run Try.prog w = .ok (.enter 32 args) w := fun args w => by simp [go_sem]
def T12 : Bool × List (List Nat × List Nat) := (true, [([], []), ([0], [0]), ([1], [1]), ([], []), ([2, 3, 2], [2, 3]), ([], []), ([5], [5]), ([6, 4], [6]), ([], []), ([7, 8, 7], [7, 8]), ([], []), ([10], [10]), ([11, 9], [11]), ([], []), ([12, 13, 12], [12, 13]), ([4, 9, 14], [4, 9, 14]), ([15, 14, 0, 1, 2, 3, 4, 5, 6, 7, 8, 9, 10, 11, 12, 13, 14, 15], [15])])
theorem tab12 : rtab .any (opsOf Try.f12 2) = T12 := by kernel_rfl
set_option maxHeartbeats 8000000 in
set_option maxRecDepth 100000 in
theorem without_any (ps : List S27) (ss : List S50) (ws : List S27) (A0 A1 A2 : Option Addr) (c0 c1 c2 : Nat) (t : Int) (w : World) (h0 : Kd.C k27 w A0 ps.length ps) (h1 : Kd.C k50 w A1 ss.length ss) (h2 : Kd.C k27 w A2 ws.length ws)
    (hl0 : ps.length * 32 ≤ 140737488355328) (hl1 : ss.length * 56 ≤ 140737488355328) (hl2 : ws.length * 32 ≤ 140737488355328) :
    Calls Try.prog 12 #[.agg #[.slice A0 ps.length c0, .slice A1 ss.length c1, .slice A2 ws.length c2], .int .i64 t] w fun e w' => ∃ v0 v1 v2, e = .returned (.agg #[v0, v1, v2]) ∧ ClP w' w.heap.size v0 (ps.filter fun x => !(x.f0 == t)) ∧ ClS w' w.heap.size v1 (ss.filter fun x => !(x.f0 == t)) ∧ ClP w' w.heap.size v2 (ws.filter fun x => !(x.f0 == t)) ∧ Below w.heap.size w w' := by
  generalize hW : ((w.alloc (.cells #[.slice A0 ps.length c0, .slice A1 ss.length c1, .slice A2 ws.length c2] 25)).alloc (.cells #[.int .i64 t] 3)).alloc (.cells #[.slice none 0 0, .slice none 0 0, .slice none 0 0] 25) = w1
  have hB1 : Below w.heap.size w w1 := by rw [← hW]; exact below_alloc (below_alloc (below_alloc (Below.refl _ _) _) _) _
  have b0 : w1.heap[w.heap.size]? = some (.cells #[.slice A0 ps.length c0, .slice A1 ss.length c1, .slice A2 ws.length c2] 25) := by rw [← hW]; exact heap_old (heap_old (heap_new _ _))
  have b1 : w1.heap[w.heap.size + 1]? = some (.cells #[.int .i64 t] 3) := by rw [← hW]; have := heap_new (w.alloc (.cells #[.slice A0 ps.length c0, .slice A1 ss.length c1, .slice A2 ws.length c2] 25)) (.cells #[.int .i64 t] 3); rw [size_new] at this; exact heap_old this
  have b2 : w1.heap[w.heap.size + 1 + 1]? = some (.cells #[.slice none 0 0, .slice none 0 0, .slice none 0 0] 25) := by rw [← hW]; have := heap_new ((w.alloc (.cells #[.slice A0 ps.length c0, .slice A1 ss.length c1, .slice A2 ws.length c2] 25)).alloc (.cells #[.int .i64 t] 3)) (.cells #[.slice none 0 0, .slice none 0 0, .slice none 0 0] 25); rw [size_new, size_new] at this; exact this
  have HC0 := Aside0.mk h0
  have HC1 := Aside0.mk h1
  have HC2 := Aside0.mk h2
  have HB1 := Aside0.mk hB1
  have HW := Aside0.mk hW
  have D0 := Aside0.mk b0
  have D1 := Aside0.mk b1
  have D2 := Aside0.mk b2
  clear h0 h1 h2 hB1 hW b0 b1 b2
  go_enter Try.func12, Try.ntmps12
  go_wp2
  rw [HW.out]
  clear HW
  have m0 : w1.cell? ⟨w.heap.size, 0, none⟩ = some (.slice A0 ps.length c0) := cell_of D0.out 0
  have m1 : w1.cell? ⟨w.heap.size, 1, none⟩ = some (.slice A1 ss.length c1) := cell_of D0.out 1
  have m2 : w1.cell? ⟨w.heap.size, 2, none⟩ = some (.slice A2 ws.length c2) := cell_of D0.out 2
  refine start_ (n := 17) (S := fun w' => w'.cell? ⟨w.heap.size, 0, none⟩ = some (.slice A0 ps.length c0) ∧ w'.cell? ⟨w.heap.size, 1, none⟩ = some (.slice A1 ss.length c1) ∧ w'.cell? ⟨w.heap.size, 2, none⟩ = some (.slice A2 ws.length c2)) (ds := [16]) #[false, false, false, false, false, false, false, false, false, false, false, false, false, false, false, false, false] (by kernel_rfl) rfl rfl ⟨m0, m1, m2⟩ (fun hHeld => ?_); refine with_tab tab12 (fun HT_ => ?_)
  have HB2 := Aside0.mk (below_drew1 (Below.refl w1.heap.size w1))
  generalize w1.drew = w2 at HB2 hHeld ⊢
  clear m0 m1 m2
  refine pure_ (i := 0) (N := some 7) (v := ?_) (a' := ?_) #[true, false, false, false, false, false, false, false, false, false, false, false, false, false, false, false, false] rfl rfl (any_of HT_.out (by kernel_rfl)) (fun _ _ _ h => h) (Or.inl ⟨by rfl, ?_⟩) ?_ ?_
  rotate_left
  · intro w'
    go_simp
    with_reducible rfl
  rotate_left
  · simp only [Act.put, List.setIfInBounds_toArray, List.set_cons_zero, List.set_cons_succ, i64_w, i32_w]
    rfl
  refine take_ (i := 1) (N := some 8) (v := ?_) (a' := ?_) #[true, true, false, false, false, false, false, false, false, false, false, false, false, false, false, false, false] rfl rfl (take_of HT_.out (by kernel_rfl)) (fun _ _ _ h => h) (Or.inl ⟨by rfl, ?_⟩) hHeld ?_ ?_
  rotate_left
  · rintro w' ⟨s0, s1, s2⟩
    go_simp
    with_reducible rfl
  rotate_left
  · simp only [Act.put, List.setIfInBounds_toArray, List.set_cons_zero, List.set_cons_succ, i64_w, i32_w]
    rfl
  refine pure_ (i := 3) (N := some 10) (v := ?_) (a' := ?_) #[true, true, false, true, false, false, false, false, false, false, false, false, false, false, false, false, false] rfl rfl (any_of HT_.out (by kernel_rfl)) (fun _ _ _ h => h) (Or.inl ⟨by rfl, ?_⟩) ?_ ?_
  rotate_left
  · intro w'
    go_simp
    with_reducible rfl
  rotate_left
  · simp only [Act.put, List.setIfInBounds_toArray, List.set_cons_zero, List.set_cons_succ, i64_w, i32_w]
    rfl
  refine pure_ (i := 5) (N := some 12) (v := ?_) (a' := ?_) #[true, true, false, true, false, true, false, false, false, false, false, false, false, false, false, false, false] rfl rfl (any_of HT_.out (by kernel_rfl)) (fun _ _ _ h => h) (Or.inl ⟨by rfl, ?_⟩) ?_ ?_
  rotate_left
  · intro w'
    go_simp
    with_reducible rfl
  rotate_left
  · simp only [Act.put, List.setIfInBounds_toArray, List.set_cons_zero, List.set_cons_succ, i64_w, i32_w]
    rfl
  refine take_ (i := 6) (N := some 13) (v := ?_) (a' := ?_) #[true, true, false, true, false, true, true, false, false, false, false, false, false, false, false, false, false] rfl rfl (take_of HT_.out (by kernel_rfl)) (fun _ _ _ h => h) (Or.inl ⟨by rfl, ?_⟩) hHeld ?_ ?_
  rotate_left
  · rintro w' ⟨s0, s1, s2⟩
    go_simp
    with_reducible rfl
  rotate_left
  · simp only [Act.put, List.setIfInBounds_toArray, List.set_cons_zero, List.set_cons_succ, i64_w, i32_w]
    rfl
  refine pure_ (i := 8) (N := some 15) (v := ?_) (a' := ?_) #[true, true, false, true, false, true, true, false, true, false, false, false, false, false, false, false, false] rfl rfl (any_of HT_.out (by kernel_rfl)) (fun _ _ _ h => h) (Or.inl ⟨by rfl, ?_⟩) ?_ ?_
  rotate_left
  · intro w'
    go_simp
    with_reducible rfl
  rotate_left
  · simp only [Act.put, List.setIfInBounds_toArray, List.set_cons_zero, List.set_cons_succ, i64_w, i32_w]
    rfl
  refine pure_ (i := 10) (N := some 17) (v := ?_) (a' := ?_) #[true, true, false, true, false, true, true, false, true, false, true, false, false, false, false, false, false] rfl rfl (any_of HT_.out (by kernel_rfl)) (fun _ _ _ h => h) (Or.inl ⟨by rfl, ?_⟩) ?_ ?_
  rotate_left
  · intro w'
    go_simp
    with_reducible rfl
  rotate_left
  · simp only [Act.put, List.setIfInBounds_toArray, List.set_cons_zero, List.set_cons_succ, i64_w, i32_w]
    rfl
  refine take_ (i := 11) (N := some 18) (v := ?_) (a' := ?_) #[true, true, false, true, false, true, true, false, true, false, true, true, false, false, false, false, false] rfl rfl (take_of HT_.out (by kernel_rfl)) (fun _ _ _ h => h) (Or.inl ⟨by rfl, ?_⟩) hHeld ?_ ?_
  rotate_left
  · rintro w' ⟨s0, s1, s2⟩
    go_simp
    with_reducible rfl
  rotate_left
  · simp only [Act.put, List.setIfInBounds_toArray, List.set_cons_zero, List.set_cons_succ, i64_w, i32_w]
    rfl
  refine pure_ (i := 13) (N := some 20) (v := ?_) (a' := ?_) #[true, true, false, true, false, true, true, false, true, false, true, true, false, true, false, false, false] rfl rfl (any_of HT_.out (by kernel_rfl)) (fun _ _ _ h => h) (Or.inl ⟨by rfl, ?_⟩) ?_ ?_
  rotate_left
  · intro w'
    go_simp
    with_reducible rfl
  rotate_left
  · simp only [Act.put, List.setIfInBounds_toArray, List.set_cons_zero, List.set_cons_succ, i64_w, i32_w]
    rfl
  refine one_ (i := 2) (N := some 9) #[true, true, true, true, false, true, true, false, true, false, true, true, false, true, false, false, false] rfl rfl (one_of HT_.out (by kernel_rfl)) (by decide) (fun K hK => ?_)
  refine goes_ Try.func29 (by kernel_rfl) rfl #[.slice A0 ps.length c0] (by rfl) rfl rfl (by (try simp only [List.map_toArray, List.map_cons, List.map_nil]); first | done | rfl) ?_
  refine (clone_P ps A0 c0 w2 (Kd.C_below HC0.out (below_step HB1.out HB2.out)) hl0).mono ?_
  rintro e w3 ⟨v3, rfl, hv, hb⟩; have HV3 := Aside0.mk hv; have HB3' := Aside0.mk hb; have HB3 := Aside0.mk (below_step HB2.out hb); clear hv hb
  refine ⟨_, rfl, ?_⟩
  have hHn := (⟨(HB3.out.cell (World.block_lt_of_cell? _ _ (cell_of D0.out 0 : w1.cell? ⟨w.heap.size, 0, none⟩ = some (.slice A0 ps.length c0)))).trans (cell_of D0.out 0), (HB3.out.cell (World.block_lt_of_cell? _ _ (cell_of D0.out 1 : w1.cell? ⟨w.heap.size, 1, none⟩ = some (.slice A1 ss.length c1)))).trans (cell_of D0.out 1), (HB3.out.cell (World.block_lt_of_cell? _ _ (cell_of D0.out 2 : w1.cell? ⟨w.heap.size, 2, none⟩ = some (.slice A2 ws.length c2)))).trans (cell_of D0.out 2)⟩ : w3.cell? ⟨w.heap.size, 0, none⟩ = some (.slice A0 ps.length c0) ∧ w3.cell? ⟨w.heap.size, 1, none⟩ = some (.slice A1 ss.length c1) ∧ w3.cell? ⟨w.heap.size, 2, none⟩ = some (.slice A2 ws.length c2))
  refine hK.out _ _ hHn (fun hHeld3 => ?_)
  clear hHn
  clear hK K
  refine norm_ (a' := ?_) ?_ ?_
  rotate_left
  · show Act.put _ (some 9) _ = _
    simp only [Act.put, List.setIfInBounds_toArray, List.set_cons_zero, List.set_cons_succ, i64_w, i32_w]
    rfl
  refine one_ (i := 4) (N := some 11) #[true, true, true, true, true, true, true, false, true, false, true, true, false, true, false, false, false] rfl rfl (one_of HT_.out (by kernel_rfl)) (by decide) (fun K hK => ?_)
  refine goes_ Try.func28 (by kernel_rfl) rfl #[v3, .func (.func 27) #[] #[.pointer (some ⟨w.heap.size + 1, 0, none⟩)]] (by rfl) rfl rfl (by (try simp only [List.map_toArray, List.map_cons, List.map_nil]); first | done | rfl) ?_
  refine (delf_P (fun x => x.f0 == t) 27 #[.pointer (some ⟨w.heap.size + 1, 0, none⟩)] enter27 w2 w3 v3 ps HV3.out (by omega) HB3'.out (fun W x hW => in_point x t _ W ((hW.block _ (Nat.lt_of_lt_of_le (lt_of D1.out) HB2.out.size)).trans ((HB2.out.block _ (lt_of D1.out)).trans D1.out)))).mono ?_
  rintro e w4 ⟨v4, rfl, hv, hb⟩; have HV4 := Aside0.mk hv; have HB4 := Aside0.mk (below_step HB2.out hb); clear hv hb
  refine ⟨_, rfl, ?_⟩
  have hHn := (⟨(HB4.out.cell (World.block_lt_of_cell? _ _ (cell_of D0.out 0 : w1.cell? ⟨w.heap.size, 0, none⟩ = some (.slice A0 ps.length c0)))).trans (cell_of D0.out 0), (HB4.out.cell (World.block_lt_of_cell? _ _ (cell_of D0.out 1 : w1.cell? ⟨w.heap.size, 1, none⟩ = some (.slice A1 ss.length c1)))).trans (cell_of D0.out 1), (HB4.out.cell (World.block_lt_of_cell? _ _ (cell_of D0.out 2 : w1.cell? ⟨w.heap.size, 2, none⟩ = some (.slice A2 ws.length c2)))).trans (cell_of D0.out 2)⟩ : w4.cell? ⟨w.heap.size, 0, none⟩ = some (.slice A0 ps.length c0) ∧ w4.cell? ⟨w.heap.size, 1, none⟩ = some (.slice A1 ss.length c1) ∧ w4.cell? ⟨w.heap.size, 2, none⟩ = some (.slice A2 ws.length c2))
  refine hK.out _ _ hHn (fun hHeld4 => ?_)
  clear hHn
  clear hK K
  refine norm_ (a' := ?_) ?_ ?_
  rotate_left
  · show Act.put _ (some 11) _ = _
    simp only [Act.put, List.setIfInBounds_toArray, List.set_cons_zero, List.set_cons_succ, i64_w, i32_w]
    rfl
  refine one_ (i := 7) (N := some 14) #[true, true, true, true, true, true, true, true, true, false, true, true, false, true, false, false, false] rfl rfl (one_of HT_.out (by kernel_rfl)) (by decide) (fun K hK => ?_)
  refine goes_ Try.func31 (by kernel_rfl) rfl #[.slice A1 ss.length c1] (by rfl) rfl rfl (by (try simp only [List.map_toArray, List.map_cons, List.map_nil]); first | done | rfl) ?_
  refine (clone_S ss A1 c1 w4 (Kd.C_below HC1.out (below_step HB1.out HB4.out)) hl1).mono ?_
  rintro e w5 ⟨v5, rfl, hv, hb⟩; have HV5 := Aside0.mk hv; have HB5' := Aside0.mk hb; have HB5 := Aside0.mk (below_step HB4.out hb); clear hv hb
  refine ⟨_, rfl, ?_⟩
  have hHn := (⟨(HB5.out.cell (World.block_lt_of_cell? _ _ (cell_of D0.out 0 : w1.cell? ⟨w.heap.size, 0, none⟩ = some (.slice A0 ps.length c0)))).trans (cell_of D0.out 0), (HB5.out.cell (World.block_lt_of_cell? _ _ (cell_of D0.out 1 : w1.cell? ⟨w.heap.size, 1, none⟩ = some (.slice A1 ss.length c1)))).trans (cell_of D0.out 1), (HB5.out.cell (World.block_lt_of_cell? _ _ (cell_of D0.out 2 : w1.cell? ⟨w.heap.size, 2, none⟩ = some (.slice A2 ws.length c2)))).trans (cell_of D0.out 2)⟩ : w5.cell? ⟨w.heap.size, 0, none⟩ = some (.slice A0 ps.length c0) ∧ w5.cell? ⟨w.heap.size, 1, none⟩ = some (.slice A1 ss.length c1) ∧ w5.cell? ⟨w.heap.size, 2, none⟩ = some (.slice A2 ws.length c2))
  refine hK.out _ _ hHn (fun hHeld5 => ?_)
  clear hHn
  clear hK K
  refine norm_ (a' := ?_) ?_ ?_
  rotate_left
  · show Act.put _ (some 14) _ = _
    simp only [Act.put, List.setIfInBounds_toArray, List.set_cons_zero, List.set_cons_succ, i64_w, i32_w]
    rfl
  refine one_ (i := 9) (N := some 16) #[true, true, true, true, true, true, true, true, true, true, true, true, false, true, false, false, false] rfl rfl (one_of HT_.out (by kernel_rfl)) (by decide) (fun K hK => ?_)
  refine goes_ Try.func30 (by kernel_rfl) rfl #[v5, .func (.func 32) #[] #[.pointer (some ⟨w.heap.size + 1, 0, none⟩)]] (by rfl) rfl rfl (by (try simp only [List.map_toArray, List.map_cons, List.map_nil]); first | done | rfl) ?_
  refine (delf_S (fun x => x.f0 == t) 32 #[.pointer (some ⟨w.heap.size + 1, 0, none⟩)] enter32 w4 w5 v5 ss HV5.out (by omega) HB5'.out (fun W x hW => in_span x t _ W ((hW.block _ (Nat.lt_of_lt_of_le (lt_of D1.out) HB4.out.size)).trans ((HB4.out.block _ (lt_of D1.out)).trans D1.out)))).mono ?_
  rintro e w6 ⟨v6, rfl, hv, hb⟩; have HV6 := Aside0.mk hv; have HB6' := Aside0.mk hb; have HB6 := Aside0.mk (below_step HB4.out hb); clear hv hb
  refine ⟨_, rfl, ?_⟩
  have hHn := (⟨(HB6.out.cell (World.block_lt_of_cell? _ _ (cell_of D0.out 0 : w1.cell? ⟨w.heap.size, 0, none⟩ = some (.slice A0 ps.length c0)))).trans (cell_of D0.out 0), (HB6.out.cell (World.block_lt_of_cell? _ _ (cell_of D0.out 1 : w1.cell? ⟨w.heap.size, 1, none⟩ = some (.slice A1 ss.length c1)))).trans (cell_of D0.out 1), (HB6.out.cell (World.block_lt_of_cell? _ _ (cell_of D0.out 2 : w1.cell? ⟨w.heap.size, 2, none⟩ = some (.slice A2 ws.length c2)))).trans (cell_of D0.out 2)⟩ : w6.cell? ⟨w.heap.size, 0, none⟩ = some (.slice A0 ps.length c0) ∧ w6.cell? ⟨w.heap.size, 1, none⟩ = some (.slice A1 ss.length c1) ∧ w6.cell? ⟨w.heap.size, 2, none⟩ = some (.slice A2 ws.length c2))
  refine hK.out _ _ hHn (fun hHeld6 => ?_)
  clear hHn
  clear hK K
  refine norm_ (a' := ?_) ?_ ?_
  rotate_left
  · show Act.put _ (some 16) _ = _
    simp only [Act.put, List.setIfInBounds_toArray, List.set_cons_zero, List.set_cons_succ, i64_w, i32_w]
    rfl
  refine one_ (i := 12) (N := some 19) #[true, true, true, true, true, true, true, true, true, true, true, true, true, true, false, false, false] rfl rfl (one_of HT_.out (by kernel_rfl)) (by decide) (fun K hK => ?_)
  refine goes_ Try.func29 (by kernel_rfl) rfl #[.slice A2 ws.length c2] (by rfl) rfl rfl (by (try simp only [List.map_toArray, List.map_cons, List.map_nil]); first | done | rfl) ?_
  refine (clone_P ws A2 c2 w6 (Kd.C_below HC2.out (below_step HB1.out HB6.out)) hl2).mono ?_
  rintro e w7 ⟨v7, rfl, hv, hb⟩; have HV7 := Aside0.mk hv; have HB7' := Aside0.mk hb; have HB7 := Aside0.mk (below_step HB6.out hb); clear hv hb
  refine ⟨_, rfl, ?_⟩
  have hHn := (⟨(HB7.out.cell (World.block_lt_of_cell? _ _ (cell_of D0.out 0 : w1.cell? ⟨w.heap.size, 0, none⟩ = some (.slice A0 ps.length c0)))).trans (cell_of D0.out 0), (HB7.out.cell (World.block_lt_of_cell? _ _ (cell_of D0.out 1 : w1.cell? ⟨w.heap.size, 1, none⟩ = some (.slice A1 ss.length c1)))).trans (cell_of D0.out 1), (HB7.out.cell (World.block_lt_of_cell? _ _ (cell_of D0.out 2 : w1.cell? ⟨w.heap.size, 2, none⟩ = some (.slice A2 ws.length c2)))).trans (cell_of D0.out 2)⟩ : w7.cell? ⟨w.heap.size, 0, none⟩ = some (.slice A0 ps.length c0) ∧ w7.cell? ⟨w.heap.size, 1, none⟩ = some (.slice A1 ss.length c1) ∧ w7.cell? ⟨w.heap.size, 2, none⟩ = some (.slice A2 ws.length c2))
  refine hK.out _ _ hHn (fun hHeld7 => ?_)
  clear hHn
  clear hK K
  refine norm_ (a' := ?_) ?_ ?_
  rotate_left
  · show Act.put _ (some 19) _ = _
    simp only [Act.put, List.setIfInBounds_toArray, List.set_cons_zero, List.set_cons_succ, i64_w, i32_w]
    rfl
  refine one_ (i := 14) (N := some 21) #[true, true, true, true, true, true, true, true, true, true, true, true, true, true, true, false, false] rfl rfl (one_of HT_.out (by kernel_rfl)) (by decide) (fun K hK => ?_)
  refine goes_ Try.func28 (by kernel_rfl) rfl #[v7, .func (.func 27) #[] #[.pointer (some ⟨w.heap.size + 1, 0, none⟩)]] (by rfl) rfl rfl (by (try simp only [List.map_toArray, List.map_cons, List.map_nil]); first | done | rfl) ?_
  refine (delf_P (fun x => x.f0 == t) 27 #[.pointer (some ⟨w.heap.size + 1, 0, none⟩)] enter27 w6 w7 v7 ws HV7.out (by omega) HB7'.out (fun W x hW => in_point x t _ W ((hW.block _ (Nat.lt_of_lt_of_le (lt_of D1.out) HB6.out.size)).trans ((HB6.out.block _ (lt_of D1.out)).trans D1.out)))).mono ?_
  rintro e w8 ⟨v8, rfl, hv, hb⟩; have HV8 := Aside0.mk hv; have HB8' := Aside0.mk hb; have HB8 := Aside0.mk (below_step HB6.out hb); clear hv hb
  refine ⟨_, rfl, ?_⟩
  have hHn := (⟨(HB8.out.cell (World.block_lt_of_cell? _ _ (cell_of D0.out 0 : w1.cell? ⟨w.heap.size, 0, none⟩ = some (.slice A0 ps.length c0)))).trans (cell_of D0.out 0), (HB8.out.cell (World.block_lt_of_cell? _ _ (cell_of D0.out 1 : w1.cell? ⟨w.heap.size, 1, none⟩ = some (.slice A1 ss.length c1)))).trans (cell_of D0.out 1), (HB8.out.cell (World.block_lt_of_cell? _ _ (cell_of D0.out 2 : w1.cell? ⟨w.heap.size, 2, none⟩ = some (.slice A2 ws.length c2)))).trans (cell_of D0.out 2)⟩ : w8.cell? ⟨w.heap.size, 0, none⟩ = some (.slice A0 ps.length c0) ∧ w8.cell? ⟨w.heap.size, 1, none⟩ = some (.slice A1 ss.length c1) ∧ w8.cell? ⟨w.heap.size, 2, none⟩ = some (.slice A2 ws.length c2))
  refine hK.out _ _ hHn (fun hHeld8 => ?_)
  clear hHn
  clear hK K
  refine norm_ (a' := ?_) ?_ ?_
  rotate_left
  · show Act.put _ (some 21) _ = _
    simp only [Act.put, List.setIfInBounds_toArray, List.set_cons_zero, List.set_cons_succ, i64_w, i32_w]
    rfl
  obtain ⟨A4, n4, c4_, rfl⟩ := HV4.out.form
  obtain ⟨A6, n6, c6_, rfl⟩ := HV6.out.form
  obtain ⟨A8, n8, c8_, rfl⟩ := HV8.out.form
  refine pure_ (i := 15) (N := some 22) (v := ?_) (a' := ?_) #[true, true, true, true, true, true, true, true, true, true, true, true, true, true, true, true, false] rfl rfl (any_of HT_.out (by kernel_rfl)) (fun _ _ _ h => h) (Or.inl ⟨by rfl, ?_⟩) ?_ ?_
  rotate_left
  · intro w'
    go_simp
    with_reducible rfl
  rotate_left
  · simp only [Act.put, List.setIfInBounds_toArray, List.set_cons_zero, List.set_cons_succ, i64_w, i32_w]
    rfl
  refine last_ (i := 16) (N := none) #[true, true, true, true, true, true, true, true, true, true, true, true, true, true, true, true, true] rfl rfl (one_of HT_.out (by kernel_rfl)) (by decide) (fun K hK => ?_)
  have D8 := Aside0.mk ((HB8.out.block _ (lt_of D2.out)).trans D2.out)
  have q0 : w8.cell? ⟨w.heap.size + 1 + 1, 0, none⟩ = some (.slice none 0 0) := cell_of D8.out 0
  have z0 : w8.frozen? ⟨w.heap.size + 1 + 1, 0, none⟩ = false := frozen_of D8.out 0
  have q1 : w8.cell? ⟨w.heap.size + 1 + 1, 1, none⟩ = some (.slice none 0 0) := cell_of D8.out 1
  have z1 : w8.frozen? ⟨w.heap.size + 1 + 1, 1, none⟩ = false := frozen_of D8.out 1
  have q2 : w8.cell? ⟨w.heap.size + 1 + 1, 2, none⟩ = some (.slice none 0 0) := cell_of D8.out 2
  have z2 : w8.frozen? ⟨w.heap.size + 1 + 1, 2, none⟩ = false := frozen_of D8.out 2
  refine skip_ (w1 := ?_) (by rfl) rfl ?_ ?_
  rotate_left
  · go_simp
    rfl
  refine hK.out _ _ ?_
  refine done_ (done_of HT_.out (by kernel_rfl)) ?_
  go_wp2
  refine bodyPost_ret (results_c1 rfl _ _ (w.heap.size + 1 + 1) 25 #[.slice A4 n4 c4_, .slice A6 n6 c6_, .slice A8 n8 c8_] (0, 0) _ rfl (setCell_heap (setCell_heap (setCell_heap D8.out _) _) _) Try.underlying25 rfl (by kernel_rfl)) rfl ?_
  have hz1 := lt_of D2.out
  have hk : ∀ (u v x : Value), ((w8.setCell ⟨w.heap.size + 1 + 1, 0, none⟩ u).setCell ⟨w.heap.size + 1 + 1, 1, none⟩ v).setCell ⟨w.heap.size + 1 + 1, 2, none⟩ x = w8.setCells (w.heap.size + 1 + 1) 0 [u, v, x] := fun u v x => rfl
  rw [hk]
  have hs : ∀ vs : List Value, Below w1.heap.size w1 w8 → ∀ k, k ≠ w.heap.size + 1 + 1 → (w8.setCells (w.heap.size + 1 + 1) 0 vs).heap[k]? = w8.heap[k]? := fun vs _ k hk => setCells_far vs 0 k hk
  have hzz := fun vs => (setCells_same (w.heap.size + 1 + 1) vs 0 w8).2.2.2
  have z2 := HB2.out.size; have z4 := HB4.out.size; have z6 := HB6.out.size
  refine ⟨_, _, _, rfl, ?_, ?_, ?_, ?_⟩
  · exact ((HV4.out.below HB6'.out).below HB8'.out).far w.heap.size (by omega) (fun k hk => hs _ HB8.out k (by omega)) (Nat.le_of_eq (hzz _).symm)
  · exact (HV6.out.below HB8'.out).far w.heap.size (by omega) (fun k hk => hs _ HB8.out k (by omega)) (Nat.le_of_eq (hzz _).symm)
  · exact HV8.out.far w.heap.size (by omega) (fun k hk => hs _ HB8.out k (by omega)) (Nat.le_of_eq (hzz _).symm)
  · exact below_sets (by show w.heap.size ≤ w.heap.size + 1 + 1; omega) _ _ (below_step HB1.out HB8.out)
def T20_3 : Bool × List (List Nat × List Nat) := (true, [([], []), ([], []), ([1], [1]), ([2], [2]), ([0, 3], [0, 3]), ([4], [4]), ([], []), ([], []), ([7], [7]), ([8], [8]), ([6, 9], [6, 9]), ([10, 5], [10]), ([5, 11, 0, 1, 2, 3, 4, 5], [5]), ([11, 12, 0, 1, 2, 3, 4, 5, 6, 7, 8, 9, 10, 11, 12], [11])])
theorem tab20_3 : rtab .any (opsOf Try.f20 3) = T20_3 := by kernel_rfl
def T20_6 : Bool × List (List Nat × List Nat) := (true, [([], []), ([0], [0]), ([1], [1]), ([2], [2]), ([3], [3]), ([4, 3], [3, 4]), ([5, 3], [3, 5]), ([6, 3, 3], [3, 6]), ([7], [7]), ([8, 7], [7, 8]), ([9, 7], [7, 9]), ([7], [7]), ([11, 7], [7, 11]), ([12, 7], [7, 12]), ([10, 13, 7, 7], [7, 10, 13]), ([14, 7], [7, 14]), ([7, 15, 3], [3, 7, 15]), ([3, 16], [3, 16])])
theorem tab20_6 : rtab .any (opsOf Try.f20 6) = T20_6 := by kernel_rfl
def T20_9 : Bool × List (List Nat × List Nat) := (true, [([], []), ([0], [0]), ([1], [1]), ([2], [2]), ([3], [3]), ([4, 3], [3, 4]), ([5, 3], [3, 5]), ([3], [3]), ([7, 3], [3, 7]), ([8, 3], [3, 8]), ([6, 9, 3, 3], [3, 6, 9]), ([10, 3], [3, 10]), ([3, 11], [3, 11])])
theorem tab20_9 : rtab .any (opsOf Try.f20 9) = T20_9 := by kernel_rfl
theorem add_zero_ (a : Addr) : a.add 0 = a := by cases a; simp [Addr.add]
/-- append(v, p), p being boxed as_ one element. -/
theorem app27 {ops : Array Oper} {rest : List Oper} {o : Oper} {a : Act} {Q : Exit → Act → World → Prop} {w0 W : World} {base n0 : Nat} (hgd : o.guard = none) (s x : Operand) (ho : o.op = .call { callee := .builtin .append, args := #[s, x], argTypes := #[22, 22] })
    (v : Value) (xs : List S27) (p : S27) (hs : a.eval s = v) (hx : a.eval x = .slice (some ⟨n0, 0, none⟩) 1 1) (hn0 : n0 = W.heap.size) {ok : Nat → Prop} (hok : ∀ k, W.heap.size ≤ k → ok k)
    (HO : Kd.R k27 27 W base ok v xs) (HB : Below base w0 W) (hbase : base ≤ W.heap.size) (hl : (xs.length + 1) * 32 ≤ 140737488355328)
    (h : ∀ v1 w1, Kd.R k27 27 w1 base ok v1 (xs ++ [p]) → Below base w0 w1 → W.grownBy w1 v.ownBlock → wpList Try.prog ops Q rest (a.put o.dst v1) w1) :
    wpList Try.prog ops Q (o :: rest) a (W.alloc (.cells #[.int .i64 p.f0, .int .i64 p.f1, .string p.f2] 27)) := by
  subst hn0
  refine Kd.R_append k27 (w0 := w0) (W := W) base hgd s x 22 27 (.agg #[(.int .i64 0), (.int .i64 0), (.string ⟨#[]⟩)]) 32 ho Try.underlying22 info27 rfl (by decide) (by omega) v xs p [.int .i64 p.f0, .int .i64 p.f1, .string p.f2] ok (fun _ => False) hs hx (k27_mkM _ _ _ p) (fun _ hk => hk.elim) hok HO HB hbase hl ?_
  intro v1 w1 ho hb hg _
  exact h v1 w1 ho hb hg
/-- What sorted tells. -/
def SortedAt (l : List S27) (w : World) (e : Ending) (w' : World) : Prop := ∃ (A' : Option Addr) (c' : Nat) (r : List S27), e = .returned (.slice A' r.length c') ∧ r.length ≤ c' ∧ Sorts l r ∧ Kd.C k27 w' A' r.length r ∧ Below w.heap.size w w'
set_option maxHeartbeats 8000000 in
set_option maxRecDepth 100000 in
theorem sorted_any : ∀ (N : Nat) (l : List S27) (A : Option Addr) (c : Nat) (w : World), l.length = N → Kd.C k27 w A l.length l → l.length ≤ c → l.length < 4398046511104 → Calls Try.prog 20 #[.slice A l.length c] w (SortedAt l w) := by
  intro N
  induction N using Nat.strongRecOn with
  | _ N ih =>
    intro l A c w hN hC hc hl
    subst hN
    have HC := Aside0.mk hC
    clear hC
    by_cases h2 : l.length < 2
    · have h2z : (l.length : Int) < 2 := by omega
      go_enter Try.func20, Try.ntmps20
      go_wp2
      go_ret
      exact ⟨A, c, l, rfl, hc, sorts_one h2, HC.out, Below.refl _ _⟩
    · have h2z : ¬ (l.length : Int) < 2 := by omega
      obtain ⟨h, hh⟩ : ∃ h, h = l.length / 2 := ⟨_, rfl⟩
      have hd0 : (l.length : Int) / 2 = (h : Int) := by omega
      have hd : IntKind.i64.wrap ((l.length : Int) / 2) = (h : Int) := by
        have e : IntKind.i64.wrap (h : Int) = wrap64 (h : Int) := i64_w _
        rw [hd0, e]
        exact wrap64_id (by omega) (by omega)
      clear hd0
      have h1 : 0 < h := by omega
      have h3 : h < l.length := by omega
      have h4 : (h : Int) ≤ (l.length : Int) := by omega
      have h5 : (h : Int) ≤ (c : Int) := by omega
      have HH := Aside0.mk hh
      clear hh
      have IH := Aside0.mk ih
      clear ih
      go_enter Try.func20, Try.ntmps20
      go_wp2
      refine start_ (n := 14) (S := fun w' => True) (ds := []) #[false, false, false, false, false, false, false, false, false, false, false, false, false, false] (by kernel_rfl) rfl rfl trivial (fun hHeld => ?_); refine with_tab tab20_3 (fun HT_ => ?_)
      have HB2 := Aside0.mk (below_drew1 (Below.refl w.heap.size w))
      generalize w.drew = w2 at HB2 hHeld ⊢
      refine pure_ (i := 0) (N := some 10) (v := ?_) (a' := ?_) #[true, false, false, false, false, false, false, false, false, false, false, false, false, false] rfl rfl (any_of HT_.out (by kernel_rfl)) (fun _ _ _ h => h) (Or.inl ⟨by rfl, ?_⟩) ?_ ?_
      rotate_left
      · intro w'
        go_simp
        with_reducible rfl
      rotate_left
      · simp only [Act.put, List.setIfInBounds_toArray, List.set_cons_zero, List.set_cons_succ, i64_w, i32_w]
        rfl
      refine pure_ (i := 1) (N := some 11) (v := ?_) (a' := ?_) #[true, true, false, false, false, false, false, false, false, false, false, false, false, false] rfl rfl (any_of HT_.out (by kernel_rfl)) (fun _ _ _ h => h) (Or.inl ⟨by rfl, ?_⟩) ?_ ?_
      rotate_left
      · intro w'
        go_simp
        with_reducible rfl
      rotate_left
      · simp only [Act.put, List.setIfInBounds_toArray, List.set_cons_zero, List.set_cons_succ, i64_w, i32_w]
        rfl
      refine pure_ (i := 2) (N := some 12) (v := ?_) (a' := ?_) #[true, true, true, false, false, false, false, false, false, false, false, false, false, false] rfl rfl (any_of HT_.out (by kernel_rfl)) (fun _ _ _ h => h) (Or.inl ⟨by rfl, ?_⟩) ?_ ?_
      rotate_left
      · intro w'
        go_simp
        with_reducible rfl
      rotate_left
      · simp only [Act.put, List.setIfInBounds_toArray, List.set_cons_zero, List.set_cons_succ, i64_w, i32_w]
        rfl
      refine pure_ (i := 3) (N := some 13) (v := ?_) (a' := ?_) #[true, true, true, true, false, false, false, false, false, false, false, false, false, false] rfl rfl (any_of HT_.out (by kernel_rfl)) (fun _ _ _ h => h) (Or.inl ⟨by rfl, ?_⟩) ?_ ?_
      rotate_left
      · intro w'
        go_simp
        with_reducible rfl
      rotate_left
      · simp only [Act.put, List.setIfInBounds_toArray, List.set_cons_zero, List.set_cons_succ, i64_w, i32_w]
        rfl
      refine pure_ (i := 4) (N := some 14) (v := ?_) (a' := ?_) #[true, true, true, true, true, false, false, false, false, false, false, false, false, false] rfl rfl (any_of HT_.out (by kernel_rfl)) (fun _ _ _ h => h) (Or.inl ⟨by rfl, ?_⟩) ?_ ?_
      rotate_left
      · intro w'
        go_simp
        with_reducible rfl
      rotate_left
      · simp only [Act.put, List.setIfInBounds_toArray, List.set_cons_zero, List.set_cons_succ, i64_w, i32_w]
        rfl
      refine pure_ (i := 6) (N := some 16) (v := ?_) (a' := ?_) #[true, true, true, true, true, false, true, false, false, false, false, false, false, false] rfl rfl (any_of HT_.out (by kernel_rfl)) (fun _ _ _ h => h) (Or.inl ⟨by rfl, ?_⟩) ?_ ?_
      rotate_left
      · intro w'
        go_simp
        with_reducible rfl
      rotate_left
      · simp only [Act.put, List.setIfInBounds_toArray, List.set_cons_zero, List.set_cons_succ, i64_w, i32_w]
        rfl
      refine pure_ (i := 7) (N := some 17) (v := ?_) (a' := ?_) #[true, true, true, true, true, false, true, true, false, false, false, false, false, false] rfl rfl (any_of HT_.out (by kernel_rfl)) (fun _ _ _ h => h) (Or.inl ⟨by rfl, ?_⟩) ?_ ?_
      rotate_left
      · intro w'
        go_simp
        with_reducible rfl
      rotate_left
      · simp only [Act.put, List.setIfInBounds_toArray, List.set_cons_zero, List.set_cons_succ, i64_w, i32_w]
        rfl
      refine pure_ (i := 8) (N := some 18) (v := ?_) (a' := ?_) #[true, true, true, true, true, false, true, true, true, false, false, false, false, false] rfl rfl (any_of HT_.out (by kernel_rfl)) (fun _ _ _ h => h) (Or.inl ⟨by rfl, ?_⟩) ?_ ?_
      rotate_left
      · intro w'
        go_simp
        with_reducible rfl
      rotate_left
      · simp only [Act.put, List.setIfInBounds_toArray, List.set_cons_zero, List.set_cons_succ, i64_w, i32_w]
        rfl
      refine pure_ (i := 9) (N := some 19) (v := ?_) (a' := ?_) #[true, true, true, true, true, false, true, true, true, true, false, false, false, false] rfl rfl (any_of HT_.out (by kernel_rfl)) (fun _ _ _ h => h) (Or.inl ⟨by rfl, ?_⟩) ?_ ?_
      rotate_left
      · intro w'
        go_simp
        with_reducible rfl
      rotate_left
      · simp only [Act.put, List.setIfInBounds_toArray, List.set_cons_zero, List.set_cons_succ, i64_w, i32_w]
        rfl
      refine pure_ (i := 10) (N := some 20) (v := ?_) (a' := ?_) #[true, true, true, true, true, false, true, true, true, true, true, false, false, false] rfl rfl (any_of HT_.out (by kernel_rfl)) (fun _ _ _ h => h) (Or.inl ⟨by rfl, ?_⟩) ?_ ?_
      rotate_left
      · intro w'
        go_simp
        with_reducible rfl
      rotate_left
      · simp only [Act.put, List.setIfInBounds_toArray, List.set_cons_zero, List.set_cons_succ, i64_w, i32_w]
        rfl
      have e1 : (l.take h).length = h := by rw [List.length_take]; omega
      have e2 : (l.drop h).length = l.length - h := List.length_drop
      have hcall1 := IH.out h h3 (l.take h) A c w2 e1 (Kd.C_take (Kd.C_below HC.out HB2.out) (by omega)) (by omega) (by omega)
      rw [e1] at hcall1
      refine one_ (i := 5) (N := some 15) #[true, true, true, true, true, true, true, true, true, true, true, false, false, false] rfl rfl (one_of HT_.out (by kernel_rfl)) (by decide) (fun K hK => ?_)
      refine goes_ Try.func20 (by kernel_rfl) rfl #[.slice A h c] (by rfl) rfl rfl (by (try simp only [List.map_toArray, List.map_cons, List.map_nil]); first | done | rfl) ?_
      refine hcall1.mono ?_
      rintro e w3 ⟨A3, c3, r3, rfl, hc3, hs3, hC3, hb⟩
      refine ⟨_, rfl, ?_⟩
      have HB3 := Aside0.mk (below_step HB2.out hb); have HS3 := Aside0.mk hs3; have HC3 := Aside0.mk hC3; clear hb hs3 hC3 hcall1
      refine hK.out _ _ trivial (fun hHeld3 => ?_)
      clear hK K
      refine norm_ (a' := ?_) ?_ ?_
      rotate_left
      · show Act.put _ (some 15) _ = _
        simp only [Act.put, List.setIfInBounds_toArray, List.set_cons_zero, List.set_cons_succ, i64_w, i32_w]
        rfl
      have hcall2 := IH.out (l.length - h) (by omega) (l.drop h) (if c = h then A else A.map (·.add (h * 3))) (c - h) w3 e2 (Kd.C_drop (Kd.C_below HC.out HB3.out) (by omega) hc) (by omega) (by omega)
      rw [e2] at hcall2
      refine one_ (i := 11) (N := some 21) #[true, true, true, true, true, true, true, true, true, true, true, true, false, false] rfl rfl (one_of HT_.out (by kernel_rfl)) (by decide) (fun K hK => ?_)
      refine goes_ Try.func20 (by kernel_rfl) rfl #[.slice (if c = h then A else A.map (·.add (h * 3))) (l.length - h) (c - h)] (by rfl) rfl rfl (by (try simp only [List.map_toArray, List.map_cons, List.map_nil]); first | done | rfl) ?_
      refine hcall2.mono ?_
      rintro e w4 ⟨A4, c4, r4, rfl, hc4, hs4, hC4, hb⟩
      refine ⟨_, rfl, ?_⟩
      have HC3' := Aside0.mk (Kd.C_below HC3.out hb); have HB4 := Aside0.mk (below_step HB3.out hb); have HS4 := Aside0.mk hs4; have HC4 := Aside0.mk hC4; clear hb hs4 hC4 hcall2
      refine hK.out _ _ trivial (fun hHeld4 => ?_)
      clear hK K
      refine norm_ (a' := ?_) ?_ ?_
      rotate_left
      · show Act.put _ (some 21) _ = _
        simp only [Act.put, List.setIfInBounds_toArray, List.set_cons_zero, List.set_cons_succ, i64_w, i32_w]
        rfl
      refine pure_ (i := 12) (N := some 3) (v := ?_) (a' := ?_) #[true, true, true, true, true, true, true, true, true, true, true, true, true, false] rfl rfl (any_of HT_.out (by kernel_rfl)) (fun _ _ _ h => h) (Or.inl ⟨by rfl, ?_⟩) ?_ ?_
      rotate_left
      · intro w'
        go_simp
        with_reducible rfl
      rotate_left
      · simp only [Act.put, List.setIfInBounds_toArray, List.set_cons_zero, List.set_cons_succ, i64_w, i32_w]
        rfl
      refine pure_ (i := 13) (N := some 4) (v := ?_) (a' := ?_) #[true, true, true, true, true, true, true, true, true, true, true, true, true, true] rfl rfl (any_of HT_.out (by kernel_rfl)) (fun _ _ _ h => h) (Or.inl ⟨by rfl, ?_⟩) ?_ ?_
      rotate_left
      · intro w'
        go_simp
        with_reducible rfl
      rotate_left
      · simp only [Act.put, List.setIfInBounds_toArray, List.set_cons_zero, List.set_cons_succ, i64_w, i32_w]
        rfl
      refine done_ (done_of HT_.out (by kernel_rfl)) ?_
      have HSm := Aside0.mk (sorts_merge HS3.out HS4.out)
      clear hHeld hHeld3 hHeld4 HT_
      go_wp2_with ((with_reducible refine gate_dst (N := 22) rfl ?_); refine Kd.R_lit k27 _ 27 ?hg (N := 22) ?hd (xs := ([] : List (S27))) (inner := []) (ok := fun _ => True) (okp := fun _ => True) ?hr ?hp (fun _ hk => hk) trivial (Below.refl _ _) (Nat.le_refl _) (by simp) ?_; (case hd => rfl); (case hg => rfl); (case hr => first | (go_simp; done) | (go_simp; rfl)); (case hp => exact (Reps.none _ _)); intro v5 w5 ho5 hb5 hg_ hnew_; clear hg_ hnew_; have HO5 := Aside0.mk ho5; have HB5 := Aside0.mk hb5; clear ho5 hb5)
      go_loopg [3, 4, 5] (r3.length + r4.length) (fun gg s3 s4 s5 wr => ∃ (a b o : List S27) (Aa Ab : Option Addr) (ca cb : Nat), s3 = .slice Aa a.length ca ∧ s4 = .slice Ab b.length cb ∧ a.length ≤ ca ∧ b.length ≤ cb ∧ Aside0 (a.length + b.length ≤ gg) ∧ Aside0 (o.length + (a.length + b.length) ≤ l.length) ∧ Aside0 (o ++ mergeP a b = mergeP r3 r4) ∧ Aside0 (Kd.C k27 w4 Aa a.length a) ∧ Aside0 (Kd.C k27 w4 Ab b.length b) ∧ Aside0 (Kd.R k27 27 wr w4.heap.size (fun _ => True) s5 o) ∧ Aside0 (Below w4.heap.size w4 wr))
      case atStart => exact ⟨r3, r4, [], A3, A4, c3, c4, rfl, rfl, hc3, hc4, ⟨Nat.le_refl _⟩, ⟨by have h1 := HS3.out.2.2; have h2 := HS4.out.2.2; rw [e1] at h1; rw [e2] at h2; simp only [List.length_nil]; omega⟩, ⟨rfl⟩, ⟨HC3'.out⟩, ⟨HC4.out⟩, ⟨HO5.out⟩, ⟨HB5.out⟩⟩
      case round =>
        obtain ⟨a, b, o, Aa, Ab, ca, cb, rfl, rfl, hca, hcb, HM, HLen, HEq, HCa, HCb, HO, HBr⟩ := hrel
        cases a with
        | nil =>
          cases b with
          | nil =>
            have hm : o = mergeP r3 r4 := by have := HEq.out; rwa [show mergeP [] [] = [] by unfold mergeP; rfl, List.append_nil] at this
            subst hm
            obtain ⟨Ao, co, rfl⟩ := Kd.R_slice HO.out
            obtain ⟨_, hro, hCo⟩ := Kd.R_reads' HO.out
            have HRo := Aside0.mk hCo
            clear hCo
            go_wp2
            go_ret
            exact ⟨Ao, co, _, rfl, hro, HSm.out, HRo.out, below_step HB4.out HBr.out⟩
          | cons y b =>
            obtain ⟨ad, ea, a0, a1, a2⟩ := at_T27 HCb.out 0 (by decide) (by simp only [List.length_cons]; omega)
            subst ea
            rw [show rd_T27 (y :: b) 0 = y from rfl] at a0 a1 a2
            simp only [Int.toNat_zero, Nat.zero_mul, add_zero_] at a0 a1 a2
            replace a0 := (HBr.out.cell (World.block_lt_of_cell? _ _ a0)).trans a0
            replace a1 := (HBr.out.cell (World.block_lt_of_cell? _ _ a1)).trans a1
            replace a2 := (HBr.out.cell (World.block_lt_of_cell? _ _ a2)).trans a2
            have HA := Aside0.mk (And.intro a0 (And.intro a1 a2)); clear a0 a1 a2
            have hlc : (((y :: b).length : Nat) : Int) > 0 := by simp only [List.length_cons]; omega
            have hlz : ¬ (((y :: b).length : Nat) : Int) = 0 := by simp only [List.length_cons]; omega
            have HCd := Aside0.mk (Kd.C_drop (m := 1) HCb.out (by simp only [List.length_cons]; omega) hcb)
            generalize hbl : (y :: b).length = nb at *
            have hlb : ((nb : Int) == 0) = false := by simpa using hlz
            have HBl := Aside0.mk hbl; clear hbl
            go_wp2
            refine start_ (n := 18) (S := fun w' => True) (ds := []) #[false, false, false, false, false, false, false, false, false, false, false, false, false, false, false, false, false, false] (by kernel_rfl) rfl rfl trivial (fun hHeld => ?_); refine with_tab tab20_6 (fun HT_ => ?_)
            have HBA := Aside0.mk (below_drew1 (Below.refl wr.heap.size wr))
            generalize wr.drew = wA at HBA hHeld ⊢
            refine pure_ (i := 0) (N := some 31) (v := ?_) (a' := ?_) #[true, false, false, false, false, false, false, false, false, false, false, false, false, false, false, false, false, false] rfl rfl (any_of HT_.out (by kernel_rfl)) (fun _ _ _ h => h) (Or.inl ⟨by rfl, ?_⟩) ?_ ?_
            rotate_left
            · intro w'
              go_simp
              with_reducible rfl
            rotate_left
            · simp only [Act.put, List.setIfInBounds_toArray, List.set_cons_zero, List.set_cons_succ, i64_w, i32_w]
              rfl
            refine pure_ (i := 1) (N := some 32) (v := ?_) (a' := ?_) #[true, true, false, false, false, false, false, false, false, false, false, false, false, false, false, false, false, false] rfl rfl (any_of HT_.out (by kernel_rfl)) (fun _ _ _ h => h) (Or.inl ⟨by rfl, ?_⟩) ?_ ?_
            rotate_left
            · intro w'
              go_simp
              with_reducible rfl
            rotate_left
            · simp only [Act.put, List.setIfInBounds_toArray, List.set_cons_zero, List.set_cons_succ, i64_w, i32_w]
              rfl
            refine pure_ (i := 2) (N := some 33) (v := ?_) (a' := ?_) #[true, true, true, false, false, false, false, false, false, false, false, false, false, false, false, false, false, false] rfl rfl (any_of HT_.out (by kernel_rfl)) (fun _ _ _ h => h) (Or.inl ⟨by rfl, ?_⟩) ?_ ?_
            rotate_left
            · intro w'
              go_simp
              with_reducible rfl
            rotate_left
            · simp only [Act.put, List.setIfInBounds_toArray, List.set_cons_zero, List.set_cons_succ, i64_w, i32_w]
              rfl
            refine pure_ (i := 3) (N := some 34) (v := ?_) (a' := ?_) #[true, true, true, true, false, false, false, false, false, false, false, false, false, false, false, false, false, false] rfl rfl (any_of HT_.out (by kernel_rfl)) (fun _ _ _ h => h) (Or.inl ⟨by rfl, ?_⟩) ?_ ?_
            rotate_left
            · intro w'
              go_simp
              with_reducible rfl
            rotate_left
            · simp only [Act.put, List.setIfInBounds_toArray, List.set_cons_zero, List.set_cons_succ, i64_w, i32_w]
              rfl
            refine pure_ (i := 4) (N := some 35) (v := ?_) (a' := ?_) #[true, true, true, true, true, false, false, false, false, false, false, false, false, false, false, false, false, false] rfl rfl (any_of HT_.out (by kernel_rfl)) (fun _ _ _ h => h) (Or.inl ⟨by rfl, ?_⟩) ?_ ?_
            rotate_left
            · intro w'
              go_simp
              with_reducible rfl
            rotate_left
            · simp only [Act.put, List.setIfInBounds_toArray, List.set_cons_zero, List.set_cons_succ, i64_w, i32_w]
              rfl
            refine pure_ (i := 5) (N := some 36) (v := ?_) (a' := ?_) #[true, true, true, true, true, true, false, false, false, false, false, false, false, false, false, false, false, false] rfl rfl (any_of HT_.out (by kernel_rfl)) (fun _ _ _ h => h) (Or.inl ⟨by rfl, ?_⟩) ?_ ?_
            rotate_left
            · intro w'
              go_simp
              with_reducible rfl
            rotate_left
            · simp only [Act.put, List.setIfInBounds_toArray, List.set_cons_zero, List.set_cons_succ, i64_w, i32_w]
              rfl
            refine pure_ (i := 6) (N := some 37) (v := ?_) (a' := ?_) #[true, true, true, true, true, true, true, false, false, false, false, false, false, false, false, false, false, false] rfl rfl (any_of HT_.out (by kernel_rfl)) (fun _ _ _ h => h) (Or.inl ⟨by rfl, ?_⟩) ?_ ?_
            rotate_left
            · intro w'
              go_simp
              with_reducible rfl
            rotate_left
            · simp only [Act.put, List.setIfInBounds_toArray, List.set_cons_zero, List.set_cons_succ, i64_w, i32_w]
              rfl
            refine pure_ (i := 7) (N := some 38) (v := ?_) (a' := ?_) #[true, true, true, true, true, true, true, true, false, false, false, false, false, false, false, false, false, false] rfl rfl (any_of HT_.out (by kernel_rfl)) (fun _ _ _ h => h) (Or.inl ⟨by rfl, ?_⟩) ?_ ?_
            rotate_left
            · intro w'
              go_simp
              with_reducible rfl
            rotate_left
            · simp only [Act.put, List.setIfInBounds_toArray, List.set_cons_zero, List.set_cons_succ, i64_w, i32_w]
              rfl
            refine pure_ (i := 8) (N := some 39) (v := undef) (a' := ?_) #[true, true, true, true, true, true, true, true, true, false, false, false, false, false, false, false, false, false] rfl rfl (any_of HT_.out (by kernel_rfl)) (fun _ _ _ h => h) (Or.inr ⟨by rfl, rfl⟩) ?_ ?_
            rotate_left
            · simp only [Act.put, List.setIfInBounds_toArray, List.set_cons_zero, List.set_cons_succ, i64_w, i32_w]
              rfl
            refine pure_ (i := 9) (N := some 40) (v := undef) (a' := ?_) #[true, true, true, true, true, true, true, true, true, true, false, false, false, false, false, false, false, false] rfl rfl (any_of HT_.out (by kernel_rfl)) (fun _ _ _ h => h) (Or.inr ⟨by rfl, rfl⟩) ?_ ?_
            rotate_left
            · simp only [Act.put, List.setIfInBounds_toArray, List.set_cons_zero, List.set_cons_succ, i64_w, i32_w]
              rfl
            refine pure_ (i := 10) (N := some 41) (v := undef) (a' := ?_) #[true, true, true, true, true, true, true, true, true, true, true, false, false, false, false, false, false, false] rfl rfl (any_of HT_.out (by kernel_rfl)) (fun _ _ _ h => h) (Or.inr ⟨by rfl, rfl⟩) ?_ ?_
            rotate_left
            · simp only [Act.put, List.setIfInBounds_toArray, List.set_cons_zero, List.set_cons_succ, i64_w, i32_w]
              rfl
            refine pure_ (i := 11) (N := some 42) (v := undef) (a' := ?_) #[true, true, true, true, true, true, true, true, true, true, true, true, false, false, false, false, false, false] rfl rfl (any_of HT_.out (by kernel_rfl)) (fun _ _ _ h => h) (Or.inr ⟨by rfl, rfl⟩) ?_ ?_
            rotate_left
            · simp only [Act.put, List.setIfInBounds_toArray, List.set_cons_zero, List.set_cons_succ, i64_w, i32_w]
              rfl
            refine pure_ (i := 12) (N := some 43) (v := undef) (a' := ?_) #[true, true, true, true, true, true, true, true, true, true, true, true, true, false, false, false, false, false] rfl rfl (any_of HT_.out (by kernel_rfl)) (fun _ _ _ h => h) (Or.inr ⟨by rfl, rfl⟩) ?_ ?_
            rotate_left
            · simp only [Act.put, List.setIfInBounds_toArray, List.set_cons_zero, List.set_cons_succ, i64_w, i32_w]
              rfl
            refine pure_ (i := 13) (N := some 44) (v := undef) (a' := ?_) #[true, true, true, true, true, true, true, true, true, true, true, true, true, true, false, false, false, false] rfl rfl (any_of HT_.out (by kernel_rfl)) (fun _ _ _ h => h) (Or.inr ⟨by rfl, rfl⟩) ?_ ?_
            rotate_left
            · simp only [Act.put, List.setIfInBounds_toArray, List.set_cons_zero, List.set_cons_succ, i64_w, i32_w]
              rfl
            refine pure_ (i := 14) (N := some 45) (v := undef) (a' := ?_) #[true, true, true, true, true, true, true, true, true, true, true, true, true, true, true, false, false, false] rfl rfl (any_of HT_.out (by kernel_rfl)) (fun _ _ _ h => h) (Or.inr ⟨by rfl, rfl⟩) ?_ ?_
            rotate_left
            · simp only [Act.put, List.setIfInBounds_toArray, List.set_cons_zero, List.set_cons_succ, i64_w, i32_w]
              rfl
            refine pure_ (i := 15) (N := some 46) (v := undef) (a' := ?_) #[true, true, true, true, true, true, true, true, true, true, true, true, true, true, true, true, false, false] rfl rfl (any_of HT_.out (by kernel_rfl)) (fun _ _ _ h => h) (Or.inr ⟨by rfl, rfl⟩) ?_ ?_
            rotate_left
            · simp only [Act.put, List.setIfInBounds_toArray, List.set_cons_zero, List.set_cons_succ, i64_w, i32_w]
              rfl
            refine pure_ (i := 16) (N := some 47) (v := ?_) (a' := ?_) #[true, true, true, true, true, true, true, true, true, true, true, true, true, true, true, true, true, false] rfl rfl (any_of HT_.out (by kernel_rfl)) (fun _ _ _ h => h) (Or.inl ⟨by rfl, ?_⟩) ?_ ?_
            rotate_left
            · intro w'
              go_simp
              with_reducible rfl
            rotate_left
            · simp only [Act.put, List.setIfInBounds_toArray, List.set_cons_zero, List.set_cons_succ, i64_w, i32_w]
              rfl
            refine pure_ (i := 17) (N := some 48) (v := ?_) (a' := ?_) #[true, true, true, true, true, true, true, true, true, true, true, true, true, true, true, true, true, true] rfl rfl (any_of HT_.out (by kernel_rfl)) (fun _ _ _ h => h) (Or.inl ⟨by rfl, ?_⟩) ?_ ?_
            rotate_left
            · intro w'
              go_simp
              with_reducible rfl
            rotate_left
            · simp only [Act.put, List.setIfInBounds_toArray, List.set_cons_zero, List.set_cons_succ, i64_w, i32_w]
              rfl
            refine done_ (done_of HT_.out (by kernel_rfl)) ?_
            clear hHeld HT_
            go_wp2
            refine start_ (n := 13) (S := fun w' => True) (ds := []) #[false, false, false, false, false, false, false, false, false, false, false, false, false] (by kernel_rfl) rfl rfl trivial (fun hHeld => ?_); refine with_tab tab20_9 (fun HT_ => ?_)
            have HBB := Aside0.mk (below_step HBA.out (below_drew1 (Below.refl wA.heap.size wA)))
            generalize wA.drew = wB at HBB hHeld ⊢
            refine pure_ (i := 0) (N := some 57) (v := ?_) (a' := ?_) #[true, false, false, false, false, false, false, false, false, false, false, false, false] rfl rfl (any_of HT_.out (by kernel_rfl)) (fun _ _ _ h => h) (Or.inl ⟨by rfl, ?_⟩) ?_ ?_
            rotate_left
            · intro w'
              go_simp
              with_reducible rfl
            rotate_left
            · simp only [Act.put, List.setIfInBounds_toArray, List.set_cons_zero, List.set_cons_succ, i64_w, i32_w]
              rfl
            refine pure_ (i := 1) (N := some 58) (v := ?_) (a' := ?_) #[true, true, false, false, false, false, false, false, false, false, false, false, false] rfl rfl (any_of HT_.out (by kernel_rfl)) (fun _ _ _ h => h) (Or.inl ⟨by rfl, ?_⟩) ?_ ?_
            rotate_left
            · intro w'
              go_simp
              with_reducible rfl
            rotate_left
            · simp only [Act.put, List.setIfInBounds_toArray, List.set_cons_zero, List.set_cons_succ, i64_w, i32_w]
              rfl
            refine pure_ (i := 2) (N := some 59) (v := ?_) (a' := ?_) #[true, true, true, false, false, false, false, false, false, false, false, false, false] rfl rfl (any_of HT_.out (by kernel_rfl)) (fun _ _ _ h => h) (Or.inl ⟨by rfl, ?_⟩) ?_ ?_
            rotate_left
            · intro w'
              go_simp
              with_reducible rfl
            rotate_left
            · simp only [Act.put, List.setIfInBounds_toArray, List.set_cons_zero, List.set_cons_succ, i64_w, i32_w]
              rfl
            refine pure_ (i := 3) (N := some 60) (v := ?_) (a' := ?_) #[true, true, true, true, false, false, false, false, false, false, false, false, false] rfl rfl (any_of HT_.out (by kernel_rfl)) (fun _ _ _ h => h) (Or.inl ⟨by rfl, ?_⟩) ?_ ?_
            rotate_left
            · intro w'
              go_simp
              with_reducible rfl
            rotate_left
            · simp only [Act.put, List.setIfInBounds_toArray, List.set_cons_zero, List.set_cons_succ, i64_w, i32_w]
              rfl
            refine pure_ (i := 4) (N := some 61) (v := undef) (a' := ?_) #[true, true, true, true, true, false, false, false, false, false, false, false, false] rfl rfl (any_of HT_.out (by kernel_rfl)) (fun _ _ _ h => h) (Or.inr ⟨by rfl, rfl⟩) ?_ ?_
            rotate_left
            · simp only [Act.put, List.setIfInBounds_toArray, List.set_cons_zero, List.set_cons_succ, i64_w, i32_w]
              rfl
            refine pure_ (i := 5) (N := some 62) (v := undef) (a' := ?_) #[true, true, true, true, true, true, false, false, false, false, false, false, false] rfl rfl (any_of HT_.out (by kernel_rfl)) (fun _ _ _ h => h) (Or.inr ⟨by rfl, rfl⟩) ?_ ?_
            rotate_left
            · simp only [Act.put, List.setIfInBounds_toArray, List.set_cons_zero, List.set_cons_succ, i64_w, i32_w]
              rfl
            refine pure_ (i := 6) (N := some 63) (v := undef) (a' := ?_) #[true, true, true, true, true, true, true, false, false, false, false, false, false] rfl rfl (any_of HT_.out (by kernel_rfl)) (fun _ _ _ h => h) (Or.inr ⟨by rfl, rfl⟩) ?_ ?_
            rotate_left
            · simp only [Act.put, List.setIfInBounds_toArray, List.set_cons_zero, List.set_cons_succ, i64_w, i32_w]
              rfl
            refine pure_ (i := 7) (N := some 64) (v := undef) (a' := ?_) #[true, true, true, true, true, true, true, true, false, false, false, false, false] rfl rfl (any_of HT_.out (by kernel_rfl)) (fun _ _ _ h => h) (Or.inr ⟨by rfl, rfl⟩) ?_ ?_
            rotate_left
            · simp only [Act.put, List.setIfInBounds_toArray, List.set_cons_zero, List.set_cons_succ, i64_w, i32_w]
              rfl
            refine pure_ (i := 8) (N := some 65) (v := undef) (a' := ?_) #[true, true, true, true, true, true, true, true, true, false, false, false, false] rfl rfl (any_of HT_.out (by kernel_rfl)) (fun _ _ _ h => h) (Or.inr ⟨by rfl, rfl⟩) ?_ ?_
            rotate_left
            · simp only [Act.put, List.setIfInBounds_toArray, List.set_cons_zero, List.set_cons_succ, i64_w, i32_w]
              rfl
            refine pure_ (i := 9) (N := some 66) (v := undef) (a' := ?_) #[true, true, true, true, true, true, true, true, true, true, false, false, false] rfl rfl (any_of HT_.out (by kernel_rfl)) (fun _ _ _ h => h) (Or.inr ⟨by rfl, rfl⟩) ?_ ?_
            rotate_left
            · simp only [Act.put, List.setIfInBounds_toArray, List.set_cons_zero, List.set_cons_succ, i64_w, i32_w]
              rfl
            refine pure_ (i := 10) (N := some 67) (v := undef) (a' := ?_) #[true, true, true, true, true, true, true, true, true, true, true, false, false] rfl rfl (any_of HT_.out (by kernel_rfl)) (fun _ _ _ h => h) (Or.inr ⟨by rfl, rfl⟩) ?_ ?_
            rotate_left
            · simp only [Act.put, List.setIfInBounds_toArray, List.set_cons_zero, List.set_cons_succ, i64_w, i32_w]
              rfl
            refine pure_ (i := 11) (N := some 68) (v := undef) (a' := ?_) #[true, true, true, true, true, true, true, true, true, true, true, true, false] rfl rfl (any_of HT_.out (by kernel_rfl)) (fun _ _ _ h => h) (Or.inr ⟨by rfl, rfl⟩) ?_ ?_
            rotate_left
            · simp only [Act.put, List.setIfInBounds_toArray, List.set_cons_zero, List.set_cons_succ, i64_w, i32_w]
              rfl
            refine pure_ (i := 12) (N := some 69) (v := ?_) (a' := ?_) #[true, true, true, true, true, true, true, true, true, true, true, true, true] rfl rfl (any_of HT_.out (by kernel_rfl)) (fun _ _ _ h => h) (Or.inl ⟨by rfl, ?_⟩) ?_ ?_
            rotate_left
            · intro w'
              go_simp
              with_reducible rfl
            rotate_left
            · simp only [Act.put, List.setIfInBounds_toArray, List.set_cons_zero, List.set_cons_succ, i64_w, i32_w]
              rfl
            refine done_ (done_of HT_.out (by kernel_rfl)) ?_
            clear hHeld HT_
            have a0 := (HBB.out.cell (World.block_lt_of_cell? _ _ HA.out.1)).trans HA.out.1; have a1 := (HBB.out.cell (World.block_lt_of_cell? _ _ HA.out.2.1)).trans HA.out.2.1; have a2 := (HBB.out.cell (World.block_lt_of_cell? _ _ HA.out.2.2)).trans HA.out.2.2
            by_cases hc1 : cb = 1
            · have HCd2 := Aside0.mk (show Kd.C k27 w4 _ b.length b by have := HCd.out; rw [if_pos hc1] at this; exact this)
              have hnb : nb - 1 = b.length := by have := HBl.out; simp only [List.length_cons] at this; omega
              have hcn : nb ≤ cb := hcb
              have hn1 : 1 ≤ nb := by have := HBl.out; simp only [List.length_cons] at this; omega
              have hc0 : cb - 1 = 0 := by omega
              have HOB := Aside0.mk (Kd.R_below HO.out HBB.out)
              have HWB := Aside0.mk (below_step HBr.out HBB.out)
              have hzb := HWB.out.size
              have hol : (o.length + 1) * 32 ≤ 140737488355328 := by have h1 := HLen.out; omega
              have HOL := Aside0.mk hol; clear hol
              go_wp2_with ((with_reducible refine gate_builtin (b := .append) (xs := #[.tmp 72, .tmp 76]) rfl ?_); at_builtin; refine app27 (w0 := w4) (base := w4.heap.size) (ok := fun _ => True) rfl (.tmp 72) (.tmp 76) rfl _ o y rfl rfl rfl (fun _ _ => trivial) HOB.out HWB.out hzb HOL.out ?_; intro v9 w9 ho9 hb9 hg9; have HO9 := Aside0.mk ho9; have HB9 := Aside0.mk hb9; clear ho9 hb9 hg9)
              go_roundg b.length
              case measure => have := HM.out; simp only [List.length_nil] at this; omega
              case rel => exact ⟨[], b, o ++ [y], Aa, _, ca, _, rfl, rfl, hca, by omega, ⟨by simp⟩, ⟨by have := HLen.out; simp only [List.length_append, List.length_cons, List.length_nil] at *; omega⟩, ⟨by have := HEq.out; rw [show mergeP [] (y :: b) = y :: mergeP [] b by conv => lhs; unfold mergeP] at this; simpa using this⟩, ⟨HCa.out⟩, ⟨HCd2.out⟩, ⟨HO9.out⟩, ⟨HB9.out⟩⟩
            · have HCd2 := Aside0.mk (show Kd.C k27 w4 _ b.length b by have := HCd.out; rw [if_neg hc1] at this; exact this)
              have hnb : nb - 1 = b.length := by have := HBl.out; simp only [List.length_cons] at this; omega
              have hcn : nb ≤ cb := hcb
              have hn1 : 1 ≤ nb := by have := HBl.out; simp only [List.length_cons] at this; omega
              have hc0 : ¬ cb - 1 = 0 := by omega
              have HOB := Aside0.mk (Kd.R_below HO.out HBB.out)
              have HWB := Aside0.mk (below_step HBr.out HBB.out)
              have hzb := HWB.out.size
              have hol : (o.length + 1) * 32 ≤ 140737488355328 := by have h1 := HLen.out; omega
              have HOL := Aside0.mk hol; clear hol
              go_wp2_with ((with_reducible refine gate_builtin (b := .append) (xs := #[.tmp 72, .tmp 76]) rfl ?_); at_builtin; refine app27 (w0 := w4) (base := w4.heap.size) (ok := fun _ => True) rfl (.tmp 72) (.tmp 76) rfl _ o y rfl rfl rfl (fun _ _ => trivial) HOB.out HWB.out hzb HOL.out ?_; intro v9 w9 ho9 hb9 hg9; have HO9 := Aside0.mk ho9; have HB9 := Aside0.mk hb9; clear ho9 hb9 hg9)
              go_roundg b.length
              case measure => have := HM.out; simp only [List.length_nil] at this; omega
              case rel => exact ⟨[], b, o ++ [y], Aa, _, ca, _, rfl, rfl, hca, by omega, ⟨by simp⟩, ⟨by have := HLen.out; simp only [List.length_append, List.length_cons, List.length_nil] at *; omega⟩, ⟨by have := HEq.out; rw [show mergeP [] (y :: b) = y :: mergeP [] b by conv => lhs; unfold mergeP] at this; simpa using this⟩, ⟨HCa.out⟩, ⟨HCd2.out⟩, ⟨HO9.out⟩, ⟨HB9.out⟩⟩
        | cons x a =>
          cases b with
          | nil =>
            obtain ⟨ad, ea, a0, a1, a2⟩ := at_T27 HCa.out 0 (by decide) (by simp only [List.length_cons]; omega)
            subst ea
            rw [show rd_T27 (x :: a) 0 = x from rfl] at a0 a1 a2
            simp only [Int.toNat_zero, Nat.zero_mul, add_zero_] at a0 a1 a2
            replace a0 := (HBr.out.cell (World.block_lt_of_cell? _ _ a0)).trans a0
            replace a1 := (HBr.out.cell (World.block_lt_of_cell? _ _ a1)).trans a1
            replace a2 := (HBr.out.cell (World.block_lt_of_cell? _ _ a2)).trans a2
            have HA := Aside0.mk (And.intro a0 (And.intro a1 a2)); clear a0 a1 a2
            have hlc : (((x :: a).length : Nat) : Int) > 0 := by simp only [List.length_cons]; omega
            have HCd := Aside0.mk (Kd.C_drop (m := 1) HCa.out (by simp only [List.length_cons]; omega) hca)
            generalize hbl : (x :: a).length = nb at *
            have HBl := Aside0.mk hbl; clear hbl
            go_wp2
            refine start_ (n := 18) (S := fun w' => True) (ds := []) #[false, false, false, false, false, false, false, false, false, false, false, false, false, false, false, false, false, false] (by kernel_rfl) rfl rfl trivial (fun hHeld => ?_); refine with_tab tab20_6 (fun HT_ => ?_)
            have HBB := Aside0.mk (below_drew1 (Below.refl wr.heap.size wr))
            generalize wr.drew = wB at HBB hHeld ⊢
            refine pure_ (i := 0) (N := some 31) (v := ?_) (a' := ?_) #[true, false, false, false, false, false, false, false, false, false, false, false, false, false, false, false, false, false] rfl rfl (any_of HT_.out (by kernel_rfl)) (fun _ _ _ h => h) (Or.inl ⟨by rfl, ?_⟩) ?_ ?_
            rotate_left
            · intro w'
              go_simp
              with_reducible rfl
            rotate_left
            · simp only [Act.put, List.setIfInBounds_toArray, List.set_cons_zero, List.set_cons_succ, i64_w, i32_w]
              rfl
            refine pure_ (i := 1) (N := some 32) (v := ?_) (a' := ?_) #[true, true, false, false, false, false, false, false, false, false, false, false, false, false, false, false, false, false] rfl rfl (any_of HT_.out (by kernel_rfl)) (fun _ _ _ h => h) (Or.inl ⟨by rfl, ?_⟩) ?_ ?_
            rotate_left
            · intro w'
              go_simp
              with_reducible rfl
            rotate_left
            · simp only [Act.put, List.setIfInBounds_toArray, List.set_cons_zero, List.set_cons_succ, i64_w, i32_w]
              rfl
            refine pure_ (i := 2) (N := some 33) (v := ?_) (a' := ?_) #[true, true, true, false, false, false, false, false, false, false, false, false, false, false, false, false, false, false] rfl rfl (any_of HT_.out (by kernel_rfl)) (fun _ _ _ h => h) (Or.inl ⟨by rfl, ?_⟩) ?_ ?_
            rotate_left
            · intro w'
              go_simp
              with_reducible rfl
            rotate_left
            · simp only [Act.put, List.setIfInBounds_toArray, List.set_cons_zero, List.set_cons_succ, i64_w, i32_w]
              rfl
            refine pure_ (i := 3) (N := some 34) (v := ?_) (a' := ?_) #[true, true, true, true, false, false, false, false, false, false, false, false, false, false, false, false, false, false] rfl rfl (any_of HT_.out (by kernel_rfl)) (fun _ _ _ h => h) (Or.inl ⟨by rfl, ?_⟩) ?_ ?_
            rotate_left
            · intro w'
              go_simp
              with_reducible rfl
            rotate_left
            · simp only [Act.put, List.setIfInBounds_toArray, List.set_cons_zero, List.set_cons_succ, i64_w, i32_w]
              rfl
            refine pure_ (i := 4) (N := some 35) (v := undef) (a' := ?_) #[true, true, true, true, true, false, false, false, false, false, false, false, false, false, false, false, false, false] rfl rfl (any_of HT_.out (by kernel_rfl)) (fun _ _ _ h => h) (Or.inr ⟨by rfl, rfl⟩) ?_ ?_
            rotate_left
            · simp only [Act.put, List.setIfInBounds_toArray, List.set_cons_zero, List.set_cons_succ, i64_w, i32_w]
              rfl
            refine pure_ (i := 5) (N := some 36) (v := undef) (a' := ?_) #[true, true, true, true, true, true, false, false, false, false, false, false, false, false, false, false, false, false] rfl rfl (any_of HT_.out (by kernel_rfl)) (fun _ _ _ h => h) (Or.inr ⟨by rfl, rfl⟩) ?_ ?_
            rotate_left
            · simp only [Act.put, List.setIfInBounds_toArray, List.set_cons_zero, List.set_cons_succ, i64_w, i32_w]
              rfl
            refine pure_ (i := 6) (N := some 37) (v := undef) (a' := ?_) #[true, true, true, true, true, true, true, false, false, false, false, false, false, false, false, false, false, false] rfl rfl (any_of HT_.out (by kernel_rfl)) (fun _ _ _ h => h) (Or.inr ⟨by rfl, rfl⟩) ?_ ?_
            rotate_left
            · simp only [Act.put, List.setIfInBounds_toArray, List.set_cons_zero, List.set_cons_succ, i64_w, i32_w]
              rfl
            refine pure_ (i := 7) (N := some 38) (v := undef) (a' := ?_) #[true, true, true, true, true, true, true, true, false, false, false, false, false, false, false, false, false, false] rfl rfl (any_of HT_.out (by kernel_rfl)) (fun _ _ _ h => h) (Or.inr ⟨by rfl, rfl⟩) ?_ ?_
            rotate_left
            · simp only [Act.put, List.setIfInBounds_toArray, List.set_cons_zero, List.set_cons_succ, i64_w, i32_w]
              rfl
            refine pure_ (i := 8) (N := some 39) (v := undef) (a' := ?_) #[true, true, true, true, true, true, true, true, true, false, false, false, false, false, false, false, false, false] rfl rfl (any_of HT_.out (by kernel_rfl)) (fun _ _ _ h => h) (Or.inr ⟨by rfl, rfl⟩) ?_ ?_
            rotate_left
            · simp only [Act.put, List.setIfInBounds_toArray, List.set_cons_zero, List.set_cons_succ, i64_w, i32_w]
              rfl
            refine pure_ (i := 9) (N := some 40) (v := undef) (a' := ?_) #[true, true, true, true, true, true, true, true, true, true, false, false, false, false, false, false, false, false] rfl rfl (any_of HT_.out (by kernel_rfl)) (fun _ _ _ h => h) (Or.inr ⟨by rfl, rfl⟩) ?_ ?_
            rotate_left
            · simp only [Act.put, List.setIfInBounds_toArray, List.set_cons_zero, List.set_cons_succ, i64_w, i32_w]
              rfl
            refine pure_ (i := 10) (N := some 41) (v := undef) (a' := ?_) #[true, true, true, true, true, true, true, true, true, true, true, false, false, false, false, false, false, false] rfl rfl (any_of HT_.out (by kernel_rfl)) (fun _ _ _ h => h) (Or.inr ⟨by rfl, rfl⟩) ?_ ?_
            rotate_left
            · simp only [Act.put, List.setIfInBounds_toArray, List.set_cons_zero, List.set_cons_succ, i64_w, i32_w]
              rfl
            refine pure_ (i := 11) (N := some 42) (v := undef) (a' := ?_) #[true, true, true, true, true, true, true, true, true, true, true, true, false, false, false, false, false, false] rfl rfl (any_of HT_.out (by kernel_rfl)) (fun _ _ _ h => h) (Or.inr ⟨by rfl, rfl⟩) ?_ ?_
            rotate_left
            · simp only [Act.put, List.setIfInBounds_toArray, List.set_cons_zero, List.set_cons_succ, i64_w, i32_w]
              rfl
            refine pure_ (i := 12) (N := some 43) (v := undef) (a' := ?_) #[true, true, true, true, true, true, true, true, true, true, true, true, true, false, false, false, false, false] rfl rfl (any_of HT_.out (by kernel_rfl)) (fun _ _ _ h => h) (Or.inr ⟨by rfl, rfl⟩) ?_ ?_
            rotate_left
            · simp only [Act.put, List.setIfInBounds_toArray, List.set_cons_zero, List.set_cons_succ, i64_w, i32_w]
              rfl
            refine pure_ (i := 13) (N := some 44) (v := undef) (a' := ?_) #[true, true, true, true, true, true, true, true, true, true, true, true, true, true, false, false, false, false] rfl rfl (any_of HT_.out (by kernel_rfl)) (fun _ _ _ h => h) (Or.inr ⟨by rfl, rfl⟩) ?_ ?_
            rotate_left
            · simp only [Act.put, List.setIfInBounds_toArray, List.set_cons_zero, List.set_cons_succ, i64_w, i32_w]
              rfl
            refine pure_ (i := 14) (N := some 45) (v := undef) (a' := ?_) #[true, true, true, true, true, true, true, true, true, true, true, true, true, true, true, false, false, false] rfl rfl (any_of HT_.out (by kernel_rfl)) (fun _ _ _ h => h) (Or.inr ⟨by rfl, rfl⟩) ?_ ?_
            rotate_left
            · simp only [Act.put, List.setIfInBounds_toArray, List.set_cons_zero, List.set_cons_succ, i64_w, i32_w]
              rfl
            refine pure_ (i := 15) (N := some 46) (v := undef) (a' := ?_) #[true, true, true, true, true, true, true, true, true, true, true, true, true, true, true, true, false, false] rfl rfl (any_of HT_.out (by kernel_rfl)) (fun _ _ _ h => h) (Or.inr ⟨by rfl, rfl⟩) ?_ ?_
            rotate_left
            · simp only [Act.put, List.setIfInBounds_toArray, List.set_cons_zero, List.set_cons_succ, i64_w, i32_w]
              rfl
            refine pure_ (i := 16) (N := some 47) (v := undef) (a' := ?_) #[true, true, true, true, true, true, true, true, true, true, true, true, true, true, true, true, true, false] rfl rfl (any_of HT_.out (by kernel_rfl)) (fun _ _ _ h => h) (Or.inr ⟨by rfl, rfl⟩) ?_ ?_
            rotate_left
            · simp only [Act.put, List.setIfInBounds_toArray, List.set_cons_zero, List.set_cons_succ, i64_w, i32_w]
              rfl
            refine pure_ (i := 17) (N := some 48) (v := ?_) (a' := ?_) #[true, true, true, true, true, true, true, true, true, true, true, true, true, true, true, true, true, true] rfl rfl (any_of HT_.out (by kernel_rfl)) (fun _ _ _ h => h) (Or.inl ⟨by rfl, ?_⟩) ?_ ?_
            rotate_left
            · intro w'
              go_simp
              with_reducible rfl
            rotate_left
            · simp only [Act.put, List.setIfInBounds_toArray, List.set_cons_zero, List.set_cons_succ, i64_w, i32_w]
              rfl
            refine done_ (done_of HT_.out (by kernel_rfl)) ?_
            clear hHeld HT_
            have a0 := (HBB.out.cell (World.block_lt_of_cell? _ _ HA.out.1)).trans HA.out.1; have a1 := (HBB.out.cell (World.block_lt_of_cell? _ _ HA.out.2.1)).trans HA.out.2.1; have a2 := (HBB.out.cell (World.block_lt_of_cell? _ _ HA.out.2.2)).trans HA.out.2.2
            by_cases hc1 : ca = 1
            · have HCd2 := Aside0.mk (show Kd.C k27 w4 _ a.length a by have := HCd.out; rw [if_pos hc1] at this; exact this)
              have hnb : nb - 1 = a.length := by have := HBl.out; simp only [List.length_cons] at this; omega
              have hcn : nb ≤ ca := hca
              have hn1 : 1 ≤ nb := by have := HBl.out; simp only [List.length_cons] at this; omega
              have hc0 : ca - 1 = 0 := by omega
              have HOB := Aside0.mk (Kd.R_below HO.out HBB.out)
              have HWB := Aside0.mk (below_step HBr.out HBB.out)
              have hzb := HWB.out.size
              have hol : (o.length + 1) * 32 ≤ 140737488355328 := by have h1 := HLen.out; omega
              have HOL := Aside0.mk hol; clear hol
              go_wp2_with ((with_reducible refine gate_builtin (b := .append) (xs := #[.tmp 49, .tmp 53]) rfl ?_); at_builtin; refine app27 (w0 := w4) (base := w4.heap.size) (ok := fun _ => True) rfl (.tmp 49) (.tmp 53) rfl _ o x rfl rfl rfl (fun _ _ => trivial) HOB.out HWB.out hzb HOL.out ?_; intro v9 w9 ho9 hb9 hg9; have HO9 := Aside0.mk ho9; have HB9 := Aside0.mk hb9; clear ho9 hb9 hg9)
              go_roundg a.length
              case measure => have := HM.out; simp only [List.length_nil] at this; omega
              case rel => exact ⟨a, [], o ++ [x], _, Ab, _, cb, rfl, rfl, by omega, hcb, ⟨by simp⟩, ⟨by have := HLen.out; simp only [List.length_append, List.length_cons, List.length_nil] at *; omega⟩, ⟨by have := HEq.out; rw [show mergeP (x :: a) [] = x :: mergeP a [] by conv => lhs; unfold mergeP] at this; simpa using this⟩, ⟨HCd2.out⟩, ⟨HCb.out⟩, ⟨HO9.out⟩, ⟨HB9.out⟩⟩
            · have HCd2 := Aside0.mk (show Kd.C k27 w4 _ a.length a by have := HCd.out; rw [if_neg hc1] at this; exact this)
              have hnb : nb - 1 = a.length := by have := HBl.out; simp only [List.length_cons] at this; omega
              have hcn : nb ≤ ca := hca
              have hn1 : 1 ≤ nb := by have := HBl.out; simp only [List.length_cons] at this; omega
              have hc0 : ¬ ca - 1 = 0 := by omega
              have HOB := Aside0.mk (Kd.R_below HO.out HBB.out)
              have HWB := Aside0.mk (below_step HBr.out HBB.out)
              have hzb := HWB.out.size
              have hol : (o.length + 1) * 32 ≤ 140737488355328 := by have h1 := HLen.out; omega
              have HOL := Aside0.mk hol; clear hol
              go_wp2_with ((with_reducible refine gate_builtin (b := .append) (xs := #[.tmp 49, .tmp 53]) rfl ?_); at_builtin; refine app27 (w0 := w4) (base := w4.heap.size) (ok := fun _ => True) rfl (.tmp 49) (.tmp 53) rfl _ o x rfl rfl rfl (fun _ _ => trivial) HOB.out HWB.out hzb HOL.out ?_; intro v9 w9 ho9 hb9 hg9; have HO9 := Aside0.mk ho9; have HB9 := Aside0.mk hb9; clear ho9 hb9 hg9)
              go_roundg a.length
              case measure => have := HM.out; simp only [List.length_nil] at this; omega
              case rel => exact ⟨a, [], o ++ [x], _, Ab, _, cb, rfl, rfl, by omega, hcb, ⟨by simp⟩, ⟨by have := HLen.out; simp only [List.length_append, List.length_cons, List.length_nil] at *; omega⟩, ⟨by have := HEq.out; rw [show mergeP (x :: a) [] = x :: mergeP a [] by conv => lhs; unfold mergeP] at this; simpa using this⟩, ⟨HCd2.out⟩, ⟨HCb.out⟩, ⟨HO9.out⟩, ⟨HB9.out⟩⟩
          | cons y b =>
            obtain ⟨adx, ea, x0, x1, x2⟩ := at_T27 HCa.out 0 (by decide) (by simp only [List.length_cons]; omega)
            subst ea
            rw [show rd_T27 (x :: a) 0 = x from rfl] at x0 x1 x2
            simp only [Int.toNat_zero, Nat.zero_mul, add_zero_] at x0 x1 x2
            replace x0 := (HBr.out.cell (World.block_lt_of_cell? _ _ x0)).trans x0
            replace x1 := (HBr.out.cell (World.block_lt_of_cell? _ _ x1)).trans x1
            replace x2 := (HBr.out.cell (World.block_lt_of_cell? _ _ x2)).trans x2
            obtain ⟨ady, ea, y0, y1, y2⟩ := at_T27 HCb.out 0 (by decide) (by simp only [List.length_cons]; omega)
            subst ea
            rw [show rd_T27 (y :: b) 0 = y from rfl] at y0 y1 y2
            simp only [Int.toNat_zero, Nat.zero_mul, add_zero_] at y0 y1 y2
            replace y0 := (HBr.out.cell (World.block_lt_of_cell? _ _ y0)).trans y0
            replace y1 := (HBr.out.cell (World.block_lt_of_cell? _ _ y1)).trans y1
            replace y2 := (HBr.out.cell (World.block_lt_of_cell? _ _ y2)).trans y2
            have HA := Aside0.mk (show _ ∧ _ ∧ _ ∧ _ ∧ _ ∧ _ from ⟨x0, x1, x2, y0, y1, y2⟩); clear x0 x1 x2 y0 y1 y2
            have hlc : (((x :: a).length : Nat) : Int) > 0 := by simp only [List.length_cons]; omega
            have hld : (((y :: b).length : Nat) : Int) > 0 := by simp only [List.length_cons]; omega
            have hlz : ¬ (((y :: b).length : Nat) : Int) = 0 := by simp only [List.length_cons]; omega
            have HCda := Aside0.mk (Kd.C_drop (m := 1) HCa.out (by simp only [List.length_cons]; omega) hca)
            have HCdb := Aside0.mk (Kd.C_drop (m := 1) HCb.out (by simp only [List.length_cons]; omega) hcb)
            generalize hbl : (x :: a).length = na at *
            have HBl := Aside0.mk hbl; clear hbl
            generalize hbl : (y :: b).length = nb at *
            have HBm := Aside0.mk hbl; clear hbl
            have hlb : ((nb : Int) == 0) = false := by simpa using hlz
            have hq0 : 0 < na := by omega
            have hq1 : 0 < nb := by omega
            go_wp2
            refine start_ (n := 18) (S := fun w' => w'.cell? adx = some (.int .i64 x.f0) ∧ w'.cell? ⟨adx.block, adx.off + 1, none⟩ = some (.int .i64 x.f1) ∧ w'.cell? ⟨adx.block, adx.off + 2, none⟩ = some (.string x.f2) ∧ w'.cell? ady = some (.int .i64 y.f0) ∧ w'.cell? ⟨ady.block, ady.off + 1, none⟩ = some (.int .i64 y.f1) ∧ w'.cell? ⟨ady.block, ady.off + 2, none⟩ = some (.string y.f2)) (ds := []) #[false, false, false, false, false, false, false, false, false, false, false, false, false, false, false, false, false, false] (by kernel_rfl) rfl rfl HA.out (fun hHeld => ?_); refine with_tab tab20_6 (fun HT_ => ?_)
            have HBA := Aside0.mk (below_drew1 (Below.refl wr.heap.size wr))
            generalize wr.drew = wA at HBA hHeld ⊢
            refine pure_ (i := 0) (N := some 31) (v := ?_) (a' := ?_) #[true, false, false, false, false, false, false, false, false, false, false, false, false, false, false, false, false, false] rfl rfl (any_of HT_.out (by kernel_rfl)) (fun _ _ _ h => h) (Or.inl ⟨by rfl, ?_⟩) ?_ ?_
            rotate_left
            · intro w'
              go_simp
              with_reducible rfl
            rotate_left
            · simp only [Act.put, List.setIfInBounds_toArray, List.set_cons_zero, List.set_cons_succ, i64_w, i32_w]
              rfl
            refine pure_ (i := 1) (N := some 32) (v := ?_) (a' := ?_) #[true, true, false, false, false, false, false, false, false, false, false, false, false, false, false, false, false, false] rfl rfl (any_of HT_.out (by kernel_rfl)) (fun _ _ _ h => h) (Or.inl ⟨by rfl, ?_⟩) ?_ ?_
            rotate_left
            · intro w'
              go_simp
              with_reducible rfl
            rotate_left
            · simp only [Act.put, List.setIfInBounds_toArray, List.set_cons_zero, List.set_cons_succ, i64_w, i32_w]
              rfl
            refine pure_ (i := 2) (N := some 33) (v := ?_) (a' := ?_) #[true, true, true, false, false, false, false, false, false, false, false, false, false, false, false, false, false, false] rfl rfl (any_of HT_.out (by kernel_rfl)) (fun _ _ _ h => h) (Or.inl ⟨by rfl, ?_⟩) ?_ ?_
            rotate_left
            · intro w'
              go_simp
              with_reducible rfl
            rotate_left
            · simp only [Act.put, List.setIfInBounds_toArray, List.set_cons_zero, List.set_cons_succ, i64_w, i32_w]
              rfl
            refine pure_ (i := 3) (N := some 34) (v := ?_) (a' := ?_) #[true, true, true, true, false, false, false, false, false, false, false, false, false, false, false, false, false, false] rfl rfl (any_of HT_.out (by kernel_rfl)) (fun _ _ _ h => h) (Or.inl ⟨by rfl, ?_⟩) ?_ ?_
            rotate_left
            · intro w'
              go_simp
              with_reducible rfl
            rotate_left
            · simp only [Act.put, List.setIfInBounds_toArray, List.set_cons_zero, List.set_cons_succ, i64_w, i32_w]
              rfl
            refine pure_ (i := 4) (N := some 35) (v := ?_) (a' := ?_) #[true, true, true, true, true, false, false, false, false, false, false, false, false, false, false, false, false, false] rfl rfl (any_of HT_.out (by kernel_rfl)) (fun _ _ _ h => h) (Or.inl ⟨by rfl, ?_⟩) ?_ ?_
            rotate_left
            · intro w'
              go_simp
              with_reducible rfl
            rotate_left
            · simp only [Act.put, List.setIfInBounds_toArray, List.set_cons_zero, List.set_cons_succ, i64_w, i32_w]
              rfl
            refine pure_ (i := 5) (N := some 36) (v := ?_) (a' := ?_) #[true, true, true, true, true, true, false, false, false, false, false, false, false, false, false, false, false, false] rfl rfl (any_of HT_.out (by kernel_rfl)) (fun _ _ _ h => h) (Or.inl ⟨by rfl, ?_⟩) ?_ ?_
            rotate_left
            · intro w'
              go_simp
              with_reducible rfl
            rotate_left
            · simp only [Act.put, List.setIfInBounds_toArray, List.set_cons_zero, List.set_cons_succ, i64_w, i32_w]
              rfl
            refine pure_ (i := 6) (N := some 37) (v := ?_) (a' := ?_) #[true, true, true, true, true, true, true, false, false, false, false, false, false, false, false, false, false, false] rfl rfl (any_of HT_.out (by kernel_rfl)) (fun _ _ _ h => h) (Or.inl ⟨by rfl, ?_⟩) ?_ ?_
            rotate_left
            · intro w'
              go_simp
              with_reducible rfl
            rotate_left
            · simp only [Act.put, List.setIfInBounds_toArray, List.set_cons_zero, List.set_cons_succ, i64_w, i32_w]
              rfl
            refine pure_ (i := 7) (N := some 38) (v := ?_) (a' := ?_) #[true, true, true, true, true, true, true, true, false, false, false, false, false, false, false, false, false, false] rfl rfl (any_of HT_.out (by kernel_rfl)) (fun _ _ _ h => h) (Or.inl ⟨by rfl, ?_⟩) ?_ ?_
            rotate_left
            · intro w'
              go_simp
              with_reducible rfl
            rotate_left
            · simp only [Act.put, List.setIfInBounds_toArray, List.set_cons_zero, List.set_cons_succ, i64_w, i32_w]
              rfl
            refine pure_ (i := 8) (N := some 39) (v := ?_) (a' := ?_) #[true, true, true, true, true, true, true, true, true, false, false, false, false, false, false, false, false, false] rfl rfl (any_of HT_.out (by kernel_rfl)) (fun _ _ _ h => h) (Or.inl ⟨by rfl, ?_⟩) ?_ ?_
            rotate_left
            · intro w'
              go_simp
              with_reducible rfl
            rotate_left
            · simp only [Act.put, List.setIfInBounds_toArray, List.set_cons_zero, List.set_cons_succ, i64_w, i32_w]
              rfl
            refine pure_ (i := 9) (N := some 40) (v := ?_) (a' := ?_) #[true, true, true, true, true, true, true, true, true, true, false, false, false, false, false, false, false, false] rfl rfl (any_of HT_.out (by kernel_rfl)) (fun _ _ _ h => h) (Or.inl ⟨by rfl, ?_⟩) ?_ ?_
            rotate_left
            · intro w'
              go_simp
              with_reducible rfl
            rotate_left
            · simp only [Act.put, List.setIfInBounds_toArray, List.set_cons_zero, List.set_cons_succ, i64_w, i32_w]
              rfl
            refine pure_ (i := 11) (N := some 42) (v := ?_) (a' := ?_) #[true, true, true, true, true, true, true, true, true, true, false, true, false, false, false, false, false, false] rfl rfl (any_of HT_.out (by kernel_rfl)) (fun _ _ _ h => h) (Or.inl ⟨by rfl, ?_⟩) ?_ ?_
            rotate_left
            · intro w'
              go_simp
              with_reducible rfl
            rotate_left
            · simp only [Act.put, List.setIfInBounds_toArray, List.set_cons_zero, List.set_cons_succ, i64_w, i32_w]
              rfl
            refine pure_ (i := 12) (N := some 43) (v := ?_) (a' := ?_) #[true, true, true, true, true, true, true, true, true, true, false, true, true, false, false, false, false, false] rfl rfl (any_of HT_.out (by kernel_rfl)) (fun _ _ _ h => h) (Or.inl ⟨by rfl, ?_⟩) ?_ ?_
            rotate_left
            · intro w'
              go_simp
              with_reducible rfl
            rotate_left
            · simp only [Act.put, List.setIfInBounds_toArray, List.set_cons_zero, List.set_cons_succ, i64_w, i32_w]
              rfl
            refine take_ (i := 10) (N := some 41) (v := ?_) (a' := ?_) #[true, true, true, true, true, true, true, true, true, true, true, true, true, false, false, false, false, false] rfl rfl (take_of HT_.out (by kernel_rfl)) (fun _ _ _ h => h) (Or.inl ⟨by rfl, ?_⟩) hHeld ?_ ?_
            rotate_left
            · rintro w' ⟨s0, s1, s2, s3, s4, s5⟩
              go_simp
              with_reducible rfl
            rotate_left
            · simp only [Act.put, List.setIfInBounds_toArray, List.set_cons_zero, List.set_cons_succ, i64_w, i32_w]
              rfl
            refine take_ (i := 13) (N := some 44) (v := ?_) (a' := ?_) #[true, true, true, true, true, true, true, true, true, true, true, true, true, true, false, false, false, false] rfl rfl (take_of HT_.out (by kernel_rfl)) (fun _ _ _ h => h) (Or.inl ⟨by rfl, ?_⟩) hHeld ?_ ?_
            rotate_left
            · rintro w' ⟨s0, s1, s2, s3, s4, s5⟩
              go_simp
              with_reducible rfl
            rotate_left
            · simp only [Act.put, List.setIfInBounds_toArray, List.set_cons_zero, List.set_cons_succ, i64_w, i32_w]
              rfl
            refine one_ (i := 14) (N := some 45) #[true, true, true, true, true, true, true, true, true, true, true, true, true, true, true, false, false, false] rfl rfl (one_of HT_.out (by kernel_rfl)) (by decide) (fun K hK => ?_)
            refine goes_ Try.func21 (by kernel_rfl) rfl #[pv x, pv y] (by rfl) rfl rfl (by (try simp only [List.map_toArray, List.map_cons, List.map_nil]); first | done | rfl) ?_
            refine (vellumref17_Cmp.calls _ _ _ _ _ _ _ wA (cmp_eq x y)).mono ?_
            rintro e wC ⟨rfl, hb⟩
            refine ⟨_, rfl, ?_⟩
            have HBC := Aside0.mk (below_step HBA.out hb); clear hb
            have hcl := fun (p : Addr) (u : Value) (h : wr.cell? p = some u) => (HBC.out.cell (World.block_lt_of_cell? _ _ h)).trans h
            have hHn : _ ∧ _ ∧ _ ∧ _ ∧ _ ∧ _ := ⟨hcl _ _ HA.out.1, hcl _ _ HA.out.2.1, hcl _ _ HA.out.2.2.1, hcl _ _ HA.out.2.2.2.1, hcl _ _ HA.out.2.2.2.2.1, hcl _ _ HA.out.2.2.2.2.2⟩
            refine hK.out _ _ hHn (fun hHeld2 => ?_)
            clear hK K
            refine norm_ (a' := ?_) ?_ ?_
            rotate_left
            · show Act.put _ (some 45) _ = _
              simp only [Act.put, List.setIfInBounds_toArray, List.set_cons_zero, List.set_cons_succ, i64_w, i32_w]
              rfl
            refine pure_ (i := 15) (N := some 46) (v := ?_) (a' := ?_) #[true, true, true, true, true, true, true, true, true, true, true, true, true, true, true, true, false, false] rfl rfl (any_of HT_.out (by kernel_rfl)) (fun _ _ _ h => h) (Or.inl ⟨by rfl, ?_⟩) ?_ ?_
            rotate_left
            · intro w'
              go_simp
              with_reducible rfl
            rotate_left
            · simp only [Act.put, List.setIfInBounds_toArray, List.set_cons_zero, List.set_cons_succ, i64_w, i32_w]
              rfl
            refine pure_ (i := 16) (N := some 47) (v := ?_) (a' := ?_) #[true, true, true, true, true, true, true, true, true, true, true, true, true, true, true, true, true, false] rfl rfl (any_of HT_.out (by kernel_rfl)) (fun _ _ _ h => h) (Or.inl ⟨by rfl, ?_⟩) ?_ ?_
            rotate_left
            · intro w'
              go_simp
              with_reducible rfl
            rotate_left
            · simp only [Act.put, List.setIfInBounds_toArray, List.set_cons_zero, List.set_cons_succ, i64_w, i32_w]
              rfl
            refine pure_ (i := 17) (N := some 48) (v := ?_) (a' := ?_) #[true, true, true, true, true, true, true, true, true, true, true, true, true, true, true, true, true, true] rfl rfl (any_of HT_.out (by kernel_rfl)) (fun _ _ _ h => h) (Or.inl ⟨by rfl, ?_⟩) ?_ ?_
            rotate_left
            · intro w'
              go_simp
              with_reducible rfl
            rotate_left
            · simp only [Act.put, List.setIfInBounds_toArray, List.set_cons_zero, List.set_cons_succ, i64_w, i32_w]
              rfl
            refine done_ (done_of HT_.out (by kernel_rfl)) ?_
            have HHn := Aside0.mk hHn; clear hHn hcl hHeld hHeld2 HT_
            have hcLT := cmpP_lt x y; have hcZ := cmpP_zero x y
            by_cases hlt : ltP x y
            · have hcm : cmpP x y < 0 := hcLT.2 hlt; clear hcLT hcZ
              have HLt := Aside0.mk hlt; clear hlt
              have a0 := HHn.out.1; have a1 := HHn.out.2.1; have a2 := HHn.out.2.2.1
              by_cases hc1 : ca = 1
              · have HCd2 := Aside0.mk (show Kd.C k27 w4 _ a.length a by have := HCda.out; rw [if_pos hc1] at this; exact this)
                have hnb : na - 1 = a.length := by have := HBl.out; simp only [List.length_cons] at this; omega
                have hcn : na ≤ ca := by assumption
                have hn1 : 1 ≤ na := by have := HBl.out; simp only [List.length_cons] at this; omega
                have hc0 : ca - 1 = 0 := by omega
                have HOB := Aside0.mk (Kd.R_below HO.out HBC.out)
                have HWB := Aside0.mk (below_step HBr.out HBC.out)
                have hzb := HWB.out.size
                have hol : (o.length + 1) * 32 ≤ 140737488355328 := by have h1 := HLen.out; omega
                have HOL := Aside0.mk hol; clear hol
                go_wp2_with ((with_reducible refine gate_builtin (b := .append) (xs := #[.tmp 49, .tmp 53]) rfl ?_); at_builtin; refine app27 (w0 := w4) (base := w4.heap.size) (ok := fun _ => True) rfl (.tmp 49) (.tmp 53) rfl _ o x rfl rfl rfl (fun _ _ => trivial) HOB.out HWB.out hzb HOL.out ?_; intro v9 w9 ho9 hb9 hg9; have HO9 := Aside0.mk ho9; have HB9 := Aside0.mk hb9; clear ho9 hb9 hg9)
                go_roundg (a.length + nb)
                case measure => have := HM.out; have := HBl.out; have := HBm.out; simp only [List.length_cons] at *; omega
                case rel => exact ⟨a, y :: b, o ++ [x], _, _, _, cb, rfl, by rw [HBm.out], by omega, by rw [HBm.out]; exact hcb, ⟨by simp only [List.length_cons]; have := HBm.out; simp only [List.length_cons] at this; omega⟩, ⟨by have := HLen.out; have := HBl.out; have := HBm.out; simp only [List.length_append, List.length_cons, List.length_nil] at *; omega⟩, ⟨by have := HEq.out; rw [show mergeP (x :: a) (y :: b) = x :: mergeP a (y :: b) by conv => lhs; unfold mergeP; rw [if_pos HLt.out]] at this; simpa using this⟩, ⟨HCd2.out⟩, ⟨by rw [HBm.out]; exact HCb.out⟩, ⟨HO9.out⟩, ⟨HB9.out⟩⟩
              · have HCd2 := Aside0.mk (show Kd.C k27 w4 _ a.length a by have := HCda.out; rw [if_neg hc1] at this; exact this)
                have hnb : na - 1 = a.length := by have := HBl.out; simp only [List.length_cons] at this; omega
                have hcn : na ≤ ca := by assumption
                have hn1 : 1 ≤ na := by have := HBl.out; simp only [List.length_cons] at this; omega
                have hc0 : ¬ ca - 1 = 0 := by omega
                have HOB := Aside0.mk (Kd.R_below HO.out HBC.out)
                have HWB := Aside0.mk (below_step HBr.out HBC.out)
                have hzb := HWB.out.size
                have hol : (o.length + 1) * 32 ≤ 140737488355328 := by have h1 := HLen.out; omega
                have HOL := Aside0.mk hol; clear hol
                go_wp2_with ((with_reducible refine gate_builtin (b := .append) (xs := #[.tmp 49, .tmp 53]) rfl ?_); at_builtin; refine app27 (w0 := w4) (base := w4.heap.size) (ok := fun _ => True) rfl (.tmp 49) (.tmp 53) rfl _ o x rfl rfl rfl (fun _ _ => trivial) HOB.out HWB.out hzb HOL.out ?_; intro v9 w9 ho9 hb9 hg9; have HO9 := Aside0.mk ho9; have HB9 := Aside0.mk hb9; clear ho9 hb9 hg9)
                go_roundg (a.length + nb)
                case measure => have := HM.out; have := HBl.out; have := HBm.out; simp only [List.length_cons] at *; omega
                case rel => exact ⟨a, y :: b, o ++ [x], _, _, _, cb, rfl, by rw [HBm.out], by omega, by rw [HBm.out]; exact hcb, ⟨by simp only [List.length_cons]; have := HBm.out; simp only [List.length_cons] at this; omega⟩, ⟨by have := HLen.out; have := HBl.out; have := HBm.out; simp only [List.length_append, List.length_cons, List.length_nil] at *; omega⟩, ⟨by have := HEq.out; rw [show mergeP (x :: a) (y :: b) = x :: mergeP a (y :: b) by conv => lhs; unfold mergeP; rw [if_pos HLt.out]] at this; simpa using this⟩, ⟨HCd2.out⟩, ⟨by rw [HBm.out]; exact HCb.out⟩, ⟨HO9.out⟩, ⟨HB9.out⟩⟩
            · have hcm : ¬ cmpP x y < 0 := fun h => hlt (hcLT.1 h)
              have HLt := Aside0.mk hlt; clear hlt hcLT
              go_wp2
              refine start_ (n := 13) (S := fun w' => w'.cell? adx = some (.int .i64 x.f0) ∧ w'.cell? ⟨adx.block, adx.off + 1, none⟩ = some (.int .i64 x.f1) ∧ w'.cell? ⟨adx.block, adx.off + 2, none⟩ = some (.string x.f2) ∧ w'.cell? ady = some (.int .i64 y.f0) ∧ w'.cell? ⟨ady.block, ady.off + 1, none⟩ = some (.int .i64 y.f1) ∧ w'.cell? ⟨ady.block, ady.off + 2, none⟩ = some (.string y.f2)) (ds := []) #[false, false, false, false, false, false, false, false, false, false, false, false, false] (by kernel_rfl) rfl rfl HHn.out (fun hHeld => ?_); refine with_tab tab20_9 (fun HT_ => ?_)
              have HBD := Aside0.mk (below_drew1 (Below.refl wC.heap.size wC))
              generalize wC.drew = wD at HBD hHeld ⊢
              refine pure_ (i := 0) (N := some 57) (v := ?_) (a' := ?_) #[true, false, false, false, false, false, false, false, false, false, false, false, false] rfl rfl (any_of HT_.out (by kernel_rfl)) (fun _ _ _ h => h) (Or.inl ⟨by rfl, ?_⟩) ?_ ?_
              rotate_left
              · intro w'
                go_simp
                with_reducible rfl
              rotate_left
              · simp only [Act.put, List.setIfInBounds_toArray, List.set_cons_zero, List.set_cons_succ, i64_w, i32_w]
                rfl
              refine pure_ (i := 1) (N := some 58) (v := ?_) (a' := ?_) #[true, true, false, false, false, false, false, false, false, false, false, false, false] rfl rfl (any_of HT_.out (by kernel_rfl)) (fun _ _ _ h => h) (Or.inl ⟨by rfl, ?_⟩) ?_ ?_
              rotate_left
              · intro w'
                go_simp
                with_reducible rfl
              rotate_left
              · simp only [Act.put, List.setIfInBounds_toArray, List.set_cons_zero, List.set_cons_succ, i64_w, i32_w]
                rfl
              refine pure_ (i := 2) (N := some 59) (v := ?_) (a' := ?_) #[true, true, true, false, false, false, false, false, false, false, false, false, false] rfl rfl (any_of HT_.out (by kernel_rfl)) (fun _ _ _ h => h) (Or.inl ⟨by rfl, ?_⟩) ?_ ?_
              rotate_left
              · intro w'
                go_simp
                with_reducible rfl
              rotate_left
              · simp only [Act.put, List.setIfInBounds_toArray, List.set_cons_zero, List.set_cons_succ, i64_w, i32_w]
                rfl
              refine pure_ (i := 3) (N := some 60) (v := ?_) (a' := ?_) #[true, true, true, true, false, false, false, false, false, false, false, false, false] rfl rfl (any_of HT_.out (by kernel_rfl)) (fun _ _ _ h => h) (Or.inl ⟨by rfl, ?_⟩) ?_ ?_
              rotate_left
              · intro w'
                go_simp
                with_reducible rfl
              rotate_left
              · simp only [Act.put, List.setIfInBounds_toArray, List.set_cons_zero, List.set_cons_succ, i64_w, i32_w]
                rfl
              refine pure_ (i := 4) (N := some 61) (v := ?_) (a' := ?_) #[true, true, true, true, true, false, false, false, false, false, false, false, false] rfl rfl (any_of HT_.out (by kernel_rfl)) (fun _ _ _ h => h) (Or.inl ⟨by rfl, ?_⟩) ?_ ?_
              rotate_left
              · intro w'
                go_simp
                with_reducible rfl
              rotate_left
              · simp only [Act.put, List.setIfInBounds_toArray, List.set_cons_zero, List.set_cons_succ, i64_w, i32_w]
                rfl
              refine pure_ (i := 5) (N := some 62) (v := ?_) (a' := ?_) #[true, true, true, true, true, true, false, false, false, false, false, false, false] rfl rfl (any_of HT_.out (by kernel_rfl)) (fun _ _ _ h => h) (Or.inl ⟨by rfl, ?_⟩) ?_ ?_
              rotate_left
              · intro w'
                go_simp
                with_reducible rfl
              rotate_left
              · simp only [Act.put, List.setIfInBounds_toArray, List.set_cons_zero, List.set_cons_succ, i64_w, i32_w]
                rfl
              refine pure_ (i := 7) (N := some 64) (v := ?_) (a' := ?_) #[true, true, true, true, true, true, false, true, false, false, false, false, false] rfl rfl (any_of HT_.out (by kernel_rfl)) (fun _ _ _ h => h) (Or.inl ⟨by rfl, ?_⟩) ?_ ?_
              rotate_left
              · intro w'
                go_simp
                with_reducible rfl
              rotate_left
              · simp only [Act.put, List.setIfInBounds_toArray, List.set_cons_zero, List.set_cons_succ, i64_w, i32_w]
                rfl
              refine pure_ (i := 8) (N := some 65) (v := ?_) (a' := ?_) #[true, true, true, true, true, true, false, true, true, false, false, false, false] rfl rfl (any_of HT_.out (by kernel_rfl)) (fun _ _ _ h => h) (Or.inl ⟨by rfl, ?_⟩) ?_ ?_
              rotate_left
              · intro w'
                go_simp
                with_reducible rfl
              rotate_left
              · simp only [Act.put, List.setIfInBounds_toArray, List.set_cons_zero, List.set_cons_succ, i64_w, i32_w]
                rfl
              refine take_ (i := 6) (N := some 63) (v := ?_) (a' := ?_) #[true, true, true, true, true, true, true, true, true, false, false, false, false] rfl rfl (take_of HT_.out (by kernel_rfl)) (fun _ _ _ h => h) (Or.inl ⟨by rfl, ?_⟩) hHeld ?_ ?_
              rotate_left
              · rintro w' ⟨s0, s1, s2, s3, s4, s5⟩
                go_simp
                with_reducible rfl
              rotate_left
              · simp only [Act.put, List.setIfInBounds_toArray, List.set_cons_zero, List.set_cons_succ, i64_w, i32_w]
                rfl
              refine take_ (i := 9) (N := some 66) (v := ?_) (a' := ?_) #[true, true, true, true, true, true, true, true, true, true, false, false, false] rfl rfl (take_of HT_.out (by kernel_rfl)) (fun _ _ _ h => h) (Or.inl ⟨by rfl, ?_⟩) hHeld ?_ ?_
              rotate_left
              · rintro w' ⟨s0, s1, s2, s3, s4, s5⟩
                go_simp
                with_reducible rfl
              rotate_left
              · simp only [Act.put, List.setIfInBounds_toArray, List.set_cons_zero, List.set_cons_succ, i64_w, i32_w]
                rfl
              refine one_ (i := 10) (N := some 67) #[true, true, true, true, true, true, true, true, true, true, true, false, false] rfl rfl (one_of HT_.out (by kernel_rfl)) (by decide) (fun K hK => ?_)
              refine goes_ Try.func21 (by kernel_rfl) rfl #[pv x, pv y] (by rfl) rfl rfl (by (try simp only [List.map_toArray, List.map_cons, List.map_nil]); first | done | rfl) ?_
              refine (vellumref17_Cmp.calls _ _ _ _ _ _ _ wD (cmp_eq x y)).mono ?_
              rintro e wE ⟨rfl, hb⟩
              refine ⟨_, rfl, ?_⟩
              have HBE' := Aside0.mk (below_step HBD.out hb); clear hb
              have hcl := fun (p : Addr) (u : Value) (h : wC.cell? p = some u) => (HBE'.out.cell (World.block_lt_of_cell? _ _ h)).trans h
              have hHn : _ ∧ _ ∧ _ ∧ _ ∧ _ ∧ _ := ⟨hcl _ _ HHn.out.1, hcl _ _ HHn.out.2.1, hcl _ _ HHn.out.2.2.1, hcl _ _ HHn.out.2.2.2.1, hcl _ _ HHn.out.2.2.2.2.1, hcl _ _ HHn.out.2.2.2.2.2⟩
              refine hK.out _ _ hHn (fun hHeld2 => ?_)
              clear hK K
              refine norm_ (a' := ?_) ?_ ?_
              rotate_left
              · show Act.put _ (some 67) _ = _
                simp only [Act.put, List.setIfInBounds_toArray, List.set_cons_zero, List.set_cons_succ, i64_w, i32_w]
                rfl
              refine pure_ (i := 11) (N := some 68) (v := ?_) (a' := ?_) #[true, true, true, true, true, true, true, true, true, true, true, true, false] rfl rfl (any_of HT_.out (by kernel_rfl)) (fun _ _ _ h => h) (Or.inl ⟨by rfl, ?_⟩) ?_ ?_
              rotate_left
              · intro w'
                go_simp
                with_reducible rfl
              rotate_left
              · simp only [Act.put, List.setIfInBounds_toArray, List.set_cons_zero, List.set_cons_succ, i64_w, i32_w]
                rfl
              refine pure_ (i := 12) (N := some 69) (v := ?_) (a' := ?_) #[true, true, true, true, true, true, true, true, true, true, true, true, true] rfl rfl (any_of HT_.out (by kernel_rfl)) (fun _ _ _ h => h) (Or.inl ⟨by rfl, ?_⟩) ?_ ?_
              rotate_left
              · intro w'
                go_simp
                with_reducible rfl
              rotate_left
              · simp only [Act.put, List.setIfInBounds_toArray, List.set_cons_zero, List.set_cons_succ, i64_w, i32_w]
                rfl
              refine done_ (done_of HT_.out (by kernel_rfl)) ?_
              have HHm := Aside0.mk hHn; clear hHn hcl hHeld hHeld2 HT_ HHn hcm
              have HBE := Aside0.mk (below_step HBC.out HBE'.out); clear HBC HBE'
              by_cases hxy : x = y
              · have hcm : cmpP x y = 0 := hcZ.2 hxy; clear hcZ
                have HXy := Aside0.mk hxy; clear hxy
                by_cases hc2 : ca = 1
                · have HCa2 := Aside0.mk (show Kd.C k27 w4 _ a.length a by have := HCda.out; rw [if_pos hc2] at this; exact this)
                  have hnb2 : na - 1 = a.length := by have := HBl.out; simp only [List.length_cons] at this; omega
                  have hcn2 : na ≤ ca := hca
                  have hn12 : 1 ≤ na := by have := HBl.out; simp only [List.length_cons] at this; omega
                  have hc02 : ca - 1 = 0 := by omega
                  have a0 := HHm.out.2.2.2.1; have a1 := HHm.out.2.2.2.2.1; have a2 := HHm.out.2.2.2.2.2
                  by_cases hc1 : cb = 1
                  · have HCd2 := Aside0.mk (show Kd.C k27 w4 _ b.length b by have := HCdb.out; rw [if_pos hc1] at this; exact this)
                    have hnb : nb - 1 = b.length := by have := HBm.out; simp only [List.length_cons] at this; omega
                    have hcn : nb ≤ cb := by assumption
                    have hn1 : 1 ≤ nb := by have := HBm.out; simp only [List.length_cons] at this; omega
                    have hc0 : cb - 1 = 0 := by omega
                    have HOB := Aside0.mk (Kd.R_below HO.out HBE.out)
                    have HWB := Aside0.mk (below_step HBr.out HBE.out)
                    have hzb := HWB.out.size
                    have hol : (o.length + 1) * 32 ≤ 140737488355328 := by have h1 := HLen.out; omega
                    have HOL := Aside0.mk hol; clear hol
                    go_wp2_with ((with_reducible refine gate_builtin (b := .append) (xs := #[.tmp 72, .tmp 76]) rfl ?_); at_builtin; refine app27 (w0 := w4) (base := w4.heap.size) (ok := fun _ => True) rfl (.tmp 72) (.tmp 76) rfl _ o y rfl rfl rfl (fun _ _ => trivial) HOB.out HWB.out hzb HOL.out ?_; intro v9 w9 ho9 hb9 hg9; have HO9 := Aside0.mk ho9; have HB9 := Aside0.mk hb9; clear ho9 hb9 hg9)
                    go_roundg (a.length + b.length)
                    case measure => have := HM.out; have := HBl.out; have := HBm.out; simp only [List.length_cons] at *; omega
                    case rel => exact ⟨a, b, o ++ [y], _, _, _, _, rfl, rfl, by omega, by omega, ⟨by simp⟩, ⟨by have := HLen.out; have := HBl.out; have := HBm.out; simp only [List.length_append, List.length_cons, List.length_nil] at *; omega⟩, ⟨by have := HEq.out; rw [show mergeP (x :: a) (y :: b) = y :: mergeP a b by conv => lhs; unfold mergeP; rw [if_neg HLt.out, if_pos HXy.out]] at this; simpa using this⟩, ⟨HCa2.out⟩, ⟨HCd2.out⟩, ⟨HO9.out⟩, ⟨HB9.out⟩⟩
                  · have HCd2 := Aside0.mk (show Kd.C k27 w4 _ b.length b by have := HCdb.out; rw [if_neg hc1] at this; exact this)
                    have hnb : nb - 1 = b.length := by have := HBm.out; simp only [List.length_cons] at this; omega
                    have hcn : nb ≤ cb := by assumption
                    have hn1 : 1 ≤ nb := by have := HBm.out; simp only [List.length_cons] at this; omega
                    have hc0 : ¬ cb - 1 = 0 := by omega
                    have HOB := Aside0.mk (Kd.R_below HO.out HBE.out)
                    have HWB := Aside0.mk (below_step HBr.out HBE.out)
                    have hzb := HWB.out.size
                    have hol : (o.length + 1) * 32 ≤ 140737488355328 := by have h1 := HLen.out; omega
                    have HOL := Aside0.mk hol; clear hol
                    go_wp2_with ((with_reducible refine gate_builtin (b := .append) (xs := #[.tmp 72, .tmp 76]) rfl ?_); at_builtin; refine app27 (w0 := w4) (base := w4.heap.size) (ok := fun _ => True) rfl (.tmp 72) (.tmp 76) rfl _ o y rfl rfl rfl (fun _ _ => trivial) HOB.out HWB.out hzb HOL.out ?_; intro v9 w9 ho9 hb9 hg9; have HO9 := Aside0.mk ho9; have HB9 := Aside0.mk hb9; clear ho9 hb9 hg9)
                    go_roundg (a.length + b.length)
                    case measure => have := HM.out; have := HBl.out; have := HBm.out; simp only [List.length_cons] at *; omega
                    case rel => exact ⟨a, b, o ++ [y], _, _, _, _, rfl, rfl, by omega, by omega, ⟨by simp⟩, ⟨by have := HLen.out; have := HBl.out; have := HBm.out; simp only [List.length_append, List.length_cons, List.length_nil] at *; omega⟩, ⟨by have := HEq.out; rw [show mergeP (x :: a) (y :: b) = y :: mergeP a b by conv => lhs; unfold mergeP; rw [if_neg HLt.out, if_pos HXy.out]] at this; simpa using this⟩, ⟨HCa2.out⟩, ⟨HCd2.out⟩, ⟨HO9.out⟩, ⟨HB9.out⟩⟩
                · have HCa2 := Aside0.mk (show Kd.C k27 w4 _ a.length a by have := HCda.out; rw [if_neg hc2] at this; exact this)
                  have hnb2 : na - 1 = a.length := by have := HBl.out; simp only [List.length_cons] at this; omega
                  have hcn2 : na ≤ ca := hca
                  have hn12 : 1 ≤ na := by have := HBl.out; simp only [List.length_cons] at this; omega
                  have hc02 : ¬ ca - 1 = 0 := by omega
                  have a0 := HHm.out.2.2.2.1; have a1 := HHm.out.2.2.2.2.1; have a2 := HHm.out.2.2.2.2.2
                  by_cases hc1 : cb = 1
                  · have HCd2 := Aside0.mk (show Kd.C k27 w4 _ b.length b by have := HCdb.out; rw [if_pos hc1] at this; exact this)
                    have hnb : nb - 1 = b.length := by have := HBm.out; simp only [List.length_cons] at this; omega
                    have hcn : nb ≤ cb := by assumption
                    have hn1 : 1 ≤ nb := by have := HBm.out; simp only [List.length_cons] at this; omega
                    have hc0 : cb - 1 = 0 := by omega
                    have HOB := Aside0.mk (Kd.R_below HO.out HBE.out)
                    have HWB := Aside0.mk (below_step HBr.out HBE.out)
                    have hzb := HWB.out.size
                    have hol : (o.length + 1) * 32 ≤ 140737488355328 := by have h1 := HLen.out; omega
                    have HOL := Aside0.mk hol; clear hol
                    go_wp2_with ((with_reducible refine gate_builtin (b := .append) (xs := #[.tmp 72, .tmp 76]) rfl ?_); at_builtin; refine app27 (w0 := w4) (base := w4.heap.size) (ok := fun _ => True) rfl (.tmp 72) (.tmp 76) rfl _ o y rfl rfl rfl (fun _ _ => trivial) HOB.out HWB.out hzb HOL.out ?_; intro v9 w9 ho9 hb9 hg9; have HO9 := Aside0.mk ho9; have HB9 := Aside0.mk hb9; clear ho9 hb9 hg9)
                    go_roundg (a.length + b.length)
                    case measure => have := HM.out; have := HBl.out; have := HBm.out; simp only [List.length_cons] at *; omega
                    case rel => exact ⟨a, b, o ++ [y], _, _, _, _, rfl, rfl, by omega, by omega, ⟨by simp⟩, ⟨by have := HLen.out; have := HBl.out; have := HBm.out; simp only [List.length_append, List.length_cons, List.length_nil] at *; omega⟩, ⟨by have := HEq.out; rw [show mergeP (x :: a) (y :: b) = y :: mergeP a b by conv => lhs; unfold mergeP; rw [if_neg HLt.out, if_pos HXy.out]] at this; simpa using this⟩, ⟨HCa2.out⟩, ⟨HCd2.out⟩, ⟨HO9.out⟩, ⟨HB9.out⟩⟩
                  · have HCd2 := Aside0.mk (show Kd.C k27 w4 _ b.length b by have := HCdb.out; rw [if_neg hc1] at this; exact this)
                    have hnb : nb - 1 = b.length := by have := HBm.out; simp only [List.length_cons] at this; omega
                    have hcn : nb ≤ cb := by assumption
                    have hn1 : 1 ≤ nb := by have := HBm.out; simp only [List.length_cons] at this; omega
                    have hc0 : ¬ cb - 1 = 0 := by omega
                    have HOB := Aside0.mk (Kd.R_below HO.out HBE.out)
                    have HWB := Aside0.mk (below_step HBr.out HBE.out)
                    have hzb := HWB.out.size
                    have hol : (o.length + 1) * 32 ≤ 140737488355328 := by have h1 := HLen.out; omega
                    have HOL := Aside0.mk hol; clear hol
                    go_wp2_with ((with_reducible refine gate_builtin (b := .append) (xs := #[.tmp 72, .tmp 76]) rfl ?_); at_builtin; refine app27 (w0 := w4) (base := w4.heap.size) (ok := fun _ => True) rfl (.tmp 72) (.tmp 76) rfl _ o y rfl rfl rfl (fun _ _ => trivial) HOB.out HWB.out hzb HOL.out ?_; intro v9 w9 ho9 hb9 hg9; have HO9 := Aside0.mk ho9; have HB9 := Aside0.mk hb9; clear ho9 hb9 hg9)
                    go_roundg (a.length + b.length)
                    case measure => have := HM.out; have := HBl.out; have := HBm.out; simp only [List.length_cons] at *; omega
                    case rel => exact ⟨a, b, o ++ [y], _, _, _, _, rfl, rfl, by omega, by omega, ⟨by simp⟩, ⟨by have := HLen.out; have := HBl.out; have := HBm.out; simp only [List.length_append, List.length_cons, List.length_nil] at *; omega⟩, ⟨by have := HEq.out; rw [show mergeP (x :: a) (y :: b) = y :: mergeP a b by conv => lhs; unfold mergeP; rw [if_neg HLt.out, if_pos HXy.out]] at this; simpa using this⟩, ⟨HCa2.out⟩, ⟨HCd2.out⟩, ⟨HO9.out⟩, ⟨HB9.out⟩⟩
              · have hcm : ¬ cmpP x y = 0 := fun h => hxy (hcZ.1 h)
                have hcb_ : (cmpP x y == 0) = false := by simpa using hcm
                have HXy := Aside0.mk hxy; clear hxy hcZ
                have a0 := HHm.out.2.2.2.1; have a1 := HHm.out.2.2.2.2.1; have a2 := HHm.out.2.2.2.2.2
                by_cases hc1 : cb = 1
                · have HCd2 := Aside0.mk (show Kd.C k27 w4 _ b.length b by have := HCdb.out; rw [if_pos hc1] at this; exact this)
                  have hnb : nb - 1 = b.length := by have := HBm.out; simp only [List.length_cons] at this; omega
                  have hcn : nb ≤ cb := by assumption
                  have hn1 : 1 ≤ nb := by have := HBm.out; simp only [List.length_cons] at this; omega
                  have hc0 : cb - 1 = 0 := by omega
                  have HOB := Aside0.mk (Kd.R_below HO.out HBE.out)
                  have HWB := Aside0.mk (below_step HBr.out HBE.out)
                  have hzb := HWB.out.size
                  have hol : (o.length + 1) * 32 ≤ 140737488355328 := by have h1 := HLen.out; omega
                  have HOL := Aside0.mk hol; clear hol
                  go_wp2_with ((with_reducible refine gate_builtin (b := .append) (xs := #[.tmp 72, .tmp 76]) rfl ?_); at_builtin; refine app27 (w0 := w4) (base := w4.heap.size) (ok := fun _ => True) rfl (.tmp 72) (.tmp 76) rfl _ o y rfl rfl rfl (fun _ _ => trivial) HOB.out HWB.out hzb HOL.out ?_; intro v9 w9 ho9 hb9 hg9; have HO9 := Aside0.mk ho9; have HB9 := Aside0.mk hb9; clear ho9 hb9 hg9)
                  go_roundg (na + b.length)
                  case measure => have := HM.out; have := HBl.out; have := HBm.out; simp only [List.length_cons] at *; omega
                  case rel => exact ⟨x :: a, b, o ++ [y], _, _, ca, _, by rw [HBl.out], rfl, by rw [HBl.out]; exact hca, by omega, ⟨by simp only [List.length_cons]; have := HBl.out; simp only [List.length_cons] at this; omega⟩, ⟨by have := HLen.out; have := HBl.out; have := HBm.out; simp only [List.length_append, List.length_cons, List.length_nil] at *; omega⟩, ⟨by have := HEq.out; rw [show mergeP (x :: a) (y :: b) = y :: mergeP (x :: a) b by conv => lhs; unfold mergeP; rw [if_neg HLt.out, if_neg HXy.out]] at this; simpa using this⟩, ⟨by rw [HBl.out]; exact HCa.out⟩, ⟨HCd2.out⟩, ⟨HO9.out⟩, ⟨HB9.out⟩⟩
                · have HCd2 := Aside0.mk (show Kd.C k27 w4 _ b.length b by have := HCdb.out; rw [if_neg hc1] at this; exact this)
                  have hnb : nb - 1 = b.length := by have := HBm.out; simp only [List.length_cons] at this; omega
                  have hcn : nb ≤ cb := by assumption
                  have hn1 : 1 ≤ nb := by have := HBm.out; simp only [List.length_cons] at this; omega
                  have hc0 : ¬ cb - 1 = 0 := by omega
                  have HOB := Aside0.mk (Kd.R_below HO.out HBE.out)
                  have HWB := Aside0.mk (below_step HBr.out HBE.out)
                  have hzb := HWB.out.size
                  have hol : (o.length + 1) * 32 ≤ 140737488355328 := by have h1 := HLen.out; omega
                  have HOL := Aside0.mk hol; clear hol
                  go_wp2_with ((with_reducible refine gate_builtin (b := .append) (xs := #[.tmp 72, .tmp 76]) rfl ?_); at_builtin; refine app27 (w0 := w4) (base := w4.heap.size) (ok := fun _ => True) rfl (.tmp 72) (.tmp 76) rfl _ o y rfl rfl rfl (fun _ _ => trivial) HOB.out HWB.out hzb HOL.out ?_; intro v9 w9 ho9 hb9 hg9; have HO9 := Aside0.mk ho9; have HB9 := Aside0.mk hb9; clear ho9 hb9 hg9)
                  go_roundg (na + b.length)
                  case measure => have := HM.out; have := HBl.out; have := HBm.out; simp only [List.length_cons] at *; omega
                  case rel => exact ⟨x :: a, b, o ++ [y], _, _, ca, _, by rw [HBl.out], rfl, by rw [HBl.out]; exact hca, by omega, ⟨by simp only [List.length_cons]; have := HBl.out; simp only [List.length_cons] at this; omega⟩, ⟨by have := HLen.out; have := HBl.out; have := HBm.out; simp only [List.length_append, List.length_cons, List.length_nil] at *; omega⟩, ⟨by have := HEq.out; rw [show mergeP (x :: a) (y :: b) = y :: mergeP (x :: a) b by conv => lhs; unfold mergeP; rw [if_neg HLt.out, if_neg HXy.out]] at this; simpa using this⟩, ⟨by rw [HBl.out]; exact HCa.out⟩, ⟨HCd2.out⟩, ⟨HO9.out⟩, ⟨HB9.out⟩⟩
end Go.Proofs.Ytldlenjfpjihdaa.PS
end
