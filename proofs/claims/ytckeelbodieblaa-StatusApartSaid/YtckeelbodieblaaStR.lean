/- Status: the reference's functions, plain. -/
import Derived.Test.YtckeelbodieblaaStH
import Derived.Test.YtckeelbodieblaaPBx2
namespace Go.Proofs.Ytckeelbodieblaa.St
open Go Go.RowKit Go.Proofs Go.Maps Go.MuLone Go.Sort Go.Shelf Go.Proofs.YtckeelbodieblaaW.PrintWords Go.Proofs.YtckeelbodieblaaW.PrintLast Go.Proofs.YtckeelbodieblaaW.PrintMore Go.Proofs.Ytckeelbodieblaa.PB
set_option linter.unusedVariables false
set_option linter.unusedSimpArgs false
/-- From some number of rounds on, f answers v. -/
def Ev {α : Type} (f : Nat → Option α) (v : α) : Prop := ∃ k0, ∀ k, k0 ≤ k → f k = some v
namespace Ev
variable {α β : Type} {f g : Nat → Option α} {v : α}
theorem pure {v : α} : Ev (fun _ => some v) v := ⟨0, fun _ _ => rfl⟩
theorem bind {F : Nat → α → Option β} {b : β} (h : Ev f v) (h2 : Ev (fun k => F k v) b) : Ev (fun k => (f k).bind (F k)) b := by
  obtain ⟨k0, h⟩ := h
  obtain ⟨k1, h2⟩ := h2
  exact ⟨max k0 k1, fun k hk => by show (f k).bind (F k) = some b; rw [h k (by omega)]; exact h2 k (by omega)⟩
theorem step (h : ∀ k, f (k + 1) = g k) (hg : Ev g v) : Ev f v := by
  obtain ⟨k0, hg⟩ := hg
  refine ⟨k0 + 1, fun k hk => ?_⟩
  obtain ⟨j, rfl⟩ : ∃ j, k = j + 1 := ⟨k - 1, by omega⟩
  rw [h]; exact hg j (by omega)
theorem from_ (n : Nat) (h : ∀ k, f (k + n) = some v) : Ev f v := ⟨n, fun k hk => by have := h (k - n); rwa [Nat.sub_add_cancel hk] at this⟩
theorem congr (h : ∀ k, f k = g k) (hg : Ev g v) : Ev f v := by obtain ⟨k0, hg⟩ := hg; exact ⟨k0, fun k hk => by rw [h]; exact hg k hk⟩
theorem pos {c : Prop} [Decidable c] (hc : c) (h : Ev f v) : Ev (fun k => if c then f k else g k) v := congr (fun k => if_pos hc) h
theorem neg {c : Prop} [Decidable c] (hc : ¬ c) (h : Ev g v) : Ev (fun k => if c then f k else g k) v := congr (fun k => if_neg hc) h
theorem ex (h : Ev f v) : ∃ k, f k = some v := by obtain ⟨k0, h⟩ := h; exact ⟨k0, h k0 (Nat.le_refl _)⟩
end Ev
theorem wrap64_id {n : Int} (h0 : -9223372036854775808 ≤ n) (h1 : n < 9223372036854775808) : wrap64 n = n := by unfold wrap64; omega
def idx? (L : List S70) (n : Int) : Int := match at? L n with | none => -1 | some p => p.1
theorem rd70 {L : List S70} {i : Nat} {x : S70} (h : L[i]? = some x) : rd_T70 L (i : Int) = x := by
  unfold rd_T70
  simp [List.getD, h]
theorem at?_drop {L : List S70} {n : Int} {i : Nat} {x : S70} (hx : L[i]? = some x) : at? (L.drop i) n = if x.f0 = n then some (0, x) else (at? (L.drop (i + 1)) n).map fun p => (p.1 + 1, p.2) := by
  have hlt := (List.getElem?_eq_some_iff.1 hx).1
  rw [List.drop_eq_getElem_cons hlt, (List.getElem?_eq_some_iff.1 hx).2]
  rfl
theorem find_ev (L : List S70) (last n : Int) (hl : L.length < 4611686018427387904) : Ev (fun k => vellumref09_find.f k L last n) (idx? L n) := by
  have go : ∀ (m i : Nat), i + m = L.length → Ev (fun k => vellumref09_find.l0 k n (i : Int) L last) (match at? (L.drop i) n with | none => -1 | some p => ((p.1 + i : Nat) : Int)) := by
    intro m
    induction m with
    | zero =>
      intro i hi
      refine Ev.from_ 1 fun k => ?_
      simp only [vellumref09_find.l0]
      rw [if_neg (by omega), List.drop_eq_nil_of_le (by omega)]
      rfl
    | succ m ih =>
      intro i hi
      obtain ⟨x, hx⟩ : ∃ x, L[i]? = some x := ⟨_, List.getElem?_eq_getElem (by omega)⟩
      rw [at?_drop hx]
      by_cases e : x.f0 = n
      · refine Ev.from_ 1 fun k => ?_
        simp only [vellumref09_find.l0]
        rw [if_pos (by omega), if_pos (by omega), rd70 hx, if_pos e, if_pos e]
        simp
      · rw [if_neg e]
        refine Ev.step (g := fun k => vellumref09_find.l0 k n ((i + 1 : Nat) : Int) L last) (fun k => ?_) ?_
        · simp only [vellumref09_find.l0]
          rw [if_pos (by omega), if_pos (by omega), rd70 hx, if_neg e, wrap64_id (by omega) (by omega)]
          rfl
        · have := ih (i + 1) (by omega)
          cases h : at? (L.drop (i + 1)) n with
          | none => rw [h] at this; exact this
          | some p =>
            rw [h] at this
            have e2 : ((p.1 + (i + 1) : Nat) : Int) = ((p.1 + 1 + i : Nat) : Int) := by omega
            show Ev _ (((p.1 + 1) + i : Nat) : Int)
            rw [← e2]
            exact this
  have := go L.length 0 (by omega)
  rw [List.drop_zero] at this
  unfold idx?
  cases h : at? L n with
  | none => rw [h] at this; exact this
  | some p =>
    rw [h] at this
    show Ev (fun k => vellumref09_find.l0 k n 0 L last) (p.1 : Int)
    simpa using this
theorem decided_eq (s : Int) : vellumref09_Decided.f s = some (dec s) := by
  unfold vellumref09_Decided.f dec
  by_cases h : s = 3
  · simp [h]
  · by_cases h4 : s = 4
    · simp [h4]
    · simp [h, h4]
theorem open_ev (L : List S70) (last : Int) (hl : L.length < 17592186044416) : Ev (fun k => vellumref09_Open.f k L last) (openL L) := by
  have go : ∀ (m i : Nat), i + m = L.length → Ev (fun k => vellumref09_Open.l0 k (openL (L.take i)) (i : Int) L last) (openL L) := by
    intro m
    induction m with
    | zero =>
      intro i hi
      refine Ev.from_ 1 fun k => ?_
      simp only [vellumref09_Open.l0]
      rw [if_neg (by omega), List.take_of_length_le (by omega)]
    | succ m ih =>
      intro i hi
      obtain ⟨x, hx⟩ : ∃ x, L[i]? = some x := ⟨_, List.getElem?_eq_getElem (by omega)⟩
      refine Ev.step (g := fun k => vellumref09_Open.l0 k (openL (L.take (i + 1))) ((i + 1 : Nat) : Int) L last) (fun k => ?_) (ih (i + 1) (by omega))
      have hs : openL (L.take (i + 1)) = openL (L.take i) ++ (if dec x.f1 = true then [] else [x.f0]) := by rw [List.take_add_one, hx]; exact openL_snoc _ _
      have hol : (openL (L.take i)).length ≤ i := Nat.le_trans (openL_len _) (by rw [List.length_take]; omega)
      simp only [vellumref09_Open.l0]
      rw [if_pos (by omega), if_pos (by omega), rd70 hx, decided_eq, Option.bind_some, wrap64_id (by omega) (by omega), hs]
      cases hd : dec x.f1 with
      | true => simp
      | false =>
        simp only [Bool.false_eq_true, if_false]
        rw [if_pos (by omega)]
        rfl
  exact go L.length 0 (by omega)
theorem with_ev (L : List S70) (last a : Int) (y : S70) (hl : L.length < 5864062014805) : Ev (fun k => vellumref09_with.f k L last a y.f0 y.f1 y.f2) (if 0 ≤ a then L.set a.toNat y else L, last) := by
  have go : ∀ (m i : Nat), i + m = L.length → Ev (fun k => vellumref09_with.l0 k a (i : Int) L last y.f0 y.f1 y.f2 ((if 0 ≤ a then L.set a.toNat y else L).take i) last) (if 0 ≤ a then L.set a.toNat y else L, last) := by
    intro m
    induction m with
    | zero =>
      intro i hi
      refine Ev.from_ 1 fun k => ?_
      simp only [vellumref09_with.l0]
      rw [if_neg (by omega), List.take_of_length_le (by split <;> (try rw [List.length_set]) <;> omega)]
    | succ m ih =>
      intro i hi
      obtain ⟨x, hx⟩ : ∃ x, L[i]? = some x := ⟨_, List.getElem?_eq_getElem (by omega)⟩
      refine Ev.step (g := fun k => vellumref09_with.l0 k a ((i + 1 : Nat) : Int) L last y.f0 y.f1 y.f2 ((if 0 ≤ a then L.set a.toNat y else L).take (i + 1)) last) (fun k => ?_) (ih (i + 1) (by omega))
      have hlen : ((if 0 ≤ a then L.set a.toNat y else L).take i).length < 5864062014805 := by rw [List.length_take]; omega
      simp only [vellumref09_with.l0]
      rw [if_pos (by omega), wrap64_id (by omega) (by omega)]
      by_cases e : (i : Int) = a
      · have h0 : 0 ≤ a := by omega
        have ht : a.toNat = i := by omega
        rw [if_pos e, if_pos hlen, if_pos h0, ht, List.take_add_one, List.getElem?_set, if_pos rfl, if_pos (by omega)]
        rfl
      · rw [if_neg e, if_pos (by omega), if_pos hlen, rd70 hx]
        have hg : (if 0 ≤ a then L.set a.toNat y else L)[i]? = some x := by
          split
          · rw [List.getElem?_set, if_neg (by omega)]; exact hx
          · exact hx
        rw [List.take_add_one (l := if 0 ≤ a then L.set a.toNat y else L), hg]
        rfl
  have := go L.length 0 (by omega)
  rw [List.take_zero] at this
  exact this
def lookS (L : List S70) (n : Int) : Int × Int :=
  match at? L n with
  | none => (0, 90)
  | some (i, x) => if dec x.f1 = true then (0, 91) else ((i : Int), 0)
def stateS (L : List S70) (n : Int) : Int × Int × Int :=
  match at? L n with
  | none => (0, 0, 90)
  | some (i, x) => (x.f1, x.f2, 0)
theorem looked_ev (L : List S70) (last n : Int) (hl : L.length < 4611686018427387904) : Ev (fun k => vellumref09_looked.f k L last n) (lookS L n) := by
  unfold vellumref09_looked.f
  refine Ev.bind (find_ev L last n hl) ?_
  unfold idx? lookS
  cases h : at? L n with
  | none => exact Ev.pos (by show (-1 : Int) < 0; decide) Ev.pure
  | some p =>
    obtain ⟨i, x⟩ := p
    have hi : L[i]? = some x := (at?_some h).1
    have hlt := (List.getElem?_eq_some_iff.1 hi).1
    refine Ev.neg (by show ¬ (i : Int) < 0; omega) (Ev.pos (by show (0 : Int) ≤ (i : Int); omega) (Ev.pos (by show (i : Int) < _; omega) ?_))
    refine Ev.congr (g := fun _ => some (if dec x.f1 = true then (0, 91) else ((i : Int), 0))) (fun k => ?_) Ev.pure
    show ((vellumref09_Decided.f (rd_T70 L (i : Int)).f1).bind _) = _
    rw [rd70 hi, decided_eq, Option.bind_some]
    cases dec x.f1 <;> rfl
theorem state_ev (L : List S70) (last n : Int) (hl : L.length < 4611686018427387904) : Ev (fun k => vellumref09_State.f k L last n) (stateS L n) := by
  unfold vellumref09_State.f
  refine Ev.bind (find_ev L last n hl) ?_
  unfold idx? stateS
  cases h : at? L n with
  | none => exact Ev.pos (by show (-1 : Int) < 0; decide) Ev.pure
  | some p =>
    obtain ⟨i, x⟩ := p
    have hi : L[i]? = some x := (at?_some h).1
    have hlt := (List.getElem?_eq_some_iff.1 hi).1
    refine Ev.neg (by show ¬ (i : Int) < 0; omega) (Ev.pos (by show (0 : Int) ≤ (i : Int); omega) (Ev.pos (by show (i : Int) < _; omega) ?_))
    refine Ev.congr (g := fun _ => some (x.f1, x.f2, 0)) (fun k => ?_) Ev.pure
    show some ((rd_T70 L (i : Int)).f1, (rd_T70 L (i : Int)).f2, (0 : Int)) = _
    rw [rd70 hi]
theorem same_ev (l : List Int) (hl : l.length < 4611686018427387904) : Ev (fun k => vellumlaw09_sameInts.f k l l) true := by
  have go : ∀ (m i : Nat), i + m = l.length → Ev (fun k => vellumlaw09_sameInts.l0 k l l (i : Int)) true := by
    intro m
    induction m with
    | zero =>
      intro i hi
      refine Ev.from_ 1 fun k => ?_
      simp only [vellumlaw09_sameInts.l0]
      rw [if_neg (by omega)]
    | succ m ih =>
      intro i hi
      refine Ev.step (g := fun k => vellumlaw09_sameInts.l0 k l l ((i + 1 : Nat) : Int)) (fun k => ?_) (ih (i + 1) (by omega))
      simp only [vellumlaw09_sameInts.l0]
      rw [if_pos (by omega), if_pos (by omega), if_pos (by omega), wrap64_id (by omega) (by omega)]
      exact if_pos trivial
  unfold vellumlaw09_sameInts.f
  exact Ev.pos rfl (go l.length 0 (by omega))
end Go.Proofs.Ytckeelbodieblaa.St
