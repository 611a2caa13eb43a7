/- Status: one transaction's way through one act; a table in a variable. -/
import Derived.Test.YtckeelbodieblaaStZ
namespace Go.Proofs.Ytckeelbodieblaa.PB
open Go Go.RowKit Go.Proofs Go.Maps Go.MuLone Go.Sort Go.Shelf Go.Proofs.YtckeelbodieblaaW.PrintWords Go.Proofs.YtckeelbodieblaaW.PrintLast Go.Proofs.YtckeelbodieblaaW.PrintMore Go.Proofs.Ytckeelbodieblaa.PB
open Go.Proofs.Ytckeelbodieblaa.St hiding Kept Kept.refl Kept.of_below Kept.then_ Kept.of_grown Kept.below Kept.alloc Kept.setCell blk_kept
set_option linter.unusedVariables false
set_option linter.unusedSimpArgs false
theorem fold_last (l : List S37) : ∀ s : List S70 × Int, (l.foldl stepL s).2 ≤ s.2 + l.length := by
  induction l with
  | nil => intro s; simp
  | cons y r ih =>
    intro s
    have h1 := ih (stepL s y)
    have h2 := stepL_last s y
    simp only [List.foldl_cons, List.length_cons]
    omega
theorem rd37 {L : List S37} {i : Nat} {x : S37} (h : L[i]? = some x) : rd_T37 L (i : Int) = x := by
  unfold rd_T37
  simp [List.getD, h]
def wfA (l : List S37) : Bool := l.all fun y => (Lit.int .i64 y.f1).wf
theorem wfA_of {l : List S37} (h : wfA l = true) {y : S37} (hy : y ∈ l) : (Lit.int .i64 y.f1).wf = true := List.all_eq_true.1 h y hy
/-- The row of a number. -/
def fx (L : List S70) (n : Int) : Option S70 := (at? L n).map (·.2)
theorem fx_nil (n : Int) : fx [] n = none := rfl
theorem fx_cons (y : S70) (r : List S70) (n : Int) : fx (y :: r) n = if y.f0 = n then some y else fx r n := by
  unfold fx
  conv => lhs; unfold at?
  split
  · rfl
  · cases at? r n <;> rfl
theorem fx_mem {L : List S70} {n : Int} {x : S70} (h : fx L n = some x) : x ∈ L := by
  unfold fx at h
  obtain ⟨p, hp, rfl⟩ := Option.map_eq_some_iff.1 h
  exact List.mem_of_getElem? (at?_some hp).1
theorem fx_append {L : List S70} {n : Int} {x : S70} (h : fx L n = some x) (M : List S70) : fx (L ++ M) n = some x := by
  induction L with
  | nil => cases h
  | cons y r ih =>
    rw [fx_cons] at h
    rw [List.cons_append, fx_cons]
    by_cases e : y.f0 = n
    · rw [if_pos e] at h ⊢; exact h
    · rw [if_neg e] at h ⊢; exact ih h
theorem fx_set_ne {n : Int} {y z : S70} (hy : y.f0 ≠ n) (hz : z.f0 ≠ n) : ∀ {L : List S70} {j : Nat}, L[j]? = some y → fx (L.set j z) n = fx L n := by
  intro L
  induction L with
  | nil => intro j h; simp at h
  | cons a r ih =>
    intro j h
    cases j with
    | zero =>
      simp at h
      subst h
      rw [List.set_cons_zero, fx_cons, fx_cons, if_neg hz, if_neg hy]
    | succ j =>
      rw [List.set_cons_succ, fx_cons, fx_cons, ih (by simpa using h)]
theorem fx_set_eq {n : Int} {z : S70} (hz : z.f0 = n) : ∀ {L : List S70} {p : Nat × S70}, at? L n = some p → fx (L.set p.1 z) n = some z := by
  intro L
  induction L with
  | nil => intro p h; cases h
  | cons a r ih =>
    intro p h
    unfold at? at h
    by_cases e : a.f0 = n
    · rw [if_pos e] at h
      cases h
      rw [List.set_cons_zero, fx_cons, if_pos hz]
    · rw [if_neg e] at h
      obtain ⟨q, hq, rfl⟩ := Option.map_eq_some_iff.1 h
      rw [List.set_cons_succ, fx_cons, if_neg e]
      exact ih hq
theorem fx_erase_ne {n : Int} {y : S70} (hy : y.f0 ≠ n) : ∀ {L : List S70} {j : Nat}, L[j]? = some y → fx (L.eraseIdx j) n = fx L n := by
  intro L
  induction L with
  | nil => intro j h; simp at h
  | cons a r ih =>
    intro j h
    cases j with
    | zero =>
      simp at h
      subst h
      rw [List.eraseIdx_cons_zero, fx_cons, if_neg hy]
    | succ j =>
      rw [List.eraseIdx_cons_succ, fx_cons, fx_cons, ih (by simpa using h)]
theorem fx_none {n : Int} : ∀ {L : List S70}, (∀ x ∈ L, x.f0 ≠ n) → fx L n = none := by
  intro L
  induction L with
  | nil => intro _; rfl
  | cons a r ih =>
    intro h
    rw [fx_cons, if_neg (h a (List.mem_cons_self ..)), ih (fun x hx => h x (List.mem_cons_of_mem _ hx))]
theorem fx_erase_eq {n : Int} : ∀ {L : List S70} {p : Nat × S70}, L.Pairwise (fun x y => x.f0 < y.f0) → at? L n = some p → fx (L.eraseIdx p.1) n = none := by
  intro L
  induction L with
  | nil => intro p _ h; cases h
  | cons a r ih =>
    intro p hs h
    obtain ⟨h1, h2⟩ := List.pairwise_cons.1 hs
    unfold at? at h
    by_cases e : a.f0 = n
    · rw [if_pos e] at h
      cases h
      rw [List.eraseIdx_cons_zero]
      exact fx_none (fun x hx e' => by have := h1 x hx; omega)
    · rw [if_neg e] at h
      obtain ⟨q, hq, rfl⟩ := Option.map_eq_some_iff.1 h
      rw [List.eraseIdx_cons_succ, fx_cons, if_neg e]
      exact ih h2 hq
theorem stateS_fx (L : List S70) (n : Int) : stateS L n = match fx L n with | none => (0, 0, 90) | some x => (x.f1, x.f2, 0) := by
  unfold stateS fx
  cases at? L n <;> rfl
/-- What may follow a row: later, and the same where it was decided. -/
def Later (x x' : S70) : Prop := x.f1 ≤ x'.f1 ∧ (dec x.f1 = true → x'.f1 = x.f1 ∧ x'.f2 = x.f2)
theorem Later.refl (x : S70) : Later x x := ⟨Int.le_refl _, fun _ => ⟨rfl, rfl⟩⟩
theorem turnS_later {L : List S70} {n s t m : Int} {me : S70 → Int} {x : S70} (h : fx L m = some x) (hs : 2 ≤ s) (hst : ∀ x ∈ L, 1 ≤ x.f1 ∧ x.f1 ≤ 4) : ∃ x', fx (turnS L n s t me).1 m = some x' ∧ Later x x' := by
  unfold turnS
  cases ha : at? L n with
  | none => exact ⟨x, h, Later.refl _⟩
  | some p =>
    obtain ⟨i, y⟩ := p
    obtain ⟨hi, hy⟩ := at?_some ha
    simp only
    split
    · exact ⟨x, h, Later.refl _⟩
    · rename_i hd
      split
      · exact ⟨x, h, Later.refl _⟩
      · by_cases e : n = m
        · subst e
          have hxy : x = y := by unfold fx at h; rw [ha] at h; exact (Option.some.inj h).symm
          subst hxy
          refine ⟨_, fx_set_eq (z := ⟨n, s, t⟩) rfl ha, ?_, fun hd' => absurd hd' hd⟩
          have h4 := hst x (List.mem_of_getElem? hi)
          have : x.f1 ≠ 3 ∧ x.f1 ≠ 4 := by
            constructor
            · intro e; rw [e] at hd; exact hd (by decide)
            · intro e; rw [e] at hd; exact hd (by decide)
          show x.f1 ≤ s
          omega
        · refine ⟨x, ?_, Later.refl _⟩
          rw [fx_set_ne (y := y) (by rw [show y.f0 = n from hy]; exact e) (show n ≠ m from e) hi]
          exact h
theorem forgetS_later {L : List S70} {n m : Int} {x : S70} (h : fx L m = some x) (hp : L.Pairwise (fun x y => x.f0 < y.f0)) : (fx (forgetS L n).1 m = none ∧ dec x.f1 = true) ∨ fx (forgetS L n).1 m = some x := by
  unfold forgetS
  cases ha : at? L n with
  | none => exact .inr h
  | some p =>
    obtain ⟨i, y⟩ := p
    obtain ⟨hi, hy⟩ := at?_some ha
    simp only
    split
    · rename_i hd
      by_cases e : n = m
      · subst e
        have hxy : x = y := by unfold fx at h; rw [ha] at h; exact (Option.some.inj h).symm
        subst hxy
        exact .inl ⟨fx_erase_eq hp ha, hd⟩
      · refine .inr ?_
        rw [fx_erase_ne (y := y) (by rw [show y.f0 = n from hy]; exact e) hi]
        exact h
    · exact .inr h
theorem stepL_later (s : List S70 × Int) (y : S37) {m : Int} {x : S70} (h : fx s.1 m = some x) (hp : s.1.Pairwise (fun x y => x.f0 < y.f0)) (hst : ∀ x ∈ s.1, 1 ≤ x.f1 ∧ x.f1 ≤ 4) :
    (fx (stepL s y).1 m = none ∧ dec x.f1 = true) ∨ ∃ x', fx (stepL s y).1 m = some x' ∧ Later x x' := by
  unfold stepL stepS
  split
  · split
    · exact .inr ⟨x, h, Later.refl _⟩
    · exact .inr ⟨x, fx_append h _, Later.refl _⟩
  · split
    · exact .inr (turnS_later h (by decide) hst)
    · split
      · exact .inr (turnS_later h (by decide) hst)
      · split
        · exact .inr (turnS_later h (by decide) hst)
        · split
          · exact (forgetS_later h hp).imp id (fun h => ⟨x, h, Later.refl _⟩)
          · exact .inr ⟨x, h, Later.refl _⟩
/-- What is written into the document's variable. -/
theorem pair_put {w W : World} {b m gm nn : Nat} {s : List S70 × Int} {pf qf : Int → Nat} {A : Option Addr} {c : Nat} {u v : Value} (hT : Tab W 0 b m nn pf qf s.1 s.2) (hg : W.heap[gm]? = some (.cells #[u, v] 27))
    (hR : Kd.R k70 70 W w.heap.size (fun k => ¬ Foot b m pf s.1 k) (.slice A s.1.length c) s.1) (hfar : ∀ k, Foot b m pf s.1 k → w.heap.size ≤ k ∧ k ≠ gm) (hgle : w.heap.size ≤ gm) (hbel : Below w.heap.size w W) :
    Pair w ((W.setCell ⟨gm, 0, none⟩ (.slice A s.1.length c)).setCell ⟨gm, 1, none⟩ (.int .i64 s.2)) b m gm s nn pf qf A c := by
  have hk7 : St.Kept W ((W.setCell ⟨gm, 0, none⟩ (.slice A s.1.length c)).setCell ⟨gm, 1, none⟩ (.int .i64 s.2)) (fun k => k = gm) := ((St.Kept.refl W (fun k => k = gm)).setCell (p := ⟨gm, 0, none⟩) (.inl rfl) _).setCell (p := ⟨gm, 1, none⟩) (.inl rfl) _
  refine ⟨hT.kept hk7 (fun k hk e => (hfar k hk).2 e) (fun x hx e => by have h1 := hT.q x hx; rw [e, hg] at h1; exact absurd (cells_ty h1) (by decide)), setCell_heap (setCell_heap hg _) _, ?_, hfar, hgle, ?_⟩
  · exact Kd.R_mono (St.Kd.R_kept (Kd.R_types hR hg (by decide)) hk7 (fun k hk e => hk.2 e)) (fun k hk => hk.1)
  · exact (hbel.setCell (p := ⟨gm, 0, none⟩) hgle _).setCell (p := ⟨gm, 1, none⟩) hgle _
end Go.Proofs.Ytckeelbodieblaa.PB
