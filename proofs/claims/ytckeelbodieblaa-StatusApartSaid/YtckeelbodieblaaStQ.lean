/- Status: two tables, apart. -/
import Derived.Test.YtckeelbodieblaaStO
namespace Go.Proofs.Ytckeelbodieblaa.PB
open Go Go.RowKit Go.Proofs Go.Maps Go.MuLone Go.Sort Go.Shelf Go.Proofs.YtckeelbodieblaaW.PrintWords Go.Proofs.YtckeelbodieblaaW.PrintLast Go.Proofs.YtckeelbodieblaaW.PrintMore Go.Proofs.Ytckeelbodieblaa.PB
open Go.Proofs.Ytckeelbodieblaa.St hiding Kept Kept.refl Kept.of_below Kept.then_ Kept.of_grown Kept.below Kept.alloc Kept.setCell blk_kept
set_option linter.unusedVariables false
set_option linter.unusedSimpArgs false
/-- A block that is neither a row's nor a fate's. -/
def Other (W : World) (k : Nat) : Prop := (∀ cs, W.heap[k]? ≠ some (.cells cs 70 (0, 0))) ∧ ∀ cs, W.heap[k]? ≠ some (.cells cs 66 (0, 0))
theorem other_cells {W : World} {k t : Nat} {cs : Array Value} (h : W.heap[k]? = some (.cells cs t (0, 0))) (h1 : t ≠ 70) (h2 : t ≠ 66) : Other W k :=
  ⟨fun cs' e => by rw [h] at e; exact h1 (cells_ty e), fun cs' e => by rw [h] at e; exact h2 (cells_ty e)⟩
theorem other_new {W : World} {k : Nat} (h : W.heap.size ≤ k) : Other W k := by
  have : W.heap[k]? = none := Array.getElem?_eq_none h
  exact ⟨fun cs e => (by rw [this] at e; cases e), fun cs e => (by rw [this] at e; cases e)⟩
theorem other_foot {W : World} {lk : Int} {b m nn : Nat} {pf qf : Int → Nat} {L : List S70} {last : Int} (hT : Tab W lk b m nn pf qf L last) {k : Nat} (hk : Foot b m pf L k) : Other W k := by
  rcases hk with rfl | rfl | ⟨x, hx, rfl⟩
  · exact other_cells hT.blk (by decide) (by decide)
  · obtain ⟨es, clock, h1⟩ := hT.mp.blk
    exact ⟨fun cs e => (by rw [h1] at e; cases e), fun cs e => (by rw [h1] at e; cases e)⟩
  · exact other_cells (hT.p x hx) (by decide) (by decide)
section
variable {w W W' : World} {b m gm nn : Nat} {s : List S70 × Int} {pf qf : Int → Nat} {A : Option Addr} {c : Nat}
/-- What changes elsewhere leaves it. -/
theorem Pair.far_ (h : Pair w W b m gm s nn pf qf A c) {S : Nat → Prop} (hK : St.Kept W W' S) (hS : ∀ k, S k → w.heap.size ≤ k ∧ k ≠ gm ∧ ¬ Foot b m pf s.1 k ∧ Other W k) : Pair w W' b m gm s nn pf qf A c := by
  refine ⟨h.tab.kept hK (fun k hk hs => (hS k hs).2.2.1 hk) (fun x hx hs => (hS _ hs).2.2.2.2 _ (h.tab.q x hx)), St.blk_kept h.box hK (fun hs => (hS _ hs).2.1 rfl), ?_, h.far, h.gle, h.bel.trans (hK.toBelow (fun k hk => ⟨Nat.lt_of_lt_of_le hk h.bel.size, fun hs => by have := (hS k hs).1; omega⟩))⟩
  have h1 := Kd.R_bound h.row
  refine Kd.R_mono (St.Kd.R_kept h1 hK (fun k hk hs => ?_)) (fun k hk => hk.1)
  obtain ⟨_, _, _, q, hq, cs, hc⟩ := hk
  have : q = 70 := by
    rcases List.mem_cons.1 hq with h | h
    · exact h
    · cases h
  subst this
  exact (hS k hs).2.2.2.1 cs hc
end
structure Two (w W : World) (b m g : Nat) (s : List S70 × Int) (nn : Nat) (pf qf : Int → Nat) (A : Option Addr) (c : Nat) (b' m' g' : Nat) (s' : List S70 × Int) (nn' : Nat) (pf' qf' : Int → Nat) (A' : Option Addr) (c' : Nat) : Prop where
  one : Pair w W b m g s nn pf qf A c
  two : Pair w W b' m' g' s' nn' pf' qf' A' c'
  ff : ∀ k, Foot b m pf s.1 k → ¬ Foot b' m' pf' s'.1 k
  gg : g ≠ g'
  fg : ¬ Foot b m pf s.1 g'
  gf : ¬ Foot b' m' pf' s'.1 g
namespace Two
variable {w W W' : World} {b m g nn b' m' g' nn' : Nat} {s s' : List S70 × Int} {pf qf pf' qf' : Int → Nat} {A A' : Option Addr} {c c' : Nat}
theorem symm (h : Two w W b m g s nn pf qf A c b' m' g' s' nn' pf' qf' A' c') : Two w W b' m' g' s' nn' pf' qf' A' c' b m g s nn pf qf A c :=
  ⟨h.two, h.one, fun k h1 h2 => h.ff k h2 h1, h.gg.symm, h.gf, h.fg⟩
theorem below (h : Two w W b m g s nn pf qf A c b' m' g' s' nn' pf' qf' A' c') (hB : Below W.heap.size W W') : Two w W' b m g s nn pf qf A c b' m' g' s' nn' pf' qf' A' c' :=
  ⟨h.one.below hB, h.two.below hB, h.ff, h.gg, h.fg, h.gf⟩
theorem kept (h : Two w W b m g s nn pf qf A c b' m' g' s' nn' pf' qf' A' c') (hK : St.Kept W W' (Foot b m pf s.1)) (hT : Tab W' 0 b m nn pf qf s.1 s.2) : Two w W' b m g s nn pf qf A c b' m' g' s' nn' pf' qf' A' c' :=
  ⟨h.one.kept hK hT, h.two.far_ hK (fun k hk => ⟨(h.one.far k hk).1, fun e => h.fg (e ▸ hk), h.ff k hk, other_foot h.one.tab hk⟩), h.ff, h.gg, h.fg, h.gf⟩
theorem far_ (h : Two w W b m g s nn pf qf A c b' m' g' s' nn' pf' qf' A' c') {S : Nat → Prop} (hK : St.Kept W W' S) (hS : ∀ k, S k → w.heap.size ≤ k ∧ (k ≠ g ∧ ¬ Foot b m pf s.1 k) ∧ (k ≠ g' ∧ ¬ Foot b' m' pf' s'.1 k) ∧ Other W k) : Two w W' b m g s nn pf qf A c b' m' g' s' nn' pf' qf' A' c' :=
  ⟨h.one.far_ hK (fun k hk => ⟨(hS k hk).1, (hS k hk).2.1.1, (hS k hk).2.1.2, (hS k hk).2.2.2⟩), h.two.far_ hK (fun k hk => ⟨(hS k hk).1, (hS k hk).2.2.1.1, (hS k hk).2.2.1.2, (hS k hk).2.2.2⟩), h.ff, h.gg, h.fg, h.gf⟩
theorem isa (h : Two w W b m g s nn pf qf A c b' m' g' s' nn' pf' qf' A' c') (hl : (s.2 + 1) * 24 ≤ 140737488355328) :
    Calls Try.prog 13 #[pt b, .agg #[.slice A s.1.length c, .int .i64 s.2]] W fun e w' => e = .returned (.bool true) ∧ Two w w' b m g s nn pf qf A c b' m' g' s' nn' pf' qf' A' c' := by
  refine (is_any h.one.tab (Kd.R_reads' h.one.row).2.2 (Kd.R_reads' h.one.row).2.1 (fun ad e hn => h.one.row.1 ad.block (by rw [e]; first | rfl | simp [Value.ownBlock])) hl).mono ?_
  rintro e w' ⟨rfl, hT, hK⟩
  exact ⟨rfl, h.kept hK hT⟩
/-- What Open told: new memory, of which neither table knows. -/
theorem opens (h : Two w W b m g s nn pf qf A c b' m' g' s' nn' pf' qf' A' c') (hl : s.2 * 24 ≤ 140737488355328) :
    Calls Try.prog 14 #[pt b] W fun e w' => ∃ v, e = .returned v ∧ Kd.R (Kd.int .i64) 3 w' W.heap.size (fun _ => True) v (openL s.1) ∧ Two w w' b m g s nn pf qf A c b' m' g' s' nn' pf' qf' A' c' ∧ W.heap.size ≤ w'.heap.size := by
  refine (Open_any h.one.tab hl).mono ?_
  rintro e w' ⟨v, rfl, hR, hT, hK⟩
  exact ⟨v, rfl, hR, h.kept hK hT, hK.size⟩
/-- A block of ints that neither table knows may be written. -/
theorem put (h : Two w W b m g s nn pf qf A c b' m' g' s' nn' pf' qf' A' c') {t j : Nat} {cs : Array Value} (ht : W.heap[t]? = some (.cells cs 3 (0, 0))) (h0 : w.heap.size ≤ t) (h1 : t ≠ g ∧ ¬ Foot b m pf s.1 t) (h2 : t ≠ g' ∧ ¬ Foot b' m' pf' s'.1 t) (u : Value) :
    Two w (W.setCell ⟨t, j, none⟩ u) b m g s nn pf qf A c b' m' g' s' nn' pf' qf' A' c' :=
  h.far_ (S := fun k => k = t) ((St.Kept.refl W (fun k => k = t)).setCell (p := ⟨t, j, none⟩) (.inl rfl) u) (fun k hk => by subst hk; exact ⟨h0, h1, h2, other_cells ht (by decide) (by decide)⟩)
theorem act (h : Two w W b m g s nn pf qf A c b' m' g' s' nn' pf' qf' A' c') (y : S37) (hy : (Lit.int .i64 y.f1).wf = true) (hl : (s.2 + 1) * 24 ≤ 140737488355328) :
    Calls Try.prog 9 #[pt b, .agg #[.slice A s.1.length c, .int .i64 s.2], .agg #[.int .i64 y.f0, .int .i64 y.f1, .int .u64 y.f2]] W fun e w' => ∃ nn2 pf2 qf2 A2 c2, e = .returned (.tuple #[.agg #[.slice A2 (stepL s y).1.length c2, .int .i64 (stepL s y).2], .bool true]) ∧
      w'.heap[g]? = some (.cells #[.slice A s.1.length c, .int .i64 s.2] 27) ∧ Below w.heap.size w w' ∧
      Two w ((w'.setCell ⟨g, 0, none⟩ (.slice A2 (stepL s y).1.length c2)).setCell ⟨g, 1, none⟩ (.int .i64 (stepL s y).2)) b m g (stepL s y) nn2 pf2 qf2 A2 c2 b' m' g' s' nn' pf' qf' A' c' := by
  have h1 := h.one
  refine (does_any y.f0 y.f1 y.f2 hy h1.tab h1.row h1.bel.size hl).mono ?_
  rintro e w' ⟨nn2, pf2, qf2, v', rfl, hT, hR, hK, hF⟩
  obtain ⟨A2, c2, rfl⟩ := Kd.R_slice hR
  have hg : w'.heap[g]? = some (.cells #[.slice A s.1.length c, .int .i64 s.2] 27) := St.blk_kept h1.box hK (fun hF => (h1.far _ hF).2 rfl)
  have hbel : Below w.heap.size w w' := h1.bel.trans (hK.toBelow (fun k hk => ⟨Nat.lt_of_lt_of_le hk h1.bel.size, fun hF => by have := (h1.far _ hF).1; omega⟩))
  have hfar : ∀ k, Foot b m pf2 (stepL s y).1 k → w.heap.size ≤ k ∧ k ≠ g := fun k hk => by
    rcases hF k hk with h2 | h2
    · exact h1.far k h2
    · have := h1.glt; have := h1.bel.size; exact ⟨by omega, by omega⟩
  refine ⟨nn2, pf2, qf2, A2, c2, rfl, hg, hbel, pair_put hT hg hR hfar h1.gle hbel, ?_, ?_, h.gg, ?_, h.gf⟩
  · have hk7 : St.Kept w' ((w'.setCell ⟨g, 0, none⟩ (.slice A2 (stepL s y).1.length c2)).setCell ⟨g, 1, none⟩ (.int .i64 (stepL s y).2)) (fun k => k = g) := ((St.Kept.refl w' (fun k => k = g)).setCell (p := ⟨g, 0, none⟩) (.inl rfl) _).setCell (p := ⟨g, 1, none⟩) (.inl rfl) _
    have h2 : Pair w w' b' m' g' s' nn' pf' qf' A' c' := h.two.far_ hK (fun k hk => ⟨(h1.far k hk).1, fun e => h.fg (e ▸ hk), h.ff k hk, other_foot h1.tab hk⟩)
    exact h2.far_ hk7 (fun k hk => by subst hk; exact ⟨h1.gle, h.gg, h.gf, other_cells hg (by decide) (by decide)⟩)
  · intro k hk hk2
    rcases hF k hk with h2 | h2
    · exact h.ff k h2 hk2
    · have := h.two.tab.lt hk2; omega
  · intro hk
    rcases hF _ hk with h2 | h2
    · exact h.fg h2
    · have := h.two.glt; omega
end Two
theorem foot_nil {b m : Nat} {pf : Int → Nat} {k : Nat} (h : Foot b m pf [] k) : k = b ∨ k = m := by
  rcases h with h | h | ⟨x, hx, _⟩
  · exact .inl h
  · exact .inr h
  · cases hx
end Go.Proofs.Ytckeelbodieblaa.PB
