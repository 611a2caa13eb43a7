/- Status: awake and the law StatusPlays. -/
import Derived.Test.YtckeelbodieblaaStY
namespace Go.Proofs.Ytckeelbodieblaa.PB
open Go Go.RowKit Go.Proofs Go.Maps Go.MuLone Go.Sort Go.Shelf Go.Proofs.YtckeelbodieblaaW.PrintWords Go.Proofs.YtckeelbodieblaaW.PrintLast Go.Proofs.YtckeelbodieblaaW.PrintMore Go.Proofs.Ytckeelbodieblaa.PB
open Go.Proofs.Ytckeelbodieblaa.St hiding Kept Kept.refl Kept.of_below Kept.then_ Kept.of_grown Kept.below Kept.alloc Kept.setCell blk_kept
set_option linter.unusedVariables false
set_option linter.unusedSimpArgs false
set_option maxHeartbeats 4000000 in
theorem awake_any (w : World) : Calls Try.prog 12 #[] w fun e w' => e = .returned (.bool true) ∧ Below w.heap.size w w' := by
  go_enter Try.func12, Try.ntmps12
  go_wp2_with (go_at_call 6; refine (New_any _).mono ?_; rintro e w1 ⟨b, m, rfl, hT1, hB1, hb, hm⟩; have HT1 := Aside0.mk hT1; have HB1 := Aside0.mk hB1; clear hT1 hB1; unfold pt)
  refine (Begin_more HT1.out (by decide) (by decide)).mono ?_
  rintro e w2 ⟨pf', qf', rfl, hT2, hK2, hF2⟩
  have HT2 := Aside0.mk hT2
  have HB2 := Aside0.mk (HB1.out.trans (hK2.toBelow (B := w.heap.size) (fun k hk => ⟨Nat.lt_of_lt_of_le hk HB1.out.size, fun h => by
    rcases h with h | h | ⟨x, hx, _⟩
    · omega
    · omega
    · cases hx⟩)))
  clear hT2 hK2 hF2
  have hs := state_any (n := 1) HT2.out (by decide)
  rw [show stateS ([] ++ [(⟨0 + 1, 1, 0⟩ : S70)]) 1 = (1, 0, 0) from rfl] at hs
  unfold pt at hs
  go_wp2_with (first | (go_at_call 10; refine hs.mono ?_; rintro e w3 ⟨rfl, hB3⟩; have HB3 := Aside0.mk hB3; clear hB3))
  go_ret
  exact ⟨rfl, below_step HB2.out HB3.out⟩
def stepL (s : List S70 × Int) (y : S37) : List S70 × Int := stepS s.1 s.2 y.f0 y.f1 y.f2
theorem stepL_last (s : List S70 × Int) (y : S37) : (stepL s y).2 ≤ s.2 + 1 := by
  unfold stepL stepS
  repeat' split
  all_goals (first | omega | (show s.2 + 1 ≤ s.2 + 1; omega) | (show s.2 ≤ s.2 + 1; omega))
/-- What is known of a table and of what the document has beside it. -/
structure Pair (w W : World) (b m gm : Nat) (s : List S70 × Int) (nn : Nat) (pf qf : Int → Nat) (A : Option Addr) (c : Nat) : Prop where
  tab : Tab W 0 b m nn pf qf s.1 s.2
  box : W.heap[gm]? = some (.cells #[.slice A s.1.length c, .int .i64 s.2] 27)
  row : Kd.R k70 70 W w.heap.size (fun k => ¬ Foot b m pf s.1 k) (.slice A s.1.length c) s.1
  far : ∀ k, Foot b m pf s.1 k → w.heap.size ≤ k ∧ k ≠ gm
  gle : w.heap.size ≤ gm
  bel : Below w.heap.size w W
namespace Pair
variable {w W W' : World} {b m gm nn : Nat} {s : List S70 × Int} {pf qf : Int → Nat} {A : Option Addr} {c : Nat}
theorem glt (h : Pair w W b m gm s nn pf qf A c) : gm < W.heap.size := lt_of h.box
theorem below (h : Pair w W b m gm s nn pf qf A c) (hB : Below W.heap.size W W') : Pair w W' b m gm s nn pf qf A c :=
  ⟨h.tab.below hB, (hB.block _ h.glt).trans h.box, Kd.R_below h.row hB, h.far, h.gle, below_step h.bel hB⟩
theorem kept (h : Pair w W b m gm s nn pf qf A c) (hK : St.Kept W W' (Foot b m pf s.1)) (hT : Tab W' 0 b m nn pf qf s.1 s.2) : Pair w W' b m gm s nn pf qf A c :=
  ⟨hT, St.blk_kept h.box hK (fun hF => (h.far _ hF).2 rfl), Kd.R_mono (St.Kd.R_keptB h.row hK (fun k hk => hk)) (fun k hk => hk.1), h.far, h.gle, h.bel.trans (hK.toBelow (fun k hk => ⟨Nat.lt_of_lt_of_le hk h.bel.size, fun hF => by have := (h.far _ hF).1; omega⟩))⟩
theorem isa (h : Pair w W b m gm s nn pf qf A c) (hl : (s.2 + 1) * 24 ≤ 140737488355328) :
    Calls Try.prog 13 #[pt b, .agg #[.slice A s.1.length c, .int .i64 s.2]] W fun e w' => e = .returned (.bool true) ∧ Pair w w' b m gm s nn pf qf A c := by
  refine (is_any h.tab (Kd.R_reads' h.row).2.2 (Kd.R_reads' h.row).2.1 (fun ad e hn => h.row.1 ad.block (by rw [e]; first | rfl | simp [Value.ownBlock])) hl).mono ?_
  rintro e w' ⟨rfl, hT, hK⟩
  exact ⟨rfl, h.kept hK hT⟩
/-- One act, by both, and what is written into the document's variable behind it. -/
theorem act (h : Pair w W b m gm s nn pf qf A c) (y : S37) (hy : (Lit.int .i64 y.f1).wf = true) (hl : (s.2 + 1) * 24 ≤ 140737488355328) :
    Calls Try.prog 9 #[pt b, .agg #[.slice A s.1.length c, .int .i64 s.2], .agg #[.int .i64 y.f0, .int .i64 y.f1, .int .u64 y.f2]] W fun e w' => ∃ nn' pf' qf' A' c', e = .returned (.tuple #[.agg #[.slice A' (stepL s y).1.length c', .int .i64 (stepL s y).2], .bool true]) ∧
      w'.heap[gm]? = some (.cells #[.slice A s.1.length c, .int .i64 s.2] 27) ∧ Below w.heap.size w w' ∧ St.Kept W w' (Foot b m pf s.1) ∧
      Pair w ((w'.setCell ⟨gm, 0, none⟩ (.slice A' (stepL s y).1.length c')).setCell ⟨gm, 1, none⟩ (.int .i64 (stepL s y).2)) b m gm (stepL s y) nn' pf' qf' A' c' := by
  refine (does_any y.f0 y.f1 y.f2 hy h.tab h.row h.bel.size hl).mono ?_
  rintro e w' ⟨nn', pf', qf', v', rfl, hT, hR, hK, hF⟩
  obtain ⟨A', c', rfl⟩ := Kd.R_slice hR
  have hg : w'.heap[gm]? = some (.cells #[.slice A s.1.length c, .int .i64 s.2] 27) := St.blk_kept h.box hK (fun hF => (h.far _ hF).2 rfl)
  have hbel : Below w.heap.size w w' := h.bel.trans (hK.toBelow (fun k hk => ⟨Nat.lt_of_lt_of_le hk h.bel.size, fun hF => by have := (h.far _ hF).1; omega⟩))
  refine ⟨nn', pf', qf', A', c', rfl, hg, hbel, hK, ?_⟩
  have hfar : ∀ k, Foot b m pf' (stepL s y).1 k → w.heap.size ≤ k ∧ k ≠ gm := fun k hk => by
    rcases hF k hk with h1 | h1
    · exact h.far k h1
    · have := h.glt; have := h.bel.size; exact ⟨by omega, by omega⟩
  have hk7 : St.Kept w' ((w'.setCell ⟨gm, 0, none⟩ (.slice A' (stepL s y).1.length c')).setCell ⟨gm, 1, none⟩ (.int .i64 (stepL s y).2)) (fun k => k = gm) := ((St.Kept.refl w' (fun k => k = gm)).setCell (p := ⟨gm, 0, none⟩) (.inl rfl) _).setCell (p := ⟨gm, 1, none⟩) (.inl rfl) _
  refine ⟨hT.kept hk7 (fun k hk e => (hfar k hk).2 e) (fun x hx e => by have h1 := hT.q x hx; rw [e, hg] at h1; exact absurd (cells_ty h1) (by decide)), setCell_heap (setCell_heap hg _) _, ?_, hfar, h.gle, ?_⟩
  · exact Kd.R_mono (St.Kd.R_kept (Kd.R_types hR hg (by decide)) hk7 (fun k hk e => hk.2 e)) (fun k hk => hk.1)
  · exact (hbel.setCell (p := ⟨gm, 0, none⟩) h.gle _).setCell (p := ⟨gm, 1, none⟩) h.gle _
end Pair
theorem pair_new (w W : World) (b m gm : Nat) (hT : Tab W 0 b m 0 (fun _ => 0) (fun _ => 0) [] 0) (hbox : W.heap[gm]? = some (.cells #[.slice none 0 0, .int .i64 0] 27)) (hb : w.heap.size ≤ b) (hm : w.heap.size ≤ m) (hg : w.heap.size ≤ gm) (hbg : b ≠ gm) (hmg : m ≠ gm) (hB : Below w.heap.size w W) :
    Pair w W b m gm ([], 0) 0 (fun _ => 0) (fun _ => 0) none 0 :=
  ⟨hT, hbox, Kd.R_nil _ _ _ _ _, (fun k hk => by
    rcases hk with rfl | rfl | ⟨x, hx, _⟩
    · exact ⟨hb, hbg⟩
    · exact ⟨hm, hmg⟩
    · cases hx), hg, hB⟩
end Go.Proofs.Ytckeelbodieblaa.PB
