/- Status: does, whatever the act. -/
import Derived.Test.YtckeelbodieblaaStV
namespace Go.Proofs.Ytckeelbodieblaa.St
open Go Go.RowKit Go.Proofs Go.Maps Go.MuLone Go.Sort Go.Shelf Go.Proofs.YtckeelbodieblaaW.PrintWords Go.Proofs.YtckeelbodieblaaW.PrintLast Go.Proofs.YtckeelbodieblaaW.PrintMore Go.Proofs.Ytckeelbodieblaa.PB
set_option linter.unusedVariables false
set_option linter.unusedSimpArgs false
section
variable {b m nn base : Nat} {pf qf : Int → Nat} {L : List S70} {last : Int} {A : Option Addr} {c : Nat} {w : World}
set_option maxHeartbeats 8000000 in
set_option maxRecDepth 100000 in
theorem does_0f (txn stamp : Int) (hT : Tab w 0 b m nn pf qf L last) (hR : Kd.R k70 70 w base (fun k => ¬ Foot b m pf L k) (.slice A L.length c) L) (hb : base ≤ w.heap.size) (hl : (last + 1) * 24 ≤ 140737488355328) (hf : 256 ≤ (openL L).length) :
    Calls Try.prog 9 #[pt b, .agg #[.slice A L.length c, .int .i64 last], .agg #[.int .i64 0, .int .i64 txn, .int .u64 stamp]] w fun e w' => ∃ pf' qf' v', e = .returned (.tuple #[.agg #[v', .int .i64 last], .bool true]) ∧ Tab w' 0 b m nn pf' qf' L last ∧ Kd.R k70 70 w' base (fun k => ¬ Foot b m pf' L k) v' L ∧ Turns w w' (Foot b m pf L) (Foot b m pf' L) := by
  have h0 := hT.last0
  have hLn := hT.len
  have hnl := hT.nnle
  have hlt := fun k (h : Foot b m pf L k) => hT.lt h
  have hF : ∀ j, w.heap.size ≤ j → ¬ Foot b m pf L j := fun j hj h => by have := hlt j h; omega
  generalize hw2 : ((w.alloc (.cells #[.slice A L.length c, .int .i64 last] 27)).alloc (.cells #[.int .i64 0, .int .i64 txn, .int .u64 stamp] 37)).alloc (.cells #[.slice none 0 0, .int .i64 0] 27) = w2
  have b0 : w2.heap[w.heap.size]? = some (.cells #[.slice A L.length c, .int .i64 last] 27) := by rw [← hw2]; exact heap_old (heap_old (heap_new _ _))
  have b1 : w2.heap[w.heap.size + 1]? = some (.cells #[.int .i64 0, .int .i64 txn, .int .u64 stamp] 37) := by rw [← hw2]; have := heap_new (w.alloc (.cells #[.slice A L.length c, .int .i64 last] 27)) (.cells #[.int .i64 0, .int .i64 txn, .int .u64 stamp] 37); rw [size_new] at this; exact heap_old this
  have b2 : w2.heap[w.heap.size + 1 + 1]? = some (.cells #[.slice none 0 0, .int .i64 0] 27) := by rw [← hw2]; have := heap_new ((w.alloc (.cells #[.slice A L.length c, .int .i64 last] 27)).alloc (.cells #[.int .i64 0, .int .i64 txn, .int .u64 stamp] 37)) (.cells #[.slice none 0 0, .int .i64 0] 27); rw [size_new, size_new] at this; exact this
  have hB2 : Below w.heap.size w w2 := by rw [← hw2]; exact below_alloc (below_alloc (below_alloc (Below.refl _ _) _) _) _
  have hz2 : w2.heap.size = w.heap.size + 3 := by rw [← hw2, size_new, size_new, size_new]
  have hC2 := Kd.C_below (Kd.R_reads' hR).2.2 hB2
  have hcl := (Kd.R_reads' hR).2.1
  have HB2 := Aside0.mk hB2
  have HW := Aside0.mk hw2
  have HR2 := Aside0.mk (Kd.R_below (Kd.R_mono (Kd.R_bound hR) (ok' := fun k => ¬ Foot b m pf L k ∧ (k < w.heap.size ∨ w.heap.size + 3 ≤ k)) (fun k hk => ⟨hk.1, .inl hk.2.2.1⟩)) hB2)
  have HTw := Aside0.mk hT
  have n0 : (w.heap.size = w.heap.size + 1 + 1) = False := eq_false (by omega)
  have n1 : (w.heap.size + 1 = w.heap.size + 1 + 1) = False := eq_false (by omega)
  have n2 : (w.heap.size + 1 + 1 = w.heap.size) = False := eq_false (by omega)
  have n3 : (w.heap.size + 1 + 1 = w.heap.size + 1) = False := eq_false (by omega)
  have n4 : (w.heap.size + 1 = w.heap.size) = False := eq_false (by omega)
  have n5 : (w.heap.size = w.heap.size + 1) = False := eq_false (by omega)
  have hcall := rBegin_full (last := last) hC2 hcl (by omega) hf
  have htab := fun W (h : Tab W 0 b m nn pf qf L last) => Begin_full h (by omega) hf
  clear hC2 hB2 hR hT hw2 hf
  go_enter Try.func9, Try.ntmps9
  go_wp2_with (first | (go_at_call 8; rw [HW.out]; refine hcall.mono ?_; rintro e w3 ⟨rfl, hB3⟩; have HR3 := Aside0.mk (Kd.R_below HR2.out hB3); have hA3 : ∃ A3 c3, (A3, c3) = (A, c) := ⟨A, c, rfl⟩; obtain ⟨A3, c3, hA3⟩ := hA3; cases hA3; have D0 := Aside0.mk ((hB3.block _ (lt_of b0)).trans b0); have D1 := Aside0.mk ((hB3.block _ (lt_of b1)).trans b1); have D2 := Aside0.mk ((hB3.block _ (lt_of b2)).trans b2); have c0 : w3.cell? ⟨w.heap.size, 0, none⟩ = some (.slice A L.length c) := cell_of D0.out 0; have c1 : w3.cell? ⟨w.heap.size, 1, none⟩ = some (.int .i64 last) := cell_of D0.out 1; have f0 : w3.frozen? ⟨w.heap.size, 0, none⟩ = false := frozen_of D0.out 0; have f1 : w3.frozen? ⟨w.heap.size, 1, none⟩ = false := frozen_of D0.out 1; have HB3 := Aside0.mk (below_step HB2.out hB3); clear hB3))
  obtain ⟨W, hW⟩ : ∃ W, W = ((w3.setCell ⟨w.heap.size, 0, none⟩ (.slice A L.length c)).setCell ⟨w.heap.size, 1, none⟩ (.int .i64 last)) := ⟨_, rfl⟩
  rw [← hW]
  have E0 : Aside0 (W.heap[w.heap.size]? = some (.cells #[.slice A L.length c, .int .i64 last] 27)) := ⟨by rw [hW]; exact setCell_heap (setCell_heap D0.out _) _⟩
  have E2 : Aside0 (W.heap[w.heap.size + 1 + 1]? = some (.cells #[.slice none 0 0, .int .i64 0] 27)) := ⟨by rw [hW]; exact (Below.heap_setCell _ _ _ _ (show w.heap.size + 1 + 1 ≠ w.heap.size by omega)).trans ((Below.heap_setCell _ _ _ _ (show w.heap.size + 1 + 1 ≠ w.heap.size by omega)).trans D2.out)⟩
  have HBW : Aside0 (Below w.heap.size w W) := ⟨by rw [hW]; exact (HB3.out.setCell (p := ⟨w.heap.size, 0, none⟩) (Nat.le_refl _) _).setCell (p := ⟨w.heap.size, 1, none⟩) (Nat.le_refl _) _⟩
  have HRW : Aside0 (Kd.R k70 70 W base (fun k => ¬ Foot b m pf L k ∧ (k < w.heap.size ∨ w.heap.size + 3 ≤ k)) (.slice A L.length c) L) := ⟨by rw [hW]; exact Kd.R_far (Kd.R_far HR3.out (p := ⟨w.heap.size, 0, none⟩) (fun k hk => by have := hk.2; show k ≠ w.heap.size; omega) _) (p := ⟨w.heap.size, 1, none⟩) (fun k hk => by have := hk.2; show k ≠ w.heap.size; omega) _⟩
  clear hW c0 c1 f0 f1
  refine (htab _ (HTw.out.below HBW.out)).mono ?_
  rintro e w6 ⟨rfl, hT6, hK6⟩
  have HT6 := Aside0.mk hT6
  have HK6 := Aside0.mk hK6
  clear hT6 hK6
  have G0 := Aside0.mk (blk_kept E0.out HK6.out (hF _ (Nat.le_refl _)))
  have G2 := Aside0.mk (blk_kept E2.out HK6.out (hF _ (by omega)))
  have q0 : w6.cell? ⟨w.heap.size + 1 + 1, 0, none⟩ = some (.slice none 0 0) := cell_of G2.out 0
  have q1 : w6.cell? ⟨w.heap.size + 1 + 1, 1, none⟩ = some (.int .i64 0) := cell_of G2.out 1
  have q2 : w6.frozen? ⟨w.heap.size + 1 + 1, 0, none⟩ = false := frozen_of G2.out 0
  have q3 : w6.frozen? ⟨w.heap.size + 1 + 1, 1, none⟩ = false := frozen_of G2.out 1
  have q4 : w6.cell? ⟨w.heap.size, 0, none⟩ = some (.slice A L.length c) := cell_of G0.out 0
  have q5 : w6.cell? ⟨w.heap.size, 1, none⟩ = some (.int .i64 last) := cell_of G0.out 1
  go_wp2
  refine bodyPost_ret (results_ct rfl _ _ (w.heap.size + 1 + 1) 27 #[.slice A L.length c, .int .i64 last] (0, 0) _ rfl (setCell_heap (setCell_heap G2.out _) _) Try.underlying27 rfl (by kernel_rfl)) rfl ?_
  have hk7 := fun (u v : Value) => ((Kept.refl w6 (fun k => k = w.heap.size + 1 + 1)).setCell (p := ⟨w.heap.size + 1 + 1, 0, none⟩) (.inl rfl) u).setCell (p := ⟨w.heap.size + 1 + 1, 1, none⟩) (.inl rfl) v
  have hzW : w.heap.size + 1 + 1 < W.heap.size := lt_of E2.out
  refine ⟨pf, qf, _, rfl, HT6.out.kept (hk7 _ _) (fun k hk e => hF k (by omega) hk) (fun x hx e => by have h1 := HT6.out.q x hx; rw [e, G2.out] at h1; exact absurd (cells_ty h1) (by decide)), ?_, ?_, fun k hk => .inl hk⟩
  · exact Kd.R_mono (Kd.R_kept (Kd.R_keptB HRW.out HK6.out (fun k hk => hk.1)) (hk7 _ _) (fun k hk e => by have := hk.1.2; omega)) (fun k hk h => hk.1.1 h)
  · exact (((Kept.of_below HBW.out _).then_ HK6.out (fun _ h => .inl h)).setCell (p := ⟨w.heap.size + 1 + 1, 0, none⟩) (.inr (by show w.heap.size ≤ w.heap.size + 1 + 1; omega)) _).setCell (p := ⟨w.heap.size + 1 + 1, 1, none⟩) (.inr (by show w.heap.size ≤ w.heap.size + 1 + 1; omega)) _
set_option maxHeartbeats 8000000 in
set_option maxRecDepth 100000 in
theorem does_0m (txn stamp : Int) (hT : Tab w 0 b m nn pf qf L last) (hR : Kd.R k70 70 w base (fun k => ¬ Foot b m pf L k) (.slice A L.length c) L) (hb : base ≤ w.heap.size) (hl : (last + 1) * 24 ≤ 140737488355328) (hf : (openL L).length < 256) :
    Calls Try.prog 9 #[pt b, .agg #[.slice A L.length c, .int .i64 last], .agg #[.int .i64 0, .int .i64 txn, .int .u64 stamp]] w fun e w' => ∃ pf' qf' v', e = .returned (.tuple #[.agg #[v', .int .i64 (last + 1)], .bool true]) ∧ Tab w' 0 b m (nn + 1) pf' qf' (L ++ [⟨last + 1, 1, 0⟩]) (last + 1) ∧ Kd.R k70 70 w' base (fun k => ¬ Foot b m pf' (L ++ [⟨last + 1, 1, 0⟩]) k) v' (L ++ [⟨last + 1, 1, 0⟩]) ∧ Turns w w' (Foot b m pf L) (Foot b m pf' (L ++ [⟨last + 1, 1, 0⟩])) := by
  have h0 := hT.last0
  have hLn := hT.len
  have hnl := hT.nnle
  have hlt := fun k (h : Foot b m pf L k) => hT.lt h
  have hF : ∀ j, w.heap.size ≤ j → ¬ Foot b m pf L j := fun j hj h => by have := hlt j h; omega
  generalize hw2 : ((w.alloc (.cells #[.slice A L.length c, .int .i64 last] 27)).alloc (.cells #[.int .i64 0, .int .i64 txn, .int .u64 stamp] 37)).alloc (.cells #[.slice none 0 0, .int .i64 0] 27) = w2
  have b0 : w2.heap[w.heap.size]? = some (.cells #[.slice A L.length c, .int .i64 last] 27) := by rw [← hw2]; exact heap_old (heap_old (heap_new _ _))
  have b1 : w2.heap[w.heap.size + 1]? = some (.cells #[.int .i64 0, .int .i64 txn, .int .u64 stamp] 37) := by rw [← hw2]; have := heap_new (w.alloc (.cells #[.slice A L.length c, .int .i64 last] 27)) (.cells #[.int .i64 0, .int .i64 txn, .int .u64 stamp] 37); rw [size_new] at this; exact heap_old this
  have b2 : w2.heap[w.heap.size + 1 + 1]? = some (.cells #[.slice none 0 0, .int .i64 0] 27) := by rw [← hw2]; have := heap_new ((w.alloc (.cells #[.slice A L.length c, .int .i64 last] 27)).alloc (.cells #[.int .i64 0, .int .i64 txn, .int .u64 stamp] 37)) (.cells #[.slice none 0 0, .int .i64 0] 27); rw [size_new, size_new] at this; exact this
  have hB2 : Below w.heap.size w w2 := by rw [← hw2]; exact below_alloc (below_alloc (below_alloc (Below.refl _ _) _) _) _
  have hz2 : w2.heap.size = w.heap.size + 3 := by rw [← hw2, size_new, size_new, size_new]
  have hC2 := Kd.C_below (Kd.R_reads' hR).2.2 hB2
  have hcl := (Kd.R_reads' hR).2.1
  have HB2 := Aside0.mk hB2
  have HW := Aside0.mk hw2
  have HR2 := Aside0.mk (Kd.R_below (Kd.R_mono (Kd.R_bound hR) (ok' := fun k => ¬ Foot b m pf L k ∧ (k < w.heap.size ∨ w.heap.size + 3 ≤ k)) (fun k hk => ⟨hk.1, .inl hk.2.2.1⟩)) hB2)
  have HTw := Aside0.mk hT
  have n0 : (w.heap.size = w.heap.size + 1 + 1) = False := eq_false (by omega)
  have n1 : (w.heap.size + 1 = w.heap.size + 1 + 1) = False := eq_false (by omega)
  have n2 : (w.heap.size + 1 + 1 = w.heap.size) = False := eq_false (by omega)
  have n3 : (w.heap.size + 1 + 1 = w.heap.size + 1) = False := eq_false (by omega)
  have n4 : (w.heap.size + 1 = w.heap.size) = False := eq_false (by omega)
  have n5 : (w.heap.size = w.heap.size + 1) = False := eq_false (by omega)
  have hcall := rBegin_more (last := last) h0 (by omega) hC2 hcl (by omega) hf
  have htab := fun W (h : Tab W 0 b m nn pf qf L last) => Begin_more h hl hf
  clear hC2 hB2 hR hT hw2 hf
  go_enter Try.func9, Try.ntmps9
  go_wp2_with (first | (go_at_call 8; rw [HW.out]; refine hcall.mono ?_; rintro e w3 ⟨v', rfl, hRo, hB3⟩; have HR3 := Aside0.mk (Kd.R_mono (Kd.R_lower (Kd.R_bound hRo) (show base ≤ w2.heap.size by omega)) (ok' := fun k => ¬ Foot b m pf L k ∧ (k < w.heap.size ∨ w.heap.size + 3 ≤ k)) (fun k hk => by have h9 := hk.2.1; exact ⟨hF k (by omega), .inr (by omega)⟩)); clear hRo; obtain ⟨A3, c3, rfl⟩ := Kd.R_slice HR3.out; simp only [List.length_append, List.length_cons, List.length_nil, Nat.zero_add] at HR3 ⊢; have D0 := Aside0.mk ((hB3.block _ (lt_of b0)).trans b0); have D1 := Aside0.mk ((hB3.block _ (lt_of b1)).trans b1); have D2 := Aside0.mk ((hB3.block _ (lt_of b2)).trans b2); have c0 : w3.cell? ⟨w.heap.size, 0, none⟩ = some (.slice A L.length c) := cell_of D0.out 0; have c1 : w3.cell? ⟨w.heap.size, 1, none⟩ = some (.int .i64 last) := cell_of D0.out 1; have f0 : w3.frozen? ⟨w.heap.size, 0, none⟩ = false := frozen_of D0.out 0; have f1 : w3.frozen? ⟨w.heap.size, 1, none⟩ = false := frozen_of D0.out 1; have HB3 := Aside0.mk (below_step HB2.out hB3); clear hB3))
  obtain ⟨W, hW⟩ : ∃ W, W = ((w3.setCell ⟨w.heap.size, 0, none⟩ (.slice A3 (L.length + 1) c3)).setCell ⟨w.heap.size, 1, none⟩ (.int .i64 (last + 1))) := ⟨_, rfl⟩
  rw [← hW]
  have E0 : Aside0 (W.heap[w.heap.size]? = some (.cells #[.slice A3 (L.length + 1) c3, .int .i64 (last + 1)] 27)) := ⟨by rw [hW]; exact setCell_heap (setCell_heap D0.out _) _⟩
  have E2 : Aside0 (W.heap[w.heap.size + 1 + 1]? = some (.cells #[.slice none 0 0, .int .i64 0] 27)) := ⟨by rw [hW]; exact (Below.heap_setCell _ _ _ _ (show w.heap.size + 1 + 1 ≠ w.heap.size by omega)).trans ((Below.heap_setCell _ _ _ _ (show w.heap.size + 1 + 1 ≠ w.heap.size by omega)).trans D2.out)⟩
  have HBW : Aside0 (Below w.heap.size w W) := ⟨by rw [hW]; exact (HB3.out.setCell (p := ⟨w.heap.size, 0, none⟩) (Nat.le_refl _) _).setCell (p := ⟨w.heap.size, 1, none⟩) (Nat.le_refl _) _⟩
  have HRW : Aside0 (Kd.R k70 70 W base (fun k => ¬ Foot b m pf L k ∧ (k < w.heap.size ∨ w.heap.size + 3 ≤ k)) (.slice A3 (L.length + 1) c3) (L ++ [⟨last + 1, 1, 0⟩])) := ⟨by rw [hW]; exact Kd.R_far (Kd.R_far HR3.out (p := ⟨w.heap.size, 0, none⟩) (fun k hk => by have := hk.2; show k ≠ w.heap.size; omega) _) (p := ⟨w.heap.size, 1, none⟩) (fun k hk => by have := hk.2; show k ≠ w.heap.size; omega) _⟩
  clear hW c0 c1 f0 f1
  refine (htab _ (HTw.out.below HBW.out)).mono ?_
  rintro e w6 ⟨pf', qf', rfl, hT6, hK6, hF6⟩
  have HT6 := Aside0.mk hT6
  have HK6 := Aside0.mk hK6
  clear hT6 hK6
  have G0 := Aside0.mk (blk_kept E0.out HK6.out (hF _ (Nat.le_refl _)))
  have G2 := Aside0.mk (blk_kept E2.out HK6.out (hF _ (by omega)))
  have q0 : w6.cell? ⟨w.heap.size + 1 + 1, 0, none⟩ = some (.slice none 0 0) := cell_of G2.out 0
  have q1 : w6.cell? ⟨w.heap.size + 1 + 1, 1, none⟩ = some (.int .i64 0) := cell_of G2.out 1
  have q2 : w6.frozen? ⟨w.heap.size + 1 + 1, 0, none⟩ = false := frozen_of G2.out 0
  have q3 : w6.frozen? ⟨w.heap.size + 1 + 1, 1, none⟩ = false := frozen_of G2.out 1
  have q4 : w6.cell? ⟨w.heap.size, 0, none⟩ = some (.slice A3 (L.length + 1) c3) := cell_of G0.out 0
  have q5 : w6.cell? ⟨w.heap.size, 1, none⟩ = some (.int .i64 (last + 1)) := cell_of G0.out 1
  go_wp2
  refine bodyPost_ret (results_ct rfl _ _ (w.heap.size + 1 + 1) 27 #[.slice A3 (L.length + 1) c3, .int .i64 (last + 1)] (0, 0) _ rfl (setCell_heap (setCell_heap G2.out _) _) Try.underlying27 rfl (by kernel_rfl)) rfl ?_
  have hk7 := fun (u v : Value) => ((Kept.refl w6 (fun k => k = w.heap.size + 1 + 1)).setCell (p := ⟨w.heap.size + 1 + 1, 0, none⟩) (.inl rfl) u).setCell (p := ⟨w.heap.size + 1 + 1, 1, none⟩) (.inl rfl) v
  have hzW : w.heap.size + 1 + 1 < W.heap.size := lt_of E2.out
  have hW6 : ∀ k, Foot b m pf' (L ++ [⟨last + 1, 1, 0⟩]) k → Foot b m pf L k ∨ W.heap.size ≤ k := hF6
  refine ⟨pf', qf', _, rfl, HT6.out.kept (hk7 _ _) (fun k hk e => (hW6 k hk).elim (fun h => hF k (by omega) h) (fun h => by omega)) (fun x hx e => by have h1 := HT6.out.q x hx; rw [e, G2.out] at h1; exact absurd (cells_ty h1) (by decide)), ?_, ?_, fun k hk => (hW6 k hk).imp id (fun h => by have := HBW.out.size; omega)⟩
  · exact Kd.R_mono (Kd.R_kept (Kd.R_keptB HRW.out HK6.out (fun k hk => hk.1)) (hk7 _ _) (fun k hk e => by have := hk.1.2; omega)) (fun k hk h => (hW6 k h).elim (fun h => hk.1.1 h) (fun h => by have := hk.2.2; omega))
  · exact (((Kept.of_below HBW.out _).then_ HK6.out (fun _ h => .inl h)).setCell (p := ⟨w.heap.size + 1 + 1, 0, none⟩) (.inr (by show w.heap.size ≤ w.heap.size + 1 + 1; omega)) _).setCell (p := ⟨w.heap.size + 1 + 1, 1, none⟩) (.inr (by show w.heap.size ≤ w.heap.size + 1 + 1; omega)) _
set_option maxHeartbeats 8000000 in
set_option maxRecDepth 100000 in
theorem does_5 (kind txn stamp : Int) (h0 : kind ≠ 0) (h1 : kind ≠ 1) (h2 : kind ≠ 2) (h3 : kind ≠ 3) (h4 : kind ≠ 4) :
    Calls Try.prog 9 #[pt b, .agg #[.slice A L.length c, .int .i64 last], .agg #[.int .i64 kind, .int .i64 txn, .int .u64 stamp]] w fun e w' => e = .returned (.tuple #[.agg #[.slice A L.length c, .int .i64 last], .bool true]) ∧ Below w.heap.size w w' := by
  generalize hw2 : ((w.alloc (.cells #[.slice A L.length c, .int .i64 last] 27)).alloc (.cells #[.int .i64 kind, .int .i64 txn, .int .u64 stamp] 37)).alloc (.cells #[.slice none 0 0, .int .i64 0] 27) = w2
  have b2 : w2.heap[w.heap.size + 1 + 1]? = some (.cells #[.slice none 0 0, .int .i64 0] 27) := by rw [← hw2]; have := heap_new ((w.alloc (.cells #[.slice A L.length c, .int .i64 last] 27)).alloc (.cells #[.int .i64 kind, .int .i64 txn, .int .u64 stamp] 37)) (.cells #[.slice none 0 0, .int .i64 0] 27); rw [size_new, size_new] at this; exact this
  have hB2 : Below w.heap.size w w2 := by rw [← hw2]; exact below_alloc (below_alloc (below_alloc (Below.refl _ _) _) _) _
  have B2 := Aside0.mk b2
  have HB2 := Aside0.mk hB2
  have HW := Aside0.mk hw2
  have z0 : (kind == 0) = false := by simpa using h0
  have z1 : (kind == 1) = false := by simpa using h1
  have z2 : (kind == 2) = false := by simpa using h2
  have z3 : (kind == 3) = false := by simpa using h3
  have z4 : (kind == 4) = false := by simpa using h4
  clear hw2 b2 hB2
  go_enter Try.func9, Try.ntmps9
  go_wp2
  refine bodyPost_ret (results_ct rfl _ _ (w.heap.size + 1 + 1) 27 #[.slice A L.length c, .int .i64 last] (0, 0) _ rfl (by have := heap_new ((w.alloc (.cells #[.slice A L.length c, .int .i64 last] 27)).alloc (.cells #[.int .i64 kind, .int .i64 txn, .int .u64 stamp] 37)) (.cells #[.slice A L.length c, .int .i64 last] 27); rw [size_new, size_new] at this; exact this) Try.underlying27 rfl (by kernel_rfl)) rfl ?_
  exact ⟨rfl, below_alloc (below_alloc (below_alloc (Below.refl _ _) _) _) _⟩
/-- One act, on what a table has. -/
def stepS (L : List S70) (last kind txn stamp : Int) : List S70 × Int :=
  if kind = 0 then (if 256 ≤ (openL L).length then (L, last) else (L ++ [⟨last + 1, 1, 0⟩], last + 1))
  else if kind = 1 then ((turnS L txn 2 0 (fun _ => 0)).1, last)
  else if kind = 2 then ((turnS L txn 3 stamp (fun x => mayC x.f1 stamp)).1, last)
  else if kind = 3 then ((turnS L txn 4 0 (fun _ => 0)).1, last)
  else if kind = 4 then ((forgetS L txn).1, last)
  else (L, last)
theorem does_any (kind txn stamp : Int) (htx : (Lit.int .i64 txn).wf = true) (hT : Tab w 0 b m nn pf qf L last) (hR : Kd.R k70 70 w base (fun k => ¬ Foot b m pf L k) (.slice A L.length c) L) (hb : base ≤ w.heap.size) (hl : (last + 1) * 24 ≤ 140737488355328) :
    Calls Try.prog 9 #[pt b, .agg #[.slice A L.length c, .int .i64 last], .agg #[.int .i64 kind, .int .i64 txn, .int .u64 stamp]] w fun e w' => ∃ nn' pf' qf' v', e = .returned (.tuple #[.agg #[v', .int .i64 (stepS L last kind txn stamp).2], .bool true]) ∧ Tab w' 0 b m nn' pf' qf' (stepS L last kind txn stamp).1 (stepS L last kind txn stamp).2 ∧ Kd.R k70 70 w' base (fun k => ¬ Foot b m pf' (stepS L last kind txn stamp).1 k) v' (stepS L last kind txn stamp).1 ∧ Turns w w' (Foot b m pf L) (Foot b m pf' (stepS L last kind txn stamp).1) := by
  have hLn := hT.len
  have hnl := hT.nnle
  have hl2 : L.length < 5864062014805 := by omega
  unfold stepS
  by_cases h0 : kind = 0
  · subst h0
    simp only [if_true]
    by_cases hf : 256 ≤ (openL L).length
    · rw [if_pos hf]
      exact (does_0f txn stamp hT hR hb hl hf).mono fun e w' ⟨pf', qf', v', h⟩ => ⟨nn, pf', qf', v', h⟩
    · rw [if_neg hf]
      exact (does_0m txn stamp hT hR hb hl (by omega)).mono fun e w' ⟨pf', qf', v', h⟩ => ⟨nn + 1, pf', qf', v', h⟩
  · rw [if_neg h0]
    by_cases h1 : kind = 1
    · subst h1
      rw [if_pos rfl]
      exact (does_1 txn stamp htx hT hR hb hl2).mono fun e w' ⟨qf', v', h⟩ => ⟨nn, pf, qf', v', h⟩
    · rw [if_neg h1]
      by_cases h2 : kind = 2
      · subst h2
        rw [if_pos rfl]
        exact (does_2 txn stamp htx hT hR hb hl2).mono fun e w' ⟨qf', v', h⟩ => ⟨nn, pf, qf', v', h⟩
      · rw [if_neg h2]
        by_cases h3 : kind = 3
        · subst h3
          rw [if_pos rfl]
          exact (does_3 txn stamp htx hT hR hb hl2).mono fun e w' ⟨qf', v', h⟩ => ⟨nn, pf, qf', v', h⟩
        · rw [if_neg h3]
          by_cases h4 : kind = 4
          · subst h4
            rw [if_pos rfl]
            exact (does_4 txn stamp htx hT hR hb hl2).mono fun e w' ⟨qf', v', h⟩ => ⟨nn, pf, qf', v', h⟩
          · rw [if_neg h4]
            refine (does_5 kind txn stamp h0 h1 h2 h3 h4).mono fun e w' h => ?_
            obtain ⟨rfl, hB⟩ := h
            exact ⟨nn, pf, qf, _, rfl, hT.below hB, Kd.R_below hR hB, Kept.of_below hB _, fun k hk => .inl hk⟩
end
end Go.Proofs.Ytckeelbodieblaa.St
