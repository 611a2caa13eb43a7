/- Status: Begin. -/
import Derived.Test.YtckeelbodieblaaStE
namespace Go.Proofs.Ytckeelbodieblaa.St
open Go Go.RowKit Go.Proofs Go.Maps Go.MuLone Go.Sort Go.Shelf Go.Proofs.YtckeelbodieblaaW.PrintWords Go.Proofs.YtckeelbodieblaaW.PrintLast Go.Proofs.YtckeelbodieblaaW.PrintMore Go.Proofs.Ytckeelbodieblaa.PB
set_option linter.unusedVariables false
set_option linter.unusedSimpArgs false
theorem size_set (w : World) (a : Addr) (v : Value) : (w.setCell a v).heap.size = w.heap.size := by simp [World.setCell]
theorem Begin_full {b m nn : Nat} {pf qf : Int → Nat} {L : List S70} {last : Int} {w : World} (hT : Tab w 0 b m nn pf qf L last) (hl : last * 24 ≤ 140737488355328) (hf : 256 ≤ (openL L).length) :
    Calls Try.prog 7 #[pt b] w fun e w' => e = .returned (.tuple #[.int .i64 0, .int .i64 2]) ∧ Tab w' 0 b m nn pf qf L last ∧ Kept w w' (Foot b m pf L) := by
  have hT1 := hT.setLock 1
  have ho := open_any 1 b m nn pf qf L last _ hT1 hl
  have hb := hT.blk
  have HT := Aside0.mk hT
  have HT1 := Aside0.mk hT1
  have hfz : ((openL L).length : Int) ≥ 256 := by omega
  clear hT hT1
  rw [size_set] at ho
  unfold pt at ho ⊢
  go_enter_defers Try.func7, Try.ntmps7
  go_wp2_with (first | (go_at_call 15; refine (lock_free muLib ⟨b, 0, none⟩ _ (cell_of hb 0) (frozen_of hb 0)).mono ?_; rintro e w' ⟨rfl, rfl⟩) | (go_at_call 17; refine ho.mono ?_; rintro e w2 ⟨v, rfl, hR, hB⟩; obtain ⟨A, c, rfl⟩ := Kd.R_slice hR; have HB := Aside0.mk hB; clear hR hB))
  have hT2 := HT1.out.below (by rw [size_set]; exact HB.out)
  have hb2 := hT2.blk
  refine leaves_cons (f := 16) (args := #[.pointer (some ⟨b, 0, none⟩)]) (by simp) (by simp [go_sem]) ?_
  refine (unlock_deferred muLib ⟨b, 0, none⟩ .returning _ (cell_of hb2 0) (frozen_of hb2 0)).mono ?_
  rintro e u' w'' ⟨rfl, rfl, rfl⟩
  refine ⟨_, results_tmp2 rfl _ _ _, rfl, hT2.setLock 0, ?_⟩
  have k1 : Kept w (w.setCell ⟨b, 0, none⟩ (.int .i32 1)) (Foot b m pf L) := (Kept.refl w _).setCell (.inl (.inl rfl)) _
  exact (k1.below (by rw [size_set]; exact HB.out)).setCell (.inl (.inl rfl)) _
set_option maxHeartbeats 4000000 in
set_option maxRecDepth 100000 in
theorem Begin_more {b m nn : Nat} {pf qf : Int → Nat} {L : List S70} {last : Int} {w : World} (hT : Tab w 0 b m nn pf qf L last) (hl : (last + 1) * 24 ≤ 140737488355328) (hf : (openL L).length < 256) :
    Calls Try.prog 7 #[pt b] w fun e w' => ∃ pf' qf', e = .returned (.tuple #[.int .i64 (last + 1), .int .i64 0]) ∧ Tab w' 0 b m (nn + 1) pf' qf' (L ++ [⟨last + 1, 1, 0⟩]) (last + 1) ∧ Turns w w' (Foot b m pf L) (Foot b m pf' (L ++ [⟨last + 1, 1, 0⟩])) := by
  have hT1 := hT.setLock 1
  have ho := open_any 1 b m nn pf qf L last _ hT1 (by omega)
  have hb := hT.blk
  have h0 := hT.last0
  have hnl := hT.nnle
  have HT := Aside0.mk hT
  have HT1 := Aside0.mk hT1
  have hfz : ¬ ((openL L).length : Int) ≥ 256 := by omega
  have hnm : nn < maxLen := by simp only [maxLen]; omega
  have hk : keyOf Try.prog 3 (.int .i64 (last + 1)) = some (.int .i64 (last + 1)) := kint (wf_i64 (by omega) (by omega))
  have hwr : wrap64 (last + 1) = last + 1 := Go.IntWalk.wrap64_in _ (by omega)
  clear hT hT1
  rw [size_set] at ho
  unfold pt at ho ⊢
  go_enter_defers Try.func7, Try.ntmps7
  go_wp2_with (first | (go_at_call 15; refine (lock_free muLib ⟨b, 0, none⟩ _ (cell_of hb 0) (frozen_of hb 0)).mono ?_; rintro e w' ⟨rfl, rfl⟩) | (go_at_call 17; refine ho.mono ?_; rintro e w2 ⟨v, rfl, hR, hB⟩; obtain ⟨A, c, rfl⟩ := Kd.R_slice hR; have HB := Aside0.mk hB; have HT2 := Aside0.mk (HT1.out.below (by rw [size_set]; exact HB.out)); have d2 : w2.cell? ⟨b, 2, none⟩ = some (.int .i64 last) := cell_of HT2.out.blk 2; have f2 : w2.frozen? ⟨b, 2, none⟩ = false := frozen_of HT2.out.blk 2; have d3 : w2.cell? ⟨b, 3, none⟩ = some (.map (some m)) := cell_of HT2.out.blk 3; have hz2 : b < w2.heap.size := lt_of HT2.out.blk; clear hR hB))
  have hst := store_ptr w2.heap.size (w2.heap.size + 1) none 1 0 (((w2.setCell ⟨b, 2, none⟩ (.int .i64 (last + 1))).alloc (.cells #[.pointer none] 63)).alloc (fateO 1 0))
    (heap_old (by have := heap_new (w2.setCell ⟨b, 2, none⟩ (.int .i64 (last + 1))) (.cells #[.pointer none] 63); rw [size_set] at this; exact this))
    (by have := heap_new ((w2.setCell ⟨b, 2, none⟩ (.int .i64 (last + 1))).alloc (.cells #[.pointer none] 63)) (fateO 1 0); rw [size_new, size_set] at this; exact this)
  refine hst.mono ?_
  rintro e w' ⟨rfl, rfl⟩
  generalize hW3 : ((((w2.setCell ⟨b, 2, none⟩ (.int .i64 (last + 1))).alloc (.cells #[.pointer none] 63)).alloc (fateO 1 0)).setCell ⟨w2.heap.size, 0, none⟩ (pt (w2.heap.size + 1))) = w3
  have e2 : w3.heap[b]? = some (tabO 1 (last + 1) m) := by
    rw [← hW3, Below.heap_setCell _ _ _ _ (show b ≠ w2.heap.size by omega)]
    exact heap_old (heap_old (setCell_heap HT2.out.blk _))
  have ep : w3.heap[w2.heap.size]? = some (ptrO (w2.heap.size + 1)) := by
    rw [← hW3]
    refine setCell_heap (cs := #[.pointer none]) (heap_old ?_) _
    have := heap_new (w2.setCell ⟨b, 2, none⟩ (.int .i64 (last + 1))) (.cells #[.pointer none] 63); rw [size_set] at this; exact this
  have eq : w3.heap[w2.heap.size + 1]? = some (fateO 1 0) := by
    rw [← hW3, Below.heap_setCell _ _ _ _ (show w2.heap.size + 1 ≠ w2.heap.size by omega)]
    have := heap_new ((w2.setCell ⟨b, 2, none⟩ (.int .i64 (last + 1))).alloc (.cells #[.pointer none] 63)) (fateO 1 0); rw [size_new, size_set] at this; exact this
  have eo : ∀ k, k < w2.heap.size → k ≠ b → w3.heap[k]? = w2.heap[k]? := fun k hk hne => by
    rw [← hW3, Below.heap_setCell _ _ _ _ (show k ≠ w2.heap.size by omega)]
    show (Array.push _ _)[k]? = _
    rw [Array.getElem?_push, if_neg (by rw [size_new, size_set]; omega)]
    show (Array.push _ _)[k]? = _
    rw [Array.getElem?_push, if_neg (by rw [size_set]; omega)]
    exact Below.heap_setCell _ _ _ _ hne
  have wo3 : Aside0 (w3.os = w2.os ∧ w3.tape = w2.tape ∧ w3.output = w2.output) := ⟨by rw [← hW3]; exact ⟨rfl, rfl, rfl⟩⟩
  have ez : w2.heap.size ≤ w3.heap.size := by rw [← hW3, size_set, size_new, size_new, size_set]; omega
  have g2 : w3.cell? ⟨b, 2, none⟩ = some (.int .i64 (last + 1)) := cell_of e2 2
  have g3 : w3.cell? ⟨b, 3, none⟩ = some (.map (some m)) := cell_of e2 3
  clear hst hW3 d2 d3 f2
  obtain ⟨D, hown, hh, ha⟩ := HT2.out.mp
  have hml : m < w2.heap.size := hown.lt
  have hown3 : w3.ownsMap Try.prog 3 rp m nn D := by
    obtain ⟨es, clock, h1, h2⟩ := hown
    exact ⟨es, clock, (eo m hml (Ne.symm HT2.out.b_ne_m)).trans h1, h2⟩
  go_wp2
  go_still_tail 9, (by kernel_rfl)
  refine wpList_mapUpdate_own _ rfl _ _ _ 47 rfl 3 57 kmap Try.underlying47 rp m nn D rfl hown3.drew hnm _ _ (.int .i64 (last + 1)) rfl rfl hk _ [] (rp_pt w2.heap.size) ?_
  intro w4 hown4 hg4
  have e4 : w4.heap[b]? = some (tabO 1 (last + 1) m) := (hg4.block b (lt_of e2) (by simp; exact HT2.out.b_ne_m)).trans e2
  have k2 : w4.cell? ⟨b, 2, none⟩ = some (.int .i64 (last + 1)) := cell_of e4 2
  clear g2 g3
  go_wp2
  refine leaves_cons (f := 16) (args := #[.pointer (some ⟨b, 0, none⟩)]) (by simp) (by simp [go_sem]) ?_
  refine (unlock_deferred muLib ⟨b, 0, none⟩ .returning _ (cell_of e4 0) (frozen_of e4 0)).mono ?_
  rintro e u' w'' ⟨rfl, rfl, rfl⟩
  have o4 : ∀ k, k < w2.heap.size → k ≠ b → k ≠ m → w4.heap[k]? = w2.heap[k]? := fun k hk hb' hm' => (hg4.block k (Nat.lt_of_lt_of_le hk ez) (by simpa using hm')).trans (eo k hk hb')
  have hmp := Mp.push (w' := w4) (n := last + 1) (x := ⟨last + 1, 1, 0⟩) hown hh ha rfl (fun y hy => by have := HT2.out.rng y hy; omega) hown4
  have hTab := HT2.out.push (lk' := 1) e4 ((hg4.block w2.heap.size (lt_of ep) (fun e => by have h9 := Option.some.inj e; omega)).trans ep) ((hg4.block (w2.heap.size + 1) (lt_of eq) (fun e => by have h9 := Option.some.inj e; omega)).trans eq) (Nat.le_refl _) (Nat.le_succ _) hmp o4
  have hz12 : w.heap.size ≤ w2.heap.size := by have := HB.out.size; rwa [size_set] at this
  refine ⟨_, results_tmp2 rfl _ _ _, _, _, rfl, hTab.setLock 0, ?_, ?_⟩
  · have k1 : Kept w (w.setCell ⟨b, 0, none⟩ (.int .i32 1)) (Foot b m pf L) := (Kept.refl w _).setCell (.inl (.inl rfl)) _
    have k2 : Kept w w2 (Foot b m pf L) := k1.below (by rw [size_set]; exact HB.out)
    refine Kept.setCell ?_ (.inl (.inl rfl)) _
    exact ⟨Nat.le_trans k2.1 (Nat.le_trans ez hg4.size), fun k hk hn => (o4 k (Nat.lt_of_lt_of_le hk k2.1) (fun e => hn (.inl e)) (fun e => hn (.inr (.inl e)))).trans (k2.2 k hk hn), hg4.os.trans (wo3.out.1.trans k2.os), hg4.tape.trans (wo3.out.2.1.trans k2.tape), hg4.output.trans (wo3.out.2.2.trans k2.output)⟩
  · rintro k (rfl | rfl | ⟨x, hx, rfl⟩)
    · exact .inl (.inl rfl)
    · exact .inl (.inr (.inl rfl))
    · rcases List.mem_append.1 hx with hx | hx
      · have := HT.out.rng x hx
        have hne : x.f0 ≠ last + 1 := by omega
        simp only [if_neg hne]
        exact .inl (.inr (.inr ⟨x, hx, rfl⟩))
      · obtain rfl := List.mem_singleton.1 hx
        simp only [if_pos]
        exact .inr hz12
end Go.Proofs.Ytckeelbodieblaa.St
