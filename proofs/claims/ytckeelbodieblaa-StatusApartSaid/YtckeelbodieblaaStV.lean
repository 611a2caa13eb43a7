/- Status: does, by both. -/
import Derived.Test.YtckeelbodieblaaStU
namespace Go.Proofs.Ytckeelbodieblaa.St
open Go Go.RowKit Go.Proofs Go.Maps Go.MuLone Go.Sort Go.Shelf Go.Proofs.YtckeelbodieblaaW.PrintWords Go.Proofs.YtckeelbodieblaaW.PrintLast Go.Proofs.YtckeelbodieblaaW.PrintMore Go.Proofs.Ytckeelbodieblaa.PB
set_option linter.unusedVariables false
set_option linter.unusedSimpArgs false
def T10 : Bool × List (List Nat × List Nat) := (true, [([], []), ([], []), ([], []), ([2], [2]), ([1, 3], [1, 3]), ([], []), ([4, 5], [4, 5]), ([0, 4, 0], [0]), ([6, 7, 0, 1, 2, 3, 4, 5, 6, 7], [6])])
def T13 : Bool × List (List Nat × List Nat) := (true, [([], []), ([], []), ([], []), ([2], [2]), ([], []), ([4], [4]), ([1, 3, 5], [1, 3, 5]), ([], []), ([6, 7], [6, 7]), ([0, 6, 0], [0]), ([8, 9, 0, 1, 2, 3, 4, 5, 6, 7, 8, 9], [8])])
theorem tab9_10 : rtab .any (opsOf Try.f9 10) = T10 := by kernel_rfl
theorem tab9_13 : rtab .any (opsOf Try.f9 13) = T13 := by kernel_rfl
theorem tab9_16 : rtab .any (opsOf Try.f9 16) = T10 := by kernel_rfl
theorem tab9_19 : rtab .any (opsOf Try.f9 19) = T10 := by kernel_rfl
theorem RO.row {w w' : World} {A : Option Addr} {c base : Nat} {L L' : List S70} {v' : Value} {ok : Nat → Prop} (h : RO w w' A c L v' L') (hR : Kd.R k70 70 w base ok (.slice A L.length c) L) (hB : Below w.heap.size w w') (hb : base ≤ w.heap.size) (hok : ∀ k, w.heap.size ≤ k → ok k) :
    Kd.R k70 70 w' base ok v' L' := by
  rcases h with ⟨rfl, rfl⟩ | h
  · exact Kd.R_below hR hB
  · exact Kd.R_mono (Kd.R_lower (Kd.R_bound h) hb) (fun k hk => hok k hk.2.1)
theorem row_kept {w w' : World} {base : Nat} {L : List S70} {v : Value} {F F' : Nat → Prop} (hR : Kd.R k70 70 w base (fun k => ¬ F k) v L) (hK : Kept w w' F) (hF : ∀ k, F' k → F k ∨ w.heap.size ≤ k) : Kd.R k70 70 w' base (fun k => ¬ F' k) v L :=
  Kd.R_mono (Kd.R_keptB hR hK (fun k hk => hk)) (fun k hk hFk => by
    rcases hF k hFk with h | h
    · exact hk.1 h
    · have := hk.2.2; omega)
theorem foot_set {b m i : Nat} {pf : Int → Nat} {L : List S70} {x z : S70} (hi : L[i]? = some x) (hz : z.f0 = x.f0) {k : Nat} (h : Foot b m pf (L.set i z) k) : Foot b m pf L k := by
  rcases h with h | h | ⟨y, hy, e⟩
  · exact .inl h
  · exact .inr (.inl h)
  · rcases List.mem_or_eq_of_mem_set hy with hy | rfl
    · exact .inr (.inr ⟨y, hy, e⟩)
    · exact .inr (.inr ⟨x, List.mem_of_getElem? hi, by rw [e, hz]⟩)
theorem foot_turn {b m : Nat} {pf : Int → Nat} {L : List S70} {n s t : Int} {me : S70 → Int} {k : Nat} (h : Foot b m pf (turnS L n s t me).1 k) : Foot b m pf L k := by
  unfold turnS at h
  cases ha : at? L n with
  | none => rw [ha] at h; exact h
  | some p =>
    obtain ⟨i, x⟩ := p
    obtain ⟨hi, hx⟩ := at?_some ha
    rw [ha] at h
    simp only at h
    split at h
    · exact h
    · split at h
      · exact h
      · exact foot_set hi hx.symm h
theorem foot_forget {b m : Nat} {pf : Int → Nat} {L : List S70} {n : Int} {k : Nat} (h : Foot b m pf (forgetS L n).1 k) : Foot b m pf L k := by
  unfold forgetS at h
  cases ha : at? L n with
  | none => rw [ha] at h; exact h
  | some p =>
    obtain ⟨i, x⟩ := p
    rw [ha] at h
    simp only at h
    split at h
    · rcases h with h | h | ⟨y, hy, e⟩
      · exact .inl h
      · exact .inr (.inl h)
      · exact .inr (.inr ⟨y, List.mem_of_mem_eraseIdx hy, e⟩)
    · exact h
section
variable {b m nn base : Nat} {pf qf : Int → Nat} {L : List S70} {last : Int} {A : Option Addr} {c : Nat} {w : World}
set_option maxHeartbeats 8000000 in
set_option maxRecDepth 100000 in
theorem does_1 (txn stamp : Int) (htx : (Lit.int .i64 txn).wf = true) (hT : Tab w 0 b m nn pf qf L last) (hR : Kd.R k70 70 w base (fun k => ¬ Foot b m pf L k) (.slice A L.length c) L) (hb : base ≤ w.heap.size) (hl : L.length < 5864062014805) :
    Calls Try.prog 9 #[pt b, .agg #[.slice A L.length c, .int .i64 last], .agg #[.int .i64 1, .int .i64 txn, .int .u64 stamp]] w fun e w' => ∃ qf' v', e = .returned (.tuple #[.agg #[v', .int .i64 last], .bool true]) ∧ Tab w' 0 b m nn pf qf' (turnS L txn 2 0 (fun _ => 0)).1 last ∧ Kd.R k70 70 w' base (fun k => ¬ Foot b m pf (turnS L txn 2 0 (fun _ => 0)).1 k) v' (turnS L txn 2 0 (fun _ => 0)).1 ∧ Turns w w' (Foot b m pf L) (Foot b m pf (turnS L txn 2 0 (fun _ => 0)).1) := by
  have hlt := fun k (h : Foot b m pf L k) => hT.lt h
  have hF : ∀ j, w.heap.size ≤ j → ¬ Foot b m pf L j := fun j hj h => by have := hlt j h; omega
  generalize hw2 : ((w.alloc (.cells #[.slice A L.length c, .int .i64 last] 27)).alloc (.cells #[.int .i64 1, .int .i64 txn, .int .u64 stamp] 37)).alloc (.cells #[.slice none 0 0, .int .i64 0] 27) = w2
  have b0 : w2.heap[w.heap.size]? = some (.cells #[.slice A L.length c, .int .i64 last] 27) := by rw [← hw2]; exact heap_old (heap_old (heap_new _ _))
  have b1 : w2.heap[w.heap.size + 1]? = some (.cells #[.int .i64 1, .int .i64 txn, .int .u64 stamp] 37) := by rw [← hw2]; have := heap_new (w.alloc (.cells #[.slice A L.length c, .int .i64 last] 27)) (.cells #[.int .i64 1, .int .i64 txn, .int .u64 stamp] 37); rw [size_new] at this; exact heap_old this
  have b2 : w2.heap[w.heap.size + 1 + 1]? = some (.cells #[.slice none 0 0, .int .i64 0] 27) := by rw [← hw2]; have := heap_new ((w.alloc (.cells #[.slice A L.length c, .int .i64 last] 27)).alloc (.cells #[.int .i64 1, .int .i64 txn, .int .u64 stamp] 37)) (.cells #[.slice none 0 0, .int .i64 0] 27); rw [size_new, size_new] at this; exact this
  have hB2 : Below w.heap.size w w2 := by rw [← hw2]; exact below_alloc (below_alloc (below_alloc (Below.refl _ _) _) _) _
  have hz2 : w2.heap.size = w.heap.size + 3 := by rw [← hw2, size_new, size_new, size_new]
  have hC2 := Kd.C_below (Kd.R_reads' hR).2.2 hB2
  have hcl := (Kd.R_reads' hR).2.1
  have HB2 := Aside0.mk hB2
  have HW := Aside0.mk hw2
  have HR2 := Aside0.mk (Kd.R_below (Kd.R_mono (Kd.R_bound hR) (ok' := fun k => ¬ Foot b m pf L k ∧ (k < w.heap.size ∨ w.heap.size + 3 ≤ k)) (fun k hk => ⟨hk.1, .inl hk.2.2.1⟩)) hB2)
  have HTw := Aside0.mk hT
  have n0 : (w.heap.size = w.heap.size + 1 + 1) = False := eq_false (by omega)
  have n1 : (w.heap.size + 1 = w.heap.size + 1 + 1) = False := eq_false (by omega)
  have n2 : (w.heap.size + 1 + 1 = w.heap.size) = False := eq_false (by omega)
  have n3 : (w.heap.size + 1 + 1 = w.heap.size + 1) = False := eq_false (by omega)
  have n4 : (w.heap.size + 1 = w.heap.size) = False := eq_false (by omega)
  have n5 : (w.heap.size = w.heap.size + 1) = False := eq_false (by omega)
  have hcall := rPrepare (n := txn) (last := last) hC2 hcl hl
  have htab := fun W (h : Tab W 0 b m nn pf qf L last) => Prepare_any h htx
  have hft : ∀ k, Foot b m pf (turnS L txn 2 0 (fun _ => 0)).1 k → Foot b m pf L k := fun k h => foot_turn h
  generalize turnS L txn 2 0 (fun _ => 0) = T at hcall htab hft ⊢
  clear hC2 hB2 hR hT hw2
  go_enter Try.func9, Try.ntmps9
  go_wp2_with (go_at_call 21; rw [HW.out]; refine hcall.mono ?_; rintro e w3 ⟨v', rfl, hRO, hB3⟩; have HR3 := Aside0.mk (hRO.row HR2.out hB3 (by omega) (fun k hk => ⟨hF k (by omega), .inr (by omega)⟩)); obtain ⟨A3, c3, rfl⟩ := Kd.R_slice HR3.out; have D0 := Aside0.mk ((hB3.block _ (lt_of b0)).trans b0); have D1 := Aside0.mk ((hB3.block _ (lt_of b1)).trans b1); have D2 := Aside0.mk ((hB3.block _ (lt_of b2)).trans b2); have c0 : w3.cell? ⟨w.heap.size, 0, none⟩ = some (.slice A L.length c) := cell_of D0.out 0; have c1 : w3.cell? ⟨w.heap.size, 1, none⟩ = some (.int .i64 last) := cell_of D0.out 1; have f0 : w3.frozen? ⟨w.heap.size, 0, none⟩ = false := frozen_of D0.out 0; have f1 : w3.frozen? ⟨w.heap.size, 1, none⟩ = false := frozen_of D0.out 1; have HB3 := Aside0.mk (below_step HB2.out hB3); clear hB3 hRO)
  obtain ⟨W, hW⟩ : ∃ W, W = ((w3.setCell ⟨w.heap.size, 0, none⟩ (.slice A3 T.1.length c3)).setCell ⟨w.heap.size, 1, none⟩ (.int .i64 last)).drew := ⟨_, rfl⟩
  have E0 : Aside0 (W.heap[w.heap.size]? = some (.cells #[.slice A3 T.1.length c3, .int .i64 last] 27)) := ⟨by rw [hW]; exact setCell_heap (setCell_heap D0.out _) _⟩
  have E1 : Aside0 (W.heap[w.heap.size + 1]? = some (.cells #[.int .i64 1, .int .i64 txn, .int .u64 stamp] 37)) := ⟨by rw [hW]; exact (Below.heap_setCell _ _ _ _ (show w.heap.size + 1 ≠ w.heap.size by omega)).trans ((Below.heap_setCell _ _ _ _ (show w.heap.size + 1 ≠ w.heap.size by omega)).trans D1.out)⟩
  have E2 : Aside0 (W.heap[w.heap.size + 1 + 1]? = some (.cells #[.slice none 0 0, .int .i64 0] 27)) := ⟨by rw [hW]; exact (Below.heap_setCell _ _ _ _ (show w.heap.size + 1 + 1 ≠ w.heap.size by omega)).trans ((Below.heap_setCell _ _ _ _ (show w.heap.size + 1 + 1 ≠ w.heap.size by omega)).trans D2.out)⟩
  have HBW : Aside0 (Below w.heap.size w W) := ⟨by rw [hW]; exact below_drew1 ((HB3.out.setCell (p := ⟨w.heap.size, 0, none⟩) (Nat.le_refl _) _).setCell (p := ⟨w.heap.size, 1, none⟩) (Nat.le_refl _) _)⟩
  have HRW : Aside0 (Kd.R k70 70 W base (fun k => ¬ Foot b m pf L k ∧ (k < w.heap.size ∨ w.heap.size + 3 ≤ k)) (.slice A3 T.1.length c3) T.1) := ⟨by rw [hW]; exact Kd.R_drew (Kd.R_far (Kd.R_far HR3.out (p := ⟨w.heap.size, 0, none⟩) (fun k hk => by have := hk.2; show k ≠ w.heap.size; omega) _) (p := ⟨w.heap.size, 1, none⟩) (fun k hk => by have := hk.2; show k ≠ w.heap.size; omega) _)⟩
  refine start_ (n := 9) (S := fun w' => w'.cell? ⟨w.heap.size, 0, none⟩ = some (.slice A3 T.1.length c3) ∧ w'.cell? ⟨w.heap.size, 1, none⟩ = some (.int .i64 last) ∧ w'.cell? ⟨w.heap.size + 1, 1, none⟩ = some (.int .i64 txn)) (ds := []) #[false, false, false, false, false, false, false, false, false] (by kernel_rfl) rfl rfl (by rw [← hW]; exact ⟨cell_of E0.out 0, cell_of E0.out 1, cell_of E1.out 1⟩) (fun hHeld => ?_); refine with_tab tab9_10 (fun HT_ => ?_)
  rw [← hW] at hHeld ⊢
  clear hW c0 c1 f0 f1
  refine pure_ (i := 1) (N := some 46) (v := ?_) (a' := ?_) #[false, true, false, false, false, false, false, false, false] rfl rfl (any_of HT_.out (by kernel_rfl)) (fun _ _ _ h => h) (Or.inl ⟨by rfl, ?_⟩) ?_ ?_
  rotate_left
  · intro w'
    go_simp
    with_reducible rfl
  rotate_left
  · simp only [Act.put, List.setIfInBounds_toArray, List.set_cons_zero, List.set_cons_succ, i64_w, i32_w]
    rfl
  refine pure_ (i := 2) (N := some 47) (v := ?_) (a' := ?_) #[false, true, true, false, false, false, false, false, false] rfl rfl (any_of HT_.out (by kernel_rfl)) (fun _ _ _ h => h) (Or.inl ⟨by rfl, ?_⟩) ?_ ?_
  rotate_left
  · intro w'
    go_simp
    with_reducible rfl
  rotate_left
  · simp only [Act.put, List.setIfInBounds_toArray, List.set_cons_zero, List.set_cons_succ, i64_w, i32_w]
    rfl
  refine pure_ (i := 5) (N := some 50) (v := ?_) (a' := ?_) #[false, true, true, false, false, true, false, false, false] rfl rfl (any_of HT_.out (by kernel_rfl)) (fun _ _ _ h => h) (Or.inl ⟨by rfl, ?_⟩) ?_ ?_
  rotate_left
  · intro w'
    go_simp
    with_reducible rfl
  rotate_left
  · simp only [Act.put, List.setIfInBounds_toArray, List.set_cons_zero, List.set_cons_succ, i64_w, i32_w]
    rfl
  refine take_ (i := 0) (N := some 45) (v := ?_) (a' := ?_) #[true, true, true, false, false, true, false, false, false] rfl rfl (take_of HT_.out (by kernel_rfl)) (fun _ _ _ h => h) (Or.inl ⟨by rfl, ?_⟩) hHeld ?_ ?_
  rotate_left
  · rintro w' ⟨s0, s1, s2⟩
    go_simp
    with_reducible rfl
  rotate_left
  · simp only [Act.put, List.setIfInBounds_toArray, List.set_cons_zero, List.set_cons_succ, i64_w, i32_w]
    rfl
  refine take_ (i := 3) (N := some 48) (v := ?_) (a' := ?_) #[true, true, true, true, false, true, false, false, false] rfl rfl (take_of HT_.out (by kernel_rfl)) (fun _ _ _ h => h) (Or.inl ⟨by rfl, ?_⟩) hHeld ?_ ?_
  rotate_left
  · rintro w' ⟨s0, s1, s2⟩
    go_simp
    with_reducible rfl
  rotate_left
  · simp only [Act.put, List.setIfInBounds_toArray, List.set_cons_zero, List.set_cons_succ, i64_w, i32_w]
    rfl
  refine one_ (i := 4) (N := some 49) #[true, true, true, true, true, true, false, false, false] rfl rfl (one_of HT_.out (by kernel_rfl)) (by decide) (fun K hK => ?_)
  refine goes_ Try.func22 (by kernel_rfl) rfl #[pt b, .int .i64 txn] (by rfl) rfl rfl (by (try simp only [List.map_toArray, List.map_cons, List.map_nil]); first | done | rfl) ?_
  refine (htab _ (HTw.out.below HBW.out)).mono ?_
  rintro e w6 ⟨qf', rfl, hT6, hK6⟩
  refine ⟨_, rfl, ?_⟩
  have HT6 := Aside0.mk hT6
  have HK6 := Aside0.mk hK6
  clear hT6 hK6
  have G0 := Aside0.mk (blk_kept E0.out HK6.out (hF _ (Nat.le_refl _)))
  have G1 := Aside0.mk (blk_kept E1.out HK6.out (hF _ (by omega)))
  have G2 := Aside0.mk (blk_kept E2.out HK6.out (hF _ (by omega)))
  refine hK.out _ _ ⟨cell_of G0.out 0, cell_of G0.out 1, cell_of G1.out 1⟩ (fun hHeld6 => ?_)
  clear hK K
  refine norm_ (a' := ?_) ?_ ?_
  rotate_left
  · show Act.put _ (some 49) _ = _
    simp only [Act.put, List.setIfInBounds_toArray, List.set_cons_zero, List.set_cons_succ, i64_w, i32_w]
    rfl
  refine pure_ (i := 6) (N := some 51) (v := ?_) (a' := ?_) #[true, true, true, true, true, true, true, false, false] rfl rfl (any_of HT_.out (by kernel_rfl)) (fun _ _ _ h => h) (Or.inl ⟨by rfl, ?_⟩) ?_ ?_
  rotate_left
  · intro w'
    go_simp
    with_reducible rfl
  rotate_left
  · simp only [Act.put, List.setIfInBounds_toArray, List.set_cons_zero, List.set_cons_succ, i64_w, i32_w]
    rfl
  refine one_ (i := 7) (N := none) #[true, true, true, true, true, true, true, true, false] rfl rfl (one_of HT_.out (by kernel_rfl)) (by decide) (fun K hK => ?_)
  have q0 : w6.cell? ⟨w.heap.size + 1 + 1, 0, none⟩ = some (.slice none 0 0) := cell_of G2.out 0
  have q1 : w6.cell? ⟨w.heap.size + 1 + 1, 1, none⟩ = some (.int .i64 0) := cell_of G2.out 1
  have q2 : w6.frozen? ⟨w.heap.size + 1 + 1, 0, none⟩ = false := frozen_of G2.out 0
  have q3 : w6.frozen? ⟨w.heap.size + 1 + 1, 1, none⟩ = false := frozen_of G2.out 1
  refine skip_ (w1 := ?_) (by rfl) rfl ?_ ?_
  rotate_left
  · go_simp
    rfl
  have hh6 := fun (g : Nat) (hg : g ≠ w.heap.size + 1 + 1) (u v : Value) => (Below.heap_setCell (w6.setCell ⟨w.heap.size + 1 + 1, 0, none⟩ u) (⟨w.heap.size + 1 + 1, 1, none⟩ : Addr) v g hg).trans (Below.heap_setCell w6 (⟨w.heap.size + 1 + 1, 0, none⟩ : Addr) u g hg)
  refine hK.out _ _ ⟨cell_of ((hh6 _ (by omega) _ _).trans G0.out) 0, cell_of ((hh6 _ (by omega) _ _).trans G0.out) 1, cell_of ((hh6 _ (by omega) _ _).trans G1.out) 1⟩ (fun hHeld7 => ?_)
  clear hK K
  refine pure_ (i := 8) (N := some 7) (v := ?_) (a' := ?_) #[true, true, true, true, true, true, true, true, true] rfl rfl (any_of HT_.out (by kernel_rfl)) (fun _ _ _ h => h) (Or.inl ⟨by rfl, ?_⟩) ?_ ?_
  rotate_left
  · intro w'
    go_simp
    with_reducible rfl
  rotate_left
  · simp only [Act.put, List.setIfInBounds_toArray, List.set_cons_zero, List.set_cons_succ, i64_w, i32_w]
    rfl
  refine done_ (done_of HT_.out (by kernel_rfl)) ?_
  go_wp2
  refine bodyPost_ret (results_ct rfl _ _ (w.heap.size + 1 + 1) 27 #[.slice A3 T.1.length c3, .int .i64 last] (0, 0) _ rfl (setCell_heap (setCell_heap G2.out _) _) Try.underlying27 rfl (by kernel_rfl)) rfl ?_
  have hk7 := fun (u v : Value) => ((Kept.refl w6 (fun k => k = w.heap.size + 1 + 1)).setCell (p := ⟨w.heap.size + 1 + 1, 0, none⟩) (.inl rfl) u).setCell (p := ⟨w.heap.size + 1 + 1, 1, none⟩) (.inl rfl) v
  refine ⟨qf', _, rfl, HT6.out.kept (hk7 _ _) (fun k hk e => hF k (by omega) (hft k hk)) (fun x hx e => by have h1 := HT6.out.q x hx; rw [e, G2.out] at h1; exact absurd (cells_ty h1) (by decide)), ?_, ?_, fun k hk => .inl (hft k hk)⟩
  · exact Kd.R_mono (Kd.R_kept (Kd.R_keptB HRW.out HK6.out (fun k hk => hk.1)) (hk7 _ _) (fun k hk e => by have := hk.1.2; omega)) (fun k hk h => hk.1.1 (hft k h))
  · exact (((Kept.of_below HBW.out _).then_ HK6.out (fun _ h => .inl h)).setCell (p := ⟨w.heap.size + 1 + 1, 0, none⟩) (.inr (by show w.heap.size ≤ w.heap.size + 1 + 1; omega)) _).setCell (p := ⟨w.heap.size + 1 + 1, 1, none⟩) (.inr (by show w.heap.size ≤ w.heap.size + 1 + 1; omega)) _
set_option maxHeartbeats 8000000 in
set_option maxRecDepth 100000 in
theorem does_3 (txn stamp : Int) (htx : (Lit.int .i64 txn).wf = true) (hT : Tab w 0 b m nn pf qf L last) (hR : Kd.R k70 70 w base (fun k => ¬ Foot b m pf L k) (.slice A L.length c) L) (hb : base ≤ w.heap.size) (hl : L.length < 5864062014805) :
    Calls Try.prog 9 #[pt b, .agg #[.slice A L.length c, .int .i64 last], .agg #[.int .i64 3, .int .i64 txn, .int .u64 stamp]] w fun e w' => ∃ qf' v', e = .returned (.tuple #[.agg #[v', .int .i64 last], .bool true]) ∧ Tab w' 0 b m nn pf qf' (turnS L txn 4 0 (fun _ => 0)).1 last ∧ Kd.R k70 70 w' base (fun k => ¬ Foot b m pf (turnS L txn 4 0 (fun _ => 0)).1 k) v' (turnS L txn 4 0 (fun _ => 0)).1 ∧ Turns w w' (Foot b m pf L) (Foot b m pf (turnS L txn 4 0 (fun _ => 0)).1) := by
  have hlt := fun k (h : Foot b m pf L k) => hT.lt h
  have hF : ∀ j, w.heap.size ≤ j → ¬ Foot b m pf L j := fun j hj h => by have := hlt j h; omega
  generalize hw2 : ((w.alloc (.cells #[.slice A L.length c, .int .i64 last] 27)).alloc (.cells #[.int .i64 3, .int .i64 txn, .int .u64 stamp] 37)).alloc (.cells #[.slice none 0 0, .int .i64 0] 27) = w2
  have b0 : w2.heap[w.heap.size]? = some (.cells #[.slice A L.length c, .int .i64 last] 27) := by rw [← hw2]; exact heap_old (heap_old (heap_new _ _))
  have b1 : w2.heap[w.heap.size + 1]? = some (.cells #[.int .i64 3, .int .i64 txn, .int .u64 stamp] 37) := by rw [← hw2]; have := heap_new (w.alloc (.cells #[.slice A L.length c, .int .i64 last] 27)) (.cells #[.int .i64 3, .int .i64 txn, .int .u64 stamp] 37); rw [size_new] at this; exact heap_old this
  have b2 : w2.heap[w.heap.size + 1 + 1]? = some (.cells #[.slice none 0 0, .int .i64 0] 27) := by rw [← hw2]; have := heap_new ((w.alloc (.cells #[.slice A L.length c, .int .i64 last] 27)).alloc (.cells #[.int .i64 3, .int .i64 txn, .int .u64 stamp] 37)) (.cells #[.slice none 0 0, .int .i64 0] 27); rw [size_new, size_new] at this; exact this
  have hB2 : Below w.heap.size w w2 := by rw [← hw2]; exact below_alloc (below_alloc (below_alloc (Below.refl _ _) _) _) _
  have hz2 : w2.heap.size = w.heap.size + 3 := by rw [← hw2, size_new, size_new, size_new]
  have hC2 := Kd.C_below (Kd.R_reads' hR).2.2 hB2
  have hcl := (Kd.R_reads' hR).2.1
  have HB2 := Aside0.mk hB2
  have HW := Aside0.mk hw2
  have HR2 := Aside0.mk (Kd.R_below (Kd.R_mono (Kd.R_bound hR) (ok' := fun k => ¬ Foot b m pf L k ∧ (k < w.heap.size ∨ w.heap.size + 3 ≤ k)) (fun k hk => ⟨hk.1, .inl hk.2.2.1⟩)) hB2)
  have HTw := Aside0.mk hT
  have n0 : (w.heap.size = w.heap.size + 1 + 1) = False := eq_false (by omega)
  have n1 : (w.heap.size + 1 = w.heap.size + 1 + 1) = False := eq_false (by omega)
  have n2 : (w.heap.size + 1 + 1 = w.heap.size) = False := eq_false (by omega)
  have n3 : (w.heap.size + 1 + 1 = w.heap.size + 1) = False := eq_false (by omega)
  have n4 : (w.heap.size + 1 = w.heap.size) = False := eq_false (by omega)
  have n5 : (w.heap.size = w.heap.size + 1) = False := eq_false (by omega)
  have hcall := rAbort (n := txn) (last := last) hC2 hcl hl
  have htab := fun W (h : Tab W 0 b m nn pf qf L last) => Abort_any h htx
  have hft : ∀ k, Foot b m pf (turnS L txn 4 0 (fun _ => 0)).1 k → Foot b m pf L k := fun k h => foot_turn h
  generalize turnS L txn 4 0 (fun _ => 0) = T at hcall htab hft ⊢
  clear hC2 hB2 hR hT hw2
  go_enter Try.func9, Try.ntmps9
  go_wp2_with (go_at_call 25; rw [HW.out]; refine hcall.mono ?_; rintro e w3 ⟨v', rfl, hRO, hB3⟩; have HR3 := Aside0.mk (hRO.row HR2.out hB3 (by omega) (fun k hk => ⟨hF k (by omega), .inr (by omega)⟩)); obtain ⟨A3, c3, rfl⟩ := Kd.R_slice HR3.out; have D0 := Aside0.mk ((hB3.block _ (lt_of b0)).trans b0); have D1 := Aside0.mk ((hB3.block _ (lt_of b1)).trans b1); have D2 := Aside0.mk ((hB3.block _ (lt_of b2)).trans b2); have c0 : w3.cell? ⟨w.heap.size, 0, none⟩ = some (.slice A L.length c) := cell_of D0.out 0; have c1 : w3.cell? ⟨w.heap.size, 1, none⟩ = some (.int .i64 last) := cell_of D0.out 1; have f0 : w3.frozen? ⟨w.heap.size, 0, none⟩ = false := frozen_of D0.out 0; have f1 : w3.frozen? ⟨w.heap.size, 1, none⟩ = false := frozen_of D0.out 1; have HB3 := Aside0.mk (below_step HB2.out hB3); clear hB3 hRO)
  obtain ⟨W, hW⟩ : ∃ W, W = ((w3.setCell ⟨w.heap.size, 0, none⟩ (.slice A3 T.1.length c3)).setCell ⟨w.heap.size, 1, none⟩ (.int .i64 last)).drew := ⟨_, rfl⟩
  have E0 : Aside0 (W.heap[w.heap.size]? = some (.cells #[.slice A3 T.1.length c3, .int .i64 last] 27)) := ⟨by rw [hW]; exact setCell_heap (setCell_heap D0.out _) _⟩
  have E1 : Aside0 (W.heap[w.heap.size + 1]? = some (.cells #[.int .i64 3, .int .i64 txn, .int .u64 stamp] 37)) := ⟨by rw [hW]; exact (Below.heap_setCell _ _ _ _ (show w.heap.size + 1 ≠ w.heap.size by omega)).trans ((Below.heap_setCell _ _ _ _ (show w.heap.size + 1 ≠ w.heap.size by omega)).trans D1.out)⟩
  have E2 : Aside0 (W.heap[w.heap.size + 1 + 1]? = some (.cells #[.slice none 0 0, .int .i64 0] 27)) := ⟨by rw [hW]; exact (Below.heap_setCell _ _ _ _ (show w.heap.size + 1 + 1 ≠ w.heap.size by omega)).trans ((Below.heap_setCell _ _ _ _ (show w.heap.size + 1 + 1 ≠ w.heap.size by omega)).trans D2.out)⟩
  have HBW : Aside0 (Below w.heap.size w W) := ⟨by rw [hW]; exact below_drew1 ((HB3.out.setCell (p := ⟨w.heap.size, 0, none⟩) (Nat.le_refl _) _).setCell (p := ⟨w.heap.size, 1, none⟩) (Nat.le_refl _) _)⟩
  have HRW : Aside0 (Kd.R k70 70 W base (fun k => ¬ Foot b m pf L k ∧ (k < w.heap.size ∨ w.heap.size + 3 ≤ k)) (.slice A3 T.1.length c3) T.1) := ⟨by rw [hW]; exact Kd.R_drew (Kd.R_far (Kd.R_far HR3.out (p := ⟨w.heap.size, 0, none⟩) (fun k hk => by have := hk.2; show k ≠ w.heap.size; omega) _) (p := ⟨w.heap.size, 1, none⟩) (fun k hk => by have := hk.2; show k ≠ w.heap.size; omega) _)⟩
  refine start_ (n := 9) (S := fun w' => w'.cell? ⟨w.heap.size, 0, none⟩ = some (.slice A3 T.1.length c3) ∧ w'.cell? ⟨w.heap.size, 1, none⟩ = some (.int .i64 last) ∧ w'.cell? ⟨w.heap.size + 1, 1, none⟩ = some (.int .i64 txn)) (ds := []) #[false, false, false, false, false, false, false, false, false] (by kernel_rfl) rfl rfl (by rw [← hW]; exact ⟨cell_of E0.out 0, cell_of E0.out 1, cell_of E1.out 1⟩) (fun hHeld => ?_); refine with_tab tab9_16 (fun HT_ => ?_)
  rw [← hW] at hHeld ⊢
  clear hW c0 c1 f0 f1
  refine pure_ (i := 1) (N := some 82) (v := ?_) (a' := ?_) #[false, true, false, false, false, false, false, false, false] rfl rfl (any_of HT_.out (by kernel_rfl)) (fun _ _ _ h => h) (Or.inl ⟨by rfl, ?_⟩) ?_ ?_
  rotate_left
  · intro w'
    go_simp
    with_reducible rfl
  rotate_left
  · simp only [Act.put, List.setIfInBounds_toArray, List.set_cons_zero, List.set_cons_succ, i64_w, i32_w]
    rfl
  refine pure_ (i := 2) (N := some 83) (v := ?_) (a' := ?_) #[false, true, true, false, false, false, false, false, false] rfl rfl (any_of HT_.out (by kernel_rfl)) (fun _ _ _ h => h) (Or.inl ⟨by rfl, ?_⟩) ?_ ?_
  rotate_left
  · intro w'
    go_simp
    with_reducible rfl
  rotate_left
  · simp only [Act.put, List.setIfInBounds_toArray, List.set_cons_zero, List.set_cons_succ, i64_w, i32_w]
    rfl
  refine pure_ (i := 5) (N := some 86) (v := ?_) (a' := ?_) #[false, true, true, false, false, true, false, false, false] rfl rfl (any_of HT_.out (by kernel_rfl)) (fun _ _ _ h => h) (Or.inl ⟨by rfl, ?_⟩) ?_ ?_
  rotate_left
  · intro w'
    go_simp
    with_reducible rfl
  rotate_left
  · simp only [Act.put, List.setIfInBounds_toArray, List.set_cons_zero, List.set_cons_succ, i64_w, i32_w]
    rfl
  refine take_ (i := 0) (N := some 81) (v := ?_) (a' := ?_) #[true, true, true, false, false, true, false, false, false] rfl rfl (take_of HT_.out (by kernel_rfl)) (fun _ _ _ h => h) (Or.inl ⟨by rfl, ?_⟩) hHeld ?_ ?_
  rotate_left
  · rintro w' ⟨s0, s1, s2⟩
    go_simp
    with_reducible rfl
  rotate_left
  · simp only [Act.put, List.setIfInBounds_toArray, List.set_cons_zero, List.set_cons_succ, i64_w, i32_w]
    rfl
  refine take_ (i := 3) (N := some 84) (v := ?_) (a' := ?_) #[true, true, true, true, false, true, false, false, false] rfl rfl (take_of HT_.out (by kernel_rfl)) (fun _ _ _ h => h) (Or.inl ⟨by rfl, ?_⟩) hHeld ?_ ?_
  rotate_left
  · rintro w' ⟨s0, s1, s2⟩
    go_simp
    with_reducible rfl
  rotate_left
  · simp only [Act.put, List.setIfInBounds_toArray, List.set_cons_zero, List.set_cons_succ, i64_w, i32_w]
    rfl
  refine one_ (i := 4) (N := some 85) #[true, true, true, true, true, true, false, false, false] rfl rfl (one_of HT_.out (by kernel_rfl)) (by decide) (fun K hK => ?_)
  refine goes_ Try.func26 (by kernel_rfl) rfl #[pt b, .int .i64 txn] (by rfl) rfl rfl (by (try simp only [List.map_toArray, List.map_cons, List.map_nil]); first | done | rfl) ?_
  refine (htab _ (HTw.out.below HBW.out)).mono ?_
  rintro e w6 ⟨qf', rfl, hT6, hK6⟩
  refine ⟨_, rfl, ?_⟩
  have HT6 := Aside0.mk hT6
  have HK6 := Aside0.mk hK6
  clear hT6 hK6
  have G0 := Aside0.mk (blk_kept E0.out HK6.out (hF _ (Nat.le_refl _)))
  have G1 := Aside0.mk (blk_kept E1.out HK6.out (hF _ (by omega)))
  have G2 := Aside0.mk (blk_kept E2.out HK6.out (hF _ (by omega)))
  refine hK.out _ _ ⟨cell_of G0.out 0, cell_of G0.out 1, cell_of G1.out 1⟩ (fun hHeld6 => ?_)
  clear hK K
  refine norm_ (a' := ?_) ?_ ?_
  rotate_left
  · show Act.put _ (some 85) _ = _
    simp only [Act.put, List.setIfInBounds_toArray, List.set_cons_zero, List.set_cons_succ, i64_w, i32_w]
    rfl
  refine pure_ (i := 6) (N := some 87) (v := ?_) (a' := ?_) #[true, true, true, true, true, true, true, false, false] rfl rfl (any_of HT_.out (by kernel_rfl)) (fun _ _ _ h => h) (Or.inl ⟨by rfl, ?_⟩) ?_ ?_
  rotate_left
  · intro w'
    go_simp
    with_reducible rfl
  rotate_left
  · simp only [Act.put, List.setIfInBounds_toArray, List.set_cons_zero, List.set_cons_succ, i64_w, i32_w]
    rfl
  refine one_ (i := 7) (N := none) #[true, true, true, true, true, true, true, true, false] rfl rfl (one_of HT_.out (by kernel_rfl)) (by decide) (fun K hK => ?_)
  have q0 : w6.cell? ⟨w.heap.size + 1 + 1, 0, none⟩ = some (.slice none 0 0) := cell_of G2.out 0
  have q1 : w6.cell? ⟨w.heap.size + 1 + 1, 1, none⟩ = some (.int .i64 0) := cell_of G2.out 1
  have q2 : w6.frozen? ⟨w.heap.size + 1 + 1, 0, none⟩ = false := frozen_of G2.out 0
  have q3 : w6.frozen? ⟨w.heap.size + 1 + 1, 1, none⟩ = false := frozen_of G2.out 1
  refine skip_ (w1 := ?_) (by rfl) rfl ?_ ?_
  rotate_left
  · go_simp
    rfl
  have hh6 := fun (g : Nat) (hg : g ≠ w.heap.size + 1 + 1) (u v : Value) => (Below.heap_setCell (w6.setCell ⟨w.heap.size + 1 + 1, 0, none⟩ u) (⟨w.heap.size + 1 + 1, 1, none⟩ : Addr) v g hg).trans (Below.heap_setCell w6 (⟨w.heap.size + 1 + 1, 0, none⟩ : Addr) u g hg)
  refine hK.out _ _ ⟨cell_of ((hh6 _ (by omega) _ _).trans G0.out) 0, cell_of ((hh6 _ (by omega) _ _).trans G0.out) 1, cell_of ((hh6 _ (by omega) _ _).trans G1.out) 1⟩ (fun hHeld7 => ?_)
  clear hK K
  refine pure_ (i := 8) (N := some 7) (v := ?_) (a' := ?_) #[true, true, true, true, true, true, true, true, true] rfl rfl (any_of HT_.out (by kernel_rfl)) (fun _ _ _ h => h) (Or.inl ⟨by rfl, ?_⟩) ?_ ?_
  rotate_left
  · intro w'
    go_simp
    with_reducible rfl
  rotate_left
  · simp only [Act.put, List.setIfInBounds_toArray, List.set_cons_zero, List.set_cons_succ, i64_w, i32_w]
    rfl
  refine done_ (done_of HT_.out (by kernel_rfl)) ?_
  go_wp2
  refine bodyPost_ret (results_ct rfl _ _ (w.heap.size + 1 + 1) 27 #[.slice A3 T.1.length c3, .int .i64 last] (0, 0) _ rfl (setCell_heap (setCell_heap G2.out _) _) Try.underlying27 rfl (by kernel_rfl)) rfl ?_
  have hk7 := fun (u v : Value) => ((Kept.refl w6 (fun k => k = w.heap.size + 1 + 1)).setCell (p := ⟨w.heap.size + 1 + 1, 0, none⟩) (.inl rfl) u).setCell (p := ⟨w.heap.size + 1 + 1, 1, none⟩) (.inl rfl) v
  refine ⟨qf', _, rfl, HT6.out.kept (hk7 _ _) (fun k hk e => hF k (by omega) (hft k hk)) (fun x hx e => by have h1 := HT6.out.q x hx; rw [e, G2.out] at h1; exact absurd (cells_ty h1) (by decide)), ?_, ?_, fun k hk => .inl (hft k hk)⟩
  · exact Kd.R_mono (Kd.R_kept (Kd.R_keptB HRW.out HK6.out (fun k hk => hk.1)) (hk7 _ _) (fun k hk e => by have := hk.1.2; omega)) (fun k hk h => hk.1.1 (hft k h))
  · exact (((Kept.of_below HBW.out _).then_ HK6.out (fun _ h => .inl h)).setCell (p := ⟨w.heap.size + 1 + 1, 0, none⟩) (.inr (by show w.heap.size ≤ w.heap.size + 1 + 1; omega)) _).setCell (p := ⟨w.heap.size + 1 + 1, 1, none⟩) (.inr (by show w.heap.size ≤ w.heap.size + 1 + 1; omega)) _
set_option maxHeartbeats 8000000 in
set_option maxRecDepth 100000 in
theorem does_4 (txn stamp : Int) (htx : (Lit.int .i64 txn).wf = true) (hT : Tab w 0 b m nn pf qf L last) (hR : Kd.R k70 70 w base (fun k => ¬ Foot b m pf L k) (.slice A L.length c) L) (hb : base ≤ w.heap.size) (hl : L.length < 5864062014805) :
    Calls Try.prog 9 #[pt b, .agg #[.slice A L.length c, .int .i64 last], .agg #[.int .i64 4, .int .i64 txn, .int .u64 stamp]] w fun e w' => ∃ qf' v', e = .returned (.tuple #[.agg #[v', .int .i64 last], .bool true]) ∧ Tab w' 0 b m nn pf qf' (forgetS L txn).1 last ∧ Kd.R k70 70 w' base (fun k => ¬ Foot b m pf (forgetS L txn).1 k) v' (forgetS L txn).1 ∧ Turns w w' (Foot b m pf L) (Foot b m pf (forgetS L txn).1) := by
  have hlt := fun k (h : Foot b m pf L k) => hT.lt h
  have hF : ∀ j, w.heap.size ≤ j → ¬ Foot b m pf L j := fun j hj h => by have := hlt j h; omega
  generalize hw2 : ((w.alloc (.cells #[.slice A L.length c, .int .i64 last] 27)).alloc (.cells #[.int .i64 4, .int .i64 txn, .int .u64 stamp] 37)).alloc (.cells #[.slice none 0 0, .int .i64 0] 27) = w2
  have b0 : w2.heap[w.heap.size]? = some (.cells #[.slice A L.length c, .int .i64 last] 27) := by rw [← hw2]; exact heap_old (heap_old (heap_new _ _))
  have b1 : w2.heap[w.heap.size + 1]? = some (.cells #[.int .i64 4, .int .i64 txn, .int .u64 stamp] 37) := by rw [← hw2]; have := heap_new (w.alloc (.cells #[.slice A L.length c, .int .i64 last] 27)) (.cells #[.int .i64 4, .int .i64 txn, .int .u64 stamp] 37); rw [size_new] at this; exact heap_old this
  have b2 : w2.heap[w.heap.size + 1 + 1]? = some (.cells #[.slice none 0 0, .int .i64 0] 27) := by rw [← hw2]; have := heap_new ((w.alloc (.cells #[.slice A L.length c, .int .i64 last] 27)).alloc (.cells #[.int .i64 4, .int .i64 txn, .int .u64 stamp] 37)) (.cells #[.slice none 0 0, .int .i64 0] 27); rw [size_new, size_new] at this; exact this
  have hB2 : Below w.heap.size w w2 := by rw [← hw2]; exact below_alloc (below_alloc (below_alloc (Below.refl _ _) _) _) _
  have hz2 : w2.heap.size = w.heap.size + 3 := by rw [← hw2, size_new, size_new, size_new]
  have hC2 := Kd.C_below (Kd.R_reads' hR).2.2 hB2
  have hcl := (Kd.R_reads' hR).2.1
  have HB2 := Aside0.mk hB2
  have HW := Aside0.mk hw2
  have HR2 := Aside0.mk (Kd.R_below (Kd.R_mono (Kd.R_bound hR) (ok' := fun k => ¬ Foot b m pf L k ∧ (k < w.heap.size ∨ w.heap.size + 3 ≤ k)) (fun k hk => ⟨hk.1, .inl hk.2.2.1⟩)) hB2)
  have HTw := Aside0.mk hT
  have n0 : (w.heap.size = w.heap.size + 1 + 1) = False := eq_false (by omega)
  have n1 : (w.heap.size + 1 = w.heap.size + 1 + 1) = False := eq_false (by omega)
  have n2 : (w.heap.size + 1 + 1 = w.heap.size) = False := eq_false (by omega)
  have n3 : (w.heap.size + 1 + 1 = w.heap.size + 1) = False := eq_false (by omega)
  have n4 : (w.heap.size + 1 = w.heap.size) = False := eq_false (by omega)
  have n5 : (w.heap.size = w.heap.size + 1) = False := eq_false (by omega)
  have hcall := rForget (n := txn) (last := last) hC2 hcl hl
  have htab := fun W (h : Tab W 0 b m nn pf qf L last) => Forget_any h htx
  have hft : ∀ k, Foot b m pf (forgetS L txn).1 k → Foot b m pf L k := fun k h => foot_forget h
  generalize forgetS L txn = T at hcall htab hft ⊢
  clear hC2 hB2 hR hT hw2
  go_enter Try.func9, Try.ntmps9
  go_wp2_with (go_at_call 27; rw [HW.out]; refine hcall.mono ?_; rintro e w3 ⟨v', rfl, hRO, hB3⟩; have HR3 := Aside0.mk (hRO.row HR2.out hB3 (by omega) (fun k hk => ⟨hF k (by omega), .inr (by omega)⟩)); obtain ⟨A3, c3, rfl⟩ := Kd.R_slice HR3.out; have D0 := Aside0.mk ((hB3.block _ (lt_of b0)).trans b0); have D1 := Aside0.mk ((hB3.block _ (lt_of b1)).trans b1); have D2 := Aside0.mk ((hB3.block _ (lt_of b2)).trans b2); have c0 : w3.cell? ⟨w.heap.size, 0, none⟩ = some (.slice A L.length c) := cell_of D0.out 0; have c1 : w3.cell? ⟨w.heap.size, 1, none⟩ = some (.int .i64 last) := cell_of D0.out 1; have f0 : w3.frozen? ⟨w.heap.size, 0, none⟩ = false := frozen_of D0.out 0; have f1 : w3.frozen? ⟨w.heap.size, 1, none⟩ = false := frozen_of D0.out 1; have HB3 := Aside0.mk (below_step HB2.out hB3); clear hB3 hRO)
  obtain ⟨W, hW⟩ : ∃ W, W = ((w3.setCell ⟨w.heap.size, 0, none⟩ (.slice A3 T.1.length c3)).setCell ⟨w.heap.size, 1, none⟩ (.int .i64 last)).drew := ⟨_, rfl⟩
  have E0 : Aside0 (W.heap[w.heap.size]? = some (.cells #[.slice A3 T.1.length c3, .int .i64 last] 27)) := ⟨by rw [hW]; exact setCell_heap (setCell_heap D0.out _) _⟩
  have E1 : Aside0 (W.heap[w.heap.size + 1]? = some (.cells #[.int .i64 4, .int .i64 txn, .int .u64 stamp] 37)) := ⟨by rw [hW]; exact (Below.heap_setCell _ _ _ _ (show w.heap.size + 1 ≠ w.heap.size by omega)).trans ((Below.heap_setCell _ _ _ _ (show w.heap.size + 1 ≠ w.heap.size by omega)).trans D1.out)⟩
  have E2 : Aside0 (W.heap[w.heap.size + 1 + 1]? = some (.cells #[.slice none 0 0, .int .i64 0] 27)) := ⟨by rw [hW]; exact (Below.heap_setCell _ _ _ _ (show w.heap.size + 1 + 1 ≠ w.heap.size by omega)).trans ((Below.heap_setCell _ _ _ _ (show w.heap.size + 1 + 1 ≠ w.heap.size by omega)).trans D2.out)⟩
  have HBW : Aside0 (Below w.heap.size w W) := ⟨by rw [hW]; exact below_drew1 ((HB3.out.setCell (p := ⟨w.heap.size, 0, none⟩) (Nat.le_refl _) _).setCell (p := ⟨w.heap.size, 1, none⟩) (Nat.le_refl _) _)⟩
  have HRW : Aside0 (Kd.R k70 70 W base (fun k => ¬ Foot b m pf L k ∧ (k < w.heap.size ∨ w.heap.size + 3 ≤ k)) (.slice A3 T.1.length c3) T.1) := ⟨by rw [hW]; exact Kd.R_drew (Kd.R_far (Kd.R_far HR3.out (p := ⟨w.heap.size, 0, none⟩) (fun k hk => by have := hk.2; show k ≠ w.heap.size; omega) _) (p := ⟨w.heap.size, 1, none⟩) (fun k hk => by have := hk.2; show k ≠ w.heap.size; omega) _)⟩
  refine start_ (n := 9) (S := fun w' => w'.cell? ⟨w.heap.size, 0, none⟩ = some (.slice A3 T.1.length c3) ∧ w'.cell? ⟨w.heap.size, 1, none⟩ = some (.int .i64 last) ∧ w'.cell? ⟨w.heap.size + 1, 1, none⟩ = some (.int .i64 txn)) (ds := []) #[false, false, false, false, false, false, false, false, false] (by kernel_rfl) rfl rfl (by rw [← hW]; exact ⟨cell_of E0.out 0, cell_of E0.out 1, cell_of E1.out 1⟩) (fun hHeld => ?_); refine with_tab tab9_19 (fun HT_ => ?_)
  rw [← hW] at hHeld ⊢
  clear hW c0 c1 f0 f1
  refine pure_ (i := 1) (N := some 98) (v := ?_) (a' := ?_) #[false, true, false, false, false, false, false, false, false] rfl rfl (any_of HT_.out (by kernel_rfl)) (fun _ _ _ h => h) (Or.inl ⟨by rfl, ?_⟩) ?_ ?_
  rotate_left
  · intro w'
    go_simp
    with_reducible rfl
  rotate_left
  · simp only [Act.put, List.setIfInBounds_toArray, List.set_cons_zero, List.set_cons_succ, i64_w, i32_w]
    rfl
  refine pure_ (i := 2) (N := some 99) (v := ?_) (a' := ?_) #[false, true, true, false, false, false, false, false, false] rfl rfl (any_of HT_.out (by kernel_rfl)) (fun _ _ _ h => h) (Or.inl ⟨by rfl, ?_⟩) ?_ ?_
  rotate_left
  · intro w'
    go_simp
    with_reducible rfl
  rotate_left
  · simp only [Act.put, List.setIfInBounds_toArray, List.set_cons_zero, List.set_cons_succ, i64_w, i32_w]
    rfl
  refine pure_ (i := 5) (N := some 102) (v := ?_) (a' := ?_) #[false, true, true, false, false, true, false, false, false] rfl rfl (any_of HT_.out (by kernel_rfl)) (fun _ _ _ h => h) (Or.inl ⟨by rfl, ?_⟩) ?_ ?_
  rotate_left
  · intro w'
    go_simp
    with_reducible rfl
  rotate_left
  · simp only [Act.put, List.setIfInBounds_toArray, List.set_cons_zero, List.set_cons_succ, i64_w, i32_w]
    rfl
  refine take_ (i := 0) (N := some 97) (v := ?_) (a' := ?_) #[true, true, true, false, false, true, false, false, false] rfl rfl (take_of HT_.out (by kernel_rfl)) (fun _ _ _ h => h) (Or.inl ⟨by rfl, ?_⟩) hHeld ?_ ?_
  rotate_left
  · rintro w' ⟨s0, s1, s2⟩
    go_simp
    with_reducible rfl
  rotate_left
  · simp only [Act.put, List.setIfInBounds_toArray, List.set_cons_zero, List.set_cons_succ, i64_w, i32_w]
    rfl
  refine take_ (i := 3) (N := some 100) (v := ?_) (a' := ?_) #[true, true, true, true, false, true, false, false, false] rfl rfl (take_of HT_.out (by kernel_rfl)) (fun _ _ _ h => h) (Or.inl ⟨by rfl, ?_⟩) hHeld ?_ ?_
  rotate_left
  · rintro w' ⟨s0, s1, s2⟩
    go_simp
    with_reducible rfl
  rotate_left
  · simp only [Act.put, List.setIfInBounds_toArray, List.set_cons_zero, List.set_cons_succ, i64_w, i32_w]
    rfl
  refine one_ (i := 4) (N := some 101) #[true, true, true, true, true, true, false, false, false] rfl rfl (one_of HT_.out (by kernel_rfl)) (by decide) (fun K hK => ?_)
  refine goes_ Try.func28 (by kernel_rfl) rfl #[pt b, .int .i64 txn] (by rfl) rfl rfl (by (try simp only [List.map_toArray, List.map_cons, List.map_nil]); first | done | rfl) ?_
  refine (htab _ (HTw.out.below HBW.out)).mono ?_
  rintro e w6 ⟨rfl, hT6, hK6⟩
  refine ⟨_, rfl, ?_⟩
  have HT6 := Aside0.mk hT6
  have HK6 := Aside0.mk hK6
  clear hT6 hK6
  have G0 := Aside0.mk (blk_kept E0.out HK6.out (hF _ (Nat.le_refl _)))
  have G1 := Aside0.mk (blk_kept E1.out HK6.out (hF _ (by omega)))
  have G2 := Aside0.mk (blk_kept E2.out HK6.out (hF _ (by omega)))
  refine hK.out _ _ ⟨cell_of G0.out 0, cell_of G0.out 1, cell_of G1.out 1⟩ (fun hHeld6 => ?_)
  clear hK K
  refine norm_ (a' := ?_) ?_ ?_
  rotate_left
  · show Act.put _ (some 101) _ = _
    simp only [Act.put, List.setIfInBounds_toArray, List.set_cons_zero, List.set_cons_succ, i64_w, i32_w]
    rfl
  refine pure_ (i := 6) (N := some 103) (v := ?_) (a' := ?_) #[true, true, true, true, true, true, true, false, false] rfl rfl (any_of HT_.out (by kernel_rfl)) (fun _ _ _ h => h) (Or.inl ⟨by rfl, ?_⟩) ?_ ?_
  rotate_left
  · intro w'
    go_simp
    with_reducible rfl
  rotate_left
  · simp only [Act.put, List.setIfInBounds_toArray, List.set_cons_zero, List.set_cons_succ, i64_w, i32_w]
    rfl
  refine one_ (i := 7) (N := none) #[true, true, true, true, true, true, true, true, false] rfl rfl (one_of HT_.out (by kernel_rfl)) (by decide) (fun K hK => ?_)
  have q0 : w6.cell? ⟨w.heap.size + 1 + 1, 0, none⟩ = some (.slice none 0 0) := cell_of G2.out 0
  have q1 : w6.cell? ⟨w.heap.size + 1 + 1, 1, none⟩ = some (.int .i64 0) := cell_of G2.out 1
  have q2 : w6.frozen? ⟨w.heap.size + 1 + 1, 0, none⟩ = false := frozen_of G2.out 0
  have q3 : w6.frozen? ⟨w.heap.size + 1 + 1, 1, none⟩ = false := frozen_of G2.out 1
  refine skip_ (w1 := ?_) (by rfl) rfl ?_ ?_
  rotate_left
  · go_simp
    rfl
  have hh6 := fun (g : Nat) (hg : g ≠ w.heap.size + 1 + 1) (u v : Value) => (Below.heap_setCell (w6.setCell ⟨w.heap.size + 1 + 1, 0, none⟩ u) (⟨w.heap.size + 1 + 1, 1, none⟩ : Addr) v g hg).trans (Below.heap_setCell w6 (⟨w.heap.size + 1 + 1, 0, none⟩ : Addr) u g hg)
  refine hK.out _ _ ⟨cell_of ((hh6 _ (by omega) _ _).trans G0.out) 0, cell_of ((hh6 _ (by omega) _ _).trans G0.out) 1, cell_of ((hh6 _ (by omega) _ _).trans G1.out) 1⟩ (fun hHeld7 => ?_)
  clear hK K
  refine pure_ (i := 8) (N := some 7) (v := ?_) (a' := ?_) #[true, true, true, true, true, true, true, true, true] rfl rfl (any_of HT_.out (by kernel_rfl)) (fun _ _ _ h => h) (Or.inl ⟨by rfl, ?_⟩) ?_ ?_
  rotate_left
  · intro w'
    go_simp
    with_reducible rfl
  rotate_left
  · simp only [Act.put, List.setIfInBounds_toArray, List.set_cons_zero, List.set_cons_succ, i64_w, i32_w]
    rfl
  refine done_ (done_of HT_.out (by kernel_rfl)) ?_
  go_wp2
  refine bodyPost_ret (results_ct rfl _ _ (w.heap.size + 1 + 1) 27 #[.slice A3 T.1.length c3, .int .i64 last] (0, 0) _ rfl (setCell_heap (setCell_heap G2.out _) _) Try.underlying27 rfl (by kernel_rfl)) rfl ?_
  have hk7 := fun (u v : Value) => ((Kept.refl w6 (fun k => k = w.heap.size + 1 + 1)).setCell (p := ⟨w.heap.size + 1 + 1, 0, none⟩) (.inl rfl) u).setCell (p := ⟨w.heap.size + 1 + 1, 1, none⟩) (.inl rfl) v
  refine ⟨qf, _, rfl, HT6.out.kept (hk7 _ _) (fun k hk e => hF k (by omega) (hft k hk)) (fun x hx e => by have h1 := HT6.out.q x hx; rw [e, G2.out] at h1; exact absurd (cells_ty h1) (by decide)), ?_, ?_, fun k hk => .inl (hft k hk)⟩
  · exact Kd.R_mono (Kd.R_kept (Kd.R_keptB HRW.out HK6.out (fun k hk => hk.1)) (hk7 _ _) (fun k hk e => by have := hk.1.2; omega)) (fun k hk h => hk.1.1 (hft k h))
  · exact (((Kept.of_below HBW.out _).then_ HK6.out (fun _ h => .inl h)).setCell (p := ⟨w.heap.size + 1 + 1, 0, none⟩) (.inr (by show w.heap.size ≤ w.heap.size + 1 + 1; omega)) _).setCell (p := ⟨w.heap.size + 1 + 1, 1, none⟩) (.inr (by show w.heap.size ≤ w.heap.size + 1 + 1; omega)) _
set_option maxHeartbeats 8000000 in
set_option maxRecDepth 100000 in
theorem does_2 (txn stamp : Int) (htx : (Lit.int .i64 txn).wf = true) (hT : Tab w 0 b m nn pf qf L last) (hR : Kd.R k70 70 w base (fun k => ¬ Foot b m pf L k) (.slice A L.length c) L) (hb : base ≤ w.heap.size) (hl : L.length < 5864062014805) :
    Calls Try.prog 9 #[pt b, .agg #[.slice A L.length c, .int .i64 last], .agg #[.int .i64 2, .int .i64 txn, .int .u64 stamp]] w fun e w' => ∃ qf' v', e = .returned (.tuple #[.agg #[v', .int .i64 last], .bool true]) ∧ Tab w' 0 b m nn pf qf' (turnS L txn 3 stamp (fun x => mayC x.f1 stamp)).1 last ∧ Kd.R k70 70 w' base (fun k => ¬ Foot b m pf (turnS L txn 3 stamp (fun x => mayC x.f1 stamp)).1 k) v' (turnS L txn 3 stamp (fun x => mayC x.f1 stamp)).1 ∧ Turns w w' (Foot b m pf L) (Foot b m pf (turnS L txn 3 stamp (fun x => mayC x.f1 stamp)).1) := by
  have hlt := fun k (h : Foot b m pf L k) => hT.lt h
  have hF : ∀ j, w.heap.size ≤ j → ¬ Foot b m pf L j := fun j hj h => by have := hlt j h; omega
  generalize hw2 : ((w.alloc (.cells #[.slice A L.length c, .int .i64 last] 27)).alloc (.cells #[.int .i64 2, .int .i64 txn, .int .u64 stamp] 37)).alloc (.cells #[.slice none 0 0, .int .i64 0] 27) = w2
  have b0 : w2.heap[w.heap.size]? = some (.cells #[.slice A L.length c, .int .i64 last] 27) := by rw [← hw2]; exact heap_old (heap_old (heap_new _ _))
  have b1 : w2.heap[w.heap.size + 1]? = some (.cells #[.int .i64 2, .int .i64 txn, .int .u64 stamp] 37) := by rw [← hw2]; have := heap_new (w.alloc (.cells #[.slice A L.length c, .int .i64 last] 27)) (.cells #[.int .i64 2, .int .i64 txn, .int .u64 stamp] 37); rw [size_new] at this; exact heap_old this
  have b2 : w2.heap[w.heap.size + 1 + 1]? = some (.cells #[.slice none 0 0, .int .i64 0] 27) := by rw [← hw2]; have := heap_new ((w.alloc (.cells #[.slice A L.length c, .int .i64 last] 27)).alloc (.cells #[.int .i64 2, .int .i64 txn, .int .u64 stamp] 37)) (.cells #[.slice none 0 0, .int .i64 0] 27); rw [size_new, size_new] at this; exact this
  have hB2 : Below w.heap.size w w2 := by rw [← hw2]; exact below_alloc (below_alloc (below_alloc (Below.refl _ _) _) _) _
  have hz2 : w2.heap.size = w.heap.size + 3 := by rw [← hw2, size_new, size_new, size_new]
  have hC2 := Kd.C_below (Kd.R_reads' hR).2.2 hB2
  have hcl := (Kd.R_reads' hR).2.1
  have HB2 := Aside0.mk hB2
  have HW := Aside0.mk hw2
  have HR2 := Aside0.mk (Kd.R_below (Kd.R_mono (Kd.R_bound hR) (ok' := fun k => ¬ Foot b m pf L k ∧ (k < w.heap.size ∨ w.heap.size + 3 ≤ k)) (fun k hk => ⟨hk.1, .inl hk.2.2.1⟩)) hB2)
  have HTw := Aside0.mk hT
  have n0 : (w.heap.size = w.heap.size + 1 + 1) = False := eq_false (by omega)
  have n1 : (w.heap.size + 1 = w.heap.size + 1 + 1) = False := eq_false (by omega)
  have n2 : (w.heap.size + 1 + 1 = w.heap.size) = False := eq_false (by omega)
  have n3 : (w.heap.size + 1 + 1 = w.heap.size + 1) = False := eq_false (by omega)
  have n4 : (w.heap.size + 1 = w.heap.size) = False := eq_false (by omega)
  have n5 : (w.heap.size = w.heap.size + 1) = False := eq_false (by omega)
  have hcall := rCommit (n := txn) (last := last) stamp hT.st hC2 hcl hl
  have htab := fun W (h : Tab W 0 b m nn pf qf L last) => Commit_any stamp h htx
  have hft : ∀ k, Foot b m pf (turnS L txn 3 stamp (fun x => mayC x.f1 stamp)).1 k → Foot b m pf L k := fun k h => foot_turn h
  generalize turnS L txn 3 stamp (fun x => mayC x.f1 stamp) = T at hcall htab hft ⊢
  clear hC2 hB2 hR hT hw2
  go_enter Try.func9, Try.ntmps9
  go_wp2_with (go_at_call 23; rw [HW.out]; refine hcall.mono ?_; rintro e w3 ⟨v', rfl, hRO, hB3⟩; have HR3 := Aside0.mk (hRO.row HR2.out hB3 (by omega) (fun k hk => ⟨hF k (by omega), .inr (by omega)⟩)); obtain ⟨A3, c3, rfl⟩ := Kd.R_slice HR3.out; have D0 := Aside0.mk ((hB3.block _ (lt_of b0)).trans b0); have D1 := Aside0.mk ((hB3.block _ (lt_of b1)).trans b1); have D2 := Aside0.mk ((hB3.block _ (lt_of b2)).trans b2); have c0 : w3.cell? ⟨w.heap.size, 0, none⟩ = some (.slice A L.length c) := cell_of D0.out 0; have c1 : w3.cell? ⟨w.heap.size, 1, none⟩ = some (.int .i64 last) := cell_of D0.out 1; have f0 : w3.frozen? ⟨w.heap.size, 0, none⟩ = false := frozen_of D0.out 0; have f1 : w3.frozen? ⟨w.heap.size, 1, none⟩ = false := frozen_of D0.out 1; have HB3 := Aside0.mk (below_step HB2.out hB3); clear hB3 hRO)
  obtain ⟨W, hW⟩ : ∃ W, W = ((w3.setCell ⟨w.heap.size, 0, none⟩ (.slice A3 T.1.length c3)).setCell ⟨w.heap.size, 1, none⟩ (.int .i64 last)).drew := ⟨_, rfl⟩
  have E0 : Aside0 (W.heap[w.heap.size]? = some (.cells #[.slice A3 T.1.length c3, .int .i64 last] 27)) := ⟨by rw [hW]; exact setCell_heap (setCell_heap D0.out _) _⟩
  have E1 : Aside0 (W.heap[w.heap.size + 1]? = some (.cells #[.int .i64 2, .int .i64 txn, .int .u64 stamp] 37)) := ⟨by rw [hW]; exact (Below.heap_setCell _ _ _ _ (show w.heap.size + 1 ≠ w.heap.size by omega)).trans ((Below.heap_setCell _ _ _ _ (show w.heap.size + 1 ≠ w.heap.size by omega)).trans D1.out)⟩
  have E2 : Aside0 (W.heap[w.heap.size + 1 + 1]? = some (.cells #[.slice none 0 0, .int .i64 0] 27)) := ⟨by rw [hW]; exact (Below.heap_setCell _ _ _ _ (show w.heap.size + 1 + 1 ≠ w.heap.size by omega)).trans ((Below.heap_setCell _ _ _ _ (show w.heap.size + 1 + 1 ≠ w.heap.size by omega)).trans D2.out)⟩
  have HBW : Aside0 (Below w.heap.size w W) := ⟨by rw [hW]; exact below_drew1 ((HB3.out.setCell (p := ⟨w.heap.size, 0, none⟩) (Nat.le_refl _) _).setCell (p := ⟨w.heap.size, 1, none⟩) (Nat.le_refl _) _)⟩
  have HRW : Aside0 (Kd.R k70 70 W base (fun k => ¬ Foot b m pf L k ∧ (k < w.heap.size ∨ w.heap.size + 3 ≤ k)) (.slice A3 T.1.length c3) T.1) := ⟨by rw [hW]; exact Kd.R_drew (Kd.R_far (Kd.R_far HR3.out (p := ⟨w.heap.size, 0, none⟩) (fun k hk => by have := hk.2; show k ≠ w.heap.size; omega) _) (p := ⟨w.heap.size, 1, none⟩) (fun k hk => by have := hk.2; show k ≠ w.heap.size; omega) _)⟩
  refine start_ (n := 11) (S := fun w' => w'.cell? ⟨w.heap.size, 0, none⟩ = some (.slice A3 T.1.length c3) ∧ w'.cell? ⟨w.heap.size, 1, none⟩ = some (.int .i64 last) ∧ w'.cell? ⟨w.heap.size + 1, 1, none⟩ = some (.int .i64 txn) ∧ w'.cell? ⟨w.heap.size + 1, 2, none⟩ = some (.int .u64 stamp)) (ds := []) #[false, false, false, false, false, false, false, false, false, false, false] (by kernel_rfl) rfl rfl (by rw [← hW]; exact ⟨cell_of E0.out 0, cell_of E0.out 1, cell_of E1.out 1, cell_of E1.out 2⟩) (fun hHeld => ?_); refine with_tab tab9_13 (fun HT_ => ?_)
  rw [← hW] at hHeld ⊢
  clear hW c0 c1 f0 f1
  refine pure_ (i := 1) (N := some 64) (v := ?_) (a' := ?_) #[false, true, false, false, false, false, false, false, false, false, false] rfl rfl (any_of HT_.out (by kernel_rfl)) (fun _ _ _ h => h) (Or.inl ⟨by rfl, ?_⟩) ?_ ?_
  rotate_left
  · intro w'
    go_simp
    with_reducible rfl
  rotate_left
  · simp only [Act.put, List.setIfInBounds_toArray, List.set_cons_zero, List.set_cons_succ, i64_w, i32_w]
    rfl
  refine pure_ (i := 2) (N := some 65) (v := ?_) (a' := ?_) #[false, true, true, false, false, false, false, false, false, false, false] rfl rfl (any_of HT_.out (by kernel_rfl)) (fun _ _ _ h => h) (Or.inl ⟨by rfl, ?_⟩) ?_ ?_
  rotate_left
  · intro w'
    go_simp
    with_reducible rfl
  rotate_left
  · simp only [Act.put, List.setIfInBounds_toArray, List.set_cons_zero, List.set_cons_succ, i64_w, i32_w]
    rfl
  refine pure_ (i := 4) (N := some 67) (v := ?_) (a' := ?_) #[false, true, true, false, true, false, false, false, false, false, false] rfl rfl (any_of HT_.out (by kernel_rfl)) (fun _ _ _ h => h) (Or.inl ⟨by rfl, ?_⟩) ?_ ?_
  rotate_left
  · intro w'
    go_simp
    with_reducible rfl
  rotate_left
  · simp only [Act.put, List.setIfInBounds_toArray, List.set_cons_zero, List.set_cons_succ, i64_w, i32_w]
    rfl
  refine pure_ (i := 7) (N := some 70) (v := ?_) (a' := ?_) #[false, true, true, false, true, false, false, true, false, false, false] rfl rfl (any_of HT_.out (by kernel_rfl)) (fun _ _ _ h => h) (Or.inl ⟨by rfl, ?_⟩) ?_ ?_
  rotate_left
  · intro w'
    go_simp
    with_reducible rfl
  rotate_left
  · simp only [Act.put, List.setIfInBounds_toArray, List.set_cons_zero, List.set_cons_succ, i64_w, i32_w]
    rfl
  refine take_ (i := 0) (N := some 63) (v := ?_) (a' := ?_) #[true, true, true, false, true, false, false, true, false, false, false] rfl rfl (take_of HT_.out (by kernel_rfl)) (fun _ _ _ h => h) (Or.inl ⟨by rfl, ?_⟩) hHeld ?_ ?_
  rotate_left
  · rintro w' ⟨s0, s1, s2, s3⟩
    go_simp
    with_reducible rfl
  rotate_left
  · simp only [Act.put, List.setIfInBounds_toArray, List.set_cons_zero, List.set_cons_succ, i64_w, i32_w]
    rfl
  refine take_ (i := 3) (N := some 66) (v := ?_) (a' := ?_) #[true, true, true, true, true, false, false, true, false, false, false] rfl rfl (take_of HT_.out (by kernel_rfl)) (fun _ _ _ h => h) (Or.inl ⟨by rfl, ?_⟩) hHeld ?_ ?_
  rotate_left
  · rintro w' ⟨s0, s1, s2, s3⟩
    go_simp
    with_reducible rfl
  rotate_left
  · simp only [Act.put, List.setIfInBounds_toArray, List.set_cons_zero, List.set_cons_succ, i64_w, i32_w]
    rfl
  refine take_ (i := 5) (N := some 68) (v := ?_) (a' := ?_) #[true, true, true, true, true, true, false, true, false, false, false] rfl rfl (take_of HT_.out (by kernel_rfl)) (fun _ _ _ h => h) (Or.inl ⟨by rfl, ?_⟩) hHeld ?_ ?_
  rotate_left
  · rintro w' ⟨s0, s1, s2, s3⟩
    go_simp
    with_reducible rfl
  rotate_left
  · simp only [Act.put, List.setIfInBounds_toArray, List.set_cons_zero, List.set_cons_succ, i64_w, i32_w]
    rfl
  refine one_ (i := 6) (N := some 69) #[true, true, true, true, true, true, true, true, false, false, false] rfl rfl (one_of HT_.out (by kernel_rfl)) (by decide) (fun K hK => ?_)
  refine goes_ Try.func24 (by kernel_rfl) rfl #[pt b, .int .i64 txn, .int .u64 stamp] (by rfl) rfl rfl (by (try simp only [List.map_toArray, List.map_cons, List.map_nil]); first | done | rfl) ?_
  refine (htab _ (HTw.out.below HBW.out)).mono ?_
  rintro e w6 ⟨qf', rfl, hT6, hK6⟩
  refine ⟨_, rfl, ?_⟩
  have HT6 := Aside0.mk hT6
  have HK6 := Aside0.mk hK6
  clear hT6 hK6
  have G0 := Aside0.mk (blk_kept E0.out HK6.out (hF _ (Nat.le_refl _)))
  have G1 := Aside0.mk (blk_kept E1.out HK6.out (hF _ (by omega)))
  have G2 := Aside0.mk (blk_kept E2.out HK6.out (hF _ (by omega)))
  refine hK.out _ _ ⟨cell_of G0.out 0, cell_of G0.out 1, cell_of G1.out 1, cell_of G1.out 2⟩ (fun hHeld6 => ?_)
  clear hK K
  refine norm_ (a' := ?_) ?_ ?_
  rotate_left
  · show Act.put _ (some 69) _ = _
    simp only [Act.put, List.setIfInBounds_toArray, List.set_cons_zero, List.set_cons_succ, i64_w, i32_w]
    rfl
  refine pure_ (i := 8) (N := some 71) (v := ?_) (a' := ?_) #[true, true, true, true, true, true, true, true, true, false, false] rfl rfl (any_of HT_.out (by kernel_rfl)) (fun _ _ _ h => h) (Or.inl ⟨by rfl, ?_⟩) ?_ ?_
  rotate_left
  · intro w'
    go_simp
    with_reducible rfl
  rotate_left
  · simp only [Act.put, List.setIfInBounds_toArray, List.set_cons_zero, List.set_cons_succ, i64_w, i32_w]
    rfl
  refine one_ (i := 9) (N := none) #[true, true, true, true, true, true, true, true, true, true, false] rfl rfl (one_of HT_.out (by kernel_rfl)) (by decide) (fun K hK => ?_)
  have q0 : w6.cell? ⟨w.heap.size + 1 + 1, 0, none⟩ = some (.slice none 0 0) := cell_of G2.out 0
  have q1 : w6.cell? ⟨w.heap.size + 1 + 1, 1, none⟩ = some (.int .i64 0) := cell_of G2.out 1
  have q2 : w6.frozen? ⟨w.heap.size + 1 + 1, 0, none⟩ = false := frozen_of G2.out 0
  have q3 : w6.frozen? ⟨w.heap.size + 1 + 1, 1, none⟩ = false := frozen_of G2.out 1
  refine skip_ (w1 := ?_) (by rfl) rfl ?_ ?_
  rotate_left
  · go_simp
    rfl
  have hh6 := fun (g : Nat) (hg : g ≠ w.heap.size + 1 + 1) (u v : Value) => (Below.heap_setCell (w6.setCell ⟨w.heap.size + 1 + 1, 0, none⟩ u) (⟨w.heap.size + 1 + 1, 1, none⟩ : Addr) v g hg).trans (Below.heap_setCell w6 (⟨w.heap.size + 1 + 1, 0, none⟩ : Addr) u g hg)
  refine hK.out _ _ ⟨cell_of ((hh6 _ (by omega) _ _).trans G0.out) 0, cell_of ((hh6 _ (by omega) _ _).trans G0.out) 1, cell_of ((hh6 _ (by omega) _ _).trans G1.out) 1, cell_of ((hh6 _ (by omega) _ _).trans G1.out) 2⟩ (fun hHeld7 => ?_)
  clear hK K
  refine pure_ (i := 10) (N := some 7) (v := ?_) (a' := ?_) #[true, true, true, true, true, true, true, true, true, true, true] rfl rfl (any_of HT_.out (by kernel_rfl)) (fun _ _ _ h => h) (Or.inl ⟨by rfl, ?_⟩) ?_ ?_
  rotate_left
  · intro w'
    go_simp
    with_reducible rfl
  rotate_left
  · simp only [Act.put, List.setIfInBounds_toArray, List.set_cons_zero, List.set_cons_succ, i64_w, i32_w]
    rfl
  refine done_ (done_of HT_.out (by kernel_rfl)) ?_
  go_wp2
  refine bodyPost_ret (results_ct rfl _ _ (w.heap.size + 1 + 1) 27 #[.slice A3 T.1.length c3, .int .i64 last] (0, 0) _ rfl (setCell_heap (setCell_heap G2.out _) _) Try.underlying27 rfl (by kernel_rfl)) rfl ?_
  have hk7 := fun (u v : Value) => ((Kept.refl w6 (fun k => k = w.heap.size + 1 + 1)).setCell (p := ⟨w.heap.size + 1 + 1, 0, none⟩) (.inl rfl) u).setCell (p := ⟨w.heap.size + 1 + 1, 1, none⟩) (.inl rfl) v
  refine ⟨qf', _, rfl, HT6.out.kept (hk7 _ _) (fun k hk e => hF k (by omega) (hft k hk)) (fun x hx e => by have h1 := HT6.out.q x hx; rw [e, G2.out] at h1; exact absurd (cells_ty h1) (by decide)), ?_, ?_, fun k hk => .inl (hft k hk)⟩
  · exact Kd.R_mono (Kd.R_kept (Kd.R_keptB HRW.out HK6.out (fun k hk => hk.1)) (hk7 _ _) (fun k hk e => by have := hk.1.2; omega)) (fun k hk h => hk.1.1 (hft k h))
  · exact (((Kept.of_below HBW.out _).then_ HK6.out (fun _ h => .inl h)).setCell (p := ⟨w.heap.size + 1 + 1, 0, none⟩) (.inr (by show w.heap.size ≤ w.heap.size + 1 + 1; omega)) _).setCell (p := ⟨w.heap.size + 1 + 1, 1, none⟩) (.inr (by show w.heap.size ≤ w.heap.size + 1 + 1; omega)) _
end
end Go.Proofs.Ytckeelbodieblaa.St
