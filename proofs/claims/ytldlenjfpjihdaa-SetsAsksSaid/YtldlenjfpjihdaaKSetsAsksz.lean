/- SetsAsks: the law returns true at every input, and its arguments read as before. Conditions: as the row has them. -/
import Derived.Test.YtldlenjfpjihdaaKSetsAsks4
section
namespace Go.Proofs.Ytldlenjfpjihdaa.PS
open Go Go.RowKit Go.Proofs Go.Maps Go.Proofs.YtldlenjfpjihdaaW.PrintWords Go.Proofs.YtldlenjfpjihdaaW.PrintLast Go.Proofs.YtldlenjfpjihdaaW.PrintMore
set_option linter.unusedVariables false
set_option linter.unusedSimpArgs false
def T8_1 : Bool × List (List Nat × List Nat) := (true, [([], []), ([0], [0]), ([1], [1]), ([], []), ([3], [3]), ([4, 2], [4]), ([2, 5, 0, 1, 2], [2]), ([5, 6, 0, 1, 2, 3, 4, 5, 6], [5])])
theorem tab8_1 : rtab .any (opsOf Try.f8 1) = T8_1 := by kernel_rfl
def T8_3 : Bool × List (List Nat × List Nat) := (true, [([], []), ([0], [0]), ([1], [1]), ([], []), ([3], [3]), ([4], [4]), ([2, 5], [2, 5]), ([6, 6, 0, 1, 2, 3, 4, 5, 6], [6])])
theorem tab8_3 : rtab .any (opsOf Try.f8 3) = T8_3 := by kernel_rfl
def bothSS (ws qs : List S27) : Option S27 := leastS (ws.filter (fun p => qs.any (eqP p) && p.f1 == -1))
theorem bothP_cons (x y : S27) (a b : List S27) : bothP (x :: a) (y :: b) = if x = y ∧ x.f1 = -1 then some x else if ltP y x then bothP (x :: a) b else bothP a (y :: b) := by
  conv => lhs; unfold bothP
set_option maxHeartbeats 8000000 in
set_option maxRecDepth 100000 in
theorem rboth_any (ws qs : List S27) (A0 A1 A2 B0 B1 B2 : Option Addr) (n0 n1_ m0 m1 c0 c1 c2 d0 d1 d2 : Nat) (w : World) (h0 : Kd.C k27 w A2 ws.length ws) (hc0 : ws.length ≤ c2) (h2 : Kd.C k27 w B2 qs.length qs) (hd2 : qs.length ≤ d2)
    (hl0 : ws.length < 4398046511104) (hl1 : qs.length < 4398046511104) :
    Calls Try.prog 8 #[.agg #[.slice A0 n0 c0, .slice A1 n1_ c1, .slice A2 ws.length c2], .agg #[.slice B0 m0 d0, .slice B1 m1 d1, .slice B2 qs.length d2]] w fun e w' => e = .returned (.tuple #[pv ((bothSS ws qs).getD zP), .bool (bothSS ws qs).isSome]) ∧ Below w.heap.size w w' := by
  generalize hW : ((w.alloc (.cells #[.slice A0 n0 c0, .slice A1 n1_ c1, .slice A2 ws.length c2] 25)).alloc (.cells #[.slice B0 m0 d0, .slice B1 m1 d1, .slice B2 qs.length d2] 25)).alloc (pO zP) = w1
  have hB1 : Below w.heap.size w w1 := by rw [← hW]; exact below_alloc (below_alloc (below_alloc (Below.refl _ _) _) _) _
  have b0 : w1.heap[w.heap.size]? = some (.cells #[.slice A0 n0 c0, .slice A1 n1_ c1, .slice A2 ws.length c2] 25) := by rw [← hW]; exact heap_old (heap_old (heap_new _ _))
  have b1 : w1.heap[w.heap.size + 1]? = some (.cells #[.slice B0 m0 d0, .slice B1 m1 d1, .slice B2 qs.length d2] 25) := by rw [← hW]; have := heap_new (w.alloc (.cells #[.slice A0 n0 c0, .slice A1 n1_ c1, .slice A2 ws.length c2] 25)) (.cells #[.slice B0 m0 d0, .slice B1 m1 d1, .slice B2 qs.length d2] 25); rw [size_new] at this; exact heap_old this
  have b2 : w1.heap[w.heap.size + 1 + 1]? = some (pO zP) := by rw [← hW]; have := heap_new ((w.alloc (.cells #[.slice A0 n0 c0, .slice A1 n1_ c1, .slice A2 ws.length c2] 25)).alloc (.cells #[.slice B0 m0 d0, .slice B1 m1 d1, .slice B2 qs.length d2] 25)) (pO zP); rw [size_new, size_new] at this; exact this
  have HC0 := Aside0.mk (Kd.C_below h0 hB1)
  have HC2 := Aside0.mk (Kd.C_below h2 hB1)
  have HB1 := Aside0.mk hB1
  have HW := Aside0.mk hW
  have D0 := Aside0.mk b0
  have D1 := Aside0.mk b1
  have D2 := Aside0.mk b2
  unfold pO zP at hW
  have HW := Aside0.mk hW
  clear h0 h2 hB1 hW b0 b1 b2
  go_enter Try.func8, Try.ntmps8
  go_wp2
  rw [HW.out]
  clear HW
  have m0_ : w1.cell? ⟨w.heap.size, 2, none⟩ = some (.slice A2 ws.length c2) := cell_of D0.out 2
  have m1_ : w1.cell? ⟨w.heap.size + 1, 2, none⟩ = some (.slice B2 qs.length d2) := cell_of D1.out 2
  refine start_ (n := 8) (S := fun w' => w'.cell? ⟨w.heap.size, 2, none⟩ = some (.slice A2 ws.length c2) ∧ w'.cell? ⟨w.heap.size + 1, 2, none⟩ = some (.slice B2 qs.length d2)) (ds := []) #[false, false, false, false, false, false, false, false] (by kernel_rfl) rfl rfl ⟨m0_, m1_⟩ (fun hHeld => ?_); refine with_tab tab8_1 (fun HT_ => ?_)
  have HB2 := Aside0.mk (below_drew1 (Below.refl w1.heap.size w1))
  generalize w1.drew = w2 at HB2 hHeld ⊢
  clear m0_ m1_
  refine pure_ (i := 0) (N := some 9) (v := ?_) (a' := ?_) #[true, false, false, false, false, false, false, false] rfl rfl (any_of HT_.out (by kernel_rfl)) (fun _ _ _ h => h) (Or.inl ⟨by rfl, ?_⟩) ?_ ?_
  rotate_left
  · intro w'
    go_simp
    with_reducible rfl
  rotate_left
  · simp only [Act.put, List.setIfInBounds_toArray, List.set_cons_zero, List.set_cons_succ, i64_w, i32_w]
    rfl
  refine pure_ (i := 3) (N := some 12) (v := ?_) (a' := ?_) #[true, false, false, true, false, false, false, false] rfl rfl (any_of HT_.out (by kernel_rfl)) (fun _ _ _ h => h) (Or.inl ⟨by rfl, ?_⟩) ?_ ?_
  rotate_left
  · intro w'
    go_simp
    with_reducible rfl
  rotate_left
  · simp only [Act.put, List.setIfInBounds_toArray, List.set_cons_zero, List.set_cons_succ, i64_w, i32_w]
    rfl
  refine take_ (i := 1) (N := some 10) (v := ?_) (a' := ?_) #[true, true, false, true, false, false, false, false] rfl rfl (take_of HT_.out (by kernel_rfl)) (fun _ _ _ h => h) (Or.inl ⟨by rfl, ?_⟩) hHeld ?_ ?_
  rotate_left
  · rintro w' ⟨s0, s1⟩
    go_simp
    with_reducible rfl
  rotate_left
  · simp only [Act.put, List.setIfInBounds_toArray, List.set_cons_zero, List.set_cons_succ, i64_w, i32_w]
    rfl
  refine take_ (i := 4) (N := some 13) (v := ?_) (a' := ?_) #[true, true, false, true, true, false, false, false] rfl rfl (take_of HT_.out (by kernel_rfl)) (fun _ _ _ h => h) (Or.inl ⟨by rfl, ?_⟩) hHeld ?_ ?_
  rotate_left
  · rintro w' ⟨s0, s1⟩
    go_simp
    with_reducible rfl
  rotate_left
  · simp only [Act.put, List.setIfInBounds_toArray, List.set_cons_zero, List.set_cons_succ, i64_w, i32_w]
    rfl
  refine one_ (i := 2) (N := some 11) #[true, true, true, true, true, false, false, false] rfl rfl (one_of HT_.out (by kernel_rfl)) (by decide) (fun K hK => ?_)
  refine goes_ Try.func20 (by kernel_rfl) rfl #[.slice A2 ws.length c2] (by rfl) rfl rfl (by (try simp only [List.map_toArray, List.map_cons, List.map_nil]); first | done | rfl) ?_
  refine (sorted_any ws.length ws A2 c2 w2 rfl (Kd.C_below HC0.out HB2.out) hc0 hl0).mono ?_
  rintro e w3 ⟨A3, c3, x, rfl, hc3, hs3, hC3, hb⟩
  refine ⟨_, rfl, ?_⟩
  have HB3 := Aside0.mk (below_step HB2.out hb); have HS3 := Aside0.mk hs3; have HC3 := Aside0.mk hC3; clear hb hs3 hC3
  refine hK.out _ _ ⟨(HB3.out.cell (World.block_lt_of_cell? _ _ (cell_of D0.out 2 : w1.cell? ⟨w.heap.size, 2, none⟩ = some (.slice A2 ws.length c2)))).trans (cell_of D0.out 2), (HB3.out.cell (World.block_lt_of_cell? _ _ (cell_of D1.out 2 : w1.cell? ⟨w.heap.size + 1, 2, none⟩ = some (.slice B2 qs.length d2)))).trans (cell_of D1.out 2)⟩ (fun hHeld => ?_)
  clear hK K
  refine norm_ (a' := ?_) ?_ ?_
  rotate_left
  · show Act.put _ (some 11) _ = _
    simp only [Act.put, List.setIfInBounds_toArray, List.set_cons_zero, List.set_cons_succ, i64_w, i32_w]
    rfl
  refine one_ (i := 5) (N := some 14) #[true, true, true, true, true, true, false, false] rfl rfl (one_of HT_.out (by kernel_rfl)) (by decide) (fun K hK => ?_)
  refine goes_ Try.func20 (by kernel_rfl) rfl #[.slice B2 qs.length d2] (by rfl) rfl rfl (by (try simp only [List.map_toArray, List.map_cons, List.map_nil]); first | done | rfl) ?_
  refine (sorted_any qs.length qs B2 d2 w3 rfl (Kd.C_below HC2.out HB3.out) hd2 hl1).mono ?_
  rintro e w4 ⟨A4, c4, y, rfl, hc4, hs4, hC4, hb⟩
  refine ⟨_, rfl, ?_⟩
  have HC3' := Aside0.mk (Kd.C_below HC3.out hb); have HB4 := Aside0.mk (below_step HB3.out hb); have HS4 := Aside0.mk hs4; have HC4 := Aside0.mk hC4; clear hb hs4 hC4
  refine hK.out _ _ ⟨(HB4.out.cell (World.block_lt_of_cell? _ _ (cell_of D0.out 2 : w1.cell? ⟨w.heap.size, 2, none⟩ = some (.slice A2 ws.length c2)))).trans (cell_of D0.out 2), (HB4.out.cell (World.block_lt_of_cell? _ _ (cell_of D1.out 2 : w1.cell? ⟨w.heap.size + 1, 2, none⟩ = some (.slice B2 qs.length d2)))).trans (cell_of D1.out 2)⟩ (fun hHeld => ?_)
  clear hK K
  refine norm_ (a' := ?_) ?_ ?_
  rotate_left
  · show Act.put _ (some 14) _ = _
    simp only [Act.put, List.setIfInBounds_toArray, List.set_cons_zero, List.set_cons_succ, i64_w, i32_w]
    rfl
  refine pure_ (i := 6) (N := some 6) (v := ?_) (a' := ?_) #[true, true, true, true, true, true, true, false] rfl rfl (any_of HT_.out (by kernel_rfl)) (fun _ _ _ h => h) (Or.inl ⟨by rfl, ?_⟩) ?_ ?_
  rotate_left
  · intro w'
    go_simp
    with_reducible rfl
  rotate_left
  · simp only [Act.put, List.setIfInBounds_toArray, List.set_cons_zero, List.set_cons_succ, i64_w, i32_w]
    rfl
  refine pure_ (i := 7) (N := some 7) (v := ?_) (a' := ?_) #[true, true, true, true, true, true, true, true] rfl rfl (any_of HT_.out (by kernel_rfl)) (fun _ _ _ h => h) (Or.inl ⟨by rfl, ?_⟩) ?_ ?_
  rotate_left
  · intro w'
    go_simp
    with_reducible rfl
  rotate_left
  · simp only [Act.put, List.setIfInBounds_toArray, List.set_cons_zero, List.set_cons_succ, i64_w, i32_w]
    rfl
  refine done_ (done_of HT_.out (by kernel_rfl)) ?_
  have hbs : bothSS ws qs = bothP x y := both_least HS3.out HS4.out
  have HBs := Aside0.mk hbs; clear hbs
  have D2' := Aside0.mk ((HB4.out.block _ (lt_of D2.out)).trans D2.out)
  clear hHeld HT_ HC3
  have hlx := HS3.out.2.2; have hly := HS4.out.2.2
  go_wp2
  go_loopg [6, 7] (x.length + y.length) (fun gg s6 s7 wr => ∃ (a b : List S27) (Aa Ab : Option Addr) (ca cb : Nat), s6 = .slice Aa a.length ca ∧ s7 = .slice Ab b.length cb ∧ a.length ≤ ca ∧ b.length ≤ cb ∧ Aside0 (a.length + b.length ≤ gg) ∧ Aside0 (bothP x y = bothP a b) ∧ Aside0 (a.length ≤ x.length ∧ b.length ≤ y.length) ∧ Aside0 (Kd.C k27 w4 Aa a.length a) ∧ Aside0 (Kd.C k27 w4 Ab b.length b) ∧ Aside0 (Below w4.heap.size w4 wr))
  case atStart => exact ⟨x, y, A3, A4, c3, c4, rfl, rfl, hc3, hc4, ⟨Nat.le_refl _⟩, ⟨rfl⟩, ⟨Nat.le_refl _, Nat.le_refl _⟩, ⟨HC3'.out⟩, ⟨HC4.out⟩, ⟨Below.refl _ _⟩⟩
  case round =>
    obtain ⟨a, b, Aa, Ab, ca, cb, rfl, rfl, hca, hcb, HM, HEq, HLen, HCa, HCb, HBr⟩ := hrel
    cases a with
    | nil =>
      have hq : bothSS ws qs = none := by rw [HBs.out, HEq.out, bothP_nil2]
      have HQ := Aside0.mk hq; clear hq
      have DD := Aside0.mk ((HBr.out.block _ (lt_of D2'.out)).trans D2'.out)
      have j0 : wr.cell? ⟨w.heap.size + 1 + 1, 0, none⟩ = some (.int .i64 0) := cell_of DD.out 0
      have j1 : wr.cell? ⟨w.heap.size + 1 + 1, 1, none⟩ = some (.int .i64 0) := cell_of DD.out 1
      have j2 : wr.cell? ⟨w.heap.size + 1 + 1, 2, none⟩ = some (.string ⟨#[]⟩) := cell_of DD.out 2
      have k3 : wr.frozen? ⟨w.heap.size + 1 + 1, 0, none⟩ = false := frozen_of DD.out 0
      have k4 : wr.frozen? ⟨w.heap.size + 1 + 1, 1, none⟩ = false := frozen_of DD.out 1
      have k5 : wr.frozen? ⟨w.heap.size + 1 + 1, 2, none⟩ = false := frozen_of DD.out 2
      go_wp2
      skip
      refine bodyPost_ret (results_ct rfl _ _ (w.heap.size + 1 + 1) 27 #[.int .i64 zP.f0, .int .i64 zP.f1, .string zP.f2] (0, 0) _ rfl (setCell_heap (setCell_heap (setCell_heap DD.out _) _) _) Try.underlying27 rfl (by kernel_rfl)) rfl ?_
      rw [HQ.out]
      exact ⟨rfl, (((below_step HB1.out (below_step HB4.out HBr.out)).setCell (p := ⟨w.heap.size + 1 + 1, 0, none⟩) (by show w.heap.size ≤ w.heap.size + 1 + 1; omega) _).setCell (p := ⟨w.heap.size + 1 + 1, 1, none⟩) (by show w.heap.size ≤ w.heap.size + 1 + 1; omega) _).setCell (p := ⟨w.heap.size + 1 + 1, 2, none⟩) (by show w.heap.size ≤ w.heap.size + 1 + 1; omega) _⟩
    | cons x' a =>
      cases b with
      | nil =>
        have hq : bothSS ws qs = none := by rw [HBs.out, HEq.out, bothP_nil]
        have HQ := Aside0.mk hq; clear hq
        have hlc : (((x' :: a).length : Nat) : Int) > 0 := by simp only [List.length_cons]; omega
        generalize hbl : (x' :: a).length = na at *
        have HBl := Aside0.mk hbl; clear hbl
        have DD := Aside0.mk ((HBr.out.block _ (lt_of D2'.out)).trans D2'.out)
        have j0 : wr.cell? ⟨w.heap.size + 1 + 1, 0, none⟩ = some (.int .i64 0) := cell_of DD.out 0
        have j1 : wr.cell? ⟨w.heap.size + 1 + 1, 1, none⟩ = some (.int .i64 0) := cell_of DD.out 1
        have j2 : wr.cell? ⟨w.heap.size + 1 + 1, 2, none⟩ = some (.string ⟨#[]⟩) := cell_of DD.out 2
        have k3 : wr.frozen? ⟨w.heap.size + 1 + 1, 0, none⟩ = false := frozen_of DD.out 0
        have k4 : wr.frozen? ⟨w.heap.size + 1 + 1, 1, none⟩ = false := frozen_of DD.out 1
        have k5 : wr.frozen? ⟨w.heap.size + 1 + 1, 2, none⟩ = false := frozen_of DD.out 2
        go_wp2
        refine bodyPost_ret (results_ct rfl _ _ (w.heap.size + 1 + 1) 27 #[.int .i64 zP.f0, .int .i64 zP.f1, .string zP.f2] (0, 0) _ rfl (setCell_heap (setCell_heap (setCell_heap DD.out _) _) _) Try.underlying27 rfl (by kernel_rfl)) rfl ?_
        rw [HQ.out]
        exact ⟨rfl, (((below_step HB1.out (below_step HB4.out HBr.out)).setCell (p := ⟨w.heap.size + 1 + 1, 0, none⟩) (by show w.heap.size ≤ w.heap.size + 1 + 1; omega) _).setCell (p := ⟨w.heap.size + 1 + 1, 1, none⟩) (by show w.heap.size ≤ w.heap.size + 1 + 1; omega) _).setCell (p := ⟨w.heap.size + 1 + 1, 2, none⟩) (by show w.heap.size ≤ w.heap.size + 1 + 1; omega) _⟩
      | cons y' b =>
        obtain ⟨adx, ea, x0, x1, x2⟩ := at_T27 HCa.out 0 (by decide) (by simp only [List.length_cons]; omega)
        subst ea
        rw [show rd_T27 (x' :: a) 0 = x' from rfl] at x0 x1 x2
        simp only [Int.toNat_zero, Nat.zero_mul, add_zero_] at x0 x1 x2
        replace x0 := (HBr.out.cell (World.block_lt_of_cell? _ _ x0)).trans x0
        replace x1 := (HBr.out.cell (World.block_lt_of_cell? _ _ x1)).trans x1
        replace x2 := (HBr.out.cell (World.block_lt_of_cell? _ _ x2)).trans x2
        obtain ⟨ady, ea, y0, y1, y2⟩ := at_T27 HCb.out 0 (by decide) (by simp only [List.length_cons]; omega)
        subst ea
        rw [show rd_T27 (y' :: b) 0 = y' from rfl] at y0 y1 y2
        simp only [Int.toNat_zero, Nat.zero_mul, add_zero_] at y0 y1 y2
        replace y0 := (HBr.out.cell (World.block_lt_of_cell? _ _ y0)).trans y0
        replace y1 := (HBr.out.cell (World.block_lt_of_cell? _ _ y1)).trans y1
        replace y2 := (HBr.out.cell (World.block_lt_of_cell? _ _ y2)).trans y2
        have HA := Aside0.mk (show _ ∧ _ ∧ _ ∧ _ ∧ _ ∧ _ from ⟨x0, x1, x2, y0, y1, y2⟩); clear x0 x1 x2 y0 y1 y2
        have hlc : (((x' :: a).length : Nat) : Int) > 0 := by simp only [List.length_cons]; omega
        have hld : (((y' :: b).length : Nat) : Int) > 0 := by simp only [List.length_cons]; omega
        have HCda := Aside0.mk (Kd.C_drop (m := 1) HCa.out (by simp only [List.length_cons]; omega) hca)
        have HCdb := Aside0.mk (Kd.C_drop (m := 1) HCb.out (by simp only [List.length_cons]; omega) hcb)
        generalize hbl : (x' :: a).length = na at *
        have HBl := Aside0.mk hbl; clear hbl
        generalize hbl : (y' :: b).length = nb at *
        have HBm := Aside0.mk hbl; clear hbl
        have hq0 : 0 < na := by omega
        have hq1 : 0 < nb := by omega
        go_wp2
        refine start_ (n := 8) (S := fun w' => w'.cell? adx = some (.int .i64 x'.f0) ∧ w'.cell? ⟨adx.block, adx.off + 1, none⟩ = some (.int .i64 x'.f1) ∧ w'.cell? ⟨adx.block, adx.off + 2, none⟩ = some (.string x'.f2) ∧ w'.cell? ady = some (.int .i64 y'.f0) ∧ w'.cell? ⟨ady.block, ady.off + 1, none⟩ = some (.int .i64 y'.f1) ∧ w'.cell? ⟨ady.block, ady.off + 2, none⟩ = some (.string y'.f2)) (ds := []) #[false, false, false, false, false, false, false, false] (by kernel_rfl) rfl rfl HA.out (fun hHeld => ?_); refine with_tab tab8_3 (fun HT_ => ?_)
        have HBA := Aside0.mk (below_drew1 (Below.refl wr.heap.size wr))
        generalize wr.drew = wA at HBA hHeld ⊢
        refine pure_ (i := 0) (N := some 23) (v := ?_) (a' := ?_) #[true, false, false, false, false, false, false, false] rfl rfl (any_of HT_.out (by kernel_rfl)) (fun _ _ _ h => h) (Or.inl ⟨by rfl, ?_⟩) ?_ ?_
        rotate_left
        · intro w'
          go_simp
          with_reducible rfl
        rotate_left
        · simp only [Act.put, List.setIfInBounds_toArray, List.set_cons_zero, List.set_cons_succ, i64_w, i32_w]
          rfl
        refine pure_ (i := 1) (N := some 24) (v := ?_) (a' := ?_) #[true, true, false, false, false, false, false, false] rfl rfl (any_of HT_.out (by kernel_rfl)) (fun _ _ _ h => h) (Or.inl ⟨by rfl, ?_⟩) ?_ ?_
        rotate_left
        · intro w'
          go_simp
          with_reducible rfl
        rotate_left
        · simp only [Act.put, List.setIfInBounds_toArray, List.set_cons_zero, List.set_cons_succ, i64_w, i32_w]
          rfl
        refine pure_ (i := 3) (N := some 26) (v := ?_) (a' := ?_) #[true, true, false, true, false, false, false, false] rfl rfl (any_of HT_.out (by kernel_rfl)) (fun _ _ _ h => h) (Or.inl ⟨by rfl, ?_⟩) ?_ ?_
        rotate_left
        · intro w'
          go_simp
          with_reducible rfl
        rotate_left
        · simp only [Act.put, List.setIfInBounds_toArray, List.set_cons_zero, List.set_cons_succ, i64_w, i32_w]
          rfl
        refine pure_ (i := 4) (N := some 27) (v := ?_) (a' := ?_) #[true, true, false, true, true, false, false, false] rfl rfl (any_of HT_.out (by kernel_rfl)) (fun _ _ _ h => h) (Or.inl ⟨by rfl, ?_⟩) ?_ ?_
        rotate_left
        · intro w'
          go_simp
          with_reducible rfl
        rotate_left
        · simp only [Act.put, List.setIfInBounds_toArray, List.set_cons_zero, List.set_cons_succ, i64_w, i32_w]
          rfl
        refine take_ (i := 2) (N := some 25) (v := ?_) (a' := ?_) #[true, true, true, true, true, false, false, false] rfl rfl (take_of HT_.out (by kernel_rfl)) (fun _ _ _ h => h) (Or.inl ⟨by rfl, ?_⟩) hHeld ?_ ?_
        rotate_left
        · rintro w' ⟨s0, s1, s2, s3, s4, s5⟩
          go_simp
          with_reducible rfl
        rotate_left
        · simp only [Act.put, List.setIfInBounds_toArray, List.set_cons_zero, List.set_cons_succ, i64_w, i32_w]
          rfl
        refine take_ (i := 5) (N := some 28) (v := ?_) (a' := ?_) #[true, true, true, true, true, true, false, false] rfl rfl (take_of HT_.out (by kernel_rfl)) (fun _ _ _ h => h) (Or.inl ⟨by rfl, ?_⟩) hHeld ?_ ?_
        rotate_left
        · rintro w' ⟨s0, s1, s2, s3, s4, s5⟩
          go_simp
          with_reducible rfl
        rotate_left
        · simp only [Act.put, List.setIfInBounds_toArray, List.set_cons_zero, List.set_cons_succ, i64_w, i32_w]
          rfl
        refine one_ (i := 6) (N := some 29) #[true, true, true, true, true, true, true, false] rfl rfl (one_of HT_.out (by kernel_rfl)) (by decide) (fun K hK => ?_)
        refine goes_ Try.func21 (by kernel_rfl) rfl #[pv x', pv y'] (by rfl) rfl rfl (by (try simp only [List.map_toArray, List.map_cons, List.map_nil]); first | done | rfl) ?_
        refine (vellumref17_Cmp.calls _ _ _ _ _ _ _ wA (cmp_eq x' y')).mono ?_
        rintro e wC ⟨rfl, hb⟩
        refine ⟨_, rfl, ?_⟩
        have HBC := Aside0.mk (below_step HBA.out hb); clear hb
        have hcl := fun (p : Addr) (u : Value) (h : wr.cell? p = some u) => (HBC.out.cell (World.block_lt_of_cell? _ _ h)).trans h
        have hHn : _ ∧ _ ∧ _ ∧ _ ∧ _ ∧ _ := ⟨hcl _ _ HA.out.1, hcl _ _ HA.out.2.1, hcl _ _ HA.out.2.2.1, hcl _ _ HA.out.2.2.2.1, hcl _ _ HA.out.2.2.2.2.1, hcl _ _ HA.out.2.2.2.2.2⟩
        refine hK.out _ _ hHn (fun hHeld2 => ?_)
        clear hK K
        refine norm_ (a' := ?_) ?_ ?_
        rotate_left
        · show Act.put _ (some 29) _ = _
          simp only [Act.put, List.setIfInBounds_toArray, List.set_cons_zero, List.set_cons_succ, i64_w, i32_w]
          rfl
        refine pure_ (i := 7) (N := some 8) (v := ?_) (a' := ?_) #[true, true, true, true, true, true, true, true] rfl rfl (any_of HT_.out (by kernel_rfl)) (fun _ _ _ h => h) (Or.inl ⟨by rfl, ?_⟩) ?_ ?_
        rotate_left
        · intro w'
          go_simp
          with_reducible rfl
        rotate_left
        · simp only [Act.put, List.setIfInBounds_toArray, List.set_cons_zero, List.set_cons_succ, i64_w, i32_w]
          rfl
        refine done_ (done_of HT_.out (by kernel_rfl)) ?_
        have HHn := Aside0.mk hHn; clear hHn hcl hHeld hHeld2 HT_
        have DD := Aside0.mk ((HBC.out.block _ (lt_of ((HBr.out.block _ (lt_of D2'.out)).trans D2'.out))).trans ((HBr.out.block _ (lt_of D2'.out)).trans D2'.out))
        have a0 := HHn.out.1; have a1 := HHn.out.2.1; have a2 := HHn.out.2.2.1
        have hcZ := cmpP_zero x' y'; have hcL := cmpP_lt y' x'; have hcM := cmpP_lt x' y'; have hcE := cmpP_eq x' y'
        by_cases hxy : x' = y' ∧ x'.f1 = -1
        · have hcm : cmpP x' y' = 0 := hcZ.2 hxy.1; clear hcL hcM hcE hcZ
          have hf1 : x'.f1 = -1 := hxy.2
          have hq : bothSS ws qs = some x' := by rw [HBs.out, HEq.out, bothP_cons, if_pos hxy]
          have HQ := Aside0.mk hq; clear hq
          have HF1 := Aside0.mk hf1; clear hf1
          have hcb_ : (cmpP x' y' == 0) = true := by rw [hcm]; rfl
          have hfb : (x'.f1 == -1) = true := by rw [HF1.out]; rfl
          have HXy := Aside0.mk hxy; clear hxy
          have HCm := Aside0.mk hcm; clear hcm
          have j0 : wC.cell? ⟨w.heap.size + 1 + 1, 0, none⟩ = some (.int .i64 0) := cell_of DD.out 0
          have j1 : wC.cell? ⟨w.heap.size + 1 + 1, 1, none⟩ = some (.int .i64 0) := cell_of DD.out 1
          have j2 : wC.cell? ⟨w.heap.size + 1 + 1, 2, none⟩ = some (.string ⟨#[]⟩) := cell_of DD.out 2
          have k3 : wC.frozen? ⟨w.heap.size + 1 + 1, 0, none⟩ = false := frozen_of DD.out 0
          have k4 : wC.frozen? ⟨w.heap.size + 1 + 1, 1, none⟩ = false := frozen_of DD.out 1
          have k5 : wC.frozen? ⟨w.heap.size + 1 + 1, 2, none⟩ = false := frozen_of DD.out 2
          go_wp2
          refine bodyPost_ret (results_ct rfl _ _ (w.heap.size + 1 + 1) 27 #[.int .i64 x'.f0, .int .i64 x'.f1, .string x'.f2] (0, 0) _ rfl (setCell_heap (setCell_heap (setCell_heap DD.out _) _) _) Try.underlying27 rfl (by kernel_rfl)) rfl ?_
          rw [HQ.out]
          exact ⟨rfl, (((below_step HB1.out (below_step HB4.out (below_step HBr.out HBC.out))).setCell (p := ⟨w.heap.size + 1 + 1, 0, none⟩) (by show w.heap.size ≤ w.heap.size + 1 + 1; omega) _).setCell (p := ⟨w.heap.size + 1 + 1, 1, none⟩) (by show w.heap.size ≤ w.heap.size + 1 + 1; omega) _).setCell (p := ⟨w.heap.size + 1 + 1, 2, none⟩) (by show w.heap.size ≤ w.heap.size + 1 + 1; omega) _⟩
        · have hfz : ¬ x' = y' → (cmpP x' y' == 0) = false := fun h => by rw [beq_eq_false_iff_ne]; exact fun e => h (hcZ.1 e)
          have HXy := Aside0.mk hxy; clear hxy
          by_cases hle : ltP y' x'
          · have hne : ¬ x' = y' := fun e => ltP_irrefl x' (e ▸ hle)
            have hcb_ := hfz hne
            have hgt : ¬ cmpP x' y' ≤ 0 := by have h1 := hcE; rw [if_neg (fun h => ltP_irrefl _ (ltP_trans h hle)), if_pos hle] at h1; omega
            clear hcZ hcL hcM hcE hfz
            have HLe := Aside0.mk hle; clear hle
            by_cases hc1 : cb = 1
            · have HCd2 := Aside0.mk (show Kd.C k27 w4 _ b.length b by have := HCdb.out; rw [if_pos hc1] at this; exact this)
              have hnb : nb - 1 = b.length := by have := HBm.out; simp only [List.length_cons] at this; omega
              have hcn : nb ≤ cb := by assumption
              have hn1 : 1 ≤ nb := by have := HBm.out; simp only [List.length_cons] at this; omega
              have hc0 : cb - 1 = 0 := by omega
              go_wp2
              go_roundg (na + b.length)
              case measure => have := HM.out; have := HBl.out; have := HBm.out; simp only [List.length_cons] at *; omega
              case rel => exact ⟨x' :: a, b, _, _, ca, _, by rw [HBl.out], rfl, by rw [HBl.out]; exact hca, by omega, ⟨by rw [HBl.out]; exact Nat.le_refl _⟩, ⟨by rw [HEq.out, bothP_cons, if_neg HXy.out, if_pos HLe.out]⟩, ⟨by have := HLen.out; rw [HBl.out]; exact ⟨this.1, by omega⟩⟩, ⟨by rw [HBl.out]; exact HCa.out⟩, ⟨HCd2.out⟩, ⟨below_step HBr.out HBC.out⟩⟩
            · have HCd2 := Aside0.mk (show Kd.C k27 w4 _ b.length b by have := HCdb.out; rw [if_neg hc1] at this; exact this)
              have hnb : nb - 1 = b.length := by have := HBm.out; simp only [List.length_cons] at this; omega
              have hcn : nb ≤ cb := by assumption
              have hn1 : 1 ≤ nb := by have := HBm.out; simp only [List.length_cons] at this; omega
              have hc0 : ¬ cb - 1 = 0 := by omega
              go_wp2
              go_roundg (na + b.length)
              case measure => have := HM.out; have := HBl.out; have := HBm.out; simp only [List.length_cons] at *; omega
              case rel => exact ⟨x' :: a, b, _, _, ca, _, by rw [HBl.out], rfl, by rw [HBl.out]; exact hca, by omega, ⟨by rw [HBl.out]; exact Nat.le_refl _⟩, ⟨by rw [HEq.out, bothP_cons, if_neg HXy.out, if_pos HLe.out]⟩, ⟨by have := HLen.out; rw [HBl.out]; exact ⟨this.1, by omega⟩⟩, ⟨by rw [HBl.out]; exact HCa.out⟩, ⟨HCd2.out⟩, ⟨below_step HBr.out HBC.out⟩⟩
          · have hle2 : cmpP x' y' ≤ 0 := by have h1 := hcE; rw [if_neg hle] at h1; split at h1 <;> omega
            have HLe := Aside0.mk hle; clear hle
            by_cases hne : x' = y'
            · have hcb_ : (cmpP x' y' == 0) = true := by rw [hcZ.2 hne]; rfl
              have hfb : (x'.f1 == -1) = false := by rw [beq_eq_false_iff_ne]; exact fun e => HXy.out ⟨hne, e⟩
              have HNe := Aside0.mk hne; clear hne hcZ hcL hcM hcE hfz
              by_cases hc1 : ca = 1
              · have HCd2 := Aside0.mk (show Kd.C k27 w4 _ a.length a by have := HCda.out; rw [if_pos hc1] at this; exact this)
                have hnb : na - 1 = a.length := by have := HBl.out; simp only [List.length_cons] at this; omega
                have hcn : na ≤ ca := by assumption
                have hn1 : 1 ≤ na := by have := HBl.out; simp only [List.length_cons] at this; omega
                have hc0 : ca - 1 = 0 := by omega
                go_wp2
                go_roundg (a.length + nb)
                case measure => have := HM.out; have := HBl.out; have := HBm.out; simp only [List.length_cons] at *; omega
                case rel => exact ⟨a, y' :: b, _, _, _, cb, rfl, by rw [HBm.out], by omega, by rw [HBm.out]; exact hcb, ⟨by rw [HBm.out]; exact Nat.le_refl _⟩, ⟨by rw [HEq.out, bothP_cons, if_neg HXy.out, if_neg HLe.out]⟩, ⟨by have := HLen.out; rw [HBm.out]; exact ⟨by omega, this.2⟩⟩, ⟨HCd2.out⟩, ⟨by rw [HBm.out]; exact HCb.out⟩, ⟨below_step HBr.out HBC.out⟩⟩
              · have HCd2 := Aside0.mk (show Kd.C k27 w4 _ a.length a by have := HCda.out; rw [if_neg hc1] at this; exact this)
                have hnb : na - 1 = a.length := by have := HBl.out; simp only [List.length_cons] at this; omega
                have hcn : na ≤ ca := by assumption
                have hn1 : 1 ≤ na := by have := HBl.out; simp only [List.length_cons] at this; omega
                have hc0 : ¬ ca - 1 = 0 := by omega
                go_wp2
                go_roundg (a.length + nb)
                case measure => have := HM.out; have := HBl.out; have := HBm.out; simp only [List.length_cons] at *; omega
                case rel => exact ⟨a, y' :: b, _, _, _, cb, rfl, by rw [HBm.out], by omega, by rw [HBm.out]; exact hcb, ⟨by rw [HBm.out]; exact Nat.le_refl _⟩, ⟨by rw [HEq.out, bothP_cons, if_neg HXy.out, if_neg HLe.out]⟩, ⟨by have := HLen.out; rw [HBm.out]; exact ⟨by omega, this.2⟩⟩, ⟨HCd2.out⟩, ⟨by rw [HBm.out]; exact HCb.out⟩, ⟨below_step HBr.out HBC.out⟩⟩
            · have hcb_ := hfz hne
              have HNe := Aside0.mk hne; clear hne hcZ hcL hcM hcE hfz
              by_cases hc1 : ca = 1
              · have HCd2 := Aside0.mk (show Kd.C k27 w4 _ a.length a by have := HCda.out; rw [if_pos hc1] at this; exact this)
                have hnb : na - 1 = a.length := by have := HBl.out; simp only [List.length_cons] at this; omega
                have hcn : na ≤ ca := by assumption
                have hn1 : 1 ≤ na := by have := HBl.out; simp only [List.length_cons] at this; omega
                have hc0 : ca - 1 = 0 := by omega
                go_wp2
                go_roundg (a.length + nb)
                case measure => have := HM.out; have := HBl.out; have := HBm.out; simp only [List.length_cons] at *; omega
                case rel => exact ⟨a, y' :: b, _, _, _, cb, rfl, by rw [HBm.out], by omega, by rw [HBm.out]; exact hcb, ⟨by rw [HBm.out]; exact Nat.le_refl _⟩, ⟨by rw [HEq.out, bothP_cons, if_neg HXy.out, if_neg HLe.out]⟩, ⟨by have := HLen.out; rw [HBm.out]; exact ⟨by omega, this.2⟩⟩, ⟨HCd2.out⟩, ⟨by rw [HBm.out]; exact HCb.out⟩, ⟨below_step HBr.out HBC.out⟩⟩
              · have HCd2 := Aside0.mk (show Kd.C k27 w4 _ a.length a by have := HCda.out; rw [if_neg hc1] at this; exact this)
                have hnb : na - 1 = a.length := by have := HBl.out; simp only [List.length_cons] at this; omega
                have hcn : na ≤ ca := by assumption
                have hn1 : 1 ≤ na := by have := HBl.out; simp only [List.length_cons] at this; omega
                have hc0 : ¬ ca - 1 = 0 := by omega
                go_wp2
                go_roundg (a.length + nb)
                case measure => have := HM.out; have := HBl.out; have := HBm.out; simp only [List.length_cons] at *; omega
                case rel => exact ⟨a, y' :: b, _, _, _, cb, rfl, by rw [HBm.out], by omega, by rw [HBm.out]; exact hcb, ⟨by rw [HBm.out]; exact Nat.le_refl _⟩, ⟨by rw [HEq.out, bothP_cons, if_neg HXy.out, if_neg HLe.out]⟩, ⟨by have := HLen.out; rw [HBm.out]; exact ⟨by omega, this.2⟩⟩, ⟨HCd2.out⟩, ⟨by rw [HBm.out]; exact HCb.out⟩, ⟨below_step HBr.out HBC.out⟩⟩
theorem RowP_one {w : World} {g : Nat} {p : S27} (h : w.heap[g]? = some (pO p)) : RowP w g [p] := by
  intro i x hx j u hu
  cases i with
  | zero =>
    obtain rfl : p = x := by simpa using hx
    have hu' : (#[Value.int .i64 p.f0, .int .i64 p.f1, .string p.f2] : Array Value)[j]? = some u := by rw [← hu, ← Array.getElem?_toList]; rfl
    exact ⟨by rw [Nat.zero_mul, Nat.zero_add]; exact (cell_of h j).trans hu', frozen_of h _⟩
  | succ n => simp at hx
theorem C_one {w : World} {g : Nat} {p : S27} (h : w.heap[g]? = some (pO p)) : Kd.C k27 w (some ⟨g, 0, none⟩) 1 [p] := (RowP_one h).C (by simp)
def pA : S27 := ⟨0, -1, ⟨#[97]⟩⟩
theorem wfA : wfP pA := ⟨by decide, by decide, by decide⟩
theorem readsA : readsS [pA] [] pA = true := by unfold readsS; simp [(eqP_iff pA pA).2 rfl]
theorem leastA : leastS ([pA].filter (readsS [pA] [])) = some pA := by
  rw [List.filter_cons_of_pos (by exact readsA)]
  rfl
set_option maxHeartbeats 4000000 in
set_option maxRecDepth 100000 in
theorem awake_any (w : World) : Calls Try.prog 14 #[] w fun e w' => e = .returned (.bool true) ∧ Below w.heap.size w w' := by
  have hS : (⟨#[97]⟩ : ByteArray) = pA.f2 := rfl
  generalize hW : (((w.alloc (.cells #[.int .i64 0, .int .i64 (-1), .string ⟨#[97]⟩] 27)).alloc (.cells #[.slice (some ⟨w.heap.size, 0, none⟩) 1 1, .slice none 0 0, .slice none 0 0] 25)).alloc (.cells #[.int .i64 0, .int .i64 (-1), .string ⟨#[97]⟩] 27)).alloc (.cells #[.slice none 0 0, .slice none 0 0, .slice (some ⟨w.heap.size + 1 + 1, 0, none⟩) 1 1] 25) = W
  have hB : Below w.heap.size w W := by rw [← hW]; exact below_alloc (below_alloc (below_alloc (below_alloc (Below.refl _ _) _) _) _) _
  have b0 : W.heap[w.heap.size]? = some (pO pA) := by rw [← hW]; exact heap_old (heap_old (heap_old (heap_new _ _)))
  have b1 : W.heap[w.heap.size + 1]? = some (.cells #[.slice (some ⟨w.heap.size, 0, none⟩) 1 1, .slice none 0 0, .slice none 0 0] 25) := by rw [← hW]; have := heap_new (w.alloc (pO pA)) (.cells #[.slice (some ⟨w.heap.size, 0, none⟩) 1 1, .slice none 0 0, .slice none 0 0] 25); rw [size_new] at this; exact heap_old (heap_old this)
  have b2 : W.heap[w.heap.size + 1 + 1]? = some (pO pA) := by rw [← hW]; have := heap_new ((w.alloc (pO pA)).alloc (.cells #[.slice (some ⟨w.heap.size, 0, none⟩) 1 1, .slice none 0 0, .slice none 0 0] 25)) (pO pA); rw [size_new, size_new] at this; exact heap_old this
  have hcall : Calls Try.prog 4 #[.agg #[.slice (some ⟨w.heap.size, 0, none⟩) 1 1, .slice none 0 0, .slice none 0 0], .agg #[.slice none 0 0, .slice none 0 0, .slice (some ⟨w.heap.size + 1 + 1, 0, none⟩) 1 1]] W fun e w' => e = .returned (.tuple #[.agg #[.int .i64 0, .int .i64 (-1), .string ⟨#[97]⟩], .bool true]) ∧ Below W.heap.size W w' :=
    (clash_any [pA] [] [pA] (some ⟨w.heap.size, 0, none⟩) none none none none (some ⟨w.heap.size + 1 + 1, 0, none⟩) 0 0 0 1 0 0 0 0 1 W (C_one b0) (by decide) (Kd.R_reads' (Kd.R_nil k50 50 W 0 (fun _ => True))).2.2 (by decide) (C_one b2) (by decide) (by decide) (fun x hx => by obtain rfl := List.mem_singleton.1 hx; exact wfA) (fun x hx => by obtain rfl := List.mem_singleton.1 hx; exact wfA)).mono fun e w' h => ⟨by rw [h.1, leastA]; rfl, h.2⟩
  have hcall2 : ∀ V, Below W.heap.size W V → Calls Try.prog 9 #[.agg #[.slice (some ⟨w.heap.size, 0, none⟩) 1 1, .slice none 0 0, .slice none 0 0], .agg #[.int .i64 0, .int .i64 (-1), .string ⟨#[97]⟩]] V fun e w' => e = .returned (.bool true) ∧ Below V.heap.size V w' := fun V hV =>
    (reads_any [pA] [] (some ⟨w.heap.size, 0, none⟩) none none 0 1 0 0 pA V (C_one ((hV.block _ (lt_of b0)).trans b0)) (by decide) (Kd.R_reads' (Kd.R_nil k50 50 V 0 (fun _ => True))).2.2 (by decide) (by decide)).mono fun e w' h => ⟨by rw [h.1, readsA], h.2⟩
  have HC := Aside0.mk hcall
  have HC2 := Aside0.mk hcall2
  have HB := Aside0.mk hB
  have HW := Aside0.mk hW
  have D1 := Aside0.mk b1
  clear hcall hcall2 hB hW b0 b1 b2 hS
  go_enter Try.func14, Try.ntmps14
  go_wp2_with fail
  rw [HW.out]
  clear HW
  go_wp2_with (first | (go_at_call 4; refine HC.out.mono ?_; rintro e w5 ⟨rfl, hb⟩; have HB5 := Aside0.mk hb; have m1 : w5.cell? ⟨w.heap.size + 1, 0, none⟩ = some (.slice (some ⟨w.heap.size, 0, none⟩) 1 1) := (hb.cell (World.block_lt_of_cell? _ _ (cell_of D1.out 0))).trans (cell_of D1.out 0); have m2 : w5.cell? ⟨w.heap.size + 1, 1, none⟩ = some (.slice none 0 0) := (hb.cell (World.block_lt_of_cell? _ _ (cell_of D1.out 1))).trans (cell_of D1.out 1); have m3 : w5.cell? ⟨w.heap.size + 1, 2, none⟩ = some (.slice none 0 0) := (hb.cell (World.block_lt_of_cell? _ _ (cell_of D1.out 2))).trans (cell_of D1.out 2); have hlt : w.heap.size + 1 < w5.heap.size := Nat.lt_of_lt_of_le (lt_of D1.out) hb.size; clear hb) | (go_at_call 9; refine (HC2.out _ (below_alloc HB5.out _)).mono ?_; rintro e w6 ⟨rfl, hb6⟩))
  go_ret
  exact ⟨rfl, below_step HB.out (below_step (below_alloc HB5.out _) hb6)⟩
/-- A foot: three lists. -/
structure Ft where
  ps : List S27
  ss : List S50
  ws : List S27
def Ft.small (f : Ft) : Prop := f.ps.length * 32 ≤ 140737488351232 ∧ f.ss.length * 56 ≤ 140737488351232 ∧ f.ws.length * 32 ≤ 140737488351232
def Ft.wf (f : Ft) : Prop := (∀ x ∈ f.ps, wfP x) ∧ (∀ x ∈ f.ws, wfP x)
theorem Ft.small.n (f : Ft) (h : f.small) : f.ps.length < 4398046511104 ∧ f.ss.length < 2513169434916 ∧ f.ws.length < 4398046511104 := by
  obtain ⟨h0, h1, h2⟩ := h
  exact ⟨by omega, by omega, by omega⟩
/-- A foot that reads so, field by field. -/
structure FtR (w : World) (A0 A1 A2 : Option Addr) (c0 c1 c2 : Nat) (f : Ft) : Prop where
  h0 : Kd.C k27 w A0 f.ps.length f.ps
  l0 : f.ps.length ≤ c0
  h1 : Kd.C k50 w A1 f.ss.length f.ss
  l1 : f.ss.length ≤ c1
  h2 : Kd.C k27 w A2 f.ws.length f.ws
  l2 : f.ws.length ≤ c2
def fv (A0 A1 A2 : Option Addr) (c0 c1 c2 : Nat) (f : Ft) : Value := .agg #[.slice A0 f.ps.length c0, .slice A1 f.ss.length c1, .slice A2 f.ws.length c2]
def FtV (w : World) (v : Value) (f : Ft) : Prop := ∃ A0 A1 A2 c0 c1 c2, v = fv A0 A1 A2 c0 c1 c2 f ∧ FtR w A0 A1 A2 c0 c1 c2 f
theorem FtR.below {w w' : World} {A0 A1 A2 : Option Addr} {c0 c1 c2 : Nat} {f : Ft} (h : FtR w A0 A1 A2 c0 c1 c2 f) (hb : Below w.heap.size w w') : FtR w' A0 A1 A2 c0 c1 c2 f :=
  ⟨Kd.C_below h.h0 hb, h.l0, Kd.C_below h.h1 hb, h.l1, Kd.C_below h.h2 hb, h.l2⟩
theorem FtV.below {w w' : World} {v : Value} {f : Ft} (h : FtV w v f) (hb : Below w.heap.size w w') : FtV w' v f := by
  obtain ⟨A0, A1, A2, c0, c1, c2, e, h⟩ := h
  exact ⟨A0, A1, A2, c0, c1, c2, e, h.below hb⟩
theorem copyV {w : World} {v : Value} {f : Ft} (h : FtV w v f) (hs : f.small) : Calls Try.prog 5 #[v] w fun e w' => ∃ v', e = .returned v' ∧ FtV w' v' f ∧ Below w.heap.size w w' := by
  obtain ⟨A0, A1, A2, c0, c1, c2, rfl, h⟩ := h
  have hn := hs.n
  obtain ⟨k, hk⟩ := (copy_ev f.ps f.ss f.ws hn.1 hn.2.1 hn.2.2).ex
  refine (vellumref17_Copy.calls k A0 c0 f.ps A1 c1 f.ss A2 c2 f.ws _ _ _ w h.h0 h.l0 h.h1 h.l1 h.h2 h.l2 hk).mono ?_
  rintro e w' ⟨v0, v1, v2, rfl, r0, r1, r2, hb⟩
  obtain ⟨B0, d0, rfl⟩ := Kd.R_slice r0
  obtain ⟨B1, d1, rfl⟩ := Kd.R_slice r1
  obtain ⟨B2, d2, rfl⟩ := Kd.R_slice r2
  exact ⟨_, rfl, ⟨B0, B1, B2, d0, d1, d2, rfl, (Kd.R_reads' r0).2.2, (Kd.R_reads' r0).2.1, (Kd.R_reads' r1).2.2, (Kd.R_reads' r1).2.1, (Kd.R_reads' r2).2.2, (Kd.R_reads' r2).2.1⟩, hb⟩
def clashSS (f g : Ft) : Option S27 := leastS (g.ws.filter (readsS f.ps f.ss))
def tellV (o : Option S27) : Value := .tuple #[pv (o.getD zP), .bool o.isSome]
theorem clashV {w : World} {v u : Value} {f g : Ft} (h : FtV w v f) (h' : FtV w u g) (hs : f.small) (hf : f.wf) (hg : g.wf) : Calls Try.prog 4 #[v, u] w fun e w' => e = .returned (tellV (clashSS f g)) ∧ Below w.heap.size w w' := by
  obtain ⟨A0, A1, A2, c0, c1, c2, rfl, h⟩ := h
  obtain ⟨B0, B1, B2, d0, d1, d2, rfl, h'⟩ := h'
  exact clash_any f.ps f.ss g.ws A0 A1 A2 B0 B1 B2 _ _ _ c0 c1 c2 d0 d1 d2 w h.h0 h.l0 h.h1 h.l1 h'.h2 h'.l2 hs.n.1 hf.1 hg.2
theorem rclashV {w : World} {v u : Value} {f g : Ft} (h : FtV w v f) (h' : FtV w u g) (hs : f.small) (hs' : g.small) : Calls Try.prog 6 #[v, u] w fun e w' => e = .returned (tellV (clashSS f g)) ∧ Below w.heap.size w w' := by
  obtain ⟨A0, A1, A2, c0, c1, c2, rfl, h⟩ := h
  obtain ⟨B0, B1, B2, d0, d1, d2, rfl, h'⟩ := h'
  have hn := hs.n
  have hn' := hs'.n
  obtain ⟨k, hk⟩ := (clash_ev f.ps f.ss f.ws g.ps g.ss g.ws hn.1 (by omega) hn'.2.2).ex
  refine (vellumref17_Clash.calls k A0 c0 f.ps A1 c1 f.ss A2 c2 f.ws B0 d0 g.ps B1 d1 g.ss B2 d2 g.ws _ _ _ _ w h.h0 h.l0 h.h1 h.l1 h.h2 h.l2 h'.h0 h'.l0 h'.h1 h'.l1 h'.h2 h'.l2 hk).mono ?_
  rintro e w' ⟨rfl, hb⟩
  refine ⟨?_, hb⟩
  unfold clashSS tellV pv
  cases leastS (g.ws.filter (readsS f.ps f.ss)) <;> rfl
theorem bothV {w : World} {v u : Value} {f g : Ft} (h : FtV w v f) (h' : FtV w u g) (hs : g.small) (hf : f.wf) (hg : g.wf) : Calls Try.prog 7 #[v, u] w fun e w' => e = .returned (tellV (bothSS f.ws g.ws)) ∧ Below w.heap.size w w' := by
  obtain ⟨A0, A1, A2, c0, c1, c2, rfl, h⟩ := h
  obtain ⟨B0, B1, B2, d0, d1, d2, rfl, h'⟩ := h'
  exact both_any f.ws g.ws A0 A1 A2 B0 B1 B2 _ _ _ _ c0 c1 c2 d0 d1 d2 w h.h2 h.l2 h'.h2 h'.l2 hs.n.2.2 hf.2 hg.2
theorem rbothV {w : World} {v u : Value} {f g : Ft} (h : FtV w v f) (h' : FtV w u g) (hs : f.small) (hs' : g.small) : Calls Try.prog 8 #[v, u] w fun e w' => e = .returned (tellV (bothSS f.ws g.ws)) ∧ Below w.heap.size w w' := by
  obtain ⟨A0, A1, A2, c0, c1, c2, rfl, h⟩ := h
  obtain ⟨B0, B1, B2, d0, d1, d2, rfl, h'⟩ := h'
  exact rboth_any f.ws g.ws A0 A1 A2 B0 B1 B2 _ _ _ _ c0 c1 c2 d0 d1 d2 w h.h2 h.l2 h'.h2 h'.l2 hs.n.2.2 hs'.n.2.2
theorem readsV {w : World} {v : Value} {f : Ft} (h : FtV w v f) (hs : f.small) (p : S27) : Calls Try.prog 9 #[v, pv p] w fun e w' => e = .returned (.bool (readsS f.ps f.ss p)) ∧ Below w.heap.size w w' := by
  obtain ⟨A0, A1, A2, c0, c1, c2, rfl, h⟩ := h
  exact reads_any f.ps f.ss A0 A1 A2 _ c0 c1 c2 p w h.h0 h.l0 h.h1 h.l1 (by have := hs.n; omega)
theorem rreadsV {w : World} {v : Value} {f : Ft} (h : FtV w v f) (hs : f.small) (p : S27) : Calls Try.prog 10 #[v, pv p] w fun e w' => e = .returned (.bool (readsS f.ps f.ss p)) ∧ Below w.heap.size w w' := by
  obtain ⟨A0, A1, A2, c0, c1, c2, rfl, h⟩ := h
  have hn := hs.n
  obtain ⟨k, hk⟩ := (reads_ev f.ps f.ss f.ws p (by omega) (by omega)).ex
  exact vellumref17_Reads.calls k A0 c0 f.ps A1 c1 f.ss A2 c2 f.ws _ _ _ _ w h.h0 h.l0 h.h1 h.l1 h.h2 h.l2 hk
def Ft.without (f : Ft) (t : Int) : Ft := ⟨f.ps.filter (fun x => !(x.f0 == t)), f.ss.filter (fun x => !(x.f0 == t)), f.ws.filter (fun x => !(x.f0 == t))⟩
theorem Ft.small.without {f : Ft} (h : f.small) (t : Int) : (f.without t).small := by
  obtain ⟨h0, h1, h2⟩ := h
  have e0 := List.length_filter_le (fun x : S27 => !(x.f0 == t)) f.ps
  have e1 := List.length_filter_le (fun x : S50 => !(x.f0 == t)) f.ss
  have e2 := List.length_filter_le (fun x : S27 => !(x.f0 == t)) f.ws
  refine ⟨?_, ?_, ?_⟩ <;> unfold Ft.without <;> dsimp only <;> omega
theorem withoutV {w : World} {v : Value} {f : Ft} (h : FtV w v f) (hs : f.small) (t : Int) : Calls Try.prog 12 #[v, .int .i64 t] w fun e w' => ∃ v', e = .returned v' ∧ FtV w' v' (f.without t) ∧ Below w.heap.size w w' := by
  obtain ⟨A0, A1, A2, c0, c1, c2, rfl, h⟩ := h
  have hn := (hs.without t).n
  have hs1 := hs
  obtain ⟨h3, h4, h5⟩ := hs1
  refine (without_any f.ps f.ss f.ws A0 A1 A2 c0 c1 c2 t w h.h0 h.h1 h.h2 (by omega) (by omega) (by omega)).mono ?_
  rintro e w' ⟨v0, v1, v2, rfl, r0, r1, r2, hb⟩
  obtain ⟨B0, d0, rfl, m0, q0⟩ := r0.reads (by have := hn.1; unfold Ft.without at this; dsimp only at this; omega)
  obtain ⟨B1, d1, rfl, m1, q1⟩ := r1.reads (by have := hn.2.1; unfold Ft.without at this; dsimp only at this; omega)
  obtain ⟨B2, d2, rfl, m2, q2⟩ := r2.reads (by have := hn.2.2; unfold Ft.without at this; dsimp only at this; omega)
  exact ⟨_, rfl, ⟨B0, B1, B2, d0, d1, d2, rfl, q0, m0, q1, m1, q2, m2⟩, hb⟩
theorem rwithoutV {w : World} {v : Value} {f : Ft} (h : FtV w v f) (hs : f.small) (t : Int) : Calls Try.prog 13 #[v, .int .i64 t] w fun e w' => ∃ v', e = .returned v' ∧ FtV w' v' (f.without t) ∧ Below w.heap.size w w' := by
  obtain ⟨A0, A1, A2, c0, c1, c2, rfl, h⟩ := h
  have hn := hs.n
  obtain ⟨k, hk⟩ := (without_ev f.ps f.ss f.ws t hn.1 hn.2.1 hn.2.2).ex
  refine (vellumref17_Without.calls k A0 c0 f.ps A1 c1 f.ss A2 c2 f.ws t _ _ _ w h.h0 h.l0 h.h1 h.l1 h.h2 h.l2 hk).mono ?_
  rintro e w' ⟨v0, v1, v2, rfl, r0, r1, r2, hb⟩
  obtain ⟨B0, d0, rfl⟩ := Kd.R_slice r0
  obtain ⟨B1, d1, rfl⟩ := Kd.R_slice r1
  obtain ⟨B2, d2, rfl⟩ := Kd.R_slice r2
  exact ⟨_, rfl, ⟨B0, B1, B2, d0, d1, d2, rfl, (Kd.R_reads' r0).2.2, (Kd.R_reads' r0).2.1, (Kd.R_reads' r1).2.2, (Kd.R_reads' r1).2.1, (Kd.R_reads' r2).2.2, (Kd.R_reads' r2).2.1⟩, hb⟩
theorem sameV {w : World} {v u : Value} {f : Ft} (h : FtV w v f) (h' : FtV w u f) (hs : f.small) : Calls Try.prog 11 #[v, u] w fun e w' => e = .returned (.bool true) ∧ Below w.heap.size w w' := by
  obtain ⟨A0, A1, A2, c0, c1, c2, rfl, h⟩ := h
  obtain ⟨B0, B1, B2, d0, d1, d2, rfl, h'⟩ := h'
  have hn := hs.n
  obtain ⟨k, hk⟩ := (same_ev f.ps f.ss f.ws hn.1 hn.2.1 hn.2.2).ex
  exact vellumref17_Same.calls k A0 c0 f.ps A1 c1 f.ss A2 c2 f.ws B0 d0 f.ps B1 d1 f.ss B2 d2 f.ws true w h.h0 h.l0 h.h1 h.l1 h.h2 h.l2 h'.h0 h'.l0 h'.h1 h'.l1 h'.h2 h'.l2 hk
end Go.Proofs.Ytldlenjfpjihdaa.PS
end
section
namespace Go.Proofs.Ytldlenjfpjihdaa.OpenK
open Go.RowKit Go.Proofs.YtldlenjfpjihdaaW.PrintWords Go.Proofs.Ytldlenjfpjihdaa.PS
theorem opn27 : Opn Try.prog 27 k27 wfP := by
  refine Opn.struct (kd := (Kd.pair (Kd.int .i64) (Kd.pair (Kd.int .i64) Kd.string))) (Wf := fun y => (Lit.int .i64 y.1).wf = true ∧ (Lit.int .i64 y.2.1).wf = true ∧ y.2.2.size ≤ 140737488351232) (fun x : S27 => (x.f0, x.f1, x.f2)) (fun y => ⟨y.1, y.2.1, y.2.2⟩) (fun _ => rfl) Try.underlying27 (by kernel_rfl) ?_
  change OpnFs Try.prog (_ :: _ :: [_]) 0 _ _
  exact (OpnFs.cons (a := (Kd.int .i64)) (b := (Kd.pair (Kd.int .i64) Kd.string)) (Wa := fun y => (Lit.int .i64 y).wf = true) (Wb := (fun y => (Lit.int .i64 y.1).wf = true ∧ y.2.size ≤ 140737488351232)) rfl (by kernel_rfl) (off' := 1) rfl (Opn.int Try.underlying3) (OpnFs.cons (a := (Kd.int .i64)) (b := Kd.string) (Wa := fun y => (Lit.int .i64 y).wf = true) (Wb := (fun y => y.size ≤ 140737488351232)) rfl (by kernel_rfl) (off' := 2) rfl (Opn.int Try.underlying3) (OpnFs.one (kd := Kd.string) (Wf := fun y => y.size ≤ 140737488351232) rfl (by kernel_rfl) (Opn.string Try.underlying9))))
def wf48 (x : S48) : Prop := x.f0.size ≤ 140737488351232 ∧ x.f1.size ≤ 140737488351232 ∧ True
theorem opn48 : Opn Try.prog 48 k48 wf48 := by
  refine Opn.struct (kd := (Kd.pair Kd.string (Kd.pair Kd.string Kd.bool))) (Wf := fun y => y.1.size ≤ 140737488351232 ∧ y.2.1.size ≤ 140737488351232 ∧ True) (fun x : S48 => (x.f0, x.f1, x.f2)) (fun y => ⟨y.1, y.2.1, y.2.2⟩) (fun _ => rfl) Try.underlying48 (by kernel_rfl) ?_
  change OpnFs Try.prog (_ :: _ :: [_]) 0 _ _
  exact (OpnFs.cons (a := Kd.string) (b := (Kd.pair Kd.string Kd.bool)) (Wa := fun y => y.size ≤ 140737488351232) (Wb := (fun y => y.1.size ≤ 140737488351232 ∧ True)) rfl (by kernel_rfl) (off' := 1) rfl (Opn.string Try.underlying9) (OpnFs.cons (a := Kd.string) (b := Kd.bool) (Wa := fun y => y.size ≤ 140737488351232) (Wb := (fun y => True)) rfl (by kernel_rfl) (off' := 2) rfl (Opn.string Try.underlying9) (OpnFs.one (kd := Kd.bool) (Wf := fun y => True) rfl (by kernel_rfl) (Opn.bool Try.underlying4))))
def wf50 (x : S50) : Prop := (Lit.int .i64 x.f0).wf = true ∧ (Lit.int .i64 x.f1).wf = true ∧ wf48 x.f2
theorem opn50 : Opn Try.prog 50 k50 wf50 := by
  refine Opn.struct (kd := (Kd.pair (Kd.int .i64) (Kd.pair (Kd.int .i64) k48))) (Wf := fun y => (Lit.int .i64 y.1).wf = true ∧ (Lit.int .i64 y.2.1).wf = true ∧ wf48 y.2.2) (fun x : S50 => (x.f0, x.f1, x.f2)) (fun y => ⟨y.1, y.2.1, y.2.2⟩) (fun _ => rfl) Try.underlying50 (by kernel_rfl) ?_
  change OpnFs Try.prog (_ :: _ :: [_]) 0 _ _
  exact (OpnFs.cons (a := (Kd.int .i64)) (b := (Kd.pair (Kd.int .i64) k48)) (Wa := fun y => (Lit.int .i64 y).wf = true) (Wb := (fun y => (Lit.int .i64 y.1).wf = true ∧ wf48 y.2)) rfl (by kernel_rfl) (off' := 1) rfl (Opn.int Try.underlying3) (OpnFs.cons (a := (Kd.int .i64)) (b := k48) (Wa := fun y => (Lit.int .i64 y).wf = true) (Wb := (fun y => wf48 y)) rfl (by kernel_rfl) (off' := 2) rfl (Opn.int Try.underlying3) (OpnFs.one (kd := k48) (Wf := fun y => wf48 y) rfl (by kernel_rfl) opn48)))
def kFt : Kd Ft := Kd.iso (Kd.pair (Kd.slice 27 k27) (Kd.pair (Kd.slice 50 k50) (Kd.slice 27 k27))) (fun x : Ft => (x.ps, x.ss, x.ws))
def wfFt (x : Ft) : Prop := (x.ps.length * 32 ≤ 140737488351232 ∧ ∀ y ∈ x.ps, wfP y) ∧ (x.ss.length * 56 ≤ 140737488351232 ∧ ∀ y ∈ x.ss, wf50 y) ∧ (x.ws.length * 32 ≤ 140737488351232 ∧ ∀ y ∈ x.ws, wfP y)
theorem opnFt : Opn Try.prog 25 kFt wfFt := by
  refine Opn.struct (kd := (Kd.pair (Kd.slice 27 k27) (Kd.pair (Kd.slice 50 k50) (Kd.slice 27 k27)))) (Wf := fun y => (y.1.length * 32 ≤ 140737488351232 ∧ ∀ z ∈ y.1, wfP z) ∧ (y.2.1.length * 56 ≤ 140737488351232 ∧ ∀ z ∈ y.2.1, wf50 z) ∧ (y.2.2.length * 32 ≤ 140737488351232 ∧ ∀ z ∈ y.2.2, wfP z)) (fun x : Ft => (x.ps, x.ss, x.ws)) (fun y => ⟨y.1, y.2.1, y.2.2⟩) (fun _ => rfl) Try.underlying25 (by kernel_rfl) ?_
  change OpnFs Try.prog (_ :: _ :: [_]) 0 _ _
  exact (OpnFs.cons (a := (Kd.slice 27 k27)) (b := (Kd.pair (Kd.slice 50 k50) (Kd.slice 27 k27))) (Wa := fun y => (y.length * 32 ≤ 140737488351232 ∧ ∀ z ∈ y, wfP z)) (Wb := (fun y => (y.1.length * 56 ≤ 140737488351232 ∧ ∀ z ∈ y.1, wf50 z) ∧ (y.2.length * 32 ≤ 140737488351232 ∧ ∀ z ∈ y.2, wfP z))) rfl (by kernel_rfl) (off' := 1) rfl (Opn.slice Try.underlying22 opn27 (by kernel_rfl) (by kernel_rfl)) (OpnFs.cons (a := (Kd.slice 50 k50)) (b := (Kd.slice 27 k27)) (Wa := fun y => (y.length * 56 ≤ 140737488351232 ∧ ∀ z ∈ y, wf50 z)) (Wb := (fun y => (y.length * 32 ≤ 140737488351232 ∧ ∀ z ∈ y, wfP z))) rfl (by kernel_rfl) (off' := 2) rfl (Opn.slice Try.underlying23 opn50 (by kernel_rfl) (by kernel_rfl)) (OpnFs.one (kd := (Kd.slice 27 k27)) (Wf := fun y => (y.length * 32 ≤ 140737488351232 ∧ ∀ z ∈ y, wfP z)) rfl (by kernel_rfl) (Opn.slice Try.underlying22 opn27 (by kernel_rfl) (by kernel_rfl)))))
/-- A foot as_ an argument. -/
theorem argFt {H : Type} {enc : TypeId × Value → H} {W : World} {n : Nat} {v : Value} {d : DataW H} {ps : List MemPlace} {base : Nat} (hv : Value.okWide Try.prog W .any base 25 v)
    (h : DataW.trod enc Try.prog W 0 (fun _ => true) true n 25 v.cells.toList = some (d, ps)) (hw : (d.weights Try.prog 25).all (· ≤ reachBytes) = true) :
    ∃ (A0 A1 A2 : Option Addr) (c0 c1 c2 : Nat) (f : Ft), v = .agg #[.slice A0 f.ps.length c0, .slice A1 f.ss.length c1, .slice A2 f.ws.length c2] ∧ FtR W A0 A1 A2 c0 c1 c2 f ∧ f.small ∧ f.wf := by
  obtain ⟨f, hK, wf⟩ := opnFt h hw
  obtain ⟨cs, rfl, hsz⟩ := Go.WideShapes.okWide_struct Try.underlying25 hv
  obtain ⟨x1, r1, e1, ⟨A0, c0, rfl, l0, h0⟩, x2, r2, rfl, ⟨A1, c1, rfl, l1, h1⟩, ⟨A2, c2, rfl, l2, h2⟩⟩ := hK
  have e2 : cs = #[.slice A0 f.ps.length c0, .slice A1 f.ss.length c1, .slice A2 f.ws.length c2] := by
    cases cs
    simpa [Value.cells] using e1
  subst e2
  exact ⟨A0, A1, A2, c0, c1, c2, f, rfl, ⟨h0, l0, h1, l1, h2, l2⟩, ⟨wf.1.1, wf.2.1.1, wf.2.2.1⟩, ⟨wf.1.2, wf.2.2.2⟩⟩
/-- A point as_ an argument. -/
theorem argP {H : Type} {enc : TypeId × Value → H} {W : World} {n : Nat} {v : Value} {d : DataW H} {ps : List MemPlace} {base : Nat} (hv : Value.okWide Try.prog W .any base 27 v)
    (h : DataW.trod enc Try.prog W 0 (fun _ => true) true n 27 v.cells.toList = some (d, ps)) (hw : (d.weights Try.prog 27).all (· ≤ reachBytes) = true) : ∃ p : S27, v = pv p := by
  obtain ⟨p, hK, wf⟩ := opn27 h hw
  obtain ⟨cs, rfl, hsz⟩ := Go.WideShapes.okWide_struct Try.underlying27 hv
  have e := k27_open hK
  refine ⟨p, ?_⟩
  unfold pv
  congr
  cases cs
  simpa [Value.cells] using e
end Go.Proofs.Ytldlenjfpjihdaa.OpenK
end
section
namespace Go.Proofs.Ytldlenjfpjihdaa.PS
open Go Go.RowKit Go.Proofs Go.Maps Go.Proofs.YtldlenjfpjihdaaW.PrintWords Go.Proofs.YtldlenjfpjihdaaW.PrintLast Go.Proofs.YtldlenjfpjihdaaW.PrintMore
set_option linter.unusedVariables false
set_option linter.unusedSimpArgs false
attribute [local go_sem high] eqA27
def T3_1 : Bool × List (List Nat × List Nat) := (true, [([], []), ([0], [0]), ([], []), ([2, 1], [2]), ([1, 3, 3], [1, 3]), ([4], [4]), ([5], [5]), ([5], [5]), ([], []), ([8, 6, 4, 0, 1, 2, 3, 4, 5, 6, 8], [6, 8]), ([7, 9, 0, 1, 2, 3, 4, 5, 6, 7, 8, 9], [7])])
theorem tab3_1 : rtab .any (opsOf Try.f3 1) = T3_1 := by kernel_rfl
def T3_5 : Bool × List (List Nat × List Nat) := (true, [([], []), ([0], [0]), ([], []), ([2, 1], [2]), ([1, 3, 3], [1, 3]), ([4], [4]), ([5], [5]), ([5], [5]), ([6, 4, 0, 1, 2, 3, 4, 5, 6], [6]), ([7, 8, 0, 1, 2, 3, 4, 5, 6, 7, 8], [7])])
theorem tab3_5 : rtab .any (opsOf Try.f3 5) = T3_5 := by kernel_rfl
def T3_9 : Bool × List (List Nat × List Nat) := (true, [([], []), ([0], [0]), ([], []), ([1, 2, 1], [1, 2]), ([], []), ([], []), ([4, 5, 3], [4, 5]), ([3, 6], [3, 6]), ([7, 6], [7]), ([8], [8]), ([9, 8, 8], [8, 9]), ([8], [8]), ([11, 8], [8, 11]), ([10, 12, 10, 8], [8, 10, 12]), ([8], [8]), ([8], [8]), ([15, 8], [8, 15]), ([14, 16, 13, 8], [8, 14, 16]), ([13, 17, 17, 8], [8, 13, 17]), ([8, 18], [8, 18]), ([19, 18], [19]), ([20, 20], [20]), ([20, 21], [20, 21]), ([22, 21, 0, 1, 2, 3, 4, 5, 6, 7, 8, 9, 10, 11, 12, 13, 14, 15, 16, 17, 18, 19, 20, 21, 22], [22])])
theorem tab3_9 : rtab .any (opsOf Try.f3 9) = T3_9 := by kernel_rfl
theorem mutV (f : Ft) (A0 A1 A2 : Option Addr) (c0 c1 c2 : Nat) {w : World} (h : FtR w A0 A1 A2 c0 c1 c2 f) : FtV w (.agg #[.slice A0 f.ps.length c0, .slice A1 f.ss.length c1, .slice A2 f.ws.length c2]) f := ⟨_, _, _, _, _, _, rfl, h⟩
set_option maxHeartbeats 16000000 in
set_option maxRecDepth 100000 in
theorem law_any (f g : Ft) (p : S27) (A0 A1 A2 B0 B1 B2 : Option Addr) (c0 c1 c2 d0 d1 d2 : Nat) (w : World) (ha : FtR w A0 A1 A2 c0 c1 c2 f) (hb : FtR w B0 B1 B2 d0 d1 d2 g) (hs : f.small) (ht : g.small) (hf : f.wf) (hg : g.wf) :
    Calls Try.prog 3 #[.agg #[.slice A0 f.ps.length c0, .slice A1 f.ss.length c1, .slice A2 f.ws.length c2], .agg #[.slice B0 g.ps.length d0, .slice B1 g.ss.length d1, .slice B2 g.ws.length d2], pv p] w fun e w' => e = .returned (.bool true) ∧ Below w.heap.size w w' := by
  generalize hW : ((w.alloc (.cells #[.slice A0 f.ps.length c0, .slice A1 f.ss.length c1, .slice A2 f.ws.length c2] 25)).alloc (.cells #[.slice B0 g.ps.length d0, .slice B1 g.ss.length d1, .slice B2 g.ws.length d2] 25)).alloc (pO p) = w1
  have hB1 : Below w.heap.size w w1 := by rw [← hW]; exact below_alloc (below_alloc (below_alloc (Below.refl _ _) _) _) _
  have b0 : w1.heap[w.heap.size]? = some (.cells #[.slice A0 f.ps.length c0, .slice A1 f.ss.length c1, .slice A2 f.ws.length c2] 25) := by rw [← hW]; exact heap_old (heap_old (heap_new _ _))
  have b1 : w1.heap[w.heap.size + 1]? = some (.cells #[.slice B0 g.ps.length d0, .slice B1 g.ss.length d1, .slice B2 g.ws.length d2] 25) := by rw [← hW]; have := heap_new (w.alloc (.cells #[.slice A0 f.ps.length c0, .slice A1 f.ss.length c1, .slice A2 f.ws.length c2] 25)) (.cells #[.slice B0 g.ps.length d0, .slice B1 g.ss.length d1, .slice B2 g.ws.length d2] 25); rw [size_new] at this; exact heap_old this
  have b2 : w1.heap[w.heap.size + 1 + 1]? = some (pO p) := by rw [← hW]; have := heap_new ((w.alloc (.cells #[.slice A0 f.ps.length c0, .slice A1 f.ss.length c1, .slice A2 f.ws.length c2] 25)).alloc (.cells #[.slice B0 g.ps.length d0, .slice B1 g.ss.length d1, .slice B2 g.ws.length d2] 25)) (pO p); rw [size_new, size_new] at this; exact this
  have HFA := Aside0.mk ha
  have HFB := Aside0.mk hb
  have HB1 := Aside0.mk hB1
  unfold pO at hW
  have HW := Aside0.mk hW
  have D0 := Aside0.mk b0
  have D1 := Aside0.mk b1
  have D2 := Aside0.mk b2
  have Hs := Aside0.mk hs
  have Ht := Aside0.mk ht
  have Hf := Aside0.mk hf
  have Hg := Aside0.mk hg
  clear hB1 hW b0 b1 b2 ha hb hs ht hf hg
  unfold pv
  go_enter Try.func3, Try.ntmps3
  go_wp2
  rw [HW.out]
  clear HW
  refine start_ (n := 11) (S := fun w' => w'.cell? ⟨w.heap.size, 0, none⟩ = some (.slice A0 f.ps.length c0) ∧ w'.cell? ⟨w.heap.size, 1, none⟩ = some (.slice A1 f.ss.length c1) ∧ w'.cell? ⟨w.heap.size, 2, none⟩ = some (.slice A2 f.ws.length c2) ∧ w'.cell? ⟨w.heap.size + 1, 0, none⟩ = some (.slice B0 g.ps.length d0) ∧ w'.cell? ⟨w.heap.size + 1, 1, none⟩ = some (.slice B1 g.ss.length d1) ∧ w'.cell? ⟨w.heap.size + 1, 2, none⟩ = some (.slice B2 g.ws.length d2)) (ds := []) #[false, false, false, false, false, false, false, false, false, false, false] (by kernel_rfl) rfl rfl ⟨cell_of D0.out 0, cell_of D0.out 1, cell_of D0.out 2, cell_of D1.out 0, cell_of D1.out 1, cell_of D1.out 2⟩ (fun hHeld => ?_); refine with_tab tab3_1 (fun HT_ => ?_)
  have hbD := below_drew1 (Below.refl w1.heap.size w1)
  generalize w1.drew = w2 at hbD hHeld ⊢
  have D0_1 := Aside0.mk ((hbD.block _ (lt_of D0.out)).trans D0.out)
  have D1_1 := Aside0.mk ((hbD.block _ (lt_of D1.out)).trans D1.out)
  have D2_1 := Aside0.mk ((hbD.block _ (lt_of D2.out)).trans D2.out)
  have HB_1 := Aside0.mk (below_step HB1.out hbD)
  clear hbD
  refine join_ (σ := Value × Value × Nat) 2 #[true, true, true, true, true, true, true, true, true, false, false] (fun s => [(12, .agg #[.slice A0 f.ps.length c0, .slice A1 f.ss.length c1, .slice A2 f.ws.length c2]), (13, s.1), (14, .agg #[.slice B0 g.ps.length d0, .slice B1 g.ss.length d1, .slice B2 g.ws.length d2]), (15, s.2.1), (16, .tuple #[pv ((clashSS f g).getD zP), .bool (clashSS f g).isSome]), (11, .tuple #[pv ((clashSS f g).getD zP), .bool (clashSS f g).isSome]), (17, pv ((clashSS f g).getD zP)), (18, .bool (clashSS f g).isSome), (7, .pointer (some ⟨s.2.2, 0, none⟩))]) (fun s w' => w'.heap[w.heap.size]? = some (.cells #[.slice A0 f.ps.length c0, .slice A1 f.ss.length c1, .slice A2 f.ws.length c2] 25) ∧ w'.heap[w.heap.size + 1]? = some (.cells #[.slice B0 g.ps.length d0, .slice B1 g.ss.length d1, .slice B2 g.ws.length d2] 25) ∧ w'.heap[w.heap.size + 1 + 1]? = some (pO p) ∧ w'.heap[s.2.2]? = some (pO zP) ∧ w.heap.size + 1 + 1 < s.2.2 ∧ Below w.heap.size w w') ?rest ?ways
  case ways =>
    intro hJ
    have HJ := Aside0.mk hJ; clear hJ
    refine take_ (i := 0) (N := some 12) (v := ?_) (a' := ?_) #[true, false, false, false, false, false, false, false, false, false, false] rfl rfl (take_of HT_.out (by kernel_rfl)) (fun _ _ _ h => h) (Or.inl ⟨by rfl, ?_⟩) hHeld ?_ ?_
    rotate_left
    · rintro w' ⟨s0, s1, s2, s3, s4, s5⟩
      go_simp
      with_reducible rfl
    rotate_left
    · simp only [Act.put, List.setIfInBounds_toArray, List.set_cons_zero, List.set_cons_succ, i64_w, i32_w]
      rfl
    refine take_ (i := 2) (N := some 14) (v := ?_) (a' := ?_) #[true, false, true, false, false, false, false, false, false, false, false] rfl rfl (take_of HT_.out (by kernel_rfl)) (fun _ _ _ h => h) (Or.inl ⟨by rfl, ?_⟩) hHeld ?_ ?_
    rotate_left
    · rintro w' ⟨s0, s1, s2, s3, s4, s5⟩
      go_simp
      with_reducible rfl
    rotate_left
    · simp only [Act.put, List.setIfInBounds_toArray, List.set_cons_zero, List.set_cons_succ, i64_w, i32_w]
      rfl
    refine two_ (i := 1) (j := 8) (Ni := some 13) (Nj := some 7) #[true, true, true, false, false, false, false, false, false, false, false] #[true, false, true, false, false, false, false, false, true, false, false] rfl rfl rfl rfl (two_of HT_.out (by kernel_rfl)) (by decide) (by decide) (fun K hK => ?_) (fun K hK => ?_)
    · refine goes_ Try.func5 (by kernel_rfl) rfl #[.agg #[.slice A0 f.ps.length c0, .slice A1 f.ss.length c1, .slice A2 f.ws.length c2]] (by rfl) rfl rfl (by (try simp only [List.map_toArray, List.map_cons, List.map_nil]); first | done | rfl) ?_
      refine (copyV (mutV f A0 A1 A2 c0 c1 c2 (HFA.out.below HB_1.out)) Hs.out).mono ?_
      rintro e wc2 ⟨v13, rfl, hv, hb⟩
      refine ⟨_, rfl, ?_⟩
      have D0_2 := Aside0.mk ((hb.block _ (lt_of D0_1.out)).trans D0_1.out)
      have D1_2 := Aside0.mk ((hb.block _ (lt_of D1_1.out)).trans D1_1.out)
      have D2_2 := Aside0.mk ((hb.block _ (lt_of D2_1.out)).trans D2_1.out)
      have HB_2 := Aside0.mk (below_step HB_1.out hb)
      have V13_2 := Aside0.mk (hv)
      clear hv
      clear hb hHeld
      refine hK.out _ _ ⟨cell_of D0_2.out 0, cell_of D0_2.out 1, cell_of D0_2.out 2, cell_of D1_2.out 0, cell_of D1_2.out 1, cell_of D1_2.out 2⟩ (fun hHeld => ?_)
      clear hK K
      refine norm_ (a' := ?_) ?_ ?_
      rotate_left
      · show Act.put _ (some 13) _ = _
        simp only [Act.put, List.setIfInBounds_toArray, List.set_cons_zero, List.set_cons_succ, i64_w, i32_w]
        rfl
      refine two_ (i := 3) (j := 8) (Ni := some 15) (Nj := some 7) #[true, true, true, true, false, false, false, false, false, false, false] #[true, true, true, false, false, false, false, false, true, false, false] rfl rfl rfl rfl (two_of HT_.out (by kernel_rfl)) (by decide) (by decide) (fun K hK => ?_) (fun K hK => ?_)
      · refine goes_ Try.func5 (by kernel_rfl) rfl #[.agg #[.slice B0 g.ps.length d0, .slice B1 g.ss.length d1, .slice B2 g.ws.length d2]] (by rfl) rfl rfl (by (try simp only [List.map_toArray, List.map_cons, List.map_nil]); first | done | rfl) ?_
        refine (copyV (mutV g B0 B1 B2 d0 d1 d2 (HFB.out.below HB_2.out)) Ht.out).mono ?_
        rintro e wc3 ⟨v15, rfl, hv, hb⟩
        refine ⟨_, rfl, ?_⟩
        have D0_3 := Aside0.mk ((hb.block _ (lt_of D0_2.out)).trans D0_2.out)
        have D1_3 := Aside0.mk ((hb.block _ (lt_of D1_2.out)).trans D1_2.out)
        have D2_3 := Aside0.mk ((hb.block _ (lt_of D2_2.out)).trans D2_2.out)
        have V13_3 := Aside0.mk (V13_2.out.below hb)
        have HB_3 := Aside0.mk (below_step HB_2.out hb)
        have V15_3 := Aside0.mk (hv)
        clear hv
        clear hb hHeld
        refine hK.out _ _ ⟨cell_of D0_3.out 0, cell_of D0_3.out 1, cell_of D0_3.out 2, cell_of D1_3.out 0, cell_of D1_3.out 1, cell_of D1_3.out 2⟩ (fun hHeld => ?_)
        clear hK K
        refine norm_ (a' := ?_) ?_ ?_
        rotate_left
        · show Act.put _ (some 15) _ = _
          simp only [Act.put, List.setIfInBounds_toArray, List.set_cons_zero, List.set_cons_succ, i64_w, i32_w]
          rfl
        refine two_ (i := 4) (j := 8) (Ni := some 16) (Nj := some 7) #[true, true, true, true, true, false, false, false, false, false, false] #[true, true, true, true, false, false, false, false, true, false, false] rfl rfl rfl rfl (two_of HT_.out (by kernel_rfl)) (by decide) (by decide) (fun K hK => ?_) (fun K hK => ?_)
        · refine goes_ Try.func4 (by kernel_rfl) rfl #[v13, v15] (by rfl) rfl rfl (by (try simp only [List.map_toArray, List.map_cons, List.map_nil]); first | done | rfl) ?_
          refine (clashV V13_3.out V15_3.out Hs.out Hf.out Hg.out).mono ?_
          rintro e wc4 ⟨rfl, hb⟩
          refine ⟨_, rfl, ?_⟩
          have D0_4 := Aside0.mk ((hb.block _ (lt_of D0_3.out)).trans D0_3.out)
          have D1_4 := Aside0.mk ((hb.block _ (lt_of D1_3.out)).trans D1_3.out)
          have D2_4 := Aside0.mk ((hb.block _ (lt_of D2_3.out)).trans D2_3.out)
          have V13_4 := Aside0.mk (V13_3.out.below hb)
          have V15_4 := Aside0.mk (V15_3.out.below hb)
          have HB_4 := Aside0.mk (below_step HB_3.out hb)
          unfold tellV
          clear hb hHeld
          refine hK.out _ _ ⟨cell_of D0_4.out 0, cell_of D0_4.out 1, cell_of D0_4.out 2, cell_of D1_4.out 0, cell_of D1_4.out 1, cell_of D1_4.out 2⟩ (fun hHeld => ?_)
          clear hK K
          refine norm_ (a' := ?_) ?_ ?_
          rotate_left
          · show Act.put _ (some 16) _ = _
            simp only [Act.put, List.setIfInBounds_toArray, List.set_cons_zero, List.set_cons_succ, i64_w, i32_w]
            rfl
          refine pure_ (i := 5) (N := some 11) (v := ?_) (a' := ?_) #[true, true, true, true, true, true, false, false, false, false, false] rfl rfl (any_of HT_.out (by kernel_rfl)) (fun _ _ _ h => h) (Or.inl ⟨by rfl, ?_⟩) ?_ ?_
          rotate_left
          · intro w'
            go_simp
            with_reducible rfl
          rotate_left
          · simp only [Act.put, List.setIfInBounds_toArray, List.set_cons_zero, List.set_cons_succ, i64_w, i32_w]
            rfl
          refine pure_ (i := 6) (N := some 17) (v := ?_) (a' := ?_) #[true, true, true, true, true, true, true, false, false, false, false] rfl rfl (any_of HT_.out (by kernel_rfl)) (fun _ _ _ h => h) (Or.inl ⟨by rfl, ?_⟩) ?_ ?_
          rotate_left
          · intro w'
            go_simp
            with_reducible rfl
          rotate_left
          · simp only [Act.put, List.setIfInBounds_toArray, List.set_cons_zero, List.set_cons_succ, i64_w, i32_w]
            rfl
          refine pure_ (i := 7) (N := some 18) (v := ?_) (a' := ?_) #[true, true, true, true, true, true, true, true, false, false, false] rfl rfl (any_of HT_.out (by kernel_rfl)) (fun _ _ _ h => h) (Or.inl ⟨by rfl, ?_⟩) ?_ ?_
          rotate_left
          · intro w'
            go_simp
            with_reducible rfl
          rotate_left
          · simp only [Act.put, List.setIfInBounds_toArray, List.set_cons_zero, List.set_cons_succ, i64_w, i32_w]
            rfl
          refine one_ (i := 8) (N := some 7) #[true, true, true, true, true, true, true, true, true, false, false] rfl rfl (one_of HT_.out (by kernel_rfl)) (by decide) (fun K hK => ?_)
          have hbA := below_alloc (Below.refl wc4.heap.size wc4) (pO zP)
          have hNw := Aside0.mk (heap_new wc4 (pO zP))
          refine value_ (w1 := ?_) (v := ?_) (by rfl) rfl ?_ ?_
          rotate_left
          rotate_left
          · go_simp
            constructor
            · rfl
            · rfl
          show K _ (wc4.alloc (pO zP))
          obtain ⟨bx, hbx⟩ : ∃ b, b = wc4.heap.size := ⟨_, rfl⟩
          rw [← hbx] at hNw ⊢
          have HBx := Aside0.mk hbx; clear hbx
          generalize wc4.alloc (pO zP) = wa5 at hNw hbA ⊢
          have D0_5 := Aside0.mk ((hbA.block _ (lt_of D0_4.out)).trans D0_4.out)
          have D1_5 := Aside0.mk ((hbA.block _ (lt_of D1_4.out)).trans D1_4.out)
          have D2_5 := Aside0.mk ((hbA.block _ (lt_of D2_4.out)).trans D2_4.out)
          have V13_5 := Aside0.mk (V13_4.out.below hbA)
          have V15_5 := Aside0.mk (V15_4.out.below hbA)
          have HB_5 := Aside0.mk (below_step HB_4.out hbA)
          have HLX := Aside0.mk (show w.heap.size + 1 + 1 < bx by rw [HBx.out]; exact lt_of D2_4.out)
          clear hbA hHeld
          refine hK.out _ _ ⟨cell_of D0_5.out 0, cell_of D0_5.out 1, cell_of D0_5.out 2, cell_of D1_5.out 0, cell_of D1_5.out 1, cell_of D1_5.out 2⟩ (fun hHeld => ?_)
          clear hK K
          refine norm_ (a' := ?_) ?_ ?_
          rotate_left
          · show Act.put _ (some 7) _ = _
            simp only [Act.put, List.setIfInBounds_toArray, List.set_cons_zero, List.set_cons_succ, i64_w, i32_w]
            rfl
          refine norm_ ?_ (HJ.out (v13, v15, bx) _ ⟨D0_5.out, D1_5.out, D2_5.out, hNw.out, HLX.out, HB_5.out⟩)
          simp only [putAll, Act.put, List.setIfInBounds_toArray, List.set_cons_zero, List.set_cons_succ]
        · have hbA := below_alloc (Below.refl wc3.heap.size wc3) (pO zP)
          have hNw := Aside0.mk (heap_new wc3 (pO zP))
          refine value_ (w1 := ?_) (v := ?_) (by rfl) rfl ?_ ?_
          rotate_left
          rotate_left
          · go_simp
            constructor
            · rfl
            · rfl
          show K _ (wc3.alloc (pO zP))
          obtain ⟨bx, hbx⟩ : ∃ b, b = wc3.heap.size := ⟨_, rfl⟩
          rw [← hbx] at hNw ⊢
          have HBx := Aside0.mk hbx; clear hbx
          generalize wc3.alloc (pO zP) = wa6 at hNw hbA ⊢
          have D0_6 := Aside0.mk ((hbA.block _ (lt_of D0_3.out)).trans D0_3.out)
          have D1_6 := Aside0.mk ((hbA.block _ (lt_of D1_3.out)).trans D1_3.out)
          have D2_6 := Aside0.mk ((hbA.block _ (lt_of D2_3.out)).trans D2_3.out)
          have V13_6 := Aside0.mk (V13_3.out.below hbA)
          have V15_6 := Aside0.mk (V15_3.out.below hbA)
          have HB_6 := Aside0.mk (below_step HB_3.out hbA)
          have HLX := Aside0.mk (show w.heap.size + 1 + 1 < bx by rw [HBx.out]; exact lt_of D2_3.out)
          clear hbA hHeld
          refine hK.out _ _ ⟨cell_of D0_6.out 0, cell_of D0_6.out 1, cell_of D0_6.out 2, cell_of D1_6.out 0, cell_of D1_6.out 1, cell_of D1_6.out 2⟩ (fun hHeld => ?_)
          clear hK K
          refine norm_ (a' := ?_) ?_ ?_
          rotate_left
          · show Act.put _ (some 7) _ = _
            simp only [Act.put, List.setIfInBounds_toArray, List.set_cons_zero, List.set_cons_succ, i64_w, i32_w]
            rfl
          refine one_ (i := 4) (N := some 16) #[true, true, true, true, true, false, false, false, true, false, false] rfl rfl (one_of HT_.out (by kernel_rfl)) (by decide) (fun K hK => ?_)
          refine goes_ Try.func4 (by kernel_rfl) rfl #[v13, v15] (by rfl) rfl rfl (by (try simp only [List.map_toArray, List.map_cons, List.map_nil]); first | done | rfl) ?_
          refine (clashV V13_6.out V15_6.out Hs.out Hf.out Hg.out).mono ?_
          rintro e wc7 ⟨rfl, hb⟩
          refine ⟨_, rfl, ?_⟩
          have D0_7 := Aside0.mk ((hb.block _ (lt_of D0_6.out)).trans D0_6.out)
          have D1_7 := Aside0.mk ((hb.block _ (lt_of D1_6.out)).trans D1_6.out)
          have D2_7 := Aside0.mk ((hb.block _ (lt_of D2_6.out)).trans D2_6.out)
          have V13_7 := Aside0.mk (V13_6.out.below hb)
          have V15_7 := Aside0.mk (V15_6.out.below hb)
          have X_7 := Aside0.mk ((hb.block _ (lt_of hNw.out)).trans hNw.out)
          have HB_7 := Aside0.mk (below_step HB_6.out hb)
          unfold tellV
          clear hb hHeld
          refine hK.out _ _ ⟨cell_of D0_7.out 0, cell_of D0_7.out 1, cell_of D0_7.out 2, cell_of D1_7.out 0, cell_of D1_7.out 1, cell_of D1_7.out 2⟩ (fun hHeld => ?_)
          clear hK K
          refine norm_ (a' := ?_) ?_ ?_
          rotate_left
          · show Act.put _ (some 16) _ = _
            simp only [Act.put, List.setIfInBounds_toArray, List.set_cons_zero, List.set_cons_succ, i64_w, i32_w]
            rfl
          refine pure_ (i := 5) (N := some 11) (v := ?_) (a' := ?_) #[true, true, true, true, true, true, false, false, true, false, false] rfl rfl (any_of HT_.out (by kernel_rfl)) (fun _ _ _ h => h) (Or.inl ⟨by rfl, ?_⟩) ?_ ?_
          rotate_left
          · intro w'
            go_simp
            with_reducible rfl
          rotate_left
          · simp only [Act.put, List.setIfInBounds_toArray, List.set_cons_zero, List.set_cons_succ, i64_w, i32_w]
            rfl
          refine pure_ (i := 6) (N := some 17) (v := ?_) (a' := ?_) #[true, true, true, true, true, true, true, false, true, false, false] rfl rfl (any_of HT_.out (by kernel_rfl)) (fun _ _ _ h => h) (Or.inl ⟨by rfl, ?_⟩) ?_ ?_
          rotate_left
          · intro w'
            go_simp
            with_reducible rfl
          rotate_left
          · simp only [Act.put, List.setIfInBounds_toArray, List.set_cons_zero, List.set_cons_succ, i64_w, i32_w]
            rfl
          refine pure_ (i := 7) (N := some 18) (v := ?_) (a' := ?_) #[true, true, true, true, true, true, true, true, true, false, false] rfl rfl (any_of HT_.out (by kernel_rfl)) (fun _ _ _ h => h) (Or.inl ⟨by rfl, ?_⟩) ?_ ?_
          rotate_left
          · intro w'
            go_simp
            with_reducible rfl
          rotate_left
          · simp only [Act.put, List.setIfInBounds_toArray, List.set_cons_zero, List.set_cons_succ, i64_w, i32_w]
            rfl
          refine norm_ ?_ (HJ.out (v13, v15, bx) _ ⟨D0_7.out, D1_7.out, D2_7.out, X_7.out, HLX.out, HB_7.out⟩)
          simp only [putAll, Act.put, List.setIfInBounds_toArray, List.set_cons_zero, List.set_cons_succ]
      · have hbA := below_alloc (Below.refl wc2.heap.size wc2) (pO zP)
        have hNw := Aside0.mk (heap_new wc2 (pO zP))
        refine value_ (w1 := ?_) (v := ?_) (by rfl) rfl ?_ ?_
        rotate_left
        rotate_left
        · go_simp
          constructor
          · rfl
          · rfl
        show K _ (wc2.alloc (pO zP))
        obtain ⟨bx, hbx⟩ : ∃ b, b = wc2.heap.size := ⟨_, rfl⟩
        rw [← hbx] at hNw ⊢
        have HBx := Aside0.mk hbx; clear hbx
        generalize wc2.alloc (pO zP) = wa8 at hNw hbA ⊢
        have D0_8 := Aside0.mk ((hbA.block _ (lt_of D0_2.out)).trans D0_2.out)
        have D1_8 := Aside0.mk ((hbA.block _ (lt_of D1_2.out)).trans D1_2.out)
        have D2_8 := Aside0.mk ((hbA.block _ (lt_of D2_2.out)).trans D2_2.out)
        have V13_8 := Aside0.mk (V13_2.out.below hbA)
        have HB_8 := Aside0.mk (below_step HB_2.out hbA)
        have HLX := Aside0.mk (show w.heap.size + 1 + 1 < bx by rw [HBx.out]; exact lt_of D2_2.out)
        clear hbA hHeld
        refine hK.out _ _ ⟨cell_of D0_8.out 0, cell_of D0_8.out 1, cell_of D0_8.out 2, cell_of D1_8.out 0, cell_of D1_8.out 1, cell_of D1_8.out 2⟩ (fun hHeld => ?_)
        clear hK K
        refine norm_ (a' := ?_) ?_ ?_
        rotate_left
        · show Act.put _ (some 7) _ = _
          simp only [Act.put, List.setIfInBounds_toArray, List.set_cons_zero, List.set_cons_succ, i64_w, i32_w]
          rfl
        refine one_ (i := 3) (N := some 15) #[true, true, true, true, false, false, false, false, true, false, false] rfl rfl (one_of HT_.out (by kernel_rfl)) (by decide) (fun K hK => ?_)
        refine goes_ Try.func5 (by kernel_rfl) rfl #[.agg #[.slice B0 g.ps.length d0, .slice B1 g.ss.length d1, .slice B2 g.ws.length d2]] (by rfl) rfl rfl (by (try simp only [List.map_toArray, List.map_cons, List.map_nil]); first | done | rfl) ?_
        refine (copyV (mutV g B0 B1 B2 d0 d1 d2 (HFB.out.below HB_8.out)) Ht.out).mono ?_
        rintro e wc9 ⟨v15, rfl, hv, hb⟩
        refine ⟨_, rfl, ?_⟩
        have D0_9 := Aside0.mk ((hb.block _ (lt_of D0_8.out)).trans D0_8.out)
        have D1_9 := Aside0.mk ((hb.block _ (lt_of D1_8.out)).trans D1_8.out)
        have D2_9 := Aside0.mk ((hb.block _ (lt_of D2_8.out)).trans D2_8.out)
        have V13_9 := Aside0.mk (V13_8.out.below hb)
        have X_9 := Aside0.mk ((hb.block _ (lt_of hNw.out)).trans hNw.out)
        have HB_9 := Aside0.mk (below_step HB_8.out hb)
        have V15_9 := Aside0.mk (hv)
        clear hv
        clear hb hHeld
        refine hK.out _ _ ⟨cell_of D0_9.out 0, cell_of D0_9.out 1, cell_of D0_9.out 2, cell_of D1_9.out 0, cell_of D1_9.out 1, cell_of D1_9.out 2⟩ (fun hHeld => ?_)
        clear hK K
        refine norm_ (a' := ?_) ?_ ?_
        rotate_left
        · show Act.put _ (some 15) _ = _
          simp only [Act.put, List.setIfInBounds_toArray, List.set_cons_zero, List.set_cons_succ, i64_w, i32_w]
          rfl
        refine one_ (i := 4) (N := some 16) #[true, true, true, true, true, false, false, false, true, false, false] rfl rfl (one_of HT_.out (by kernel_rfl)) (by decide) (fun K hK => ?_)
        refine goes_ Try.func4 (by kernel_rfl) rfl #[v13, v15] (by rfl) rfl rfl (by (try simp only [List.map_toArray, List.map_cons, List.map_nil]); first | done | rfl) ?_
        refine (clashV V13_9.out V15_9.out Hs.out Hf.out Hg.out).mono ?_
        rintro e wc10 ⟨rfl, hb⟩
        refine ⟨_, rfl, ?_⟩
        have D0_10 := Aside0.mk ((hb.block _ (lt_of D0_9.out)).trans D0_9.out)
        have D1_10 := Aside0.mk ((hb.block _ (lt_of D1_9.out)).trans D1_9.out)
        have D2_10 := Aside0.mk ((hb.block _ (lt_of D2_9.out)).trans D2_9.out)
        have V13_10 := Aside0.mk (V13_9.out.below hb)
        have X_10 := Aside0.mk ((hb.block _ (lt_of X_9.out)).trans X_9.out)
        have V15_10 := Aside0.mk (V15_9.out.below hb)
        have HB_10 := Aside0.mk (below_step HB_9.out hb)
        unfold tellV
        clear hb hHeld
        refine hK.out _ _ ⟨cell_of D0_10.out 0, cell_of D0_10.out 1, cell_of D0_10.out 2, cell_of D1_10.out 0, cell_of D1_10.out 1, cell_of D1_10.out 2⟩ (fun hHeld => ?_)
        clear hK K
        refine norm_ (a' := ?_) ?_ ?_
        rotate_left
        · show Act.put _ (some 16) _ = _
          simp only [Act.put, List.setIfInBounds_toArray, List.set_cons_zero, List.set_cons_succ, i64_w, i32_w]
          rfl
        refine pure_ (i := 5) (N := some 11) (v := ?_) (a' := ?_) #[true, true, true, true, true, true, false, false, true, false, false] rfl rfl (any_of HT_.out (by kernel_rfl)) (fun _ _ _ h => h) (Or.inl ⟨by rfl, ?_⟩) ?_ ?_
        rotate_left
        · intro w'
          go_simp
          with_reducible rfl
        rotate_left
        · simp only [Act.put, List.setIfInBounds_toArray, List.set_cons_zero, List.set_cons_succ, i64_w, i32_w]
          rfl
        refine pure_ (i := 6) (N := some 17) (v := ?_) (a' := ?_) #[true, true, true, true, true, true, true, false, true, false, false] rfl rfl (any_of HT_.out (by kernel_rfl)) (fun _ _ _ h => h) (Or.inl ⟨by rfl, ?_⟩) ?_ ?_
        rotate_left
        · intro w'
          go_simp
          with_reducible rfl
        rotate_left
        · simp only [Act.put, List.setIfInBounds_toArray, List.set_cons_zero, List.set_cons_succ, i64_w, i32_w]
          rfl
        refine pure_ (i := 7) (N := some 18) (v := ?_) (a' := ?_) #[true, true, true, true, true, true, true, true, true, false, false] rfl rfl (any_of HT_.out (by kernel_rfl)) (fun _ _ _ h => h) (Or.inl ⟨by rfl, ?_⟩) ?_ ?_
        rotate_left
        · intro w'
          go_simp
          with_reducible rfl
        rotate_left
        · simp only [Act.put, List.setIfInBounds_toArray, List.set_cons_zero, List.set_cons_succ, i64_w, i32_w]
          rfl
        refine norm_ ?_ (HJ.out (v13, v15, bx) _ ⟨D0_10.out, D1_10.out, D2_10.out, X_10.out, HLX.out, HB_10.out⟩)
        simp only [putAll, Act.put, List.setIfInBounds_toArray, List.set_cons_zero, List.set_cons_succ]
    · have hbA := below_alloc (Below.refl w2.heap.size w2) (pO zP)
      have hNw := Aside0.mk (heap_new w2 (pO zP))
      refine value_ (w1 := ?_) (v := ?_) (by rfl) rfl ?_ ?_
      rotate_left
      rotate_left
      · go_simp
        constructor
        · rfl
        · rfl
      show K _ (w2.alloc (pO zP))
      obtain ⟨bx, hbx⟩ : ∃ b, b = w2.heap.size := ⟨_, rfl⟩
      rw [← hbx] at hNw ⊢
      have HBx := Aside0.mk hbx; clear hbx
      generalize w2.alloc (pO zP) = wa11 at hNw hbA ⊢
      have D0_11 := Aside0.mk ((hbA.block _ (lt_of D0_1.out)).trans D0_1.out)
      have D1_11 := Aside0.mk ((hbA.block _ (lt_of D1_1.out)).trans D1_1.out)
      have D2_11 := Aside0.mk ((hbA.block _ (lt_of D2_1.out)).trans D2_1.out)
      have HB_11 := Aside0.mk (below_step HB_1.out hbA)
      have HLX := Aside0.mk (show w.heap.size + 1 + 1 < bx by rw [HBx.out]; exact lt_of D2_1.out)
      clear hbA hHeld
      refine hK.out _ _ ⟨cell_of D0_11.out 0, cell_of D0_11.out 1, cell_of D0_11.out 2, cell_of D1_11.out 0, cell_of D1_11.out 1, cell_of D1_11.out 2⟩ (fun hHeld => ?_)
      clear hK K
      refine norm_ (a' := ?_) ?_ ?_
      rotate_left
      · show Act.put _ (some 7) _ = _
        simp only [Act.put, List.setIfInBounds_toArray, List.set_cons_zero, List.set_cons_succ, i64_w, i32_w]
        rfl
      refine one_ (i := 1) (N := some 13) #[true, true, true, false, false, false, false, false, true, false, false] rfl rfl (one_of HT_.out (by kernel_rfl)) (by decide) (fun K hK => ?_)
      refine goes_ Try.func5 (by kernel_rfl) rfl #[.agg #[.slice A0 f.ps.length c0, .slice A1 f.ss.length c1, .slice A2 f.ws.length c2]] (by rfl) rfl rfl (by (try simp only [List.map_toArray, List.map_cons, List.map_nil]); first | done | rfl) ?_
      refine (copyV (mutV f A0 A1 A2 c0 c1 c2 (HFA.out.below HB_11.out)) Hs.out).mono ?_
      rintro e wc12 ⟨v13, rfl, hv, hb⟩
      refine ⟨_, rfl, ?_⟩
      have D0_12 := Aside0.mk ((hb.block _ (lt_of D0_11.out)).trans D0_11.out)
      have D1_12 := Aside0.mk ((hb.block _ (lt_of D1_11.out)).trans D1_11.out)
      have D2_12 := Aside0.mk ((hb.block _ (lt_of D2_11.out)).trans D2_11.out)
      have X_12 := Aside0.mk ((hb.block _ (lt_of hNw.out)).trans hNw.out)
      have HB_12 := Aside0.mk (below_step HB_11.out hb)
      have V13_12 := Aside0.mk (hv)
      clear hv
      clear hb hHeld
      refine hK.out _ _ ⟨cell_of D0_12.out 0, cell_of D0_12.out 1, cell_of D0_12.out 2, cell_of D1_12.out 0, cell_of D1_12.out 1, cell_of D1_12.out 2⟩ (fun hHeld => ?_)
      clear hK K
      refine norm_ (a' := ?_) ?_ ?_
      rotate_left
      · show Act.put _ (some 13) _ = _
        simp only [Act.put, List.setIfInBounds_toArray, List.set_cons_zero, List.set_cons_succ, i64_w, i32_w]
        rfl
      refine one_ (i := 3) (N := some 15) #[true, true, true, true, false, false, false, false, true, false, false] rfl rfl (one_of HT_.out (by kernel_rfl)) (by decide) (fun K hK => ?_)
      refine goes_ Try.func5 (by kernel_rfl) rfl #[.agg #[.slice B0 g.ps.length d0, .slice B1 g.ss.length d1, .slice B2 g.ws.length d2]] (by rfl) rfl rfl (by (try simp only [List.map_toArray, List.map_cons, List.map_nil]); first | done | rfl) ?_
      refine (copyV (mutV g B0 B1 B2 d0 d1 d2 (HFB.out.below HB_12.out)) Ht.out).mono ?_
      rintro e wc13 ⟨v15, rfl, hv, hb⟩
      refine ⟨_, rfl, ?_⟩
      have D0_13 := Aside0.mk ((hb.block _ (lt_of D0_12.out)).trans D0_12.out)
      have D1_13 := Aside0.mk ((hb.block _ (lt_of D1_12.out)).trans D1_12.out)
      have D2_13 := Aside0.mk ((hb.block _ (lt_of D2_12.out)).trans D2_12.out)
      have X_13 := Aside0.mk ((hb.block _ (lt_of X_12.out)).trans X_12.out)
      have V13_13 := Aside0.mk (V13_12.out.below hb)
      have HB_13 := Aside0.mk (below_step HB_12.out hb)
      have V15_13 := Aside0.mk (hv)
      clear hv
      clear hb hHeld
      refine hK.out _ _ ⟨cell_of D0_13.out 0, cell_of D0_13.out 1, cell_of D0_13.out 2, cell_of D1_13.out 0, cell_of D1_13.out 1, cell_of D1_13.out 2⟩ (fun hHeld => ?_)
      clear hK K
      refine norm_ (a' := ?_) ?_ ?_
      rotate_left
      · show Act.put _ (some 15) _ = _
        simp only [Act.put, List.setIfInBounds_toArray, List.set_cons_zero, List.set_cons_succ, i64_w, i32_w]
        rfl
      refine one_ (i := 4) (N := some 16) #[true, true, true, true, true, false, false, false, true, false, false] rfl rfl (one_of HT_.out (by kernel_rfl)) (by decide) (fun K hK => ?_)
      refine goes_ Try.func4 (by kernel_rfl) rfl #[v13, v15] (by rfl) rfl rfl (by (try simp only [List.map_toArray, List.map_cons, List.map_nil]); first | done | rfl) ?_
      refine (clashV V13_13.out V15_13.out Hs.out Hf.out Hg.out).mono ?_
      rintro e wc14 ⟨rfl, hb⟩
      refine ⟨_, rfl, ?_⟩
      have D0_14 := Aside0.mk ((hb.block _ (lt_of D0_13.out)).trans D0_13.out)
      have D1_14 := Aside0.mk ((hb.block _ (lt_of D1_13.out)).trans D1_13.out)
      have D2_14 := Aside0.mk ((hb.block _ (lt_of D2_13.out)).trans D2_13.out)
      have X_14 := Aside0.mk ((hb.block _ (lt_of X_13.out)).trans X_13.out)
      have V13_14 := Aside0.mk (V13_13.out.below hb)
      have V15_14 := Aside0.mk (V15_13.out.below hb)
      have HB_14 := Aside0.mk (below_step HB_13.out hb)
      unfold tellV
      clear hb hHeld
      refine hK.out _ _ ⟨cell_of D0_14.out 0, cell_of D0_14.out 1, cell_of D0_14.out 2, cell_of D1_14.out 0, cell_of D1_14.out 1, cell_of D1_14.out 2⟩ (fun hHeld => ?_)
      clear hK K
      refine norm_ (a' := ?_) ?_ ?_
      rotate_left
      · show Act.put _ (some 16) _ = _
        simp only [Act.put, List.setIfInBounds_toArray, List.set_cons_zero, List.set_cons_succ, i64_w, i32_w]
        rfl
      refine pure_ (i := 5) (N := some 11) (v := ?_) (a' := ?_) #[true, true, true, true, true, true, false, false, true, false, false] rfl rfl (any_of HT_.out (by kernel_rfl)) (fun _ _ _ h => h) (Or.inl ⟨by rfl, ?_⟩) ?_ ?_
      rotate_left
      · intro w'
        go_simp
        with_reducible rfl
      rotate_left
      · simp only [Act.put, List.setIfInBounds_toArray, List.set_cons_zero, List.set_cons_succ, i64_w, i32_w]
        rfl
      refine pure_ (i := 6) (N := some 17) (v := ?_) (a' := ?_) #[true, true, true, true, true, true, true, false, true, false, false] rfl rfl (any_of HT_.out (by kernel_rfl)) (fun _ _ _ h => h) (Or.inl ⟨by rfl, ?_⟩) ?_ ?_
      rotate_left
      · intro w'
        go_simp
        with_reducible rfl
      rotate_left
      · simp only [Act.put, List.setIfInBounds_toArray, List.set_cons_zero, List.set_cons_succ, i64_w, i32_w]
        rfl
      refine pure_ (i := 7) (N := some 18) (v := ?_) (a' := ?_) #[true, true, true, true, true, true, true, true, true, false, false] rfl rfl (any_of HT_.out (by kernel_rfl)) (fun _ _ _ h => h) (Or.inl ⟨by rfl, ?_⟩) ?_ ?_
      rotate_left
      · intro w'
        go_simp
        with_reducible rfl
      rotate_left
      · simp only [Act.put, List.setIfInBounds_toArray, List.set_cons_zero, List.set_cons_succ, i64_w, i32_w]
        rfl
      refine norm_ ?_ (HJ.out (v13, v15, bx) _ ⟨D0_14.out, D1_14.out, D2_14.out, X_14.out, HLX.out, HB_14.out⟩)
      simp only [putAll, Act.put, List.setIfInBounds_toArray, List.set_cons_zero, List.set_cons_succ]
  case rest =>
    clear D0_1 D1_1 D2_1 HB_1 hHeld
    rintro ⟨v13, v15, bx⟩ wj ⟨d0_, d1_, d2_, x0_, hlx, hbw⟩
    change wj.heap[bx]? = some (pO zP) at x0_
    change w.heap.size + 1 + 1 < bx at hlx
    have J0 := Aside0.mk d0_; clear d0_
    have J1 := Aside0.mk d1_; clear d1_
    have J2 := Aside0.mk d2_; clear d2_
    have JX := Aside0.mk x0_; clear x0_
    have JL := Aside0.mk hlx; clear hlx
    have JW := Aside0.mk hbw; clear hbw
    refine norm_ (a' := ?_) ?_ ?_
    rotate_left
    · simp only [putAll, Act.put, List.setIfInBounds_toArray, List.set_cons_zero, List.set_cons_succ]
      rfl
    have hp1 : ∃ p1, p1 = (clashSS f g).getD zP := ⟨_, rfl⟩
    obtain ⟨p1, hp1⟩ := hp1
    have HP1 := Aside0.mk hp1; clear hp1
    rw [← HP1.out]
    generalize hk1 : (clashSS f g).isSome = k1
    have HK1 := Aside0.mk hk1; clear hk1
    have hHeld : wj.cell? ⟨w.heap.size, 0, none⟩ = some (.slice A0 f.ps.length c0) ∧ wj.cell? ⟨w.heap.size, 1, none⟩ = some (.slice A1 f.ss.length c1) ∧ wj.cell? ⟨w.heap.size, 2, none⟩ = some (.slice A2 f.ws.length c2) ∧ wj.cell? ⟨w.heap.size + 1, 0, none⟩ = some (.slice B0 g.ps.length d0) ∧ wj.cell? ⟨w.heap.size + 1, 1, none⟩ = some (.slice B1 g.ss.length d1) ∧ wj.cell? ⟨w.heap.size + 1, 2, none⟩ = some (.slice B2 g.ws.length d2) := ⟨cell_of J0.out 0, cell_of J0.out 1, cell_of J0.out 2, cell_of J1.out 0, cell_of J1.out 1, cell_of J1.out 2⟩
    refine one_ (i := 9) (N := none) #[true, true, true, true, true, true, true, true, true, true, false] rfl rfl (one_of HT_.out (by kernel_rfl)) (by decide) (fun K hK => ?_)
    have q0 := cell_of JX.out 0; have z0 := frozen_of JX.out 0
    have q1 := cell_of JX.out 1; have z1 := frozen_of JX.out 1
    have q2 := cell_of JX.out 2; have z2 := frozen_of JX.out 2
    simp only [List.getElem?_toArray, List.getElem?_cons_zero, List.getElem?_cons_succ] at q0 q1 q2
    unfold pv
    refine skip_ (w1 := ?_) (by rfl) rfl ?_ ?_
    rotate_left
    · go_simp
      rfl
    clear q0 q1 q2 z0 z1 z2 hHeld
    have hch : ((wj.setCell ⟨bx, 0, none⟩ (.int .i64 p1.f0)).setCell ⟨bx, 1, none⟩ (.int .i64 p1.f1)).setCell ⟨bx, 2, none⟩ (.string p1.f2) = wj.setCells bx 0 [.int .i64 p1.f0, .int .i64 p1.f1, .string p1.f2] := rfl
    have hfar : ∀ k, k ≠ bx → (((wj.setCell ⟨bx, 0, none⟩ (.int .i64 p1.f0)).setCell ⟨bx, 1, none⟩ (.int .i64 p1.f1)).setCell ⟨bx, 2, none⟩ (.string p1.f2)).heap[k]? = wj.heap[k]? := fun k hk => by rw [hch]; exact setCells_far _ 0 k hk
    have hnew : (((wj.setCell ⟨bx, 0, none⟩ (.int .i64 p1.f0)).setCell ⟨bx, 1, none⟩ (.int .i64 p1.f1)).setCell ⟨bx, 2, none⟩ (.string p1.f2)).heap[bx]? = some (pO p1) := setCell_heap (setCell_heap (setCell_heap JX.out _) _) _
    have hbs : Below w.heap.size w (((wj.setCell ⟨bx, 0, none⟩ (.int .i64 p1.f0)).setCell ⟨bx, 1, none⟩ (.int .i64 p1.f1)).setCell ⟨bx, 2, none⟩ (.string p1.f2)) := by rw [hch]; exact below_sets (by have h1 := JL.out; omega) _ _ JW.out
    clear hch
    generalize ((wj.setCell ⟨bx, 0, none⟩ (.int .i64 p1.f0)).setCell ⟨bx, 1, none⟩ (.int .i64 p1.f1)).setCell ⟨bx, 2, none⟩ (.string p1.f2) = wk at hfar hnew hbs ⊢
    have D0_15 := Aside0.mk ((hfar _ (by have h1 := JL.out; omega)).trans J0.out)
    have D1_15 := Aside0.mk ((hfar _ (by have h1 := JL.out; omega)).trans J1.out)
    have D2_15 := Aside0.mk ((hfar _ (by have h1 := JL.out; omega)).trans J2.out)
    have X_15 := Aside0.mk hnew
    have HB_15 := Aside0.mk hbs
    clear hfar hnew hbs
    refine hK.out _ _ ⟨cell_of D0_15.out 0, cell_of D0_15.out 1, cell_of D0_15.out 2, cell_of D1_15.out 0, cell_of D1_15.out 1, cell_of D1_15.out 2⟩ (fun hHeld => ?_)
    clear hK K
    refine pure_ (i := 10) (N := some 8) (v := ?_) (a' := ?_) #[true, true, true, true, true, true, true, true, true, true, true] rfl rfl (any_of HT_.out (by kernel_rfl)) (fun _ _ _ h => h) (Or.inl ⟨by rfl, ?_⟩) ?_ ?_
    rotate_left
    · intro w'
      go_simp
      with_reducible rfl
    rotate_left
    · simp only [Act.put, List.setIfInBounds_toArray, List.set_cons_zero, List.set_cons_succ, i64_w, i32_w]
      rfl
    refine done_ (done_of HT_.out (by kernel_rfl)) ?_
    clear hHeld HT_
    have ca0 : wk.cell? ⟨w.heap.size, 0, none⟩ = some (.slice A0 f.ps.length c0) := cell_of D0_15.out 0; have ca1 : wk.cell? ⟨w.heap.size, 1, none⟩ = some (.slice A1 f.ss.length c1) := cell_of D0_15.out 1; have ca2 : wk.cell? ⟨w.heap.size, 2, none⟩ = some (.slice A2 f.ws.length c2) := cell_of D0_15.out 2
    have cb0 : wk.cell? ⟨w.heap.size + 1, 0, none⟩ = some (.slice B0 g.ps.length d0) := cell_of D1_15.out 0; have cb1 : wk.cell? ⟨w.heap.size + 1, 1, none⟩ = some (.slice B1 g.ss.length d1) := cell_of D1_15.out 1; have cb2 : wk.cell? ⟨w.heap.size + 1, 2, none⟩ = some (.slice B2 g.ws.length d2) := cell_of D1_15.out 2
    have hcall := rclashV (mutV f A0 A1 A2 c0 c1 c2 (HFA.out.below HB_15.out)) (mutV g B0 B1 B2 d0 d1 d2 (HFB.out.below HB_15.out)) Hs.out Ht.out
    unfold tellV at hcall
    rw [← HP1.out, HK1.out] at hcall
    have HCall := Aside0.mk hcall; clear hcall
    go_wp2_with (go_at_call 6; refine HCall.out.mono ?_; rintro e wl ⟨rfl, hb⟩; have HBl := Aside0.mk hb; have hX := Aside0.mk ((hb.block _ (lt_of X_15.out)).trans X_15.out); clear hb; have x0 : wl.cell? ⟨bx, 0, none⟩ = some (.int .i64 p1.f0) := cell_of hX.out 0; have x1 : wl.cell? ⟨bx, 1, none⟩ = some (.int .i64 p1.f1) := cell_of hX.out 1; have x2 : wl.cell? ⟨bx, 2, none⟩ = some (.string p1.f2) := cell_of hX.out 2; have hxl := lt_of hX.out; have nx : (bx = wl.heap.size) = False := eq_false (by omega); unfold pv)
    clear nx hxl x0 x1 x2 hX ca0 ca1 ca2 cb0 cb1 cb2 HCall
    have D0_16 := Aside0.mk ((HBl.out.block _ (lt_of D0_15.out)).trans D0_15.out)
    have D1_16 := Aside0.mk ((HBl.out.block _ (lt_of D1_15.out)).trans D1_15.out)
    have D2_16 := Aside0.mk ((HBl.out.block _ (lt_of D2_15.out)).trans D2_15.out)
    have X_16 := Aside0.mk ((HBl.out.block _ (lt_of X_15.out)).trans X_15.out)
    have HB_16 := Aside0.mk (below_step HB_15.out HBl.out)
    have hbM := below_alloc (Below.refl wl.heap.size wl) (pO p1)
    have hNw := Aside0.mk (heap_new wl (pO p1))
    change Code.wp _ _ _ _ (wl.alloc (pO p1))
    obtain ⟨by_, hby⟩ : ∃ b, b = wl.heap.size := ⟨_, rfl⟩
    rw [← hby] at hNw ⊢
    have HLY := Aside0.mk (show bx < by_ by rw [hby]; exact lt_of X_16.out)
    clear hby
    generalize wl.alloc (pO p1) = wm at hNw hbM ⊢
    have D0_17 := Aside0.mk ((hbM.block _ (lt_of D0_16.out)).trans D0_16.out)
    have D1_17 := Aside0.mk ((hbM.block _ (lt_of D1_16.out)).trans D1_16.out)
    have D2_17 := Aside0.mk ((hbM.block _ (lt_of D2_16.out)).trans D2_16.out)
    have X_17 := Aside0.mk ((hbM.block _ (lt_of X_16.out)).trans X_16.out)
    have HB_17 := Aside0.mk (below_step HB_16.out hbM)
    clear hbM HBl
    refine start_ (n := 10) (S := fun w' => w'.cell? ⟨w.heap.size, 0, none⟩ = some (.slice A0 f.ps.length c0) ∧ w'.cell? ⟨w.heap.size, 1, none⟩ = some (.slice A1 f.ss.length c1) ∧ w'.cell? ⟨w.heap.size, 2, none⟩ = some (.slice A2 f.ws.length c2) ∧ w'.cell? ⟨w.heap.size + 1, 0, none⟩ = some (.slice B0 g.ps.length d0) ∧ w'.cell? ⟨w.heap.size + 1, 1, none⟩ = some (.slice B1 g.ss.length d1) ∧ w'.cell? ⟨w.heap.size + 1, 2, none⟩ = some (.slice B2 g.ws.length d2)) (ds := []) #[false, false, false, false, false, false, false, false, false, false] (by kernel_rfl) rfl rfl ⟨cell_of D0_17.out 0, cell_of D0_17.out 1, cell_of D0_17.out 2, cell_of D1_17.out 0, cell_of D1_17.out 1, cell_of D1_17.out 2⟩ (fun hHeld => ?_); refine with_tab tab3_5 (fun HT_ => ?_)
    have hbD := below_drew1 (Below.refl wm.heap.size wm)
    generalize wm.drew = wn at hbD hHeld ⊢
    have D0_18 := Aside0.mk ((hbD.block _ (lt_of D0_17.out)).trans D0_17.out)
    have D1_18 := Aside0.mk ((hbD.block _ (lt_of D1_17.out)).trans D1_17.out)
    have D2_18 := Aside0.mk ((hbD.block _ (lt_of D2_17.out)).trans D2_17.out)
    have X_18 := Aside0.mk ((hbD.block _ (lt_of X_17.out)).trans X_17.out)
    have Y_18 := Aside0.mk ((hbD.block _ (lt_of hNw.out)).trans hNw.out)
    have HB_18 := Aside0.mk (below_step HB_17.out hbD)
    clear hbD
    refine take_ (i := 0) (N := some 34) (v := ?_) (a' := ?_) #[true, false, false, false, false, false, false, false, false, false] rfl rfl (take_of HT_.out (by kernel_rfl)) (fun _ _ _ h => h) (Or.inl ⟨by rfl, ?_⟩) hHeld ?_ ?_
    rotate_left
    · rintro w' ⟨s0, s1, s2, s3, s4, s5⟩
      go_simp
      with_reducible rfl
    rotate_left
    · simp only [Act.put, List.setIfInBounds_toArray, List.set_cons_zero, List.set_cons_succ, i64_w, i32_w]
      rfl
    refine take_ (i := 2) (N := some 36) (v := ?_) (a' := ?_) #[true, false, true, false, false, false, false, false, false, false] rfl rfl (take_of HT_.out (by kernel_rfl)) (fun _ _ _ h => h) (Or.inl ⟨by rfl, ?_⟩) hHeld ?_ ?_
    rotate_left
    · rintro w' ⟨s0, s1, s2, s3, s4, s5⟩
      go_simp
      with_reducible rfl
    rotate_left
    · simp only [Act.put, List.setIfInBounds_toArray, List.set_cons_zero, List.set_cons_succ, i64_w, i32_w]
      rfl
    refine one_ (i := 1) (N := some 35) #[true, true, true, false, false, false, false, false, false, false] rfl rfl (one_of HT_.out (by kernel_rfl)) (by decide) (fun K hK => ?_)
    refine goes_ Try.func5 (by kernel_rfl) rfl #[.agg #[.slice A0 f.ps.length c0, .slice A1 f.ss.length c1, .slice A2 f.ws.length c2]] (by rfl) rfl rfl (by (try simp only [List.map_toArray, List.map_cons, List.map_nil]); first | done | rfl) ?_
    refine (copyV (mutV f A0 A1 A2 c0 c1 c2 (HFA.out.below HB_18.out)) Hs.out).mono ?_
    rintro e wc19 ⟨v35, rfl, hv, hb⟩
    refine ⟨_, rfl, ?_⟩
    have D0_19 := Aside0.mk ((hb.block _ (lt_of D0_18.out)).trans D0_18.out)
    have D1_19 := Aside0.mk ((hb.block _ (lt_of D1_18.out)).trans D1_18.out)
    have D2_19 := Aside0.mk ((hb.block _ (lt_of D2_18.out)).trans D2_18.out)
    have X_19 := Aside0.mk ((hb.block _ (lt_of X_18.out)).trans X_18.out)
    have Y_19 := Aside0.mk ((hb.block _ (lt_of Y_18.out)).trans Y_18.out)
    have HB_19 := Aside0.mk (below_step HB_18.out hb)
    have V35_19 := Aside0.mk (hv)
    clear hv
    clear hb hHeld
    refine hK.out _ _ ⟨cell_of D0_19.out 0, cell_of D0_19.out 1, cell_of D0_19.out 2, cell_of D1_19.out 0, cell_of D1_19.out 1, cell_of D1_19.out 2⟩ (fun hHeld => ?_)
    clear hK K
    refine norm_ (a' := ?_) ?_ ?_
    rotate_left
    · show Act.put _ (some 35) _ = _
      simp only [Act.put, List.setIfInBounds_toArray, List.set_cons_zero, List.set_cons_succ, i64_w, i32_w]
      rfl
    refine one_ (i := 3) (N := some 37) #[true, true, true, true, false, false, false, false, false, false] rfl rfl (one_of HT_.out (by kernel_rfl)) (by decide) (fun K hK => ?_)
    refine goes_ Try.func5 (by kernel_rfl) rfl #[.agg #[.slice B0 g.ps.length d0, .slice B1 g.ss.length d1, .slice B2 g.ws.length d2]] (by rfl) rfl rfl (by (try simp only [List.map_toArray, List.map_cons, List.map_nil]); first | done | rfl) ?_
    refine (copyV (mutV g B0 B1 B2 d0 d1 d2 (HFB.out.below HB_19.out)) Ht.out).mono ?_
    rintro e wc20 ⟨v37, rfl, hv, hb⟩
    refine ⟨_, rfl, ?_⟩
    have D0_20 := Aside0.mk ((hb.block _ (lt_of D0_19.out)).trans D0_19.out)
    have D1_20 := Aside0.mk ((hb.block _ (lt_of D1_19.out)).trans D1_19.out)
    have D2_20 := Aside0.mk ((hb.block _ (lt_of D2_19.out)).trans D2_19.out)
    have X_20 := Aside0.mk ((hb.block _ (lt_of X_19.out)).trans X_19.out)
    have Y_20 := Aside0.mk ((hb.block _ (lt_of Y_19.out)).trans Y_19.out)
    have V13_20 := Aside0.mk (V35_19.out.below hb)
    have HB_20 := Aside0.mk (below_step HB_19.out hb)
    have V37_20 := Aside0.mk (hv)
    clear hv
    clear hb hHeld
    refine hK.out _ _ ⟨cell_of D0_20.out 0, cell_of D0_20.out 1, cell_of D0_20.out 2, cell_of D1_20.out 0, cell_of D1_20.out 1, cell_of D1_20.out 2⟩ (fun hHeld => ?_)
    clear hK K
    refine norm_ (a' := ?_) ?_ ?_
    rotate_left
    · show Act.put _ (some 37) _ = _
      simp only [Act.put, List.setIfInBounds_toArray, List.set_cons_zero, List.set_cons_succ, i64_w, i32_w]
      rfl
    refine one_ (i := 4) (N := some 38) #[true, true, true, true, true, false, false, false, false, false] rfl rfl (one_of HT_.out (by kernel_rfl)) (by decide) (fun K hK => ?_)
    refine goes_ Try.func7 (by kernel_rfl) rfl #[v35, v37] (by rfl) rfl rfl (by (try simp only [List.map_toArray, List.map_cons, List.map_nil]); first | done | rfl) ?_
    refine (bothV V13_20.out V37_20.out Ht.out Hf.out Hg.out).mono ?_
    rintro e wc21 ⟨rfl, hb⟩
    refine ⟨_, rfl, ?_⟩
    have D0_21 := Aside0.mk ((hb.block _ (lt_of D0_20.out)).trans D0_20.out)
    have D1_21 := Aside0.mk ((hb.block _ (lt_of D1_20.out)).trans D1_20.out)
    have D2_21 := Aside0.mk ((hb.block _ (lt_of D2_20.out)).trans D2_20.out)
    have X_21 := Aside0.mk ((hb.block _ (lt_of X_20.out)).trans X_20.out)
    have Y_21 := Aside0.mk ((hb.block _ (lt_of Y_20.out)).trans Y_20.out)
    have V13_21 := Aside0.mk (V13_20.out.below hb)
    have V15_21 := Aside0.mk (V37_20.out.below hb)
    have HB_21 := Aside0.mk (below_step HB_20.out hb)
    unfold tellV
    clear hb hHeld
    refine hK.out _ _ ⟨cell_of D0_21.out 0, cell_of D0_21.out 1, cell_of D0_21.out 2, cell_of D1_21.out 0, cell_of D1_21.out 1, cell_of D1_21.out 2⟩ (fun hHeld => ?_)
    clear hK K
    refine norm_ (a' := ?_) ?_ ?_
    rotate_left
    · show Act.put _ (some 38) _ = _
      simp only [Act.put, List.setIfInBounds_toArray, List.set_cons_zero, List.set_cons_succ, i64_w, i32_w]
      rfl
    refine pure_ (i := 5) (N := some 33) (v := ?_) (a' := ?_) #[true, true, true, true, true, true, false, false, false, false] rfl rfl (any_of HT_.out (by kernel_rfl)) (fun _ _ _ h => h) (Or.inl ⟨by rfl, ?_⟩) ?_ ?_
    rotate_left
    · intro w'
      go_simp
      with_reducible rfl
    rotate_left
    · simp only [Act.put, List.setIfInBounds_toArray, List.set_cons_zero, List.set_cons_succ, i64_w, i32_w]
      rfl
    refine pure_ (i := 6) (N := some 39) (v := ?_) (a' := ?_) #[true, true, true, true, true, true, true, false, false, false] rfl rfl (any_of HT_.out (by kernel_rfl)) (fun _ _ _ h => h) (Or.inl ⟨by rfl, ?_⟩) ?_ ?_
    rotate_left
    · intro w'
      go_simp
      with_reducible rfl
    rotate_left
    · simp only [Act.put, List.setIfInBounds_toArray, List.set_cons_zero, List.set_cons_succ, i64_w, i32_w]
      rfl
    refine pure_ (i := 7) (N := some 40) (v := ?_) (a' := ?_) #[true, true, true, true, true, true, true, true, false, false] rfl rfl (any_of HT_.out (by kernel_rfl)) (fun _ _ _ h => h) (Or.inl ⟨by rfl, ?_⟩) ?_ ?_
    rotate_left
    · intro w'
      go_simp
      with_reducible rfl
    rotate_left
    · simp only [Act.put, List.setIfInBounds_toArray, List.set_cons_zero, List.set_cons_succ, i64_w, i32_w]
      rfl
    obtain ⟨p2, hp2⟩ : ∃ p2, p2 = (bothSS f.ws g.ws).getD zP := ⟨_, rfl⟩
    have HP2 := Aside0.mk hp2; clear hp2
    rw [← HP2.out]
    generalize hk2 : (bothSS f.ws g.ws).isSome = k2
    have HK2 := Aside0.mk hk2; clear hk2
    refine one_ (i := 8) (N := none) #[true, true, true, true, true, true, true, true, true, false] rfl rfl (one_of HT_.out (by kernel_rfl)) (by decide) (fun K hK => ?_)
    have q0 := cell_of X_21.out 0; have z0 := frozen_of X_21.out 0
    have q1 := cell_of X_21.out 1; have z1 := frozen_of X_21.out 1
    have q2 := cell_of X_21.out 2; have z2 := frozen_of X_21.out 2
    simp only [List.getElem?_toArray, List.getElem?_cons_zero, List.getElem?_cons_succ] at q0 q1 q2
    unfold pv
    refine skip_ (w1 := ?_) (by rfl) rfl ?_ ?_
    rotate_left
    · go_simp
      rfl
    clear q0 q1 q2 z0 z1 z2 hHeld
    have hch : ((wc21.setCell ⟨bx, 0, none⟩ (.int .i64 p2.f0)).setCell ⟨bx, 1, none⟩ (.int .i64 p2.f1)).setCell ⟨bx, 2, none⟩ (.string p2.f2) = wc21.setCells bx 0 [.int .i64 p2.f0, .int .i64 p2.f1, .string p2.f2] := rfl
    have hfar : ∀ k, k ≠ bx → (((wc21.setCell ⟨bx, 0, none⟩ (.int .i64 p2.f0)).setCell ⟨bx, 1, none⟩ (.int .i64 p2.f1)).setCell ⟨bx, 2, none⟩ (.string p2.f2)).heap[k]? = wc21.heap[k]? := fun k hk => by rw [hch]; exact setCells_far _ 0 k hk
    have hnew : (((wc21.setCell ⟨bx, 0, none⟩ (.int .i64 p2.f0)).setCell ⟨bx, 1, none⟩ (.int .i64 p2.f1)).setCell ⟨bx, 2, none⟩ (.string p2.f2)).heap[bx]? = some (pO p2) := setCell_heap (setCell_heap (setCell_heap X_21.out _) _) _
    have hbs : Below w.heap.size w (((wc21.setCell ⟨bx, 0, none⟩ (.int .i64 p2.f0)).setCell ⟨bx, 1, none⟩ (.int .i64 p2.f1)).setCell ⟨bx, 2, none⟩ (.string p2.f2)) := by rw [hch]; exact below_sets (by have h1 := JL.out; have h2 := HLY.out; omega) _ _ HB_21.out
    clear hch
    generalize ((wc21.setCell ⟨bx, 0, none⟩ (.int .i64 p2.f0)).setCell ⟨bx, 1, none⟩ (.int .i64 p2.f1)).setCell ⟨bx, 2, none⟩ (.string p2.f2) = wo at hfar hnew hbs ⊢
    have D0_22 := Aside0.mk ((hfar _ (by have h1 := JL.out; have h2 := HLY.out; omega)).trans D0_21.out)
    have D1_22 := Aside0.mk ((hfar _ (by have h1 := JL.out; have h2 := HLY.out; omega)).trans D1_21.out)
    have D2_22 := Aside0.mk ((hfar _ (by have h1 := JL.out; have h2 := HLY.out; omega)).trans D2_21.out)
    have X_22 := Aside0.mk hnew
    have Y_22 := Aside0.mk ((hfar _ (by have h1 := JL.out; have h2 := HLY.out; omega)).trans Y_21.out)
    have HB_22 := Aside0.mk hbs
    clear hfar hnew hbs
    refine hK.out _ _ ⟨cell_of D0_22.out 0, cell_of D0_22.out 1, cell_of D0_22.out 2, cell_of D1_22.out 0, cell_of D1_22.out 1, cell_of D1_22.out 2⟩ (fun hHeld => ?_)
    clear hK K
    refine pure_ (i := 9) (N := some 8) (v := ?_) (a' := ?_) #[true, true, true, true, true, true, true, true, true, true] rfl rfl (any_of HT_.out (by kernel_rfl)) (fun _ _ _ h => h) (Or.inl ⟨by rfl, ?_⟩) ?_ ?_
    rotate_left
    · intro w'
      go_simp
      with_reducible rfl
    rotate_left
    · simp only [Act.put, List.setIfInBounds_toArray, List.set_cons_zero, List.set_cons_succ, i64_w, i32_w]
      rfl
    refine done_ (done_of HT_.out (by kernel_rfl)) ?_
    clear hHeld HT_
    skip
    have ca0 : wo.cell? ⟨w.heap.size, 0, none⟩ = some (.slice A0 f.ps.length c0) := cell_of D0_22.out 0; have ca1 : wo.cell? ⟨w.heap.size, 1, none⟩ = some (.slice A1 f.ss.length c1) := cell_of D0_22.out 1; have ca2 : wo.cell? ⟨w.heap.size, 2, none⟩ = some (.slice A2 f.ws.length c2) := cell_of D0_22.out 2
    have cb0 : wo.cell? ⟨w.heap.size + 1, 0, none⟩ = some (.slice B0 g.ps.length d0) := cell_of D1_22.out 0; have cb1 : wo.cell? ⟨w.heap.size + 1, 1, none⟩ = some (.slice B1 g.ss.length d1) := cell_of D1_22.out 1; have cb2 : wo.cell? ⟨w.heap.size + 1, 2, none⟩ = some (.slice B2 g.ws.length d2) := cell_of D1_22.out 2
    have hcall := rbothV (mutV f A0 A1 A2 c0 c1 c2 (HFA.out.below HB_22.out)) (mutV g B0 B1 B2 d0 d1 d2 (HFB.out.below HB_22.out)) Hs.out Ht.out
    unfold tellV at hcall
    rw [← HP2.out, HK2.out] at hcall
    have HCall := Aside0.mk hcall; clear hcall
    go_wp2_with (go_at_call 8; refine HCall.out.mono ?_; rintro e wq ⟨rfl, hb⟩; have HBl := Aside0.mk hb; have hX := Aside0.mk ((hb.block _ (lt_of X_22.out)).trans X_22.out); have hY := Aside0.mk ((hb.block _ (lt_of Y_22.out)).trans Y_22.out); clear hb; have x0 : wq.cell? ⟨bx, 0, none⟩ = some (.int .i64 p2.f0) := cell_of hX.out 0; have x1 : wq.cell? ⟨bx, 1, none⟩ = some (.int .i64 p2.f1) := cell_of hX.out 1; have x2 : wq.cell? ⟨bx, 2, none⟩ = some (.string p2.f2) := cell_of hX.out 2; have y0 : wq.cell? ⟨by_, 0, none⟩ = some (.int .i64 p1.f0) := cell_of hY.out 0; have y1 : wq.cell? ⟨by_, 1, none⟩ = some (.int .i64 p1.f1) := cell_of hY.out 1; have y2 : wq.cell? ⟨by_, 2, none⟩ = some (.string p1.f2) := cell_of hY.out 2; have z0 := frozen_of hY.out 0; have z1 := frozen_of hY.out 1; have z2 := frozen_of hY.out 2; have hne := HLY.out; have nx : (bx = by_) = False := eq_false (by omega); have ny : (by_ = bx) = False := eq_false (by omega); unfold pv)
    clear nx ny hne x0 x1 x2 y0 y1 y2 z0 z1 z2 ca0 ca1 ca2 cb0 cb1 cb2 HCall
    have D0_23 := Aside0.mk ((HBl.out.block _ (lt_of D0_22.out)).trans D0_22.out)
    have D1_23 := Aside0.mk ((HBl.out.block _ (lt_of D1_22.out)).trans D1_22.out)
    have D2_23 := Aside0.mk ((HBl.out.block _ (lt_of D2_22.out)).trans D2_22.out)
    have X_23 := Aside0.mk ((HBl.out.block _ (lt_of X_22.out)).trans X_22.out)
    have Y_23 := Aside0.mk ((HBl.out.block _ (lt_of Y_22.out)).trans Y_22.out)
    have HB_23 := Aside0.mk (below_step HB_22.out HBl.out)
    have hch : ((wq.setCell ⟨by_, 0, none⟩ (.int .i64 p2.f0)).setCell ⟨by_, 1, none⟩ (.int .i64 p2.f1)).setCell ⟨by_, 2, none⟩ (.string p2.f2) = wq.setCells by_ 0 [.int .i64 p2.f0, .int .i64 p2.f1, .string p2.f2] := rfl
    have hfar : ∀ k, k ≠ by_ → (((wq.setCell ⟨by_, 0, none⟩ (.int .i64 p2.f0)).setCell ⟨by_, 1, none⟩ (.int .i64 p2.f1)).setCell ⟨by_, 2, none⟩ (.string p2.f2)).heap[k]? = wq.heap[k]? := fun k hk => by rw [hch]; exact setCells_far _ 0 k hk
    have hnew : (((wq.setCell ⟨by_, 0, none⟩ (.int .i64 p2.f0)).setCell ⟨by_, 1, none⟩ (.int .i64 p2.f1)).setCell ⟨by_, 2, none⟩ (.string p2.f2)).heap[by_]? = some (pO p2) := setCell_heap (setCell_heap (setCell_heap Y_23.out _) _) _
    have hbs : Below w.heap.size w (((wq.setCell ⟨by_, 0, none⟩ (.int .i64 p2.f0)).setCell ⟨by_, 1, none⟩ (.int .i64 p2.f1)).setCell ⟨by_, 2, none⟩ (.string p2.f2)) := by rw [hch]; exact below_sets (by have h1 := JL.out; have h2 := HLY.out; omega) _ _ HB_23.out
    clear hch
    generalize ((wq.setCell ⟨by_, 0, none⟩ (.int .i64 p2.f0)).setCell ⟨by_, 1, none⟩ (.int .i64 p2.f1)).setCell ⟨by_, 2, none⟩ (.string p2.f2) = wr at hfar hnew hbs ⊢
    have D0_24 := Aside0.mk ((hfar _ (by have h1 := JL.out; have h2 := HLY.out; omega)).trans D0_23.out)
    have D1_24 := Aside0.mk ((hfar _ (by have h1 := JL.out; have h2 := HLY.out; omega)).trans D1_23.out)
    have D2_24 := Aside0.mk ((hfar _ (by have h1 := JL.out; have h2 := HLY.out; omega)).trans D2_23.out)
    have X_24 := Aside0.mk ((hfar _ (by have h1 := JL.out; have h2 := HLY.out; omega)).trans X_23.out)
    have Y_24 := Aside0.mk hnew
    have HB_24 := Aside0.mk hbs
    clear hfar hnew hbs
    refine start_ (n := 24) (S := fun w' => w'.cell? ⟨w.heap.size, 0, none⟩ = some (.slice A0 f.ps.length c0) ∧ w'.cell? ⟨w.heap.size, 1, none⟩ = some (.slice A1 f.ss.length c1) ∧ w'.cell? ⟨w.heap.size, 2, none⟩ = some (.slice A2 f.ws.length c2) ∧ w'.cell? ⟨w.heap.size + 1 + 1, 0, none⟩ = some (.int .i64 p.f0) ∧ w'.cell? ⟨w.heap.size + 1 + 1, 1, none⟩ = some (.int .i64 p.f1) ∧ w'.cell? ⟨w.heap.size + 1 + 1, 2, none⟩ = some (.string p.f2)) (ds := []) #[false, false, false, false, false, false, false, false, false, false, false, false, false, false, false, false, false, false, false, false, false, false, false, false] (by kernel_rfl) rfl rfl ⟨cell_of D0_24.out 0, cell_of D0_24.out 1, cell_of D0_24.out 2, cell_of D2_24.out 0, cell_of D2_24.out 1, cell_of D2_24.out 2⟩ (fun hHeld => ?_); refine with_tab tab3_9 (fun HT_ => ?_)
    have hbD := below_drew1 (Below.refl wr.heap.size wr)
    generalize wr.drew = ws at hbD hHeld ⊢
    have D0_25 := Aside0.mk ((hbD.block _ (lt_of D0_24.out)).trans D0_24.out)
    have D1_25 := Aside0.mk ((hbD.block _ (lt_of D1_24.out)).trans D1_24.out)
    have D2_25 := Aside0.mk ((hbD.block _ (lt_of D2_24.out)).trans D2_24.out)
    have X_25 := Aside0.mk ((hbD.block _ (lt_of X_24.out)).trans X_24.out)
    have Y_25 := Aside0.mk ((hbD.block _ (lt_of Y_24.out)).trans Y_24.out)
    have HB_25 := Aside0.mk (below_step HB_24.out hbD)
    clear hbD
    refine take_ (i := 0) (N := some 55) (v := ?_) (a' := ?_) #[true, false, false, false, false, false, false, false, false, false, false, false, false, false, false, false, false, false, false, false, false, false, false, false] rfl rfl (take_of HT_.out (by kernel_rfl)) (fun _ _ _ h => h) (Or.inl ⟨by rfl, ?_⟩) hHeld ?_ ?_
    rotate_left
    · rintro w' ⟨s0, s1, s2, s3, s4, s5⟩
      go_simp
      with_reducible rfl
    rotate_left
    · simp only [Act.put, List.setIfInBounds_toArray, List.set_cons_zero, List.set_cons_succ, i64_w, i32_w]
      rfl
    refine take_ (i := 2) (N := some 57) (v := ?_) (a' := ?_) #[true, false, true, false, false, false, false, false, false, false, false, false, false, false, false, false, false, false, false, false, false, false, false, false] rfl rfl (take_of HT_.out (by kernel_rfl)) (fun _ _ _ h => h) (Or.inl ⟨by rfl, ?_⟩) hHeld ?_ ?_
    rotate_left
    · rintro w' ⟨s0, s1, s2, s3, s4, s5⟩
      go_simp
      with_reducible rfl
    rotate_left
    · simp only [Act.put, List.setIfInBounds_toArray, List.set_cons_zero, List.set_cons_succ, i64_w, i32_w]
      rfl
    refine take_ (i := 4) (N := some 59) (v := ?_) (a' := ?_) #[true, false, true, false, true, false, false, false, false, false, false, false, false, false, false, false, false, false, false, false, false, false, false, false] rfl rfl (take_of HT_.out (by kernel_rfl)) (fun _ _ _ h => h) (Or.inl ⟨by rfl, ?_⟩) hHeld ?_ ?_
    rotate_left
    · rintro w' ⟨s0, s1, s2, s3, s4, s5⟩
      go_simp
      with_reducible rfl
    rotate_left
    · simp only [Act.put, List.setIfInBounds_toArray, List.set_cons_zero, List.set_cons_succ, i64_w, i32_w]
      rfl
    refine take_ (i := 5) (N := some 60) (v := ?_) (a' := ?_) #[true, false, true, false, true, true, false, false, false, false, false, false, false, false, false, false, false, false, false, false, false, false, false, false] rfl rfl (take_of HT_.out (by kernel_rfl)) (fun _ _ _ h => h) (Or.inl ⟨by rfl, ?_⟩) hHeld ?_ ?_
    rotate_left
    · rintro w' ⟨s0, s1, s2, s3, s4, s5⟩
      go_simp
      with_reducible rfl
    rotate_left
    · simp only [Act.put, List.setIfInBounds_toArray, List.set_cons_zero, List.set_cons_succ, i64_w, i32_w]
      rfl
    refine one_ (i := 1) (N := some 56) #[true, true, true, false, true, true, false, false, false, false, false, false, false, false, false, false, false, false, false, false, false, false, false, false] rfl rfl (one_of HT_.out (by kernel_rfl)) (by decide) (fun K hK => ?_)
    refine goes_ Try.func5 (by kernel_rfl) rfl #[.agg #[.slice A0 f.ps.length c0, .slice A1 f.ss.length c1, .slice A2 f.ws.length c2]] (by rfl) rfl rfl (by (try simp only [List.map_toArray, List.map_cons, List.map_nil]); first | done | rfl) ?_
    refine (copyV (mutV f A0 A1 A2 c0 c1 c2 (HFA.out.below HB_25.out)) Hs.out).mono ?_
    rintro e wc26 ⟨v56, rfl, hv, hb⟩
    refine ⟨_, rfl, ?_⟩
    have D0_26 := Aside0.mk ((hb.block _ (lt_of D0_25.out)).trans D0_25.out)
    have D1_26 := Aside0.mk ((hb.block _ (lt_of D1_25.out)).trans D1_25.out)
    have D2_26 := Aside0.mk ((hb.block _ (lt_of D2_25.out)).trans D2_25.out)
    have X_26 := Aside0.mk ((hb.block _ (lt_of X_25.out)).trans X_25.out)
    have Y_26 := Aside0.mk ((hb.block _ (lt_of Y_25.out)).trans Y_25.out)
    have HB_26 := Aside0.mk (below_step HB_25.out hb)
    have V56_26 := Aside0.mk (hv)
    clear hv
    clear hb hHeld
    refine hK.out _ _ ⟨cell_of D0_26.out 0, cell_of D0_26.out 1, cell_of D0_26.out 2, cell_of D2_26.out 0, cell_of D2_26.out 1, cell_of D2_26.out 2⟩ (fun hHeld => ?_)
    clear hK K
    refine norm_ (a' := ?_) ?_ ?_
    rotate_left
    · show Act.put _ (some 56) _ = _
      simp only [Act.put, List.setIfInBounds_toArray, List.set_cons_zero, List.set_cons_succ, i64_w, i32_w]
      rfl
    refine one_ (i := 3) (N := some 58) #[true, true, true, true, true, true, false, false, false, false, false, false, false, false, false, false, false, false, false, false, false, false, false, false] rfl rfl (one_of HT_.out (by kernel_rfl)) (by decide) (fun K hK => ?_)
    refine goes_ Try.func9 (by kernel_rfl) rfl #[v56, pv p] (by rfl) rfl rfl (by (try simp only [List.map_toArray, List.map_cons, List.map_nil]); first | done | rfl) ?_
    refine (readsV V56_26.out Hs.out p).mono ?_
    rintro e wc27 ⟨rfl, hb⟩
    refine ⟨_, rfl, ?_⟩
    have D0_27 := Aside0.mk ((hb.block _ (lt_of D0_26.out)).trans D0_26.out)
    have D1_27 := Aside0.mk ((hb.block _ (lt_of D1_26.out)).trans D1_26.out)
    have D2_27 := Aside0.mk ((hb.block _ (lt_of D2_26.out)).trans D2_26.out)
    have X_27 := Aside0.mk ((hb.block _ (lt_of X_26.out)).trans X_26.out)
    have Y_27 := Aside0.mk ((hb.block _ (lt_of Y_26.out)).trans Y_26.out)
    have V_27 := Aside0.mk (V56_26.out.below hb)
    have HB_27 := Aside0.mk (below_step HB_26.out hb)
    generalize hrb : readsS f.ps f.ss p = rb
    have HRb := Aside0.mk hrb; clear hrb
    clear hb hHeld
    refine hK.out _ _ ⟨cell_of D0_27.out 0, cell_of D0_27.out 1, cell_of D0_27.out 2, cell_of D2_27.out 0, cell_of D2_27.out 1, cell_of D2_27.out 2⟩ (fun hHeld => ?_)
    clear hK K
    refine norm_ (a' := ?_) ?_ ?_
    rotate_left
    · show Act.put _ (some 58) _ = _
      simp only [Act.put, List.setIfInBounds_toArray, List.set_cons_zero, List.set_cons_succ, i64_w, i32_w]
      rfl
    refine one_ (i := 6) (N := some 61) #[true, true, true, true, true, true, true, false, false, false, false, false, false, false, false, false, false, false, false, false, false, false, false, false] rfl rfl (one_of HT_.out (by kernel_rfl)) (by decide) (fun K hK => ?_)
    refine goes_ Try.func10 (by kernel_rfl) rfl #[.agg #[.slice A0 f.ps.length c0, .slice A1 f.ss.length c1, .slice A2 f.ws.length c2], pv p] (by rfl) rfl rfl (by (try simp only [List.map_toArray, List.map_cons, List.map_nil]); first | done | rfl) ?_
    refine (rreadsV (mutV f A0 A1 A2 c0 c1 c2 (HFA.out.below HB_27.out)) Hs.out p).mono ?_
    rintro e wc28 ⟨rfl, hb⟩
    refine ⟨_, rfl, ?_⟩
    have D0_28 := Aside0.mk ((hb.block _ (lt_of D0_27.out)).trans D0_27.out)
    have D1_28 := Aside0.mk ((hb.block _ (lt_of D1_27.out)).trans D1_27.out)
    have D2_28 := Aside0.mk ((hb.block _ (lt_of D2_27.out)).trans D2_27.out)
    have X_28 := Aside0.mk ((hb.block _ (lt_of X_27.out)).trans X_27.out)
    have Y_28 := Aside0.mk ((hb.block _ (lt_of Y_27.out)).trans Y_27.out)
    have V_28 := Aside0.mk (V_27.out.below hb)
    have HB_28 := Aside0.mk (below_step HB_27.out hb)
    rw [HRb.out]
    clear hb hHeld
    refine hK.out _ _ ⟨cell_of D0_28.out 0, cell_of D0_28.out 1, cell_of D0_28.out 2, cell_of D2_28.out 0, cell_of D2_28.out 1, cell_of D2_28.out 2⟩ (fun hHeld => ?_)
    clear hK K
    refine norm_ (a' := ?_) ?_ ?_
    rotate_left
    · show Act.put _ (some 61) _ = _
      simp only [Act.put, List.setIfInBounds_toArray, List.set_cons_zero, List.set_cons_succ, i64_w, i32_w]
      rfl
    refine pure_ (i := 7) (N := some 62) (v := ?_) (a' := ?_) #[true, true, true, true, true, true, true, true, false, false, false, false, false, false, false, false, false, false, false, false, false, false, false, false] rfl rfl (any_of HT_.out (by kernel_rfl)) (fun _ _ _ h => h) (Or.inl ⟨by rfl, ?_⟩) ?_ ?_
    rotate_left
    · intro w'
      go_simp
      with_reducible rfl
    rotate_left
    · simp only [Act.put, List.setIfInBounds_toArray, List.set_cons_zero, List.set_cons_succ, i64_w, i32_w]
      rfl
    refine pure_ (i := 8) (N := some 63) (v := ?_) (a' := ?_) #[true, true, true, true, true, true, true, true, true, false, false, false, false, false, false, false, false, false, false, false, false, false, false, false] rfl rfl (any_of HT_.out (by kernel_rfl)) (fun _ _ _ h => h) (Or.inl ⟨by rfl, ?_⟩) ?_ ?_
    rotate_left
    · intro w'
      go_simp
      with_reducible rfl
    rotate_left
    · simp only [Act.put, List.setIfInBounds_toArray, List.set_cons_zero, List.set_cons_succ, i64_w, i32_w]
      rfl
    refine pure_ (i := 11) (N := some 66) (v := ?_) (a' := ?_) #[true, true, true, true, true, true, true, true, true, false, false, true, false, false, false, false, false, false, false, false, false, false, false, false] rfl rfl (any_of HT_.out (by kernel_rfl)) (fun _ _ _ h => h) (Or.inl ⟨by rfl, ?_⟩) ?_ ?_
    rotate_left
    · intro w'
      go_simp
      with_reducible rfl
    rotate_left
    · simp only [Act.put, List.setIfInBounds_toArray, List.set_cons_zero, List.set_cons_succ, i64_w, i32_w]
      rfl
    refine pure_ (i := 15) (N := some 70) (v := ?_) (a' := ?_) #[true, true, true, true, true, true, true, true, true, false, false, true, false, false, false, true, false, false, false, false, false, false, false, false] rfl rfl (any_of HT_.out (by kernel_rfl)) (fun _ _ _ h => h) (Or.inl ⟨by rfl, ?_⟩) ?_ ?_
    rotate_left
    · intro w'
      go_simp
      with_reducible rfl
    rotate_left
    · simp only [Act.put, List.setIfInBounds_toArray, List.set_cons_zero, List.set_cons_succ, i64_w, i32_w]
      rfl
    refine take_ (i := 9) (N := some 64) (v := ?_) (a' := ?_) #[true, true, true, true, true, true, true, true, true, true, false, true, false, false, false, true, false, false, false, false, false, false, false, false] rfl rfl (take_of HT_.out (by kernel_rfl)) (fun _ _ _ h => h) (Or.inl ⟨by rfl, ?_⟩) hHeld ?_ ?_
    rotate_left
    · rintro w' ⟨s0, s1, s2, s3, s4, s5⟩
      go_simp
      with_reducible rfl
    rotate_left
    · simp only [Act.put, List.setIfInBounds_toArray, List.set_cons_zero, List.set_cons_succ, i64_w, i32_w]
      rfl
    refine take_ (i := 12) (N := some 67) (v := ?_) (a' := ?_) #[true, true, true, true, true, true, true, true, true, true, false, true, true, false, false, true, false, false, false, false, false, false, false, false] rfl rfl (take_of HT_.out (by kernel_rfl)) (fun _ _ _ h => h) (Or.inl ⟨by rfl, ?_⟩) hHeld ?_ ?_
    rotate_left
    · rintro w' ⟨s0, s1, s2, s3, s4, s5⟩
      go_simp
      with_reducible rfl
    rotate_left
    · simp only [Act.put, List.setIfInBounds_toArray, List.set_cons_zero, List.set_cons_succ, i64_w, i32_w]
      rfl
    refine take_ (i := 14) (N := some 69) (v := ?_) (a' := ?_) #[true, true, true, true, true, true, true, true, true, true, false, true, true, false, true, true, false, false, false, false, false, false, false, false] rfl rfl (take_of HT_.out (by kernel_rfl)) (fun _ _ _ h => h) (Or.inl ⟨by rfl, ?_⟩) hHeld ?_ ?_
    rotate_left
    · rintro w' ⟨s0, s1, s2, s3, s4, s5⟩
      go_simp
      with_reducible rfl
    rotate_left
    · simp only [Act.put, List.setIfInBounds_toArray, List.set_cons_zero, List.set_cons_succ, i64_w, i32_w]
      rfl
    refine take_ (i := 16) (N := some 71) (v := ?_) (a' := ?_) #[true, true, true, true, true, true, true, true, true, true, false, true, true, false, true, true, true, false, false, false, false, false, false, false] rfl rfl (take_of HT_.out (by kernel_rfl)) (fun _ _ _ h => h) (Or.inl ⟨by rfl, ?_⟩) hHeld ?_ ?_
    rotate_left
    · rintro w' ⟨s0, s1, s2, s3, s4, s5⟩
      go_simp
      with_reducible rfl
    rotate_left
    · simp only [Act.put, List.setIfInBounds_toArray, List.set_cons_zero, List.set_cons_succ, i64_w, i32_w]
      rfl
    refine one_ (i := 10) (N := some 65) #[true, true, true, true, true, true, true, true, true, true, true, true, true, false, true, true, true, false, false, false, false, false, false, false] rfl rfl (one_of HT_.out (by kernel_rfl)) (by decide) (fun K hK => ?_)
    refine goes_ Try.func5 (by kernel_rfl) rfl #[.agg #[.slice A0 f.ps.length c0, .slice A1 f.ss.length c1, .slice A2 f.ws.length c2]] (by rfl) rfl rfl (by (try simp only [List.map_toArray, List.map_cons, List.map_nil]); first | done | rfl) ?_
    refine (copyV (mutV f A0 A1 A2 c0 c1 c2 (HFA.out.below HB_28.out)) Hs.out).mono ?_
    rintro e wc29 ⟨v65, rfl, hv, hb⟩
    refine ⟨_, rfl, ?_⟩
    have D0_29 := Aside0.mk ((hb.block _ (lt_of D0_28.out)).trans D0_28.out)
    have D1_29 := Aside0.mk ((hb.block _ (lt_of D1_28.out)).trans D1_28.out)
    have D2_29 := Aside0.mk ((hb.block _ (lt_of D2_28.out)).trans D2_28.out)
    have X_29 := Aside0.mk ((hb.block _ (lt_of X_28.out)).trans X_28.out)
    have Y_29 := Aside0.mk ((hb.block _ (lt_of Y_28.out)).trans Y_28.out)
    have V_29 := Aside0.mk (V_28.out.below hb)
    have HB_29 := Aside0.mk (below_step HB_28.out hb)
    have V65_29 := Aside0.mk (hv)
    clear hv
    clear hb hHeld
    refine hK.out _ _ ⟨cell_of D0_29.out 0, cell_of D0_29.out 1, cell_of D0_29.out 2, cell_of D2_29.out 0, cell_of D2_29.out 1, cell_of D2_29.out 2⟩ (fun hHeld => ?_)
    clear hK K
    refine norm_ (a' := ?_) ?_ ?_
    rotate_left
    · show Act.put _ (some 65) _ = _
      simp only [Act.put, List.setIfInBounds_toArray, List.set_cons_zero, List.set_cons_succ, i64_w, i32_w]
      rfl
    refine one_ (i := 13) (N := some 68) #[true, true, true, true, true, true, true, true, true, true, true, true, true, true, true, true, true, false, false, false, false, false, false, false] rfl rfl (one_of HT_.out (by kernel_rfl)) (by decide) (fun K hK => ?_)
    refine goes_ Try.func12 (by kernel_rfl) rfl #[v65, .int .i64 p.f0] (by rfl) rfl rfl (by (try simp only [List.map_toArray, List.map_cons, List.map_nil]); first | done | rfl) ?_
    refine (withoutV V65_29.out Hs.out p.f0).mono ?_
    rintro e wc30 ⟨v68, rfl, hv, hb⟩
    refine ⟨_, rfl, ?_⟩
    have D0_30 := Aside0.mk ((hb.block _ (lt_of D0_29.out)).trans D0_29.out)
    have D1_30 := Aside0.mk ((hb.block _ (lt_of D1_29.out)).trans D1_29.out)
    have D2_30 := Aside0.mk ((hb.block _ (lt_of D2_29.out)).trans D2_29.out)
    have X_30 := Aside0.mk ((hb.block _ (lt_of X_29.out)).trans X_29.out)
    have Y_30 := Aside0.mk ((hb.block _ (lt_of Y_29.out)).trans Y_29.out)
    have V_30 := Aside0.mk (V65_29.out.below hb)
    have HB_30 := Aside0.mk (below_step HB_29.out hb)
    have V68_30 := Aside0.mk (hv)
    clear hv
    clear hb hHeld
    refine hK.out _ _ ⟨cell_of D0_30.out 0, cell_of D0_30.out 1, cell_of D0_30.out 2, cell_of D2_30.out 0, cell_of D2_30.out 1, cell_of D2_30.out 2⟩ (fun hHeld => ?_)
    clear hK K
    refine norm_ (a' := ?_) ?_ ?_
    rotate_left
    · show Act.put _ (some 68) _ = _
      simp only [Act.put, List.setIfInBounds_toArray, List.set_cons_zero, List.set_cons_succ, i64_w, i32_w]
      rfl
    refine one_ (i := 17) (N := some 72) #[true, true, true, true, true, true, true, true, true, true, true, true, true, true, true, true, true, true, false, false, false, false, false, false] rfl rfl (one_of HT_.out (by kernel_rfl)) (by decide) (fun K hK => ?_)
    refine goes_ Try.func13 (by kernel_rfl) rfl #[.agg #[.slice A0 f.ps.length c0, .slice A1 f.ss.length c1, .slice A2 f.ws.length c2], .int .i64 p.f0] (by rfl) rfl rfl (by (try simp only [List.map_toArray, List.map_cons, List.map_nil]); first | done | rfl) ?_
    refine (rwithoutV (mutV f A0 A1 A2 c0 c1 c2 (HFA.out.below HB_30.out)) Hs.out p.f0).mono ?_
    rintro e wc31 ⟨v72, rfl, hv, hb⟩
    refine ⟨_, rfl, ?_⟩
    have D0_31 := Aside0.mk ((hb.block _ (lt_of D0_30.out)).trans D0_30.out)
    have D1_31 := Aside0.mk ((hb.block _ (lt_of D1_30.out)).trans D1_30.out)
    have D2_31 := Aside0.mk ((hb.block _ (lt_of D2_30.out)).trans D2_30.out)
    have X_31 := Aside0.mk ((hb.block _ (lt_of X_30.out)).trans X_30.out)
    have Y_31 := Aside0.mk ((hb.block _ (lt_of Y_30.out)).trans Y_30.out)
    have V_31 := Aside0.mk (V68_30.out.below hb)
    have HB_31 := Aside0.mk (below_step HB_30.out hb)
    have V72_31 := Aside0.mk (hv)
    clear hv
    clear hb hHeld
    refine hK.out _ _ ⟨cell_of D0_31.out 0, cell_of D0_31.out 1, cell_of D0_31.out 2, cell_of D2_31.out 0, cell_of D2_31.out 1, cell_of D2_31.out 2⟩ (fun hHeld => ?_)
    clear hK K
    refine norm_ (a' := ?_) ?_ ?_
    rotate_left
    · show Act.put _ (some 72) _ = _
      simp only [Act.put, List.setIfInBounds_toArray, List.set_cons_zero, List.set_cons_succ, i64_w, i32_w]
      rfl
    refine one_ (i := 18) (N := some 73) #[true, true, true, true, true, true, true, true, true, true, true, true, true, true, true, true, true, true, true, false, false, false, false, false] rfl rfl (one_of HT_.out (by kernel_rfl)) (by decide) (fun K hK => ?_)
    refine goes_ Try.func11 (by kernel_rfl) rfl #[v68, v72] (by rfl) rfl rfl (by (try simp only [List.map_toArray, List.map_cons, List.map_nil]); first | done | rfl) ?_
    refine (sameV V_31.out V72_31.out (Hs.out.without p.f0)).mono ?_
    rintro e wc32 ⟨rfl, hb⟩
    refine ⟨_, rfl, ?_⟩
    have D0_32 := Aside0.mk ((hb.block _ (lt_of D0_31.out)).trans D0_31.out)
    have D1_32 := Aside0.mk ((hb.block _ (lt_of D1_31.out)).trans D1_31.out)
    have D2_32 := Aside0.mk ((hb.block _ (lt_of D2_31.out)).trans D2_31.out)
    have X_32 := Aside0.mk ((hb.block _ (lt_of X_31.out)).trans X_31.out)
    have Y_32 := Aside0.mk ((hb.block _ (lt_of Y_31.out)).trans Y_31.out)
    have V_32 := Aside0.mk (V_31.out.below hb)
    have U_32 := Aside0.mk (V72_31.out.below hb)
    have HB_32 := Aside0.mk (below_step HB_31.out hb)
    clear hb hHeld
    refine hK.out _ _ ⟨cell_of D0_32.out 0, cell_of D0_32.out 1, cell_of D0_32.out 2, cell_of D2_32.out 0, cell_of D2_32.out 1, cell_of D2_32.out 2⟩ (fun hHeld => ?_)
    clear hK K
    refine norm_ (a' := ?_) ?_ ?_
    rotate_left
    · show Act.put _ (some 73) _ = _
      simp only [Act.put, List.setIfInBounds_toArray, List.set_cons_zero, List.set_cons_succ, i64_w, i32_w]
      rfl
    refine pure_ (i := 19) (N := some 74) (v := ?_) (a' := ?_) #[true, true, true, true, true, true, true, true, true, true, true, true, true, true, true, true, true, true, true, true, false, false, false, false] rfl rfl (any_of HT_.out (by kernel_rfl)) (fun _ _ _ h => h) (Or.inl ⟨by rfl, ?_⟩) ?_ ?_
    rotate_left
    · intro w'
      go_simp
      with_reducible rfl
    rotate_left
    · simp only [Act.put, List.setIfInBounds_toArray, List.set_cons_zero, List.set_cons_succ, i64_w, i32_w]
      rfl
    refine pure_ (i := 20) (N := some 75) (v := ?_) (a' := ?_) #[true, true, true, true, true, true, true, true, true, true, true, true, true, true, true, true, true, true, true, true, true, false, false, false] rfl rfl (any_of HT_.out (by kernel_rfl)) (fun _ _ _ h => h) (Or.inl ⟨by rfl, ?_⟩) ?_ ?_
    rotate_left
    · intro w'
      go_simp
      with_reducible rfl
    rotate_left
    · simp only [Act.put, List.setIfInBounds_toArray, List.set_cons_zero, List.set_cons_succ, i64_w, i32_w]
      rfl
    refine one_ (i := 21) (N := some 76) #[true, true, true, true, true, true, true, true, true, true, true, true, true, true, true, true, true, true, true, true, true, true, false, false] rfl rfl (one_of HT_.out (by kernel_rfl)) (by decide) (fun K hK => ?_)
    refine goes_ Try.func14 (by kernel_rfl) rfl #[] (by rfl) rfl rfl (by (try simp only [List.map_toArray, List.map_cons, List.map_nil]); first | done | rfl) ?_
    refine (awake_any _).mono ?_
    rintro e wc33 ⟨rfl, hb⟩
    refine ⟨_, rfl, ?_⟩
    have D0_33 := Aside0.mk ((hb.block _ (lt_of D0_32.out)).trans D0_32.out)
    have D1_33 := Aside0.mk ((hb.block _ (lt_of D1_32.out)).trans D1_32.out)
    have D2_33 := Aside0.mk ((hb.block _ (lt_of D2_32.out)).trans D2_32.out)
    have X_33 := Aside0.mk ((hb.block _ (lt_of X_32.out)).trans X_32.out)
    have Y_33 := Aside0.mk ((hb.block _ (lt_of Y_32.out)).trans Y_32.out)
    have V_33 := Aside0.mk (V_32.out.below hb)
    have U_33 := Aside0.mk (U_32.out.below hb)
    have HB_33 := Aside0.mk (below_step HB_32.out hb)
    clear hb hHeld
    refine hK.out _ _ ⟨cell_of D0_33.out 0, cell_of D0_33.out 1, cell_of D0_33.out 2, cell_of D2_33.out 0, cell_of D2_33.out 1, cell_of D2_33.out 2⟩ (fun hHeld => ?_)
    clear hK K
    refine norm_ (a' := ?_) ?_ ?_
    rotate_left
    · show Act.put _ (some 76) _ = _
      simp only [Act.put, List.setIfInBounds_toArray, List.set_cons_zero, List.set_cons_succ, i64_w, i32_w]
      rfl
    refine pure_ (i := 22) (N := some 77) (v := ?_) (a' := ?_) #[true, true, true, true, true, true, true, true, true, true, true, true, true, true, true, true, true, true, true, true, true, true, true, false] rfl rfl (any_of HT_.out (by kernel_rfl)) (fun _ _ _ h => h) (Or.inl ⟨by rfl, ?_⟩) ?_ ?_
    rotate_left
    · intro w'
      go_simp
      with_reducible rfl
    rotate_left
    · simp only [Act.put, List.setIfInBounds_toArray, List.set_cons_zero, List.set_cons_succ, i64_w, i32_w]
      rfl
    refine pure_ (i := 23) (N := some 6) (v := ?_) (a' := ?_) #[true, true, true, true, true, true, true, true, true, true, true, true, true, true, true, true, true, true, true, true, true, true, true, true] rfl rfl (any_of HT_.out (by kernel_rfl)) (fun _ _ _ h => h) (Or.inl ⟨by rfl, ?_⟩) ?_ ?_
    rotate_left
    · intro w'
      go_simp
      with_reducible rfl
    rotate_left
    · simp only [Act.put, List.setIfInBounds_toArray, List.set_cons_zero, List.set_cons_succ, i64_w, i32_w]
      rfl
    refine done_ (done_of HT_.out (by kernel_rfl)) ?_
    go_wp2
    go_ret
    exact ⟨rfl, HB_33.out⟩
end Go.Proofs.Ytldlenjfpjihdaa.PS
end
section
namespace Go.Proofs.Ytldlenjfpjihdaa.setsAsks
open Go.ChangeShapes Go.WideShapes Go.ChangeAt Go.RowKit Go.Proofs.YtldlenjfpjihdaaW.PrintWords Go.Proofs.Ytldlenjfpjihdaa.PS Go.Proofs.Ytldlenjfpjihdaa.OpenK
open Go.ChangeMaps (open_string shut_string)
set_option linter.unusedVariables false
theorem own : ownKnob Try.prog.godebug = none := by kernel_rfl
theorem laidOut : laidOutB Try.prog = true := by kernel_rfl
set_option maxRecDepth 100000 in
theorem lifted (os : Os) (started : os.Started) (H : Type) (enc : TypeId × Value → H) :
    ReturnsInHanded {} Try.checked os 3 .any (Rows.setsAsksSpec.pre6 enc Try.prog Try.f3 Rows.setsAsksRow.domain false) (Rows.setsAsksSpec.post enc Try.prog Try.f3 false true false false) := by
  refine returnsInHanded_of_change_sized (C := Try.checked) own started (by kernel_rfl) Try.func3
    (ChangeSpec.witness6 (enc := enc) (C := Try.checked) false ⟨#[], #[.agg #[.slice none 0 0, .slice none 0 0, .slice none 0 0], .agg #[.slice none 0 0, .slice none 0 0, .slice none 0 0], .agg #[.int .i64 0, .int .i64 0, .string ByteArray.empty]], []⟩ 8 (by kernel_rfl) (by kernel_rfl) (by kernel_rfl) (by kernel_rfl)) ?_
  intro W base args ds gs before hval0 hW hcnd hsz0 _
  have hsz : (DataW.weightsEach Try.prog (Try.f3.params.toList ++ Rows.setsAsksSpec.plain.varTypes Try.prog) (ds ++ gs)).all (· ≤ reachBytes) = true := hsz0
  have hval : ∀ (j : Nat) t v, Try.f3.params[j]? = some t → args[j]? = some v → Value.okWide Try.prog W .any base t v := @hval0
  have hW' := hW
  obtain ⟨p, q, hA0, hV, rfl, hfz, hnd⟩ := hW
  have hA : DataW.TrodAll enc Try.prog W 0 (fun _ => true) true Try.f3.params.toList args.toList ds p := hA0
  rw [Try.params3] at hA hval hsz
  obtain ⟨v0, vs0, d0, ds0, p0, q0, hargs, rfl, rfl, h0, r0⟩ := trodAll_cons hA
  obtain ⟨v1, vs1, d1, ds1, p1, q1, rfl, rfl, rfl, h1, r1⟩ := trodAll_cons r0
  obtain ⟨v2, vs2, d2, ds2, p2, q2, rfl, rfl, rfl, h2, r2⟩ := trodAll_cons r1
  obtain ⟨rfl, rfl, rfl⟩ := trodAll_nil r2
  obtain rfl : args = #[v0, v1, v2] := by cases args; simp_all
  obtain ⟨rfl, rfl⟩ := trodVars_none hV
  have hw : (DataW.weightsEach Try.prog [25, 25, 27] [d0, d1, d2]).all (· ≤ reachBytes) = true := hsz
  simp only [DataW.weightsEach, all_append_iff] at hw
  obtain ⟨hw0, hw1, hw2, _⟩ := hw
  have k0 := h0
  have lt0 : ∀ x ∈ p0, x.block < W.heap.size := by obtain ⟨m, hm⟩ := k0; exact DataW.trod_lt m _ _ _ hm
  obtain ⟨fuel0, hf0⟩ := h0
  have k1 := h1
  have lt1 : ∀ x ∈ p1, x.block < W.heap.size := by obtain ⟨m, hm⟩ := k1; exact DataW.trod_lt m _ _ _ hm
  obtain ⟨fuel1, hf1⟩ := h1
  have k2 := h2
  have lt2 : ∀ x ∈ p2, x.block < W.heap.size := by obtain ⟨m, hm⟩ := k2; exact DataW.trod_lt m _ _ _ hm
  obtain ⟨fuel2, hf2⟩ := h2
  obtain ⟨A0, A1, A2, c0, c1, c2, f, rfl, ha, sa, wa⟩ := argFt (hval 0 25 v0 rfl rfl) hf0 hw0
  obtain ⟨B0, B1, B2, e0, e1, e2, g, rfl, hb, sb, wb⟩ := argFt (hval 1 25 v1 rfl rfl) hf1 hw1
  obtain ⟨pt, rfl⟩ := argP (hval 2 27 v2 rfl rfl) hf2 hw2
  refine (law_any f g pt A0 A1 A2 B0 B1 B2 c0 c1 c2 e0 e1 e2 W ha hb sa sb wa wb).mono fun e W' ⟨he, bel⟩ => ?_
  subst he
  exact ⟨_, rfl, _, _, _, [], _, [], hW', trodAll_mk1 (shut_bool Try.underlying4 _), (trodAll_cons_mk (Below.trod laidOut (by kernel_rfl) (of_decide_eq_true (by kernel_rfl)) k0 bel lt0) (trodAll_cons_mk (Below.trod laidOut (by kernel_rfl) (of_decide_eq_true (by kernel_rfl)) k1 bel lt1) (trodAll_cons_mk (Below.trod laidOut (by kernel_rfl) (of_decide_eq_true (by kernel_rfl)) k2 bel lt2) trodAll_mk0))), rfl, bel.frame _, fun h => by cases h⟩
theorem over : Rows.setsAsksRow.holds Try.pinned (OpenSpec.ofChange Rows.setsAsksSpec) :=
  OpenClaim.holds_of_wide 3 Try.f3 rfl rfl rfl rfl rfl rfl rfl ⟨rfl, rfl, rfl, rfl, rfl⟩ rfl rfl rfl rfl rfl (by kernel_rfl) Try.func3 (by kernel_rfl)
    (of_decide_eq_true (by kernel_rfl)) (by unfold Func.isWrapper; first | (rw [if_pos (by decide +kernel)]; kernel_rfl) | (rw [if_neg (by decide +kernel)]; exact ⟨rfl, rfl⟩))
    (fun os started H enc _ => lifted os started H enc)
theorem proved : Rows.SetsAsksSaid := over
end Go.Proofs.Ytldlenjfpjihdaa.setsAsks
namespace Go.Proofs.Ytldlenjfpjihdaa
theorem setsAsks_holds : Rows.SetsAsksSaid := setsAsks.proved
end Go.Proofs.Ytldlenjfpjihdaa
end
