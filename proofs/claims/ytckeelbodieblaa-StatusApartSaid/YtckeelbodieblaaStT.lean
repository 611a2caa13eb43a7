/- Status: the reference's Begin and Forget. -/
import Derived.Test.YtckeelbodieblaaStS
namespace Go.Proofs.Ytckeelbodieblaa.St
open Go Go.RowKit Go.Proofs Go.Maps Go.MuLone Go.Sort Go.Shelf Go.Proofs.YtckeelbodieblaaW.PrintWords Go.Proofs.YtckeelbodieblaaW.PrintLast Go.Proofs.YtckeelbodieblaaW.PrintMore Go.Proofs.Ytckeelbodieblaa.PB
set_option linter.unusedVariables false
set_option linter.unusedSimpArgs false
/-- append(v, p), p being boxed as one element. -/
theorem app70 {ops : Array Oper} {rest : List Oper} {o : Oper} {a : Act} {Q : Exit → Act → World → Prop} {w0 W : World} {base n0 : Nat} (hgd : o.guard = none) (s x : Operand) (ho : o.op = .call { callee := .builtin .append, args := #[s, x], argTypes := #[25, 25] })
    (v : Value) (xs : List S70) (p : S70) (hs : a.eval s = v) (hx : a.eval x = .slice (some ⟨n0, 0, none⟩) 1 1) (hn0 : n0 = W.heap.size) {ok : Nat → Prop} (hok : ∀ k, W.heap.size ≤ k → ok k)
    (HO : Kd.R k70 70 W base ok v xs) (HB : Below base w0 W) (hbase : base ≤ W.heap.size) (hl : (xs.length + 1) * 24 ≤ 140737488355328)
    (h : ∀ v1 w1, Kd.R k70 70 w1 base ok v1 (xs ++ [p]) → Below base w0 w1 → W.grownBy w1 v.ownBlock → wpList Try.prog ops Q rest (a.put o.dst v1) w1) :
    wpList Try.prog ops Q (o :: rest) a (W.alloc (.cells #[.int .i64 p.f0, .int .i64 p.f1, .int .u64 p.f2] 70)) := by
  subst hn0
  refine Kd.R_append k70 (w0 := w0) (W := W) base hgd s x 25 70 (.agg #[(.int .i64 0), (.int .i64 0), (.int .u64 0)]) 24 ho Try.underlying25 info70 rfl (by decide) (by omega) v xs p [.int .i64 p.f0, .int .i64 p.f1, .int .u64 p.f2] ok (fun _ => False) hs hx (k70_mkM _ _ _ p) (fun _ hk => hk.elim) hok HO HB hbase hl ?_
  intro v1 w1 ho hb hg _
  exact h v1 w1 ho hb hg
section
variable {L : List S70} {last n : Int} {A : Option Addr} {c : Nat} {w : World}
set_option maxHeartbeats 4000000 in
set_option maxRecDepth 100000 in
theorem rBegin_full (hC : Kd.C k70 w A L.length L) (hc : L.length ≤ c) (hl : L.length < 5864062014805) (hf : 256 ≤ (openL L).length) :
    Calls Try.prog 8 #[.agg #[.slice A L.length c, .int .i64 last]] w fun e w' => e = .returned (.tuple #[.agg #[.slice A L.length c, .int .i64 last], .int .i64 0, .int .i64 2]) ∧ Below w.heap.size w w' := by
  generalize hw2 : (w.alloc (.cells #[.slice A L.length c, .int .i64 last] 27)).alloc (.cells #[.slice none 0 0, .int .i64 0] 27) = w2
  have b1 : w2.heap[w.heap.size]? = some (.cells #[.slice A L.length c, .int .i64 last] 27) := by rw [← hw2]; exact heap_old (heap_new _ _)
  have b2 : w2.heap[w.heap.size + 1]? = some (.cells #[.slice none 0 0, .int .i64 0] 27) := by rw [← hw2]; have := heap_new (w.alloc (.cells #[.slice A L.length c, .int .i64 last] 27)) (.cells #[.slice none 0 0, .int .i64 0] 27); rw [size_new] at this; exact this
  have hB2 : Below w.heap.size w w2 := by rw [← hw2]; exact below_alloc (below_alloc (Below.refl _ _) _) _
  have HC := Aside0.mk hC
  have HB2 := Aside0.mk hB2
  have HW := Aside0.mk hw2
  have hz2 := hB2.size
  have hlk := ropen_any (last := last) (Kd.C_below hC hB2) hc hl
  have hfz : ((openL L).length : Int) ≥ 256 := by omega
  clear hC hB2 hw2
  go_enter Try.func8, Try.ntmps8
  go_wp2_with (go_at_call 19; rw [HW.out]; refine hlk.mono ?_; rintro e w3 ⟨vo, rfl, hRo, hB3⟩; obtain ⟨Ao, co, rfl⟩ := Kd.R_slice hRo; clear hRo; have D1 := Aside0.mk ((hB3.block _ (lt_of b1)).trans b1); have D2 := Aside0.mk ((hB3.block _ (lt_of b2)).trans b2); have c0 : w3.cell? ⟨w.heap.size, 0, none⟩ = some (.slice A L.length c) := cell_of D1.out 0; have c1 : w3.cell? ⟨w.heap.size, 1, none⟩ = some (.int .i64 last) := cell_of D1.out 1; have c2 : w3.cell? ⟨w.heap.size + 1, 0, none⟩ = some (.slice none 0 0) := cell_of D2.out 0; have c3 : w3.cell? ⟨w.heap.size + 1, 1, none⟩ = some (.int .i64 0) := cell_of D2.out 1; have f2 : w3.frozen? ⟨w.heap.size + 1, 0, none⟩ = false := frozen_of D2.out 0; have f3 : w3.frozen? ⟨w.heap.size + 1, 1, none⟩ = false := frozen_of D2.out 1; have HB3 := Aside0.mk (below_step HB2.out hB3); clear hB3)
  refine bodyPost_ret (results_ctt rfl _ _ (w.heap.size + 1) 27 #[.slice A L.length c, .int .i64 last] (0, 0) _ rfl (setCell_heap (setCell_heap D2.out _) _) Try.underlying27 rfl (by kernel_rfl)) rfl ?_
  exact ⟨rfl, (HB3.out.setCell (p := ⟨w.heap.size + 1, 0, none⟩) (Nat.le_succ _) _).setCell (p := ⟨w.heap.size + 1, 1, none⟩) (Nat.le_succ _) _⟩
set_option maxHeartbeats 4000000 in
set_option maxRecDepth 100000 in
theorem rBegin_more (h0 : 0 ≤ last) (hlast : last + 1 < 9223372036854775807) (hC : Kd.C k70 w A L.length L) (hc : L.length ≤ c) (hl : L.length < 5864062014805) (hf : (openL L).length < 256) :
    Calls Try.prog 8 #[.agg #[.slice A L.length c, .int .i64 last]] w fun e w' => ∃ v', e = .returned (.tuple #[.agg #[v', .int .i64 (last + 1)], .int .i64 (last + 1), .int .i64 0]) ∧ Kd.R k70 70 w' w.heap.size (fun _ => True) v' (L ++ [⟨last + 1, 1, 0⟩]) ∧ Below w.heap.size w w' := by
  generalize hw2 : (w.alloc (.cells #[.slice A L.length c, .int .i64 last] 27)).alloc (.cells #[.slice none 0 0, .int .i64 0] 27) = w2
  have b1 : w2.heap[w.heap.size]? = some (.cells #[.slice A L.length c, .int .i64 last] 27) := by rw [← hw2]; exact heap_old (heap_new _ _)
  have b2 : w2.heap[w.heap.size + 1]? = some (.cells #[.slice none 0 0, .int .i64 0] 27) := by rw [← hw2]; have := heap_new (w.alloc (.cells #[.slice A L.length c, .int .i64 last] 27)) (.cells #[.slice none 0 0, .int .i64 0] 27); rw [size_new] at this; exact this
  have hB2 : Below w.heap.size w w2 := by rw [← hw2]; exact below_alloc (below_alloc (Below.refl _ _) _) _
  have HC := Aside0.mk hC
  have HB2 := Aside0.mk hB2
  have HW := Aside0.mk hw2
  have hz2 := hB2.size
  have hlk := ropen_any (last := last) (Kd.C_below hC hB2) hc (by omega)
  have hfz : ¬ ((openL L).length : Int) ≥ 256 := by omega
  have hwr : wrap64 (last + 1) = last + 1 := Go.IntWalk.wrap64_in _ (by omega)
  clear hC hB2 hw2
  go_enter Try.func8, Try.ntmps8
  go_wp2_with (first | (go_at_call 19; rw [HW.out]; refine hlk.mono ?_; rintro e w3 ⟨vo, rfl, hRo, hB3⟩; obtain ⟨Ao, co, rfl⟩ := Kd.R_slice hRo; clear hRo; have D1 := Aside0.mk ((hB3.block _ (lt_of b1)).trans b1); have D2 := Aside0.mk ((hB3.block _ (lt_of b2)).trans b2); have c0 : w3.cell? ⟨w.heap.size, 0, none⟩ = some (.slice A L.length c) := cell_of D1.out 0; have c1 : w3.cell? ⟨w.heap.size, 1, none⟩ = some (.int .i64 last) := cell_of D1.out 1; have c2 : w3.cell? ⟨w.heap.size + 1, 0, none⟩ = some (.slice none 0 0) := cell_of D2.out 0; have c3 : w3.cell? ⟨w.heap.size + 1, 1, none⟩ = some (.int .i64 0) := cell_of D2.out 1; have f2 : w3.frozen? ⟨w.heap.size + 1, 0, none⟩ = false := frozen_of D2.out 0; have f3 : w3.frozen? ⟨w.heap.size + 1, 1, none⟩ = false := frozen_of D2.out 1; have HB3 := Aside0.mk (below_step HB2.out hB3); clear hB3; have hwith := with_any (last := last) (-1) ⟨0, 0, 0⟩ (Kd.C_below HC.out HB3.out) hc (by omega); rw [if_neg (show ¬ (0 : Int) ≤ -1 by decide)] at hwith) | (go_at_call 20; refine hwith.mono ?_; rintro e w4 ⟨v, rfl, hR4, hB4⟩; obtain ⟨A4, c4, rfl⟩ := Kd.R_slice hR4; have HR4 := Aside0.mk hR4; have HB4 := Aside0.mk hB4; have D4 := Aside0.mk ((hB4.block _ (lt_of D2.out)).trans D2.out); have E4 := Aside0.mk ((hB4.block _ (lt_of D1.out)).trans D1.out); have e2 : w4.cell? ⟨w.heap.size + 1, 0, none⟩ = some (.slice none 0 0) := cell_of D4.out 0; have e3 : w4.cell? ⟨w.heap.size + 1, 1, none⟩ = some (.int .i64 0) := cell_of D4.out 1; have g2 : w4.frozen? ⟨w.heap.size + 1, 0, none⟩ = false := frozen_of D4.out 0; have g3 : w4.frozen? ⟨w.heap.size + 1, 1, none⟩ = false := frozen_of D4.out 1; have e1 : w4.cell? ⟨w.heap.size, 1, none⟩ = some (.int .i64 last) := cell_of E4.out 1; have hz4 := lt_of D4.out; have hz41 := lt_of E4.out; clear hR4 hB4) | ((with_reducible refine gate_builtin (b := .append) (xs := #[.tmp 19, .tmp 23]) rfl ?_); at_builtin; have hz3 := HB3.out.size; have hzb : w.heap.size ≤ w4.heap.size := Nat.le_of_lt hz41; have h13 : w.heap.size + 1 < w3.heap.size := lt_of D2.out; refine app70 (w0 := w) (base := w.heap.size) (ok := fun k => k ≠ w4.heap.size ∧ k ≠ w.heap.size + 1) rfl (.tmp 19) (.tmp 23) rfl _ L ⟨last + 1, 1, 0⟩ rfl rfl (size_new _ _).symm (fun k hk => by rw [size_new] at hk; omega) (Kd.R_alloc (Kd.R_mono (Kd.R_lower (Kd.R_bound HR4.out) hz3) (fun k hk => by have := hk.2.1; have := hk.2.2.1; omega)) _) (below_alloc (below_step HB3.out HB4.out) _) (by rw [size_new]; omega) (by omega) ?_; intro v1 w5 ho hb hg; obtain ⟨A5, c5, rfl⟩ := Kd.R_slice ho; simp only [List.length_append, List.length_cons, List.length_nil, Nat.zero_add] at ho ⊢; have HO5 := Aside0.mk ho; have HB5 := Aside0.mk hb; have hown : ∀ k, (Value.slice A4 L.length c4).ownBlock = some k → k < w4.heap.size ∧ w3.heap.size ≤ k := fun k hk => by { have h9 := (Kd.R_bound HR4.out).1 k hk; exact ⟨h9.2.2.1, h9.2.1⟩ }; have H5 := Aside0.mk ((hg.block w4.heap.size (by rw [size_new]; omega) (fun e => by have h9 := hown _ e.symm; omega)).trans (heap_new w4 _)); have D5 := Aside0.mk ((hg.block (w.heap.size + 1) (by rw [size_new]; omega) (fun e => by have h9 := hown _ e.symm; omega)).trans (heap_old D4.out)); have k0 : w5.cell? ⟨w4.heap.size, 0, none⟩ = some (.slice A4 L.length c4) := cell_of H5.out 0; have k1 : w5.cell? ⟨w4.heap.size, 1, none⟩ = some (.int .i64 (last + 1)) := cell_of H5.out 1; have k2 : w5.frozen? ⟨w4.heap.size, 0, none⟩ = false := frozen_of H5.out 0; have q0 : w5.cell? ⟨w.heap.size + 1, 0, none⟩ = some (.slice none 0 0) := cell_of D5.out 0; have q1 : w5.cell? ⟨w.heap.size + 1, 1, none⟩ = some (.int .i64 0) := cell_of D5.out 1; have q2 : w5.frozen? ⟨w.heap.size + 1, 0, none⟩ = false := frozen_of D5.out 0; have q3 : w5.frozen? ⟨w.heap.size + 1, 1, none⟩ = false := frozen_of D5.out 1; have n1 : (w4.heap.size = w.heap.size + 1) = False := eq_false (by omega); have n2 : (w.heap.size + 1 = w4.heap.size) = False := eq_false (by omega); clear hown ho hb hg))
  have H6 := setCell_heap (i := 0) H5.out (.slice A5 (L.length + 1) c5)
  have D6 := (Below.heap_setCell w5 (⟨w4.heap.size, 0, none⟩ : Addr) (.slice A5 (L.length + 1) c5) (w.heap.size + 1) (show w.heap.size + 1 ≠ w4.heap.size by omega)).trans D5.out
  have HO6 := Aside0.mk (Kd.R_far HO5.out (p := ⟨w4.heap.size, 0, none⟩) (fun k hk => hk.1) (.slice A5 (L.length + 1) c5))
  have HB6 := Aside0.mk (HB5.out.setCell (p := ⟨w4.heap.size, 0, none⟩) hzb (.slice A5 (L.length + 1) c5))
  generalize w5.setCell ⟨w4.heap.size, 0, none⟩ (.slice A5 (L.length + 1) c5) = w6 at H6 D6 HO6 HB6 ⊢
  have D6' := Aside0.mk D6
  clear k0 k1 k2 q0 q1 q2 q3
  have k0 : w6.cell? ⟨w4.heap.size, 0, none⟩ = some (.slice A5 (L.length + 1) c5) := cell_of H6 0
  have k1 : w6.cell? ⟨w4.heap.size, 1, none⟩ = some (.int .i64 (last + 1)) := cell_of H6 1
  have q0 : w6.cell? ⟨w.heap.size + 1, 0, none⟩ = some (.slice none 0 0) := cell_of D6 0
  have q1 : w6.cell? ⟨w.heap.size + 1, 1, none⟩ = some (.int .i64 0) := cell_of D6 1
  have q2 : w6.frozen? ⟨w.heap.size + 1, 0, none⟩ = false := frozen_of D6 0
  have q3 : w6.frozen? ⟨w.heap.size + 1, 1, none⟩ = false := frozen_of D6 1
  clear H6 D6
  go_region
  go_wp2
  trace_state
  refine bodyPost_ret (results_ctt rfl _ _ (w.heap.size + 1) 27 #[.slice A5 (L.length + 1) c5, .int .i64 (last + 1)] (0, 0) _ rfl ?_ Try.underlying27 rfl (by kernel_rfl)) rfl ?_
  · exact setCell_heap (setCell_heap D6'.out _) _
  · refine ⟨_, rfl, ?_, ?_⟩
    · refine Kd.R_mono (Kd.R_far (Kd.R_far (Kd.R_drew HO6.out) (p := ⟨w.heap.size + 1, 0, none⟩) (fun k hk => hk.2) _) (p := ⟨w.heap.size + 1, 1, none⟩) (fun k hk => hk.2) _) (fun _ _ => trivial)
    · exact ((below_drew1 HB6.out).setCell (p := ⟨w.heap.size + 1, 0, none⟩) (Nat.le_succ _) _).setCell (p := ⟨w.heap.size + 1, 1, none⟩) (Nat.le_succ _) _
end
end Go.Proofs.Ytckeelbodieblaa.St
