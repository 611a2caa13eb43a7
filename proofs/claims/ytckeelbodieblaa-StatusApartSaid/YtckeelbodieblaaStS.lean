/- Status: the reference's Begin, Prepare, Abort, Commit, Forget. -/
import Derived.Test.YtckeelbodieblaaStR
namespace Go.Proofs.Ytckeelbodieblaa.St
open Go Go.RowKit Go.Proofs Go.Maps Go.MuLone Go.Sort Go.Shelf Go.Proofs.YtckeelbodieblaaW.PrintWords Go.Proofs.YtckeelbodieblaaW.PrintLast Go.Proofs.YtckeelbodieblaaW.PrintMore Go.Proofs.Ytckeelbodieblaa.PB
set_option linter.unusedVariables false
set_option linter.unusedSimpArgs false
theorem results_ct {P : Program} {fn : Func} {p q : Tmp} {ty : TypeId} (h : fn.results = #[.cell p ty, .tmp q]) (tmps : Array Value) (w : World) (g : Nat) (t : TypeId) (cs : Array Value) (fr : Nat × Nat) (d : TypeDesc)
    (hp : tmps.getD p undef = .pointer (some ⟨g, 0, none⟩)) (hg : w.heap[g]? = some (.cells cs t fr))
    (hu : P.underlying ty = some d) (hd : (match d with | .struct _ | .array _ _ => true | _ => false) = true) (hi : (P.info? ty).map (·.size) = some cs.size) :
    (results fn tmps).run P w = .ok (.tuple #[.agg cs, tmps.getD q undef]) w := by
  have hp' : tmps[p]?.getD undef = .pointer (some ⟨g, 0, none⟩) := by simpa using hp
  simp [results, h, hp', asAddr, run_loadVar_row w g t ty cs fr d hg hu hd hi]
theorem results_ctt {P : Program} {fn : Func} {p q r : Tmp} {ty : TypeId} (h : fn.results = #[.cell p ty, .tmp q, .tmp r]) (tmps : Array Value) (w : World) (g : Nat) (t : TypeId) (cs : Array Value) (fr : Nat × Nat) (d : TypeDesc)
    (hp : tmps.getD p undef = .pointer (some ⟨g, 0, none⟩)) (hg : w.heap[g]? = some (.cells cs t fr))
    (hu : P.underlying ty = some d) (hd : (match d with | .struct _ | .array _ _ => true | _ => false) = true) (hi : (P.info? ty).map (·.size) = some cs.size) :
    (results fn tmps).run P w = .ok (.tuple #[.agg cs, tmps.getD q undef, tmps.getD r undef]) w := by
  have hp' : tmps[p]?.getD undef = .pointer (some ⟨g, 0, none⟩) := by simpa using hp
  simp [results, h, hp', asAddr, run_loadVar_row w g t ty cs fr d hg hu hd hi]
/-- What the reference tells: the rows that came in, or rows of its own. -/
def RO (w w' : World) (A : Option Addr) (c : Nat) (L : List S70) (v' : Value) (L' : List S70) : Prop := (v' = .slice A L.length c ∧ L' = L) ∨ Kd.R k70 70 w' w.heap.size (fun _ => True) v' L'
section
variable {L : List S70} {last n : Int} {A : Option Addr} {c : Nat} {w : World}
theorem look_any (hC : Kd.C k70 w A L.length L) (hc : L.length ≤ c) (hl : L.length < 5864062014805) :
    Calls Try.prog 39 #[.agg #[.slice A L.length c, .int .i64 last], .int .i64 n] w fun e w' => e = .returned (.tuple #[.int .i64 (lookS L n).1, .int .i64 (lookS L n).2]) ∧ Below w.heap.size w w' := by
  obtain ⟨k, hk⟩ := (looked_ev L last n (by omega)).ex
  exact vellumref09_looked.calls k A c L last n _ _ w hC hc hk
theorem rfind_any (hC : Kd.C k70 w A L.length L) (hc : L.length ≤ c) (hl : L.length < 5864062014805) :
    Calls Try.prog 43 #[.agg #[.slice A L.length c, .int .i64 last], .int .i64 n] w fun e w' => e = .returned (.int .i64 (idx? L n)) ∧ Below w.heap.size w w' := by
  obtain ⟨k, hk⟩ := (find_ev L last n (by omega)).ex
  exact vellumref09_find.calls k A c L last n _ w hC hc hk
theorem rstate_any (hC : Kd.C k70 w A L.length L) (hc : L.length ≤ c) (hl : L.length < 5864062014805) :
    Calls Try.prog 32 #[.agg #[.slice A L.length c, .int .i64 last], .int .i64 n] w fun e w' => e = .returned (.tuple #[.int .i64 (stateS L n).1, .int .u64 (stateS L n).2.1, .int .i64 (stateS L n).2.2]) ∧ Below w.heap.size w w' := by
  obtain ⟨k, hk⟩ := (state_ev L last n (by omega)).ex
  exact vellumref09_State.calls k A c L last n _ _ _ w hC hc hk
theorem ropen_any (hC : Kd.C k70 w A L.length L) (hc : L.length ≤ c) (hl : L.length < 5864062014805) :
    Calls Try.prog 19 #[.agg #[.slice A L.length c, .int .i64 last]] w fun e w' => ∃ v, e = .returned v ∧ Kd.R (Kd.int .i64) 3 w' w.heap.size (fun _ => True) v (openL L) ∧ Below w.heap.size w w' := by
  obtain ⟨k, hk⟩ := (open_ev L last (by omega)).ex
  exact vellumref09_Open.calls k A c L last _ w hC hc hk
theorem with_any (a : Int) (y : S70) (hC : Kd.C k70 w A L.length L) (hc : L.length ≤ c) (hl : L.length < 5864062014805) :
    Calls Try.prog 20 #[.agg #[.slice A L.length c, .int .i64 last], .int .i64 a, .agg #[.int .i64 y.f0, .int .i64 y.f1, .int .u64 y.f2]] w fun e w' => ∃ v, e = .returned (.agg #[v, .int .i64 last]) ∧ Kd.R k70 70 w' w.heap.size (fun _ => True) v (if 0 ≤ a then L.set a.toNat y else L) ∧ Below w.heap.size w w' := by
  obtain ⟨k, hk⟩ := (with_ev L last a y hl).ex
  exact vellumref09_with.calls k A c L last a y.f0 y.f1 y.f2 _ _ w hC hc hk
set_option maxHeartbeats 4000000 in
set_option maxRecDepth 100000 in
theorem rPrepare (hC : Kd.C k70 w A L.length L) (hc : L.length ≤ c) (hl : L.length < 5864062014805) :
    Calls Try.prog 21 #[.agg #[.slice A L.length c, .int .i64 last], .int .i64 n] w fun e w' => ∃ v', e = .returned (.tuple #[.agg #[v', .int .i64 last], .int .i64 (turnS L n 2 0 (fun _ => 0)).2]) ∧ RO w w' A c L v' (turnS L n 2 0 (fun _ => 0)).1 ∧ Below w.heap.size w w' := by
  generalize hw2 : (w.alloc (.cells #[.slice A L.length c, .int .i64 last] 27)).alloc (.cells #[.slice none 0 0, .int .i64 0] 27) = w2
  have b1 : w2.heap[w.heap.size]? = some (.cells #[.slice A L.length c, .int .i64 last] 27) := by rw [← hw2]; exact heap_old (heap_new _ _)
  have b2 : w2.heap[w.heap.size + 1]? = some (.cells #[.slice none 0 0, .int .i64 0] 27) := by rw [← hw2]; have := heap_new (w.alloc (.cells #[.slice A L.length c, .int .i64 last] 27)) (.cells #[.slice none 0 0, .int .i64 0] 27); rw [size_new] at this; exact this
  have hB2 : Below w.heap.size w w2 := by rw [← hw2]; exact below_alloc (below_alloc (Below.refl _ _) _) _
  have HC := Aside0.mk hC
  have HB2 := Aside0.mk hB2
  have HW := Aside0.mk hw2
  have hz2 := hB2.size
  have hlk := look_any (n := n) (last := last) (Kd.C_below hC hB2) hc hl
  clear hC hB2 hw2
  cases hat : at? L n with
  | none =>
    rw [show lookS L n = (0, 90) by unfold lookS; rw [hat]] at hlk
    rw [show turnS L n 2 0 (fun _ => 0) = (L, 90) by unfold turnS; rw [hat]]
    go_enter Try.func21, Try.ntmps21
    go_wp2_with (go_at_call 39; rw [HW.out]; refine hlk.mono ?_; rintro e w3 ⟨rfl, hB3⟩; have D1 := Aside0.mk ((hB3.block _ (lt_of b1)).trans b1); have D2 := Aside0.mk ((hB3.block _ (lt_of b2)).trans b2); have c0 : w3.cell? ⟨w.heap.size, 0, none⟩ = some (.slice A L.length c) := cell_of D1.out 0; have c1 : w3.cell? ⟨w.heap.size, 1, none⟩ = some (.int .i64 last) := cell_of D1.out 1; have c2 : w3.cell? ⟨w.heap.size + 1, 0, none⟩ = some (.slice none 0 0) := cell_of D2.out 0; have c3 : w3.cell? ⟨w.heap.size + 1, 1, none⟩ = some (.int .i64 0) := cell_of D2.out 1; have f2 : w3.frozen? ⟨w.heap.size + 1, 0, none⟩ = false := frozen_of D2.out 0; have f3 : w3.frozen? ⟨w.heap.size + 1, 1, none⟩ = false := frozen_of D2.out 1; have HB3 := Aside0.mk (below_step HB2.out hB3); clear hB3)
    refine bodyPost_ret (results_ct rfl _ _ (w.heap.size + 1) 27 #[.slice A L.length c, .int .i64 last] (0, 0) _ rfl (setCell_heap (setCell_heap D2.out _) _) Try.underlying27 rfl (by kernel_rfl)) rfl ?_
    exact ⟨_, rfl, .inl ⟨rfl, rfl⟩, (HB3.out.setCell (p := ⟨w.heap.size + 1, 0, none⟩) (Nat.le_succ _) _).setCell (p := ⟨w.heap.size + 1, 1, none⟩) (Nat.le_succ _) _⟩
  | some p =>
    obtain ⟨i, x⟩ := p
    have hi : L[i]? = some x := (at?_some hat).1
    cases hd : dec x.f1 with
    | true =>
      rw [show lookS L n = (0, 91) by unfold lookS; rw [hat]; simp [hd]] at hlk
      rw [show turnS L n 2 0 (fun _ => 0) = (L, 91) by unfold turnS; rw [hat]; simp [hd]]
      go_enter Try.func21, Try.ntmps21
      go_wp2_with (go_at_call 39; rw [HW.out]; refine hlk.mono ?_; rintro e w3 ⟨rfl, hB3⟩; have D1 := Aside0.mk ((hB3.block _ (lt_of b1)).trans b1); have D2 := Aside0.mk ((hB3.block _ (lt_of b2)).trans b2); have c0 : w3.cell? ⟨w.heap.size, 0, none⟩ = some (.slice A L.length c) := cell_of D1.out 0; have c1 : w3.cell? ⟨w.heap.size, 1, none⟩ = some (.int .i64 last) := cell_of D1.out 1; have c2 : w3.cell? ⟨w.heap.size + 1, 0, none⟩ = some (.slice none 0 0) := cell_of D2.out 0; have c3 : w3.cell? ⟨w.heap.size + 1, 1, none⟩ = some (.int .i64 0) := cell_of D2.out 1; have f2 : w3.frozen? ⟨w.heap.size + 1, 0, none⟩ = false := frozen_of D2.out 0; have f3 : w3.frozen? ⟨w.heap.size + 1, 1, none⟩ = false := frozen_of D2.out 1; have HB3 := Aside0.mk (below_step HB2.out hB3); clear hB3)
      refine bodyPost_ret (results_ct rfl _ _ (w.heap.size + 1) 27 #[.slice A L.length c, .int .i64 last] (0, 0) _ rfl (setCell_heap (setCell_heap D2.out _) _) Try.underlying27 rfl (by kernel_rfl)) rfl ?_
      exact ⟨_, rfl, .inl ⟨rfl, rfl⟩, (HB3.out.setCell (p := ⟨w.heap.size + 1, 0, none⟩) (Nat.le_succ _) _).setCell (p := ⟨w.heap.size + 1, 1, none⟩) (Nat.le_succ _) _⟩
    | false =>
      rw [show lookS L n = ((i : Int), 0) by unfold lookS; rw [hat]; simp [hd]] at hlk
      rw [show turnS L n 2 0 (fun _ => 0) = (L.set i ⟨n, 2, 0⟩, 0) by unfold turnS; rw [hat]; simp [hd]]
      clear hi
      go_enter Try.func21, Try.ntmps21
      go_wp2_with (first | (go_at_call 39; rw [HW.out]; refine hlk.mono ?_; rintro e w3 ⟨rfl, hB3⟩; have D1 := Aside0.mk ((hB3.block _ (lt_of b1)).trans b1); have D2 := Aside0.mk ((hB3.block _ (lt_of b2)).trans b2); have c0 : w3.cell? ⟨w.heap.size, 0, none⟩ = some (.slice A L.length c) := cell_of D1.out 0; have c1 : w3.cell? ⟨w.heap.size, 1, none⟩ = some (.int .i64 last) := cell_of D1.out 1; have c2 : w3.cell? ⟨w.heap.size + 1, 0, none⟩ = some (.slice none 0 0) := cell_of D2.out 0; have c3 : w3.cell? ⟨w.heap.size + 1, 1, none⟩ = some (.int .i64 0) := cell_of D2.out 1; have f2 : w3.frozen? ⟨w.heap.size + 1, 0, none⟩ = false := frozen_of D2.out 0; have f3 : w3.frozen? ⟨w.heap.size + 1, 1, none⟩ = false := frozen_of D2.out 1; have HB3 := Aside0.mk (below_step HB2.out hB3); clear hB3; have hwith := with_any (last := last) (i : Int) ⟨n, 2, 0⟩ (Kd.C_below HC.out HB3.out) hc hl; rw [if_pos (show (0 : Int) ≤ (i : Int) by omega), Int.toNat_natCast] at hwith) | (go_at_call 20; refine hwith.mono ?_; rintro e w4 ⟨v, rfl, hR4, hB4⟩; obtain ⟨A4, c4, rfl⟩ := Kd.R_slice hR4; simp only [List.length_set] at hR4 ⊢; have HR4 := Aside0.mk hR4; have HB4 := Aside0.mk (below_step HB3.out hB4); have D4 := Aside0.mk ((hB4.block _ (lt_of D2.out)).trans D2.out); have e2 : w4.cell? ⟨w.heap.size + 1, 0, none⟩ = some (.slice none 0 0) := cell_of D4.out 0; have e3 : w4.cell? ⟨w.heap.size + 1, 1, none⟩ = some (.int .i64 0) := cell_of D4.out 1; have g2 : w4.frozen? ⟨w.heap.size + 1, 0, none⟩ = false := frozen_of D4.out 0; have g3 : w4.frozen? ⟨w.heap.size + 1, 1, none⟩ = false := frozen_of D4.out 1; have hz4 := hB4.size; clear hR4 hB4))
      refine bodyPost_ret (results_ct rfl _ _ (w.heap.size + 1) 27 #[.slice A4 L.length c4, .int .i64 last] (0, 0) _ rfl (setCell_heap (setCell_heap D4.out _) _) Try.underlying27 rfl (by kernel_rfl)) rfl ?_
      have hz3 := HB3.out.size
      have h13 : w.heap.size + 1 < w3.heap.size := lt_of D2.out
      refine ⟨_, rfl, .inr ?_, (HB4.out.setCell (p := ⟨w.heap.size + 1, 0, none⟩) (Nat.le_succ _) _).setCell (p := ⟨w.heap.size + 1, 1, none⟩) (Nat.le_succ _) _⟩
      exact Kd.R_mono (Kd.R_far (Kd.R_far (Kd.R_lower (Kd.R_bound HR4.out) hz3) (p := ⟨w.heap.size + 1, 0, none⟩) (fun k hk => by have := hk.2.1; show k ≠ w.heap.size + 1; omega) _) (p := ⟨w.heap.size + 1, 1, none⟩) (fun k hk => by have := hk.2.1; show k ≠ w.heap.size + 1; omega) _) (fun _ _ => trivial)
set_option maxHeartbeats 4000000 in
set_option maxRecDepth 100000 in
theorem rAbort (hC : Kd.C k70 w A L.length L) (hc : L.length ≤ c) (hl : L.length < 5864062014805) :
    Calls Try.prog 25 #[.agg #[.slice A L.length c, .int .i64 last], .int .i64 n] w fun e w' => ∃ v', e = .returned (.tuple #[.agg #[v', .int .i64 last], .int .i64 (turnS L n 4 0 (fun _ => 0)).2]) ∧ RO w w' A c L v' (turnS L n 4 0 (fun _ => 0)).1 ∧ Below w.heap.size w w' := by
  generalize hw2 : (w.alloc (.cells #[.slice A L.length c, .int .i64 last] 27)).alloc (.cells #[.slice none 0 0, .int .i64 0] 27) = w2
  have b1 : w2.heap[w.heap.size]? = some (.cells #[.slice A L.length c, .int .i64 last] 27) := by rw [← hw2]; exact heap_old (heap_new _ _)
  have b2 : w2.heap[w.heap.size + 1]? = some (.cells #[.slice none 0 0, .int .i64 0] 27) := by rw [← hw2]; have := heap_new (w.alloc (.cells #[.slice A L.length c, .int .i64 last] 27)) (.cells #[.slice none 0 0, .int .i64 0] 27); rw [size_new] at this; exact this
  have hB2 : Below w.heap.size w w2 := by rw [← hw2]; exact below_alloc (below_alloc (Below.refl _ _) _) _
  have HC := Aside0.mk hC
  have HB2 := Aside0.mk hB2
  have HW := Aside0.mk hw2
  have hz2 := hB2.size
  have hlk := look_any (n := n) (last := last) (Kd.C_below hC hB2) hc hl
  clear hC hB2 hw2
  cases hat : at? L n with
  | none =>
    rw [show lookS L n = (0, 90) by unfold lookS; rw [hat]] at hlk
    rw [show turnS L n 4 0 (fun _ => 0) = (L, 90) by unfold turnS; rw [hat]]
    go_enter Try.func25, Try.ntmps25
    go_wp2_with (go_at_call 39; rw [HW.out]; refine hlk.mono ?_; rintro e w3 ⟨rfl, hB3⟩; have D1 := Aside0.mk ((hB3.block _ (lt_of b1)).trans b1); have D2 := Aside0.mk ((hB3.block _ (lt_of b2)).trans b2); have c0 : w3.cell? ⟨w.heap.size, 0, none⟩ = some (.slice A L.length c) := cell_of D1.out 0; have c1 : w3.cell? ⟨w.heap.size, 1, none⟩ = some (.int .i64 last) := cell_of D1.out 1; have c2 : w3.cell? ⟨w.heap.size + 1, 0, none⟩ = some (.slice none 0 0) := cell_of D2.out 0; have c3 : w3.cell? ⟨w.heap.size + 1, 1, none⟩ = some (.int .i64 0) := cell_of D2.out 1; have f2 : w3.frozen? ⟨w.heap.size + 1, 0, none⟩ = false := frozen_of D2.out 0; have f3 : w3.frozen? ⟨w.heap.size + 1, 1, none⟩ = false := frozen_of D2.out 1; have HB3 := Aside0.mk (below_step HB2.out hB3); clear hB3)
    refine bodyPost_ret (results_ct rfl _ _ (w.heap.size + 1) 27 #[.slice A L.length c, .int .i64 last] (0, 0) _ rfl (setCell_heap (setCell_heap D2.out _) _) Try.underlying27 rfl (by kernel_rfl)) rfl ?_
    exact ⟨_, rfl, .inl ⟨rfl, rfl⟩, (HB3.out.setCell (p := ⟨w.heap.size + 1, 0, none⟩) (Nat.le_succ _) _).setCell (p := ⟨w.heap.size + 1, 1, none⟩) (Nat.le_succ _) _⟩
  | some p =>
    obtain ⟨i, x⟩ := p
    have hi : L[i]? = some x := (at?_some hat).1
    cases hd : dec x.f1 with
    | true =>
      rw [show lookS L n = (0, 91) by unfold lookS; rw [hat]; simp [hd]] at hlk
      rw [show turnS L n 4 0 (fun _ => 0) = (L, 91) by unfold turnS; rw [hat]; simp [hd]]
      go_enter Try.func25, Try.ntmps25
      go_wp2_with (go_at_call 39; rw [HW.out]; refine hlk.mono ?_; rintro e w3 ⟨rfl, hB3⟩; have D1 := Aside0.mk ((hB3.block _ (lt_of b1)).trans b1); have D2 := Aside0.mk ((hB3.block _ (lt_of b2)).trans b2); have c0 : w3.cell? ⟨w.heap.size, 0, none⟩ = some (.slice A L.length c) := cell_of D1.out 0; have c1 : w3.cell? ⟨w.heap.size, 1, none⟩ = some (.int .i64 last) := cell_of D1.out 1; have c2 : w3.cell? ⟨w.heap.size + 1, 0, none⟩ = some (.slice none 0 0) := cell_of D2.out 0; have c3 : w3.cell? ⟨w.heap.size + 1, 1, none⟩ = some (.int .i64 0) := cell_of D2.out 1; have f2 : w3.frozen? ⟨w.heap.size + 1, 0, none⟩ = false := frozen_of D2.out 0; have f3 : w3.frozen? ⟨w.heap.size + 1, 1, none⟩ = false := frozen_of D2.out 1; have HB3 := Aside0.mk (below_step HB2.out hB3); clear hB3)
      refine bodyPost_ret (results_ct rfl _ _ (w.heap.size + 1) 27 #[.slice A L.length c, .int .i64 last] (0, 0) _ rfl (setCell_heap (setCell_heap D2.out _) _) Try.underlying27 rfl (by kernel_rfl)) rfl ?_
      exact ⟨_, rfl, .inl ⟨rfl, rfl⟩, (HB3.out.setCell (p := ⟨w.heap.size + 1, 0, none⟩) (Nat.le_succ _) _).setCell (p := ⟨w.heap.size + 1, 1, none⟩) (Nat.le_succ _) _⟩
    | false =>
      rw [show lookS L n = ((i : Int), 0) by unfold lookS; rw [hat]; simp [hd]] at hlk
      rw [show turnS L n 4 0 (fun _ => 0) = (L.set i ⟨n, 4, 0⟩, 0) by unfold turnS; rw [hat]; simp [hd]]
      clear hi
      go_enter Try.func25, Try.ntmps25
      go_wp2_with (first | (go_at_call 39; rw [HW.out]; refine hlk.mono ?_; rintro e w3 ⟨rfl, hB3⟩; have D1 := Aside0.mk ((hB3.block _ (lt_of b1)).trans b1); have D2 := Aside0.mk ((hB3.block _ (lt_of b2)).trans b2); have c0 : w3.cell? ⟨w.heap.size, 0, none⟩ = some (.slice A L.length c) := cell_of D1.out 0; have c1 : w3.cell? ⟨w.heap.size, 1, none⟩ = some (.int .i64 last) := cell_of D1.out 1; have c2 : w3.cell? ⟨w.heap.size + 1, 0, none⟩ = some (.slice none 0 0) := cell_of D2.out 0; have c3 : w3.cell? ⟨w.heap.size + 1, 1, none⟩ = some (.int .i64 0) := cell_of D2.out 1; have f2 : w3.frozen? ⟨w.heap.size + 1, 0, none⟩ = false := frozen_of D2.out 0; have f3 : w3.frozen? ⟨w.heap.size + 1, 1, none⟩ = false := frozen_of D2.out 1; have HB3 := Aside0.mk (below_step HB2.out hB3); clear hB3; have hwith := with_any (last := last) (i : Int) ⟨n, 4, 0⟩ (Kd.C_below HC.out HB3.out) hc hl; rw [if_pos (show (0 : Int) ≤ (i : Int) by omega), Int.toNat_natCast] at hwith) | (go_at_call 20; refine hwith.mono ?_; rintro e w4 ⟨v, rfl, hR4, hB4⟩; obtain ⟨A4, c4, rfl⟩ := Kd.R_slice hR4; simp only [List.length_set] at hR4 ⊢; have HR4 := Aside0.mk hR4; have HB4 := Aside0.mk (below_step HB3.out hB4); have D4 := Aside0.mk ((hB4.block _ (lt_of D2.out)).trans D2.out); have e2 : w4.cell? ⟨w.heap.size + 1, 0, none⟩ = some (.slice none 0 0) := cell_of D4.out 0; have e3 : w4.cell? ⟨w.heap.size + 1, 1, none⟩ = some (.int .i64 0) := cell_of D4.out 1; have g2 : w4.frozen? ⟨w.heap.size + 1, 0, none⟩ = false := frozen_of D4.out 0; have g3 : w4.frozen? ⟨w.heap.size + 1, 1, none⟩ = false := frozen_of D4.out 1; have hz4 := hB4.size; clear hR4 hB4))
      refine bodyPost_ret (results_ct rfl _ _ (w.heap.size + 1) 27 #[.slice A4 L.length c4, .int .i64 last] (0, 0) _ rfl (setCell_heap (setCell_heap D4.out _) _) Try.underlying27 rfl (by kernel_rfl)) rfl ?_
      have hz3 := HB3.out.size
      have h13 : w.heap.size + 1 < w3.heap.size := lt_of D2.out
      refine ⟨_, rfl, .inr ?_, (HB4.out.setCell (p := ⟨w.heap.size + 1, 0, none⟩) (Nat.le_succ _) _).setCell (p := ⟨w.heap.size + 1, 1, none⟩) (Nat.le_succ _) _⟩
      exact Kd.R_mono (Kd.R_far (Kd.R_far (Kd.R_lower (Kd.R_bound HR4.out) hz3) (p := ⟨w.heap.size + 1, 0, none⟩) (fun k hk => by have := hk.2.1; show k ≠ w.heap.size + 1; omega) _) (p := ⟨w.heap.size + 1, 1, none⟩) (fun k hk => by have := hk.2.1; show k ≠ w.heap.size + 1; omega) _) (fun _ _ => trivial)
set_option maxHeartbeats 4000000 in
set_option maxRecDepth 100000 in
theorem rCommit (t : Int) (hst : ∀ x ∈ L, 1 ≤ x.f1 ∧ x.f1 ≤ 4) (hC : Kd.C k70 w A L.length L) (hc : L.length ≤ c) (hl : L.length < 5864062014805) :
    Calls Try.prog 23 #[.agg #[.slice A L.length c, .int .i64 last], .int .i64 n, .int .u64 t] w fun e w' => ∃ v', e = .returned (.tuple #[.agg #[v', .int .i64 last], .int .i64 (turnS L n 3 t (fun x => mayC x.f1 t)).2]) ∧ RO w w' A c L v' (turnS L n 3 t (fun x => mayC x.f1 t)).1 ∧ Below w.heap.size w w' := by
  generalize hw2 : (w.alloc (.cells #[.slice A L.length c, .int .i64 last] 27)).alloc (.cells #[.slice none 0 0, .int .i64 0] 27) = w2
  have b1 : w2.heap[w.heap.size]? = some (.cells #[.slice A L.length c, .int .i64 last] 27) := by rw [← hw2]; exact heap_old (heap_new _ _)
  have b2 : w2.heap[w.heap.size + 1]? = some (.cells #[.slice none 0 0, .int .i64 0] 27) := by rw [← hw2]; have := heap_new (w.alloc (.cells #[.slice A L.length c, .int .i64 last] 27)) (.cells #[.slice none 0 0, .int .i64 0] 27); rw [size_new] at this; exact this
  have hB2 : Below w.heap.size w w2 := by rw [← hw2]; exact below_alloc (below_alloc (Below.refl _ _) _) _
  have HC := Aside0.mk hC
  have HB2 := Aside0.mk hB2
  have HW := Aside0.mk hw2
  have hz2 := hB2.size
  have hlk := look_any (n := n) (last := last) (Kd.C_below hC hB2) hc hl
  clear hC hB2 hw2
  cases hat : at? L n with
  | none =>
    rw [show lookS L n = (0, 90) by unfold lookS; rw [hat]] at hlk
    rw [show turnS L n 3 t (fun x => mayC x.f1 t) = (L, 90) by unfold turnS; rw [hat]]
    clear hst
    go_enter Try.func23, Try.ntmps23
    go_wp2_with (go_at_call 39; rw [HW.out]; refine hlk.mono ?_; rintro e w3 ⟨rfl, hB3⟩; have D1 := Aside0.mk ((hB3.block _ (lt_of b1)).trans b1); have D2 := Aside0.mk ((hB3.block _ (lt_of b2)).trans b2); have c0 : w3.cell? ⟨w.heap.size, 0, none⟩ = some (.slice A L.length c) := cell_of D1.out 0; have c1 : w3.cell? ⟨w.heap.size, 1, none⟩ = some (.int .i64 last) := cell_of D1.out 1; have c2 : w3.cell? ⟨w.heap.size + 1, 0, none⟩ = some (.slice none 0 0) := cell_of D2.out 0; have c3 : w3.cell? ⟨w.heap.size + 1, 1, none⟩ = some (.int .i64 0) := cell_of D2.out 1; have f2 : w3.frozen? ⟨w.heap.size + 1, 0, none⟩ = false := frozen_of D2.out 0; have f3 : w3.frozen? ⟨w.heap.size + 1, 1, none⟩ = false := frozen_of D2.out 1; have HB3 := Aside0.mk (below_step HB2.out hB3); clear hB3)
    refine bodyPost_ret (results_ct rfl _ _ (w.heap.size + 1) 27 #[.slice A L.length c, .int .i64 last] (0, 0) _ rfl (setCell_heap (setCell_heap D2.out _) _) Try.underlying27 rfl (by kernel_rfl)) rfl ?_
    exact ⟨_, rfl, .inl ⟨rfl, rfl⟩, (HB3.out.setCell (p := ⟨w.heap.size + 1, 0, none⟩) (Nat.le_succ _) _).setCell (p := ⟨w.heap.size + 1, 1, none⟩) (Nat.le_succ _) _⟩
  | some p =>
    obtain ⟨i, x⟩ := p
    have hi : L[i]? = some x := (at?_some hat).1
    have hsx := hst x (List.mem_of_getElem? hi)
    clear hst
    cases hd : dec x.f1 with
    | true =>
      rw [show lookS L n = (0, 91) by unfold lookS; rw [hat]; simp [hd]] at hlk
      rw [show turnS L n 3 t (fun x => mayC x.f1 t) = (L, 91) by unfold turnS; rw [hat]; simp [hd]]
      clear hi
      go_enter Try.func23, Try.ntmps23
      go_wp2_with (go_at_call 39; rw [HW.out]; refine hlk.mono ?_; rintro e w3 ⟨rfl, hB3⟩; have D1 := Aside0.mk ((hB3.block _ (lt_of b1)).trans b1); have D2 := Aside0.mk ((hB3.block _ (lt_of b2)).trans b2); have c0 : w3.cell? ⟨w.heap.size, 0, none⟩ = some (.slice A L.length c) := cell_of D1.out 0; have c1 : w3.cell? ⟨w.heap.size, 1, none⟩ = some (.int .i64 last) := cell_of D1.out 1; have c2 : w3.cell? ⟨w.heap.size + 1, 0, none⟩ = some (.slice none 0 0) := cell_of D2.out 0; have c3 : w3.cell? ⟨w.heap.size + 1, 1, none⟩ = some (.int .i64 0) := cell_of D2.out 1; have f2 : w3.frozen? ⟨w.heap.size + 1, 0, none⟩ = false := frozen_of D2.out 0; have f3 : w3.frozen? ⟨w.heap.size + 1, 1, none⟩ = false := frozen_of D2.out 1; have HB3 := Aside0.mk (below_step HB2.out hB3); clear hB3)
      refine bodyPost_ret (results_ct rfl _ _ (w.heap.size + 1) 27 #[.slice A L.length c, .int .i64 last] (0, 0) _ rfl (setCell_heap (setCell_heap D2.out _) _) Try.underlying27 rfl (by kernel_rfl)) rfl ?_
      exact ⟨_, rfl, .inl ⟨rfl, rfl⟩, (HB3.out.setCell (p := ⟨w.heap.size + 1, 0, none⟩) (Nat.le_succ _) _).setCell (p := ⟨w.heap.size + 1, 1, none⟩) (Nat.le_succ _) _⟩
    | false =>
      rw [show lookS L n = ((i : Int), 0) by unfold lookS; rw [hat]; simp [hd]] at hlk
      have hlt := (List.getElem?_eq_some_iff.1 hi).1
      have hltz : (i : Int) < (L.length : Int) := by omega
      have hT : turnS L n 3 t (fun x => mayC x.f1 t) = if mayC x.f1 t ≠ 0 then (L, mayC x.f1 t) else (L.set i ⟨n, 3, t⟩, 0) := by unfold turnS; rw [hat]; simp [hd]
      rw [hT]
      clear hT
      obtain ⟨ad, ea, hx0, hx1, hx2⟩ := at_T70 HC.out (i : Int) (by omega) hltz
      subst ea
      rw [rd70 hi] at hx0 hx1 hx2
      have HX1 := Aside0.mk hx1
      clear hi hx0 hx1 hx2
      have h34 : x.f1 ≠ 3 ∧ x.f1 ≠ 4 := by
        constructor
        · intro e; rw [e] at hd; exact absurd hd (by decide)
        · intro e; rw [e] at hd; exact absurd hd (by decide)
      by_cases h1 : x.f1 = 1
      · rw [show mayC x.f1 t = 92 by simp [mayC, h1]]
        rw [if_pos (by decide)]
        rw [h1] at HX1
        go_enter Try.func23, Try.ntmps23
        go_wp2_with (go_at_call 39; rw [HW.out]; refine hlk.mono ?_; rintro e w3 ⟨rfl, hB3⟩; have D1 := Aside0.mk ((hB3.block _ (lt_of b1)).trans b1); have D2 := Aside0.mk ((hB3.block _ (lt_of b2)).trans b2); have c0 : w3.cell? ⟨w.heap.size, 0, none⟩ = some (.slice (some ad) L.length c) := cell_of D1.out 0; have c1 : w3.cell? ⟨w.heap.size, 1, none⟩ = some (.int .i64 last) := cell_of D1.out 1; have c2 : w3.cell? ⟨w.heap.size + 1, 0, none⟩ = some (.slice none 0 0) := cell_of D2.out 0; have c3 : w3.cell? ⟨w.heap.size + 1, 1, none⟩ = some (.int .i64 0) := cell_of D2.out 1; have f2 : w3.frozen? ⟨w.heap.size + 1, 0, none⟩ = false := frozen_of D2.out 0; have f3 : w3.frozen? ⟨w.heap.size + 1, 1, none⟩ = false := frozen_of D2.out 1; have HB3 := Aside0.mk (below_step HB2.out hB3); clear hB3; have hx1 := HX1.out; replace hx1 := (HB3.out.cell (World.block_lt_of_cell? _ _ hx1)).trans hx1; simp only [Int.toNat_natCast] at hx1)
        refine bodyPost_ret (results_ct rfl _ _ (w.heap.size + 1) 27 #[.slice (some ad) L.length c, .int .i64 last] (0, 0) _ rfl (setCell_heap (setCell_heap D2.out _) _) Try.underlying27 rfl (by kernel_rfl)) rfl ?_
        exact ⟨_, rfl, .inl ⟨rfl, rfl⟩, (HB3.out.setCell (p := ⟨w.heap.size + 1, 0, none⟩) (Nat.le_succ _) _).setCell (p := ⟨w.heap.size + 1, 1, none⟩) (Nat.le_succ _) _⟩
      · have h2 : x.f1 = 2 := by omega
        rw [h2] at HX1
        by_cases h3 : t = 0
        · rw [show mayC x.f1 t = 1 by simp [mayC, h2, h3]]
          rw [if_pos (by decide)]
          go_enter Try.func23, Try.ntmps23
          go_wp2_with (go_at_call 39; rw [HW.out]; refine hlk.mono ?_; rintro e w3 ⟨rfl, hB3⟩; have D1 := Aside0.mk ((hB3.block _ (lt_of b1)).trans b1); have D2 := Aside0.mk ((hB3.block _ (lt_of b2)).trans b2); have c0 : w3.cell? ⟨w.heap.size, 0, none⟩ = some (.slice (some ad) L.length c) := cell_of D1.out 0; have c1 : w3.cell? ⟨w.heap.size, 1, none⟩ = some (.int .i64 last) := cell_of D1.out 1; have c2 : w3.cell? ⟨w.heap.size + 1, 0, none⟩ = some (.slice none 0 0) := cell_of D2.out 0; have c3 : w3.cell? ⟨w.heap.size + 1, 1, none⟩ = some (.int .i64 0) := cell_of D2.out 1; have f2 : w3.frozen? ⟨w.heap.size + 1, 0, none⟩ = false := frozen_of D2.out 0; have f3 : w3.frozen? ⟨w.heap.size + 1, 1, none⟩ = false := frozen_of D2.out 1; have HB3 := Aside0.mk (below_step HB2.out hB3); clear hB3; have hx1 := HX1.out; replace hx1 := (HB3.out.cell (World.block_lt_of_cell? _ _ hx1)).trans hx1; simp only [Int.toNat_natCast] at hx1)
          refine bodyPost_ret (results_ct rfl _ _ (w.heap.size + 1) 27 #[.slice (some ad) L.length c, .int .i64 last] (0, 0) _ rfl (setCell_heap (setCell_heap D2.out _) _) Try.underlying27 rfl (by kernel_rfl)) rfl ?_
          exact ⟨_, rfl, .inl ⟨rfl, rfl⟩, (HB3.out.setCell (p := ⟨w.heap.size + 1, 0, none⟩) (Nat.le_succ _) _).setCell (p := ⟨w.heap.size + 1, 1, none⟩) (Nat.le_succ _) _⟩
        · have h3b : (t == 0) = false := by simpa using h3
          by_cases h4 : t > 4611686018427387904
          · rw [show mayC x.f1 t = 1 by simp [mayC, h2, h3, h4]]
            rw [if_pos (by decide)]
            go_enter Try.func23, Try.ntmps23
            go_wp2_with (go_at_call 39; rw [HW.out]; refine hlk.mono ?_; rintro e w3 ⟨rfl, hB3⟩; have D1 := Aside0.mk ((hB3.block _ (lt_of b1)).trans b1); have D2 := Aside0.mk ((hB3.block _ (lt_of b2)).trans b2); have c0 : w3.cell? ⟨w.heap.size, 0, none⟩ = some (.slice (some ad) L.length c) := cell_of D1.out 0; have c1 : w3.cell? ⟨w.heap.size, 1, none⟩ = some (.int .i64 last) := cell_of D1.out 1; have c2 : w3.cell? ⟨w.heap.size + 1, 0, none⟩ = some (.slice none 0 0) := cell_of D2.out 0; have c3 : w3.cell? ⟨w.heap.size + 1, 1, none⟩ = some (.int .i64 0) := cell_of D2.out 1; have f2 : w3.frozen? ⟨w.heap.size + 1, 0, none⟩ = false := frozen_of D2.out 0; have f3 : w3.frozen? ⟨w.heap.size + 1, 1, none⟩ = false := frozen_of D2.out 1; have HB3 := Aside0.mk (below_step HB2.out hB3); clear hB3; have hx1 := HX1.out; replace hx1 := (HB3.out.cell (World.block_lt_of_cell? _ _ hx1)).trans hx1; simp only [Int.toNat_natCast] at hx1)
            refine bodyPost_ret (results_ct rfl _ _ (w.heap.size + 1) 27 #[.slice (some ad) L.length c, .int .i64 last] (0, 0) _ rfl (setCell_heap (setCell_heap D2.out _) _) Try.underlying27 rfl (by kernel_rfl)) rfl ?_
            exact ⟨_, rfl, .inl ⟨rfl, rfl⟩, (HB3.out.setCell (p := ⟨w.heap.size + 1, 0, none⟩) (Nat.le_succ _) _).setCell (p := ⟨w.heap.size + 1, 1, none⟩) (Nat.le_succ _) _⟩
          · rw [show mayC x.f1 t = 0 by simp [mayC, h2, h3, h4]]
            rw [if_neg (by decide)]
            go_enter Try.func23, Try.ntmps23
            go_wp2_with (first | (go_at_call 39; rw [HW.out]; refine hlk.mono ?_; rintro e w3 ⟨rfl, hB3⟩; have D1 := Aside0.mk ((hB3.block _ (lt_of b1)).trans b1); have D2 := Aside0.mk ((hB3.block _ (lt_of b2)).trans b2); have c0 : w3.cell? ⟨w.heap.size, 0, none⟩ = some (.slice (some ad) L.length c) := cell_of D1.out 0; have c1 : w3.cell? ⟨w.heap.size, 1, none⟩ = some (.int .i64 last) := cell_of D1.out 1; have c2 : w3.cell? ⟨w.heap.size + 1, 0, none⟩ = some (.slice none 0 0) := cell_of D2.out 0; have c3 : w3.cell? ⟨w.heap.size + 1, 1, none⟩ = some (.int .i64 0) := cell_of D2.out 1; have f2 : w3.frozen? ⟨w.heap.size + 1, 0, none⟩ = false := frozen_of D2.out 0; have f3 : w3.frozen? ⟨w.heap.size + 1, 1, none⟩ = false := frozen_of D2.out 1; have HB3 := Aside0.mk (below_step HB2.out hB3); clear hB3; have hx1 := HX1.out; replace hx1 := (HB3.out.cell (World.block_lt_of_cell? _ _ hx1)).trans hx1; simp only [Int.toNat_natCast] at hx1; have hwith := with_any (last := last) (i : Int) ⟨n, 3, t⟩ (Kd.C_below HC.out HB3.out) hc hl; rw [if_pos (show (0 : Int) ≤ (i : Int) by omega), Int.toNat_natCast] at hwith) | (go_at_call 20; refine hwith.mono ?_; rintro e w4 ⟨v, rfl, hR4, hB4⟩; obtain ⟨A4, c4, rfl⟩ := Kd.R_slice hR4; simp only [List.length_set] at hR4 ⊢; have HR4 := Aside0.mk hR4; have HB4 := Aside0.mk (below_step HB3.out hB4); have D4 := Aside0.mk ((hB4.block _ (lt_of D2.out)).trans D2.out); have e2 : w4.cell? ⟨w.heap.size + 1, 0, none⟩ = some (.slice none 0 0) := cell_of D4.out 0; have e3 : w4.cell? ⟨w.heap.size + 1, 1, none⟩ = some (.int .i64 0) := cell_of D4.out 1; have g2 : w4.frozen? ⟨w.heap.size + 1, 0, none⟩ = false := frozen_of D4.out 0; have g3 : w4.frozen? ⟨w.heap.size + 1, 1, none⟩ = false := frozen_of D4.out 1; have hz4 := hB4.size; clear hR4 hB4))
            refine bodyPost_ret (results_ct rfl _ _ (w.heap.size + 1) 27 #[.slice A4 L.length c4, .int .i64 last] (0, 0) _ rfl (setCell_heap (setCell_heap D4.out _) _) Try.underlying27 rfl (by kernel_rfl)) rfl ?_
            have hz3 := HB3.out.size
            have h13 : w.heap.size + 1 < w3.heap.size := lt_of D2.out
            refine ⟨_, rfl, .inr ?_, (HB4.out.setCell (p := ⟨w.heap.size + 1, 0, none⟩) (Nat.le_succ _) _).setCell (p := ⟨w.heap.size + 1, 1, none⟩) (Nat.le_succ _) _⟩
            exact Kd.R_mono (Kd.R_far (Kd.R_far (Kd.R_lower (Kd.R_bound HR4.out) hz3) (p := ⟨w.heap.size + 1, 0, none⟩) (fun k hk => by have := hk.2.1; show k ≠ w.heap.size + 1; omega) _) (p := ⟨w.heap.size + 1, 1, none⟩) (fun k hk => by have := hk.2.1; show k ≠ w.heap.size + 1; omega) _) (fun _ _ => trivial)
end
end Go.Proofs.Ytckeelbodieblaa.St
