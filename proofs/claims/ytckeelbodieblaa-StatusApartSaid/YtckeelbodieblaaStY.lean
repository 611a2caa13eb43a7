/- Status: is, awake. -/
import Derived.Test.YtckeelbodieblaaStX
namespace Go.Proofs.Ytckeelbodieblaa.St
open Go Go.RowKit Go.Proofs Go.Maps Go.MuLone Go.Sort Go.Shelf Go.Proofs.YtckeelbodieblaaW.PrintWords Go.Proofs.YtckeelbodieblaaW.PrintLast Go.Proofs.YtckeelbodieblaaW.PrintMore Go.Proofs.Ytckeelbodieblaa.PB
set_option linter.unusedVariables false
set_option linter.unusedSimpArgs false
def Ti1 : Bool × List (List Nat × List Nat) := (true, [([], []), ([0], [0]), ([], []), ([2, 1], [2]), ([1, 3, 3], [1, 3]), ([4], [4])])
theorem tab13_1 : rtab .any (opsOf Try.f13 1) = Ti1 := by kernel_rfl
section
variable {b m nn base : Nat} {pf qf : Int → Nat} {L : List S70} {last n : Int} {A : Option Addr} {c : Nat} {w : World}
theorem state_any (hT : Tab w 0 b m nn pf qf L last) (hn : (Lit.int .i64 n).wf = true) :
    Calls Try.prog 10 #[pt b, .int .i64 n] w fun e w' => e = .returned (.tuple #[.int .i64 (stateS L n).1, .int .u64 (stateS L n).2.1, .int .i64 (stateS L n).2.2]) ∧ Below w.heap.size w w' := by
  unfold stateS
  cases h : at? L n with
  | none => exact (state_none hT (at?_none h) hn).mono fun e w' h => by obtain ⟨rfl, rfl⟩ := h; exact ⟨rfl, Below.refl _ _⟩
  | some p =>
    obtain ⟨i, x⟩ := p
    obtain ⟨hi, hx⟩ := at?_some h
    have hx' : x.f0 = n := hx
    subst hx'
    exact state_there hT (List.mem_of_getElem? hi) hn
theorem same_any (l : List Int) (A B : Option Addr) (c d : Nat) (hl : l.length < 4611686018427387904) (h1 : Kd.C (Kd.int .i64) w A l.length l) (h2 : l.length ≤ c) (h3 : Kd.C (Kd.int .i64) w B l.length l) (h4 : l.length ≤ d) :
    Calls Try.prog 31 #[.slice A l.length c, .slice B l.length d] w fun e w' => e = .returned (.bool true) ∧ Below w.heap.size w w' := by
  obtain ⟨k, hk⟩ := (same_ev l hl).ex
  exact (vellumlaw09_sameInts.calls k A c l B d l true w h1 h2 h3 h4 hk).mono fun e w' h => ⟨h.1, by obtain ⟨_, hd⟩ := h; first | exact hd.below | (obtain ⟨j, rfl⟩ := hd; exact pw_below_drewN (Below.refl _ _) _) | (subst hd; exact Below.refl _ _)⟩
set_option maxHeartbeats 8000000 in
set_option maxRecDepth 100000 in
theorem is_any (hT : Tab w 0 b m nn pf qf L last) (hC : Kd.C k70 w A L.length L) (hc : L.length ≤ c) (hf : ∀ ad, A = some ad → 0 < L.length → ¬ Foot b m pf L ad.block) (hl : (last + 1) * 24 ≤ 140737488355328) :
    Calls Try.prog 13 #[pt b, .agg #[.slice A L.length c, .int .i64 last]] w fun e w' => e = .returned (.bool true) ∧ Tab w' 0 b m nn pf qf L last ∧ Kept w w' (Foot b m pf L) := by
  have h0 := hT.last0
  have hLn := hT.len
  have hnl := hT.nnle
  have hlt := fun k (h : Foot b m pf L k) => hT.lt h
  have hF : ∀ j, w.heap.size ≤ j → ¬ Foot b m pf L j := fun j hj h => by have := hlt j h; omega
  have hol := openL_len L
  obtain ⟨W, hW⟩ : ∃ W, W = (w.alloc (.cells #[.slice A L.length c, .int .i64 last] 27)).drew := ⟨_, rfl⟩
  have E0 : Aside0 (W.heap[w.heap.size]? = some (.cells #[.slice A L.length c, .int .i64 last] 27)) := ⟨by rw [hW]; exact heap_new _ _⟩
  have HBW : Aside0 (Below w.heap.size w W) := ⟨by rw [hW]; exact below_drew1 (below_alloc (Below.refl _ _) _)⟩
  have HTw := Aside0.mk hT
  have HCk : Aside0 (∀ W', Kept W W' (Foot b m pf L) → Kd.C k70 W' A L.length L) := ⟨fun W' hk => by
    have hCW := Kd.C_below hC HBW.out
    exact Kd.C_foot_neS (fun h => by obtain rfl := k70_open h; exact k70_mk _ _) hCW hf W' hk.old⟩
  have hwr : wrap64 (last + 1) = last + 1 := Go.IntWalk.wrap64_in _ (by omega)
  clear hT hC
  go_enter Try.func13, Try.ntmps13
  go_wp2
  refine start_ (n := 6) (S := fun w' => w'.cell? ⟨w.heap.size, 0, none⟩ = some (.slice A L.length c) ∧ w'.cell? ⟨w.heap.size, 1, none⟩ = some (.int .i64 last)) (ds := []) #[false, false, false, false, false, false] (by kernel_rfl) rfl rfl (by rw [← hW]; exact ⟨cell_of E0.out 0, cell_of E0.out 1⟩) (fun hHeld => ?_); refine with_tab tab13_1 (fun HT_ => ?_)
  rw [← hW] at hHeld ⊢
  clear hW
  refine pure_ (i := 0) (N := some 12) (v := ?_) (a' := ?_) #[true, false, false, false, false, false] rfl rfl (any_of HT_.out (by kernel_rfl)) (fun _ _ _ h => h) (Or.inl ⟨by rfl, ?_⟩) ?_ ?_
  rotate_left
  · intro w'
    go_simp
    with_reducible rfl
  rotate_left
  · simp only [Act.put, List.setIfInBounds_toArray, List.set_cons_zero, List.set_cons_succ, i64_w, i32_w]
    rfl
  refine take_ (i := 2) (N := some 14) (v := ?_) (a' := ?_) #[true, false, true, false, false, false] rfl rfl (take_of HT_.out (by kernel_rfl)) (fun _ _ _ h => h) (Or.inl ⟨by rfl, ?_⟩) hHeld ?_ ?_
  rotate_left
  · rintro w' ⟨s0, s1⟩
    go_simp
    with_reducible rfl
  rotate_left
  · simp only [Act.put, List.setIfInBounds_toArray, List.set_cons_zero, List.set_cons_succ, i64_w, i32_w]
    rfl
  refine one_ (i := 1) (N := some 13) #[true, true, true, false, false, false] rfl rfl (one_of HT_.out (by kernel_rfl)) (by decide) (fun K hK => ?_)
  refine goes_ Try.func14 (by kernel_rfl) rfl #[pt b] (by rfl) rfl rfl (by (try simp only [List.map_toArray, List.map_cons, List.map_nil]); first | done | rfl) ?_
  refine (Open_any (HTw.out.below HBW.out) (by omega)).mono ?_
  rintro e w4 ⟨v4, rfl, hR4, hT4, hK4⟩
  refine ⟨_, rfl, ?_⟩
  obtain ⟨A4, c4, rfl⟩ := Kd.R_slice hR4
  have HR4 := Aside0.mk hR4
  have HT4 := Aside0.mk hT4
  have HK4 := Aside0.mk hK4
  clear hR4 hT4 hK4
  have G0 := Aside0.mk (blk_kept E0.out HK4.out (hF _ (Nat.le_refl _)))
  refine hK.out _ _ ⟨cell_of G0.out 0, cell_of G0.out 1⟩ (fun hHeld4 => ?_)
  clear hK K
  refine norm_ (a' := ?_) ?_ ?_
  rotate_left
  · show Act.put _ (some 13) _ = _
    simp only [Act.put, List.setIfInBounds_toArray, List.set_cons_zero, List.set_cons_succ, i64_w, i32_w]
    rfl
  refine one_ (i := 3) (N := some 15) #[true, true, true, true, false, false] rfl rfl (one_of HT_.out (by kernel_rfl)) (by decide) (fun K hK => ?_)
  refine goes_ Try.func19 (by kernel_rfl) rfl #[.agg #[.slice A L.length c, .int .i64 last]] (by rfl) rfl rfl (by (try simp only [List.map_toArray, List.map_cons, List.map_nil]); first | done | rfl) ?_
  refine (ropen_any (HCk.out _ HK4.out) hc (by omega)).mono ?_
  rintro e w5 ⟨v5, rfl, hR5, hB5⟩
  refine ⟨_, rfl, ?_⟩
  obtain ⟨A5, c5, rfl⟩ := Kd.R_slice hR5
  have HR5 := Aside0.mk hR5
  have HB5 := Aside0.mk hB5
  have HR45 := Aside0.mk (Kd.R_below HR4.out hB5)
  clear hR5 hB5
  have G5 := Aside0.mk ((HB5.out.block _ (lt_of G0.out)).trans G0.out)
  refine hK.out _ _ ⟨cell_of G5.out 0, cell_of G5.out 1⟩ (fun hHeld5 => ?_)
  clear hK K
  refine norm_ (a' := ?_) ?_ ?_
  rotate_left
  · show Act.put _ (some 15) _ = _
    simp only [Act.put, List.setIfInBounds_toArray, List.set_cons_zero, List.set_cons_succ, i64_w, i32_w]
    rfl
  refine one_ (i := 4) (N := some 16) #[true, true, true, true, true, false] rfl rfl (one_of HT_.out (by kernel_rfl)) (by decide) (fun K hK => ?_)
  refine goes_ Try.func31 (by kernel_rfl) rfl #[.slice A4 (openL L).length c4, .slice A5 (openL L).length c5] (by rfl) rfl rfl (by (try simp only [List.map_toArray, List.map_cons, List.map_nil]); first | done | rfl) ?_
  refine (same_any (openL L) A4 A5 c4 c5 (by omega) (Kd.R_reads' HR45.out).2.2 (Kd.R_reads' HR45.out).2.1 (Kd.R_reads' HR5.out).2.2 (Kd.R_reads' HR5.out).2.1).mono ?_
  rintro e w6 ⟨rfl, hB6⟩
  refine ⟨_, rfl, ?_⟩
  have HB6 := Aside0.mk hB6
  clear hB6
  have G6 := Aside0.mk ((HB6.out.block _ (lt_of G5.out)).trans G5.out)
  refine hK.out _ _ ⟨cell_of G6.out 0, cell_of G6.out 1⟩ (fun hHeld6 => ?_)
  clear hK K
  refine norm_ (a' := ?_) ?_ ?_
  rotate_left
  · show Act.put _ (some 16) _ = _
    simp only [Act.put, List.setIfInBounds_toArray, List.set_cons_zero, List.set_cons_succ, i64_w, i32_w]
    rfl
  refine pure_ (i := 5) (N := some 17) (v := ?_) (a' := ?_) #[true, true, true, true, true, true] rfl rfl (any_of HT_.out (by kernel_rfl)) (fun _ _ _ h => h) (Or.inl ⟨by rfl, ?_⟩) ?_ ?_
  rotate_left
  · intro w'
    go_simp
    with_reducible rfl
  rotate_left
  · simp only [Act.put, List.setIfInBounds_toArray, List.set_cons_zero, List.set_cons_succ, i64_w, i32_w]
    rfl
  refine done_ (done_of HT_.out (by kernel_rfl)) ?_
  have HT6 := Aside0.mk ((HT4.out.below HB5.out).below HB6.out)
  have HK6 := Aside0.mk ((HK4.out.below HB5.out).below HB6.out)
  clear hHeld hHeld4 hHeld5 hHeld6
  go_wp2
  go_loopg [5, 6, 7, 8, 9, 10, 11] (last + 3).toNat (fun gg s5 s6 s7 s8 s9 s10 s11 wr => ∃ k : Int, s5 = .int .i64 k ∧ -1 ≤ k ∧ k ≤ last + 2 ∧ Aside0 ((last + 2 - k).toNat ≤ gg) ∧ Aside0 (Below w6.heap.size w6 wr))
  case atStart => exact ⟨-1, rfl, by omega, by omega, ⟨by omega⟩, ⟨Below.refl _ _⟩⟩
  case round =>
    obtain ⟨k, rfl, hk1, hk2, HM, HB⟩ := hrel
    have Gr := Aside0.mk ((HB.out.block _ (lt_of G6.out)).trans G6.out)
    have r0 : wr.cell? ⟨w.heap.size, 0, none⟩ = some (.slice A L.length c) := cell_of Gr.out 0
    have r1 : wr.cell? ⟨w.heap.size, 1, none⟩ = some (.int .i64 last) := cell_of Gr.out 1
    have HTr := Aside0.mk (HT6.out.below HB.out)
    have HKr := Aside0.mk (HK6.out.below HB.out)
    by_cases hlk : k ≤ last + 1
    · have hwk : wrap64 (k + 1) = k + 1 := Go.IntWalk.wrap64_in _ (by omega)
      have hwf : (Lit.int .i64 k).wf = true := by
        simp [Lit.wf, show IntKind.i64.min = -9223372036854775808 from rfl, show IntKind.i64.max = 9223372036854775807 from rfl]
        omega
      have hs := state_any HTr.out hwf
      unfold pt at hs
      generalize hst : stateS L k = st at hs
      have HST := Aside0.mk hst
      clear hst
      go_wp2_with (first | (go_at_call 10; refine hs.mono ?_; rintro e w7 ⟨rfl, hB7⟩; have HB7 := Aside0.mk hB7; have Gs := Aside0.mk ((hB7.block _ (lt_of Gr.out)).trans Gr.out); have t0 : w7.cell? ⟨w.heap.size, 0, none⟩ = some (.slice A L.length c) := cell_of Gs.out 0; have t1 : w7.cell? ⟨w.heap.size, 1, none⟩ = some (.int .i64 last) := cell_of Gs.out 1; clear hB7) | (go_at_call 32; refine (rstate_any (HCk.out _ (HKr.out.below HB7.out)) hc (by omega)).mono ?_; rintro e w8 ⟨rfl, hB8⟩; rw [HST.out]; have HB8 := Aside0.mk (below_step HB7.out hB8); clear hB8))
      go_roundg (last + 2 - (k + 1)).toNat
      case measure => have := HM.out; omega
      case rel => exact ⟨k + 1, by go_num, by omega, by omega, ⟨Nat.le_refl _⟩, ⟨below_step HB.out HB8.out⟩⟩
    · go_wp2
      go_ret
      refine ⟨rfl, HTr.out, ?_⟩
      exact (Kept.of_below HBW.out _).then_ HKr.out (fun _ h => .inl h)
end
end Go.Proofs.Ytckeelbodieblaa.St
