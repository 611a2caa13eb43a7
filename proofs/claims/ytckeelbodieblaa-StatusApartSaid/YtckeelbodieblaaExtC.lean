/- Status: the law StatusApart, its walk. -/
import Derived.Test.YtckeelbodieblaaStQ
namespace Go.Proofs.Ytckeelbodieblaa.PB
open Go Go.RowKit Go.Proofs Go.Maps Go.MuLone Go.Sort Go.Shelf Go.Proofs.YtckeelbodieblaaW.PrintWords Go.Proofs.YtckeelbodieblaaW.PrintLast Go.Proofs.YtckeelbodieblaaW.PrintMore Go.Proofs.Ytckeelbodieblaa.PB
open Go.Proofs.Ytckeelbodieblaa.St hiding Kept Kept.refl Kept.of_below Kept.then_ Kept.of_grown Kept.below Kept.alloc Kept.setCell blk_kept
set_option linter.unusedVariables false
set_option linter.unusedSimpArgs false
def T5_9 : Bool × List (List Nat × List Nat) := (true, [([], []), ([], []), ([], []), ([], []), ([2, 3], [2, 3]), ([4], [4]), ([0, 1, 5], [0, 1, 5]), ([6], [6]), ([7], [7]), ([7], [7]), ([8, 6, 0, 1, 2, 3, 4, 5, 6, 7, 8], [8])])
theorem tab5_9 : rtab .any (opsOf Try.f5 9) = T5_9 := by kernel_rfl
theorem tab5_11 : rtab .any (opsOf Try.f5 11) = T5_9 := by kernel_rfl
def vellumlaw09_StatusApart.f (k : Nat) (l0 l1 : List S37) : Option Bool := if (l0.length * 24 ≤ 140737488351232 ∧ wfA l0 = true) ∧ l1.length * 24 ≤ 140737488351232 ∧ wfA l1 = true then some true else none
set_option maxHeartbeats 8000000 in
set_option maxRecDepth 100000 in
theorem vellumlaw09_StatusApart.calls (k : Nat) (A0 : Option Addr) (c0 : Nat) (l0 : List (S37)) (A1 : Option Addr) (c1 : Nat) (l1 : List (S37)) (r : Bool) (w : World) (hr0 : Kd.C k37 w A0 l0.length l0) (hc0 : l0.length ≤ c0) (hr1 : Kd.C k37 w A1 l1.length l1) (hc1 : l1.length ≤ c1) (h : vellumlaw09_StatusApart.f k l0 l1 = some r) :
    Calls Try.prog 5 #[.slice A0 l0.length c0, .slice A1 l1.length c1] w fun e w' => e = .returned (.bool r) ∧ Below w.heap.size w w' := by
  unfold vellumlaw09_StatusApart.f at h
  by_cases hcond : (l0.length * 24 ≤ 140737488351232 ∧ wfA l0 = true) ∧ l1.length * 24 ≤ 140737488351232 ∧ wfA l1 = true
  · rw [if_pos hcond] at h
    obtain rfl := Option.some.inj h
    have HW0 := Aside0.mk hcond.1.2
    have HW1 := Aside0.mk hcond.2.2
    have hlb := hcond.1.1
    have hlb1 := hcond.2.1
    have HC := Aside0.mk hr0
    have HC1 := Aside0.mk hr1
    clear hr0 hr1 h hcond
    have Mark : True := trivial
    go_enter Try.func5, Try.ntmps5
    go_wp2_with (first | (go_at_call 6; clear Mark; refine (New_any _).mono ?_; rintro e w1 ⟨b, m, rfl, hT1, hB1, hb, hm⟩; have HT1 := Aside0.mk hT1; have HB1 := Aside0.mk hB1; have hz1 := hB1.size; clear hT1 hB1; unfold pt) | (go_at_call 6; refine (New_any _).mono ?_; rintro e w2 ⟨b2, m2, rfl, hT2, hB2, hb2, hm2⟩; have HT2 := Aside0.mk hT2; have HB2 := Aside0.mk hB2; have hz2 := hB2.size; clear hT2 hB2; unfold pt))
    generalize hWd : ((w2.alloc (.cells #[.slice none 0 0, .int .i64 0] 27)).alloc (.cells #[.slice none 0 0, .int .i64 0] 27)) = W
    have hbelW : Below w2.heap.size w2 W := by rw [← hWd]; exact below_alloc (below_alloc (Below.refl _ _) _) _
    have hg1 : W.heap[w2.heap.size]? = some (.cells #[.slice none 0 0, .int .i64 0] 27) := by rw [← hWd]; exact heap_old (heap_new _ _)
    have hg2 : W.heap[w2.heap.size + 1]? = some (.cells #[.slice none 0 0, .int .i64 0] 27) := by rw [← hWd]; have := heap_new (w2.alloc (.cells #[.slice none 0 0, .int .i64 0] 27)) (.cells #[.slice none 0 0, .int .i64 0] 27); rw [size_new] at this; exact this
    have hb1 : b < w1.heap.size := lt_of HT1.out.blk
    have hm1 : m < w1.heap.size := HT1.out.lt (.inr (.inl rfl))
    have hb3 : b2 < w2.heap.size := lt_of HT2.out.blk
    have hm3 : m2 < w2.heap.size := HT2.out.lt (.inr (.inl rfl))
    have hbw : Below w.heap.size w W := below_step (below_step HB1.out HB2.out) hbelW
    have HT0 := Aside0.mk (show Two w W b m w2.heap.size ([], 0) 0 (fun _ => 0) (fun _ => 0) none 0 b2 m2 (w2.heap.size + 1) ([], 0) 0 (fun _ => 0) (fun _ => 0) none 0 from ⟨pair_new w W b m w2.heap.size ((HT1.out.below HB2.out).below hbelW) hg1 hb hm (by omega) (by omega) (by omega) hbw, pair_new w W b2 m2 (w2.heap.size + 1) (HT2.out.below hbelW) hg2 (by omega) (by omega) (by omega) (by omega) (by omega) hbw, (fun k h1 h2 => by have h3 := foot_nil h1; have h4 := foot_nil h2; omega), (by omega), (fun h1 => by have h3 := foot_nil h1; omega), (fun h1 => by have h3 := foot_nil h1; omega)⟩)
    clear hWd hbelW hg1 hg2 hb1 hm1 hb3 hm3 hbw HT1 HB1 HT2 HB2 hb hm hb2 hm2 hz1 hz2
    generalize hg2 : w2.heap.size + 1 = g2 at *
    generalize w2.heap.size = g1 at *
    clear hg2
    go_loopg [9] (l0.length + l1.length) (fun gg s9 wr => ∃ (k : Nat) (s : List S70 × Int) (nn : Nat) (pf qf : Int → Nat) (A : Option Addr) (c : Nat) (s2 : List S70 × Int) (nn2 : Nat) (pf2 qf2 : Int → Nat) (A2 : Option Addr) (c2 : Nat), s9 = .int .i64 k ∧ k ≤ l0.length + l1.length ∧ Aside0 (l0.length + l1.length - k ≤ gg) ∧ Aside0 (s.2 ≤ k ∧ s.2 ≤ l0.length ∧ s2.2 ≤ k ∧ s2.2 ≤ l1.length) ∧ Aside0 (Two w wr b m g1 s nn pf qf A c b2 m2 g2 s2 nn2 pf2 qf2 A2 c2))
    case atStart => exact ⟨0, ([], 0), 0, _, _, none, 0, ([], 0), 0, _, _, none, 0, rfl, Nat.zero_le _, ⟨by omega⟩, ⟨by show (0 : Int) ≤ ((0 : Nat) : Int); decide, by show (0 : Int) ≤ _; omega, by show (0 : Int) ≤ ((0 : Nat) : Int); decide, by show (0 : Int) ≤ _; omega⟩, ⟨HT0.out⟩⟩
    case round =>
      clear HT0
      obtain ⟨k, s, nn, pf, qf, A, c, s2, nn2, pf2, qf2, A2, c2, rfl, hk, HM, HL, HP⟩ := hrel
      by_cases hA : k < l0.length
      · have hAz : (k : Int) < (l0.length : Int) := by omega
        by_cases hB : k < l1.length
        · have hBz : (k : Int) < (l1.length : Int) := by omega
          have m0 : wr.cell? ⟨g1, 0, none⟩ = some (.slice A s.1.length c) := cell_of HP.out.one.box 0
          have m1 : wr.cell? ⟨g1, 1, none⟩ = some (.int .i64 s.2) := cell_of HP.out.one.box 1
          have HLB := Aside0.mk (show (s.2 + 1) * 24 ≤ 140737488355328 by have := HL.out; omega)
          obtain ⟨y, hy⟩ : ∃ y, l0[k]? = some y := ⟨_, List.getElem?_eq_getElem hA⟩
          have HWF := Aside0.mk (wfA_of HW0.out (List.mem_of_getElem? hy))
          obtain ⟨ada, ea, a0, a1, a2⟩ := at_T37 HC.out (k : Int) (by omega) hAz
          subst ea
          rw [rd37 hy] at a0 a1 a2
          simp only [Int.toNat_natCast] at a0 a1 a2
          have HA0 := Aside0.mk a0
          have HA1 := Aside0.mk a1
          have HA2 := Aside0.mk a2
          replace a0 := (HP.out.one.bel.cell (World.block_lt_of_cell? _ _ a0)).trans a0
          replace a1 := (HP.out.one.bel.cell (World.block_lt_of_cell? _ _ a1)).trans a1
          replace a2 := (HP.out.one.bel.cell (World.block_lt_of_cell? _ _ a2)).trans a2
          clear hy
          go_wp2
          refine start_ (n := 11) (S := fun w' => w'.cell? ⟨g1, 0, none⟩ = some (.slice A s.1.length c) ∧ w'.cell? ⟨g1, 1, none⟩ = some (.int .i64 s.2) ∧ w'.cell? (ada.add (k * 3)) = some (.int .i64 y.f0) ∧ w'.cell? ⟨(ada.add (k * 3)).block, (ada.add (k * 3)).off + 1, none⟩ = some (.int .i64 y.f1) ∧ w'.cell? ⟨(ada.add (k * 3)).block, (ada.add (k * 3)).off + 2, none⟩ = some (.int .u64 y.f2)) (ds := [10]) #[false, false, false, false, false, false, false, false, false, false, false] (by kernel_rfl) rfl rfl ⟨m0, m1, a0, a1, a2⟩ (fun hHeld => ?_); refine with_tab tab5_9 (fun HT_ => ?_)
          have HPd := Aside0.mk (Two.below HP.out (below_drew1 (Below.refl _ _)))
          generalize wr.drew = Wa at HPd hHeld ⊢
          refine pure_ (i := 0) (N := some 39) (v := ?_) (a' := ?_) #[true, false, false, false, false, false, false, false, false, false, false] rfl rfl (any_of HT_.out (by kernel_rfl)) (fun _ _ _ h => h) (Or.inl ⟨by rfl, ?_⟩) ?_ ?_
          rotate_left
          · intro w'
            go_simp
            with_reducible rfl
          rotate_left
          · simp only [Act.put, List.setIfInBounds_toArray, List.set_cons_zero, List.set_cons_succ, i64_w, i32_w]
            rfl
          refine pure_ (i := 2) (N := some 41) (v := ?_) (a' := ?_) #[true, false, true, false, false, false, false, false, false, false, false] rfl rfl (any_of HT_.out (by kernel_rfl)) (fun _ _ _ h => h) (Or.inl ⟨by rfl, ?_⟩) ?_ ?_
          rotate_left
          · intro w'
            go_simp
            with_reducible rfl
          rotate_left
          · simp only [Act.put, List.setIfInBounds_toArray, List.set_cons_zero, List.set_cons_succ, i64_w, i32_w]
            rfl
          refine pure_ (i := 3) (N := some 42) (v := ?_) (a' := ?_) #[true, false, true, true, false, false, false, false, false, false, false] rfl rfl (any_of HT_.out (by kernel_rfl)) (fun _ _ _ h => h) (Or.inl ⟨by rfl, ?_⟩) ?_ ?_
          rotate_left
          · intro w'
            go_simp
            with_reducible rfl
          rotate_left
          · simp only [Act.put, List.setIfInBounds_toArray, List.set_cons_zero, List.set_cons_succ, i64_w, i32_w]
            rfl
          refine pure_ (i := 4) (N := some 43) (v := ?_) (a' := ?_) #[true, false, true, true, true, false, false, false, false, false, false] rfl rfl (any_of HT_.out (by kernel_rfl)) (fun _ _ _ h => h) (Or.inl ⟨by rfl, ?_⟩) ?_ ?_
          rotate_left
          · intro w'
            go_simp
            with_reducible rfl
          rotate_left
          · simp only [Act.put, List.setIfInBounds_toArray, List.set_cons_zero, List.set_cons_succ, i64_w, i32_w]
            rfl
          refine take_ (i := 1) (N := some 40) (v := ?_) (a' := ?_) #[true, true, true, true, true, false, false, false, false, false, false] rfl rfl (take_of HT_.out (by kernel_rfl)) (fun _ _ _ h => h) (Or.inl ⟨by rfl, ?_⟩) hHeld ?_ ?_
          rotate_left
          · rintro w' ⟨s0, s1, s2_, s3, s4⟩
            go_simp
            with_reducible rfl
          rotate_left
          · simp only [Act.put, List.setIfInBounds_toArray, List.set_cons_zero, List.set_cons_succ, i64_w, i32_w]
            rfl
          refine take_ (i := 5) (N := some 44) (v := ?_) (a' := ?_) #[true, true, true, true, true, true, false, false, false, false, false] rfl rfl (take_of HT_.out (by kernel_rfl)) (fun _ _ _ h => h) (Or.inl ⟨by rfl, ?_⟩) hHeld ?_ ?_
          rotate_left
          · rintro w' ⟨s0, s1, s2_, s3, s4⟩
            go_simp
            with_reducible rfl
          rotate_left
          · simp only [Act.put, List.setIfInBounds_toArray, List.set_cons_zero, List.set_cons_succ, i64_w, i32_w]
            rfl
          refine one_ (i := 6) (N := some 45) #[true, true, true, true, true, true, true, false, false, false, false] rfl rfl (one_of HT_.out (by kernel_rfl)) (by decide) (fun K hK => ?_)
          refine goes_ Try.func9 (by kernel_rfl) rfl #[pt b, .agg #[.slice A s.1.length c, .int .i64 s.2], .agg #[.int .i64 y.f0, .int .i64 y.f1, .int .u64 y.f2]] (by rfl) rfl rfl (by (try simp only [List.map_toArray, List.map_cons, List.map_nil]); first | done | rfl) ?_
          refine (HPd.out.act y HWF.out HLB.out).mono ?_
          rintro e w6a ⟨nna, pfa, qfa, Aa, ca, rfl, hg6, hb6, hP6⟩
          refine ⟨_, rfl, ?_⟩
          have HG6 := Aside0.mk hg6
          have HQa := Aside0.mk hP6
          have HB6 := Aside0.mk hb6
          clear hg6 hP6 hb6
          have hc6 := fun (p : Addr) (u : Value) (h : w.cell? p = some u) => (HB6.out.cell (World.block_lt_of_cell? _ _ h)).trans h
          refine hK.out _ _ ⟨cell_of HG6.out 0, cell_of HG6.out 1, hc6 _ _ HA0.out, hc6 _ _ HA1.out, hc6 _ _ HA2.out⟩ (fun hHeld6 => ?_)
          clear hK K
          refine norm_ (a' := ?_) ?_ ?_
          rotate_left
          · show Act.put _ (some 45) _ = _
            simp only [Act.put, List.setIfInBounds_toArray, List.set_cons_zero, List.set_cons_succ, i64_w, i32_w]
            rfl
          refine pure_ (i := 7) (N := some 38) (v := ?_) (a' := ?_) #[true, true, true, true, true, true, true, true, false, false, false] rfl rfl (any_of HT_.out (by kernel_rfl)) (fun _ _ _ h => h) (Or.inl ⟨by rfl, ?_⟩) ?_ ?_
          rotate_left
          · intro w'
            go_simp
            with_reducible rfl
          rotate_left
          · simp only [Act.put, List.setIfInBounds_toArray, List.set_cons_zero, List.set_cons_succ, i64_w, i32_w]
            rfl
          refine pure_ (i := 8) (N := some 46) (v := ?_) (a' := ?_) #[true, true, true, true, true, true, true, true, true, false, false] rfl rfl (any_of HT_.out (by kernel_rfl)) (fun _ _ _ h => h) (Or.inl ⟨by rfl, ?_⟩) ?_ ?_
          rotate_left
          · intro w'
            go_simp
            with_reducible rfl
          rotate_left
          · simp only [Act.put, List.setIfInBounds_toArray, List.set_cons_zero, List.set_cons_succ, i64_w, i32_w]
            rfl
          refine pure_ (i := 9) (N := some 47) (v := ?_) (a' := ?_) #[true, true, true, true, true, true, true, true, true, true, false] rfl rfl (any_of HT_.out (by kernel_rfl)) (fun _ _ _ h => h) (Or.inl ⟨by rfl, ?_⟩) ?_ ?_
          rotate_left
          · intro w'
            go_simp
            with_reducible rfl
          rotate_left
          · simp only [Act.put, List.setIfInBounds_toArray, List.set_cons_zero, List.set_cons_succ, i64_w, i32_w]
            rfl
          refine last_ (i := 10) (N := none) #[true, true, true, true, true, true, true, true, true, true, true] rfl rfl (one_of HT_.out (by kernel_rfl)) (by decide) (fun K hK => ?_)
          have q0 : w6a.cell? ⟨g1, 0, none⟩ = some (.slice A s.1.length c) := cell_of HG6.out 0
          have q1 : w6a.cell? ⟨g1, 1, none⟩ = some (.int .i64 s.2) := cell_of HG6.out 1
          have q2 : w6a.frozen? ⟨g1, 0, none⟩ = false := frozen_of HG6.out 0
          have q3 : w6a.frozen? ⟨g1, 1, none⟩ = false := frozen_of HG6.out 1
          refine skip_ (w1 := ?_) (by rfl) rfl ?_ ?_
          rotate_left
          · go_simp
            rfl
          refine hK.out _ _ ?_
          generalize hV : (w6a.setCell ⟨g1, 0, none⟩ (.slice Aa (stepL s y).1.length ca)).setCell ⟨g1, 1, none⟩ (.int .i64 (stepL s y).2) = Va at HQa ⊢
          refine done_ (done_of HT_.out (by kernel_rfl)) ?_
          clear hV hK K q0 q1 q2 q3 hHeld hHeld6 m0 m1 a0 a1 a2 HPd HB6 HG6 hc6 HA0 HA1 HA2 HWF HLB HT_
          have hla := stepL_last s y
          generalize stepL s y = ta at HQa hla ⊢
          have m0 : Va.cell? ⟨g2, 0, none⟩ = some (.slice A2 s2.1.length c2) := cell_of HQa.out.two.box 0
          have m1 : Va.cell? ⟨g2, 1, none⟩ = some (.int .i64 s2.2) := cell_of HQa.out.two.box 1
          have HLB := Aside0.mk (show (s2.2 + 1) * 24 ≤ 140737488355328 by have := HL.out; omega)
          obtain ⟨y, hy⟩ : ∃ y, l1[k]? = some y := ⟨_, List.getElem?_eq_getElem hB⟩
          have HWF := Aside0.mk (wfA_of HW1.out (List.mem_of_getElem? hy))
          obtain ⟨adb, ea, a0, a1, a2⟩ := at_T37 HC1.out (k : Int) (by omega) hBz
          subst ea
          rw [rd37 hy] at a0 a1 a2
          simp only [Int.toNat_natCast] at a0 a1 a2
          have HA0 := Aside0.mk a0
          have HA1 := Aside0.mk a1
          have HA2 := Aside0.mk a2
          replace a0 := (HQa.out.one.bel.cell (World.block_lt_of_cell? _ _ a0)).trans a0
          replace a1 := (HQa.out.one.bel.cell (World.block_lt_of_cell? _ _ a1)).trans a1
          replace a2 := (HQa.out.one.bel.cell (World.block_lt_of_cell? _ _ a2)).trans a2
          clear hy
          go_wp2
          refine start_ (n := 11) (S := fun w' => w'.cell? ⟨g2, 0, none⟩ = some (.slice A2 s2.1.length c2) ∧ w'.cell? ⟨g2, 1, none⟩ = some (.int .i64 s2.2) ∧ w'.cell? (adb.add (k * 3)) = some (.int .i64 y.f0) ∧ w'.cell? ⟨(adb.add (k * 3)).block, (adb.add (k * 3)).off + 1, none⟩ = some (.int .i64 y.f1) ∧ w'.cell? ⟨(adb.add (k * 3)).block, (adb.add (k * 3)).off + 2, none⟩ = some (.int .u64 y.f2)) (ds := [10]) #[false, false, false, false, false, false, false, false, false, false, false] (by kernel_rfl) rfl rfl ⟨m0, m1, a0, a1, a2⟩ (fun hHeld => ?_); refine with_tab tab5_11 (fun HT_ => ?_)
          have HPd := Aside0.mk (Two.below HQa.out (below_drew1 (Below.refl _ _)))
          generalize Va.drew = Wb at HPd hHeld ⊢
          refine pure_ (i := 0) (N := some 53) (v := ?_) (a' := ?_) #[true, false, false, false, false, false, false, false, false, false, false] rfl rfl (any_of HT_.out (by kernel_rfl)) (fun _ _ _ h => h) (Or.inl ⟨by rfl, ?_⟩) ?_ ?_
          rotate_left
          · intro w'
            go_simp
            with_reducible rfl
          rotate_left
          · simp only [Act.put, List.setIfInBounds_toArray, List.set_cons_zero, List.set_cons_succ, i64_w, i32_w]
            rfl
          refine pure_ (i := 2) (N := some 55) (v := ?_) (a' := ?_) #[true, false, true, false, false, false, false, false, false, false, false] rfl rfl (any_of HT_.out (by kernel_rfl)) (fun _ _ _ h => h) (Or.inl ⟨by rfl, ?_⟩) ?_ ?_
          rotate_left
          · intro w'
            go_simp
            with_reducible rfl
          rotate_left
          · simp only [Act.put, List.setIfInBounds_toArray, List.set_cons_zero, List.set_cons_succ, i64_w, i32_w]
            rfl
          refine pure_ (i := 3) (N := some 56) (v := ?_) (a' := ?_) #[true, false, true, true, false, false, false, false, false, false, false] rfl rfl (any_of HT_.out (by kernel_rfl)) (fun _ _ _ h => h) (Or.inl ⟨by rfl, ?_⟩) ?_ ?_
          rotate_left
          · intro w'
            go_simp
            with_reducible rfl
          rotate_left
          · simp only [Act.put, List.setIfInBounds_toArray, List.set_cons_zero, List.set_cons_succ, i64_w, i32_w]
            rfl
          refine pure_ (i := 4) (N := some 57) (v := ?_) (a' := ?_) #[true, false, true, true, true, false, false, false, false, false, false] rfl rfl (any_of HT_.out (by kernel_rfl)) (fun _ _ _ h => h) (Or.inl ⟨by rfl, ?_⟩) ?_ ?_
          rotate_left
          · intro w'
            go_simp
            with_reducible rfl
          rotate_left
          · simp only [Act.put, List.setIfInBounds_toArray, List.set_cons_zero, List.set_cons_succ, i64_w, i32_w]
            rfl
          refine take_ (i := 1) (N := some 54) (v := ?_) (a' := ?_) #[true, true, true, true, true, false, false, false, false, false, false] rfl rfl (take_of HT_.out (by kernel_rfl)) (fun _ _ _ h => h) (Or.inl ⟨by rfl, ?_⟩) hHeld ?_ ?_
          rotate_left
          · rintro w' ⟨s0, s1, s2_, s3, s4⟩
            go_simp
            with_reducible rfl
          rotate_left
          · simp only [Act.put, List.setIfInBounds_toArray, List.set_cons_zero, List.set_cons_succ, i64_w, i32_w]
            rfl
          refine take_ (i := 5) (N := some 58) (v := ?_) (a' := ?_) #[true, true, true, true, true, true, false, false, false, false, false] rfl rfl (take_of HT_.out (by kernel_rfl)) (fun _ _ _ h => h) (Or.inl ⟨by rfl, ?_⟩) hHeld ?_ ?_
          rotate_left
          · rintro w' ⟨s0, s1, s2_, s3, s4⟩
            go_simp
            with_reducible rfl
          rotate_left
          · simp only [Act.put, List.setIfInBounds_toArray, List.set_cons_zero, List.set_cons_succ, i64_w, i32_w]
            rfl
          refine one_ (i := 6) (N := some 59) #[true, true, true, true, true, true, true, false, false, false, false] rfl rfl (one_of HT_.out (by kernel_rfl)) (by decide) (fun K hK => ?_)
          refine goes_ Try.func9 (by kernel_rfl) rfl #[pt b2, .agg #[.slice A2 s2.1.length c2, .int .i64 s2.2], .agg #[.int .i64 y.f0, .int .i64 y.f1, .int .u64 y.f2]] (by rfl) rfl rfl (by (try simp only [List.map_toArray, List.map_cons, List.map_nil]); first | done | rfl) ?_
          refine (HPd.out.symm.act y HWF.out HLB.out).mono ?_
          rintro e w6b ⟨nnb, pfb, qfb, Ab, cb, rfl, hg6, hb6, hP6⟩
          refine ⟨_, rfl, ?_⟩
          have HG6 := Aside0.mk hg6
          have HQb := Aside0.mk hP6.symm
          have HB6 := Aside0.mk hb6
          clear hg6 hP6 hb6
          have hc6 := fun (p : Addr) (u : Value) (h : w.cell? p = some u) => (HB6.out.cell (World.block_lt_of_cell? _ _ h)).trans h
          refine hK.out _ _ ⟨cell_of HG6.out 0, cell_of HG6.out 1, hc6 _ _ HA0.out, hc6 _ _ HA1.out, hc6 _ _ HA2.out⟩ (fun hHeld6 => ?_)
          clear hK K
          refine norm_ (a' := ?_) ?_ ?_
          rotate_left
          · show Act.put _ (some 59) _ = _
            simp only [Act.put, List.setIfInBounds_toArray, List.set_cons_zero, List.set_cons_succ, i64_w, i32_w]
            rfl
          refine pure_ (i := 7) (N := some 52) (v := ?_) (a' := ?_) #[true, true, true, true, true, true, true, true, false, false, false] rfl rfl (any_of HT_.out (by kernel_rfl)) (fun _ _ _ h => h) (Or.inl ⟨by rfl, ?_⟩) ?_ ?_
          rotate_left
          · intro w'
            go_simp
            with_reducible rfl
          rotate_left
          · simp only [Act.put, List.setIfInBounds_toArray, List.set_cons_zero, List.set_cons_succ, i64_w, i32_w]
            rfl
          refine pure_ (i := 8) (N := some 60) (v := ?_) (a' := ?_) #[true, true, true, true, true, true, true, true, true, false, false] rfl rfl (any_of HT_.out (by kernel_rfl)) (fun _ _ _ h => h) (Or.inl ⟨by rfl, ?_⟩) ?_ ?_
          rotate_left
          · intro w'
            go_simp
            with_reducible rfl
          rotate_left
          · simp only [Act.put, List.setIfInBounds_toArray, List.set_cons_zero, List.set_cons_succ, i64_w, i32_w]
            rfl
          refine pure_ (i := 9) (N := some 61) (v := ?_) (a' := ?_) #[true, true, true, true, true, true, true, true, true, true, false] rfl rfl (any_of HT_.out (by kernel_rfl)) (fun _ _ _ h => h) (Or.inl ⟨by rfl, ?_⟩) ?_ ?_
          rotate_left
          · intro w'
            go_simp
            with_reducible rfl
          rotate_left
          · simp only [Act.put, List.setIfInBounds_toArray, List.set_cons_zero, List.set_cons_succ, i64_w, i32_w]
            rfl
          refine last_ (i := 10) (N := none) #[true, true, true, true, true, true, true, true, true, true, true] rfl rfl (one_of HT_.out (by kernel_rfl)) (by decide) (fun K hK => ?_)
          have q0 : w6b.cell? ⟨g2, 0, none⟩ = some (.slice A2 s2.1.length c2) := cell_of HG6.out 0
          have q1 : w6b.cell? ⟨g2, 1, none⟩ = some (.int .i64 s2.2) := cell_of HG6.out 1
          have q2 : w6b.frozen? ⟨g2, 0, none⟩ = false := frozen_of HG6.out 0
          have q3 : w6b.frozen? ⟨g2, 1, none⟩ = false := frozen_of HG6.out 1
          refine skip_ (w1 := ?_) (by rfl) rfl ?_ ?_
          rotate_left
          · go_simp
            rfl
          refine hK.out _ _ ?_
          generalize hV : (w6b.setCell ⟨g2, 0, none⟩ (.slice Ab (stepL s2 y).1.length cb)).setCell ⟨g2, 1, none⟩ (.int .i64 (stepL s2 y).2) = Vb at HQb ⊢
          refine done_ (done_of HT_.out (by kernel_rfl)) ?_
          clear hV hK K q0 q1 q2 q3 hHeld hHeld6 m0 m1 a0 a1 a2 HPd HB6 HG6 hc6 HA0 HA1 HA2 HWF HLB HT_
          have hlb := stepL_last s2 y
          generalize stepL s2 y = tb at HQb hlb ⊢
          have HL1 := Aside0.mk (show ta.2 ≤ ((k + 1 : Nat) : Int) ∧ ta.2 ≤ l0.length ∧ tb.2 ≤ ((k + 1 : Nat) : Int) ∧ tb.2 ≤ l1.length by have := HL.out; omega)
          have hop := HQb.out.opens (show ta.2 * 24 ≤ 140737488355328 by have := HL1.out; omega)
          have HFar := Aside0.mk (show ∀ k, Vb.heap.size ≤ k → w.heap.size ≤ k ∧ (k ≠ g1 ∧ ¬ Foot b m _ ta.1 k) ∧ (k ≠ g2 ∧ ¬ Foot b2 m2 _ tb.1 k) from fun k hk => ⟨Nat.le_trans HQb.out.one.bel.size hk, ⟨fun e => by have := HQb.out.one.glt; omega, fun h => by have := HQb.out.one.tab.lt h; omega⟩, fun e => by have := HQb.out.two.glt; omega, fun h => by have := HQb.out.two.tab.lt h; omega⟩)
          have hsh : (openL ta.1).length * 24 ≤ 140737488355328 := by have h1 := openL_len ta.1; have h2 := HQb.out.one.tab.len; have h3 := HQb.out.one.tab.nnle; have h4 := HL1.out; omega
          generalize openL ta.1 = ts0 at hop hsh
          generalize Vb.heap.size = B at hop HFar
          go_wp2_with (go_at_call 14; refine hop.mono ?_; rintro e w7 ⟨v, rfl, hR7, hP7, hz7⟩; have HP7 := Aside0.mk hP7; obtain ⟨At, ct, rfl⟩ := Kd.R_slice hR7; have HR7 := Aside0.mk hR7; clear hR7 hP7)
          generalize hn0 : ts0.length = n at *
          go_loopg [11] n (fun gg s11 wr => ∃ (j : Nat) (ts : List Int), s11 = .int .i64 j ∧ j ≤ n ∧ Aside0 (n - j ≤ gg) ∧ ts.length = n ∧ Aside0 (Kd.R (Kd.int .i64) 3 wr B (fun _ => True) (.slice At n ct) ts) ∧ Aside0 (Two w wr b m g1 ta _ _ _ _ _ b2 m2 g2 tb _ _ _ _ _))
          case atStart => exact ⟨0, ts0, rfl, Nat.zero_le _, ⟨by omega⟩, hn0, ⟨HR7.out⟩, ⟨HP7.out⟩⟩
          case round =>
            clear HP7 HR7 hop
            obtain ⟨j, ts, rfl, hj, HMj, hts, HRj, HPj⟩ := hrel
            by_cases hjn : j < n
            · have hjz : (j : Int) < (n : Int) := by omega
              obtain ⟨gt, cp, et, hbt, hlt_, cst, hct⟩ := Kd.R_form HRj.out (by omega)
              obtain ⟨rfl, -, rfl⟩ : At = some ⟨gt, 0, none⟩ ∧ n = ts.length ∧ ct = cp := by injection et with e1 e2 e3; exact ⟨e1, e2, e3⟩
              have HCT := Aside0.mk hct
              obtain ⟨hce, hfe⟩ := Kd.R_celln (0 : Int) HRj.out (j : Int) (by omega) hjz
              have HPut := Aside0.mk (Kd.R_putn HRj.out (j : Int) (-7))
              have hfa := HFar.out gt hbt
              simp only [Int.toNat_natCast] at hce hfe HPut
              have HTw := Aside0.mk (HPj.out.put (j := j) HCT.out hfa.1 hfa.2.1 hfa.2.2 (.int .i64 (-7)))
              clear hfa hct et
              go_wp2
              go_roundg (n - (j + 1))
              case measure => have := HMj.out; omega
              case rel => exact ⟨j + 1, ts.set j (-7), by go_num, hjn, ⟨Nat.le_refl _⟩, by simpa using hts, HPut, HTw⟩
            · obtain rfl : j = n := by omega
              have hjz : ¬ (j : Int) < (j : Int) := by omega
              go_wp2
              go_roundg (l0.length + l1.length - (k + 1))
              case measure => have := HM.out; omega
              case rel => exact ⟨k + 1, ta, _, _, _, _, _, tb, _, _, _, _, _, by go_num, by omega, ⟨Nat.le_refl _⟩, HL1, HPj⟩
        · have hBz : ¬ (k : Int) < (l1.length : Int) := by omega
          have m0 : wr.cell? ⟨g1, 0, none⟩ = some (.slice A s.1.length c) := cell_of HP.out.one.box 0
          have m1 : wr.cell? ⟨g1, 1, none⟩ = some (.int .i64 s.2) := cell_of HP.out.one.box 1
          have HLB := Aside0.mk (show (s.2 + 1) * 24 ≤ 140737488355328 by have := HL.out; omega)
          obtain ⟨y, hy⟩ : ∃ y, l0[k]? = some y := ⟨_, List.getElem?_eq_getElem hA⟩
          have HWF := Aside0.mk (wfA_of HW0.out (List.mem_of_getElem? hy))
          obtain ⟨ada, ea, a0, a1, a2⟩ := at_T37 HC.out (k : Int) (by omega) hAz
          subst ea
          rw [rd37 hy] at a0 a1 a2
          simp only [Int.toNat_natCast] at a0 a1 a2
          have HA0 := Aside0.mk a0
          have HA1 := Aside0.mk a1
          have HA2 := Aside0.mk a2
          replace a0 := (HP.out.one.bel.cell (World.block_lt_of_cell? _ _ a0)).trans a0
          replace a1 := (HP.out.one.bel.cell (World.block_lt_of_cell? _ _ a1)).trans a1
          replace a2 := (HP.out.one.bel.cell (World.block_lt_of_cell? _ _ a2)).trans a2
          clear hy
          go_wp2
          refine start_ (n := 11) (S := fun w' => w'.cell? ⟨g1, 0, none⟩ = some (.slice A s.1.length c) ∧ w'.cell? ⟨g1, 1, none⟩ = some (.int .i64 s.2) ∧ w'.cell? (ada.add (k * 3)) = some (.int .i64 y.f0) ∧ w'.cell? ⟨(ada.add (k * 3)).block, (ada.add (k * 3)).off + 1, none⟩ = some (.int .i64 y.f1) ∧ w'.cell? ⟨(ada.add (k * 3)).block, (ada.add (k * 3)).off + 2, none⟩ = some (.int .u64 y.f2)) (ds := [10]) #[false, false, false, false, false, false, false, false, false, false, false] (by kernel_rfl) rfl rfl ⟨m0, m1, a0, a1, a2⟩ (fun hHeld => ?_); refine with_tab tab5_9 (fun HT_ => ?_)
          have HPd := Aside0.mk (Two.below HP.out (below_drew1 (Below.refl _ _)))
          generalize wr.drew = Wa at HPd hHeld ⊢
          refine pure_ (i := 0) (N := some 39) (v := ?_) (a' := ?_) #[true, false, false, false, false, false, false, false, false, false, false] rfl rfl (any_of HT_.out (by kernel_rfl)) (fun _ _ _ h => h) (Or.inl ⟨by rfl, ?_⟩) ?_ ?_
          rotate_left
          · intro w'
            go_simp
            with_reducible rfl
          rotate_left
          · simp only [Act.put, List.setIfInBounds_toArray, List.set_cons_zero, List.set_cons_succ, i64_w, i32_w]
            rfl
          refine pure_ (i := 2) (N := some 41) (v := ?_) (a' := ?_) #[true, false, true, false, false, false, false, false, false, false, false] rfl rfl (any_of HT_.out (by kernel_rfl)) (fun _ _ _ h => h) (Or.inl ⟨by rfl, ?_⟩) ?_ ?_
          rotate_left
          · intro w'
            go_simp
            with_reducible rfl
          rotate_left
          · simp only [Act.put, List.setIfInBounds_toArray, List.set_cons_zero, List.set_cons_succ, i64_w, i32_w]
            rfl
          refine pure_ (i := 3) (N := some 42) (v := ?_) (a' := ?_) #[true, false, true, true, false, false, false, false, false, false, false] rfl rfl (any_of HT_.out (by kernel_rfl)) (fun _ _ _ h => h) (Or.inl ⟨by rfl, ?_⟩) ?_ ?_
          rotate_left
          · intro w'
            go_simp
            with_reducible rfl
          rotate_left
          · simp only [Act.put, List.setIfInBounds_toArray, List.set_cons_zero, List.set_cons_succ, i64_w, i32_w]
            rfl
          refine pure_ (i := 4) (N := some 43) (v := ?_) (a' := ?_) #[true, false, true, true, true, false, false, false, false, false, false] rfl rfl (any_of HT_.out (by kernel_rfl)) (fun _ _ _ h => h) (Or.inl ⟨by rfl, ?_⟩) ?_ ?_
          rotate_left
          · intro w'
            go_simp
            with_reducible rfl
          rotate_left
          · simp only [Act.put, List.setIfInBounds_toArray, List.set_cons_zero, List.set_cons_succ, i64_w, i32_w]
            rfl
          refine take_ (i := 1) (N := some 40) (v := ?_) (a' := ?_) #[true, true, true, true, true, false, false, false, false, false, false] rfl rfl (take_of HT_.out (by kernel_rfl)) (fun _ _ _ h => h) (Or.inl ⟨by rfl, ?_⟩) hHeld ?_ ?_
          rotate_left
          · rintro w' ⟨s0, s1, s2_, s3, s4⟩
            go_simp
            with_reducible rfl
          rotate_left
          · simp only [Act.put, List.setIfInBounds_toArray, List.set_cons_zero, List.set_cons_succ, i64_w, i32_w]
            rfl
          refine take_ (i := 5) (N := some 44) (v := ?_) (a' := ?_) #[true, true, true, true, true, true, false, false, false, false, false] rfl rfl (take_of HT_.out (by kernel_rfl)) (fun _ _ _ h => h) (Or.inl ⟨by rfl, ?_⟩) hHeld ?_ ?_
          rotate_left
          · rintro w' ⟨s0, s1, s2_, s3, s4⟩
            go_simp
            with_reducible rfl
          rotate_left
          · simp only [Act.put, List.setIfInBounds_toArray, List.set_cons_zero, List.set_cons_succ, i64_w, i32_w]
            rfl
          refine one_ (i := 6) (N := some 45) #[true, true, true, true, true, true, true, false, false, false, false] rfl rfl (one_of HT_.out (by kernel_rfl)) (by decide) (fun K hK => ?_)
          refine goes_ Try.func9 (by kernel_rfl) rfl #[pt b, .agg #[.slice A s.1.length c, .int .i64 s.2], .agg #[.int .i64 y.f0, .int .i64 y.f1, .int .u64 y.f2]] (by rfl) rfl rfl (by (try simp only [List.map_toArray, List.map_cons, List.map_nil]); first | done | rfl) ?_
          refine (HPd.out.act y HWF.out HLB.out).mono ?_
          rintro e w6a ⟨nna, pfa, qfa, Aa, ca, rfl, hg6, hb6, hP6⟩
          refine ⟨_, rfl, ?_⟩
          have HG6 := Aside0.mk hg6
          have HQa := Aside0.mk hP6
          have HB6 := Aside0.mk hb6
          clear hg6 hP6 hb6
          have hc6 := fun (p : Addr) (u : Value) (h : w.cell? p = some u) => (HB6.out.cell (World.block_lt_of_cell? _ _ h)).trans h
          refine hK.out _ _ ⟨cell_of HG6.out 0, cell_of HG6.out 1, hc6 _ _ HA0.out, hc6 _ _ HA1.out, hc6 _ _ HA2.out⟩ (fun hHeld6 => ?_)
          clear hK K
          refine norm_ (a' := ?_) ?_ ?_
          rotate_left
          · show Act.put _ (some 45) _ = _
            simp only [Act.put, List.setIfInBounds_toArray, List.set_cons_zero, List.set_cons_succ, i64_w, i32_w]
            rfl
          refine pure_ (i := 7) (N := some 38) (v := ?_) (a' := ?_) #[true, true, true, true, true, true, true, true, false, false, false] rfl rfl (any_of HT_.out (by kernel_rfl)) (fun _ _ _ h => h) (Or.inl ⟨by rfl, ?_⟩) ?_ ?_
          rotate_left
          · intro w'
            go_simp
            with_reducible rfl
          rotate_left
          · simp only [Act.put, List.setIfInBounds_toArray, List.set_cons_zero, List.set_cons_succ, i64_w, i32_w]
            rfl
          refine pure_ (i := 8) (N := some 46) (v := ?_) (a' := ?_) #[true, true, true, true, true, true, true, true, true, false, false] rfl rfl (any_of HT_.out (by kernel_rfl)) (fun _ _ _ h => h) (Or.inl ⟨by rfl, ?_⟩) ?_ ?_
          rotate_left
          · intro w'
            go_simp
            with_reducible rfl
          rotate_left
          · simp only [Act.put, List.setIfInBounds_toArray, List.set_cons_zero, List.set_cons_succ, i64_w, i32_w]
            rfl
          refine pure_ (i := 9) (N := some 47) (v := ?_) (a' := ?_) #[true, true, true, true, true, true, true, true, true, true, false] rfl rfl (any_of HT_.out (by kernel_rfl)) (fun _ _ _ h => h) (Or.inl ⟨by rfl, ?_⟩) ?_ ?_
          rotate_left
          · intro w'
            go_simp
            with_reducible rfl
          rotate_left
          · simp only [Act.put, List.setIfInBounds_toArray, List.set_cons_zero, List.set_cons_succ, i64_w, i32_w]
            rfl
          refine last_ (i := 10) (N := none) #[true, true, true, true, true, true, true, true, true, true, true] rfl rfl (one_of HT_.out (by kernel_rfl)) (by decide) (fun K hK => ?_)
          have q0 : w6a.cell? ⟨g1, 0, none⟩ = some (.slice A s.1.length c) := cell_of HG6.out 0
          have q1 : w6a.cell? ⟨g1, 1, none⟩ = some (.int .i64 s.2) := cell_of HG6.out 1
          have q2 : w6a.frozen? ⟨g1, 0, none⟩ = false := frozen_of HG6.out 0
          have q3 : w6a.frozen? ⟨g1, 1, none⟩ = false := frozen_of HG6.out 1
          refine skip_ (w1 := ?_) (by rfl) rfl ?_ ?_
          rotate_left
          · go_simp
            rfl
          refine hK.out _ _ ?_
          generalize hV : (w6a.setCell ⟨g1, 0, none⟩ (.slice Aa (stepL s y).1.length ca)).setCell ⟨g1, 1, none⟩ (.int .i64 (stepL s y).2) = Va at HQa ⊢
          refine done_ (done_of HT_.out (by kernel_rfl)) ?_
          clear hV hK K q0 q1 q2 q3 hHeld hHeld6 m0 m1 a0 a1 a2 HPd HB6 HG6 hc6 HA0 HA1 HA2 HWF HLB HT_
          have hla := stepL_last s y
          generalize stepL s y = ta at HQa hla ⊢
          have HL1 := Aside0.mk (show ta.2 ≤ ((k + 1 : Nat) : Int) ∧ ta.2 ≤ l0.length ∧ s2.2 ≤ ((k + 1 : Nat) : Int) ∧ s2.2 ≤ l1.length by have := HL.out; omega)
          have hop := HQa.out.opens (show ta.2 * 24 ≤ 140737488355328 by have := HL1.out; omega)
          have HFar := Aside0.mk (show ∀ k, Va.heap.size ≤ k → w.heap.size ≤ k ∧ (k ≠ g1 ∧ ¬ Foot b m _ ta.1 k) ∧ (k ≠ g2 ∧ ¬ Foot b2 m2 _ s2.1 k) from fun k hk => ⟨Nat.le_trans HQa.out.one.bel.size hk, ⟨fun e => by have := HQa.out.one.glt; omega, fun h => by have := HQa.out.one.tab.lt h; omega⟩, fun e => by have := HQa.out.two.glt; omega, fun h => by have := HQa.out.two.tab.lt h; omega⟩)
          have hsh : (openL ta.1).length * 24 ≤ 140737488355328 := by have h1 := openL_len ta.1; have h2 := HQa.out.one.tab.len; have h3 := HQa.out.one.tab.nnle; have h4 := HL1.out; omega
          generalize openL ta.1 = ts0 at hop hsh
          generalize Va.heap.size = B at hop HFar
          go_wp2_with (go_at_call 14; refine hop.mono ?_; rintro e w7 ⟨v, rfl, hR7, hP7, hz7⟩; have HP7 := Aside0.mk hP7; obtain ⟨At, ct, rfl⟩ := Kd.R_slice hR7; have HR7 := Aside0.mk hR7; clear hR7 hP7)
          generalize hn0 : ts0.length = n at *
          go_loopg [11] n (fun gg s11 wr => ∃ (j : Nat) (ts : List Int), s11 = .int .i64 j ∧ j ≤ n ∧ Aside0 (n - j ≤ gg) ∧ ts.length = n ∧ Aside0 (Kd.R (Kd.int .i64) 3 wr B (fun _ => True) (.slice At n ct) ts) ∧ Aside0 (Two w wr b m g1 ta _ _ _ _ _ b2 m2 g2 s2 _ _ _ _ _))
          case atStart => exact ⟨0, ts0, rfl, Nat.zero_le _, ⟨by omega⟩, hn0, ⟨HR7.out⟩, ⟨HP7.out⟩⟩
          case round =>
            clear HP7 HR7 hop
            obtain ⟨j, ts, rfl, hj, HMj, hts, HRj, HPj⟩ := hrel
            by_cases hjn : j < n
            · have hjz : (j : Int) < (n : Int) := by omega
              obtain ⟨gt, cp, et, hbt, hlt_, cst, hct⟩ := Kd.R_form HRj.out (by omega)
              obtain ⟨rfl, -, rfl⟩ : At = some ⟨gt, 0, none⟩ ∧ n = ts.length ∧ ct = cp := by injection et with e1 e2 e3; exact ⟨e1, e2, e3⟩
              have HCT := Aside0.mk hct
              obtain ⟨hce, hfe⟩ := Kd.R_celln (0 : Int) HRj.out (j : Int) (by omega) hjz
              have HPut := Aside0.mk (Kd.R_putn HRj.out (j : Int) (-7))
              have hfa := HFar.out gt hbt
              simp only [Int.toNat_natCast] at hce hfe HPut
              have HTw := Aside0.mk (HPj.out.put (j := j) HCT.out hfa.1 hfa.2.1 hfa.2.2 (.int .i64 (-7)))
              clear hfa hct et
              go_wp2
              go_roundg (n - (j + 1))
              case measure => have := HMj.out; omega
              case rel => exact ⟨j + 1, ts.set j (-7), by go_num, hjn, ⟨Nat.le_refl _⟩, by simpa using hts, HPut, HTw⟩
            · obtain rfl : j = n := by omega
              have hjz : ¬ (j : Int) < (j : Int) := by omega
              go_wp2
              go_roundg (l0.length + l1.length - (k + 1))
              case measure => have := HM.out; omega
              case rel => exact ⟨k + 1, ta, _, _, _, _, _, s2, _, _, _, _, _, by go_num, by omega, ⟨Nat.le_refl _⟩, HL1, HPj⟩
      · by_cases hB : k < l1.length
        · have hAz : ¬ (k : Int) < (l0.length : Int) := by omega
          have hBz : (k : Int) < (l1.length : Int) := by omega
          have m0 : wr.cell? ⟨g2, 0, none⟩ = some (.slice A2 s2.1.length c2) := cell_of HP.out.two.box 0
          have m1 : wr.cell? ⟨g2, 1, none⟩ = some (.int .i64 s2.2) := cell_of HP.out.two.box 1
          have HLB := Aside0.mk (show (s2.2 + 1) * 24 ≤ 140737488355328 by have := HL.out; omega)
          obtain ⟨y, hy⟩ : ∃ y, l1[k]? = some y := ⟨_, List.getElem?_eq_getElem hB⟩
          have HWF := Aside0.mk (wfA_of HW1.out (List.mem_of_getElem? hy))
          obtain ⟨adb, ea, a0, a1, a2⟩ := at_T37 HC1.out (k : Int) (by omega) hBz
          subst ea
          rw [rd37 hy] at a0 a1 a2
          simp only [Int.toNat_natCast] at a0 a1 a2
          have HA0 := Aside0.mk a0
          have HA1 := Aside0.mk a1
          have HA2 := Aside0.mk a2
          replace a0 := (HP.out.one.bel.cell (World.block_lt_of_cell? _ _ a0)).trans a0
          replace a1 := (HP.out.one.bel.cell (World.block_lt_of_cell? _ _ a1)).trans a1
          replace a2 := (HP.out.one.bel.cell (World.block_lt_of_cell? _ _ a2)).trans a2
          clear hy
          go_wp2
          refine start_ (n := 11) (S := fun w' => w'.cell? ⟨g2, 0, none⟩ = some (.slice A2 s2.1.length c2) ∧ w'.cell? ⟨g2, 1, none⟩ = some (.int .i64 s2.2) ∧ w'.cell? (adb.add (k * 3)) = some (.int .i64 y.f0) ∧ w'.cell? ⟨(adb.add (k * 3)).block, (adb.add (k * 3)).off + 1, none⟩ = some (.int .i64 y.f1) ∧ w'.cell? ⟨(adb.add (k * 3)).block, (adb.add (k * 3)).off + 2, none⟩ = some (.int .u64 y.f2)) (ds := [10]) #[false, false, false, false, false, false, false, false, false, false, false] (by kernel_rfl) rfl rfl ⟨m0, m1, a0, a1, a2⟩ (fun hHeld => ?_); refine with_tab tab5_11 (fun HT_ => ?_)
          have HPd := Aside0.mk (Two.below HP.out (below_drew1 (Below.refl _ _)))
          generalize wr.drew = Wb at HPd hHeld ⊢
          refine pure_ (i := 0) (N := some 53) (v := ?_) (a' := ?_) #[true, false, false, false, false, false, false, false, false, false, false] rfl rfl (any_of HT_.out (by kernel_rfl)) (fun _ _ _ h => h) (Or.inl ⟨by rfl, ?_⟩) ?_ ?_
          rotate_left
          · intro w'
            go_simp
            with_reducible rfl
          rotate_left
          · simp only [Act.put, List.setIfInBounds_toArray, List.set_cons_zero, List.set_cons_succ, i64_w, i32_w]
            rfl
          refine pure_ (i := 2) (N := some 55) (v := ?_) (a' := ?_) #[true, false, true, false, false, false, false, false, false, false, false] rfl rfl (any_of HT_.out (by kernel_rfl)) (fun _ _ _ h => h) (Or.inl ⟨by rfl, ?_⟩) ?_ ?_
          rotate_left
          · intro w'
            go_simp
            with_reducible rfl
          rotate_left
          · simp only [Act.put, List.setIfInBounds_toArray, List.set_cons_zero, List.set_cons_succ, i64_w, i32_w]
            rfl
          refine pure_ (i := 3) (N := some 56) (v := ?_) (a' := ?_) #[true, false, true, true, false, false, false, false, false, false, false] rfl rfl (any_of HT_.out (by kernel_rfl)) (fun _ _ _ h => h) (Or.inl ⟨by rfl, ?_⟩) ?_ ?_
          rotate_left
          · intro w'
            go_simp
            with_reducible rfl
          rotate_left
          · simp only [Act.put, List.setIfInBounds_toArray, List.set_cons_zero, List.set_cons_succ, i64_w, i32_w]
            rfl
          refine pure_ (i := 4) (N := some 57) (v := ?_) (a' := ?_) #[true, false, true, true, true, false, false, false, false, false, false] rfl rfl (any_of HT_.out (by kernel_rfl)) (fun _ _ _ h => h) (Or.inl ⟨by rfl, ?_⟩) ?_ ?_
          rotate_left
          · intro w'
            go_simp
            with_reducible rfl
          rotate_left
          · simp only [Act.put, List.setIfInBounds_toArray, List.set_cons_zero, List.set_cons_succ, i64_w, i32_w]
            rfl
          refine take_ (i := 1) (N := some 54) (v := ?_) (a' := ?_) #[true, true, true, true, true, false, false, false, false, false, false] rfl rfl (take_of HT_.out (by kernel_rfl)) (fun _ _ _ h => h) (Or.inl ⟨by rfl, ?_⟩) hHeld ?_ ?_
          rotate_left
          · rintro w' ⟨s0, s1, s2_, s3, s4⟩
            go_simp
            with_reducible rfl
          rotate_left
          · simp only [Act.put, List.setIfInBounds_toArray, List.set_cons_zero, List.set_cons_succ, i64_w, i32_w]
            rfl
          refine take_ (i := 5) (N := some 58) (v := ?_) (a' := ?_) #[true, true, true, true, true, true, false, false, false, false, false] rfl rfl (take_of HT_.out (by kernel_rfl)) (fun _ _ _ h => h) (Or.inl ⟨by rfl, ?_⟩) hHeld ?_ ?_
          rotate_left
          · rintro w' ⟨s0, s1, s2_, s3, s4⟩
            go_simp
            with_reducible rfl
          rotate_left
          · simp only [Act.put, List.setIfInBounds_toArray, List.set_cons_zero, List.set_cons_succ, i64_w, i32_w]
            rfl
          refine one_ (i := 6) (N := some 59) #[true, true, true, true, true, true, true, false, false, false, false] rfl rfl (one_of HT_.out (by kernel_rfl)) (by decide) (fun K hK => ?_)
          refine goes_ Try.func9 (by kernel_rfl) rfl #[pt b2, .agg #[.slice A2 s2.1.length c2, .int .i64 s2.2], .agg #[.int .i64 y.f0, .int .i64 y.f1, .int .u64 y.f2]] (by rfl) rfl rfl (by (try simp only [List.map_toArray, List.map_cons, List.map_nil]); first | done | rfl) ?_
          refine (HPd.out.symm.act y HWF.out HLB.out).mono ?_
          rintro e w6b ⟨nnb, pfb, qfb, Ab, cb, rfl, hg6, hb6, hP6⟩
          refine ⟨_, rfl, ?_⟩
          have HG6 := Aside0.mk hg6
          have HQb := Aside0.mk hP6.symm
          have HB6 := Aside0.mk hb6
          clear hg6 hP6 hb6
          have hc6 := fun (p : Addr) (u : Value) (h : w.cell? p = some u) => (HB6.out.cell (World.block_lt_of_cell? _ _ h)).trans h
          refine hK.out _ _ ⟨cell_of HG6.out 0, cell_of HG6.out 1, hc6 _ _ HA0.out, hc6 _ _ HA1.out, hc6 _ _ HA2.out⟩ (fun hHeld6 => ?_)
          clear hK K
          refine norm_ (a' := ?_) ?_ ?_
          rotate_left
          · show Act.put _ (some 59) _ = _
            simp only [Act.put, List.setIfInBounds_toArray, List.set_cons_zero, List.set_cons_succ, i64_w, i32_w]
            rfl
          refine pure_ (i := 7) (N := some 52) (v := ?_) (a' := ?_) #[true, true, true, true, true, true, true, true, false, false, false] rfl rfl (any_of HT_.out (by kernel_rfl)) (fun _ _ _ h => h) (Or.inl ⟨by rfl, ?_⟩) ?_ ?_
          rotate_left
          · intro w'
            go_simp
            with_reducible rfl
          rotate_left
          · simp only [Act.put, List.setIfInBounds_toArray, List.set_cons_zero, List.set_cons_succ, i64_w, i32_w]
            rfl
          refine pure_ (i := 8) (N := some 60) (v := ?_) (a' := ?_) #[true, true, true, true, true, true, true, true, true, false, false] rfl rfl (any_of HT_.out (by kernel_rfl)) (fun _ _ _ h => h) (Or.inl ⟨by rfl, ?_⟩) ?_ ?_
          rotate_left
          · intro w'
            go_simp
            with_reducible rfl
          rotate_left
          · simp only [Act.put, List.setIfInBounds_toArray, List.set_cons_zero, List.set_cons_succ, i64_w, i32_w]
            rfl
          refine pure_ (i := 9) (N := some 61) (v := ?_) (a' := ?_) #[true, true, true, true, true, true, true, true, true, true, false] rfl rfl (any_of HT_.out (by kernel_rfl)) (fun _ _ _ h => h) (Or.inl ⟨by rfl, ?_⟩) ?_ ?_
          rotate_left
          · intro w'
            go_simp
            with_reducible rfl
          rotate_left
          · simp only [Act.put, List.setIfInBounds_toArray, List.set_cons_zero, List.set_cons_succ, i64_w, i32_w]
            rfl
          refine last_ (i := 10) (N := none) #[true, true, true, true, true, true, true, true, true, true, true] rfl rfl (one_of HT_.out (by kernel_rfl)) (by decide) (fun K hK => ?_)
          have q0 : w6b.cell? ⟨g2, 0, none⟩ = some (.slice A2 s2.1.length c2) := cell_of HG6.out 0
          have q1 : w6b.cell? ⟨g2, 1, none⟩ = some (.int .i64 s2.2) := cell_of HG6.out 1
          have q2 : w6b.frozen? ⟨g2, 0, none⟩ = false := frozen_of HG6.out 0
          have q3 : w6b.frozen? ⟨g2, 1, none⟩ = false := frozen_of HG6.out 1
          refine skip_ (w1 := ?_) (by rfl) rfl ?_ ?_
          rotate_left
          · go_simp
            rfl
          refine hK.out _ _ ?_
          generalize hV : (w6b.setCell ⟨g2, 0, none⟩ (.slice Ab (stepL s2 y).1.length cb)).setCell ⟨g2, 1, none⟩ (.int .i64 (stepL s2 y).2) = Vb at HQb ⊢
          refine done_ (done_of HT_.out (by kernel_rfl)) ?_
          clear hV hK K q0 q1 q2 q3 hHeld hHeld6 m0 m1 a0 a1 a2 HPd HB6 HG6 hc6 HA0 HA1 HA2 HWF HLB HT_
          have hlb := stepL_last s2 y
          generalize stepL s2 y = tb at HQb hlb ⊢
          have HL1 := Aside0.mk (show s.2 ≤ ((k + 1 : Nat) : Int) ∧ s.2 ≤ l0.length ∧ tb.2 ≤ ((k + 1 : Nat) : Int) ∧ tb.2 ≤ l1.length by have := HL.out; omega)
          have hop := HQb.out.opens (show s.2 * 24 ≤ 140737488355328 by have := HL1.out; omega)
          have HFar := Aside0.mk (show ∀ k, Vb.heap.size ≤ k → w.heap.size ≤ k ∧ (k ≠ g1 ∧ ¬ Foot b m _ s.1 k) ∧ (k ≠ g2 ∧ ¬ Foot b2 m2 _ tb.1 k) from fun k hk => ⟨Nat.le_trans HQb.out.one.bel.size hk, ⟨fun e => by have := HQb.out.one.glt; omega, fun h => by have := HQb.out.one.tab.lt h; omega⟩, fun e => by have := HQb.out.two.glt; omega, fun h => by have := HQb.out.two.tab.lt h; omega⟩)
          have hsh : (openL s.1).length * 24 ≤ 140737488355328 := by have h1 := openL_len s.1; have h2 := HQb.out.one.tab.len; have h3 := HQb.out.one.tab.nnle; have h4 := HL1.out; omega
          generalize openL s.1 = ts0 at hop hsh
          generalize Vb.heap.size = B at hop HFar
          go_wp2_with (go_at_call 14; refine hop.mono ?_; rintro e w7 ⟨v, rfl, hR7, hP7, hz7⟩; have HP7 := Aside0.mk hP7; obtain ⟨At, ct, rfl⟩ := Kd.R_slice hR7; have HR7 := Aside0.mk hR7; clear hR7 hP7)
          generalize hn0 : ts0.length = n at *
          go_loopg [11] n (fun gg s11 wr => ∃ (j : Nat) (ts : List Int), s11 = .int .i64 j ∧ j ≤ n ∧ Aside0 (n - j ≤ gg) ∧ ts.length = n ∧ Aside0 (Kd.R (Kd.int .i64) 3 wr B (fun _ => True) (.slice At n ct) ts) ∧ Aside0 (Two w wr b m g1 s _ _ _ _ _ b2 m2 g2 tb _ _ _ _ _))
          case atStart => exact ⟨0, ts0, rfl, Nat.zero_le _, ⟨by omega⟩, hn0, ⟨HR7.out⟩, ⟨HP7.out⟩⟩
          case round =>
            clear HP7 HR7 hop
            obtain ⟨j, ts, rfl, hj, HMj, hts, HRj, HPj⟩ := hrel
            by_cases hjn : j < n
            · have hjz : (j : Int) < (n : Int) := by omega
              obtain ⟨gt, cp, et, hbt, hlt_, cst, hct⟩ := Kd.R_form HRj.out (by omega)
              obtain ⟨rfl, -, rfl⟩ : At = some ⟨gt, 0, none⟩ ∧ n = ts.length ∧ ct = cp := by injection et with e1 e2 e3; exact ⟨e1, e2, e3⟩
              have HCT := Aside0.mk hct
              obtain ⟨hce, hfe⟩ := Kd.R_celln (0 : Int) HRj.out (j : Int) (by omega) hjz
              have HPut := Aside0.mk (Kd.R_putn HRj.out (j : Int) (-7))
              have hfa := HFar.out gt hbt
              simp only [Int.toNat_natCast] at hce hfe HPut
              have HTw := Aside0.mk (HPj.out.put (j := j) HCT.out hfa.1 hfa.2.1 hfa.2.2 (.int .i64 (-7)))
              clear hfa hct et
              go_wp2
              go_roundg (n - (j + 1))
              case measure => have := HMj.out; omega
              case rel => exact ⟨j + 1, ts.set j (-7), by go_num, hjn, ⟨Nat.le_refl _⟩, by simpa using hts, HPut, HTw⟩
            · obtain rfl : j = n := by omega
              have hjz : ¬ (j : Int) < (j : Int) := by omega
              go_wp2
              go_roundg (l0.length + l1.length - (k + 1))
              case measure => have := HM.out; omega
              case rel => exact ⟨k + 1, s, _, _, _, _, _, tb, _, _, _, _, _, by go_num, by omega, ⟨Nat.le_refl _⟩, HL1, HPj⟩
        · have hAz : ¬ (k : Int) < (l0.length : Int) := by omega
          have hBz : ¬ (k : Int) < (l1.length : Int) := by omega
          have m0 : wr.cell? ⟨g1, 0, none⟩ = some (.slice A s.1.length c) := cell_of HP.out.one.box 0
          have m1 : wr.cell? ⟨g1, 1, none⟩ = some (.int .i64 s.2) := cell_of HP.out.one.box 1
          have Mark : True := trivial
          have hi1 := HP.out.isa (show (s.2 + 1) * 24 ≤ 140737488355328 by have := HL.out; omega)
          have HL2 := Aside0.mk (show (s2.2 + 1) * 24 ≤ 140737488355328 by have := HL.out; omega)
          go_wp2_with (first | (go_at_call 13; clear Mark; refine hi1.mono ?_; rintro e w5 ⟨rfl, hP5⟩; have HP5 := Aside0.mk hP5; have n0 : w5.cell? ⟨g2, 0, none⟩ = some (.slice A2 s2.1.length c2) := cell_of HP5.out.two.box 0; have n1 : w5.cell? ⟨g2, 1, none⟩ = some (.int .i64 s2.2) := cell_of HP5.out.two.box 1; clear hP5 hi1 m0 m1) | (go_at_call 13; refine (HP5.out.symm.isa HL2.out).mono ?_; rintro e w7 ⟨rfl, hP7⟩; have HP7 := Aside0.mk hP7; clear hP7) | (go_at_call 12; refine (awake_any _).mono ?_; rintro e w8 ⟨rfl, hB8⟩; have HB8 := Aside0.mk hB8; clear hB8))
          go_ret
          exact ⟨rfl, below_step HP7.out.one.bel HB8.out⟩
  · rw [if_neg hcond] at h
    cases h
end Go.Proofs.Ytckeelbodieblaa.PB
