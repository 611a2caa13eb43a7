/- Status: the law StatusOneWay, its walk. -/
import Derived.Test.YtckeelbodieblaaStO
namespace Go.Proofs.Ytckeelbodieblaa.PB
open Go Go.RowKit Go.Proofs Go.Maps Go.MuLone Go.Sort Go.Shelf Go.Proofs.YtckeelbodieblaaW.PrintWords Go.Proofs.YtckeelbodieblaaW.PrintLast Go.Proofs.YtckeelbodieblaaW.PrintMore Go.Proofs.Ytckeelbodieblaa.PB
open Go.Proofs.Ytckeelbodieblaa.St hiding Kept Kept.refl Kept.of_below Kept.then_ Kept.of_grown Kept.below Kept.alloc Kept.setCell blk_kept
set_option linter.unusedVariables false
set_option linter.unusedSimpArgs false
def T3_11 : Bool × List (List Nat × List Nat) := (true, [([], []), ([], []), ([], []), ([], []), ([2, 3], [2, 3]), ([4], [4]), ([0, 1, 5], [0, 1, 5]), ([6], [6]), ([7], [7]), ([7], [7]), ([8, 6, 0, 1, 2, 3, 4, 5, 6, 7, 8], [8])])
theorem tab3_11 : rtab .any (opsOf Try.f3 11) = T3_11 := by kernel_rfl
def vellumlaw09_StatusOneWay.f (k : Nat) (l0 : List S37) : Option Bool := if l0.length * 24 ≤ 140737488351232 ∧ wfA l0 = true then some true else none
set_option maxHeartbeats 8000000 in
set_option maxRecDepth 100000 in
theorem vellumlaw09_StatusOneWay.calls (k : Nat) (A0 : Option Addr) (c0 : Nat) (l0 : List (S37)) (r : Bool) (w : World) (hr0 : Kd.C k37 w A0 l0.length l0) (hc0 : l0.length ≤ c0) (h : vellumlaw09_StatusOneWay.f k l0 = some r) :
    Calls Try.prog 3 #[.slice A0 l0.length c0] w fun e w' => e = .returned (.bool r) ∧ Below w.heap.size w w' := by
  unfold vellumlaw09_StatusOneWay.f at h
  by_cases hcond : l0.length * 24 ≤ 140737488351232 ∧ wfA l0 = true
  · rw [if_pos hcond] at h
    obtain rfl := Option.some.inj h
    have HW0 := Aside0.mk hcond.2
    have hlb := hcond.1
    have HC := Aside0.mk hr0
    clear hr0 h hcond
    go_enter Try.func3, Try.ntmps3
    go_wp2_with (go_at_call 6; refine (New_any _).mono ?_; rintro e w1 ⟨b, m, rfl, hT1, hB1, hb, hm⟩; have HPn := Aside0.mk (pair_new w (w1.alloc (.cells #[.slice none 0 0, .int .i64 0] 27)) b m w1.heap.size (hT1.below (below_alloc (Below.refl _ _) _)) (heap_new _ _) hb hm hB1.size (Nat.ne_of_lt (lt_of hT1.blk)) (Nat.ne_of_lt (hT1.lt (.inr (.inl rfl)))) (below_alloc hB1 _)); have hz1 := hB1.size; clear hT1 hB1; unfold pt)
    generalize w1.alloc (.cells #[.slice none 0 0, .int .i64 0] 27) = w2 at HPn ⊢
    generalize w1.heap.size = gm at *
    refine (Begin_more HPn.out.tab (by decide) (by decide)).mono ?_
    rintro e w3 ⟨pf3, qf3, rfl, hT3, hK3, hF3⟩
    have hfar3 : ∀ k, Foot b m pf3 ([⟨0 + 1, 1, 0⟩] : List S70) k → w.heap.size ≤ k ∧ k ≠ gm := fun k hk => by
      rcases hF3 k hk with h1 | h1
      · exact HPn.out.far k h1
      · have := HPn.out.glt; have := HPn.out.bel.size; exact ⟨by omega, by omega⟩
    have hg3 : w3.heap[gm]? = some (.cells #[.slice none 0 0, .int .i64 0] 27) := St.blk_kept HPn.out.box hK3 (fun hF => (HPn.out.far _ hF).2 rfl)
    have hB3 : Below w.heap.size w w3 := HPn.out.bel.trans (hK3.toBelow (fun k hk => ⟨Nat.lt_of_lt_of_le hk HPn.out.bel.size, fun hF => by have := (HPn.out.far _ hF).1; omega⟩))
    have HT3 := Aside0.mk hT3
    have HG3 := Aside0.mk hg3
    have HB3 := Aside0.mk hB3
    have HF3 := Aside0.mk hfar3
    have hgle := HPn.out.gle
    clear hT3 hK3 hF3 hfar3 hB3 hg3
    have hbeg := rBegin_more (w := w3) (A := none) (c := 0) (L := []) (last := 0) (by decide) (by decide) (Kd.R_reads' (Kd.R_nil k70 70 w3 0 (fun _ => True))).2.2 (by decide) (by decide) (by decide)
    have m0 : w3.cell? ⟨gm, 0, none⟩ = some (.slice none 0 0) := cell_of HG3.out 0
    have m1 : w3.cell? ⟨gm, 1, none⟩ = some (.int .i64 0) := cell_of HG3.out 1
    go_wp2_with (go_at_call 8; refine hbeg.mono ?_; rintro e w4 ⟨v', rfl, hR4, hB4⟩; obtain ⟨A4, c4, rfl⟩ := Kd.R_slice hR4; have HR4 := Aside0.mk hR4; have HB4 := Aside0.mk hB4; clear hR4 hB4; have HG4 := Aside0.mk ((HB4.out.block _ (lt_of HG3.out)).trans HG3.out); have p0 : w4.cell? ⟨gm, 0, none⟩ = some (.slice none 0 0) := cell_of HG4.out 0; have p1 : w4.cell? ⟨gm, 1, none⟩ = some (.int .i64 0) := cell_of HG4.out 1; have p2 : w4.frozen? ⟨gm, 0, none⟩ = false := frozen_of HG4.out 0; have p3 : w4.frozen? ⟨gm, 1, none⟩ = false := frozen_of HG4.out 1)
    have HP4 := Aside0.mk (pair_put (s := ([⟨0 + 1, 1, 0⟩], 0 + 1)) (A := A4) (c := c4) (HT3.out.below HB4.out) HG4.out (Kd.R_mono (Kd.R_lower (Kd.R_bound HR4.out) HB3.out.size) (fun k hk hF => by have h1 := HT3.out.lt hF; have h2 := hk.2.1; omega)) HF3.out hgle (below_step HB3.out HB4.out))
    go_loopg [5, 6, 9] l0.length (fun gg s5 s6 s9 wr => ∃ (k : Nat) (was at_ : Int) (s : List S70 × Int) (x : S70) (nn : Nat) (pf qf : Int → Nat) (A : Option Addr) (c : Nat), s5 = .int .i64 was ∧ s6 = .int .u64 at_ ∧ s9 = .int .i64 k ∧ k ≤ l0.length ∧ Aside0 (l0.length - k ≤ gg) ∧ Aside0 (s.2 ≤ k + 1) ∧ Aside0 (fx s.1 1 = some x) ∧ Aside0 ((was = x.f1 ∧ at_ = x.f2) ∨ (was = 0 ∧ at_ = 0 ∧ x.f1 = 1)) ∧ Aside0 (Pair w wr b m gm s nn pf qf A c))
    case atStart => exact ⟨0, 0, 0, ([⟨0 + 1, 1, 0⟩], 0 + 1), ⟨0 + 1, 1, 0⟩, 1, _, _, A4, c4, rfl, rfl, rfl, Nat.zero_le _, ⟨by omega⟩, ⟨by show (0 : Int) + 1 ≤ ((0 : Nat) : Int) + 1; decide⟩, ⟨rfl⟩, ⟨.inr ⟨rfl, rfl, rfl⟩⟩, ⟨HP4.out⟩⟩
    case round =>
      clear hbeg m0 m1 p0 p1 p2 p3 HT3 HG3 HB3 HF3 HR4 HB4 HG4 HP4 HPn
      obtain ⟨k, was, at_, s, x, nn, pf, qf, A, c, rfl, rfl, rfl, hk, HM, HL, HX, HI, HP⟩ := hrel
      have m0 : wr.cell? ⟨gm, 0, none⟩ = some (.slice A s.1.length c) := cell_of HP.out.box 0
      have m1 : wr.cell? ⟨gm, 1, none⟩ = some (.int .i64 s.2) := cell_of HP.out.box 1
      by_cases hlt : k < l0.length
      · have hltz : (k : Int) < (l0.length : Int) := by omega
        have HLB := Aside0.mk (show (s.2 + 1) * 24 ≤ 140737488355328 by have := HL.out; omega)
        obtain ⟨y, hy⟩ : ∃ y, l0[k]? = some y := ⟨_, List.getElem?_eq_getElem hlt⟩
        have HWF := Aside0.mk (wfA_of HW0.out (List.mem_of_getElem? hy))
        have HST := Aside0.mk (stepL_later s y HX.out HP.out.tab.sorted HP.out.tab.st)
        have HX1 := Aside0.mk (HP.out.tab.st x (fx_mem HX.out))
        obtain ⟨ad, ea, a0, a1, a2⟩ := at_T37 HC.out (k : Int) (by omega) hltz
        subst ea
        rw [rd37 hy] at a0 a1 a2
        simp only [Int.toNat_natCast] at a0 a1 a2
        have HA0 := Aside0.mk a0
        have HA1 := Aside0.mk a1
        have HA2 := Aside0.mk a2
        replace a0 := (HP.out.bel.cell (World.block_lt_of_cell? _ _ a0)).trans a0
        replace a1 := (HP.out.bel.cell (World.block_lt_of_cell? _ _ a1)).trans a1
        replace a2 := (HP.out.bel.cell (World.block_lt_of_cell? _ _ a2)).trans a2
        clear hy
        go_wp2
        refine start_ (n := 11) (S := fun w' => w'.cell? ⟨gm, 0, none⟩ = some (.slice A s.1.length c) ∧ w'.cell? ⟨gm, 1, none⟩ = some (.int .i64 s.2) ∧ w'.cell? (ad.add (k * 3)) = some (.int .i64 y.f0) ∧ w'.cell? ⟨(ad.add (k * 3)).block, (ad.add (k * 3)).off + 1, none⟩ = some (.int .i64 y.f1) ∧ w'.cell? ⟨(ad.add (k * 3)).block, (ad.add (k * 3)).off + 2, none⟩ = some (.int .u64 y.f2)) (ds := [10]) #[false, false, false, false, false, false, false, false, false, false, false] (by kernel_rfl) rfl rfl ⟨m0, m1, a0, a1, a2⟩ (fun hHeld => ?_); refine with_tab tab3_11 (fun HT_ => ?_)
        have HPd := Aside0.mk (Pair.below HP.out (below_drew1 (Below.refl _ _)))
        generalize wr.drew = W at HPd hHeld ⊢
        refine pure_ (i := 0) (N := some 35) (v := ?_) (a' := ?_) #[true, false, false, false, false, false, false, false, false, false, false] rfl rfl (any_of HT_.out (by kernel_rfl)) (fun _ _ _ h => h) (Or.inl ⟨by rfl, ?_⟩) ?_ ?_
        rotate_left
        · intro w'
          go_simp
          with_reducible rfl
        rotate_left
        · simp only [Act.put, List.setIfInBounds_toArray, List.set_cons_zero, List.set_cons_succ, i64_w, i32_w]
          rfl
        refine pure_ (i := 2) (N := some 37) (v := ?_) (a' := ?_) #[true, false, true, false, false, false, false, false, false, false, false] rfl rfl (any_of HT_.out (by kernel_rfl)) (fun _ _ _ h => h) (Or.inl ⟨by rfl, ?_⟩) ?_ ?_
        rotate_left
        · intro w'
          go_simp
          with_reducible rfl
        rotate_left
        · simp only [Act.put, List.setIfInBounds_toArray, List.set_cons_zero, List.set_cons_succ, i64_w, i32_w]
          rfl
        refine pure_ (i := 3) (N := some 38) (v := ?_) (a' := ?_) #[true, false, true, true, false, false, false, false, false, false, false] rfl rfl (any_of HT_.out (by kernel_rfl)) (fun _ _ _ h => h) (Or.inl ⟨by rfl, ?_⟩) ?_ ?_
        rotate_left
        · intro w'
          go_simp
          with_reducible rfl
        rotate_left
        · simp only [Act.put, List.setIfInBounds_toArray, List.set_cons_zero, List.set_cons_succ, i64_w, i32_w]
          rfl
        refine pure_ (i := 4) (N := some 39) (v := ?_) (a' := ?_) #[true, false, true, true, true, false, false, false, false, false, false] rfl rfl (any_of HT_.out (by kernel_rfl)) (fun _ _ _ h => h) (Or.inl ⟨by rfl, ?_⟩) ?_ ?_
        rotate_left
        · intro w'
          go_simp
          with_reducible rfl
        rotate_left
        · simp only [Act.put, List.setIfInBounds_toArray, List.set_cons_zero, List.set_cons_succ, i64_w, i32_w]
          rfl
        refine take_ (i := 1) (N := some 36) (v := ?_) (a' := ?_) #[true, true, true, true, true, false, false, false, false, false, false] rfl rfl (take_of HT_.out (by kernel_rfl)) (fun _ _ _ h => h) (Or.inl ⟨by rfl, ?_⟩) hHeld ?_ ?_
        rotate_left
        · rintro w' ⟨s0, s1, s2, s3, s4⟩
          go_simp
          with_reducible rfl
        rotate_left
        · simp only [Act.put, List.setIfInBounds_toArray, List.set_cons_zero, List.set_cons_succ, i64_w, i32_w]
          rfl
        refine take_ (i := 5) (N := some 40) (v := ?_) (a' := ?_) #[true, true, true, true, true, true, false, false, false, false, false] rfl rfl (take_of HT_.out (by kernel_rfl)) (fun _ _ _ h => h) (Or.inl ⟨by rfl, ?_⟩) hHeld ?_ ?_
        rotate_left
        · rintro w' ⟨s0, s1, s2, s3, s4⟩
          go_simp
          with_reducible rfl
        rotate_left
        · simp only [Act.put, List.setIfInBounds_toArray, List.set_cons_zero, List.set_cons_succ, i64_w, i32_w]
          rfl
        refine one_ (i := 6) (N := some 41) #[true, true, true, true, true, true, true, false, false, false, false] rfl rfl (one_of HT_.out (by kernel_rfl)) (by decide) (fun K hK => ?_)
        refine goes_ Try.func9 (by kernel_rfl) rfl #[pt b, .agg #[.slice A s.1.length c, .int .i64 s.2], .agg #[.int .i64 y.f0, .int .i64 y.f1, .int .u64 y.f2]] (by rfl) rfl rfl (by (try simp only [List.map_toArray, List.map_cons, List.map_nil]); first | done | rfl) ?_
        refine (HPd.out.act y HWF.out HLB.out).mono ?_
        rintro e w6 ⟨nn', pf', qf', A', c', rfl, hg6, hb6, hk6, hP6⟩
        refine ⟨_, rfl, ?_⟩
        have HG6 := Aside0.mk hg6
        have HP6 := Aside0.mk hP6
        have HB6 := Aside0.mk hb6
        have HK6 := Aside0.mk hk6
        clear hg6 hP6 hb6 hk6
        have hc6 := fun (p : Addr) (u : Value) (h : w.cell? p = some u) => (HB6.out.cell (World.block_lt_of_cell? _ _ h)).trans h
        refine hK.out _ _ ⟨cell_of HG6.out 0, cell_of HG6.out 1, hc6 _ _ HA0.out, hc6 _ _ HA1.out, hc6 _ _ HA2.out⟩ (fun hHeld6 => ?_)
        clear hK K
        refine norm_ (a' := ?_) ?_ ?_
        rotate_left
        · show Act.put _ (some 41) _ = _
          simp only [Act.put, List.setIfInBounds_toArray, List.set_cons_zero, List.set_cons_succ, i64_w, i32_w]
          rfl
        refine pure_ (i := 7) (N := some 34) (v := ?_) (a' := ?_) #[true, true, true, true, true, true, true, true, false, false, false] rfl rfl (any_of HT_.out (by kernel_rfl)) (fun _ _ _ h => h) (Or.inl ⟨by rfl, ?_⟩) ?_ ?_
        rotate_left
        · intro w'
          go_simp
          with_reducible rfl
        rotate_left
        · simp only [Act.put, List.setIfInBounds_toArray, List.set_cons_zero, List.set_cons_succ, i64_w, i32_w]
          rfl
        refine pure_ (i := 8) (N := some 42) (v := ?_) (a' := ?_) #[true, true, true, true, true, true, true, true, true, false, false] rfl rfl (any_of HT_.out (by kernel_rfl)) (fun _ _ _ h => h) (Or.inl ⟨by rfl, ?_⟩) ?_ ?_
        rotate_left
        · intro w'
          go_simp
          with_reducible rfl
        rotate_left
        · simp only [Act.put, List.setIfInBounds_toArray, List.set_cons_zero, List.set_cons_succ, i64_w, i32_w]
          rfl
        refine pure_ (i := 9) (N := some 43) (v := ?_) (a' := ?_) #[true, true, true, true, true, true, true, true, true, true, false] rfl rfl (any_of HT_.out (by kernel_rfl)) (fun _ _ _ h => h) (Or.inl ⟨by rfl, ?_⟩) ?_ ?_
        rotate_left
        · intro w'
          go_simp
          with_reducible rfl
        rotate_left
        · simp only [Act.put, List.setIfInBounds_toArray, List.set_cons_zero, List.set_cons_succ, i64_w, i32_w]
          rfl
        refine last_ (i := 10) (N := none) #[true, true, true, true, true, true, true, true, true, true, true] rfl rfl (one_of HT_.out (by kernel_rfl)) (by decide) (fun K hK => ?_)
        have q0 : w6.cell? ⟨gm, 0, none⟩ = some (.slice A s.1.length c) := cell_of HG6.out 0
        have q1 : w6.cell? ⟨gm, 1, none⟩ = some (.int .i64 s.2) := cell_of HG6.out 1
        have q2 : w6.frozen? ⟨gm, 0, none⟩ = false := frozen_of HG6.out 0
        have q3 : w6.frozen? ⟨gm, 1, none⟩ = false := frozen_of HG6.out 1
        refine skip_ (w1 := ?_) (by rfl) rfl ?_ ?_
        rotate_left
        · go_simp
          rfl
        refine hK.out _ _ ?_
        generalize hV : (w6.setCell ⟨gm, 0, none⟩ (.slice A' (stepL s y).1.length c')).setCell ⟨gm, 1, none⟩ (.int .i64 (stepL s y).2) = V at HP6 ⊢
        clear hV hK K q0 q1 q2 q3 hHeld hHeld6 m0 m1 a0 a1 a2
        refine done_ (done_of HT_.out (by kernel_rfl)) ?_
        have HL7 := Aside0.mk (show (stepL s y).2 ≤ (((k + 1 : Nat) : Int)) + 1 by have := HL.out; have := stepL_last s y; omega)
        generalize stepL s y = s6 at HP6 HL7 HST ⊢
        have hst := state_any (n := 1) HP6.out.tab (by decide)
        rw [stateS_fx] at hst
        rcases HST.out with ⟨hn, hd⟩ | ⟨x', hx', hle, hsame⟩
        · rw [hn] at hst
          simp only at hst
          have hwd : dec was = true := by
            rcases HI.out with ⟨e, _⟩ | ⟨_, _, e⟩
            · rw [e]; exact hd
            · rw [e] at hd; exact absurd hd (by decide)
          have hdc := fun W => rdec_any was W
          simp only [hwd] at hdc
          clear HI HX HST hn hd HX1
          go_wp2_with (first | (go_at_call 10; refine hst.mono ?_; rintro e w7 ⟨rfl, hB7⟩; have HB7 := Aside0.mk hB7; clear hB7) | (go_at_call 11; refine (hdc _).mono ?_; rintro e w9 ⟨rfl, rfl⟩) | (go_at_call 12; refine (awake_any _).mono ?_; rintro e w8 ⟨rfl, hB8⟩; have HB8 := Aside0.mk hB8; clear hB8))
          go_ret
          exact ⟨rfl, below_step (below_step HP6.out.bel HB7.out) HB8.out⟩
        · rw [hx'] at hst
          simp only at hst
          have hns : ¬ x'.f1 < was := by
            have := HX1.out
            rcases HI.out with ⟨e, _⟩ | ⟨e, _, _⟩
            · rw [e]; omega
            · omega
          have hdc := fun W => rdec_any was W
          by_cases hd : dec was = true
          · have hws : x'.f1 = was ∧ x'.f2 = at_ := by
              rcases HI.out with ⟨e1, e2⟩ | ⟨e, _, _⟩
              · rw [e1] at hd; rw [e1, e2]; exact hsame hd
              · rw [e] at hd; exact absurd hd (by decide)
            obtain ⟨rfl, rfl⟩ := hws
            simp only [hd] at hdc
            clear HI HX HST hsame hle HX1
            go_wp2_with (first | (go_at_call 10; refine hst.mono ?_; rintro e w7 ⟨rfl, hB7⟩; have HP7 := Aside0.mk (HP6.out.below hB7); clear hB7) | (go_at_call 11; refine (hdc _).mono ?_; rintro e w9 ⟨rfl, rfl⟩))
            go_roundg (l0.length - (k + 1))
            case measure => have := HM.out; omega
            case rel => exact ⟨k + 1, _, _, s6, x', _, _, _, _, _, rfl, rfl, by go_num, hlt, ⟨Nat.le_refl _⟩, HL7, ⟨hx'⟩, ⟨.inl ⟨rfl, rfl⟩⟩, HP7⟩
          · have hdf : dec was = false := by simpa using hd
            simp only [hdf] at hdc
            clear HI HX HST hsame hle hd hdf HX1
            go_wp2_with (first | (go_at_call 10; refine hst.mono ?_; rintro e w7 ⟨rfl, hB7⟩; have HP7 := Aside0.mk (HP6.out.below hB7); clear hB7) | (go_at_call 11; refine (hdc _).mono ?_; rintro e w9 ⟨rfl, rfl⟩))
            go_roundg (l0.length - (k + 1))
            case measure => have := HM.out; omega
            case rel => exact ⟨k + 1, _, _, s6, x', _, _, _, _, _, rfl, rfl, by go_num, hlt, ⟨Nat.le_refl _⟩, HL7, ⟨hx'⟩, ⟨.inl ⟨rfl, rfl⟩⟩, HP7⟩
      · obtain rfl : k = l0.length := by omega
        have hltz : ¬ (l0.length : Int) < (l0.length : Int) := by omega
        go_wp2_with (go_at_call 12; refine (awake_any _).mono ?_; rintro e w8 ⟨rfl, hB8⟩; have HB8 := Aside0.mk hB8; clear hB8)
        go_ret
        exact ⟨rfl, below_step HP.out.bel HB8.out⟩
  · rw [if_neg hcond] at h
    cases h
end Go.Proofs.Ytckeelbodieblaa.PB
