/- CodeOrders: the law returns true at every input, and its arguments read as before. Conditions: as the row has them (the listed tables as the program's text lays them). -/
import Derived.Test.YtpiifdbicibelaaDoorKCodeOrders1
section
namespace Go.Proofs.YtpiifdbicibelaaDoor.PA
open Go.RowKit Go.Proofs.YtpiifdbicibelaaDoorW.PrintWords Go.Proofs.YtpiifdbicibelaaDoorW.PrintLast Go.Proofs.YtpiifdbicibelaaDoorW.PrintMore
set_option linter.unusedVariables false
set_option linter.unusedSimpArgs false
set_option maxHeartbeats 8000000 in
set_option maxRecDepth 100000 in
theorem vellumref02_Cmp.calls (k : Nat) (A0 : Option Addr) (c0 : Nat) (l0 : List (S50)) (A1 : Option Addr) (c1 : Nat) (l1 : List (S50)) (r : Int) (w : World) (hr0 : Kd.C k50 w A0 l0.length l0) (hc0 : l0.length ≤ c0) (hr1 : Kd.C k50 w A1 l1.length l1) (hc1 : l1.length ≤ c1) (h : vellumref02_Cmp.f k l0 l1 = some r) :
    Calls Tryd.prog 25 #[.slice A0 l0.length c0, .slice A1 l1.length c1] w fun e w' => e = .returned (.int .i64 r) ∧ Below w.heap.size w w' := by
  have hu50 := Tryd.underlying50
  have HR0 := Aside0.mk hr0
  have HC0 := Aside0.mk hc0
  clear hr0 hc0
  have HR1 := Aside0.mk hr1
  have HC1 := Aside0.mk hc1
  clear hr1 hc1
  have HB := Aside0.mk (Below.refl w.heap.size w)
  have H : (vellumref02_Cmp.l0 k l0 l1 0) = some r := h
  clear h
  have H' := Aside0.mk H
  clear H
  go_enter Tryd.func25, Tryd.ntmps25
  go_wp2
  go_loopg [5] k (fun kq v5 w' => ∃ (x5_1 : Int), v5 = .int .i64 x5_1 ∧ Aside0 (vellumref02_Cmp.l0 kq l0 l1 x5_1 = some r) ∧ Aside0 (kq ≤ k) ∧ Aside0 (Below w.heap.size w w'))
  case atStart => exact ⟨(0), (by first | rfl | (simp; done) | (simp [*]; done) | (simp [bool_ne_nil]; done) | (simp; exact bool_ne_nil _)), H', ⟨Nat.le_refl _⟩, ⟨by repeat (first | (with_reducible first | exact HB.out | apply below_alloc | apply pw_below_drewN | apply below_drew1) | exact HB.out)⟩⟩
  case round =>
    clear H'
    try clear c1
    try clear c2
    try clear p2
    obtain ⟨x5_1, rfl, HA, HK1, HB⟩ := hrel
    cases gk with
    | zero => exact absurd HA.out (by simp [vellumref02_Cmp.l0])
    | succ k1 =>
      have H := HA.out
      clear HA
      simp only [vellumref02_Cmp.l0] at H
      have HC3 := Aside0.mk H
      clear H
      go_upto_region 2 with (fail)
      go_cut [16] (fun v16 wc => ∃ (kq : Nat) (x16_2 : Bool), v16 = .bool x16_2 ∧ Aside0 (vellumref02_Cmp.j1 kq l0 l1 x5_1 x16_2 = some r) ∧ Aside0 (kq ≤ k1) ∧ Aside0 (Below w.heap.size w wc))
      case first =>
        have H := HC3.out
        clear HC3
        by_cases c4 : x5_1 < (l0.length : Int)
        · rw [if_pos c4] at H
          have c4b0 : decide (x5_1 < (l0.length : Int)) = true := decide_eq_true c4
          clear c4
          (first | rw [c4b0] | (simp only [i64_w, i32_w]; rw [c4b0]) | skip)
          have H' := Aside0.mk H
          clear H
          go_wp2
          go_meet
          case rel => exact ⟨_, (decide (x5_1 < (l1.length : Int))), (by first | rfl | (simp; done) | (simp [*]; done) | (simp [bool_ne_nil]; done) | (simp; exact bool_ne_nil _)), H', ⟨by have := HK1.out; first | omega | exact Nat.le_refl _⟩, ⟨by repeat (first | (with_reducible first | exact HB.out | apply below_alloc | apply pw_below_drewN | apply below_drew1) | exact HB.out)⟩⟩
        · rw [if_neg c4] at H
          have c4b0 : decide (x5_1 < (l0.length : Int)) = false := decide_eq_false c4
          clear c4
          (first | rw [c4b0] | (simp only [i64_w, i32_w]; rw [c4b0]) | skip)
          have H' := Aside0.mk H
          clear H
          go_wp2
          go_meet
          case rel => exact ⟨_, (false), (by first | rfl | (simp; done) | (simp [*]; done) | (simp [bool_ne_nil]; done) | (simp; exact bool_ne_nil _)), H', ⟨by have := HK1.out; first | omega | exact Nat.le_refl _⟩, ⟨by repeat (first | (with_reducible first | exact HB.out | apply below_alloc | apply pw_below_drewN | apply below_drew1) | exact HB.out)⟩⟩
      case rest =>
        clear HC3
        try clear c1
        try clear c2
        try clear p2
        try clear c4
        try clear c4b0
        try clear p2
        obtain ⟨kq, x16_2, rfl, HA, HJ2, HB⟩ := hcut
        cases kq with
        | zero => exact absurd HA.out (by simp [vellumref02_Cmp.j1])
        | succ kj2 =>
          have H := HA.out
          clear HA
          simp only [vellumref02_Cmp.j1] at H
          by_cases c5 : x16_2 = true
          · subst c5
            have H1 : (if 0 ≤ x5_1 then (if x5_1 < (l0.length : Int) then (if x5_1 < (l1.length : Int) then ((vellumref01_Compare.f kj2 ((rd_T50 l0 x5_1).f0) ((rd_T50 l0 x5_1).f1) ((rd_T50 l0 x5_1).f2) ((rd_T50 l0 x5_1).f3) ((rd_T50 l1 x5_1).f0) ((rd_T50 l1 x5_1).f1) ((rd_T50 l1 x5_1).f2) ((rd_T50 l1 x5_1).f3)).bind fun t297 => (if t297 = 0 then (vellumref02_Cmp.l0 kj2 l0 l1 (wrap64 (x5_1 + 1))) else (some t297))) else (none)) else (none)) else (none)) = some r := by rw [if_pos rfl] at H; exact H
            clear H
            have H := H1
            clear H1
            by_cases c6 : 0 ≤ x5_1
            · rw [if_pos c6] at H
              have c6b0 : decide (0 ≤ x5_1) = true := decide_eq_true c6
              clear c6
              by_cases c7 : x5_1 < (l0.length : Int)
              · rw [if_pos c7] at H
                have c7b0 : decide (x5_1 < (l0.length : Int)) = true := decide_eq_true c7
                clear c7
                by_cases c8 : x5_1 < (l1.length : Int)
                · rw [if_pos c8] at H
                  have c8b0 : decide (x5_1 < (l1.length : Int)) = true := decide_eq_true c8
                  clear c8
                  replace H := Option.bind_eq_some_iff.mp H
                  obtain ⟨t297, A90, H⟩ := H
                  replace H : (if t297 = 0 then (vellumref02_Cmp.l0 kj2 l0 l1 (wrap64 (x5_1 + 1))) else (some t297)) = some r := H
                  have A9 := Aside0.mk A90
                  clear A90
                  by_cases c10 : t297 = 0
                  · rw [if_pos c10] at H
                    have c10b0 : (t297 == 0) = true := beq_iff_eq.mpr c10
                    have c10b1 : (t297 != 0) = false := bne_eq_false_iff_eq.mpr c10
                    clear c10
                    have H' := Aside0.mk H
                    clear H
                    try go_wp2
                    have n0_ := Aside0.mk (below_drew1 HB.out)
                    clear HB
                    have HB := n0_
                    clear n0_
                    have p295 : 0 ≤ (x5_1 : Int) := of_decide_eq_true (by first | (with_reducible assumption) | assumption)
                    have q295 : x5_1 < (l0.length : Int) := of_decide_eq_true (by first | (with_reducible assumption) | assumption)
                    obtain ⟨ad295, e295, hx295_0, hx295_1, hx295_2, hx295_3⟩ := at_T50 HR0.out x5_1 p295 q295
                    have hw295_3 := hx295_3
                    have hw295_2 := hx295_2
                    have hw295_1 := hx295_1
                    have hw295_0 := hx295_0
                    cases e295
                    replace hx295_0 := (HB.out.cell (World.block_lt_of_cell? w _ hx295_0)).trans hx295_0
                    replace hx295_1 := (HB.out.cell (World.block_lt_of_cell? w _ hx295_1)).trans hx295_1
                    replace hx295_2 := (HB.out.cell (World.block_lt_of_cell? w _ hx295_2)).trans hx295_2
                    replace hx295_3 := (HB.out.cell (World.block_lt_of_cell? w _ hx295_3)).trans hx295_3
                    replace p295 := eq_true p295
                    replace q295 := eq_true q295
                    have p296 : 0 ≤ (x5_1 : Int) := of_decide_eq_true (by first | (with_reducible assumption) | assumption)
                    have q296 : x5_1 < (l1.length : Int) := of_decide_eq_true (by first | (with_reducible assumption) | assumption)
                    obtain ⟨ad296, e296, hx296_0, hx296_1, hx296_2, hx296_3⟩ := at_T50 HR1.out x5_1 p296 q296
                    have hw296_3 := hx296_3
                    have hw296_2 := hx296_2
                    have hw296_1 := hx296_1
                    have hw296_0 := hx296_0
                    cases e296
                    replace hx296_0 := (HB.out.cell (World.block_lt_of_cell? w _ hx296_0)).trans hx296_0
                    replace hx296_1 := (HB.out.cell (World.block_lt_of_cell? w _ hx296_1)).trans hx296_1
                    replace hx296_2 := (HB.out.cell (World.block_lt_of_cell? w _ hx296_2)).trans hx296_2
                    replace hx296_3 := (HB.out.cell (World.block_lt_of_cell? w _ hx296_3)).trans hx296_3
                    replace p296 := eq_true p296
                    replace q296 := eq_true q296
                    refine start_ (n := 10) (S := fun w' => w'.cell? (ad295.add ((x5_1).toNat * 4)) = some (.int .i64 ((rd_T50 l0 x5_1).f0)) ∧ w'.cell? ⟨(ad295.add ((x5_1).toNat * 4)).block, (ad295.add ((x5_1).toNat * 4)).off + 1, none⟩ = some (.int .i64 ((rd_T50 l0 x5_1).f1)) ∧ w'.cell? ⟨(ad295.add ((x5_1).toNat * 4)).block, (ad295.add ((x5_1).toNat * 4)).off + 2, none⟩ = some (.float .f64 ((rd_T50 l0 x5_1).f2)) ∧ w'.cell? ⟨(ad295.add ((x5_1).toNat * 4)).block, (ad295.add ((x5_1).toNat * 4)).off + 3, none⟩ = some (.string ((rd_T50 l0 x5_1).f3)) ∧ w'.cell? (ad296.add ((x5_1).toNat * 4)) = some (.int .i64 ((rd_T50 l1 x5_1).f0)) ∧ w'.cell? ⟨(ad296.add ((x5_1).toNat * 4)).block, (ad296.add ((x5_1).toNat * 4)).off + 1, none⟩ = some (.int .i64 ((rd_T50 l1 x5_1).f1)) ∧ w'.cell? ⟨(ad296.add ((x5_1).toNat * 4)).block, (ad296.add ((x5_1).toNat * 4)).off + 2, none⟩ = some (.float .f64 ((rd_T50 l1 x5_1).f2)) ∧ w'.cell? ⟨(ad296.add ((x5_1).toNat * 4)).block, (ad296.add ((x5_1).toNat * 4)).off + 3, none⟩ = some (.string ((rd_T50 l1 x5_1).f3))) (ds := []) #[false, false, false, false, false, false, false, false, false, false] (by kernel_rfl) rfl rfl ⟨((HB.out.cell (World.block_lt_of_cell? w _ hw295_0)).trans hw295_0), ((HB.out.cell (World.block_lt_of_cell? w _ hw295_1)).trans hw295_1), ((HB.out.cell (World.block_lt_of_cell? w _ hw295_2)).trans hw295_2), ((HB.out.cell (World.block_lt_of_cell? w _ hw295_3)).trans hw295_3), ((HB.out.cell (World.block_lt_of_cell? w _ hw296_0)).trans hw296_0), ((HB.out.cell (World.block_lt_of_cell? w _ hw296_1)).trans hw296_1), ((HB.out.cell (World.block_lt_of_cell? w _ hw296_2)).trans hw296_2), ((HB.out.cell (World.block_lt_of_cell? w _ hw296_3)).trans hw296_3)⟩ (fun hHeld => ?_); refine with_tabW vellumref02_Cmp.tab4 vellumref02_Cmp.bits4 (fun HT_ HW_ => ?_)
                    generalize wc.drew = w11 at HB hx295_0 hx295_1 hx295_2 hx295_3 hx296_0 hx296_1 hx296_2 hx296_3 hHeld ⊢
                    refine pure_ (i := 0) (N := some 19) (v := ?_) (a' := ?_) #[true, false, false, false, false, false, false, false, false, false] rfl rfl (any_of HT_.out (by kernel_rfl)) (fun _ _ _ h => h) (Or.inl ⟨by rfl, ?_⟩) ?_ ?_
                    rotate_left
                    · intro w'
                      go_simp
                      with_reducible rfl
                    rotate_left
                    · simp only [Act.put, List.setIfInBounds_toArray, List.set_cons_zero, List.set_cons_succ, i64_w, i32_w]
                      rfl
                    refine pure_ (i := 1) (N := some 20) (v := ?_) (a' := ?_) #[true, true, false, false, false, false, false, false, false, false] rfl rfl (any_of HT_.out (by kernel_rfl)) (fun _ _ _ h => h) (Or.inl ⟨by rfl, ?_⟩) ?_ ?_
                    rotate_left
                    · intro w'
                      go_simp
                      with_reducible rfl
                    rotate_left
                    · simp only [Act.put, List.setIfInBounds_toArray, List.set_cons_zero, List.set_cons_succ, i64_w, i32_w]
                      rfl
                    refine pure_ (i := 2) (N := some 21) (v := ?_) (a' := ?_) #[true, true, true, false, false, false, false, false, false, false] rfl rfl (any_of HT_.out (by kernel_rfl)) (fun _ _ _ h => h) (Or.inl ⟨by rfl, ?_⟩) ?_ ?_
                    rotate_left
                    · intro w'
                      go_simp
                      with_reducible rfl
                    rotate_left
                    · simp only [Act.put, List.setIfInBounds_toArray, List.set_cons_zero, List.set_cons_succ, i64_w, i32_w]
                      rfl
                    refine pure_ (i := 4) (N := some 23) (v := ?_) (a' := ?_) #[true, true, true, false, true, false, false, false, false, false] rfl rfl (any_of HT_.out (by kernel_rfl)) (fun _ _ _ h => h) (Or.inl ⟨by rfl, ?_⟩) ?_ ?_
                    rotate_left
                    · intro w'
                      go_simp
                      with_reducible rfl
                    rotate_left
                    · simp only [Act.put, List.setIfInBounds_toArray, List.set_cons_zero, List.set_cons_succ, i64_w, i32_w]
                      rfl
                    refine pure_ (i := 5) (N := some 24) (v := ?_) (a' := ?_) #[true, true, true, false, true, true, false, false, false, false] rfl rfl (any_of HT_.out (by kernel_rfl)) (fun _ _ _ h => h) (Or.inl ⟨by rfl, ?_⟩) ?_ ?_
                    rotate_left
                    · intro w'
                      go_simp
                      with_reducible rfl
                    rotate_left
                    · simp only [Act.put, List.setIfInBounds_toArray, List.set_cons_zero, List.set_cons_succ, i64_w, i32_w]
                      rfl
                    refine pure_ (i := 6) (N := some 25) (v := ?_) (a' := ?_) #[true, true, true, false, true, true, true, false, false, false] rfl rfl (any_of HT_.out (by kernel_rfl)) (fun _ _ _ h => h) (Or.inl ⟨by rfl, ?_⟩) ?_ ?_
                    rotate_left
                    · intro w'
                      go_simp
                      with_reducible rfl
                    rotate_left
                    · simp only [Act.put, List.setIfInBounds_toArray, List.set_cons_zero, List.set_cons_succ, i64_w, i32_w]
                      rfl
                    refine take_ (i := 3) (N := some 22) (v := ?_) (a' := ?_) #[true, true, true, true, true, true, true, false, false, false] rfl rfl (take_ofW HT_.out HW_.out (by kernel_rfl)) (fun _ _ _ h => h) (Or.inl ⟨by rfl, ?_⟩) hHeld ?_ ?_
                    rotate_left
                    · rintro w' ⟨s0, s1, s2, s3, s4, s5, s6, s7⟩
                      go_simp
                      with_reducible rfl
                    rotate_left
                    · simp only [Act.put, List.setIfInBounds_toArray, List.set_cons_zero, List.set_cons_succ, i64_w, i32_w]
                      rfl
                    refine take_ (i := 7) (N := some 26) (v := ?_) (a' := ?_) #[true, true, true, true, true, true, true, true, false, false] rfl rfl (take_ofW HT_.out HW_.out (by kernel_rfl)) (fun _ _ _ h => h) (Or.inl ⟨by rfl, ?_⟩) hHeld ?_ ?_
                    rotate_left
                    · rintro w' ⟨s0, s1, s2, s3, s4, s5, s6, s7⟩
                      go_simp
                      with_reducible rfl
                    rotate_left
                    · simp only [Act.put, List.setIfInBounds_toArray, List.set_cons_zero, List.set_cons_succ, i64_w, i32_w]
                      rfl
                    refine one_ (i := 8) (N := some 27) #[true, true, true, true, true, true, true, true, true, false] rfl rfl (one_of HT_.out (by kernel_rfl)) (by decide) (fun K hK => ?_)
                    refine goes_ Tryd.func71 (by kernel_rfl) rfl #[.agg #[.int .i64 ((rd_T50 l0 x5_1).f0), .int .i64 ((rd_T50 l0 x5_1).f1), .float .f64 ((rd_T50 l0 x5_1).f2), .string ((rd_T50 l0 x5_1).f3)], .agg #[.int .i64 ((rd_T50 l1 x5_1).f0), .int .i64 ((rd_T50 l1 x5_1).f1), .float .f64 ((rd_T50 l1 x5_1).f2), .string ((rd_T50 l1 x5_1).f3)]] (by rfl) rfl rfl (by (try simp only [List.map_toArray, List.map_cons, List.map_nil]); first | done | rfl | (simp only [List.length_drop, List.length_take]; rfl)) ?_
                    with_reducible refine (vellumref01_Compare.calls kj2 ((rd_T50 l0 x5_1).f0) ((rd_T50 l0 x5_1).f1) ((rd_T50 l0 x5_1).f2) ((rd_T50 l0 x5_1).f3) ((rd_T50 l1 x5_1).f0) ((rd_T50 l1 x5_1).f1) ((rd_T50 l1 x5_1).f2) ((rd_T50 l1 x5_1).f3) t297 _ A9.out).mono ?_
                    rintro e w12 ⟨rfl, hb⟩
                    refine ⟨_, rfl, ?_⟩
                    have n0_ := Aside0.mk (below_step (by repeat (first | (with_reducible first | exact HB.out | apply below_alloc | apply pw_below_drewN | apply below_drew1) | exact HB.out)) hb)
                    clear HB
                    have HB := n0_
                    clear n0_
                    (try clear hb)
                    (try clear hb2)
                    (try clear hk)
                    (try clear hi)
                    refine hK.out _ _ ⟨((HB.out.cell (World.block_lt_of_cell? w _ hw295_0)).trans hw295_0), ((HB.out.cell (World.block_lt_of_cell? w _ hw295_1)).trans hw295_1), ((HB.out.cell (World.block_lt_of_cell? w _ hw295_2)).trans hw295_2), ((HB.out.cell (World.block_lt_of_cell? w _ hw295_3)).trans hw295_3), ((HB.out.cell (World.block_lt_of_cell? w _ hw296_0)).trans hw296_0), ((HB.out.cell (World.block_lt_of_cell? w _ hw296_1)).trans hw296_1), ((HB.out.cell (World.block_lt_of_cell? w _ hw296_2)).trans hw296_2), ((HB.out.cell (World.block_lt_of_cell? w _ hw296_3)).trans hw296_3)⟩ (fun hHeld => ?_)
                    clear hK K
                    refine norm_ (a' := ?_) ?_ ?_
                    rotate_left
                    · show Act.put _ (some 27) _ = _
                      simp only [Act.put, List.setIfInBounds_toArray, List.set_cons_zero, List.set_cons_succ, i64_w, i32_w]
                      rfl
                    refine pure_ (i := 9) (N := some 6) (v := ?_) (a' := ?_) #[true, true, true, true, true, true, true, true, true, true] rfl rfl (any_of HT_.out (by kernel_rfl)) (fun _ _ _ h => h) (Or.inl ⟨by rfl, ?_⟩) ?_ ?_
                    rotate_left
                    · intro w'
                      go_simp
                      with_reducible rfl
                    rotate_left
                    · simp only [Act.put, List.setIfInBounds_toArray, List.set_cons_zero, List.set_cons_succ, i64_w, i32_w]
                      rfl
                    refine done_ (done_of HT_.out (by kernel_rfl)) ?_
                    try go_wp2
                    go_roundg kj2
                    case measure => have := HK1.out; have := HJ2.out; omega
                    case rel => exact ⟨(wrap64 (x5_1 + 1)), (by first | rfl | (simp; done) | (simp [*]; done) | (simp [bool_ne_nil]; done) | (simp; exact bool_ne_nil _)), H', ⟨by have := HK1.out; have := HJ2.out; omega⟩, ⟨by repeat (first | (with_reducible first | exact HB.out | apply below_alloc | apply pw_below_drewN | apply below_drew1) | exact HB.out)⟩⟩
                  · rw [if_neg c10] at H
                    have c10b0 : (t297 == 0) = false := beq_eq_false_iff_ne.mpr c10
                    have c10b1 : (t297 != 0) = true := bne_iff_ne.mpr c10
                    obtain rfl := Option.some.inj H
                    try go_wp2
                    have n0_ := Aside0.mk (below_drew1 HB.out)
                    clear HB
                    have HB := n0_
                    clear n0_
                    have p295 : 0 ≤ (x5_1 : Int) := of_decide_eq_true (by first | (with_reducible assumption) | assumption)
                    have q295 : x5_1 < (l0.length : Int) := of_decide_eq_true (by first | (with_reducible assumption) | assumption)
                    obtain ⟨ad295, e295, hx295_0, hx295_1, hx295_2, hx295_3⟩ := at_T50 HR0.out x5_1 p295 q295
                    have hw295_3 := hx295_3
                    have hw295_2 := hx295_2
                    have hw295_1 := hx295_1
                    have hw295_0 := hx295_0
                    cases e295
                    replace hx295_0 := (HB.out.cell (World.block_lt_of_cell? w _ hx295_0)).trans hx295_0
                    replace hx295_1 := (HB.out.cell (World.block_lt_of_cell? w _ hx295_1)).trans hx295_1
                    replace hx295_2 := (HB.out.cell (World.block_lt_of_cell? w _ hx295_2)).trans hx295_2
                    replace hx295_3 := (HB.out.cell (World.block_lt_of_cell? w _ hx295_3)).trans hx295_3
                    replace p295 := eq_true p295
                    replace q295 := eq_true q295
                    have p296 : 0 ≤ (x5_1 : Int) := of_decide_eq_true (by first | (with_reducible assumption) | assumption)
                    have q296 : x5_1 < (l1.length : Int) := of_decide_eq_true (by first | (with_reducible assumption) | assumption)
                    obtain ⟨ad296, e296, hx296_0, hx296_1, hx296_2, hx296_3⟩ := at_T50 HR1.out x5_1 p296 q296
                    have hw296_3 := hx296_3
                    have hw296_2 := hx296_2
                    have hw296_1 := hx296_1
                    have hw296_0 := hx296_0
                    cases e296
                    replace hx296_0 := (HB.out.cell (World.block_lt_of_cell? w _ hx296_0)).trans hx296_0
                    replace hx296_1 := (HB.out.cell (World.block_lt_of_cell? w _ hx296_1)).trans hx296_1
                    replace hx296_2 := (HB.out.cell (World.block_lt_of_cell? w _ hx296_2)).trans hx296_2
                    replace hx296_3 := (HB.out.cell (World.block_lt_of_cell? w _ hx296_3)).trans hx296_3
                    replace p296 := eq_true p296
                    replace q296 := eq_true q296
                    refine start_ (n := 10) (S := fun w' => w'.cell? (ad295.add ((x5_1).toNat * 4)) = some (.int .i64 ((rd_T50 l0 x5_1).f0)) ∧ w'.cell? ⟨(ad295.add ((x5_1).toNat * 4)).block, (ad295.add ((x5_1).toNat * 4)).off + 1, none⟩ = some (.int .i64 ((rd_T50 l0 x5_1).f1)) ∧ w'.cell? ⟨(ad295.add ((x5_1).toNat * 4)).block, (ad295.add ((x5_1).toNat * 4)).off + 2, none⟩ = some (.float .f64 ((rd_T50 l0 x5_1).f2)) ∧ w'.cell? ⟨(ad295.add ((x5_1).toNat * 4)).block, (ad295.add ((x5_1).toNat * 4)).off + 3, none⟩ = some (.string ((rd_T50 l0 x5_1).f3)) ∧ w'.cell? (ad296.add ((x5_1).toNat * 4)) = some (.int .i64 ((rd_T50 l1 x5_1).f0)) ∧ w'.cell? ⟨(ad296.add ((x5_1).toNat * 4)).block, (ad296.add ((x5_1).toNat * 4)).off + 1, none⟩ = some (.int .i64 ((rd_T50 l1 x5_1).f1)) ∧ w'.cell? ⟨(ad296.add ((x5_1).toNat * 4)).block, (ad296.add ((x5_1).toNat * 4)).off + 2, none⟩ = some (.float .f64 ((rd_T50 l1 x5_1).f2)) ∧ w'.cell? ⟨(ad296.add ((x5_1).toNat * 4)).block, (ad296.add ((x5_1).toNat * 4)).off + 3, none⟩ = some (.string ((rd_T50 l1 x5_1).f3))) (ds := []) #[false, false, false, false, false, false, false, false, false, false] (by kernel_rfl) rfl rfl ⟨((HB.out.cell (World.block_lt_of_cell? w _ hw295_0)).trans hw295_0), ((HB.out.cell (World.block_lt_of_cell? w _ hw295_1)).trans hw295_1), ((HB.out.cell (World.block_lt_of_cell? w _ hw295_2)).trans hw295_2), ((HB.out.cell (World.block_lt_of_cell? w _ hw295_3)).trans hw295_3), ((HB.out.cell (World.block_lt_of_cell? w _ hw296_0)).trans hw296_0), ((HB.out.cell (World.block_lt_of_cell? w _ hw296_1)).trans hw296_1), ((HB.out.cell (World.block_lt_of_cell? w _ hw296_2)).trans hw296_2), ((HB.out.cell (World.block_lt_of_cell? w _ hw296_3)).trans hw296_3)⟩ (fun hHeld => ?_); refine with_tabW vellumref02_Cmp.tab4 vellumref02_Cmp.bits4 (fun HT_ HW_ => ?_)
                    generalize wc.drew = w13 at HB hx295_0 hx295_1 hx295_2 hx295_3 hx296_0 hx296_1 hx296_2 hx296_3 hHeld ⊢
                    refine pure_ (i := 0) (N := some 19) (v := ?_) (a' := ?_) #[true, false, false, false, false, false, false, false, false, false] rfl rfl (any_of HT_.out (by kernel_rfl)) (fun _ _ _ h => h) (Or.inl ⟨by rfl, ?_⟩) ?_ ?_
                    rotate_left
                    · intro w'
                      go_simp
                      with_reducible rfl
                    rotate_left
                    · simp only [Act.put, List.setIfInBounds_toArray, List.set_cons_zero, List.set_cons_succ, i64_w, i32_w]
                      rfl
                    refine pure_ (i := 1) (N := some 20) (v := ?_) (a' := ?_) #[true, true, false, false, false, false, false, false, false, false] rfl rfl (any_of HT_.out (by kernel_rfl)) (fun _ _ _ h => h) (Or.inl ⟨by rfl, ?_⟩) ?_ ?_
                    rotate_left
                    · intro w'
                      go_simp
                      with_reducible rfl
                    rotate_left
                    · simp only [Act.put, List.setIfInBounds_toArray, List.set_cons_zero, List.set_cons_succ, i64_w, i32_w]
                      rfl
                    refine pure_ (i := 2) (N := some 21) (v := ?_) (a' := ?_) #[true, true, true, false, false, false, false, false, false, false] rfl rfl (any_of HT_.out (by kernel_rfl)) (fun _ _ _ h => h) (Or.inl ⟨by rfl, ?_⟩) ?_ ?_
                    rotate_left
                    · intro w'
                      go_simp
                      with_reducible rfl
                    rotate_left
                    · simp only [Act.put, List.setIfInBounds_toArray, List.set_cons_zero, List.set_cons_succ, i64_w, i32_w]
                      rfl
                    refine pure_ (i := 4) (N := some 23) (v := ?_) (a' := ?_) #[true, true, true, false, true, false, false, false, false, false] rfl rfl (any_of HT_.out (by kernel_rfl)) (fun _ _ _ h => h) (Or.inl ⟨by rfl, ?_⟩) ?_ ?_
                    rotate_left
                    · intro w'
                      go_simp
                      with_reducible rfl
                    rotate_left
                    · simp only [Act.put, List.setIfInBounds_toArray, List.set_cons_zero, List.set_cons_succ, i64_w, i32_w]
                      rfl
                    refine pure_ (i := 5) (N := some 24) (v := ?_) (a' := ?_) #[true, true, true, false, true, true, false, false, false, false] rfl rfl (any_of HT_.out (by kernel_rfl)) (fun _ _ _ h => h) (Or.inl ⟨by rfl, ?_⟩) ?_ ?_
                    rotate_left
                    · intro w'
                      go_simp
                      with_reducible rfl
                    rotate_left
                    · simp only [Act.put, List.setIfInBounds_toArray, List.set_cons_zero, List.set_cons_succ, i64_w, i32_w]
                      rfl
                    refine pure_ (i := 6) (N := some 25) (v := ?_) (a' := ?_) #[true, true, true, false, true, true, true, false, false, false] rfl rfl (any_of HT_.out (by kernel_rfl)) (fun _ _ _ h => h) (Or.inl ⟨by rfl, ?_⟩) ?_ ?_
                    rotate_left
                    · intro w'
                      go_simp
                      with_reducible rfl
                    rotate_left
                    · simp only [Act.put, List.setIfInBounds_toArray, List.set_cons_zero, List.set_cons_succ, i64_w, i32_w]
                      rfl
                    refine take_ (i := 3) (N := some 22) (v := ?_) (a' := ?_) #[true, true, true, true, true, true, true, false, false, false] rfl rfl (take_ofW HT_.out HW_.out (by kernel_rfl)) (fun _ _ _ h => h) (Or.inl ⟨by rfl, ?_⟩) hHeld ?_ ?_
                    rotate_left
                    · rintro w' ⟨s0, s1, s2, s3, s4, s5, s6, s7⟩
                      go_simp
                      with_reducible rfl
                    rotate_left
                    · simp only [Act.put, List.setIfInBounds_toArray, List.set_cons_zero, List.set_cons_succ, i64_w, i32_w]
                      rfl
                    refine take_ (i := 7) (N := some 26) (v := ?_) (a' := ?_) #[true, true, true, true, true, true, true, true, false, false] rfl rfl (take_ofW HT_.out HW_.out (by kernel_rfl)) (fun _ _ _ h => h) (Or.inl ⟨by rfl, ?_⟩) hHeld ?_ ?_
                    rotate_left
                    · rintro w' ⟨s0, s1, s2, s3, s4, s5, s6, s7⟩
                      go_simp
                      with_reducible rfl
                    rotate_left
                    · simp only [Act.put, List.setIfInBounds_toArray, List.set_cons_zero, List.set_cons_succ, i64_w, i32_w]
                      rfl
                    refine one_ (i := 8) (N := some 27) #[true, true, true, true, true, true, true, true, true, false] rfl rfl (one_of HT_.out (by kernel_rfl)) (by decide) (fun K hK => ?_)
                    refine goes_ Tryd.func71 (by kernel_rfl) rfl #[.agg #[.int .i64 ((rd_T50 l0 x5_1).f0), .int .i64 ((rd_T50 l0 x5_1).f1), .float .f64 ((rd_T50 l0 x5_1).f2), .string ((rd_T50 l0 x5_1).f3)], .agg #[.int .i64 ((rd_T50 l1 x5_1).f0), .int .i64 ((rd_T50 l1 x5_1).f1), .float .f64 ((rd_T50 l1 x5_1).f2), .string ((rd_T50 l1 x5_1).f3)]] (by rfl) rfl rfl (by (try simp only [List.map_toArray, List.map_cons, List.map_nil]); first | done | rfl | (simp only [List.length_drop, List.length_take]; rfl)) ?_
                    with_reducible refine (vellumref01_Compare.calls kj2 ((rd_T50 l0 x5_1).f0) ((rd_T50 l0 x5_1).f1) ((rd_T50 l0 x5_1).f2) ((rd_T50 l0 x5_1).f3) ((rd_T50 l1 x5_1).f0) ((rd_T50 l1 x5_1).f1) ((rd_T50 l1 x5_1).f2) ((rd_T50 l1 x5_1).f3) t297 _ A9.out).mono ?_
                    rintro e w14 ⟨rfl, hb⟩
                    refine ⟨_, rfl, ?_⟩
                    have n0_ := Aside0.mk (below_step (by repeat (first | (with_reducible first | exact HB.out | apply below_alloc | apply pw_below_drewN | apply below_drew1) | exact HB.out)) hb)
                    clear HB
                    have HB := n0_
                    clear n0_
                    (try clear hb)
                    (try clear hb2)
                    (try clear hk)
                    (try clear hi)
                    refine hK.out _ _ ⟨((HB.out.cell (World.block_lt_of_cell? w _ hw295_0)).trans hw295_0), ((HB.out.cell (World.block_lt_of_cell? w _ hw295_1)).trans hw295_1), ((HB.out.cell (World.block_lt_of_cell? w _ hw295_2)).trans hw295_2), ((HB.out.cell (World.block_lt_of_cell? w _ hw295_3)).trans hw295_3), ((HB.out.cell (World.block_lt_of_cell? w _ hw296_0)).trans hw296_0), ((HB.out.cell (World.block_lt_of_cell? w _ hw296_1)).trans hw296_1), ((HB.out.cell (World.block_lt_of_cell? w _ hw296_2)).trans hw296_2), ((HB.out.cell (World.block_lt_of_cell? w _ hw296_3)).trans hw296_3)⟩ (fun hHeld => ?_)
                    clear hK K
                    refine norm_ (a' := ?_) ?_ ?_
                    rotate_left
                    · show Act.put _ (some 27) _ = _
                      simp only [Act.put, List.setIfInBounds_toArray, List.set_cons_zero, List.set_cons_succ, i64_w, i32_w]
                      rfl
                    refine pure_ (i := 9) (N := some 6) (v := ?_) (a' := ?_) #[true, true, true, true, true, true, true, true, true, true] rfl rfl (any_of HT_.out (by kernel_rfl)) (fun _ _ _ h => h) (Or.inl ⟨by rfl, ?_⟩) ?_ ?_
                    rotate_left
                    · intro w'
                      go_simp
                      with_reducible rfl
                    rotate_left
                    · simp only [Act.put, List.setIfInBounds_toArray, List.set_cons_zero, List.set_cons_succ, i64_w, i32_w]
                      rfl
                    refine done_ (done_of HT_.out (by kernel_rfl)) ?_
                    try go_wp2
                    go_ret
                    exact ⟨by first | rfl | (simp [errW_none, errW_some] <;> rfl) | (simp [*, errW_none, errW_some] <;> rfl), by repeat (first | (with_reducible first | exact HB.out | apply below_alloc | apply pw_below_drewN | apply below_drew1) | exact HB.out)⟩
                · rw [if_neg c8] at H
                  exact absurd H (by simp)
              · rw [if_neg c7] at H
                exact absurd H (by simp)
            · rw [if_neg c6] at H
              exact absurd H (by simp)
          · replace c5 := Bool.eq_false_iff.mpr c5
            subst c5
            have H1 : (if (l0.length : Int) < (l1.length : Int) then (some (-1)) else (if (l0.length : Int) > (l1.length : Int) then (some 1) else (some 0))) = some r := by rw [if_neg (show ¬ (false = true) by decide)] at H; exact H
            clear H
            have H := H1
            clear H1
            by_cases c15 : (l0.length : Int) < (l1.length : Int)
            · rw [if_pos c15] at H
              have c15b0 : decide ((l0.length : Int) < (l1.length : Int)) = true := decide_eq_true c15
              have c15b1 : decide (l0.length < l1.length) = true := decide_eq_true (Int.ofNat_lt.mp c15)
              clear c15
              obtain rfl := Option.some.inj H
              go_wp2
              go_ret
              exact ⟨by first | rfl | (simp [errW_none, errW_some] <;> rfl) | (simp [*, errW_none, errW_some] <;> rfl), by repeat (first | (with_reducible first | exact HB.out | apply below_alloc | apply pw_below_drewN | apply below_drew1) | exact HB.out)⟩
            · rw [if_neg c15] at H
              have c15b0 : decide ((l0.length : Int) < (l1.length : Int)) = false := decide_eq_false c15
              have c15b1 : decide (l0.length < l1.length) = false := decide_eq_false (fun h => c15 (Int.ofNat_lt.mpr h))
              clear c15
              by_cases c16 : (l0.length : Int) > (l1.length : Int)
              · rw [if_pos c16] at H
                have c16b0 : decide ((l1.length : Int) < (l0.length : Int)) = true := decide_eq_true c16
                have c16b1 : decide (l1.length < l0.length) = true := decide_eq_true (Int.ofNat_lt.mp c16)
                clear c16
                obtain rfl := Option.some.inj H
                go_wp2
                go_ret
                exact ⟨by first | rfl | (simp [errW_none, errW_some] <;> rfl) | (simp [*, errW_none, errW_some] <;> rfl), by repeat (first | (with_reducible first | exact HB.out | apply below_alloc | apply pw_below_drewN | apply below_drew1) | exact HB.out)⟩
              · rw [if_neg c16] at H
                have c16b0 : decide ((l1.length : Int) < (l0.length : Int)) = false := decide_eq_false c16
                have c16b1 : decide (l1.length < l0.length) = false := decide_eq_false (fun h => c16 (Int.ofNat_lt.mpr h))
                clear c16
                obtain rfl := Option.some.inj H
                go_wp2
                go_ret
                exact ⟨by first | rfl | (simp [errW_none, errW_some] <;> rfl) | (simp [*, errW_none, errW_some] <;> rfl), by repeat (first | (with_reducible first | exact HB.out | apply below_alloc | apply pw_below_drewN | apply below_drew1) | exact HB.out)⟩
end Go.Proofs.YtpiifdbicibelaaDoor.PA
end
section
namespace Go.Proofs.YtpiifdbicibelaaDoor.Pure
open Go.RowKit Go.Proofs Go.Proofs.YtpiifdbicibelaaDoorW.PrintWords Go.Proofs.YtpiifdbicibelaaDoorW.PrintLast Go.Proofs.YtpiifdbicibelaaDoorW.PrintMore Go.Proofs.YtpiifdbicibelaaDoor.PA Go.Proofs.YtpiifdbicibelaaDoor.OpenK
set_option linter.unusedVariables false
/-- What may follow a text's code: nothing, or a byte below 255. -/
def Tail (r : List Int) : Prop := ∀ x l, r = x :: l → x < 255
/-- u's code is before v's, whatever follows. -/
def Bf (u v : List Int) : Prop := ∀ r s, Tail r → u ++ r < v ++ s
theorem Bf.cons {a : Int} {u v : List Int} (h : Bf u v) : Bf (a :: u) (a :: v) := fun r s hr => List.cons_lt_cons_iff.2 (Or.inr ⟨rfl, h r s hr⟩)
theorem Bf.head {a b : Int} {u v : List Int} (h : a < b) : Bf (a :: u) (b :: v) := fun r s hr => List.cons_lt_cons_iff.2 (Or.inl h)
theorem be_nat (U n : Nat) : be (U : Int) (n + 1) = ((U / 256 ^ n % 256 : Nat) : Int) :: be (U : Int) n := by
  simp only [be]
  congr 1
theorem be_bf (U V : Nat) : ∀ n, U % 256 ^ n < V % 256 ^ n → Bf (be (U : Int) n) (be (V : Int) n)
  | 0, h => by simp [Nat.mod_one] at h
  | n + 1, h => by
    rw [Nat.pow_succ, Nat.mod_mul, Nat.mod_mul] at h
    rw [be_nat, be_nat]
    have hq : 0 < 256 ^ n := Nat.pow_pos (by decide)
    have hu := Nat.mod_lt U hq
    have hv := Nat.mod_lt V hq
    rcases Nat.lt_trichotomy (U / 256 ^ n % 256) (V / 256 ^ n % 256) with h1 | h1 | h1
    · exact Bf.head (by omega)
    · rw [h1] at h ⊢
      exact Bf.cons (be_bf U V n (by omega))
    · exfalso
      have := Nat.mul_le_mul_left (256 ^ n) (show V / 256 ^ n % 256 + 1 ≤ U / 256 ^ n % 256 from h1)
      rw [Nat.mul_add] at this
      omega
theorem nb_spec (u : Nat) : u < 256 ^ nb u := by
  induction u using Nat.strongRecOn with
  | ind u ih =>
    unfold nb
    by_cases h : u = 0
    · rw [dif_pos h]; subst h; simp
    · rw [dif_neg h]
      have := ih (u / 256) (by omega)
      rw [Nat.add_comm, Nat.pow_succ]
      omega
theorem nb_mono {u v : Nat} (h : u ≤ v) : nb u ≤ nb v := nb_le _ _ (by have := nb_spec v; omega)
theorem top_mod {n u : Nat} (hn : n ≤ 8) (hu : u < 256 ^ n) : (18446744073709551615 - u) % 256 ^ n = 256 ^ n - 1 - u := by
  have hk : 18446744073709551615 - u = (256 ^ n - 1 - u) + 256 ^ n * (256 ^ (8 - n) - 1) := by
    have e : (256 : Nat) ^ n * 256 ^ (8 - n) = 18446744073709551616 := by
      rw [← Nat.pow_add, Nat.add_sub_cancel' hn]
    rw [Nat.mul_sub, e]
    have h1 : 256 ^ n ≤ 18446744073709551616 := by
      rw [← e]
      exact Nat.le_mul_of_pos_right _ (Nat.pow_pos (by decide))
    omega
  rw [hk, Nat.add_mul_mod_self_left, Nat.mod_eq_of_lt (by omega)]
theorem codeInt_bf {m n : Int} (hm : (Lit.int .i64 m).wf = true) (hn : (Lit.int .i64 n).wf = true) (h : m < n) : Bf (codeInt m) (codeInt n) := by
  obtain ⟨m0, m1⟩ := isInt_range hm
  obtain ⟨n0, n1⟩ := isInt_range hn
  unfold codeInt
  by_cases hp : 0 ≤ m
  · rw [if_pos hp, if_pos (by omega)]
    have hle := nb_mono (u := m.toNat) (v := n.toNat) (by omega)
    rcases Nat.lt_or_ge (nb m.toNat) (nb n.toNat) with h1 | h1
    · exact Bf.head (by omega)
    · have e : nb m.toNat = nb n.toNat := by omega
      rw [e]
      refine Bf.cons ?_
      have h2 := nb_spec m.toNat
      have h3 := nb_spec n.toNat
      rw [e] at h2
      have em : m = (m.toNat : Int) := by omega
      have en : n = (n.toNat : Int) := by omega
      rw [em, en]
      simp only [Int.toNat_natCast]
      exact be_bf _ _ _ (by rw [Nat.mod_eq_of_lt h2, Nat.mod_eq_of_lt h3]; omega)
  · rw [if_neg hp]
    by_cases hq : 0 ≤ n
    · rw [if_pos hq]
      exact Bf.head (by omega)
    · rw [if_neg hq]
      have hle := nb_mono (u := (-(n + 1)).toNat) (v := (-(m + 1)).toNat) (by omega)
      rcases Nat.lt_or_ge (max (nb (-(n + 1)).toNat) 1) (max (nb (-(m + 1)).toNat) 1) with h1 | h1
      · exact Bf.head (by omega)
      · have e : max (nb (-(m + 1)).toNat) 1 = max (nb (-(n + 1)).toNat) 1 := by omega
        rw [e]
        refine Bf.cons ?_
        have h2 : (-(m + 1)).toNat < 256 ^ (max (nb (-(n + 1)).toNat) 1) := by
          rw [← e]
          exact Nat.lt_of_lt_of_le (nb_spec _) (Nat.pow_le_pow_right (by decide) (by omega))
        have h3 : (-(n + 1)).toNat < 256 ^ (max (nb (-(n + 1)).toNat) 1) := Nat.lt_of_lt_of_le (nb_spec _) (Nat.pow_le_pow_right (by decide) (by omega))
        have h8 : max (nb (-(n + 1)).toNat) 1 ≤ 8 := by
          have := nb_le 8 (-(n + 1)).toNat (by omega)
          omega
        have em : 18446744073709551615 - -(m + 1) = ((18446744073709551615 - (-(m + 1)).toNat : Nat) : Int) := by omega
        have en : 18446744073709551615 - -(n + 1) = ((18446744073709551615 - (-(n + 1)).toNat : Nat) : Int) := by omega
        rw [em, en]
        refine be_bf _ _ _ ?_
        rw [top_mod h8 h2, top_mod h8 h3]
        omega
theorem codeBits_bf {b c : Nat} (hb : b < 18446744073709551616) (hc : c < 18446744073709551616) (h : fkey b < fkey c) : Bf (codeBits b) (codeBits c) := by
  obtain ⟨b0, b1⟩ := fkey_range hb
  obtain ⟨c0, c1⟩ := fkey_range hc
  rw [codeBits_fkey, codeBits_fkey]
  have eb : fkey b = ((fkey b).toNat : Int) := by omega
  have ec : fkey c = ((fkey c).toNat : Int) := by omega
  rw [eb, ec]
  refine be_bf _ _ 8 ?_
  rw [Nat.mod_eq_of_lt (by simp; omega), Nat.mod_eq_of_lt (by simp; omega)]
  omega
theorem codeText_bf : ∀ {l m : List UInt8}, l < m → Bf (codeText l) (codeText m)
  | [], [], h => absurd h (List.not_lt_nil _)
  | [], b :: m, _ => by
    unfold codeText
    split
    · refine Bf.cons fun r s hr => ?_
      cases r with
      | nil => exact List.nil_lt_cons _ _
      | cons x r => exact List.cons_lt_cons_iff.2 (Or.inl (hr x r rfl))
    · rename_i hb
      refine Bf.head ?_
      have : b.toNat ≠ 0 := fun e => hb (UInt8.toNat_inj.1 e)
      omega
  | a :: l, [], h => absurd h (List.not_lt_nil _)
  | a :: l, b :: m, h => by
    rcases List.cons_lt_cons_iff.1 h with h1 | ⟨rfl, h1⟩
    · have h2 : a.toNat < b.toNat := UInt8.lt_iff_toNat_lt.1 h1
      have hb : b ≠ 0 := fun e => by subst e; simp at h2
      unfold codeText
      rw [if_neg hb]
      split
      · rename_i ha; subst ha; exact Bf.head (by simp at h2; omega)
      · exact Bf.head (by omega)
    · have ih := codeText_bf h1
      unfold codeText
      split
      · exact Bf.cons (Bf.cons ih)
      · exact Bf.cons ih
theorem floats_ev (k : Nat) {b c : Nat} (hb : b < 18446744073709551616) (hc : c < 18446744073709551616) : vellumref01_floats.f (k + 2) b c = some (fcmp b c) := by
  have big : ∀ x, x < 18446744073709551616 → isNum x → x ≠ 9223372036854775808 → fkey x < fkey 9221120237041090560 := by
    intro x hx hn hz
    unfold isNum at hn
    unfold fkey
    split <;> (rw [if_pos (by omega)]; omega)
  simp only [vellumref01_floats.f, vellumref01_floats.j0, vellumref01_floats.j1, vellumref01_isNaN.f, Option.bind_some]
  by_cases nb : isNum b <;> by_cases nc : isNum c
  · have h1 := (feq_num hb).2 nb
    have h2 := (feq_num hc).2 nc
    obtain ⟨p1, p2, p3⟩ := plainF_num hb nb
    obtain ⟨q1, q2, q3⟩ := plainF_num hc nc
    have k1 := fkey_lt (plainF_lt hb) (plainF_lt hc) p1 q1 p3 q3
    have k2 := fkey_lt (plainF_lt hc) (plainF_lt hb) q1 p1 q3 p3
    have l1 := flt_iff hb hc
    have l2 := flt_iff hc hb
    rw [p2, q2] at k1
    rw [p2, q2] at k2
    simp only [nb, nc, true_and] at l1 l2
    unfold fcmp
    simp only [h1, h2, k1, k2, l1, l2, Bool.not_true, Bool.false_eq_true, if_false]
    split
    · rfl
    · split <;> rfl
  · have h1 := (feq_num hb).2 nb
    have h2 : feq c c = false := Bool.eq_false_iff.2 fun h => nc ((feq_num hc).1 h)
    obtain ⟨p1, p2, p3⟩ := plainF_num hb nb
    have := big _ (plainF_lt hb) p1 p3
    unfold fcmp
    rw [plainF_nan hc nc, if_pos this]
    simp [h1, h2]
  · have h1 : feq b b = false := Bool.eq_false_iff.2 fun h => nb ((feq_num hb).1 h)
    have h2 := (feq_num hc).2 nc
    obtain ⟨p1, p2, p3⟩ := plainF_num hc nc
    have := big _ (plainF_lt hc) p1 p3
    unfold fcmp
    rw [plainF_nan hb nb, if_neg (show ¬ fkey 9221120237041090560 < fkey (plainF c) by omega), if_pos this]
    simp [h1, h2]
  · have h1 : feq b b = false := Bool.eq_false_iff.2 fun h => nb ((feq_num hb).1 h)
    have h2 : feq c c = false := Bool.eq_false_iff.2 fun h => nc ((feq_num hc).1 h)
    unfold fcmp
    rw [plainF_nan hb nb, plainF_nan hc nc, if_neg (Int.lt_irrefl _), if_neg (Int.lt_irrefl _)]
    simp [h1, h2]
theorem fcmp_code {b c : Nat} (hb : b < 18446744073709551616) (hc : c < 18446744073709551616) :
    (fcmp b c = -1 ∧ Bf (codeBits (plainF b)) (codeBits (plainF c))) ∨ (fcmp b c = 1 ∧ Bf (codeBits (plainF c)) (codeBits (plainF b))) ∨ (fcmp b c = 0 ∧ codeBits (plainF b) = codeBits (plainF c)) := by
  unfold fcmp
  rcases Int.lt_trichotomy (fkey (plainF b)) (fkey (plainF c)) with h | h | h
  · rw [if_pos h]; exact Or.inl ⟨rfl, codeBits_bf (plainF_lt hb) (plainF_lt hc) h⟩
  · rw [if_neg (by omega), if_neg (by omega)]; exact Or.inr (Or.inr ⟨rfl, by rw [codeBits_fkey, codeBits_fkey, h]⟩)
  · rw [if_neg (by omega), if_pos h]; exact Or.inr (Or.inl ⟨rfl, codeBits_bf (plainF_lt hc) (plainF_lt hb) h⟩)
def icmp (m n : Int) : Int := if m < n then -1 else if n < m then 1 else 0
def tcmp (u v : ByteArray) : Int := if u.data.toList < v.data.toList then -1 else if v.data.toList < u.data.toList then 1 else 0
theorem ints_f (m n : Int) : vellumref01_ints.f m n = some (icmp m n) := by
  unfold vellumref01_ints.f icmp
  split
  · rfl
  · by_cases h : m > n
    · rw [if_pos h, if_pos h]
    · rw [if_neg h, if_neg h]
theorem strings_f (u v : ByteArray) : vellumref01_Strings.f u v = some (tcmp u v) := by
  unfold vellumref01_Strings.f tcmp
  simp only [bytesLess_eq, Lib.toList_data, decide_eq_true_eq]
  split
  · rfl
  · split <;> rfl
/-- How the reference compares two values. -/
def cmpV (x y : S50) : Int :=
  if x.f0 = y.f0 then (if x.f0 = 1 ∨ x.f0 = 2 then icmp x.f1 y.f1 else if x.f0 = 3 then fcmp x.f2 y.f2 else if x.f0 = 4 ∨ x.f0 = 5 then tcmp x.f3 y.f3 else 0) else icmp x.f0 y.f0
theorem compare_f (k : Nat) (x y : S50) (hx : x.f2 < 18446744073709551616) (hy : y.f2 < 18446744073709551616) :
    vellumref01_Compare.f (k + 3) x.f0 x.f1 x.f2 x.f3 y.f0 y.f1 y.f2 y.f3 = some (cmpV x y) := by
  simp only [vellumref01_Compare.f, vellumref01_Compare.j0, ints_f, strings_f, floats_ev k hx hy, Option.bind_some, cmpV]
  by_cases h : x.f0 = y.f0
  · rw [if_pos h, if_pos h]
    by_cases h1 : x.f0 = 1
    · simp [h1]
    · by_cases h2 : x.f0 = 2
      · simp [h2]
      · by_cases h3 : x.f0 = 3
        · simp [h3]
        · by_cases h4 : x.f0 = 4
          · simp [h4]
          · by_cases h5 : x.f0 = 5
            · simp [h5]
            · simp [h1, h2, h3, h4, h5]
  · rw [if_neg h, if_neg h]
/-- Three answers of a comparing, and what each says of the codes. -/
def Says (t : Int) (u v : List Int) : Prop := (t = -1 ∧ Bf u v) ∨ (t = 1 ∧ Bf v u) ∨ (t = 0 ∧ u = v)
theorem Says.cons {t a : Int} {u v : List Int} (h : Says t u v) : Says t (a :: u) (a :: v) := by
  rcases h with ⟨h1, h2⟩ | ⟨h1, h2⟩ | ⟨h1, h2⟩
  · exact Or.inl ⟨h1, h2.cons⟩
  · exact Or.inr (Or.inl ⟨h1, h2.cons⟩)
  · exact Or.inr (Or.inr ⟨h1, by rw [h2]⟩)
theorem icmp_says {m n : Int} {f : Int → List Int} (h1 : m < n → Bf (f m) (f n)) (h2 : n < m → Bf (f n) (f m)) : Says (icmp m n) (f m) (f n) := by
  unfold icmp
  rcases Int.lt_trichotomy m n with h | h | h
  · rw [if_pos h]; exact Or.inl ⟨rfl, h1 h⟩
  · rw [if_neg (by omega), if_neg (by omega)]; exact Or.inr (Or.inr ⟨rfl, by rw [h]⟩)
  · rw [if_neg (by omega), if_pos h]; exact Or.inr (Or.inl ⟨rfl, h2 h⟩)
theorem tcmp_says (u v : ByteArray) : Says (tcmp u v) (codeText u.data.toList) (codeText v.data.toList) := by
  unfold tcmp
  by_cases h : u.data.toList < v.data.toList
  · rw [if_pos h]; exact Or.inl ⟨rfl, codeText_bf h⟩
  · rw [if_neg h]
    by_cases h2 : v.data.toList < u.data.toList
    · rw [if_pos h2]; exact Or.inr (Or.inl ⟨rfl, codeText_bf h2⟩)
    · rw [if_neg h2]
      refine Or.inr (Or.inr ⟨rfl, ?_⟩)
      have := List.le_antisymm (List.not_lt.1 h2) (List.not_lt.1 h)
      rw [this]
theorem cmpV_says {x y : S50} (hx : chkV x = 0) (hy : chkV y = 0) (wx : wf50 x) (wy : wf50 y) : Says (cmpV x y) (codeOf x) (codeOf y) := by
  obtain ⟨x0, x1, x2, x3⟩ := wx
  obtain ⟨y0, y1, y2, y3⟩ := wy
  have kx := (chk_ok hx).1
  have ky := (chk_ok hy).1
  unfold cmpV
  by_cases h : x.f0 = y.f0
  · rw [if_pos h]
    unfold codeOf codeV
    rw [← h]
    by_cases h1 : x.f0 = 1
    · rw [if_pos h1, if_pos h1, if_pos (Or.inl h1)]
      have bx : x.f1 = 0 ∨ x.f1 = 1 := by
        have := hx
        unfold chkV chk at this
        split at this
        · cases this
        · rename_i hn
          rcases Int.lt_trichotomy x.f1 0 with q | q | q <;> (by_cases q1 : x.f1 = 1 <;> first | exact Or.inl q | exact Or.inr q1 | (exfalso; exact hn (Or.inr (Or.inr (Or.inl ⟨h1, by omega, q1⟩)))))
      have by_ : y.f1 = 0 ∨ y.f1 = 1 := by
        have := hy
        unfold chkV chk at this
        split at this
        · cases this
        · rename_i hn
          rcases Int.lt_trichotomy y.f1 0 with q | q | q <;> (by_cases q1 : y.f1 = 1 <;> first | exact Or.inl q | exact Or.inr q1 | (exfalso; exact hn (Or.inr (Or.inr (Or.inl ⟨by omega, by omega, q1⟩)))))
      refine Says.cons (icmp_says (f := fun n => [n % 256]) (fun h => Bf.head ?_) (fun h => Bf.head ?_)) <;> omega
    rw [if_neg h1, if_neg h1]
    by_cases h2 : x.f0 = 2
    · rw [if_pos h2, if_pos h2, if_pos (Or.inr h2)]
      exact Says.cons (icmp_says (codeInt_bf x1 y1) (codeInt_bf y1 x1))
    rw [if_neg h2, if_neg h2, if_neg (by rintro (q | q); exact h1 q; exact h2 q)]
    by_cases h3 : x.f0 = 3
    · rw [if_pos h3, if_pos h3, if_pos h3]
      exact Says.cons (fcmp_code x2 y2)
    rw [if_neg h3, if_neg h3, if_neg h3]
    by_cases h4 : x.f0 = 4
    · rw [if_pos h4, if_pos h4, if_pos (Or.inl h4)]
      exact Says.cons (tcmp_says _ _)
    rw [if_neg h4, if_neg h4]
    by_cases h5 : x.f0 = 5
    · rw [if_pos h5, if_pos h5, if_pos (Or.inr h5)]
      exact Says.cons (tcmp_says _ _)
    rw [if_neg h5, if_neg h5, if_neg (by rintro (q | q); exact h4 q; exact h5 q)]
    exact Or.inr (Or.inr ⟨rfl, rfl⟩)
  · rw [if_neg h]
    have hd : ∀ z : S50, 0 ≤ z.f0 ∧ z.f0 ≤ 5 → ∃ l, codeOf z = (z.f0 + 1) :: l := by
      intro z hz
      unfold codeOf codeV
      by_cases h1 : z.f0 = 1
      · rw [if_pos h1, h1]; exact ⟨_, rfl⟩
      by_cases h2 : z.f0 = 2
      · rw [if_neg h1, if_pos h2, h2]; exact ⟨_, rfl⟩
      by_cases h3 : z.f0 = 3
      · rw [if_neg h1, if_neg h2, if_pos h3, h3]; exact ⟨_, rfl⟩
      by_cases h4 : z.f0 = 4
      · rw [if_neg h1, if_neg h2, if_neg h3, if_pos h4, h4]; exact ⟨_, rfl⟩
      by_cases h5 : z.f0 = 5
      · rw [if_neg h1, if_neg h2, if_neg h3, if_neg h4, if_pos h5, h5]; exact ⟨_, rfl⟩
      have h0 : z.f0 = 0 := by omega
      rw [if_neg h1, if_neg h2, if_neg h3, if_neg h4, if_neg h5, h0]; exact ⟨_, rfl⟩
    obtain ⟨lx, ex⟩ := hd x kx
    obtain ⟨ly, ey⟩ := hd y ky
    rw [ex, ey]
    unfold icmp
    rcases Int.lt_trichotomy x.f0 y.f0 with q | q | q
    · rw [if_pos q]; exact Or.inl ⟨rfl, Bf.head (by omega)⟩
    · exact absurd q h
    · rw [if_neg (by omega), if_pos q]; exact Or.inr (Or.inl ⟨rfl, Bf.head (by omega)⟩)
end Go.Proofs.YtpiifdbicibelaaDoor.Pure
end
section
namespace Go.Proofs.YtpiifdbicibelaaDoor.Pure
open Go.RowKit Go.Proofs Go.Proofs.YtpiifdbicibelaaDoorW.PrintWords Go.Proofs.YtpiifdbicibelaaDoorW.PrintLast Go.Proofs.YtpiifdbicibelaaDoorW.PrintMore Go.Proofs.YtpiifdbicibelaaDoor.PA Go.Proofs.YtpiifdbicibelaaDoor.OpenK
set_option linter.unusedVariables false
/-- The codes of a list's values, one behind the other. -/
def flat (xs : List S50) : List Int := xs.flatMap codeOf
theorem build_flat : ∀ (xs : List S50) (acc l : List Int), build acc xs = some l → l = acc ++ flat xs ∧ (acc.length ≤ 1024 → l.length ≤ 1024)
  | [], acc, l, h => by
    simp only [build, Option.some.injEq] at h
    subst h
    simp [flat]
  | x :: xs, acc, l, h => by
    simp only [build] at h
    split at h
    · cases h
    · rename_i hl
      obtain ⟨h1, h2⟩ := build_flat xs _ _ h
      refine ⟨by rw [h1]; simp [flat], fun _ => h2 (by omega)⟩
theorem encode_ok {xs : List S50} (h : (encode xs).2 = 0) : (∀ x ∈ xs, chkV x = 0) ∧ encode xs = (strOfNums (flat xs), 0) ∧ (flat xs).length ≤ 1024 := by
  unfold encode at h ⊢
  split at h
  · rename_i ha
    have hc : ∀ x ∈ xs, chkV x = 0 := fun x hx => by simpa using List.all_eq_true.1 ha x hx
    cases hb : build [] xs with
    | none => rw [hb] at h; cases h
    | some l =>
      obtain ⟨h1, h2⟩ := build_flat xs [] l hb
      simp only [List.nil_append] at h1
      subst h1
      rw [if_pos ha]
      exact ⟨hc, rfl, h2 (by simp)⟩
  · cases h
def Bytes (l : List Int) : Prop := ∀ x ∈ l, 0 ≤ x ∧ x ≤ 255
theorem be_bytes (u : Int) : ∀ n, Bytes (be u n)
  | 0 => by intro x hx; simp [be] at hx
  | n + 1 => by
    intro x hx
    simp only [be, List.mem_cons] at hx
    rcases hx with rfl | hx
    · omega
    · exact be_bytes u n x hx
theorem codeText_bytes : ∀ l : List UInt8, Bytes (codeText l)
  | [] => by intro x hx; simp [codeText] at hx; omega
  | b :: l => by
    have ih := codeText_bytes l
    have hb := b.toNat_lt
    intro x hx
    unfold codeText at hx
    split at hx
    · simp only [List.mem_cons] at hx
      rcases hx with rfl | rfl | hx
      · omega
      · omega
      · exact ih x hx
    · simp only [List.mem_cons] at hx
      rcases hx with rfl | hx
      · omega
      · exact ih x hx
theorem Bytes.cons {a : Int} {l : List Int} (h : 0 ≤ a ∧ a ≤ 255) (hl : Bytes l) : Bytes (a :: l) := by
  intro x hx
  rcases List.mem_cons.1 hx with rfl | hx
  · exact h
  · exact hl x hx
theorem codeInt_bytes {n : Int} (hn : (Lit.int .i64 n).wf = true) : Bytes (codeInt n) := by
  obtain ⟨h0, h1⟩ := isInt_range hn
  have h2 := nb_le 8 n.toNat (by omega)
  have h3 := nb_le 8 (-(n + 1)).toNat (by omega)
  unfold codeInt
  split
  · exact Bytes.cons (by omega) (be_bytes _ _)
  · exact Bytes.cons (by omega) (be_bytes _ _)
theorem codeOf_bytes {x : S50} (w : wf50 x) : Bytes (codeOf x) := by
  obtain ⟨x0, x1, x2, x3⟩ := w
  unfold codeOf codeV
  split
  · exact Bytes.cons (by omega) (Bytes.cons (by omega) (fun _ h => by cases h))
  · split
    · exact Bytes.cons (by omega) (codeInt_bytes x1)
    · split
      · exact Bytes.cons (by omega) (by rw [codeBits_fkey]; exact be_bytes _ _)
      · split
        · exact Bytes.cons (by omega) (codeText_bytes _)
        · split
          · exact Bytes.cons (by omega) (codeText_bytes _)
          · exact Bytes.cons (by omega) (fun _ h => by cases h)
theorem flat_bytes {xs : List S50} (w : ∀ x ∈ xs, wf50 x) : Bytes (flat xs) := by
  intro b hb
  obtain ⟨x, hx, hm⟩ := List.mem_flatMap.1 hb
  exact codeOf_bytes (w x hx) b hm
def toB (l : List Int) : List UInt8 := l.map fun n => UInt8.ofNat n.toNat
theorem strOfNums_data (l : List Int) : (strOfNums l).data.toList = toB l := by simp [strOfNums, toB]
theorem ofNat_toNat {a : Int} (h : 0 ≤ a ∧ a ≤ 255) : (UInt8.ofNat a.toNat).toNat = a.toNat := by
  rw [UInt8.toNat_ofNat']; omega
theorem toB_lt : ∀ {u v : List Int}, Bytes u → Bytes v → (toB u < toB v ↔ u < v)
  | [], [], _, _ => by simp [toB]
  | [], b :: v, _, _ => by simp [toB]
  | a :: u, [], _, _ => by simp [toB]
  | a :: u, b :: v, hu, hv => by
    have ha := hu a (by simp)
    have hb := hv b (by simp)
    have ih := @toB_lt u v (fun x h => hu x (by simp [h])) (fun x h => hv x (by simp [h]))
    have e1 := ofNat_toNat ha
    have e2 := ofNat_toNat hb
    show (UInt8.ofNat a.toNat :: toB u) < (UInt8.ofNat b.toNat :: toB v) ↔ _
    rw [List.cons_lt_cons_iff, List.cons_lt_cons_iff, UInt8.lt_iff_toNat_lt, e1, e2, ih, ← UInt8.toNat_inj, e1, e2]
    have h1 : a.toNat < b.toNat ↔ a < b := by omega
    have h2 : a.toNat = b.toNat ↔ a = b := by omega
    rw [h1, h2]
theorem codeOf_head (x : S50) : ∃ a l, codeOf x = a :: l ∧ a < 255 := by
  unfold codeOf codeV
  split
  · exact ⟨_, _, rfl, by omega⟩
  · split
    · exact ⟨_, _, rfl, by omega⟩
    · split
      · exact ⟨_, _, rfl, by omega⟩
      · split
        · exact ⟨_, _, rfl, by omega⟩
        · split
          · exact ⟨_, _, rfl, by omega⟩
          · exact ⟨_, _, rfl, by omega⟩
theorem flat_tail : ∀ xs : List S50, Tail (flat xs)
  | [], x, l, h => by simp [flat] at h
  | y :: ys, x, l, h => by
    obtain ⟨a, t, e, ha⟩ := codeOf_head y
    simp only [flat, List.flatMap_cons, e, List.cons_append, List.cons.injEq] at h
    omega
/-- How the reference compares two lists of values. -/
def cmpL : List S50 → List S50 → Int
  | [], [] => 0
  | [], _ :: _ => -1
  | _ :: _, [] => 1
  | x :: xs, y :: ys => if cmpV x y = 0 then cmpL xs ys else cmpV x y
theorem flat_cons (x : S50) (xs : List S50) : flat (x :: xs) = codeOf x ++ flat xs := by simp [flat]
theorem app_lt (a : List Int) {u v : List Int} (h : u < v) : a ++ u < a ++ v := by
  induction a with
  | nil => simpa using h
  | cons b a ih => exact List.cons_lt_cons_iff.2 (Or.inr ⟨rfl, ih⟩)
/-- The answer of the lists' comparing tells which of the codes is less. -/
theorem cmpL_lt : ∀ {xs ys : List S50}, (∀ x ∈ xs, chkV x = 0 ∧ wf50 x) → (∀ y ∈ ys, chkV y = 0 ∧ wf50 y) →
    (cmpL xs ys = -1 ∧ flat xs < flat ys) ∨ (cmpL xs ys = 1 ∧ flat ys < flat xs) ∨ (cmpL xs ys = 0 ∧ flat xs = flat ys)
  | [], [], _, _ => Or.inr (Or.inr ⟨rfl, rfl⟩)
  | [], y :: ys, _, _ => by
    obtain ⟨a, t, e, _⟩ := codeOf_head y
    refine Or.inl ⟨rfl, ?_⟩
    rw [flat_cons, e]
    exact List.nil_lt_cons _ _
  | x :: xs, [], _, _ => by
    obtain ⟨a, t, e, _⟩ := codeOf_head x
    refine Or.inr (Or.inl ⟨rfl, ?_⟩)
    rw [flat_cons, e]
    exact List.nil_lt_cons _ _
  | x :: xs, y :: ys, hx, hy => by
    have h := cmpV_says (hx x (by simp)).1 (hy y (by simp)).1 (hx x (by simp)).2 (hy y (by simp)).2
    simp only [cmpL, flat_cons]
    rcases h with ⟨h1, h2⟩ | ⟨h1, h2⟩ | ⟨h1, h2⟩
    · rw [h1, if_neg (by decide)]
      exact Or.inl ⟨rfl, h2 _ _ (flat_tail xs)⟩
    · rw [h1, if_neg (by decide)]
      exact Or.inr (Or.inl ⟨rfl, h2 _ _ (flat_tail ys)⟩)
    · rw [h1, if_pos rfl, h2]
      rcases cmpL_lt (xs := xs) (ys := ys) (fun z hz => hx z (by simp [hz])) (fun z hz => hy z (by simp [hz])) with ⟨g1, g2⟩ | ⟨g1, g2⟩ | ⟨g1, g2⟩
      · exact Or.inl ⟨g1, app_lt _ g2⟩
      · exact Or.inr (Or.inl ⟨g1, app_lt _ g2⟩)
      · exact Or.inr (Or.inr ⟨g1, by rw [g2]⟩)
theorem cmp_ev (xs ys : List S50) (hx : ∀ x ∈ xs, wf50 x) (hy : ∀ y ∈ ys, wf50 y) (lx : xs.length < 9223372036854775807) (ly : ys.length < 9223372036854775807) : Ev (fun k => vellumref02_Cmp.f k xs ys) (cmpL xs ys) := by
  have go : ∀ (m i : Nat), i + m = xs.length → i ≤ ys.length → Ev (fun k => vellumref02_Cmp.l0 k xs ys (i : Int)) (cmpL (xs.drop i) (ys.drop i)) := by
    intro m
    induction m with
    | zero =>
      intro i hi hl
      rw [List.drop_of_length_le (i := i) (l := xs) (by omega)]
      refine Ev.from_ 2 fun k => ?_
      simp only [vellumref02_Cmp.l0, vellumref02_Cmp.j1]
      rw [if_neg (by omega), if_neg (by decide)]
      by_cases h : i < ys.length
      · rw [if_pos (by omega), List.drop_eq_getElem_cons h]
        rfl
      · rw [if_neg (by omega), if_neg (by omega), List.drop_of_length_le (by omega)]
        rfl
    | succ m ih =>
      intro i hi hl
      have hlt : i < xs.length := by omega
      obtain ⟨x, hx'⟩ : ∃ x, xs[i]? = some x := ⟨_, List.getElem?_eq_getElem hlt⟩
      have ex : xs.drop i = x :: xs.drop (i + 1) := by
        rw [List.drop_eq_getElem_cons hlt]; congr 1
        exact Option.some.inj ((List.getElem?_eq_getElem hlt).symm.trans hx')
      rw [ex]
      by_cases h : i < ys.length
      · obtain ⟨y, hy'⟩ : ∃ y, ys[i]? = some y := ⟨_, List.getElem?_eq_getElem h⟩
        have ey : ys.drop i = y :: ys.drop (i + 1) := by
          rw [List.drop_eq_getElem_cons h]; congr 1
          exact Option.some.inj ((List.getElem?_eq_getElem h).symm.trans hy')
        rw [ey]
        refine Ev.step (g := fun k => vellumref02_Cmp.j1 k xs ys (i : Int) true) (fun k => ?_) ?_
        · simp only [vellumref02_Cmp.l0]
          rw [if_pos (by omega)]
          congr 1
          simp; omega
        refine Ev.step (g := fun k => (vellumref01_Compare.f k x.f0 x.f1 x.f2 x.f3 y.f0 y.f1 y.f2 y.f3).bind fun t => (if t = 0 then vellumref02_Cmp.l0 k xs ys ((i + 1 : Nat) : Int) else some t)) (fun k => ?_) ?_
        · simp only [vellumref02_Cmp.j1]
          rw [if_pos trivial, if_pos (by omega), if_pos (by omega), if_pos (by omega), rd_get _ _ _ hx', rd_get _ _ _ hy', wrap64_id (by omega) (by omega)]
          rfl
        refine Ev.bind (Ev.from_ 3 fun k => compare_f k x y (hx x (List.mem_of_getElem? hx')).2.2.1 (hy y (List.mem_of_getElem? hy')).2.2.1) ?_
        simp only [cmpL]
        by_cases h0 : cmpV x y = 0
        · rw [if_pos h0]
          exact Ev.pos h0 (ih (i + 1) (by omega) (by omega))
        · rw [if_neg h0]
          exact Ev.neg h0 Ev.pure
      · rw [List.drop_of_length_le (i := i) (l := ys) (by omega)]
        refine Ev.from_ 2 fun k => ?_
        simp only [vellumref02_Cmp.l0, vellumref02_Cmp.j1]
        rw [if_pos (by omega), if_neg (by simp; omega), if_neg (by omega), if_pos (by omega)]
        rfl
  have := go xs.length 0 (by omega) (by omega)
  simpa [vellumref02_Cmp.f] using this
end Go.Proofs.YtpiifdbicibelaaDoor.Pure
end
section
namespace Go.Proofs.YtpiifdbicibelaaDoor.Pure
open Go.RowKit Go.Proofs Go.Proofs.YtpiifdbicibelaaDoorW.PrintWords Go.Proofs.YtpiifdbicibelaaDoor.PA Go.Proofs.YtpiifdbicibelaaDoor.OpenK
set_option linter.unusedVariables false
theorem nb_1 : nb 1 = 1 := by unfold nb; simp; unfold nb; simp
theorem encode_one : encode [(⟨2, 1, 0, (⟨#[]⟩ : ByteArray)⟩ : S50)] = (⟨#[3, 129, 1]⟩, 0) := by
  have e : (⟨#[]⟩ : ByteArray).toList = [] := by decide +kernel
  have e2 : (⟨#[]⟩ : ByteArray).size = 0 := rfl
  simp [encode, e2, chkV, chk, build, codeOf, codeV, codeInt, nb_1, be, e, strOfNums]
theorem awake_ev : Ev (fun k => vellumlaw02_awake.f k) true := by
  simp only [vellumlaw02_awake.f]
  refine Ev.bind (encode_code _ ?_ (by simp)) ?_
  · intro x hx
    simp at hx
    subst hx
    exact ⟨by decide, by decide, by decide, by decide⟩
  · rw [encode_one]
    exact Ev.const (by decide +kernel)
end Go.Proofs.YtpiifdbicibelaaDoor.Pure
end
section
namespace Go.Proofs.YtpiifdbicibelaaDoor.PA
open Go.RowKit Go.Proofs.YtpiifdbicibelaaDoorW.PrintWords Go.Proofs.YtpiifdbicibelaaDoorW.PrintLast Go.Proofs.YtpiifdbicibelaaDoorW.PrintMore
attribute [local go_sem] max2_int min2_int max_two min_two max_three min_three max_four min_four   -- for this text's walks alone
set_option linter.unusedVariables false
set_option linter.unusedSimpArgs false
def vellumlaw02_CodeOrders.j0 : Nat → List (S50) → List (S50) → ByteArray → ByteArray → Bool → Option (Bool)
  | 0, _, _, _, _, _ => none
  | k + 1, x0, x1, x5, x7, x24 => if x24 = true then ((vellumlaw02_awake.f k).bind fun t302 => (some t302)) else ((vellumlaw02_sign.f x5 x7).bind fun t303 => ((vellumref02_Cmp.f k x0 x1).bind fun t304 => (if t303 = t304 then ((vellumlaw02_awake.f k).bind fun t305 => (some t305)) else (some false))))
def vellumlaw02_CodeOrders.f (k : Nat) (l0 : List (S50)) (l1 : List (S50)) : Option (Bool) := (code_Encode.f k l0).bind fun bt298 => ((code_Encode.f k l1).bind fun bt300 => (if bt298.2 = 0 then (vellumlaw02_CodeOrders.j0 k l0 l1 bt298.1 bt300.1 (bt300.2 != 0)) else (vellumlaw02_CodeOrders.j0 k l0 l1 bt298.1 bt300.1 true)))
set_option maxHeartbeats 8000000 in
set_option maxRecDepth 100000 in
theorem vellumlaw02_CodeOrders.calls (k : Nat) (A0 : Option Addr) (c0 : Nat) (l0 : List (S50)) (A1 : Option Addr) (c1 : Nat) (l1 : List (S50)) (r : Bool) (w : World) (hr0 : Kd.C k50 w A0 l0.length l0) (hc0 : l0.length ≤ c0) (hr1 : Kd.C k50 w A1 l1.length l1) (hc1 : l1.length ≤ c1) (hG : Glob w) (h : vellumlaw02_CodeOrders.f k l0 l1 = some r) :
    Calls Tryd.prog 4 #[.slice A0 l0.length c0, .slice A1 l1.length c1] w fun e w' => e = .returned (.bool r) ∧ Below w.heap.size w w' := by
  have HR0 := Aside0.mk hr0
  have HC0 := Aside0.mk hc0
  clear hr0 hc0
  have HR1 := Aside0.mk hr1
  have HC1 := Aside0.mk hc1
  clear hr1 hc1
  have HG := Aside0.mk hG
  clear hG
  have HB := Aside0.mk (Below.refl w.heap.size w)
  have H : ((code_Encode.f k l0).bind fun bt298 => ((code_Encode.f k l1).bind fun bt300 => (if bt298.2 = 0 then (vellumlaw02_CodeOrders.j0 k l0 l1 bt298.1 bt300.1 (bt300.2 != 0)) else (vellumlaw02_CodeOrders.j0 k l0 l1 bt298.1 bt300.1 true)))) = some r := h
  clear h
  replace H := Option.bind_eq_some_iff.mp H
  obtain ⟨⟨t298, t299⟩, A30, H⟩ := H
  replace H : ((code_Encode.f k l1).bind fun bt300 => (if t299 = 0 then (vellumlaw02_CodeOrders.j0 k l0 l1 t298 bt300.1 (bt300.2 != 0)) else (vellumlaw02_CodeOrders.j0 k l0 l1 t298 bt300.1 true))) = some r := H
  have A3 := Aside0.mk A30
  clear A30
  replace H := Option.bind_eq_some_iff.mp H
  obtain ⟨⟨t300, t301⟩, A40, H⟩ := H
  replace H : (if t299 = 0 then (vellumlaw02_CodeOrders.j0 k l0 l1 t298 t300 (t301 != 0)) else (vellumlaw02_CodeOrders.j0 k l0 l1 t298 t300 true)) = some r := H
  have A4 := Aside0.mk A40
  clear A40
  have HC5 := Aside0.mk H
  clear H
  go_enter Tryd.func4, Tryd.ntmps4
  go_upto_region 3 with (first | ((with_reducible refine gate_callee (f := 21) rfl ?_); refine goesL_ (some 11) rfl rfl Tryd.func21 (by kernel_rfl) rfl #[.slice A0 l0.length c0] rfl (by (try simp only [List.map_toArray, List.map_cons, List.map_nil]); first | done | rfl | (simp only [List.length_drop, List.length_take]; rfl)) ?_; (with_reducible refine (code_Encode.calls k _ _ l0 t298 t299 _ ?side1 ?side2 ?side3 A3.out).mono ?_); (case side1 => repeat (first | exact HR0.out | (with_reducible refine Kd.C_alloc ?_ _) | (with_reducible refine Kd.C_drewN ?_ _) | (with_reducible refine Kd.C_drew ?_))); (case side2 => exact HC0.out); (case side3 => exact Glob.below HG.out (by repeat (first | (with_reducible first | exact HB.out | apply below_alloc | apply pw_below_drewN | apply below_drew1) | exact HB.out))); rintro e w6 ⟨rfl, hb⟩; refine ⟨_, rfl, ?_⟩; have n0_ := Aside0.mk (below_step (by repeat (first | (with_reducible first | exact HB.out | apply below_alloc | apply pw_below_drewN | apply below_drew1) | exact HB.out)) hb); clear HB; have HB := n0_; clear n0_; (try clear hb); (try clear hb2); (try clear hk); (try clear hi)) | ((with_reducible refine gate_callee (f := 21) rfl ?_); refine goesL_ (some 16) rfl rfl Tryd.func21 (by kernel_rfl) rfl #[.slice A1 l1.length c1] rfl (by (try simp only [List.map_toArray, List.map_cons, List.map_nil]); first | done | rfl | (simp only [List.length_drop, List.length_take]; rfl)) ?_; (with_reducible refine (code_Encode.calls k _ _ l1 t300 t301 _ ?side1 ?side2 ?side3 A4.out).mono ?_); (case side1 => repeat (first | exact (Kd.C_below HR1.out HB.out) | (with_reducible refine Kd.C_alloc ?_ _) | (with_reducible refine Kd.C_drewN ?_ _) | (with_reducible refine Kd.C_drew ?_))); (case side2 => exact HC1.out); (case side3 => exact Glob.below HG.out (by repeat (first | (with_reducible first | exact HB.out | apply below_alloc | apply pw_below_drewN | apply below_drew1) | exact HB.out))); rintro e w7 ⟨rfl, hb⟩; refine ⟨_, rfl, ?_⟩; have n0_ := Aside0.mk (below_step (by repeat (first | (with_reducible first | exact HB.out | apply below_alloc | apply pw_below_drewN | apply below_drew1) | exact HB.out)) hb); clear HB; have HB := n0_; clear n0_; (try clear hb); (try clear hb2); (try clear hk); (try clear hi)))
  (try simp only [Act.put, List.setIfInBounds_toArray, List.set_cons_zero, List.set_cons_succ])
  go_cut [24] (fun v24 wc => ∃ (kq : Nat) (x24_4 : Bool), v24 = .bool x24_4 ∧ Aside0 (vellumlaw02_CodeOrders.j0 kq l0 l1 t298 t300 x24_4 = some r) ∧ Aside0 (kq ≤ k) ∧ Aside0 (Below w.heap.size w wc))
  case first =>
    have H := HC5.out
    clear HC5
    by_cases c8 : t299 = 0
    · rw [if_pos c8] at H
      have c8b0 : (t299 == 0) = true := beq_iff_eq.mpr c8
      have c8b1 : (t299 != 0) = false := bne_eq_false_iff_eq.mpr c8
      clear c8
      (first | rw [c8b0] | (simp only [i64_w, i32_w]; rw [c8b0]) | skip)
      have H' := Aside0.mk H
      clear H
      go_wp2
      go_meet
      case rel => exact ⟨_, ((t301 != 0)), (by first | rfl | (simp; done) | (simp [*]; done) | (simp [bool_ne_nil]; done) | (simp; exact bool_ne_nil _)), H', ⟨by first | omega | exact Nat.le_refl _⟩, ⟨by repeat (first | (with_reducible first | exact HB.out | apply below_alloc | apply pw_below_drewN | apply below_drew1) | exact HB.out)⟩⟩
    · rw [if_neg c8] at H
      have c8b0 : (t299 == 0) = false := beq_eq_false_iff_ne.mpr c8
      have c8b1 : (t299 != 0) = true := bne_iff_ne.mpr c8
      (first | rw [c8b0] | (simp only [i64_w, i32_w]; rw [c8b0]) | skip)
      have H' := Aside0.mk H
      clear H
      go_wp2
      go_meet
      case rel => exact ⟨_, (true), (by first | rfl | (simp; done) | (simp [*]; done) | (simp [bool_ne_nil]; done) | (simp; exact bool_ne_nil _)), H', ⟨by first | omega | exact Nat.le_refl _⟩, ⟨by repeat (first | (with_reducible first | exact HB.out | apply below_alloc | apply pw_below_drewN | apply below_drew1) | exact HB.out)⟩⟩
  case rest =>
    clear HC5
    try clear c1
    try clear c2
    try clear p2
    try clear c4
    try clear c8
    try clear c8b0
    try clear c8b1
    obtain ⟨kq, x24_4, rfl, HA, HJ4, HB⟩ := hcut
    cases kq with
    | zero => exact absurd HA.out (by simp [vellumlaw02_CodeOrders.j0])
    | succ kj4 =>
      have H := HA.out
      clear HA
      simp only [vellumlaw02_CodeOrders.j0] at H
      by_cases c9 : x24_4 = true
      · subst c9
        have H1 : ((vellumlaw02_awake.f kj4).bind fun t302 => (some t302)) = some r := by rw [if_pos rfl] at H; exact H
        clear H
        have H := H1
        clear H1
        replace H := Option.bind_eq_some_iff.mp H
        obtain ⟨t302, A100, H⟩ := H
        replace H : (some t302) = some r := H
        have A10 := Aside0.mk A100
        clear A100
        obtain rfl := Option.some.inj H
        go_wp2_with (first | ((with_reducible refine gate_callee (f := 23) rfl ?_); refine goesL_ (some 25) rfl rfl Tryd.func23 (by kernel_rfl) rfl #[] rfl (by (try simp only [List.map_toArray, List.map_cons, List.map_nil]); first | done | rfl | (simp only [List.length_drop, List.length_take]; rfl)) ?_; (with_reducible refine (vellumlaw02_awake.calls kj4  t302 _ ?side1 A10.out).mono ?_); (case side1 => exact Glob.below HG.out (by repeat (first | (with_reducible first | exact HB.out | apply below_alloc | apply pw_below_drewN | apply below_drew1) | exact HB.out))); rintro e w11 ⟨rfl, hb⟩; refine ⟨_, rfl, ?_⟩; have n0_ := Aside0.mk (below_step (by repeat (first | (with_reducible first | exact HB.out | apply below_alloc | apply pw_below_drewN | apply below_drew1) | exact HB.out)) hb); clear HB; have HB := n0_; clear n0_; (try clear hb); (try clear hb2); (try clear hk); (try clear hi)))
        go_ret
        exact ⟨by first | rfl | (simp [errW_none, errW_some] <;> rfl) | (simp [*, errW_none, errW_some] <;> rfl), by repeat (first | (with_reducible first | exact HB.out | apply below_alloc | apply pw_below_drewN | apply below_drew1) | exact HB.out)⟩
      · replace c9 := Bool.eq_false_iff.mpr c9
        subst c9
        have H1 : ((vellumlaw02_sign.f t298 t300).bind fun t303 => ((vellumref02_Cmp.f kj4 l0 l1).bind fun t304 => (if t303 = t304 then ((vellumlaw02_awake.f kj4).bind fun t305 => (some t305)) else (some false)))) = some r := by rw [if_neg (show ¬ (false = true) by decide)] at H; exact H
        clear H
        have H := H1
        clear H1
        replace H := Option.bind_eq_some_iff.mp H
        obtain ⟨t303, A120, H⟩ := H
        replace H : ((vellumref02_Cmp.f kj4 l0 l1).bind fun t304 => (if t303 = t304 then ((vellumlaw02_awake.f kj4).bind fun t305 => (some t305)) else (some false))) = some r := H
        have A12 := Aside0.mk A120
        clear A120
        replace H := Option.bind_eq_some_iff.mp H
        obtain ⟨t304, A130, H⟩ := H
        replace H : (if t303 = t304 then ((vellumlaw02_awake.f kj4).bind fun t305 => (some t305)) else (some false)) = some r := H
        have A13 := Aside0.mk A130
        clear A130
        by_cases c14 : t303 = t304
        · rw [if_pos c14] at H
          have c14b0 : (t303 == t304) = true := beq_iff_eq.mpr c14
          have c14b1 : (t303 != t304) = false := bne_eq_false_iff_eq.mpr c14
          clear c14
          replace H := Option.bind_eq_some_iff.mp H
          obtain ⟨t305, A150, H⟩ := H
          replace H : (some t305) = some r := H
          have A15 := Aside0.mk A150
          clear A150
          obtain rfl := Option.some.inj H
          go_wp2_with (first | ((with_reducible refine gate_callee (f := 24) rfl ?_); refine goesL_ (some 28) rfl rfl Tryd.func24 (by kernel_rfl) rfl #[.string t298, .string t300] rfl (by (try simp only [List.map_toArray, List.map_cons, List.map_nil]); first | done | rfl | (simp only [List.length_drop, List.length_take]; rfl)) ?_; (with_reducible refine (vellumlaw02_sign.calls t298 t300 t303 _ A12.out).mono ?_); rintro e w' ⟨rfl, ⟨nd, rfl⟩⟩; refine ⟨_, rfl, ?_⟩) | ((with_reducible refine gate_callee (f := 25) rfl ?_); refine goesL_ (some 31) rfl rfl Tryd.func25 (by kernel_rfl) rfl #[.slice A0 l0.length c0, .slice A1 l1.length c1] rfl (by (try simp only [List.map_toArray, List.map_cons, List.map_nil]); first | done | rfl | (simp only [List.length_drop, List.length_take]; rfl)) ?_; (with_reducible refine (vellumref02_Cmp.calls kj4 _ _ l0 _ _ l1 t304 _ ?side1 ?side2 ?side3 ?side4 A13.out).mono ?_); (case side1 => repeat (first | exact (Kd.C_below HR0.out (by repeat (first | (with_reducible first | exact HB.out | apply below_alloc | apply pw_below_drewN | apply below_drew1) | exact HB.out))) | (with_reducible refine Kd.C_alloc ?_ _) | (with_reducible refine Kd.C_drewN ?_ _) | (with_reducible refine Kd.C_drew ?_))); (case side2 => exact HC0.out); (case side3 => repeat (first | exact (Kd.C_below HR1.out (by repeat (first | (with_reducible first | exact HB.out | apply below_alloc | apply pw_below_drewN | apply below_drew1) | exact HB.out))) | (with_reducible refine Kd.C_alloc ?_ _) | (with_reducible refine Kd.C_drewN ?_ _) | (with_reducible refine Kd.C_drew ?_))); (case side4 => exact HC1.out); rintro e w16 ⟨rfl, hb⟩; refine ⟨_, rfl, ?_⟩; have n0_ := Aside0.mk (below_step (by repeat (first | (with_reducible first | exact HB.out | apply below_alloc | apply pw_below_drewN | apply below_drew1) | exact HB.out)) hb); clear HB; have HB := n0_; clear n0_; (try clear hb); (try clear hb2); (try clear hk); (try clear hi)) | (go_at_call 23; (with_reducible refine (vellumlaw02_awake.calls kj4  t305 _ ?side1 A15.out).mono ?_); (case side1 => exact Glob.below HG.out (by repeat (first | (with_reducible first | exact HB.out | apply below_alloc | apply pw_below_drewN | apply below_drew1) | exact HB.out))); rintro e w17 ⟨rfl, hb⟩; have n0_ := Aside0.mk (below_step (by repeat (first | (with_reducible first | exact HB.out | apply below_alloc | apply pw_below_drewN | apply below_drew1) | exact HB.out)) hb); clear HB; have HB := n0_; clear n0_; (try clear hb); (try clear hb2); (try clear hk); (try clear hi)))
          go_ret
          exact ⟨by first | rfl | (simp [errW_none, errW_some] <;> rfl) | (simp [*, errW_none, errW_some] <;> rfl), by repeat (first | (with_reducible first | exact HB.out | apply below_alloc | apply pw_below_drewN | apply below_drew1) | exact HB.out)⟩
        · rw [if_neg c14] at H
          have c14b0 : (t303 == t304) = false := beq_eq_false_iff_ne.mpr c14
          have c14b1 : (t303 != t304) = true := bne_iff_ne.mpr c14
          obtain rfl := Option.some.inj H
          go_wp2_with (first | ((with_reducible refine gate_callee (f := 24) rfl ?_); refine goesL_ (some 28) rfl rfl Tryd.func24 (by kernel_rfl) rfl #[.string t298, .string t300] rfl (by (try simp only [List.map_toArray, List.map_cons, List.map_nil]); first | done | rfl | (simp only [List.length_drop, List.length_take]; rfl)) ?_; (with_reducible refine (vellumlaw02_sign.calls t298 t300 t303 _ A12.out).mono ?_); rintro e w' ⟨rfl, ⟨nd, rfl⟩⟩; refine ⟨_, rfl, ?_⟩) | ((with_reducible refine gate_callee (f := 25) rfl ?_); refine goesL_ (some 31) rfl rfl Tryd.func25 (by kernel_rfl) rfl #[.slice A0 l0.length c0, .slice A1 l1.length c1] rfl (by (try simp only [List.map_toArray, List.map_cons, List.map_nil]); first | done | rfl | (simp only [List.length_drop, List.length_take]; rfl)) ?_; (with_reducible refine (vellumref02_Cmp.calls kj4 _ _ l0 _ _ l1 t304 _ ?side1 ?side2 ?side3 ?side4 A13.out).mono ?_); (case side1 => repeat (first | exact (Kd.C_below HR0.out (by repeat (first | (with_reducible first | exact HB.out | apply below_alloc | apply pw_below_drewN | apply below_drew1) | exact HB.out))) | (with_reducible refine Kd.C_alloc ?_ _) | (with_reducible refine Kd.C_drewN ?_ _) | (with_reducible refine Kd.C_drew ?_))); (case side2 => exact HC0.out); (case side3 => repeat (first | exact (Kd.C_below HR1.out (by repeat (first | (with_reducible first | exact HB.out | apply below_alloc | apply pw_below_drewN | apply below_drew1) | exact HB.out))) | (with_reducible refine Kd.C_alloc ?_ _) | (with_reducible refine Kd.C_drewN ?_ _) | (with_reducible refine Kd.C_drew ?_))); (case side4 => exact HC1.out); rintro e w18 ⟨rfl, hb⟩; refine ⟨_, rfl, ?_⟩; have n0_ := Aside0.mk (below_step (by repeat (first | (with_reducible first | exact HB.out | apply below_alloc | apply pw_below_drewN | apply below_drew1) | exact HB.out)) hb); clear HB; have HB := n0_; clear n0_; (try clear hb); (try clear hb2); (try clear hk); (try clear hi)))
          go_ret
          exact ⟨by first | rfl | (simp [errW_none, errW_some] <;> rfl) | (simp [*, errW_none, errW_some] <;> rfl), by repeat (first | (with_reducible first | exact HB.out | apply below_alloc | apply pw_below_drewN | apply below_drew1) | exact HB.out)⟩
end Go.Proofs.YtpiifdbicibelaaDoor.PA
end
section
namespace Go.Proofs.YtpiifdbicibelaaDoor.Pure
open Go.RowKit Go.Proofs Go.Proofs.YtpiifdbicibelaaDoorW.PrintWords Go.Proofs.YtpiifdbicibelaaDoorW.PrintLast Go.Proofs.YtpiifdbicibelaaDoorW.PrintMore Go.Proofs.YtpiifdbicibelaaDoor.PA Go.Proofs.YtpiifdbicibelaaDoor.OpenK
set_option linter.unusedVariables false
theorem sign_f (u v : List Int) (hu : Bytes u) (hv : Bytes v) : vellumlaw02_sign.f (strOfNums u) (strOfNums v) = some (if u < v then -1 else if v < u then 1 else 0) := by
  unfold vellumlaw02_sign.f
  simp only [bytesLess_eq, Lib.toList_data, decide_eq_true_eq, strOfNums_data, toB_lt hu hv, toB_lt hv hu]
  split
  · rfl
  · split <;> rfl
theorem sign_cmp {xs ys : List S50} (hx : ∀ x ∈ xs, chkV x = 0 ∧ wf50 x) (hy : ∀ y ∈ ys, chkV y = 0 ∧ wf50 y) : vellumlaw02_sign.f (strOfNums (flat xs)) (strOfNums (flat ys)) = some (cmpL xs ys) := by
  rw [sign_f _ _ (flat_bytes fun x h => (hx x h).2) (flat_bytes fun x h => (hy x h).2)]
  rcases cmpL_lt hx hy with ⟨h1, h2⟩ | ⟨h1, h2⟩ | ⟨h1, h2⟩
  · rw [h1, if_pos h2]
  · rw [h1, if_neg (List.lt_asymm h2), if_pos h2]
  · rw [h1, h2, if_neg (List.lt_irrefl _), if_neg (List.lt_irrefl _)]
theorem CodeOrders (l0 l1 : List S50) (h0 : l0.length * 40 ≤ 140737488351232 ∧ ∀ y ∈ l0, wf50 y) (h1 : l1.length * 40 ≤ 140737488351232 ∧ ∀ y ∈ l1, wf50 y) : ∃ k, vellumlaw02_CodeOrders.f k l0 l1 = some true := by
  refine Ev.ex ?_
  simp only [vellumlaw02_CodeOrders.f]
  refine Ev.bind (encode_code l0 h0.2 (by omega)) (Ev.bind (encode_code l1 h1.2 (by omega)) ?_)
  have fin : Ev (fun k => vellumlaw02_CodeOrders.j0 k l0 l1 (encode l0).1 (encode l1).1 true) true := by
    refine Ev.step (g := fun k => (vellumlaw02_awake.f k).bind fun t302 => (some t302)) (fun k => ?_) (Ev.bind awake_ev Ev.pure)
    simp only [vellumlaw02_CodeOrders.j0]
    rw [if_pos trivial]
  by_cases e0 : (encode l0).2 = 0
  · refine Ev.pos e0 ?_
    by_cases e1 : (encode l1).2 = 0
    · obtain ⟨c0, f0, _⟩ := encode_ok e0
      obtain ⟨c1, f1, _⟩ := encode_ok e1
      have hs := sign_cmp (fun x h => ⟨c0 x h, h0.2 x h⟩) (fun x h => ⟨c1 x h, h1.2 x h⟩)
      refine Ev.step (g := fun k => (vellumlaw02_sign.f (encode l0).1 (encode l1).1).bind fun t303 => ((vellumref02_Cmp.f k l0 l1).bind fun t304 => (if t303 = t304 then ((vellumlaw02_awake.f k).bind fun t305 => (some t305)) else (some false)))) (fun k => ?_) ?_
      · simp only [vellumlaw02_CodeOrders.j0]
        rw [e1, if_neg (by decide)]
      · refine Ev.bind (v := cmpL l0 l1) (Ev.const (by rw [f0, f1]; exact hs)) (Ev.bind (cmp_ev l0 l1 h0.2 h1.2 (by omega) (by omega)) (Ev.pos rfl (Ev.bind awake_ev Ev.pure)))
    · have : ((encode l1).2 != 0) = true := by simpa using e1
      rw [this]
      exact fin
  · exact Ev.neg e0 fin
end Go.Proofs.YtpiifdbicibelaaDoor.Pure
end
section
namespace Go.Proofs.YtpiifdbicibelaaDoor.codeOrders
open Go.ChangeShapes Go.WideShapes Go.ChangeAt Go.RowKit Go.Proofs.YtpiifdbicibelaaDoorW.PrintWords Go.Proofs.YtpiifdbicibelaaDoor.PA Go.Proofs.YtpiifdbicibelaaDoor.OpenK Go.Proofs.YtpiifdbicibelaaDoor.Pure
open Go.ChangeMaps (open_string shut_string)
set_option linter.unusedVariables false
theorem walk {H : Type} {enc : TypeId × Value → H} (W : World) (base : Nat) (args : Array Value) (ds : List (DataW H)) (ps : List MemPlace) (hA0 : DataW.TrodAll enc Tryd.prog W 0 (fun _ => true) true Tryd.f4.params.toList args.toList ds ps)
    (hw0 : (DataW.weightsEach Tryd.prog Tryd.f4.params.toList ds).all (· ≤ reachBytes) = true) (hval0 : ∀ (j : Nat) t v, Tryd.f4.params[j]? = some t → args[j]? = some v → Value.okWide Tryd.prog W .any base t v) (hG : Glob W) :
    Calls Tryd.prog 4 args W fun e W' => e = .returned (.bool true) ∧ Below W.heap.size W W' := by
  have hval : ∀ (j : Nat) t v, Tryd.f4.params[j]? = some t → args[j]? = some v → Value.okWide Tryd.prog W .any base t v := @hval0
  have hA : DataW.TrodAll enc Tryd.prog W 0 (fun _ => true) true Tryd.f4.params.toList args.toList ds ps := hA0
  have hw : (DataW.weightsEach Tryd.prog Tryd.f4.params.toList ds).all (· ≤ reachBytes) = true := hw0
  rw [Tryd.params4] at hA hval hw
  clear hA0 hw0 hval0
  obtain ⟨v0, vs0, d0, ds0, p0, q0, hargs, rfl, rfl, h0, r0⟩ := trodAll_cons hA
  obtain ⟨v1, vs1, d1, ds1, p1, q1, rfl, rfl, rfl, h1, r1⟩ := trodAll_cons r0
  obtain ⟨rfl, rfl, rfl⟩ := trodAll_nil r1
  obtain rfl : args = #[v0, v1] := by cases args; simp_all
  simp only [DataW.weightsEach, all_append_iff] at hw
  obtain ⟨hw0, hw1, _⟩ := hw
  obtain ⟨a0, len0, cap0, rfl⟩ := arg_slice (j := 0) @hval rfl rfl Tryd.underlying22
  obtain ⟨fuel0, hf0⟩ := h0
  obtain ⟨l0, ⟨A0, c0, he0, hl0, hC0⟩, wf0_⟩ := (Opn.slice Tryd.underlying22 opn50 (by kernel_rfl) (by kernel_rfl)) hf0 hw0
  simp [Value.cells] at he0
  obtain ⟨rfl, rfl, rfl⟩ := he0
  obtain ⟨a1, len1, cap1, rfl⟩ := arg_slice (j := 1) @hval rfl rfl Tryd.underlying22
  obtain ⟨fuel1, hf1⟩ := h1
  obtain ⟨l1, ⟨A1, c1, he1, hl1, hC1⟩, wf1_⟩ := (Opn.slice Tryd.underlying22 opn50 (by kernel_rfl) (by kernel_rfl)) hf1 hw1
  simp [Value.cells] at he1
  obtain ⟨rfl, rfl, rfl⟩ := he1
  obtain ⟨k, h⟩ := CodeOrders l0 l1 wf0_ wf1_
  refine (vellumlaw02_CodeOrders.calls k _ _ l0 _ _ l1 true W hC0 hl0 hC1 hl1 hG h).mono ?_
  rintro e W' ⟨rfl, hd⟩
  exact ⟨rfl, hd⟩
theorem witness_row (os : Os) {H : Type} (enc : TypeId × Value → H) :
    (OpenSpec.ofChange Rows.codeOrdersSpec).preRow enc Tryd.prog Tryd.f4 [] false laidList ((laidWorld os).forCall (fun _ _ => 0) ⟨#[], #[.slice none 0 0, .slice none 0 0], []⟩).memory #[.slice none 0 0, .slice none 0 0] := by
  have hw : (DataW.whole enc Tryd.prog ((laidWorld os).forCall (fun _ _ => 0) ⟨#[], #[.slice none 0 0, .slice none 0 0], []⟩).memory Tryd.f4.params.toList (OpenSpec.ofChange Rows.codeOrdersSpec).vars false (#[.slice none 0 0, .slice none 0 0] : Array Value).toList 8).map (fun x => (x.1, x.2.1)) = some ([.nil, .nil], []) := by kernel_rfl
  obtain ⟨⟨x1, x2, x3⟩, hx, hx1⟩ := Option.map_eq_some_iff.1 hw
  simp only [Prod.mk.injEq] at hx1
  obtain ⟨rfl, rfl⟩ := hx1
  exact OpenSpec.preRow_of_cond 8 hx (by kernel_rfl) (fun k hk => by cases hk) (by kernel_rfl) (laid_met os _)
theorem ends {os : Os} (started : os.Started) {H : Type} {enc : TypeId × Value → H} {F : Stop.Interp} : ReturnsInHanded { modest := false } Tryd.checked os 4 .any ((OpenSpec.ofChange Rows.codeOrdersSpec).preRow enc Tryd.prog Tryd.f4 [] false laidList) (((OpenSpec.ofChange Rows.codeOrdersSpec).at F).post enc Tryd.prog Tryd.f4 false true false false) :=
  law_lifted (spec := Rows.codeOrdersSpec) Tryd.func4 (by kernel_rfl) (tb := 4) rfl Tryd.underlying4 (by kernel_rfl) rfl
    (fun H ds hl => by
      match ds, hl with
      | [_, _], _ => rfl) started
    (witness_row_atRef (enc := enc) (C := Tryd.checked) false (laidWorld os) #[.slice none 0 0, .slice none 0 0] rfl (by kernel_rfl) (by kernel_rfl) (by kernel_rfl) (witness_row os enc))
    (fun W base args ds ps hA hw hval hG => walk W base args ds ps hA hw @hval hG)
theorem inPlace_ : Tryd.prog.inPlace 4 = Rows.codeOrdersRow.inPlace := by kernel_rfl
theorem unfollowed_ : Tryd.prog.unfollowed 4 = Rows.codeOrdersRow.unfollowed := by kernel_rfl
theorem recurses_ : Tryd.prog.recurses 4 = Rows.codeOrdersRow.recurses := by kernel_rfl
theorem named_ : Tryd.prog.varsNamed 4 = Rows.codeOrdersRow.named := by kernel_rfl
theorem closed : joinedFacts Tryd.prog 4 Tryd.f4 (OpenSpec.ofChange Rows.codeOrdersSpec).bare Rows.codeOrdersRow = true := by
  unfold joinedFacts
  rw [laidOut, mapsRowed_, stops_, stopKnobs_, plainKeys_, stopsHeard_, mayEnter_, lifts_, make_, inPlace_, unfollowed_, recurses_, named_]
  kernel_rfl
set_option maxRecDepth 100000 in
theorem over : Rows.codeOrdersRow.holds Tryd.pinned (OpenSpec.ofChange Rows.codeOrdersSpec) :=
  OpenClaim.holds_of_cond 4 Tryd.f4 rfl rfl rfl rfl rfl rfl rfl ⟨rfl, rfl, rfl, rfl, rfl⟩ rfl rfl rfl rfl rfl (by kernel_rfl) Tryd.func4 closed
    (of_decide_eq_true (by kernel_rfl)) (by unfold Func.isWrapper; rw [if_neg (of_decide_eq_false (by kernel_rfl))]; exact ⟨rfl, rfl⟩)
    (fun os started H enc _ F => by
      rw [OpenClaim.pre_eq_preRow]
      exact ends started)
theorem card : Rows.CodeOrdersCardSaid :=
  Claim7.holds_tied_plain_at .later [] [.data, .pinned] true (true, "409e20a6319c123f59629b35fea50f486835097bfbed967dc062cdc0fc9eff79") false
    over (fun _ h => by cases h) (by kernel_rfl) (fun _ h => by cases h) codeOrders_row_tie rfl ⟨rfl, rfl⟩ (by kernel_rfl) rfl
    (fun f fn hf hfn => by
      obtain rfl : f = 4 := Option.some.inj ((show Tryd.prog.funcNamed "vellum/vellumlaw02.CodeOrders" = some 4 by kernel_rfl).symm.trans hf) |>.symm
      obtain rfl : fn = Tryd.f4 := (Option.some.inj (Tryd.func4.symm.trans hfn)).symm
      exact ⟨by kernel_rfl, fun j t ht => by
        rw [Tryd.params4] at ht
        have h3 : t ∈ [22, 22] := by
          have := List.mem_of_getElem? (l := [22, 22]) (i := j) (by simpa using ht)
          exact this
        have h4 : ∀ t ∈ [22, 22], Tryd.prog.wantsStandIn t = false := by
          intro t ht
          simp only [List.mem_cons, List.mem_nil_iff, or_false] at ht
          rcases ht with rfl | rfl
          all_goals kernel_rfl
        exact h4 t h3⟩)
    (by kernel_rfl)
end Go.Proofs.YtpiifdbicibelaaDoor.codeOrders
namespace Go.Proofs.YtpiifdbicibelaaDoor
theorem codeOrders_holds : Rows.CodeOrdersCardSaid := codeOrders.card
end Go.Proofs.YtpiifdbicibelaaDoor
end
