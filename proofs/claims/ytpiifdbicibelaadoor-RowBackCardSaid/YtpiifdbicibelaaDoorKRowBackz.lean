/- RowBack: the law returns true at every input, and its arguments read as before. Conditions: as the row has them (the listed tables as the program's text lays them). -/
import Derived.Test.YtpiifdbicibelaaDoorKRowBack2
section
namespace Go.Proofs.YtpiifdbicibelaaDoor.PA
open Go.RowKit Go.Proofs.YtpiifdbicibelaaDoorW.PrintWords Go.Proofs.YtpiifdbicibelaaDoorW.PrintLast Go.Proofs.YtpiifdbicibelaaDoorW.PrintMore
attribute [local go_sem] max2_int min2_int max_two min_two max_three min_three max_four min_four
set_option linter.unusedVariables false
set_option linter.unusedSimpArgs false
set_option maxHeartbeats 8000000 in
set_option maxRecDepth 100000 in
theorem row_decode.calls (k : Nat) (A0 : Option Addr) (c0 : Nat) (l0 : List (S105)) (a1 : ByteArray) (r1 : List (S50)) (r2 : ByteArray) (r3 : Bool) (w : World) (hr0 : Kd.C k105 w A0 l0.length l0) (hc0 : l0.length ≤ c0) (hG : Glob w) (h : row_decode.f k l0 a1 = some (r1, r2, r3)) :
    Calls Tryd.prog 92 #[.slice A0 l0.length c0, .string a1] w fun e w' => ∃ v0_ : Value, e = .returned (.tuple #[v0_, .string r2, .bool r3]) ∧ Kd.R k50 50 w' w.heap.size (fun _ => True) v0_ r1 ∧ Below w.heap.size w w' := by
  have hu105 := Tryd.underlying105
  have hu50 := Tryd.underlying50
  have HR0 := am hr0
  have HC0 := am hc0
  clear hr0 hc0
  have HG := am hG
  clear hG
  have HB := am (Below.refl w.heap.size w)
  have H : (if (wrap64 (Int.tdiv (wrap64 ((wrap64 (2 * (l0.length : Int))) + 7)) 8)) > (a1.size : Int) then (some (([] : List (S50)), (⟨#[]⟩ : ByteArray), false)) else (if 0 ≤ (wrap64 (Int.tdiv (wrap64 ((wrap64 (2 * (l0.length : Int))) + 7)) 8)) then (if (wrap64 (Int.tdiv (wrap64 ((wrap64 (2 * (l0.length : Int))) + 7)) 8)) ≤ (a1.size : Int) then (row_decode.l0 k l0 (a1.extract ((wrap64 (Int.tdiv (wrap64 ((wrap64 (2 * (l0.length : Int))) + 7)) 8)) : Int).toNat a1.size) (wrap64 (Int.tdiv (wrap64 ((wrap64 (2 * (l0.length : Int))) + 7)) 8)) (a1.extract 0 ((wrap64 (Int.tdiv (wrap64 ((wrap64 (2 * (l0.length : Int))) + 7)) 8)) : Int).toNat) (l0.length : Int)) else (none)) else (none))) = some (r1, r2, r3) := h
  clear h
  by_cases c3 : (wrap64 (Int.tdiv (wrap64 ((wrap64 (2 * (l0.length : Int))) + 7)) 8)) > (a1.size : Int)
  · rw [if_pos c3] at H
    have c3b0 : decide ((a1.size : Int) < (wrap64 (Int.tdiv (wrap64 ((wrap64 (2 * (l0.length : Int))) + 7)) 8))) = true := decide_eq_true c3
    clear c3
    simp only [Option.some.injEq, Prod.mk.injEq] at H
    obtain ⟨rfl, rfl, rfl⟩ := H
    go_enter Tryd.func92, Tryd.ntmps92
    go_wp2
    go_ret3
    exact ⟨_, er, by first | exact Kd.R_nil _ _ _ _ _ | exact Kd.N_nil _ _ _ _ _ | exact Kd.V_nil _ _ _ _ _ | exact Kd.Q_nil _ _ _ _ _ | exact Kd.S_nil _ _ _ _ _, bl HB⟩
  · rw [if_neg c3] at H
    have c3b0 : decide ((a1.size : Int) < (wrap64 (Int.tdiv (wrap64 ((wrap64 (2 * (l0.length : Int))) + 7)) 8))) = false := decide_eq_false c3
    clear c3
    obtain ⟨ji4, hji4⟩ : ∃ j_ : Int, (wrap64 (Int.tdiv (wrap64 ((wrap64 (2 * (l0.length : Int))) + 7)) 8)) = j_ := ⟨_, rfl⟩
    replace H : (if 0 ≤ (ji4) then (if (ji4) ≤ (a1.size : Int) then (row_decode.l0 k l0 (a1.extract ((ji4) : Int).toNat a1.size) ji4 (a1.extract 0 ((ji4) : Int).toNat) (l0.length : Int)) else (none)) else (none)) = some (r1, r2, r3) := by first | (rw [hji4] at H; exact H) | (simp only [hji4] at H ⊢; exact H)
    (try rw [hji4] at c3b0)
    have hji4w : (IntKind.i64.wrap (Int.tdiv (wrap64 ((wrap64 (2 * (l0.length : Int))) + 7)) 8)) = ji4 := (i64_w _).trans hji4
    by_cases c5 : 0 ≤ (ji4)
    · rw [if_pos c5] at H
      have c5b0 := eq_true c5
      have c5b1 : decide (0 ≤ (ji4)) = true := decide_eq_true c5
      clear c5
      by_cases c6 : (ji4) ≤ (a1.size : Int)
      · rw [if_pos c6] at H
        have c6b0 := eq_true c6
        have c6b1 : decide ((ji4) ≤ (a1.size : Int)) = true := decide_eq_true c6
        clear c6
        have c7b0 := eq_true (oda : 0 ≤ (ji4))
        have c8b0 := eq_true (oda : (ji4) ≤ (a1.size : Int))
        have H' := am H
        clear H
        go_enter Tryd.func92, Tryd.ntmps92
        try go_wp2
        have n0_ := am (below_drew1 HB.out)
        clear HB
        have HB := n0_
        clear n0_
        refine start_ (n := 8) (S := fun w' => True) (ds := []) (bb 0 8) (by kernel_rfl) rfl rfl trivial (fun hHeld => ?_); refine with_tabW row_decode.tab4 row_decode.bits4 (fun HT_ HW_ => ?_)
        generalize w.drew = w9 at HB hHeld ⊢
        refine pu HT_ 0 (some 25) (bb 1 8) ?_
        refine pu HT_ 1 (some 26) (bb 2 8) ?_
        refine pu HT_ 2 (some 27) (bb 3 8) ?_
        refine pu HT_ 3 (some 28) (bb 4 8) ?_
        refine pu HT_ 4 (some 29) (bb 5 8) ?_
        refine pu HT_ 5 (some 30) (bb 6 8) ?_
        refine pu HT_ 6 (some 8) (bb 7 8) ?_
        refine pu HT_ 7 (some 1) (bb 8 8) ?_
        refine done_ (done_of HT_.out (by kernel_rfl)) ?_
        try go_wp2
        go_loopg [9] k (fun kq v9 w' => ∃ (x9_1 : Int), v9 = .int .i64 x9_1 ∧ Aside0 (row_decode.l0 kq l0 (a1.extract ((ji4) : Int).toNat a1.size) ji4 (a1.extract 0 ((ji4) : Int).toNat) x9_1 = some (r1, r2, r3)) ∧ Aside0 (kq ≤ k) ∧ Aside0 (Below w.heap.size w w'))
        case atStart => exact ⟨((l0.length : Int)), eb, H', ⟨Nat.le_refl _⟩, ⟨bl HB⟩⟩
        case round =>
          clear H'
          try clear p2
          try clear c3
          try clear c3b0
          try clear c5
          try clear c5b0
          try clear c5b1
          try clear c6
          try clear c6b0
          try clear c6b1
          try clear p6
          try clear c7
          try clear c7b0
          try clear c8
          try clear c8b0
          try clear c9
          obtain ⟨x9_1, rfl, HA, HK1, HB⟩ := hrel
          cases gk with
          | zero => exact absurd HA.out (by simp [row_decode.l0])
          | succ k1 =>
            have H := HA.out
            clear HA
            simp only [row_decode.l0] at H
            by_cases c10 : x9_1 < (wrap64 (4 * ji4))
            · rw [if_pos c10] at H
              have c10b0 : decide (x9_1 < (wrap64 (4 * ji4))) = true := decide_eq_true c10
              clear c10
              obtain ⟨ji11, hji11⟩ : ∃ j_ : Int, (wrap64 (Int.tdiv x9_1 4)) = j_ := ⟨_, rfl⟩
              replace H : (if 0 ≤ (ji11) then (if (ji11) < ((a1.extract 0 ((ji4) : Int).toNat).size : Int) then (if 0 ≤ (wrap64 (2 * (Int.tmod x9_1 4))) then (if (Go.bits .and .u8 (shr .u8 (bt (a1.extract 0 ((ji4) : Int).toNat) (ji11)) (wrap64 (2 * (Int.tmod x9_1 4)))) 3) = 0 then (row_decode.l0 k1 l0 (a1.extract ((ji4) : Int).toNat a1.size) ji4 (a1.extract 0 ((ji4) : Int).toNat) (wrap64 (x9_1 + 1))) else (some (([] : List (S50)), (⟨#[]⟩ : ByteArray), false))) else (none)) else (none)) else (none)) = some (r1, r2, r3) := by first | (rw [hji11] at H; exact H) | (simp only [hji11] at H ⊢; exact H)
              have hji11w : (IntKind.i64.wrap (Int.tdiv x9_1 4)) = ji11 := (i64_w _).trans hji11
              by_cases c12 : 0 ≤ (ji11)
              · rw [if_pos c12] at H
                have c12b0 : decide (0 ≤ (ji11)) = true := decide_eq_true c12
                clear c12
                by_cases c13 : (ji11) < ((a1.extract 0 ((ji4) : Int).toNat).size : Int)
                · rw [if_pos c13] at H
                  have c13b0 : decide ((ji11) < ((a1.extract 0 ((ji4) : Int).toNat).size : Int)) = true := decide_eq_true c13
                  clear c13
                  obtain ⟨ji15, hji15⟩ : ∃ j_ : Int, (wrap64 (2 * (Int.tmod x9_1 4))) = j_ := ⟨_, rfl⟩
                  replace H : (if 0 ≤ (ji15) then (if (Go.bits .and .u8 (shr .u8 (bt (a1.extract 0 ((ji4) : Int).toNat) (ji11)) (ji15)) 3) = 0 then (row_decode.l0 k1 l0 (a1.extract ((ji4) : Int).toNat a1.size) ji4 (a1.extract 0 ((ji4) : Int).toNat) (wrap64 (x9_1 + 1))) else (some (([] : List (S50)), (⟨#[]⟩ : ByteArray), false))) else (none)) = some (r1, r2, r3) := by first | (rw [hji15] at H; exact H) | (simp only [hji15] at H ⊢; exact H)
                  have hji15w : (IntKind.i64.wrap (2 * (Int.tmod x9_1 4))) = ji15 := (i64_w _).trans hji15
                  by_cases c16 : 0 ≤ (ji15)
                  · rw [if_pos c16] at H
                    have c16b0 := eq_true c16
                    have c16b1 : decide (0 ≤ (ji15)) = true := decide_eq_true c16
                    clear c16
                    obtain ⟨ji17, hji17⟩ : ∃ j_ : Int, (shr .u8 (bt (a1.extract 0 ((ji4) : Int).toNat) (ji11)) (ji15)) = j_ := ⟨_, rfl⟩
                    replace H : (if (Go.bits .and .u8 (ji17) 3) = 0 then (row_decode.l0 k1 l0 (a1.extract ((ji4) : Int).toNat a1.size) ji4 (a1.extract 0 ((ji4) : Int).toNat) (wrap64 (x9_1 + 1))) else (some (([] : List (S50)), (⟨#[]⟩ : ByteArray), false))) = some (r1, r2, r3) := by first | (rw [hji17] at H; exact H) | (simp only [hji17] at H ⊢; exact H)
                    have hji17_ : ((bt (a1.extract 0 ((ji4) : Int).toNat) (ji11)) / 2 ^ min (ji15).toNat 8) = ji17 := hji17
                    have hji17z : (ji15) ≤ 8 → ((bt (a1.extract 0 ((ji4) : Int).toNat) (ji11)) / 2 ^ (ji15).toNat) = ji17 := shr_small hji17
                    by_cases c18 : (Go.bits .and .u8 (ji17) 3) = 0
                    · rw [if_pos c18] at H
                      have c18b0 : ((Go.bits .and .u8 (ji17) 3) == 0) = true := beq_iff_eq.mpr c18
                      have c18b1 : ((Go.bits .and .u8 (ji17) 3) != 0) = false := bne_eq_false_iff_eq.mpr c18
                      clear c18
                      have H' := am H
                      clear H
                      have p14 : 0 ≤ ((ji11) : Int) := oda
                      have q14 : (ji11) < ((a1.extract 0 ((ji4) : Int).toNat).size : Int) := oda
                      have hx14 := bt_at (a1.extract 0 ((ji4) : Int).toNat) (ji11)
                      (try (have qs14 := q14; simp only [ByteArray.size_extract, Nat.sub_zero] at qs14; replace qs14 := eq_true qs14))
                      replace p14 := eq_true p14
                      replace q14 := eq_true q14
                      go_wp2
                      go_roundg k1
                      case measure => have := HK1.out; omega
                      case rel => exact ⟨(wrap64 (x9_1 + 1)), eb, H', ⟨by have := HK1.out; omega⟩, ⟨bl HB⟩⟩
                    · rw [if_neg c18] at H
                      have c18b0 : ((Go.bits .and .u8 (ji17) 3) == 0) = false := beq_eq_false_iff_ne.mpr c18
                      have c18b1 : ((Go.bits .and .u8 (ji17) 3) != 0) = true := bne_iff_ne.mpr c18
                      simp only [Option.some.injEq, Prod.mk.injEq] at H
                      obtain ⟨rfl, rfl, rfl⟩ := H
                      have p14 : 0 ≤ ((ji11) : Int) := oda
                      have q14 : (ji11) < ((a1.extract 0 ((ji4) : Int).toNat).size : Int) := oda
                      have hx14 := bt_at (a1.extract 0 ((ji4) : Int).toNat) (ji11)
                      (try (have qs14 := q14; simp only [ByteArray.size_extract, Nat.sub_zero] at qs14; replace qs14 := eq_true qs14))
                      replace p14 := eq_true p14
                      replace q14 := eq_true q14
                      go_wp2
                      go_ret3
                      exact ⟨_, by first | rfl | (simp [errW_none, errW_some] <;> rfl) | (simp only [← hji4, ← hji11, ← hji15, ← hji17]; first | rfl | (simp [errW_none, errW_some] <;> rfl)) | (simp [*, errW_none, errW_some] <;> rfl), by first | exact Kd.R_nil _ _ _ _ _ | exact Kd.N_nil _ _ _ _ _ | exact Kd.V_nil _ _ _ _ _ | exact Kd.Q_nil _ _ _ _ _ | exact Kd.S_nil _ _ _ _ _, bl HB⟩
                  · rw [if_neg c16] at H
                    exact absurd H (by simp)
                · rw [if_neg c13] at H
                  exact absurd H (by simp)
              · rw [if_neg c12] at H
                exact absurd H (by simp)
            · rw [if_neg c10] at H
              have c10b0 : decide (x9_1 < (wrap64 (4 * ji4))) = false := decide_eq_false c10
              clear c10
              have H' := am H
              clear H
              go_wp2
              go_loopg [1, 10, 51] k1 (fun kq v1 v10 v51 w' => ∃ (x1_2 : ByteArray) (x10_2 : List (S50)) (x51_2 : Int), v1 = .string x1_2 ∧ v51 = .int .i64 x51_2 ∧ Aside0 (row_decode.l1 kq x1_2 (a1.extract 0 ((ji4) : Int).toNat) x10_2 l0 (l0.length : Int) x51_2 = some (r1, r2, r3)) ∧ Aside0 (kq ≤ k1) ∧ Aside0 (Kd.R k50 50 w' w.heap.size (fun _ => True) v10 x10_2) ∧ Aside0 (Below w.heap.size w w'))
              case atStart => exact ⟨((a1.extract ((ji4) : Int).toNat a1.size)), (([] : List (S50))), (0), (by first | rfl | (simp; done) | (simp only [← hji4] <;> (first | rfl | simp)) | (simp [*]; done)), eb, H', ⟨Nat.le_refl _⟩, ⟨by first | exact Kd.R_nil _ _ _ _ _ | exact Kd.N_nil _ _ _ _ _ | exact Kd.V_nil _ _ _ _ _ | exact Kd.Q_nil _ _ _ _ _ | exact Kd.S_nil _ _ _ _ _⟩, ⟨bl HB⟩⟩
              case round =>
                clear H'
                try clear c1
                try clear p1
                try clear q1
                try clear hx1
                try clear p2
                try clear c3
                try clear c3b0
                try clear c5
                try clear c5b0
                try clear c5b1
                try clear c6
                try clear c6b0
                try clear c6b1
                try clear p6
                try clear c7
                try clear c7b0
                try clear c8
                try clear c8b0
                try clear c9
                try clear c10
                try clear c10b0
                try clear c12
                try clear c12b0
                try clear c13
                try clear c13b0
                try clear p14
                try clear q14
                try clear hx14
                try clear c16
                try clear c16b0
                try clear c16b1
                try clear c18
                try clear c18b0
                try clear c18b1
                try clear p14
                try clear p2
                try clear p6
                try clear q14
                obtain ⟨x1_2, x10_2, x51_2, rfl, rfl, HA, HK2, HO_10, HB⟩ := hrel
                cases gk with
                | zero => exact absurd HA.out (by simp [row_decode.l1])
                | succ k2 =>
                  have H := HA.out
                  clear HA
                  simp only [row_decode.l1] at H
                  by_cases c19 : x51_2 < (l0.length : Int)
                  · rw [if_pos c19] at H
                    have c19b0 : decide (x51_2 < (l0.length : Int)) = true := decide_eq_true c19
                    clear c19
                    by_cases c20 : 0 ≤ x51_2
                    · rw [if_pos c20] at H
                      have c20b0 : decide (0 ≤ x51_2) = true := decide_eq_true c20
                      clear c20
                      by_cases c21 : x51_2 < (l0.length : Int)
                      · rw [if_pos c21] at H
                        have c21b0 : decide (x51_2 < (l0.length : Int)) = true := decide_eq_true c21
                        clear c21
                        obtain ⟨ji22, hji22⟩ : ∃ j_ : Int, (wrap64 (Int.tdiv x51_2 4)) = j_ := ⟨_, rfl⟩
                        replace H : (if 0 ≤ (ji22) then (if (ji22) < ((a1.extract 0 ((ji4) : Int).toNat).size : Int) then (if 0 ≤ (wrap64 (2 * (Int.tmod x51_2 4))) then ((row_get.f k2 ((rd_T105 l0 x51_2).f0) ((rd_T105 l0 x51_2).f1) ((rd_T105 l0 x51_2).f2) ((rd_T105 l0 x51_2).f3.f0) ((rd_T105 l0 x51_2).f3.f1) ((rd_T105 l0 x51_2).f3.f2) ((rd_T105 l0 x51_2).f3.f3) (Go.bits .and .u8 (shr .u8 (bt (a1.extract 0 ((ji4) : Int).toNat) (ji22)) (wrap64 (2 * (Int.tmod x51_2 4)))) 3) x1_2).bind fun bt812 => (if bt812.2.2.2.2.2 = true then (if x10_2.length < 3518437208883 then (row_decode.l1 k2 bt812.2.2.2.2.1 (a1.extract 0 ((ji4) : Int).toNat) (x10_2 ++ [(⟨bt812.1, bt812.2.1, bt812.2.2.1, bt812.2.2.2.1⟩ : S50)]) l0 (l0.length : Int) (wrap64 (x51_2 + 1))) else (none)) else (some (([] : List (S50)), (⟨#[]⟩ : ByteArray), false)))) else (none)) else (none)) else (none)) = some (r1, r2, r3) := by first | (rw [hji22] at H; exact H) | (simp only [hji22] at H ⊢; exact H)
                        have hji22w : (IntKind.i64.wrap (Int.tdiv x51_2 4)) = ji22 := (i64_w _).trans hji22
                        by_cases c23 : 0 ≤ (ji22)
                        · rw [if_pos c23] at H
                          have c23b0 : decide (0 ≤ (ji22)) = true := decide_eq_true c23
                          clear c23
                          by_cases c24 : (ji22) < ((a1.extract 0 ((ji4) : Int).toNat).size : Int)
                          · rw [if_pos c24] at H
                            have c24b0 : decide ((ji22) < ((a1.extract 0 ((ji4) : Int).toNat).size : Int)) = true := decide_eq_true c24
                            clear c24
                            obtain ⟨ji26, hji26⟩ : ∃ j_ : Int, (wrap64 (2 * (Int.tmod x51_2 4))) = j_ := ⟨_, rfl⟩
                            replace H : (if 0 ≤ (ji26) then ((row_get.f k2 ((rd_T105 l0 x51_2).f0) ((rd_T105 l0 x51_2).f1) ((rd_T105 l0 x51_2).f2) ((rd_T105 l0 x51_2).f3.f0) ((rd_T105 l0 x51_2).f3.f1) ((rd_T105 l0 x51_2).f3.f2) ((rd_T105 l0 x51_2).f3.f3) (Go.bits .and .u8 (shr .u8 (bt (a1.extract 0 ((ji4) : Int).toNat) (ji22)) (ji26)) 3) x1_2).bind fun bt812 => (if bt812.2.2.2.2.2 = true then (if x10_2.length < 3518437208883 then (row_decode.l1 k2 bt812.2.2.2.2.1 (a1.extract 0 ((ji4) : Int).toNat) (x10_2 ++ [(⟨bt812.1, bt812.2.1, bt812.2.2.1, bt812.2.2.2.1⟩ : S50)]) l0 (l0.length : Int) (wrap64 (x51_2 + 1))) else (none)) else (some (([] : List (S50)), (⟨#[]⟩ : ByteArray), false)))) else (none)) = some (r1, r2, r3) := by first | (rw [hji26] at H; exact H) | (simp only [hji26] at H ⊢; exact H)
                            have hji26w : (IntKind.i64.wrap (2 * (Int.tmod x51_2 4))) = ji26 := (i64_w _).trans hji26
                            by_cases c27 : 0 ≤ (ji26)
                            · rw [if_pos c27] at H
                              have c27b0 := eq_true c27
                              have c27b1 : decide (0 ≤ (ji26)) = true := decide_eq_true c27
                              clear c27
                              obtain ⟨ji28, hji28⟩ : ∃ j_ : Int, (shr .u8 (bt (a1.extract 0 ((ji4) : Int).toNat) (ji22)) (ji26)) = j_ := ⟨_, rfl⟩
                              replace H : ((row_get.f k2 ((rd_T105 l0 x51_2).f0) ((rd_T105 l0 x51_2).f1) ((rd_T105 l0 x51_2).f2) ((rd_T105 l0 x51_2).f3.f0) ((rd_T105 l0 x51_2).f3.f1) ((rd_T105 l0 x51_2).f3.f2) ((rd_T105 l0 x51_2).f3.f3) (Go.bits .and .u8 (ji28) 3) x1_2).bind fun bt812 => (if bt812.2.2.2.2.2 = true then (if x10_2.length < 3518437208883 then (row_decode.l1 k2 bt812.2.2.2.2.1 (a1.extract 0 ((ji4) : Int).toNat) (x10_2 ++ [(⟨bt812.1, bt812.2.1, bt812.2.2.1, bt812.2.2.2.1⟩ : S50)]) l0 (l0.length : Int) (wrap64 (x51_2 + 1))) else (none)) else (some (([] : List (S50)), (⟨#[]⟩ : ByteArray), false)))) = some (r1, r2, r3) := by first | (rw [hji28] at H; exact H) | (simp only [hji28] at H ⊢; exact H)
                              have hji28_ : ((bt (a1.extract 0 ((ji4) : Int).toNat) (ji22)) / 2 ^ min (ji26).toNat 8) = ji28 := hji28
                              have hji28z : (ji26) ≤ 8 → ((bt (a1.extract 0 ((ji4) : Int).toNat) (ji22)) / 2 ^ (ji26).toNat) = ji28 := shr_small hji28
                              replace H := Option.bind_eq_some_iff.mp H
                              obtain ⟨⟨t812, t813, t814, t815, t816, t817⟩, A290, H⟩ := H
                              replace H : (if t817 = true then (if x10_2.length < 3518437208883 then (row_decode.l1 k2 t816 (a1.extract 0 ((ji4) : Int).toNat) (x10_2 ++ [(⟨t812, t813, t814, t815⟩ : S50)]) l0 (l0.length : Int) (wrap64 (x51_2 + 1))) else (none)) else (some (([] : List (S50)), (⟨#[]⟩ : ByteArray), false))) = some (r1, r2, r3) := H
                              have A29 := am A290
                              clear A290
                              by_cases c30 : t817 = true
                              · subst c30
                                have H1 : (if x10_2.length < 3518437208883 then (row_decode.l1 k2 t816 (a1.extract 0 ((ji4) : Int).toNat) (x10_2 ++ [(⟨t812, t813, t814, t815⟩ : S50)]) l0 (l0.length : Int) (wrap64 (x51_2 + 1))) else (none)) = some (r1, r2, r3) := by rw [if_pos rfl] at H; exact H
                                clear H
                                have H := H1
                                clear H1
                                by_cases c31 : x10_2.length < 3518437208883
                                · rw [if_pos c31] at H
                                  have LMc31 := am c31
                                  clear c31
                                  obtain ⟨y819, hy819⟩ : ∃ y_ : List (S50), y_ = (x10_2 ++ [(⟨t812, t813, t814, t815⟩ : S50)]) := ⟨_, rfl⟩
                                  replace H : (row_decode.l1 k2 t816 (a1.extract 0 ((ji4) : Int).toNat) y819 l0 (l0.length : Int) (wrap64 (x51_2 + 1))) = some (r1, r2, r3) := by first | (rw [hy819]; with_reducible exact H) | (have H2_ := (Option.bind_some _ _).symm.trans H; rw [hy819]; with_reducible exact H2_) | (have H2_ := (Option.bind_some _ _).symm.trans H; with_reducible exact H2_) | with_reducible exact H | (rw [hy819]; exact H) | exact H
                                  have Ny819 := am hy819
                                  clear hy819
                                  have H' := am H
                                  clear H
                                  have p810 : 0 ≤ (x51_2 : Int) := oda
                                  have q810 : x51_2 < (l0.length : Int) := oda
                                  obtain ⟨ad810, e810, hx810_0, hx810_1, hx810_2, hx810_3, hx810_4, hx810_5, hx810_6⟩ := at_T105 HR0.out x51_2 p810 q810
                                  cases e810
                                  replace hx810_0 := hc HB hx810_0
                                  replace hx810_1 := hc HB hx810_1
                                  replace hx810_2 := hc HB hx810_2
                                  replace hx810_3 := hc HB hx810_3
                                  replace hx810_4 := hc HB hx810_4
                                  replace hx810_5 := hc HB hx810_5
                                  replace hx810_6 := hc HB hx810_6
                                  replace p810 := eq_true p810
                                  replace q810 := eq_true q810
                                  try go_wp2_with (first | ((with_reducible refine gate_dst (N := 12) rfl ?_); refine box_event rfl (N := 12) rfl (cs := #[.string (⟨#[]⟩ : ByteArray), .int .i64 0, .bool false, .int .i64 0, .int .i64 0, .float .f64 0, .string (⟨#[]⟩ : ByteArray)]) (t := 105) gs ?_; intro gb811 hg w32 hbox hb; have n0_ := am (Kd.R_below (Kd.rr HO_10.out) hb); have n1_ := sb HB hb; have n2_ := am (hbox); have n3_ := gw hg HB; have n4_ := gw hg HB; clear HO_10; clear HB; have HO_10 := n0_; have HB := n1_; have BK811 := n2_; have GW811 := n3_; have GE811 := n4_; clear n0_ n1_ n2_ n3_ n4_; clear hb hbox hg; obtain ⟨Z33_0, Z33_1, Z33_2, Z33_3, Z33_4, Z33_5, Z33_6, Y33_0, Y33_1, Y33_2, Y33_3, Y33_4, Y33_5, Y33_6⟩ := bq7 BK811))
                                  have n0_ : Aside0 (Kd.R k50 50 (((((((w32.setCell ⟨gb811, 0, none⟩ (.string ((rd_T105 l0 x51_2).f0))).setCell ⟨gb811, 1, none⟩ (.int .i64 ((rd_T105 l0 x51_2).f1))).setCell ⟨gb811, 2, none⟩ (.bool ((rd_T105 l0 x51_2).f2))).setCell ⟨gb811, 3, none⟩ (.int .i64 ((rd_T105 l0 x51_2).f3.f0))).setCell ⟨gb811, 4, none⟩ (.int .i64 ((rd_T105 l0 x51_2).f3.f1))).setCell ⟨gb811, 5, none⟩ (.float .f64 ((rd_T105 l0 x51_2).f3.f2))).setCell ⟨gb811, 6, none⟩ (.string ((rd_T105 l0 x51_2).f3.f3))) w.heap.size (fun _ => True) u10 x10_2) := ⟨by (with_reducible repeat (first | apply Kd.R_alloc | apply Kd.R_drewN | apply Kd.R_drew)); exact Kd.R_mono (Kd.R_far (p := ⟨gb811, 6, none⟩) (Kd.R_far (p := ⟨gb811, 5, none⟩) (Kd.R_far (p := ⟨gb811, 4, none⟩) (Kd.R_far (p := ⟨gb811, 3, none⟩) (Kd.R_far (p := ⟨gb811, 2, none⟩) (Kd.R_far (p := ⟨gb811, 1, none⟩) (Kd.R_far (p := ⟨gb811, 0, none⟩) (Kd.R_types HO_10.out BK811.out (by decide)) (fun _ hk => hk.2) (.string ((rd_T105 l0 x51_2).f0))) (fun _ hk => hk.2) (.int .i64 ((rd_T105 l0 x51_2).f1))) (fun _ hk => hk.2) (.bool ((rd_T105 l0 x51_2).f2))) (fun _ hk => hk.2) (.int .i64 ((rd_T105 l0 x51_2).f3.f0))) (fun _ hk => hk.2) (.int .i64 ((rd_T105 l0 x51_2).f3.f1))) (fun _ hk => hk.2) (.float .f64 ((rd_T105 l0 x51_2).f3.f2))) (fun _ hk => hk.2) (.string ((rd_T105 l0 x51_2).f3.f3))) (fun _ hk => trivial)⟩
                                  have n1_ : Aside0 ((((((((w32.setCell ⟨gb811, 0, none⟩ (.string ((rd_T105 l0 x51_2).f0))).setCell ⟨gb811, 1, none⟩ (.int .i64 ((rd_T105 l0 x51_2).f1))).setCell ⟨gb811, 2, none⟩ (.bool ((rd_T105 l0 x51_2).f2))).setCell ⟨gb811, 3, none⟩ (.int .i64 ((rd_T105 l0 x51_2).f3.f0))).setCell ⟨gb811, 4, none⟩ (.int .i64 ((rd_T105 l0 x51_2).f3.f1))).setCell ⟨gb811, 5, none⟩ (.float .f64 ((rd_T105 l0 x51_2).f3.f2))).setCell ⟨gb811, 6, none⟩ (.string ((rd_T105 l0 x51_2).f3.f3))).heap[gb811]? = some (.cells #[.string ((rd_T105 l0 x51_2).f0), .int .i64 ((rd_T105 l0 x51_2).f1), .bool ((rd_T105 l0 x51_2).f2), .int .i64 ((rd_T105 l0 x51_2).f3.f0), .int .i64 ((rd_T105 l0 x51_2).f3.f1), .float .f64 ((rd_T105 l0 x51_2).f3.f2), .string ((rd_T105 l0 x51_2).f3.f3)] 105 (0, 0))) := ⟨by refine rp ?_; refine blk_put (cs := #[.string ((rd_T105 l0 x51_2).f0), .int .i64 ((rd_T105 l0 x51_2).f1), .bool ((rd_T105 l0 x51_2).f2), .int .i64 ((rd_T105 l0 x51_2).f3.f0), .int .i64 ((rd_T105 l0 x51_2).f3.f1), .float .f64 ((rd_T105 l0 x51_2).f3.f2), .string (⟨#[]⟩ : ByteArray)]) ?_ 6 _ rfl; refine rp ?_; refine blk_put (cs := #[.string ((rd_T105 l0 x51_2).f0), .int .i64 ((rd_T105 l0 x51_2).f1), .bool ((rd_T105 l0 x51_2).f2), .int .i64 ((rd_T105 l0 x51_2).f3.f0), .int .i64 ((rd_T105 l0 x51_2).f3.f1), .float .f64 0, .string (⟨#[]⟩ : ByteArray)]) ?_ 5 _ rfl; refine rp ?_; refine blk_put (cs := #[.string ((rd_T105 l0 x51_2).f0), .int .i64 ((rd_T105 l0 x51_2).f1), .bool ((rd_T105 l0 x51_2).f2), .int .i64 ((rd_T105 l0 x51_2).f3.f0), .int .i64 0, .float .f64 0, .string (⟨#[]⟩ : ByteArray)]) ?_ 4 _ rfl; refine rp ?_; refine blk_put (cs := #[.string ((rd_T105 l0 x51_2).f0), .int .i64 ((rd_T105 l0 x51_2).f1), .bool ((rd_T105 l0 x51_2).f2), .int .i64 0, .int .i64 0, .float .f64 0, .string (⟨#[]⟩ : ByteArray)]) ?_ 3 _ rfl; refine rp ?_; refine blk_put (cs := #[.string ((rd_T105 l0 x51_2).f0), .int .i64 ((rd_T105 l0 x51_2).f1), .bool false, .int .i64 0, .int .i64 0, .float .f64 0, .string (⟨#[]⟩ : ByteArray)]) ?_ 2 _ rfl; refine rp ?_; refine blk_put (cs := #[.string ((rd_T105 l0 x51_2).f0), .int .i64 0, .bool false, .int .i64 0, .int .i64 0, .float .f64 0, .string (⟨#[]⟩ : ByteArray)]) ?_ 1 _ rfl; refine rp ?_; refine blk_put (cs := #[.string (⟨#[]⟩ : ByteArray), .int .i64 0, .bool false, .int .i64 0, .int .i64 0, .float .f64 0, .string (⟨#[]⟩ : ByteArray)]) ?_ 0 _ rfl; exact bk BK811⟩
                                  have n2_ : Aside0 (Below w.heap.size w (((((((w32.setCell ⟨gb811, 0, none⟩ (.string ((rd_T105 l0 x51_2).f0))).setCell ⟨gb811, 1, none⟩ (.int .i64 ((rd_T105 l0 x51_2).f1))).setCell ⟨gb811, 2, none⟩ (.bool ((rd_T105 l0 x51_2).f2))).setCell ⟨gb811, 3, none⟩ (.int .i64 ((rd_T105 l0 x51_2).f3.f0))).setCell ⟨gb811, 4, none⟩ (.int .i64 ((rd_T105 l0 x51_2).f3.f1))).setCell ⟨gb811, 5, none⟩ (.float .f64 ((rd_T105 l0 x51_2).f3.f2))).setCell ⟨gb811, 6, none⟩ (.string ((rd_T105 l0 x51_2).f3.f3)))) := ⟨bl HB⟩
                                  (try clear HO_10)
                                  (try clear BK811)
                                  (try clear HB)
                                  generalize (((((((w32.setCell ⟨gb811, 0, none⟩ (.string ((rd_T105 l0 x51_2).f0))).setCell ⟨gb811, 1, none⟩ (.int .i64 ((rd_T105 l0 x51_2).f1))).setCell ⟨gb811, 2, none⟩ (.bool ((rd_T105 l0 x51_2).f2))).setCell ⟨gb811, 3, none⟩ (.int .i64 ((rd_T105 l0 x51_2).f3.f0))).setCell ⟨gb811, 4, none⟩ (.int .i64 ((rd_T105 l0 x51_2).f3.f1))).setCell ⟨gb811, 5, none⟩ (.float .f64 ((rd_T105 l0 x51_2).f3.f2))).setCell ⟨gb811, 6, none⟩ (.string ((rd_T105 l0 x51_2).f3.f3))) = w34 at n0_ n1_ n2_ ⊢
                                  have HO_10 := n0_
                                  have BK811 := n1_
                                  have HB := n2_
                                  clear n0_ n1_ n2_
                                  have n0_ := am (Kd.R_drew HO_10.out)
                                  have n1_ := am (blk_drew BK811.out)
                                  have n2_ := am (below_drew1 HB.out)
                                  clear HO_10
                                  clear BK811
                                  clear HB
                                  have HO_10 := n0_
                                  have BK811 := n1_
                                  have HB := n2_
                                  clear n0_ n1_ n2_
                                  have p25 : 0 ≤ ((ji22) : Int) := oda
                                  have q25 : (ji22) < ((a1.extract 0 ((ji4) : Int).toNat).size : Int) := oda
                                  have hx25 := bt_at (a1.extract 0 ((ji4) : Int).toNat) (ji22)
                                  (try (have qs25 := q25; simp only [ByteArray.size_extract, Nat.sub_zero] at qs25; replace qs25 := eq_true qs25))
                                  replace p25 := eq_true p25
                                  replace q25 := eq_true q25
                                  refine start_ (n := 20) (S := fun w' => w'.cell? ⟨gb811, 0, none⟩ = some (.string ((rd_T105 l0 x51_2).f0)) ∧ w'.cell? ⟨gb811, 1, none⟩ = some (.int .i64 ((rd_T105 l0 x51_2).f1)) ∧ w'.cell? ⟨gb811, 2, none⟩ = some (.bool ((rd_T105 l0 x51_2).f2)) ∧ w'.cell? ⟨gb811, 3, none⟩ = some (.int .i64 ((rd_T105 l0 x51_2).f3.f0)) ∧ w'.cell? ⟨gb811, 4, none⟩ = some (.int .i64 ((rd_T105 l0 x51_2).f3.f1)) ∧ w'.cell? ⟨gb811, 5, none⟩ = some (.float .f64 ((rd_T105 l0 x51_2).f3.f2)) ∧ w'.cell? ⟨gb811, 6, none⟩ = some (.string ((rd_T105 l0 x51_2).f3.f3))) (ds := []) (bb 0 20) (by kernel_rfl) rfl rfl ⟨(blk_cell BK811.out 0).trans rfl, (blk_cell BK811.out 1).trans rfl, (blk_cell BK811.out 2).trans rfl, (blk_cell BK811.out 3).trans rfl, (blk_cell BK811.out 4).trans rfl, (blk_cell BK811.out 5).trans rfl, (blk_cell BK811.out 6).trans rfl⟩ (fun hHeld => ?_); refine with_tabW row_decode.tab14 row_decode.bits14 (fun HT_ HW_ => ?_)
                                  generalize w34.drew = w35 at HO_10 BK811 HB hHeld ⊢
                                  refine pu HT_ 1 (some 58) (bs 20 2) ?_
                                  refine pu HT_ 2 (some 59) (bs 20 6) ?_
                                  refine pu HT_ 3 (some 60) (bs 20 14) ?_
                                  refine pu HT_ 5 (some 62) (bs 20 46) ?_
                                  refine pu HT_ 6 (some 63) (bs 20 110) ?_
                                  refine pu HT_ 7 (some 64) (bs 20 238) ?_
                                  refine pu HT_ 10 (some 67) (bs 20 1262) ?_
                                  refine tk HT_ HW_ hHeld 0 (some 57) (bs 20 1263) ?_
                                  refine tk HT_ HW_ hHeld 4 (some 61) (bs 20 1279) ?_
                                  refine pu HT_ 8 (some 65) (bs 20 1535) ?_
                                  refine pu HT_ 9 (some 66) (bb 11 20) ?_
                                  refine join_ (σ := Nat) 3 (bb 17 20) (fun s_ => [(68, .tuple #[.agg #[.int .i64 t812, .int .i64 t813, .float .f64 t814, .string t815], .string t816, .bool true]), (13, .pointer (some ⟨s_, 0, none⟩)), (56, .tuple #[.agg #[.int .i64 t812, .int .i64 t813, .float .f64 t814, .string t815], .string t816, .bool true]), (69, .agg #[.int .i64 t812, .int .i64 t813, .float .f64 t814, .string t815]), (70, .string t816), (71, .bool true)]) (fun s_ w' => (w'.cell? ⟨gb811, 0, none⟩ = some (.string ((rd_T105 l0 x51_2).f0)) ∧ w'.cell? ⟨gb811, 1, none⟩ = some (.int .i64 ((rd_T105 l0 x51_2).f1)) ∧ w'.cell? ⟨gb811, 2, none⟩ = some (.bool ((rd_T105 l0 x51_2).f2)) ∧ w'.cell? ⟨gb811, 3, none⟩ = some (.int .i64 ((rd_T105 l0 x51_2).f3.f0)) ∧ w'.cell? ⟨gb811, 4, none⟩ = some (.int .i64 ((rd_T105 l0 x51_2).f3.f1)) ∧ w'.cell? ⟨gb811, 5, none⟩ = some (.float .f64 ((rd_T105 l0 x51_2).f3.f2)) ∧ w'.cell? ⟨gb811, 6, none⟩ = some (.string ((rd_T105 l0 x51_2).f3.f3))) ∧ (Kd.R k50 50 w' w.heap.size (fun k_ => k_ ≠ s_) u10 x10_2) ∧ (w'.heap[gb811]? = some (.cells #[.string ((rd_T105 l0 x51_2).f0), .int .i64 ((rd_T105 l0 x51_2).f1), .bool ((rd_T105 l0 x51_2).f2), .int .i64 ((rd_T105 l0 x51_2).f3.f0), .int .i64 ((rd_T105 l0 x51_2).f3.f1), .float .f64 ((rd_T105 l0 x51_2).f3.f2), .string ((rd_T105 l0 x51_2).f3.f3)] 105 (0, 0))) ∧ (w'.heap[s_]? = some (.cells #[.int .i64 0, .int .i64 0, .float .f64 0, .string (⟨#[]⟩ : ByteArray)] 50 (0, 0))) ∧ (w.heap.size ≤ s_) ∧ (w.heap.size ≤ s_) ∧ (gb811 ≠ s_) ∧ (s_ ≠ gb811) ∧ (Below w.heap.size w w')) ?_ ?_
                                  rotate_left
                                  · intro hCont
                                    refine two_ (i := 11) (j := 16) (Ni := some 68) (Nj := some 13) (bb 12 20) (bs 20 67583) rfl rfl rfl rfl (two_of HT_.out (by kernel_rfl)) (by decide) (by decide) (fun K hK => ?_) (fun K hK => ?_)
                                    · skip
                                      refine goes_ Tryd.func131 (by kernel_rfl) rfl #[.agg #[.string ((rd_T105 l0 x51_2).f0), .int .i64 ((rd_T105 l0 x51_2).f1), .bool ((rd_T105 l0 x51_2).f2), .int .i64 ((rd_T105 l0 x51_2).f3.f0), .int .i64 ((rd_T105 l0 x51_2).f3.f1), .float .f64 ((rd_T105 l0 x51_2).f3.f2), .string ((rd_T105 l0 x51_2).f3.f3)], .int .u8 (Go.bits .and .u8 (ji28) 3), .string x1_2] (by rfl) rfl rfl (by (try simp only [List.map_toArray, List.map_cons, List.map_nil]); first | done | (simp only [hji28]; rfl) | rfl | (simp only [List.length_drop, List.length_take]; rfl)) ?_
                                      with_reducible refine (row_get.calls k2 ((rd_T105 l0 x51_2).f0) ((rd_T105 l0 x51_2).f1) ((rd_T105 l0 x51_2).f2) ((rd_T105 l0 x51_2).f3.f0) ((rd_T105 l0 x51_2).f3.f1) ((rd_T105 l0 x51_2).f3.f2) ((rd_T105 l0 x51_2).f3.f3) (Go.bits .and .u8 (ji28) 3) x1_2 t812 t813 t814 t815 t816 true _ ?side1 A29.out).mono ?_
                                      (case side1 => exact Glob.below HG.out (bl HB))
                                      rintro e w36 ⟨rfl, hb⟩
                                      refine ⟨_, rfl, ?_⟩
                                      have n0_ := am (Kd.R_below (Kd.rr HO_10.out) hb)
                                      have n1_ := kb BK811 hb
                                      have n2_ := sb HB hb
                                      clear HO_10
                                      clear BK811
                                      clear HB
                                      have HO_10 := n0_
                                      have BK811 := n1_
                                      have HB := n2_
                                      clear n0_ n1_ n2_
                                      (try clear hb)
                                      (try clear hb2)
                                      (try clear hk)
                                      (try clear hi)
                                      refine hK.out _ _ ⟨(blk_cell BK811.out 0).trans rfl, (blk_cell BK811.out 1).trans rfl, (blk_cell BK811.out 2).trans rfl, (blk_cell BK811.out 3).trans rfl, (blk_cell BK811.out 4).trans rfl, (blk_cell BK811.out 5).trans rfl, (blk_cell BK811.out 6).trans rfl⟩ (fun hHeld => ?_)
                                      clear hK K
                                      refine norm_ (a' := ?_) ?_ ?_
                                      rotate_left
                                      · show Act.put _ (some 68) _ = _
                                        simp only [Act.put, List.setIfInBounds_toArray, List.set_cons_zero, List.set_cons_succ, i64_w, i32_w]
                                        rfl
                                      refine pu HT_ 12 (some 56) (bb 13 20) ?_
                                      refine pu HT_ 13 (some 69) (bb 14 20) ?_
                                      refine pu HT_ 14 (some 70) (bb 15 20) ?_
                                      refine pu HT_ 15 (some 71) (bb 16 20) ?_
                                      refine one_ (i := 16) (N := some 13) (bb 17 20) rfl rfl (one_of HT_.out (by kernel_rfl)) (by decide) (fun K hK => ?_)
                                      refine box_step ?hg (N := 13) ?hd (cs := #[.int .i64 0, .int .i64 0, .float .f64 0, .string (⟨#[]⟩ : ByteArray)]) (t := 50) ?hr ?_; (case hd => rfl); (case hg => rfl); (case hr => first | (go_simp; done) | (go_simp; rfl))
                                      intro gb818 hg w37 hbox hb
                                      have n0_ := am (Kd.R_below (Kd.R_elderB (Kd.rr HO_10.out) gb818 (Nat.le_of_eq hg.symm)) hb)
                                      have n1_ := kb BK811 hb
                                      have n2_ := sb HB hb
                                      have n3_ := am (hbox)
                                      have n4_ := gw hg HB
                                      have n5_ := gw hg HB
                                      have n6_ := am ((by rw [hg]; exact Nat.ne_of_lt (blk_lt (bk BK811)) : gb811 ≠ gb818))
                                      have n7_ := am ((by rw [hg]; exact Nat.ne_of_gt (blk_lt (bk BK811)) : gb818 ≠ gb811))
                                      clear HO_10
                                      clear BK811
                                      clear HB
                                      have HO_10 := n0_
                                      have BK811 := n1_
                                      have HB := n2_
                                      have BK818 := n3_
                                      have GW818 := n4_
                                      have GE818 := n5_
                                      have NB811_818 := n6_
                                      have NB818_811 := n7_
                                      clear n0_ n1_ n2_ n3_ n4_ n5_ n6_ n7_
                                      clear hb hbox hg
                                      refine hK.out _ _ ⟨(blk_cell BK811.out 0).trans rfl, (blk_cell BK811.out 1).trans rfl, (blk_cell BK811.out 2).trans rfl, (blk_cell BK811.out 3).trans rfl, (blk_cell BK811.out 4).trans rfl, (blk_cell BK811.out 5).trans rfl, (blk_cell BK811.out 6).trans rfl⟩ (fun hHeld => ?_)
                                      clear hK K
                                      refine norm_ (a' := ?_) ?_ ?_
                                      rotate_left
                                      · show Act.put _ (some 13) _ = _
                                        simp only [Act.put, List.setIfInBounds_toArray, List.set_cons_zero, List.set_cons_succ, i64_w, i32_w]
                                        rfl
                                      exact norm_ (np) (hCont (gb818) _ ⟨hHeld, (by (with_reducible repeat (first | apply Kd.R_alloc | apply Kd.R_drewN | apply Kd.R_drew)); exact Kd.R_mono HO_10.out (fun _ hk => hk.2)), (bk BK811), (bk BK818), GW818.out, GE818.out, NB811_818.out, NB818_811.out, (bl HB)⟩)
                                    · skip
                                      refine box_step ?hg (N := 13) ?hd (cs := #[.int .i64 0, .int .i64 0, .float .f64 0, .string (⟨#[]⟩ : ByteArray)]) (t := 50) ?hr ?_; (case hd => rfl); (case hg => rfl); (case hr => first | (go_simp; done) | (go_simp; rfl))
                                      intro gb818 hg w36 hbox hb
                                      have n0_ := am (Kd.R_below (Kd.R_elderB (Kd.rr HO_10.out) gb818 (Nat.le_of_eq hg.symm)) hb)
                                      have n1_ := kb BK811 hb
                                      have n2_ := sb HB hb
                                      have n3_ := am (hbox)
                                      have n4_ := gw hg HB
                                      have n5_ := gw hg HB
                                      have n6_ := am ((by rw [hg]; exact Nat.ne_of_lt (blk_lt (bk BK811)) : gb811 ≠ gb818))
                                      have n7_ := am ((by rw [hg]; exact Nat.ne_of_gt (blk_lt (bk BK811)) : gb818 ≠ gb811))
                                      clear HO_10
                                      clear BK811
                                      clear HB
                                      have HO_10 := n0_
                                      have BK811 := n1_
                                      have HB := n2_
                                      have BK818 := n3_
                                      have GW818 := n4_
                                      have GE818 := n5_
                                      have NB811_818 := n6_
                                      have NB818_811 := n7_
                                      clear n0_ n1_ n2_ n3_ n4_ n5_ n6_ n7_
                                      clear hb hbox hg
                                      refine hK.out _ _ ⟨(blk_cell BK811.out 0).trans rfl, (blk_cell BK811.out 1).trans rfl, (blk_cell BK811.out 2).trans rfl, (blk_cell BK811.out 3).trans rfl, (blk_cell BK811.out 4).trans rfl, (blk_cell BK811.out 5).trans rfl, (blk_cell BK811.out 6).trans rfl⟩ (fun hHeld => ?_)
                                      clear hK K
                                      refine norm_ (a' := ?_) ?_ ?_
                                      rotate_left
                                      · show Act.put _ (some 13) _ = _
                                        simp only [Act.put, List.setIfInBounds_toArray, List.set_cons_zero, List.set_cons_succ, i64_w, i32_w]
                                        rfl
                                      refine one_ (i := 11) (N := some 68) (bs 20 69631) rfl rfl (one_of HT_.out (by kernel_rfl)) (by decide) (fun K hK => ?_)
                                      refine goes_ Tryd.func131 (by kernel_rfl) rfl #[.agg #[.string ((rd_T105 l0 x51_2).f0), .int .i64 ((rd_T105 l0 x51_2).f1), .bool ((rd_T105 l0 x51_2).f2), .int .i64 ((rd_T105 l0 x51_2).f3.f0), .int .i64 ((rd_T105 l0 x51_2).f3.f1), .float .f64 ((rd_T105 l0 x51_2).f3.f2), .string ((rd_T105 l0 x51_2).f3.f3)], .int .u8 (Go.bits .and .u8 (ji28) 3), .string x1_2] (by rfl) rfl rfl (by (try simp only [List.map_toArray, List.map_cons, List.map_nil]); first | done | (simp only [hji28]; rfl) | rfl | (simp only [List.length_drop, List.length_take]; rfl)) ?_
                                      with_reducible refine (row_get.calls k2 ((rd_T105 l0 x51_2).f0) ((rd_T105 l0 x51_2).f1) ((rd_T105 l0 x51_2).f2) ((rd_T105 l0 x51_2).f3.f0) ((rd_T105 l0 x51_2).f3.f1) ((rd_T105 l0 x51_2).f3.f2) ((rd_T105 l0 x51_2).f3.f3) (Go.bits .and .u8 (ji28) 3) x1_2 t812 t813 t814 t815 t816 true _ ?side1 A29.out).mono ?_
                                      (case side1 => exact Glob.below HG.out (bl HB))
                                      rintro e w37 ⟨rfl, hb⟩
                                      refine ⟨_, rfl, ?_⟩
                                      have n0_ := am (Kd.R_below (Kd.rr HO_10.out) hb)
                                      have n1_ := kb BK811 hb
                                      have n2_ := kb BK818 hb
                                      have n3_ := sb HB hb
                                      clear HO_10
                                      clear BK811
                                      clear BK818
                                      clear HB
                                      have HO_10 := n0_
                                      have BK811 := n1_
                                      have BK818 := n2_
                                      have HB := n3_
                                      clear n0_ n1_ n2_ n3_
                                      (try clear hb)
                                      (try clear hb2)
                                      (try clear hk)
                                      (try clear hi)
                                      refine hK.out _ _ ⟨(blk_cell BK811.out 0).trans rfl, (blk_cell BK811.out 1).trans rfl, (blk_cell BK811.out 2).trans rfl, (blk_cell BK811.out 3).trans rfl, (blk_cell BK811.out 4).trans rfl, (blk_cell BK811.out 5).trans rfl, (blk_cell BK811.out 6).trans rfl⟩ (fun hHeld => ?_)
                                      clear hK K
                                      refine norm_ (a' := ?_) ?_ ?_
                                      rotate_left
                                      · show Act.put _ (some 68) _ = _
                                        simp only [Act.put, List.setIfInBounds_toArray, List.set_cons_zero, List.set_cons_succ, i64_w, i32_w]
                                        rfl
                                      refine pu HT_ 12 (some 56) (bs 20 73727) ?_
                                      refine pu HT_ 13 (some 69) (bs 20 81919) ?_
                                      refine pu HT_ 14 (some 70) (bs 20 98303) ?_
                                      refine pu HT_ 15 (some 71) (bb 17 20) ?_
                                      exact norm_ (np) (hCont (gb818) _ ⟨hHeld, (by (with_reducible repeat (first | apply Kd.R_alloc | apply Kd.R_drewN | apply Kd.R_drew)); exact Kd.R_mono HO_10.out (fun _ hk => hk.2)), (bk BK811), (bk BK818), GW818.out, GE818.out, NB811_818.out, NB818_811.out, (bl HB)⟩)
                                  rintro gb818 w38 ⟨hS_, h0_, h1_, h2_, h3_, h4_, h5_, h6_, h7_⟩
                                  have n0_ : Aside0 (Kd.R k50 50 w38 w.heap.size (fun k_ => k_ ≠ gb818) u10 x10_2) := ⟨h0_⟩
                                  have n1_ : Aside0 (w38.heap[gb811]? = some (.cells #[.string ((rd_T105 l0 x51_2).f0), .int .i64 ((rd_T105 l0 x51_2).f1), .bool ((rd_T105 l0 x51_2).f2), .int .i64 ((rd_T105 l0 x51_2).f3.f0), .int .i64 ((rd_T105 l0 x51_2).f3.f1), .float .f64 ((rd_T105 l0 x51_2).f3.f2), .string ((rd_T105 l0 x51_2).f3.f3)] 105 (0, 0))) := ⟨h1_⟩
                                  have n2_ : Aside0 (w38.heap[gb818]? = some (.cells #[.int .i64 0, .int .i64 0, .float .f64 0, .string (⟨#[]⟩ : ByteArray)] 50 (0, 0))) := ⟨h2_⟩
                                  have n3_ : Aside0 (w.heap.size ≤ gb818) := ⟨h3_⟩
                                  have n4_ : Aside0 (w.heap.size ≤ gb818) := ⟨h4_⟩
                                  have n5_ : Aside0 (gb811 ≠ gb818) := ⟨h5_⟩
                                  have n6_ : Aside0 (gb818 ≠ gb811) := ⟨h6_⟩
                                  have n7_ : Aside0 (Below w.heap.size w w38) := ⟨h7_⟩
                                  clear HO_10
                                  clear BK811
                                  clear HB
                                  clear h0_ h1_ h2_ h3_ h4_ h5_ h6_ h7_
                                  have HO_10 := n0_
                                  have BK811 := n1_
                                  have BK818 := n2_
                                  have GW818 := n3_
                                  have GE818 := n4_
                                  have NB811_818 := n5_
                                  have NB818_811 := n6_
                                  have HB := n7_
                                  clear n0_ n1_ n2_ n3_ n4_ n5_ n6_ n7_
                                  have hHeld : w38.cell? ⟨gb811, 0, none⟩ = some (.string ((rd_T105 l0 x51_2).f0)) ∧ w38.cell? ⟨gb811, 1, none⟩ = some (.int .i64 ((rd_T105 l0 x51_2).f1)) ∧ w38.cell? ⟨gb811, 2, none⟩ = some (.bool ((rd_T105 l0 x51_2).f2)) ∧ w38.cell? ⟨gb811, 3, none⟩ = some (.int .i64 ((rd_T105 l0 x51_2).f3.f0)) ∧ w38.cell? ⟨gb811, 4, none⟩ = some (.int .i64 ((rd_T105 l0 x51_2).f3.f1)) ∧ w38.cell? ⟨gb811, 5, none⟩ = some (.float .f64 ((rd_T105 l0 x51_2).f3.f2)) ∧ w38.cell? ⟨gb811, 6, none⟩ = some (.string ((rd_T105 l0 x51_2).f3.f3)) := hS_
                                  refine norm_ (a' := ?_) ?_ ?_
                                  rotate_left
                                  · simp only [putAll, Act.put, List.setIfInBounds_toArray, List.set_cons_zero, List.set_cons_succ]
                                    rfl
                                  refine one_ (i := 17) (N := none) (bb 18 20) rfl rfl (one_of HT_.out (by kernel_rfl)) (by decide) (fun K hK => ?_)
                                  have hs39 : w38.cell? ⟨gb818, 0, none⟩ = some (.int .i64 0) := (blk_cell BK818.out 0).trans rfl
                                  have hfs39 := blk_frozen BK818.out 0
                                  have hns39_0 := NB811_818.out
                                  have hms39_0 := NB818_811.out
                                  have hs40 : w38.cell? ⟨gb818, 1, none⟩ = some (.int .i64 0) := (blk_cell BK818.out 1).trans rfl
                                  have hfs40 := blk_frozen BK818.out 1
                                  have hns40_0 := NB811_818.out
                                  have hms40_0 := NB818_811.out
                                  have hs41 : w38.cell? ⟨gb818, 2, none⟩ = some (.float .f64 0) := (blk_cell BK818.out 2).trans rfl
                                  have hfs41 := blk_frozen BK818.out 2
                                  have hns41_0 := NB811_818.out
                                  have hms41_0 := NB818_811.out
                                  have hs42 : w38.cell? ⟨gb818, 3, none⟩ = some (.string (⟨#[]⟩ : ByteArray)) := (blk_cell BK818.out 3).trans rfl
                                  have hfs42 := blk_frozen BK818.out 3
                                  have hns42_0 := NB811_818.out
                                  have hms42_0 := NB818_811.out
                                  refine skip_ (w1 := ?_) (by rfl) rfl ?_ ?_
                                  rotate_left
                                  · go_simp
                                    rfl
                                  refine hK.out _ _ ⟨((cell_far (p := ⟨gb818, _, none⟩) NB811_818.out _).trans (((cell_far (p := ⟨gb818, _, none⟩) NB811_818.out _).trans (((cell_far (p := ⟨gb818, _, none⟩) NB811_818.out _).trans (((cell_far (p := ⟨gb818, _, none⟩) NB811_818.out _).trans (hHeld.1)))))))), ((cell_far (p := ⟨gb818, _, none⟩) NB811_818.out _).trans (((cell_far (p := ⟨gb818, _, none⟩) NB811_818.out _).trans (((cell_far (p := ⟨gb818, _, none⟩) NB811_818.out _).trans (((cell_far (p := ⟨gb818, _, none⟩) NB811_818.out _).trans (hHeld.2.1)))))))), ((cell_far (p := ⟨gb818, _, none⟩) NB811_818.out _).trans (((cell_far (p := ⟨gb818, _, none⟩) NB811_818.out _).trans (((cell_far (p := ⟨gb818, _, none⟩) NB811_818.out _).trans (((cell_far (p := ⟨gb818, _, none⟩) NB811_818.out _).trans (hHeld.2.2.1)))))))), ((cell_far (p := ⟨gb818, _, none⟩) NB811_818.out _).trans (((cell_far (p := ⟨gb818, _, none⟩) NB811_818.out _).trans (((cell_far (p := ⟨gb818, _, none⟩) NB811_818.out _).trans (((cell_far (p := ⟨gb818, _, none⟩) NB811_818.out _).trans (hHeld.2.2.2.1)))))))), ((cell_far (p := ⟨gb818, _, none⟩) NB811_818.out _).trans (((cell_far (p := ⟨gb818, _, none⟩) NB811_818.out _).trans (((cell_far (p := ⟨gb818, _, none⟩) NB811_818.out _).trans (((cell_far (p := ⟨gb818, _, none⟩) NB811_818.out _).trans (hHeld.2.2.2.2.1)))))))), ((cell_far (p := ⟨gb818, _, none⟩) NB811_818.out _).trans (((cell_far (p := ⟨gb818, _, none⟩) NB811_818.out _).trans (((cell_far (p := ⟨gb818, _, none⟩) NB811_818.out _).trans (((cell_far (p := ⟨gb818, _, none⟩) NB811_818.out _).trans (hHeld.2.2.2.2.2.1)))))))), ((cell_far (p := ⟨gb818, _, none⟩) NB811_818.out _).trans (((cell_far (p := ⟨gb818, _, none⟩) NB811_818.out _).trans (((cell_far (p := ⟨gb818, _, none⟩) NB811_818.out _).trans (((cell_far (p := ⟨gb818, _, none⟩) NB811_818.out _).trans (hHeld.2.2.2.2.2.2))))))))⟩ (fun hHeld => ?_)
                                  clear hK K
                                  refine pu HT_ 18 (some 14) (bb 19 20) ?_
                                  refine pu HT_ 19 (some 15) (bb 20 20) ?_
                                  refine done_ (done_of HT_.out (by kernel_rfl)) ?_
                                  have hnb43 := NB818_811.out
                                  have hnc43 := NB811_818.out
                                  obtain ⟨Z44_0, Z44_1, Z44_2, Z44_3, Y44_0, Y44_1, Y44_2, Y44_3⟩ := bq4 BK818
                                  try go_wp2_with (first | ((with_reducible refine gate_builtin (b := .append) (xs := #[.tmp 74, .tmp 76]) rfl ?_); at_builtin; refine Kd.R_append k50 (w0 := w) w.heap.size rfl (.tmp 74) (.tmp 76) 22 50 (.agg #[(.int .i64 0), (.int .i64 0), (.float .f64 0), (.string ⟨#[]⟩)]) 40 rfl Tryd.underlying22 info50 rfl (by decide) (by omega) u10 x10_2 (⟨t812, t813, t814, t815⟩ : S50) [.int .i64 t812, .int .i64 t813, .float .f64 t814, .string t815] (fun k_ => k_ ≠ gb818) (fun _ => False) rfl (by first | (go_simp; done) | (go_simp; rfl)) ?aP (fun _ hk => hk.elim) ?aF ?aO ?aB ?aS ?aL ?_; (case aP => exact k50_mkM _ _ _ (⟨t812, t813, t814, t815⟩ : S50)); (case aB => exact (bl HB)); (case aF => exact (fun k_ hk => Kd.freshB (g := gb818) (o := .cells #[.int .i64 t812, .int .i64 t813, .float .f64 t814, .string t815] 50 (0, 0)) (by refine rp ?_; refine blk_put (cs := #[.int .i64 t812, .int .i64 t813, .float .f64 t814, .string (⟨#[]⟩ : ByteArray)]) ?_ 3 _ rfl; refine rp ?_; refine blk_put (cs := #[.int .i64 t812, .int .i64 t813, .float .f64 0, .string (⟨#[]⟩ : ByteArray)]) ?_ 2 _ rfl; refine rp ?_; refine blk_put (cs := #[.int .i64 t812, .int .i64 0, .float .f64 0, .string (⟨#[]⟩ : ByteArray)]) ?_ 1 _ rfl; refine rp ?_; refine blk_put (cs := #[.int .i64 0, .int .i64 0, .float .f64 0, .string (⟨#[]⟩ : ByteArray)]) ?_ 0 _ rfl; exact bk BK818) k_ hk)); (case aO => exact (by (with_reducible repeat (first | apply Kd.R_alloc | apply Kd.R_drewN | apply Kd.R_drew)); exact Kd.R_mono (Kd.R_far (p := ⟨gb818, 3, none⟩) (Kd.R_far (p := ⟨gb818, 2, none⟩) (Kd.R_far (p := ⟨gb818, 1, none⟩) (Kd.R_far (p := ⟨gb818, 0, none⟩) (Kd.R_mono HO_10.out (fun k_ hk => (⟨hk, hk⟩ : _ ∧ k_ ≠ gb818))) (fun _ hk => hk.2) (.int .i64 t812)) (fun _ hk => hk.2) (.int .i64 t813)) (fun _ hk => hk.2) (.float .f64 t814)) (fun _ hk => hk.2) (.string t815)) (fun _ hk => hk.1))); (case aS => exact (below_size (bl HB))); (case aL => have := LMc31.out; omega); intro v820 w45 ho hb hg hat; rw [← Ny819.out] at ho; have n0_ := am (blk_grown (g := gb811) (o := .cells #[.string ((rd_T105 l0 x51_2).f0), .int .i64 ((rd_T105 l0 x51_2).f1), .bool ((rd_T105 l0 x51_2).f2), .int .i64 ((rd_T105 l0 x51_2).f3.f0), .int .i64 ((rd_T105 l0 x51_2).f3.f1), .float .f64 ((rd_T105 l0 x51_2).f3.f2), .string ((rd_T105 l0 x51_2).f3.f3)] 105 (0, 0)) (by refine rp ?_; refine blk_far ?_ NB811_818.out _; refine rp ?_; refine blk_far ?_ NB811_818.out _; refine rp ?_; refine blk_far ?_ NB811_818.out _; refine rp ?_; refine blk_far ?_ NB811_818.out _; exact bk BK811) hg (Kd.R_ne HO_10.out BK811.out (by decide))); have n1_ := am (blk_grown (g := gb818) (o := .cells #[.int .i64 t812, .int .i64 t813, .float .f64 t814, .string t815] 50 (0, 0)) (by refine rp ?_; refine blk_put (cs := #[.int .i64 t812, .int .i64 t813, .float .f64 t814, .string (⟨#[]⟩ : ByteArray)]) ?_ 3 _ rfl; refine rp ?_; refine blk_put (cs := #[.int .i64 t812, .int .i64 t813, .float .f64 0, .string (⟨#[]⟩ : ByteArray)]) ?_ 2 _ rfl; refine rp ?_; refine blk_put (cs := #[.int .i64 t812, .int .i64 0, .float .f64 0, .string (⟨#[]⟩ : ByteArray)]) ?_ 1 _ rfl; refine rp ?_; refine blk_put (cs := #[.int .i64 0, .int .i64 0, .float .f64 0, .string (⟨#[]⟩ : ByteArray)]) ?_ 0 _ rfl; exact bk BK818) hg (Kd.R_away HO_10.out (fun _ hk => hk))); have n2_ := am (hb); have n3_ := am (ho); clear BK811; clear BK818; clear HB; clear HO_10; have BK811 := n0_; have BK818 := n1_; have HB := n2_; have HO821 := n3_; clear n0_ n1_ n2_ n3_; clear ho hb hg hat))
                                  go_roundg k2
                                  case measure => have := HK1.out; have := HK2.out; omega
                                  case rel => exact ⟨(t816), (y819), (wrap64 (x51_2 + 1)), eb, eb, H', ⟨by have := HK1.out; have := HK2.out; omega⟩, ⟨by (with_reducible repeat (first | apply Kd.R_alloc | apply Kd.R_drewN | apply Kd.R_drew)); exact Kd.R_mono HO821.out (fun _ hk => trivial)⟩, ⟨bl HB⟩⟩
                                · rw [if_neg c31] at H
                                  exact absurd H (by simp)
                              · replace c30 := Bool.eq_false_iff.mpr c30
                                subst c30
                                have H1 : (some (([] : List (S50)), (⟨#[]⟩ : ByteArray), false)) = some (r1, r2, r3) := by rw [if_neg (show ¬ (false = true) by decide)] at H; exact H
                                clear H
                                have H := H1
                                clear H1
                                simp only [Option.some.injEq, Prod.mk.injEq] at H
                                obtain ⟨rfl, rfl, rfl⟩ := H
                                have p810 : 0 ≤ (x51_2 : Int) := oda
                                have q810 : x51_2 < (l0.length : Int) := oda
                                obtain ⟨ad810, e810, hx810_0, hx810_1, hx810_2, hx810_3, hx810_4, hx810_5, hx810_6⟩ := at_T105 HR0.out x51_2 p810 q810
                                cases e810
                                replace hx810_0 := hc HB hx810_0
                                replace hx810_1 := hc HB hx810_1
                                replace hx810_2 := hc HB hx810_2
                                replace hx810_3 := hc HB hx810_3
                                replace hx810_4 := hc HB hx810_4
                                replace hx810_5 := hc HB hx810_5
                                replace hx810_6 := hc HB hx810_6
                                replace p810 := eq_true p810
                                replace q810 := eq_true q810
                                try go_wp2_with (first | ((with_reducible refine gate_dst (N := 12) rfl ?_); refine box_event rfl (N := 12) rfl (cs := #[.string (⟨#[]⟩ : ByteArray), .int .i64 0, .bool false, .int .i64 0, .int .i64 0, .float .f64 0, .string (⟨#[]⟩ : ByteArray)]) (t := 105) gs ?_; intro gb811 hg w46 hbox hb; have n0_ := am (Kd.R_below (Kd.rr HO_10.out) hb); have n1_ := sb HB hb; have n2_ := am (hbox); have n3_ := gw hg HB; have n4_ := gw hg HB; clear HO_10; clear HB; have HO_10 := n0_; have HB := n1_; have BK811 := n2_; have GW811 := n3_; have GE811 := n4_; clear n0_ n1_ n2_ n3_ n4_; clear hb hbox hg; obtain ⟨Z47_0, Z47_1, Z47_2, Z47_3, Z47_4, Z47_5, Z47_6, Y47_0, Y47_1, Y47_2, Y47_3, Y47_4, Y47_5, Y47_6⟩ := bq7 BK811))
                                have n0_ : Aside0 (Kd.R k50 50 (((((((w46.setCell ⟨gb811, 0, none⟩ (.string ((rd_T105 l0 x51_2).f0))).setCell ⟨gb811, 1, none⟩ (.int .i64 ((rd_T105 l0 x51_2).f1))).setCell ⟨gb811, 2, none⟩ (.bool ((rd_T105 l0 x51_2).f2))).setCell ⟨gb811, 3, none⟩ (.int .i64 ((rd_T105 l0 x51_2).f3.f0))).setCell ⟨gb811, 4, none⟩ (.int .i64 ((rd_T105 l0 x51_2).f3.f1))).setCell ⟨gb811, 5, none⟩ (.float .f64 ((rd_T105 l0 x51_2).f3.f2))).setCell ⟨gb811, 6, none⟩ (.string ((rd_T105 l0 x51_2).f3.f3))) w.heap.size (fun _ => True) u10 x10_2) := ⟨by (with_reducible repeat (first | apply Kd.R_alloc | apply Kd.R_drewN | apply Kd.R_drew)); exact Kd.R_mono (Kd.R_far (p := ⟨gb811, 6, none⟩) (Kd.R_far (p := ⟨gb811, 5, none⟩) (Kd.R_far (p := ⟨gb811, 4, none⟩) (Kd.R_far (p := ⟨gb811, 3, none⟩) (Kd.R_far (p := ⟨gb811, 2, none⟩) (Kd.R_far (p := ⟨gb811, 1, none⟩) (Kd.R_far (p := ⟨gb811, 0, none⟩) (Kd.R_types HO_10.out BK811.out (by decide)) (fun _ hk => hk.2) (.string ((rd_T105 l0 x51_2).f0))) (fun _ hk => hk.2) (.int .i64 ((rd_T105 l0 x51_2).f1))) (fun _ hk => hk.2) (.bool ((rd_T105 l0 x51_2).f2))) (fun _ hk => hk.2) (.int .i64 ((rd_T105 l0 x51_2).f3.f0))) (fun _ hk => hk.2) (.int .i64 ((rd_T105 l0 x51_2).f3.f1))) (fun _ hk => hk.2) (.float .f64 ((rd_T105 l0 x51_2).f3.f2))) (fun _ hk => hk.2) (.string ((rd_T105 l0 x51_2).f3.f3))) (fun _ hk => trivial)⟩
                                have n1_ : Aside0 ((((((((w46.setCell ⟨gb811, 0, none⟩ (.string ((rd_T105 l0 x51_2).f0))).setCell ⟨gb811, 1, none⟩ (.int .i64 ((rd_T105 l0 x51_2).f1))).setCell ⟨gb811, 2, none⟩ (.bool ((rd_T105 l0 x51_2).f2))).setCell ⟨gb811, 3, none⟩ (.int .i64 ((rd_T105 l0 x51_2).f3.f0))).setCell ⟨gb811, 4, none⟩ (.int .i64 ((rd_T105 l0 x51_2).f3.f1))).setCell ⟨gb811, 5, none⟩ (.float .f64 ((rd_T105 l0 x51_2).f3.f2))).setCell ⟨gb811, 6, none⟩ (.string ((rd_T105 l0 x51_2).f3.f3))).heap[gb811]? = some (.cells #[.string ((rd_T105 l0 x51_2).f0), .int .i64 ((rd_T105 l0 x51_2).f1), .bool ((rd_T105 l0 x51_2).f2), .int .i64 ((rd_T105 l0 x51_2).f3.f0), .int .i64 ((rd_T105 l0 x51_2).f3.f1), .float .f64 ((rd_T105 l0 x51_2).f3.f2), .string ((rd_T105 l0 x51_2).f3.f3)] 105 (0, 0))) := ⟨by refine rp ?_; refine blk_put (cs := #[.string ((rd_T105 l0 x51_2).f0), .int .i64 ((rd_T105 l0 x51_2).f1), .bool ((rd_T105 l0 x51_2).f2), .int .i64 ((rd_T105 l0 x51_2).f3.f0), .int .i64 ((rd_T105 l0 x51_2).f3.f1), .float .f64 ((rd_T105 l0 x51_2).f3.f2), .string (⟨#[]⟩ : ByteArray)]) ?_ 6 _ rfl; refine rp ?_; refine blk_put (cs := #[.string ((rd_T105 l0 x51_2).f0), .int .i64 ((rd_T105 l0 x51_2).f1), .bool ((rd_T105 l0 x51_2).f2), .int .i64 ((rd_T105 l0 x51_2).f3.f0), .int .i64 ((rd_T105 l0 x51_2).f3.f1), .float .f64 0, .string (⟨#[]⟩ : ByteArray)]) ?_ 5 _ rfl; refine rp ?_; refine blk_put (cs := #[.string ((rd_T105 l0 x51_2).f0), .int .i64 ((rd_T105 l0 x51_2).f1), .bool ((rd_T105 l0 x51_2).f2), .int .i64 ((rd_T105 l0 x51_2).f3.f0), .int .i64 0, .float .f64 0, .string (⟨#[]⟩ : ByteArray)]) ?_ 4 _ rfl; refine rp ?_; refine blk_put (cs := #[.string ((rd_T105 l0 x51_2).f0), .int .i64 ((rd_T105 l0 x51_2).f1), .bool ((rd_T105 l0 x51_2).f2), .int .i64 0, .int .i64 0, .float .f64 0, .string (⟨#[]⟩ : ByteArray)]) ?_ 3 _ rfl; refine rp ?_; refine blk_put (cs := #[.string ((rd_T105 l0 x51_2).f0), .int .i64 ((rd_T105 l0 x51_2).f1), .bool false, .int .i64 0, .int .i64 0, .float .f64 0, .string (⟨#[]⟩ : ByteArray)]) ?_ 2 _ rfl; refine rp ?_; refine blk_put (cs := #[.string ((rd_T105 l0 x51_2).f0), .int .i64 0, .bool false, .int .i64 0, .int .i64 0, .float .f64 0, .string (⟨#[]⟩ : ByteArray)]) ?_ 1 _ rfl; refine rp ?_; refine blk_put (cs := #[.string (⟨#[]⟩ : ByteArray), .int .i64 0, .bool false, .int .i64 0, .int .i64 0, .float .f64 0, .string (⟨#[]⟩ : ByteArray)]) ?_ 0 _ rfl; exact bk BK811⟩
                                have n2_ : Aside0 (Below w.heap.size w (((((((w46.setCell ⟨gb811, 0, none⟩ (.string ((rd_T105 l0 x51_2).f0))).setCell ⟨gb811, 1, none⟩ (.int .i64 ((rd_T105 l0 x51_2).f1))).setCell ⟨gb811, 2, none⟩ (.bool ((rd_T105 l0 x51_2).f2))).setCell ⟨gb811, 3, none⟩ (.int .i64 ((rd_T105 l0 x51_2).f3.f0))).setCell ⟨gb811, 4, none⟩ (.int .i64 ((rd_T105 l0 x51_2).f3.f1))).setCell ⟨gb811, 5, none⟩ (.float .f64 ((rd_T105 l0 x51_2).f3.f2))).setCell ⟨gb811, 6, none⟩ (.string ((rd_T105 l0 x51_2).f3.f3)))) := ⟨bl HB⟩
                                (try clear HO_10)
                                (try clear BK811)
                                (try clear HB)
                                generalize (((((((w46.setCell ⟨gb811, 0, none⟩ (.string ((rd_T105 l0 x51_2).f0))).setCell ⟨gb811, 1, none⟩ (.int .i64 ((rd_T105 l0 x51_2).f1))).setCell ⟨gb811, 2, none⟩ (.bool ((rd_T105 l0 x51_2).f2))).setCell ⟨gb811, 3, none⟩ (.int .i64 ((rd_T105 l0 x51_2).f3.f0))).setCell ⟨gb811, 4, none⟩ (.int .i64 ((rd_T105 l0 x51_2).f3.f1))).setCell ⟨gb811, 5, none⟩ (.float .f64 ((rd_T105 l0 x51_2).f3.f2))).setCell ⟨gb811, 6, none⟩ (.string ((rd_T105 l0 x51_2).f3.f3))) = w48 at n0_ n1_ n2_ ⊢
                                have HO_10 := n0_
                                have BK811 := n1_
                                have HB := n2_
                                clear n0_ n1_ n2_
                                have n0_ := am (Kd.R_drew HO_10.out)
                                have n1_ := am (blk_drew BK811.out)
                                have n2_ := am (below_drew1 HB.out)
                                clear HO_10
                                clear BK811
                                clear HB
                                have HO_10 := n0_
                                have BK811 := n1_
                                have HB := n2_
                                clear n0_ n1_ n2_
                                have p25 : 0 ≤ ((ji22) : Int) := oda
                                have q25 : (ji22) < ((a1.extract 0 ((ji4) : Int).toNat).size : Int) := oda
                                have hx25 := bt_at (a1.extract 0 ((ji4) : Int).toNat) (ji22)
                                (try (have qs25 := q25; simp only [ByteArray.size_extract, Nat.sub_zero] at qs25; replace qs25 := eq_true qs25))
                                replace p25 := eq_true p25
                                replace q25 := eq_true q25
                                refine start_ (n := 20) (S := fun w' => w'.cell? ⟨gb811, 0, none⟩ = some (.string ((rd_T105 l0 x51_2).f0)) ∧ w'.cell? ⟨gb811, 1, none⟩ = some (.int .i64 ((rd_T105 l0 x51_2).f1)) ∧ w'.cell? ⟨gb811, 2, none⟩ = some (.bool ((rd_T105 l0 x51_2).f2)) ∧ w'.cell? ⟨gb811, 3, none⟩ = some (.int .i64 ((rd_T105 l0 x51_2).f3.f0)) ∧ w'.cell? ⟨gb811, 4, none⟩ = some (.int .i64 ((rd_T105 l0 x51_2).f3.f1)) ∧ w'.cell? ⟨gb811, 5, none⟩ = some (.float .f64 ((rd_T105 l0 x51_2).f3.f2)) ∧ w'.cell? ⟨gb811, 6, none⟩ = some (.string ((rd_T105 l0 x51_2).f3.f3))) (ds := []) (bb 0 20) (by kernel_rfl) rfl rfl ⟨(blk_cell BK811.out 0).trans rfl, (blk_cell BK811.out 1).trans rfl, (blk_cell BK811.out 2).trans rfl, (blk_cell BK811.out 3).trans rfl, (blk_cell BK811.out 4).trans rfl, (blk_cell BK811.out 5).trans rfl, (blk_cell BK811.out 6).trans rfl⟩ (fun hHeld => ?_); refine with_tabW row_decode.tab14 row_decode.bits14 (fun HT_ HW_ => ?_)
                                generalize w48.drew = w49 at HO_10 BK811 HB hHeld ⊢
                                refine pu HT_ 1 (some 58) (bs 20 2) ?_
                                refine pu HT_ 2 (some 59) (bs 20 6) ?_
                                refine pu HT_ 3 (some 60) (bs 20 14) ?_
                                refine pu HT_ 5 (some 62) (bs 20 46) ?_
                                refine pu HT_ 6 (some 63) (bs 20 110) ?_
                                refine pu HT_ 7 (some 64) (bs 20 238) ?_
                                refine pu HT_ 10 (some 67) (bs 20 1262) ?_
                                refine tk HT_ HW_ hHeld 0 (some 57) (bs 20 1263) ?_
                                refine tk HT_ HW_ hHeld 4 (some 61) (bs 20 1279) ?_
                                refine pu HT_ 8 (some 65) (bs 20 1535) ?_
                                refine pu HT_ 9 (some 66) (bb 11 20) ?_
                                refine join_ (σ := Nat) 3 (bb 17 20) (fun s_ => [(68, .tuple #[.agg #[.int .i64 t812, .int .i64 t813, .float .f64 t814, .string t815], .string t816, .bool false]), (13, .pointer (some ⟨s_, 0, none⟩)), (56, .tuple #[.agg #[.int .i64 t812, .int .i64 t813, .float .f64 t814, .string t815], .string t816, .bool false]), (69, .agg #[.int .i64 t812, .int .i64 t813, .float .f64 t814, .string t815]), (70, .string t816), (71, .bool false)]) (fun s_ w' => (w'.cell? ⟨gb811, 0, none⟩ = some (.string ((rd_T105 l0 x51_2).f0)) ∧ w'.cell? ⟨gb811, 1, none⟩ = some (.int .i64 ((rd_T105 l0 x51_2).f1)) ∧ w'.cell? ⟨gb811, 2, none⟩ = some (.bool ((rd_T105 l0 x51_2).f2)) ∧ w'.cell? ⟨gb811, 3, none⟩ = some (.int .i64 ((rd_T105 l0 x51_2).f3.f0)) ∧ w'.cell? ⟨gb811, 4, none⟩ = some (.int .i64 ((rd_T105 l0 x51_2).f3.f1)) ∧ w'.cell? ⟨gb811, 5, none⟩ = some (.float .f64 ((rd_T105 l0 x51_2).f3.f2)) ∧ w'.cell? ⟨gb811, 6, none⟩ = some (.string ((rd_T105 l0 x51_2).f3.f3))) ∧ (Kd.R k50 50 w' w.heap.size (fun k_ => k_ ≠ s_) u10 x10_2) ∧ (w'.heap[gb811]? = some (.cells #[.string ((rd_T105 l0 x51_2).f0), .int .i64 ((rd_T105 l0 x51_2).f1), .bool ((rd_T105 l0 x51_2).f2), .int .i64 ((rd_T105 l0 x51_2).f3.f0), .int .i64 ((rd_T105 l0 x51_2).f3.f1), .float .f64 ((rd_T105 l0 x51_2).f3.f2), .string ((rd_T105 l0 x51_2).f3.f3)] 105 (0, 0))) ∧ (w'.heap[s_]? = some (.cells #[.int .i64 0, .int .i64 0, .float .f64 0, .string (⟨#[]⟩ : ByteArray)] 50 (0, 0))) ∧ (w.heap.size ≤ s_) ∧ (w.heap.size ≤ s_) ∧ (gb811 ≠ s_) ∧ (s_ ≠ gb811) ∧ (Below w.heap.size w w')) ?_ ?_
                                rotate_left
                                · intro hCont
                                  refine two_ (i := 11) (j := 16) (Ni := some 68) (Nj := some 13) (bb 12 20) (bs 20 67583) rfl rfl rfl rfl (two_of HT_.out (by kernel_rfl)) (by decide) (by decide) (fun K hK => ?_) (fun K hK => ?_)
                                  · skip
                                    refine goes_ Tryd.func131 (by kernel_rfl) rfl #[.agg #[.string ((rd_T105 l0 x51_2).f0), .int .i64 ((rd_T105 l0 x51_2).f1), .bool ((rd_T105 l0 x51_2).f2), .int .i64 ((rd_T105 l0 x51_2).f3.f0), .int .i64 ((rd_T105 l0 x51_2).f3.f1), .float .f64 ((rd_T105 l0 x51_2).f3.f2), .string ((rd_T105 l0 x51_2).f3.f3)], .int .u8 (Go.bits .and .u8 (ji28) 3), .string x1_2] (by rfl) rfl rfl (by (try simp only [List.map_toArray, List.map_cons, List.map_nil]); first | done | (simp only [hji28]; rfl) | rfl | (simp only [List.length_drop, List.length_take]; rfl)) ?_
                                    with_reducible refine (row_get.calls k2 ((rd_T105 l0 x51_2).f0) ((rd_T105 l0 x51_2).f1) ((rd_T105 l0 x51_2).f2) ((rd_T105 l0 x51_2).f3.f0) ((rd_T105 l0 x51_2).f3.f1) ((rd_T105 l0 x51_2).f3.f2) ((rd_T105 l0 x51_2).f3.f3) (Go.bits .and .u8 (ji28) 3) x1_2 t812 t813 t814 t815 t816 false _ ?side1 A29.out).mono ?_
                                    (case side1 => exact Glob.below HG.out (bl HB))
                                    rintro e w50 ⟨rfl, hb⟩
                                    refine ⟨_, rfl, ?_⟩
                                    have n0_ := am (Kd.R_below (Kd.rr HO_10.out) hb)
                                    have n1_ := kb BK811 hb
                                    have n2_ := sb HB hb
                                    clear HO_10
                                    clear BK811
                                    clear HB
                                    have HO_10 := n0_
                                    have BK811 := n1_
                                    have HB := n2_
                                    clear n0_ n1_ n2_
                                    (try clear hb)
                                    (try clear hb2)
                                    (try clear hk)
                                    (try clear hi)
                                    refine hK.out _ _ ⟨(blk_cell BK811.out 0).trans rfl, (blk_cell BK811.out 1).trans rfl, (blk_cell BK811.out 2).trans rfl, (blk_cell BK811.out 3).trans rfl, (blk_cell BK811.out 4).trans rfl, (blk_cell BK811.out 5).trans rfl, (blk_cell BK811.out 6).trans rfl⟩ (fun hHeld => ?_)
                                    clear hK K
                                    refine norm_ (a' := ?_) ?_ ?_
                                    rotate_left
                                    · show Act.put _ (some 68) _ = _
                                      simp only [Act.put, List.setIfInBounds_toArray, List.set_cons_zero, List.set_cons_succ, i64_w, i32_w]
                                      rfl
                                    refine pu HT_ 12 (some 56) (bb 13 20) ?_
                                    refine pu HT_ 13 (some 69) (bb 14 20) ?_
                                    refine pu HT_ 14 (some 70) (bb 15 20) ?_
                                    refine pu HT_ 15 (some 71) (bb 16 20) ?_
                                    refine one_ (i := 16) (N := some 13) (bb 17 20) rfl rfl (one_of HT_.out (by kernel_rfl)) (by decide) (fun K hK => ?_)
                                    refine box_step ?hg (N := 13) ?hd (cs := #[.int .i64 0, .int .i64 0, .float .f64 0, .string (⟨#[]⟩ : ByteArray)]) (t := 50) ?hr ?_; (case hd => rfl); (case hg => rfl); (case hr => first | (go_simp; done) | (go_simp; rfl))
                                    intro gb818 hg w51 hbox hb
                                    have n0_ := am (Kd.R_below (Kd.R_elderB (Kd.rr HO_10.out) gb818 (Nat.le_of_eq hg.symm)) hb)
                                    have n1_ := kb BK811 hb
                                    have n2_ := sb HB hb
                                    have n3_ := am (hbox)
                                    have n4_ := gw hg HB
                                    have n5_ := gw hg HB
                                    have n6_ := am ((by rw [hg]; exact Nat.ne_of_lt (blk_lt (bk BK811)) : gb811 ≠ gb818))
                                    have n7_ := am ((by rw [hg]; exact Nat.ne_of_gt (blk_lt (bk BK811)) : gb818 ≠ gb811))
                                    clear HO_10
                                    clear BK811
                                    clear HB
                                    have HO_10 := n0_
                                    have BK811 := n1_
                                    have HB := n2_
                                    have BK818 := n3_
                                    have GW818 := n4_
                                    have GE818 := n5_
                                    have NB811_818 := n6_
                                    have NB818_811 := n7_
                                    clear n0_ n1_ n2_ n3_ n4_ n5_ n6_ n7_
                                    clear hb hbox hg
                                    refine hK.out _ _ ⟨(blk_cell BK811.out 0).trans rfl, (blk_cell BK811.out 1).trans rfl, (blk_cell BK811.out 2).trans rfl, (blk_cell BK811.out 3).trans rfl, (blk_cell BK811.out 4).trans rfl, (blk_cell BK811.out 5).trans rfl, (blk_cell BK811.out 6).trans rfl⟩ (fun hHeld => ?_)
                                    clear hK K
                                    refine norm_ (a' := ?_) ?_ ?_
                                    rotate_left
                                    · show Act.put _ (some 13) _ = _
                                      simp only [Act.put, List.setIfInBounds_toArray, List.set_cons_zero, List.set_cons_succ, i64_w, i32_w]
                                      rfl
                                    exact norm_ (np) (hCont (gb818) _ ⟨hHeld, (by (with_reducible repeat (first | apply Kd.R_alloc | apply Kd.R_drewN | apply Kd.R_drew)); exact Kd.R_mono HO_10.out (fun _ hk => hk.2)), (bk BK811), (bk BK818), GW818.out, GE818.out, NB811_818.out, NB818_811.out, (bl HB)⟩)
                                  · skip
                                    refine box_step ?hg (N := 13) ?hd (cs := #[.int .i64 0, .int .i64 0, .float .f64 0, .string (⟨#[]⟩ : ByteArray)]) (t := 50) ?hr ?_; (case hd => rfl); (case hg => rfl); (case hr => first | (go_simp; done) | (go_simp; rfl))
                                    intro gb818 hg w50 hbox hb
                                    have n0_ := am (Kd.R_below (Kd.R_elderB (Kd.rr HO_10.out) gb818 (Nat.le_of_eq hg.symm)) hb)
                                    have n1_ := kb BK811 hb
                                    have n2_ := sb HB hb
                                    have n3_ := am (hbox)
                                    have n4_ := gw hg HB
                                    have n5_ := gw hg HB
                                    have n6_ := am ((by rw [hg]; exact Nat.ne_of_lt (blk_lt (bk BK811)) : gb811 ≠ gb818))
                                    have n7_ := am ((by rw [hg]; exact Nat.ne_of_gt (blk_lt (bk BK811)) : gb818 ≠ gb811))
                                    clear HO_10
                                    clear BK811
                                    clear HB
                                    have HO_10 := n0_
                                    have BK811 := n1_
                                    have HB := n2_
                                    have BK818 := n3_
                                    have GW818 := n4_
                                    have GE818 := n5_
                                    have NB811_818 := n6_
                                    have NB818_811 := n7_
                                    clear n0_ n1_ n2_ n3_ n4_ n5_ n6_ n7_
                                    clear hb hbox hg
                                    refine hK.out _ _ ⟨(blk_cell BK811.out 0).trans rfl, (blk_cell BK811.out 1).trans rfl, (blk_cell BK811.out 2).trans rfl, (blk_cell BK811.out 3).trans rfl, (blk_cell BK811.out 4).trans rfl, (blk_cell BK811.out 5).trans rfl, (blk_cell BK811.out 6).trans rfl⟩ (fun hHeld => ?_)
                                    clear hK K
                                    refine norm_ (a' := ?_) ?_ ?_
                                    rotate_left
                                    · show Act.put _ (some 13) _ = _
                                      simp only [Act.put, List.setIfInBounds_toArray, List.set_cons_zero, List.set_cons_succ, i64_w, i32_w]
                                      rfl
                                    refine one_ (i := 11) (N := some 68) (bs 20 69631) rfl rfl (one_of HT_.out (by kernel_rfl)) (by decide) (fun K hK => ?_)
                                    refine goes_ Tryd.func131 (by kernel_rfl) rfl #[.agg #[.string ((rd_T105 l0 x51_2).f0), .int .i64 ((rd_T105 l0 x51_2).f1), .bool ((rd_T105 l0 x51_2).f2), .int .i64 ((rd_T105 l0 x51_2).f3.f0), .int .i64 ((rd_T105 l0 x51_2).f3.f1), .float .f64 ((rd_T105 l0 x51_2).f3.f2), .string ((rd_T105 l0 x51_2).f3.f3)], .int .u8 (Go.bits .and .u8 (ji28) 3), .string x1_2] (by rfl) rfl rfl (by (try simp only [List.map_toArray, List.map_cons, List.map_nil]); first | done | (simp only [hji28]; rfl) | rfl | (simp only [List.length_drop, List.length_take]; rfl)) ?_
                                    with_reducible refine (row_get.calls k2 ((rd_T105 l0 x51_2).f0) ((rd_T105 l0 x51_2).f1) ((rd_T105 l0 x51_2).f2) ((rd_T105 l0 x51_2).f3.f0) ((rd_T105 l0 x51_2).f3.f1) ((rd_T105 l0 x51_2).f3.f2) ((rd_T105 l0 x51_2).f3.f3) (Go.bits .and .u8 (ji28) 3) x1_2 t812 t813 t814 t815 t816 false _ ?side1 A29.out).mono ?_
                                    (case side1 => exact Glob.below HG.out (bl HB))
                                    rintro e w51 ⟨rfl, hb⟩
                                    refine ⟨_, rfl, ?_⟩
                                    have n0_ := am (Kd.R_below (Kd.rr HO_10.out) hb)
                                    have n1_ := kb BK811 hb
                                    have n2_ := kb BK818 hb
                                    have n3_ := sb HB hb
                                    clear HO_10
                                    clear BK811
                                    clear BK818
                                    clear HB
                                    have HO_10 := n0_
                                    have BK811 := n1_
                                    have BK818 := n2_
                                    have HB := n3_
                                    clear n0_ n1_ n2_ n3_
                                    (try clear hb)
                                    (try clear hb2)
                                    (try clear hk)
                                    (try clear hi)
                                    refine hK.out _ _ ⟨(blk_cell BK811.out 0).trans rfl, (blk_cell BK811.out 1).trans rfl, (blk_cell BK811.out 2).trans rfl, (blk_cell BK811.out 3).trans rfl, (blk_cell BK811.out 4).trans rfl, (blk_cell BK811.out 5).trans rfl, (blk_cell BK811.out 6).trans rfl⟩ (fun hHeld => ?_)
                                    clear hK K
                                    refine norm_ (a' := ?_) ?_ ?_
                                    rotate_left
                                    · show Act.put _ (some 68) _ = _
                                      simp only [Act.put, List.setIfInBounds_toArray, List.set_cons_zero, List.set_cons_succ, i64_w, i32_w]
                                      rfl
                                    refine pu HT_ 12 (some 56) (bs 20 73727) ?_
                                    refine pu HT_ 13 (some 69) (bs 20 81919) ?_
                                    refine pu HT_ 14 (some 70) (bs 20 98303) ?_
                                    refine pu HT_ 15 (some 71) (bb 17 20) ?_
                                    exact norm_ (np) (hCont (gb818) _ ⟨hHeld, (by (with_reducible repeat (first | apply Kd.R_alloc | apply Kd.R_drewN | apply Kd.R_drew)); exact Kd.R_mono HO_10.out (fun _ hk => hk.2)), (bk BK811), (bk BK818), GW818.out, GE818.out, NB811_818.out, NB818_811.out, (bl HB)⟩)
                                rintro gb818 w52 ⟨hS_, h0_, h1_, h2_, h3_, h4_, h5_, h6_, h7_⟩
                                have n0_ : Aside0 (Kd.R k50 50 w52 w.heap.size (fun k_ => k_ ≠ gb818) u10 x10_2) := ⟨h0_⟩
                                have n1_ : Aside0 (w52.heap[gb811]? = some (.cells #[.string ((rd_T105 l0 x51_2).f0), .int .i64 ((rd_T105 l0 x51_2).f1), .bool ((rd_T105 l0 x51_2).f2), .int .i64 ((rd_T105 l0 x51_2).f3.f0), .int .i64 ((rd_T105 l0 x51_2).f3.f1), .float .f64 ((rd_T105 l0 x51_2).f3.f2), .string ((rd_T105 l0 x51_2).f3.f3)] 105 (0, 0))) := ⟨h1_⟩
                                have n2_ : Aside0 (w52.heap[gb818]? = some (.cells #[.int .i64 0, .int .i64 0, .float .f64 0, .string (⟨#[]⟩ : ByteArray)] 50 (0, 0))) := ⟨h2_⟩
                                have n3_ : Aside0 (w.heap.size ≤ gb818) := ⟨h3_⟩
                                have n4_ : Aside0 (w.heap.size ≤ gb818) := ⟨h4_⟩
                                have n5_ : Aside0 (gb811 ≠ gb818) := ⟨h5_⟩
                                have n6_ : Aside0 (gb818 ≠ gb811) := ⟨h6_⟩
                                have n7_ : Aside0 (Below w.heap.size w w52) := ⟨h7_⟩
                                clear HO_10
                                clear BK811
                                clear HB
                                clear h0_ h1_ h2_ h3_ h4_ h5_ h6_ h7_
                                have HO_10 := n0_
                                have BK811 := n1_
                                have BK818 := n2_
                                have GW818 := n3_
                                have GE818 := n4_
                                have NB811_818 := n5_
                                have NB818_811 := n6_
                                have HB := n7_
                                clear n0_ n1_ n2_ n3_ n4_ n5_ n6_ n7_
                                have hHeld : w52.cell? ⟨gb811, 0, none⟩ = some (.string ((rd_T105 l0 x51_2).f0)) ∧ w52.cell? ⟨gb811, 1, none⟩ = some (.int .i64 ((rd_T105 l0 x51_2).f1)) ∧ w52.cell? ⟨gb811, 2, none⟩ = some (.bool ((rd_T105 l0 x51_2).f2)) ∧ w52.cell? ⟨gb811, 3, none⟩ = some (.int .i64 ((rd_T105 l0 x51_2).f3.f0)) ∧ w52.cell? ⟨gb811, 4, none⟩ = some (.int .i64 ((rd_T105 l0 x51_2).f3.f1)) ∧ w52.cell? ⟨gb811, 5, none⟩ = some (.float .f64 ((rd_T105 l0 x51_2).f3.f2)) ∧ w52.cell? ⟨gb811, 6, none⟩ = some (.string ((rd_T105 l0 x51_2).f3.f3)) := hS_
                                refine norm_ (a' := ?_) ?_ ?_
                                rotate_left
                                · simp only [putAll, Act.put, List.setIfInBounds_toArray, List.set_cons_zero, List.set_cons_succ]
                                  rfl
                                refine one_ (i := 17) (N := none) (bb 18 20) rfl rfl (one_of HT_.out (by kernel_rfl)) (by decide) (fun K hK => ?_)
                                have hs53 : w52.cell? ⟨gb818, 0, none⟩ = some (.int .i64 0) := (blk_cell BK818.out 0).trans rfl
                                have hfs53 := blk_frozen BK818.out 0
                                have hns53_0 := NB811_818.out
                                have hms53_0 := NB818_811.out
                                have hs54 : w52.cell? ⟨gb818, 1, none⟩ = some (.int .i64 0) := (blk_cell BK818.out 1).trans rfl
                                have hfs54 := blk_frozen BK818.out 1
                                have hns54_0 := NB811_818.out
                                have hms54_0 := NB818_811.out
                                have hs55 : w52.cell? ⟨gb818, 2, none⟩ = some (.float .f64 0) := (blk_cell BK818.out 2).trans rfl
                                have hfs55 := blk_frozen BK818.out 2
                                have hns55_0 := NB811_818.out
                                have hms55_0 := NB818_811.out
                                have hs56 : w52.cell? ⟨gb818, 3, none⟩ = some (.string (⟨#[]⟩ : ByteArray)) := (blk_cell BK818.out 3).trans rfl
                                have hfs56 := blk_frozen BK818.out 3
                                have hns56_0 := NB811_818.out
                                have hms56_0 := NB818_811.out
                                refine skip_ (w1 := ?_) (by rfl) rfl ?_ ?_
                                rotate_left
                                · go_simp
                                  rfl
                                refine hK.out _ _ ⟨((cell_far (p := ⟨gb818, _, none⟩) NB811_818.out _).trans (((cell_far (p := ⟨gb818, _, none⟩) NB811_818.out _).trans (((cell_far (p := ⟨gb818, _, none⟩) NB811_818.out _).trans (((cell_far (p := ⟨gb818, _, none⟩) NB811_818.out _).trans (hHeld.1)))))))), ((cell_far (p := ⟨gb818, _, none⟩) NB811_818.out _).trans (((cell_far (p := ⟨gb818, _, none⟩) NB811_818.out _).trans (((cell_far (p := ⟨gb818, _, none⟩) NB811_818.out _).trans (((cell_far (p := ⟨gb818, _, none⟩) NB811_818.out _).trans (hHeld.2.1)))))))), ((cell_far (p := ⟨gb818, _, none⟩) NB811_818.out _).trans (((cell_far (p := ⟨gb818, _, none⟩) NB811_818.out _).trans (((cell_far (p := ⟨gb818, _, none⟩) NB811_818.out _).trans (((cell_far (p := ⟨gb818, _, none⟩) NB811_818.out _).trans (hHeld.2.2.1)))))))), ((cell_far (p := ⟨gb818, _, none⟩) NB811_818.out _).trans (((cell_far (p := ⟨gb818, _, none⟩) NB811_818.out _).trans (((cell_far (p := ⟨gb818, _, none⟩) NB811_818.out _).trans (((cell_far (p := ⟨gb818, _, none⟩) NB811_818.out _).trans (hHeld.2.2.2.1)))))))), ((cell_far (p := ⟨gb818, _, none⟩) NB811_818.out _).trans (((cell_far (p := ⟨gb818, _, none⟩) NB811_818.out _).trans (((cell_far (p := ⟨gb818, _, none⟩) NB811_818.out _).trans (((cell_far (p := ⟨gb818, _, none⟩) NB811_818.out _).trans (hHeld.2.2.2.2.1)))))))), ((cell_far (p := ⟨gb818, _, none⟩) NB811_818.out _).trans (((cell_far (p := ⟨gb818, _, none⟩) NB811_818.out _).trans (((cell_far (p := ⟨gb818, _, none⟩) NB811_818.out _).trans (((cell_far (p := ⟨gb818, _, none⟩) NB811_818.out _).trans (hHeld.2.2.2.2.2.1)))))))), ((cell_far (p := ⟨gb818, _, none⟩) NB811_818.out _).trans (((cell_far (p := ⟨gb818, _, none⟩) NB811_818.out _).trans (((cell_far (p := ⟨gb818, _, none⟩) NB811_818.out _).trans (((cell_far (p := ⟨gb818, _, none⟩) NB811_818.out _).trans (hHeld.2.2.2.2.2.2))))))))⟩ (fun hHeld => ?_)
                                clear hK K
                                refine pu HT_ 18 (some 14) (bb 19 20) ?_
                                refine pu HT_ 19 (some 15) (bb 20 20) ?_
                                refine done_ (done_of HT_.out (by kernel_rfl)) ?_
                                try go_wp2
                                go_ret3
                                exact ⟨_, by first | rfl | (simp [errW_none, errW_some] <;> rfl) | (simp only [← hji4, ← hji22, ← hji26, ← hji28]; first | rfl | (simp [errW_none, errW_some] <;> rfl)) | (simp [*, errW_none, errW_some] <;> rfl), by first | exact Kd.R_nil _ _ _ _ _ | exact Kd.N_nil _ _ _ _ _ | exact Kd.V_nil _ _ _ _ _ | exact Kd.Q_nil _ _ _ _ _ | exact Kd.S_nil _ _ _ _ _, bl HB⟩
                            · rw [if_neg c27] at H
                              exact absurd H (by simp)
                          · rw [if_neg c24] at H
                            exact absurd H (by simp)
                        · rw [if_neg c23] at H
                          exact absurd H (by simp)
                      · rw [if_neg c21] at H
                        exact absurd H (by simp)
                    · rw [if_neg c20] at H
                      exact absurd H (by simp)
                  · rw [if_neg c19] at H
                    have c19b0 : decide (x51_2 < (l0.length : Int)) = false := decide_eq_false c19
                    clear c19
                    simp only [Option.some.injEq, Prod.mk.injEq] at H
                    obtain ⟨rfl, rfl, rfl⟩ := H
                    go_wp2
                    go_ret3
                    exact ⟨_, by first | rfl | (simp [errW_none, errW_some] <;> rfl) | (simp only [← hji4]; first | rfl | (simp [errW_none, errW_some] <;> rfl)) | (simp [*, errW_none, errW_some] <;> rfl), Kd.rr HO_10.out, bl HB⟩
      · rw [if_neg c6] at H
        exact absurd H (by simp)
    · rw [if_neg c5] at H
      exact absurd H (by simp)
def row_Decode.f (k : Nat) (a0_0 : ByteArray) (l0_1 : List (S105)) (l0_2 : List Int) (l0_3 : List (S115)) (l0_4 : List (S139)) (a1 : ByteArray) : Option ((List (S50)) × Int) := (schema_Check.f a0_0 l0_1 l0_2 l0_3 l0_4).bind fun t823 => (if t823 = 0 then (if (a1.size : Int) > 65536 then (some (([] : List (S50)), 3)) else ((row_decode.f k l0_1 a1).bind fun bt824 => (if bt824.2.2 = true then (if bt824.2.1.toList = ([] : List UInt8) then (some (bt824.1, 0)) else (some (([] : List (S50)), 41))) else (some (([] : List (S50)), 41))))) else (some (([] : List (S50)), t823)))
set_option maxHeartbeats 8000000 in
set_option maxRecDepth 100000 in
theorem row_Decode.calls (k : Nat) (a0_0 : ByteArray) (A0_1 : Option Addr) (c0_1 : Nat) (l0_1 : List (S105)) (A0_2 : Option Addr) (c0_2 : Nat) (l0_2 : List Int) (A0_3 : Option Addr) (c0_3 : Nat) (l0_3 : List (S115)) (A0_4 : Option Addr) (c0_4 : Nat) (l0_4 : List (S139)) (a1 : ByteArray) (r1 : List (S50)) (r2 : Int) (w : World) (hr0_1 : Kd.C k105 w A0_1 l0_1.length l0_1) (hc0_1 : l0_1.length ≤ c0_1) (hr0_2 : Kd.C (Kd.int .i64) w A0_2 l0_2.length l0_2) (hc0_2 : l0_2.length ≤ c0_2) (hr0_3 : Kd.C k115 w A0_3 l0_3.length l0_3) (hc0_3 : l0_3.length ≤ c0_3) (hr0_4 : Kd.C k139 w A0_4 l0_4.length l0_4) (hc0_4 : l0_4.length ≤ c0_4) (hG : Glob w) (h : row_Decode.f k a0_0 l0_1 l0_2 l0_3 l0_4 a1 = some (r1, r2)) :
    Calls Tryd.prog 58 #[.agg #[.string a0_0, .slice A0_1 l0_1.length c0_1, .slice A0_2 l0_2.length c0_2, .slice A0_3 l0_3.length c0_3, .slice A0_4 l0_4.length c0_4], .string a1] w fun e w' => ∃ v0_ : Value, e = .returned (.tuple #[v0_, .int .i64 r2]) ∧ Kd.R k50 50 w' w.heap.size (fun _ => True) v0_ r1 ∧ Below w.heap.size w w' := by
  have hu65 := Tryd.underlying65
  have HR0_1 := am hr0_1
  have HC0_1 := am hc0_1
  clear hr0_1 hc0_1
  have HR0_2 := am hr0_2
  have HC0_2 := am hc0_2
  clear hr0_2 hc0_2
  have HR0_3 := am hr0_3
  have HC0_3 := am hc0_3
  clear hr0_3 hc0_3
  have HR0_4 := am hr0_4
  have HC0_4 := am hc0_4
  clear hr0_4 hc0_4
  have HG := am hG
  clear hG
  have HB := am (Below.refl w.heap.size w)
  have H : ((schema_Check.f a0_0 l0_1 l0_2 l0_3 l0_4).bind fun t823 => (if t823 = 0 then (if (a1.size : Int) > 65536 then (some (([] : List (S50)), 3)) else ((row_decode.f k l0_1 a1).bind fun bt824 => (if bt824.2.2 = true then (if bt824.2.1.toList = ([] : List UInt8) then (some (bt824.1, 0)) else (some (([] : List (S50)), 41))) else (some (([] : List (S50)), 41))))) else (some (([] : List (S50)), t823)))) = some (r1, r2) := h
  clear h
  replace H := Option.bind_eq_some_iff.mp H
  obtain ⟨t823, A30, H⟩ := H
  replace H : (if t823 = 0 then (if (a1.size : Int) > 65536 then (some (([] : List (S50)), 3)) else ((row_decode.f k l0_1 a1).bind fun bt824 => (if bt824.2.2 = true then (if bt824.2.1.toList = ([] : List UInt8) then (some (bt824.1, 0)) else (some (([] : List (S50)), 41))) else (some (([] : List (S50)), 41))))) else (some (([] : List (S50)), t823))) = some (r1, r2) := H
  have A3 := am A30
  clear A30
  by_cases c4 : t823 = 0
  · rw [if_pos c4] at H
    have c4b0 : (t823 == 0) = true := beq_iff_eq.mpr c4
    have c4b1 : (t823 != 0) = false := bne_eq_false_iff_eq.mpr c4
    clear c4
    by_cases c5 : (a1.size : Int) > 65536
    · rw [if_pos c5] at H
      have c5b0 : decide (65536 < (a1.size : Int)) = true := decide_eq_true c5
      have c5b1 : decide (65536 < a1.size) = true := decide_eq_true (by omega)
      clear c5
      simp only [Option.some.injEq, Prod.mk.injEq] at H
      obtain ⟨rfl, rfl⟩ := H
      go_enter Tryd.func58, Tryd.ntmps58
      go_wp2_with (first | ((with_reducible refine gate_dst (N := 2) rfl ?_); refine box_event rfl (N := 2) rfl (cs := #[.string a0_0, .slice A0_1 l0_1.length c0_1, .slice A0_2 l0_2.length c0_2, .slice A0_3 l0_3.length c0_3, .slice A0_4 l0_4.length c0_4]) (t := 65) gs ?_; intro gb822 hg w6 hbox hb; have BK822 := am (hbox); have GW822 := gw hg HB; have GE822 := gw hg HB; replace HB := sb HB hb; clear hb hbox hg; obtain ⟨Z7_0, Z7_1, Z7_2, Z7_3, Z7_4, Y7_0, Y7_1, Y7_2, Y7_3, Y7_4⟩ := bq5 BK822) | ((with_reducible refine gate_callee (f := 91) rfl ?_); refine goesL_ (some 11) rfl rfl Tryd.func91 (by kernel_rfl) rfl #[.agg #[.string a0_0, .slice A0_1 l0_1.length c0_1, .slice A0_2 l0_2.length c0_2, .slice A0_3 l0_3.length c0_3, .slice A0_4 l0_4.length c0_4]] rfl ar ?_; (with_reducible refine (schema_Check.calls a0_0 _ _ l0_1 _ _ l0_2 _ _ l0_3 _ _ l0_4 t823 _ (Kd.cb HR0_1 HB) HC0_1.out (Kd.cb HR0_2 HB) HC0_2.out (Kd.cb HR0_3 HB) HC0_3.out (Kd.cb HR0_4 HB) HC0_4.out (Glob.below HG.out (bl HB)) A3.out).mono ?_); rintro e w8 ⟨rfl, hb⟩; refine ⟨_, rfl, ?_⟩; replace BK822 := kb BK822 hb; replace HB := sb HB hb; (try clear hb); (try clear hb2 hk hi)))
      go_ret2
      exact ⟨_, er, by first | exact Kd.R_nil _ _ _ _ _ | exact Kd.N_nil _ _ _ _ _ | exact Kd.V_nil _ _ _ _ _ | exact Kd.Q_nil _ _ _ _ _ | exact Kd.S_nil _ _ _ _ _, bl HB⟩
    · rw [if_neg c5] at H
      have c5b0 : decide (65536 < (a1.size : Int)) = false := decide_eq_false c5
      have c5b1 : decide (65536 < a1.size) = false := decide_eq_false (by omega)
      clear c5
      replace H := Option.bind_eq_some_iff.mp H
      obtain ⟨⟨t824, t825, t826⟩, A90, H⟩ := H
      replace H : (if t826 = true then (if t825.toList = ([] : List UInt8) then (some (t824, 0)) else (some (([] : List (S50)), 41))) else (some (([] : List (S50)), 41))) = some (r1, r2) := H
      have A9 := am A90
      clear A90
      by_cases c10 : t826 = true
      · subst c10
        have H1 : (if t825.toList = ([] : List UInt8) then (some (t824, 0)) else (some (([] : List (S50)), 41))) = some (r1, r2) := by rw [if_pos rfl] at H; exact H
        clear H
        have H := H1
        clear H1
        by_cases c11 : t825.toList = ([] : List UInt8)
        · rw [if_pos c11] at H
          have c11b0 : (t825.toList == ([] : List UInt8)) = true := beq_iff_eq.mpr c11
          have c11b1 : (t825.toList != ([] : List UInt8)) = false := bne_eq_false_iff_eq.mpr c11
          clear c11
          simp only [Option.some.injEq, Prod.mk.injEq] at H
          obtain ⟨rfl, rfl⟩ := H
          go_enter Tryd.func58, Tryd.ntmps58
          go_wp2_with (first | ((with_reducible refine gate_dst (N := 2) rfl ?_); refine box_event rfl (N := 2) rfl (cs := #[.string a0_0, .slice A0_1 l0_1.length c0_1, .slice A0_2 l0_2.length c0_2, .slice A0_3 l0_3.length c0_3, .slice A0_4 l0_4.length c0_4]) (t := 65) gs ?_; intro gb822 hg w12 hbox hb; have BK822 := am (hbox); have GW822 := gw hg HB; have GE822 := gw hg HB; replace HB := sb HB hb; clear hb hbox hg; obtain ⟨Z13_0, Z13_1, Z13_2, Z13_3, Z13_4, Y13_0, Y13_1, Y13_2, Y13_3, Y13_4⟩ := bq5 BK822) | ((with_reducible refine gate_callee (f := 91) rfl ?_); refine goesL_ (some 11) rfl rfl Tryd.func91 (by kernel_rfl) rfl #[.agg #[.string a0_0, .slice A0_1 l0_1.length c0_1, .slice A0_2 l0_2.length c0_2, .slice A0_3 l0_3.length c0_3, .slice A0_4 l0_4.length c0_4]] rfl ar ?_; (with_reducible refine (schema_Check.calls a0_0 _ _ l0_1 _ _ l0_2 _ _ l0_3 _ _ l0_4 t823 _ (Kd.cb HR0_1 HB) HC0_1.out (Kd.cb HR0_2 HB) HC0_2.out (Kd.cb HR0_3 HB) HC0_3.out (Kd.cb HR0_4 HB) HC0_4.out (Glob.below HG.out (bl HB)) A3.out).mono ?_); rintro e w14 ⟨rfl, hb⟩; refine ⟨_, rfl, ?_⟩; replace BK822 := kb BK822 hb; replace HB := sb HB hb; (try clear hb); (try clear hb2 hk hi); obtain ⟨Z15_0, Z15_1, Z15_2, Z15_3, Z15_4, Y15_0, Y15_1, Y15_2, Y15_3, Y15_4⟩ := bq5 BK822) | ((with_reducible refine gate_callee (f := 92) rfl ?_); refine goesL_ (some 22) rfl rfl Tryd.func92 (by kernel_rfl) rfl #[.slice A0_1 l0_1.length c0_1, .string a1] rfl ar ?_; (with_reducible refine (row_decode.calls k _ _ l0_1 a1 t824 t825 true _ (Kd.cb HR0_1 HB) HC0_1.out (Glob.below HG.out (bl HB)) A9.out).mono ?_); rintro e w16 ⟨v827, rfl, ho0, hb⟩; refine ⟨_, rfl, ?_⟩; have n0_ := am (Kd.R_lower ho0 (below_size (bl HB))); have n1_ := kb BK822 hb; have n2_ := sb HB hb; clear BK822; clear HB; have HO828 := n0_; have BK822 := n1_; have HB := n2_; clear n0_ n1_ n2_; (try clear hb); (try clear hb2 hk hi); (try clear ho0)))
          go_ret2
          exact ⟨_, er, Kd.rr HO828.out, bl HB⟩
        · rw [if_neg c11] at H
          have c11b0 : (t825.toList == ([] : List UInt8)) = false := beq_eq_false_iff_ne.mpr c11
          have c11b1 : (t825.toList != ([] : List UInt8)) = true := bne_iff_ne.mpr c11
          simp only [Option.some.injEq, Prod.mk.injEq] at H
          obtain ⟨rfl, rfl⟩ := H
          go_enter Tryd.func58, Tryd.ntmps58
          go_wp2_with (first | ((with_reducible refine gate_dst (N := 2) rfl ?_); refine box_event rfl (N := 2) rfl (cs := #[.string a0_0, .slice A0_1 l0_1.length c0_1, .slice A0_2 l0_2.length c0_2, .slice A0_3 l0_3.length c0_3, .slice A0_4 l0_4.length c0_4]) (t := 65) gs ?_; intro gb822 hg w17 hbox hb; have BK822 := am (hbox); have GW822 := gw hg HB; have GE822 := gw hg HB; replace HB := sb HB hb; clear hb hbox hg; obtain ⟨Z18_0, Z18_1, Z18_2, Z18_3, Z18_4, Y18_0, Y18_1, Y18_2, Y18_3, Y18_4⟩ := bq5 BK822) | ((with_reducible refine gate_callee (f := 91) rfl ?_); refine goesL_ (some 11) rfl rfl Tryd.func91 (by kernel_rfl) rfl #[.agg #[.string a0_0, .slice A0_1 l0_1.length c0_1, .slice A0_2 l0_2.length c0_2, .slice A0_3 l0_3.length c0_3, .slice A0_4 l0_4.length c0_4]] rfl ar ?_; (with_reducible refine (schema_Check.calls a0_0 _ _ l0_1 _ _ l0_2 _ _ l0_3 _ _ l0_4 t823 _ (Kd.cb HR0_1 HB) HC0_1.out (Kd.cb HR0_2 HB) HC0_2.out (Kd.cb HR0_3 HB) HC0_3.out (Kd.cb HR0_4 HB) HC0_4.out (Glob.below HG.out (bl HB)) A3.out).mono ?_); rintro e w19 ⟨rfl, hb⟩; refine ⟨_, rfl, ?_⟩; replace BK822 := kb BK822 hb; replace HB := sb HB hb; (try clear hb); (try clear hb2 hk hi); obtain ⟨Z20_0, Z20_1, Z20_2, Z20_3, Z20_4, Y20_0, Y20_1, Y20_2, Y20_3, Y20_4⟩ := bq5 BK822) | ((with_reducible refine gate_callee (f := 92) rfl ?_); refine goesL_ (some 22) rfl rfl Tryd.func92 (by kernel_rfl) rfl #[.slice A0_1 l0_1.length c0_1, .string a1] rfl ar ?_; (with_reducible refine (row_decode.calls k _ _ l0_1 a1 t824 t825 true _ (Kd.cb HR0_1 HB) HC0_1.out (Glob.below HG.out (bl HB)) A9.out).mono ?_); rintro e w21 ⟨v827, rfl, ho0, hb⟩; refine ⟨_, rfl, ?_⟩; have n0_ := am (Kd.R_lower ho0 (below_size (bl HB))); have n1_ := kb BK822 hb; have n2_ := sb HB hb; clear BK822; clear HB; have HO828 := n0_; have BK822 := n1_; have HB := n2_; clear n0_ n1_ n2_; (try clear hb); (try clear hb2 hk hi); (try clear ho0)))
          go_ret2
          exact ⟨_, er, by first | exact Kd.R_nil _ _ _ _ _ | exact Kd.N_nil _ _ _ _ _ | exact Kd.V_nil _ _ _ _ _ | exact Kd.Q_nil _ _ _ _ _ | exact Kd.S_nil _ _ _ _ _, bl HB⟩
      · replace c10 := Bool.eq_false_iff.mpr c10
        subst c10
        have H1 : (some (([] : List (S50)), 41)) = some (r1, r2) := by rw [if_neg (show ¬ (false = true) by decide)] at H; exact H
        clear H
        have H := H1
        clear H1
        simp only [Option.some.injEq, Prod.mk.injEq] at H
        obtain ⟨rfl, rfl⟩ := H
        go_enter Tryd.func58, Tryd.ntmps58
        go_wp2_with (first | ((with_reducible refine gate_dst (N := 2) rfl ?_); refine box_event rfl (N := 2) rfl (cs := #[.string a0_0, .slice A0_1 l0_1.length c0_1, .slice A0_2 l0_2.length c0_2, .slice A0_3 l0_3.length c0_3, .slice A0_4 l0_4.length c0_4]) (t := 65) gs ?_; intro gb822 hg w22 hbox hb; have BK822 := am (hbox); have GW822 := gw hg HB; have GE822 := gw hg HB; replace HB := sb HB hb; clear hb hbox hg; obtain ⟨Z23_0, Z23_1, Z23_2, Z23_3, Z23_4, Y23_0, Y23_1, Y23_2, Y23_3, Y23_4⟩ := bq5 BK822) | ((with_reducible refine gate_callee (f := 91) rfl ?_); refine goesL_ (some 11) rfl rfl Tryd.func91 (by kernel_rfl) rfl #[.agg #[.string a0_0, .slice A0_1 l0_1.length c0_1, .slice A0_2 l0_2.length c0_2, .slice A0_3 l0_3.length c0_3, .slice A0_4 l0_4.length c0_4]] rfl ar ?_; (with_reducible refine (schema_Check.calls a0_0 _ _ l0_1 _ _ l0_2 _ _ l0_3 _ _ l0_4 t823 _ (Kd.cb HR0_1 HB) HC0_1.out (Kd.cb HR0_2 HB) HC0_2.out (Kd.cb HR0_3 HB) HC0_3.out (Kd.cb HR0_4 HB) HC0_4.out (Glob.below HG.out (bl HB)) A3.out).mono ?_); rintro e w24 ⟨rfl, hb⟩; refine ⟨_, rfl, ?_⟩; replace BK822 := kb BK822 hb; replace HB := sb HB hb; (try clear hb); (try clear hb2 hk hi); obtain ⟨Z25_0, Z25_1, Z25_2, Z25_3, Z25_4, Y25_0, Y25_1, Y25_2, Y25_3, Y25_4⟩ := bq5 BK822) | ((with_reducible refine gate_callee (f := 92) rfl ?_); refine goesL_ (some 22) rfl rfl Tryd.func92 (by kernel_rfl) rfl #[.slice A0_1 l0_1.length c0_1, .string a1] rfl ar ?_; (with_reducible refine (row_decode.calls k _ _ l0_1 a1 t824 t825 false _ (Kd.cb HR0_1 HB) HC0_1.out (Glob.below HG.out (bl HB)) A9.out).mono ?_); rintro e w26 ⟨v827, rfl, ho0, hb⟩; refine ⟨_, rfl, ?_⟩; have n0_ := am (Kd.R_lower ho0 (below_size (bl HB))); have n1_ := kb BK822 hb; have n2_ := sb HB hb; clear BK822; clear HB; have HO828 := n0_; have BK822 := n1_; have HB := n2_; clear n0_ n1_ n2_; (try clear hb); (try clear hb2 hk hi); (try clear ho0)))
        go_ret2
        exact ⟨_, er, by first | exact Kd.R_nil _ _ _ _ _ | exact Kd.N_nil _ _ _ _ _ | exact Kd.V_nil _ _ _ _ _ | exact Kd.Q_nil _ _ _ _ _ | exact Kd.S_nil _ _ _ _ _, bl HB⟩
  · rw [if_neg c4] at H
    have c4b0 : (t823 == 0) = false := beq_eq_false_iff_ne.mpr c4
    have c4b1 : (t823 != 0) = true := bne_iff_ne.mpr c4
    simp only [Option.some.injEq, Prod.mk.injEq] at H
    obtain ⟨rfl, rfl⟩ := H
    go_enter Tryd.func58, Tryd.ntmps58
    go_wp2_with (first | ((with_reducible refine gate_dst (N := 2) rfl ?_); refine box_event rfl (N := 2) rfl (cs := #[.string a0_0, .slice A0_1 l0_1.length c0_1, .slice A0_2 l0_2.length c0_2, .slice A0_3 l0_3.length c0_3, .slice A0_4 l0_4.length c0_4]) (t := 65) gs ?_; intro gb822 hg w27 hbox hb; have BK822 := am (hbox); have GW822 := gw hg HB; have GE822 := gw hg HB; replace HB := sb HB hb; clear hb hbox hg; obtain ⟨Z28_0, Z28_1, Z28_2, Z28_3, Z28_4, Y28_0, Y28_1, Y28_2, Y28_3, Y28_4⟩ := bq5 BK822) | ((with_reducible refine gate_callee (f := 91) rfl ?_); refine goesL_ (some 11) rfl rfl Tryd.func91 (by kernel_rfl) rfl #[.agg #[.string a0_0, .slice A0_1 l0_1.length c0_1, .slice A0_2 l0_2.length c0_2, .slice A0_3 l0_3.length c0_3, .slice A0_4 l0_4.length c0_4]] rfl ar ?_; (with_reducible refine (schema_Check.calls a0_0 _ _ l0_1 _ _ l0_2 _ _ l0_3 _ _ l0_4 t823 _ (Kd.cb HR0_1 HB) HC0_1.out (Kd.cb HR0_2 HB) HC0_2.out (Kd.cb HR0_3 HB) HC0_3.out (Kd.cb HR0_4 HB) HC0_4.out (Glob.below HG.out (bl HB)) A3.out).mono ?_); rintro e w29 ⟨rfl, hb⟩; refine ⟨_, rfl, ?_⟩; replace BK822 := kb BK822 hb; replace HB := sb HB hb; (try clear hb); (try clear hb2 hk hi)))
    go_ret2
    exact ⟨_, er, by first | exact Kd.R_nil _ _ _ _ _ | exact Kd.N_nil _ _ _ _ _ | exact Kd.V_nil _ _ _ _ _ | exact Kd.Q_nil _ _ _ _ _ | exact Kd.S_nil _ _ _ _ _, bl HB⟩
end Go.Proofs.YtpiifdbicibelaaDoor.PA
end
section
namespace Go.Proofs.YtpiifdbicibelaaDoor.Pure
open Go.RowKit Go.Proofs Go.Proofs.YtpiifdbicibelaaDoorW.PrintWords Go.Proofs.YtpiifdbicibelaaDoorW.PrintLast Go.Proofs.YtpiifdbicibelaaDoorW.PrintMore Go.Proofs.YtpiifdbicibelaaDoor.PA Go.Proofs.YtpiifdbicibelaaDoor.OpenK
set_option linter.unusedVariables false
set_option linter.unusedSimpArgs false
theorem and127 (k : IntKind) (hk : k = .u64 ∨ k = .u8) (c : Int) (hc : 0 ≤ c ∧ c ≤ 255) : Go.bits .and k c 127 = ((c % 128).toNat : Int) := by
  have h64 : ∀ x : Fin 256, Go.bits .and .u64 (x.val : Int) 127 = (((x.val : Int) % 128).toNat : Int) := by decide +kernel
  have h8 : ∀ x : Fin 256, Go.bits .and .u8 (x.val : Int) 127 = (((x.val : Int) % 128).toNat : Int) := by decide +kernel
  have e : ((c.toNat : Nat) : Int) = c := by omega
  rcases hk with rfl | rfl
  · have := h64 ⟨c.toNat, by omega⟩
    simpa only [e] using this
  · have := h8 ⟨c.toNat, by omega⟩
    simpa only [e] using this
theorem mn_ten (n : Nat) : mn (n : Int) 10 = ((min n 10 : Nat) : Int) := by unfold mn; split <;> omega
theorem drop_cons {L : List Int} {i : Nat} (h : i < L.length) : L.drop i = L[i] :: L.drop (i + 1) := List.drop_eq_getElem_cons h
theorem str_rest (L : List Int) (i : Nat) : (strOfNums L).extract (((i : Nat) : Int)).toNat (strOfNums L).size = strOfNums (L.drop i) := str_drop L i
def vrT (n s : Nat) : Option (Nat × List Int) → Int × ByteArray × Bool
  | none => (0, (⟨#[]⟩ : ByteArray), false)
  | some (m, R) => (((n + 2 ^ s * m : Nat) : Int), strOfNums R, true)
theorem pow7 (i : Nat) : 2 ^ (7 * (i + 1)) = 2 ^ (7 * i) * 128 := by rw [Nat.mul_add, Nat.pow_add]
theorem digit_fits {i : Nat} {c : Nat} (hi : i ≤ 9) (hc : c < 128) (h9 : i = 9 → c ≤ 1) : c * 2 ^ (7 * i) < 2 ^ 64 := by
  by_cases h : i = 9
  · subst h
    have := h9 rfl
    exact Nat.lt_of_le_of_lt (Nat.mul_le_mul_right _ this) (by decide)
  · have h1 : 2 ^ (7 * i) ≤ 2 ^ 56 := Nat.pow_le_pow_right (by decide) (by omega)
    exact Nat.lt_of_le_of_lt (Nat.mul_le_mul (Nat.le_of_lt hc) h1) (by decide)
theorem digit_low {i n c : Nat} (hn : n < 2 ^ (7 * i)) (hc : c < 128) : n + 2 ^ (7 * i) * c < 2 ^ (7 * (i + 1)) := by
  rw [pow7]
  calc n + 2 ^ (7 * i) * c < 2 ^ (7 * i) + 2 ^ (7 * i) * c := by omega
    _ = 2 ^ (7 * i) * (c + 1) := by rw [Nat.mul_add]; omega
    _ ≤ _ := Nat.mul_le_mul_left _ (by omega)
theorem vr_cons (i : Nat) (c : Int) (M : List Int) : vr i (c :: M) = if 10 ≤ i then none else if (i = 9 ∧ 1 < c) ∨ (0 < i ∧ c = 0) then none else if c < 128 then some (c.toNat, M) else
    match vr (i + 1) M with
    | none => none
    | some (n, R) => some ((c - 128).toNat + 128 * n, R) := rfl
theorem vrT_more {i n c : Nat} (o : Option (Nat × List Int)) : vrT (n + 2 ^ (7 * i) * c) (7 * (i + 1)) o = vrT n (7 * i) (match o with | none => none | some (m, R) => some (c + 128 * m, R)) := by
  cases o with
  | none => rfl
  | some p =>
    obtain ⟨m, R⟩ := p
    simp only [vrT]
    have e : n + 2 ^ (7 * i) * c + 2 ^ (7 * (i + 1)) * m = n + 2 ^ (7 * i) * (c + 128 * m) := by
      rw [pow7, Nat.mul_add, Nat.mul_assoc, Nat.add_assoc]
    rw [e]
theorem varint_l0 (L : List Int) (hL : Bytes L) (hlen : L.length ≤ 1000000) : ∀ (q i n : Nat), i + q = 10 → n < 2 ^ (7 * i) → Ev (fun k => row_varint.l0 k (strOfNums L) (n : Int) (mn (L.length : Int) 10) (i : Int)) (vrT n (7 * i) (vr i (L.drop i)))
  | q, i, n, hq, hn => by
    have hm := mn_ten L.length
    by_cases hlt : i < L.length ∧ i < 10
    · obtain ⟨hlt, h10⟩ := hlt
      have hb := str_bt hL i hlt
      have hc := hL _ (List.getElem_mem hlt)
      rw [drop_cons hlt]
      generalize L[i] = c at hb hc
      have hcw : IntKind.u64.wrap c = c := u64_wrap_id (by omega) (by omega)
      have h7 : True → wrap64 (7 * (i : Int)) = 7 * (i : Int) := fun _ => wrap64_id (by omega) (by omega)
      have h71 : (7 * (i : Int)) = ((7 * i : Nat) : Int) := by omega
      have h1 : True → wrap64 ((i : Int) + 1) = ((i + 1 : Nat) : Int) := fun _ => wrap_one i (by omega)
      refine Ev.step (g := fun k => row_varint.j1 k (strOfNums L) (n : Int) (i : Int) c (mn (L.length : Int) 10) (i : Int) (decide ((i = 9 ∧ 1 < c) ∨ (0 < i ∧ c = 0)))) (fun k => ?_) ?_
      · simp only [row_varint.l0, hb, hcw, str_size]
        rw [if_pos (by rw [hm]; omega), if_pos (by omega), if_pos (by omega)]
        by_cases h9 : i = 9
        · rw [if_pos (by omega)]
          by_cases hc1 : c > 1
          · rw [if_pos hc1, decide_eq_true (.inl ⟨h9, hc1⟩)]
          · rw [if_neg hc1, if_pos (by omega)]
            congr 1
            rw [Bool.eq_iff_iff, beq_iff_eq, decide_eq_true_eq]; omega
        · rw [if_neg (by omega)]
          by_cases h0 : i = 0
          · rw [if_neg (by omega), decide_eq_false (by omega)]
          · rw [if_pos (by omega)]
            congr 1
            rw [Bool.eq_iff_iff, beq_iff_eq, decide_eq_true_eq]; omega
      · rw [vr_cons, if_neg (by omega)]
        by_cases hz : (i = 9 ∧ 1 < c) ∨ (0 < i ∧ c = 0)
        · rw [if_pos hz, decide_eq_true hz]
          refine Ev.from_ 1 fun k => ?_
          simp only [row_varint.j1]
          rw [if_pos trivial]; rfl
        · rw [if_neg hz, decide_eq_false hz]
          have ho := or_shl n (c % 128).toNat (7 * i) hn (by omega) (digit_fits (by omega) (by omega) (fun h => by
            by_cases g : 1 < c
            · exact absurd (.inl ⟨h, g⟩) hz
            · omega))
          by_cases h128 : c < 128
          · rw [if_pos h128]
            refine Ev.from_ 1 fun k => ?_
            simp only [row_varint.j1, h7 trivial, h1 trivial, and127 .u64 (.inl rfl) c hc]
            rw [if_neg (by decide), if_pos (by omega), if_pos h128, if_pos (by omega), if_pos (by rw [str_size]; omega), str_rest, h71, ho]
            have e : (c % 128).toNat = c.toNat := by omega
            rw [e]; rfl
          · rw [if_neg h128]
            have ih := varint_l0 L hL hlen (q - 1) (i + 1) (n + 2 ^ (7 * i) * (c % 128).toNat) (by omega) (digit_low hn (by omega))
            rw [vrT_more] at ih
            have e : (c % 128).toNat = (c - 128).toNat := by omega
            refine Ev.step (g := fun k => row_varint.l0 k (strOfNums L) ((n + 2 ^ (7 * i) * (c % 128).toNat : Nat) : Int) (mn (L.length : Int) 10) ((i + 1 : Nat) : Int)) (fun k => ?_) ?_
            · simp only [row_varint.j1, h7 trivial, h1 trivial, and127 .u64 (.inl rfl) c hc]
              rw [if_neg (by decide), if_pos (by omega), if_neg h128, h71, ho]
            · rw [e] at ih ⊢
              exact ih
    · refine Ev.from_ 1 fun k => ?_
      simp only [row_varint.l0]
      rw [if_neg (by rw [hm]; omega)]
      have e : vr i (L.drop i) = none := by
        by_cases h : i < L.length
        · rw [drop_cons h, vr_cons, if_pos (by omega)]
        · rw [List.drop_of_length_le (by omega)]; rfl
      rw [e]; rfl
termination_by q => q
decreasing_by omega
theorem vrT_zero (o : Option (Nat × List Int)) : vrT 0 (7 * 0) o = match o with | none => (0, (⟨#[]⟩ : ByteArray), false) | some (m, R) => ((m : Int), strOfNums R, true) := by
  cases o with
  | none => rfl
  | some p => obtain ⟨m, R⟩ := p; simp [vrT]
theorem varint_ev (L : List Int) (hL : Bytes L) (hlen : L.length ≤ 1000000) : Ev (fun k => row_varint.f k (strOfNums L)) (match vr 0 L with | none => (0, (⟨#[]⟩ : ByteArray), false) | some (m, R) => ((m : Int), strOfNums R, true)) := by
  have := varint_l0 L hL hlen 10 0 0 rfl (by decide)
  rw [vrT_zero] at this
  simp only [row_varint.f, str_size]
  exact this
theorem lowN_take (L : List Int) (hL : Bytes L) (i : Nat) (h : i < L.length) (hi : i < 8) : lowN (L.take i) < 2 ^ (8 * i) ∧ lowN (L.take (i + 1)) = lowN (L.take i) + 2 ^ (8 * i) * (L[i]).toNat := by
  have hr := num_range (hL.take i).reverse
  have hl : (L.take i).length = i := by rw [List.length_take]; omega
  rw [List.length_reverse, hl] at hr
  have hp : (256 : Int) ^ i = ((2 ^ (8 * i) : Nat) : Int) := pow_nat i
  have hc := hL _ (List.getElem_mem h)
  unfold lowN
  refine ⟨by omega, ?_⟩
  rw [List.take_succ_eq_append_getElem h, List.reverse_append]
  simp only [List.reverse_cons, List.reverse_nil, List.nil_append, List.singleton_append, num, List.length_reverse, hl]
  rw [hp]
  have e : L[i] * ((2 ^ (8 * i) : Nat) : Int) = ((2 ^ (8 * i) * (L[i]).toNat : Nat) : Int) := by
    rw [Int.natCast_mul, Int.mul_comm]
    congr 1; omega
  rw [e]
  omega
theorem byte_fits {i c : Nat} (hi : i < 8) (hc : c ≤ 255) : c * 2 ^ (8 * i) < 2 ^ 64 := by
  have h1 : 2 ^ (8 * i) ≤ 2 ^ 56 := Nat.pow_le_pow_right (by decide) (by omega)
  exact Nat.lt_of_le_of_lt (Nat.mul_le_mul hc h1) (by decide)
theorem low_l0 (L : List Int) (hL : Bytes L) (h8 : 8 ≤ L.length) : ∀ (q i : Nat), i + q = 8 → Ev (fun k => row_low.l0 k (strOfNums L) (lowN (L.take i) : Int) (i : Int)) (lowN (L.take 8) : Int)
  | 0, i, hq => by
    refine Ev.from_ 1 fun k => ?_
    simp only [row_low.l0]
    obtain rfl : i = 8 := by omega
    rw [if_neg (by omega)]
  | q + 1, i, hq => by
    have hlt : i < L.length := by omega
    have hb := str_bt hL i hlt
    obtain ⟨g1, g2⟩ := lowN_take L hL i hlt (by omega)
    have hc := hL _ (List.getElem_mem hlt)
    have ih := low_l0 L hL h8 q (i + 1) (by omega)
    have ho := or_shl (lowN (L.take i)) (L[i]).toNat (8 * i) g1 (by omega) (byte_fits (by omega) (by omega))
    rw [g2] at ih
    refine Ev.step (g := fun k => row_low.l0 k (strOfNums L) ((lowN (L.take i) + 2 ^ (8 * i) * (L[i]).toNat : Nat) : Int) ((i + 1 : Nat) : Int)) (fun k => ?_) ih
    have e8 : wrap64 (8 * (i : Int)) = ((8 * i : Nat) : Int) := by rw [wrap64_id (by omega) (by omega)]; omega
    have ec : IntKind.u64.wrap L[i] = (((L[i]).toNat : Nat) : Int) := by rw [u64_wrap_id (by omega) (by omega)]; omega
    simp only [row_low.l0, hb, str_size, e8, ec]
    rw [if_pos (by omega), if_pos (by omega), if_pos (by omega), if_pos (by omega), ho, wrap64_id (by omega) (by omega)]
    rfl
theorem low_ev (L : List Int) (hL : Bytes L) (h8 : 8 ≤ L.length) : Ev (fun k => row_low.f k (strOfNums L)) (lowN (L.take 8) : Int) := low_l0 L hL h8 8 0 rfl
theorem i64_wrap {n : Int} (h0 : -9223372036854775808 ≤ n) (h1 : n < 9223372036854775808) : IntKind.i64.wrap n = n := by
  simp [IntKind.wrap, IntKind.signed, IntKind.bits]; omega
theorem xor_i64_zero (x : Nat) (h : x < 9223372036854775808) : Go.bits .xor .i64 (x : Int) 0 = (x : Int) := by
  have e1 : Go.bits .xor .i64 (x : Int) 0 = IntKind.i64.wrap (((BitVec.ofInt 64 (x : Int)) ^^^ (BitVec.ofInt 64 0)).toNat : Int) := rfl
  have e2 : (BitVec.ofInt 64 0).toNat = 0 := by decide
  rw [e1, BitVec.toNat_xor, e2, Nat.xor_zero, BitVec.toNat_ofInt]
  have h1 : ((x : Int) % ((2 ^ 64 : Nat) : Int)).toNat = x := by omega
  rw [h1]
  exact i64_wrap (by omega) (by omega)
theorem xor_i64_ones (x : Nat) (h : x < 9223372036854775808) : Go.bits .xor .i64 (x : Int) (-1) = -(x : Int) - 1 := by
  have e1 : Go.bits .xor .i64 (x : Int) (-1) = IntKind.i64.wrap (((BitVec.ofInt 64 (x : Int)) ^^^ (BitVec.ofInt 64 (-1))).toNat : Int) := rfl
  have e2 : (BitVec.ofInt 64 (-1)).toNat = 2 ^ 64 - 1 := by decide
  rw [e1, BitVec.toNat_xor, e2, BitVec.toNat_ofInt]
  have h1 : ((x : Int) % ((2 ^ 64 : Nat) : Int)).toNat = x := by omega
  rw [h1, xor_ones x 64 (by omega)]
  have e3 : ((2 ^ 64 - 1 - x : Nat) : Int) = 18446744073709551615 - (x : Int) := by omega
  rw [e3]
  have e4 : IntKind.i64.wrap (18446744073709551615 - (x : Int)) = (18446744073709551615 - (x : Int) + 9223372036854775808) % 18446744073709551616 - 9223372036854775808 := by
    simp [IntKind.wrap, IntKind.signed, IntKind.bits]
    omega
  rw [e4]; omega
theorem and_one (n : Nat) (h : n < 18446744073709551616) : Go.bits .and .u64 (n : Int) 1 = ((n % 2 : Nat) : Int) := by
  have e1 : Go.bits .and .u64 (n : Int) 1 = IntKind.u64.wrap (((BitVec.ofInt 64 (n : Int)) &&& (BitVec.ofInt 64 1)).toNat : Int) := rfl
  have e2 : (BitVec.ofInt 64 1).toNat = 1 := by decide
  rw [e1, BitVec.toNat_and, e2, Nat.and_one_is_mod, BitVec.toNat_ofInt]
  have h1 : ((n : Int) % ((2 ^ 64 : Nat) : Int)).toNat = n := by omega
  rw [h1]
  exact u64_wrap_id (by omega) (by omega)
theorem unzig_f (n : Nat) (h : n < 18446744073709551616) : row_unzig.f (n : Int) = some (uz n) := by
  unfold row_unzig.f uz
  have e0 : (n : Int) / 2 = ((n / 2 : Nat) : Int) := by omega
  rw [and_one n h, e0, wrap64_id (n := ((n / 2 : Nat) : Int)) (by omega) (by omega), wrap64_id (n := ((n % 2 : Nat) : Int)) (by omega) (by omega), wrap64_id (by omega) (by omega)]
  congr 1
  by_cases h2 : n % 2 = 0
  · rw [if_pos h2, h2]
    exact xor_i64_zero _ (by omega)
  · have h3 : n % 2 = 1 := by omega
    rw [if_neg h2, h3]
    exact xor_i64_ones _ (by omega)
theorem Ev.dep {α β : Type} {f : Nat → Option α} {f' : Nat → Option β} {v : α} {b : β} (h : Ev f v) (h2 : ∀ k, f k = some v → f' (k + 1) = some b) : Ev f' b := by
  obtain ⟨k0, h⟩ := h
  refine ⟨k0 + 1, fun k hk => ?_⟩
  obtain ⟨k, rfl⟩ : ∃ q, k = q + 1 := ⟨k - 1, by omega⟩
  exact h2 k (h k (by omega))
theorem Ev.dep2 {α β γ : Type} {f : Nat → Option α} {g : Nat → Option γ} {f' : Nat → Option β} {v : α} {c : γ} {b : β} (h : Ev f v) (hg : Ev g c) (h2 : ∀ k, f k = some v → g k = some c → f' (k + 1) = some b) : Ev f' b := by
  obtain ⟨k0, h⟩ := h
  obtain ⟨k1, hg⟩ := hg
  refine ⟨k0 + k1 + 1, fun k hk => ?_⟩
  obtain ⟨k, rfl⟩ : ∃ q, k = q + 1 := ⟨k - 1, by omega⟩
  exact h2 k (h k (by omega)) (hg k (by omega))
abbrev G6' := Int × Int × Nat × ByteArray × ByteArray × Bool
/-- What the program tells of a value, held against what stands there. -/
def getSpec (c : S105) (o : Option (S50 × List Int)) (r : G6') : Prop :=
  match o with
  | none => r.2.2.2.2.2 = false
  | some (v, R) => if fitB c v = true then r = (v.f0, v.f1, v.f2, v.f3, strOfNums R, true) else r.2.2.2.2.2 = false
theorem fitB_of {c : S105} {v : S50} (h : chkV v = 0) (h0 : v.f0 ≠ 0) (h1 : v.f0 = c.f1) : fitB c v = true := fitB_iff.2 ⟨h, .inr ⟨h0, h1⟩⟩
theorem get_code {c : S105} (hk : 1 ≤ c.f1 ∧ c.f1 ≤ 5) (m : Int) (hm : 0 ≤ m ∧ m ≤ 3) (L : List Int) (hL : Bytes L) (hlen : L.length ≤ 65536) :
    ∃ r, Ev (fun k => row_get.f k c.f0 c.f1 c.f2 c.f3.f0 c.f3.f1 c.f3.f2 c.f3.f3 m (strOfNums L)) r ∧ getSpec c (valR c.f1 m L) r := by
  simp only [row_get.f]
  by_cases h0 : m = 0
  · refine ⟨(0, 0, 0, (⟨#[]⟩ : ByteArray), strOfNums L, c.f2), Ev.pos h0 Ev.pure, ?_⟩
    subst h0
    have hc : chkV ⟨0, 0, 0, (⟨#[]⟩ : ByteArray)⟩ = 0 := chk_plain (.inl rfl) 0 (by decide) (fun _ _ => rfl) (fun _ => rfl)
    have hf : fitB c ⟨0, 0, 0, (⟨#[]⟩ : ByteArray)⟩ = c.f2 := by
      unfold fitB
      rw [decide_eq_true hc]; simp
    have hv : valR c.f1 0 L = some (⟨0, 0, 0, (⟨#[]⟩ : ByteArray)⟩, L) := by simp [valR]
    rw [hv]
    show if fitB c ⟨0, 0, 0, (⟨#[]⟩ : ByteArray)⟩ = true then _ else _
    rw [hf]
    cases hn : c.f2 <;> simp
  -- the kinds, the bits being 1 or 2
  have hj : ∀ b : Bool, (b = true ↔ m > 2 ∨ (m = 2 ∧ c.f1 ≠ 1)) → ∃ r, Ev (fun k => row_get.j0 k m (strOfNums L) b c.f0 c.f1 c.f2 c.f3.f0 c.f3.f1 c.f3.f2 c.f3.f3 c.f1 0 0 (⟨#[]⟩ : ByteArray)) r ∧ getSpec c (valR c.f1 m L) r := by
    intro b hb
    by_cases hbt : b = true
    · have hbm := hb.1 hbt
      refine ⟨(c.f1, 0, 0, (⟨#[]⟩ : ByteArray), (⟨#[]⟩ : ByteArray), false), Ev.from_ 1 fun k => ?_, ?_⟩
      · simp only [row_get.j0]; rw [if_pos hbt]
      · have hv : valR c.f1 m L = none := by
          unfold valR
          rw [if_neg h0, if_neg (by omega), if_pos (by omega)]
        rw [hv]; rfl
    have hbm : ¬ (m > 2 ∨ (m = 2 ∧ c.f1 ≠ 1)) := fun h => hbt (hb.2 h)
    by_cases k1 : c.f1 = 1
    · refine ⟨(c.f1, m - 1, 0, (⟨#[]⟩ : ByteArray), strOfNums L, true), Ev.from_ 1 fun k => ?_, ?_⟩
      · simp only [row_get.j0]
        rw [if_neg hbt, if_pos k1]
        have : (m - 1) % 256 = m - 1 := by omega
        rw [this]
      · have hv : valR c.f1 m L = some (⟨1, m - 1, 0, (⟨#[]⟩ : ByteArray)⟩, L) := by
          unfold valR
          rw [if_neg h0, if_pos ⟨k1, by omega⟩]
        rw [hv]
        have hc : chkV ⟨1, m - 1, 0, (⟨#[]⟩ : ByteArray)⟩ = 0 := chk_plain (.inr (.inl rfl)) 0 (fun _ => (show m - 1 = 0 ∨ m - 1 = 1 by omega)) (fun h => absurd rfl h) (fun _ => rfl)
        show if fitB c ⟨1, m - 1, 0, (⟨#[]⟩ : ByteArray)⟩ = true then _ else _
        rw [if_pos (fitB_of hc (show (1 : Int) ≠ 0 by decide) k1.symm), k1]
    have hm1 : m = 1 := by omega
    have hv0 : valR c.f1 m L = if c.f1 = 3 then (if L.length < 8 then none else some (⟨3, 0, lowN (L.take 8), (⟨#[]⟩ : ByteArray)⟩, L.drop 8))
        else match vr 0 L with
          | none => none
          | some (n, R) => if c.f1 = 2 then some (⟨2, uz n, 0, (⟨#[]⟩ : ByteArray)⟩, R) else if R.length < n then none else some (⟨c.f1, 0, 0, strOfNums (R.take n)⟩, R.drop n) := by
      unfold valR
      rw [if_neg h0, if_neg (fun h => k1 h.1), if_neg (by omega)]
      rfl
    have hvar := varint_ev L hL (by omega)
    by_cases k2 : c.f1 = 2
    · cases hv : vr 0 L with
      | none =>
        rw [hv] at hvar
        have hz : row_unzig.f 0 = some (uz 0) := unzig_f 0 (by decide)
        refine ⟨(c.f1, uz 0, 0, (⟨#[]⟩ : ByteArray), (⟨#[]⟩ : ByteArray), false), ?_, ?_⟩
        · refine Ev.dep hvar fun k hk => ?_
          simp only [row_get.j0]
          rw [if_neg hbt, if_neg k1, if_pos k2, hk]
          simp only [Option.bind_some, hz]
        · rw [hv0, if_neg (by omega), hv]; rfl
      | some p =>
        obtain ⟨n, R⟩ := p
        rw [hv] at hvar
        obtain ⟨_, g2, _, _⟩ := vr_sound 0 L n R hL hv
        have g2' : n < 18446744073709551616 := g2
        refine ⟨(c.f1, uz n, 0, (⟨#[]⟩ : ByteArray), strOfNums R, true), ?_, ?_⟩
        · refine Ev.dep hvar fun k hk => ?_
          simp only [row_get.j0]
          rw [if_neg hbt, if_neg k1, if_pos k2, hk]
          simp only [Option.bind_some, unzig_f n g2']
        · rw [hv0, if_neg (by omega), hv]
          simp only [getSpec]
          rw [if_pos k2]
          have hc : chkV ⟨2, uz n, 0, (⟨#[]⟩ : ByteArray)⟩ = 0 := chk_plain (.inr (.inr (.inl rfl))) 0 (fun h => absurd h (by decide)) (fun _ h => absurd rfl h) (fun _ => rfl)
          simp only
          rw [if_pos (fitB_of hc (show (2 : Int) ≠ 0 by decide) k2.symm), k2]
    by_cases k3 : c.f1 = 3
    · by_cases h8 : L.length < 8
      · refine ⟨(c.f1, 0, 0, (⟨#[]⟩ : ByteArray), (⟨#[]⟩ : ByteArray), false), Ev.from_ 1 fun k => ?_, ?_⟩
        · simp only [row_get.j0, str_size]
          rw [if_neg hbt, if_neg k1, if_neg k2, if_pos k3, if_pos (by omega)]
        · rw [hv0, if_pos k3, if_pos h8]; rfl
      · have hlow := low_ev L hL (by omega)
        refine ⟨(c.f1, 0, lowN (L.take 8), (⟨#[]⟩ : ByteArray), strOfNums (L.drop 8), true), ?_, ?_⟩
        · refine Ev.dep hlow fun k hk => ?_
          simp only [row_get.j0]
          rw [if_neg hbt, if_neg k1, if_neg k2, if_pos k3, if_neg (by rw [str_size]; omega), hk]
          simp only [Option.bind_some]
          rw [if_pos (by rw [str_size]; omega), str_drop]
          rfl
        · rw [hv0, if_pos k3, if_neg h8]
          have hc : chkV ⟨3, 0, lowN (L.take 8), (⟨#[]⟩ : ByteArray)⟩ = 0 := chk_plain (.inr (.inr (.inr rfl))) _ (fun h => absurd h (by decide)) (fun _ _ => rfl) (fun h => absurd rfl h)
          simp only [getSpec]
          rw [if_pos (fitB_of hc (show (3 : Int) ≠ 0 by decide) k3.symm), k3]
    · cases hv : vr 0 L with
      | none =>
        rw [hv] at hvar
        refine ⟨(c.f1, 0, 0, (⟨#[]⟩ : ByteArray), (⟨#[]⟩ : ByteArray), false), ?_, ?_⟩
        · refine Ev.dep hvar fun k hk => ?_
          simp only [row_get.j0]
          rw [if_neg hbt, if_neg k1, if_neg k2, if_neg k3, hk]
          simp only [Option.bind_some]
          rw [if_neg (by decide)]
        · rw [hv0, if_neg k3, hv]; rfl
      | some p =>
        obtain ⟨n, R⟩ := p
        rw [hv] at hvar
        obtain ⟨e1, g2, _, _⟩ := vr_sound 0 L n R hL hv
        have g2' : n < 18446744073709551616 := g2
        have hRl := vr_len 0 L n R hv
        have hws : IntKind.u64.wrap ((strOfNums R).size : Int) = (R.length : Int) := by rw [str_size]; exact u64_wrap_id (by omega) (by omega)
        by_cases hn : R.length < n
        · refine ⟨(c.f1, 0, 0, (⟨#[]⟩ : ByteArray), (⟨#[]⟩ : ByteArray), false), ?_, ?_⟩
          · refine Ev.dep hvar fun k hk => ?_
            simp only [row_get.j0]
            rw [if_neg hbt, if_neg k1, if_neg k2, if_neg k3, hk]
            simp only [Option.bind_some]
            rw [if_pos trivial, hws, if_pos (by omega)]
          · rw [hv0, if_neg k3, hv]
            simp only
            rw [if_neg k2, if_pos hn]; rfl
        · have hx1 : (strOfNums R).extract 0 (((n : Nat) : Int)).toNat = strOfNums (R.take n) := by
            rw [str_take]; simp
          have hx2 : (strOfNums R).extract (((n : Nat) : Int)).toNat (strOfNums R).size = strOfNums (R.drop n) := str_drop R n
          have hts : (strOfNums (R.take n)).size ≤ 65536 := by rw [str_size, List.length_take]; omega
          have hchk : Ev (fun k => value_Check.f k c.f1 0 0 (strOfNums (R.take n))) (chk c.f1 0 0 (strOfNums (R.take n))) := Ev.from_ 6 fun k => check_code k _ _ _ _ (by omega)
          refine ⟨(c.f1, 0, 0, strOfNums (R.take n), strOfNums (R.drop n), (chk c.f1 0 0 (strOfNums (R.take n)) == 0)), ?_, ?_⟩
          · refine Ev.dep2 hvar hchk fun k hk hk2 => ?_
            simp only [row_get.j0]
            rw [if_neg hbt, if_neg k1, if_neg k2, if_neg k3, hk]
            simp only [Option.bind_some]
            rw [if_pos trivial, hws, if_neg (by omega), if_pos (by omega), if_pos (by rw [str_size]; omega), hx1, hx2, hk2]
            rfl
          · rw [hv0, if_neg k3, hv]
            simp only
            rw [if_neg k2, if_neg hn]
            simp only [getSpec]
            by_cases hc : chk c.f1 0 0 (strOfNums (R.take n)) = 0
            · rw [if_pos (fitB_of (v := ⟨c.f1, 0, 0, strOfNums (R.take n)⟩) hc (show c.f1 ≠ 0 by omega) rfl), hc]; rfl
            · rw [if_neg (fun h => hc ((fitB_iff (c := c) (v := ⟨c.f1, 0, 0, strOfNums (R.take n)⟩)).1 h).1)]
              simpa using hc
  by_cases h2 : m > 2
  · obtain ⟨r, hr, hs⟩ := hj true (by simp [h2])
    exact ⟨r, Ev.neg h0 (Ev.pos h2 hr), hs⟩
  by_cases h3 : m = 2
  · obtain ⟨r, hr, hs⟩ := hj (c.f1 != 1) (by simp [h3])
    exact ⟨r, Ev.neg h0 (Ev.neg h2 (Ev.pos h3 hr)), hs⟩
  · obtain ⟨r, hr, hs⟩ := hj false (by simp; omega)
    exact ⟨r, Ev.neg h0 (Ev.neg h2 (Ev.neg h3 hr)), hs⟩
end Go.Proofs.YtpiifdbicibelaaDoor.Pure
end
section
namespace Go.Proofs.YtpiifdbicibelaaDoor.PA
open Go.RowKit Go.Proofs.YtpiifdbicibelaaDoorW.PrintWords Go.Proofs.YtpiifdbicibelaaDoorW.PrintLast Go.Proofs.YtpiifdbicibelaaDoorW.PrintMore
attribute [local go_sem] max2_int min2_int max_two min_two max_three min_three max_four min_four
set_option linter.unusedVariables false
set_option linter.unusedSimpArgs false
def vellumlaw04_RowBack.j0 : Nat → ByteArray → ByteArray → List (S105) → List Int → List (S115) → List (S139) → Option (Bool)
  | 0, _, _, _, _, _, _ => none
  | k + 1, x2, x866000, x866001, x866002, x866003, x866004 => (row_Decode.f k x866000 x866001 x866002 x866003 x866004 x2).bind fun bt873 => (if bt873.2 = 0 then ((row_Encode.f k x866000 x866001 x866002 x866003 x866004 bt873.1).bind fun bt877 => (if bt877.2 = 0 then (if bt877.1.toList = x2.toList then ((vellumlaw04_awake.f k).bind fun t879 => (some t879)) else (some false)) else (some false))) else (if (bt873.1.length : Int) = 0 then ((vellumlaw04_awake.f k).bind fun t880 => (some t880)) else (some false)))
def vellumlaw04_RowBack.f (k : Nat) (a0_0 : ByteArray) (l0_1 : List (S105)) (l0_2 : List Int) (l0_3 : List (S115)) (l0_4 : List (S139)) (l1 : List (S50)) (a2 : ByteArray) : Option (Bool) := (row_Encode.f k a0_0 l0_1 l0_2 l0_3 l0_4 l1).bind fun bt866 => (if bt866.2 = 0 then ((row_Decode.f k a0_0 l0_1 l0_2 l0_3 l0_4 bt866.1).bind fun bt868 => (if bt868.2 = 0 then ((vellumref01_SameRow.f k l1 bt868.1).bind fun t872 => (if t872 = true then (vellumlaw04_RowBack.j0 k a2 a0_0 l0_1 l0_2 l0_3 l0_4) else (some false))) else (some false))) else (vellumlaw04_RowBack.j0 k a2 a0_0 l0_1 l0_2 l0_3 l0_4))
set_option maxHeartbeats 8000000 in
set_option maxRecDepth 100000 in
theorem vellumlaw04_RowBack.calls (k : Nat) (a0_0 : ByteArray) (A0_1 : Option Addr) (c0_1 : Nat) (l0_1 : List (S105)) (A0_2 : Option Addr) (c0_2 : Nat) (l0_2 : List Int) (A0_3 : Option Addr) (c0_3 : Nat) (l0_3 : List (S115)) (A0_4 : Option Addr) (c0_4 : Nat) (l0_4 : List (S139)) (A1 : Option Addr) (c1 : Nat) (l1 : List (S50)) (a2 : ByteArray) (r : Bool) (w : World) (hr0_1 : Kd.C k105 w A0_1 l0_1.length l0_1) (hc0_1 : l0_1.length ≤ c0_1) (hr0_2 : Kd.C (Kd.int .i64) w A0_2 l0_2.length l0_2) (hc0_2 : l0_2.length ≤ c0_2) (hr0_3 : Kd.C k115 w A0_3 l0_3.length l0_3) (hc0_3 : l0_3.length ≤ c0_3) (hr0_4 : Kd.C k139 w A0_4 l0_4.length l0_4) (hc0_4 : l0_4.length ≤ c0_4) (hr1 : Kd.C k50 w A1 l1.length l1) (hc1 : l1.length ≤ c1) (hG : Glob w) (h : vellumlaw04_RowBack.f k a0_0 l0_1 l0_2 l0_3 l0_4 l1 a2 = some r) :
    Calls Tryd.prog 16 #[.agg #[.string a0_0, .slice A0_1 l0_1.length c0_1, .slice A0_2 l0_2.length c0_2, .slice A0_3 l0_3.length c0_3, .slice A0_4 l0_4.length c0_4], .slice A1 l1.length c1, .string a2] w fun e w' => e = .returned (.bool r) ∧ Below w.heap.size w w' := by
  have hu65 := Tryd.underlying65
  have HR0_1 := am hr0_1
  have HC0_1 := am hc0_1
  clear hr0_1 hc0_1
  have HR0_2 := am hr0_2
  have HC0_2 := am hc0_2
  clear hr0_2 hc0_2
  have HR0_3 := am hr0_3
  have HC0_3 := am hc0_3
  clear hr0_3 hc0_3
  have HR0_4 := am hr0_4
  have HC0_4 := am hc0_4
  clear hr0_4 hc0_4
  have HR1 := am hr1
  have HC1 := am hc1
  clear hr1 hc1
  have HG := am hG
  clear hG
  have HB := am (Below.refl w.heap.size w)
  have H : ((row_Encode.f k a0_0 l0_1 l0_2 l0_3 l0_4 l1).bind fun bt866 => (if bt866.2 = 0 then ((row_Decode.f k a0_0 l0_1 l0_2 l0_3 l0_4 bt866.1).bind fun bt868 => (if bt868.2 = 0 then ((vellumref01_SameRow.f k l1 bt868.1).bind fun t872 => (if t872 = true then (vellumlaw04_RowBack.j0 k a2 a0_0 l0_1 l0_2 l0_3 l0_4) else (some false))) else (some false))) else (vellumlaw04_RowBack.j0 k a2 a0_0 l0_1 l0_2 l0_3 l0_4))) = some r := h
  clear h
  replace H := Option.bind_eq_some_iff.mp H
  obtain ⟨⟨t866, t867⟩, A40, H⟩ := H
  replace H : (if t867 = 0 then ((row_Decode.f k a0_0 l0_1 l0_2 l0_3 l0_4 t866).bind fun bt868 => (if bt868.2 = 0 then ((vellumref01_SameRow.f k l1 bt868.1).bind fun t872 => (if t872 = true then (vellumlaw04_RowBack.j0 k a2 a0_0 l0_1 l0_2 l0_3 l0_4) else (some false))) else (some false))) else (vellumlaw04_RowBack.j0 k a2 a0_0 l0_1 l0_2 l0_3 l0_4)) = some r := H
  have A4 := am A40
  clear A40
  have HC5 := am H
  clear H
  go_enter Tryd.func16, Tryd.ntmps16
  go_upto_if 22 with (first | ((with_reducible refine gate_dst (N := 3) rfl ?_); refine box_event rfl (N := 3) rfl (cs := #[.string a0_0, .slice A0_1 l0_1.length c0_1, .slice A0_2 l0_2.length c0_2, .slice A0_3 l0_3.length c0_3, .slice A0_4 l0_4.length c0_4]) (t := 65) gs ?_; intro gb865 hg w6 hbox hb; have BK865 := am (hbox); have GW865 := gw hg HB; have GE865 := gw hg HB; replace HB := sb HB hb; clear hb hbox hg; obtain ⟨Z7_0, Z7_1, Z7_2, Z7_3, Z7_4, Y7_0, Y7_1, Y7_2, Y7_3, Y7_4⟩ := bq5 BK865) | ((with_reducible refine gate_callee (f := 52) rfl ?_); refine goesL_ (some 18) rfl rfl Tryd.func52 (by kernel_rfl) rfl #[.agg #[.string a0_0, .slice A0_1 l0_1.length c0_1, .slice A0_2 l0_2.length c0_2, .slice A0_3 l0_3.length c0_3, .slice A0_4 l0_4.length c0_4], .slice A1 l1.length c1] rfl ar ?_; (with_reducible refine (row_Encode.calls k a0_0 _ _ l0_1 _ _ l0_2 _ _ l0_3 _ _ l0_4 _ _ l1 t866 t867 _ (Kd.cb HR0_1 HB) HC0_1.out (Kd.cb HR0_2 HB) HC0_2.out (Kd.cb HR0_3 HB) HC0_3.out (Kd.cb HR0_4 HB) HC0_4.out (Kd.cb HR1 HB) HC1.out (Glob.below HG.out (bl HB)) A4.out).mono ?_); rintro e w8 ⟨rfl, hb⟩; refine ⟨_, rfl, ?_⟩; replace BK865 := kb BK865 hb; replace HB := sb HB hb; (try clear hb); (try clear hb2 hk hi)))
  (try simp only [Act.put, List.setIfInBounds_toArray, List.set_cons_zero, List.set_cons_succ])
  go_cut [] (fun wc => ∃ (kq : Nat), Aside0 (vellumlaw04_RowBack.j0 kq a2 a0_0 l0_1 l0_2 l0_3 l0_4 = some r) ∧ Aside0 (kq ≤ k) ∧ Aside0 (wc.heap[gb865]? = some (.cells #[.string a0_0, (.slice A0_1 l0_1.length c0_1), (.slice A0_2 l0_2.length c0_2), (.slice A0_3 l0_3.length c0_3), (.slice A0_4 l0_4.length c0_4)] 65 (0, 0))) ∧ Aside0 (Below w.heap.size w wc))
  case first =>
    have H := HC5.out
    clear HC5
    by_cases c9 : t867 = 0
    · rw [if_pos c9] at H
      have c9b0 : (t867 == 0) = true := beq_iff_eq.mpr c9
      have c9b1 : (t867 != 0) = false := bne_eq_false_iff_eq.mpr c9
      clear c9
      (first | rw [c9b0] | (simp only [i64_w, i32_w]; rw [c9b0]) | skip)
      replace H := Option.bind_eq_some_iff.mp H
      obtain ⟨⟨t868, t871⟩, A100, H⟩ := H
      replace H : (if t871 = 0 then ((vellumref01_SameRow.f k l1 t868).bind fun t872 => (if t872 = true then (vellumlaw04_RowBack.j0 k a2 a0_0 l0_1 l0_2 l0_3 l0_4) else (some false))) else (some false)) = some r := H
      have A10 := am A100
      clear A100
      by_cases c11 : t871 = 0
      · rw [if_pos c11] at H
        have c11b0 : (t871 == 0) = true := beq_iff_eq.mpr c11
        have c11b1 : (t871 != 0) = false := bne_eq_false_iff_eq.mpr c11
        clear c11
        replace H := Option.bind_eq_some_iff.mp H
        obtain ⟨t872, A120, H⟩ := H
        replace H : (if t872 = true then (vellumlaw04_RowBack.j0 k a2 a0_0 l0_1 l0_2 l0_3 l0_4) else (some false)) = some r := H
        have A12 := am A120
        clear A120
        by_cases c13 : t872 = true
        · subst c13
          have H1 : (vellumlaw04_RowBack.j0 k a2 a0_0 l0_1 l0_2 l0_3 l0_4) = some r := by rw [if_pos rfl] at H; exact H
          clear H
          have H := H1
          clear H1
          have H' := am H
          clear H
          obtain ⟨Z14_0, Z14_1, Z14_2, Z14_3, Z14_4, Y14_0, Y14_1, Y14_2, Y14_3, Y14_4⟩ := bq5 BK865
          go_wp2_with (first | ((with_reducible refine gate_callee (f := 58) rfl ?_); refine goesL_ (some 26) rfl rfl Tryd.func58 (by kernel_rfl) rfl #[.agg #[.string a0_0, .slice A0_1 l0_1.length c0_1, .slice A0_2 l0_2.length c0_2, .slice A0_3 l0_3.length c0_3, .slice A0_4 l0_4.length c0_4], .string t866] rfl ar ?_; (with_reducible refine (row_Decode.calls k a0_0 _ _ l0_1 _ _ l0_2 _ _ l0_3 _ _ l0_4 t866 t868 t871 _ (Kd.cb HR0_1 HB) HC0_1.out (Kd.cb HR0_2 HB) HC0_2.out (Kd.cb HR0_3 HB) HC0_3.out (Kd.cb HR0_4 HB) HC0_4.out (Glob.below HG.out (bl HB)) A10.out).mono ?_); rintro e w15 ⟨v869, rfl, ho0, hb⟩; refine ⟨_, rfl, ?_⟩; have n0_ := am (Kd.R_lower ho0 (below_size (bl HB))); have n1_ := kb BK865 hb; have n2_ := sb HB hb; clear BK865; clear HB; have HO870 := n0_; have BK865 := n1_; have HB := n2_; clear n0_ n1_ n2_; (try clear hb); (try clear hb2 hk hi); (try clear ho0); obtain ⟨Ao16, co16, eo16⟩ := Kd.R_slice HO870.out; subst eo16) | (go_at_call 45; (with_reducible refine (vellumref01_SameRow.calls k _ _ l1 _ _ t868 true _ (Kd.cb HR1 HB) HC1.out ?side3 ?side4 A12.out).mono ?_); (case side3 => repeat (first | exact (Kd.R_reads' HO870.out).2.2 | (with_reducible refine Kd.C_alloc ?_ _) | (with_reducible refine Kd.C_drewN ?_ _) | (with_reducible refine Kd.C_drew ?_))); (case side4 => exact (Kd.R_reads' HO870.out).2.1); rintro e w17 ⟨rfl, hb⟩; have n0_ := am (Kd.R_below (Kd.rr HO870.out) hb); have n1_ := kb BK865 hb; have n2_ := sb HB hb; clear HO870; clear BK865; clear HB; have HO870 := n0_; have BK865 := n1_; have HB := n2_; clear n0_ n1_ n2_; (try clear hb); (try clear hb2 hk hi)))
          go_meet
          case rel => exact ⟨_, H', ⟨by first | omega | exact Nat.le_refl _⟩, ⟨bk BK865⟩, ⟨bl HB⟩⟩
        · replace c13 := Bool.eq_false_iff.mpr c13
          subst c13
          have H1 : (some false) = some r := by rw [if_neg (show ¬ (false = true) by decide)] at H; exact H
          clear H
          have H := H1
          clear H1
          obtain rfl := Option.some.inj H
          obtain ⟨Z18_0, Z18_1, Z18_2, Z18_3, Z18_4, Y18_0, Y18_1, Y18_2, Y18_3, Y18_4⟩ := bq5 BK865
          go_wp2_with (first | ((with_reducible refine gate_callee (f := 58) rfl ?_); refine goesL_ (some 26) rfl rfl Tryd.func58 (by kernel_rfl) rfl #[.agg #[.string a0_0, .slice A0_1 l0_1.length c0_1, .slice A0_2 l0_2.length c0_2, .slice A0_3 l0_3.length c0_3, .slice A0_4 l0_4.length c0_4], .string t866] rfl ar ?_; (with_reducible refine (row_Decode.calls k a0_0 _ _ l0_1 _ _ l0_2 _ _ l0_3 _ _ l0_4 t866 t868 t871 _ (Kd.cb HR0_1 HB) HC0_1.out (Kd.cb HR0_2 HB) HC0_2.out (Kd.cb HR0_3 HB) HC0_3.out (Kd.cb HR0_4 HB) HC0_4.out (Glob.below HG.out (bl HB)) A10.out).mono ?_); rintro e w19 ⟨v869, rfl, ho0, hb⟩; refine ⟨_, rfl, ?_⟩; have n0_ := am (Kd.R_lower ho0 (below_size (bl HB))); have n1_ := kb BK865 hb; have n2_ := sb HB hb; clear BK865; clear HB; have HO870 := n0_; have BK865 := n1_; have HB := n2_; clear n0_ n1_ n2_; (try clear hb); (try clear hb2 hk hi); (try clear ho0); obtain ⟨Ao20, co20, eo20⟩ := Kd.R_slice HO870.out; subst eo20) | (go_at_call 45; (with_reducible refine (vellumref01_SameRow.calls k _ _ l1 _ _ t868 false _ (Kd.cb HR1 HB) HC1.out ?side3 ?side4 A12.out).mono ?_); (case side3 => repeat (first | exact (Kd.R_reads' HO870.out).2.2 | (with_reducible refine Kd.C_alloc ?_ _) | (with_reducible refine Kd.C_drewN ?_ _) | (with_reducible refine Kd.C_drew ?_))); (case side4 => exact (Kd.R_reads' HO870.out).2.1); rintro e w21 ⟨rfl, hb⟩; have n0_ := am (Kd.R_below (Kd.rr HO870.out) hb); have n1_ := kb BK865 hb; have n2_ := sb HB hb; clear HO870; clear BK865; clear HB; have HO870 := n0_; have BK865 := n1_; have HB := n2_; clear n0_ n1_ n2_; (try clear hb); (try clear hb2 hk hi)))
          go_ret
          exact ⟨er, bl HB⟩
      · rw [if_neg c11] at H
        have c11b0 : (t871 == 0) = false := beq_eq_false_iff_ne.mpr c11
        have c11b1 : (t871 != 0) = true := bne_iff_ne.mpr c11
        obtain rfl := Option.some.inj H
        obtain ⟨Z22_0, Z22_1, Z22_2, Z22_3, Z22_4, Y22_0, Y22_1, Y22_2, Y22_3, Y22_4⟩ := bq5 BK865
        go_wp2_with (first | ((with_reducible refine gate_callee (f := 58) rfl ?_); refine goesL_ (some 26) rfl rfl Tryd.func58 (by kernel_rfl) rfl #[.agg #[.string a0_0, .slice A0_1 l0_1.length c0_1, .slice A0_2 l0_2.length c0_2, .slice A0_3 l0_3.length c0_3, .slice A0_4 l0_4.length c0_4], .string t866] rfl ar ?_; (with_reducible refine (row_Decode.calls k a0_0 _ _ l0_1 _ _ l0_2 _ _ l0_3 _ _ l0_4 t866 t868 t871 _ (Kd.cb HR0_1 HB) HC0_1.out (Kd.cb HR0_2 HB) HC0_2.out (Kd.cb HR0_3 HB) HC0_3.out (Kd.cb HR0_4 HB) HC0_4.out (Glob.below HG.out (bl HB)) A10.out).mono ?_); rintro e w23 ⟨v869, rfl, ho0, hb⟩; refine ⟨_, rfl, ?_⟩; have n0_ := am (Kd.R_lower ho0 (below_size (bl HB))); have n1_ := kb BK865 hb; have n2_ := sb HB hb; clear BK865; clear HB; have HO870 := n0_; have BK865 := n1_; have HB := n2_; clear n0_ n1_ n2_; (try clear hb); (try clear hb2 hk hi); (try clear ho0)))
        go_ret
        exact ⟨er, bl HB⟩
    · rw [if_neg c9] at H
      have c9b0 : (t867 == 0) = false := beq_eq_false_iff_ne.mpr c9
      have c9b1 : (t867 != 0) = true := bne_iff_ne.mpr c9
      (first | rw [c9b0] | (simp only [i64_w, i32_w]; rw [c9b0]) | skip)
      have H' := am H
      clear H
      go_wp2
      go_meet
      case rel => exact ⟨_, H', ⟨by first | omega | exact Nat.le_refl _⟩, ⟨bk BK865⟩, ⟨bl HB⟩⟩
  case rest =>
    clear HC5
    try clear c1
    try clear p2
    try clear c5
    try clear c9
    try clear c9b0
    try clear c9b1
    try clear c11
    try clear c11b0
    try clear c11b1
    try clear c13
    try clear c16
    try clear Z14_0
    try clear Z14_1
    try clear Z14_2
    try clear Z14_3
    try clear Z14_4
    try clear Z18_0
    try clear Z18_1
    try clear Z18_2
    try clear Z18_3
    try clear Z18_4
    try clear Z22_0
    try clear Z22_1
    try clear Z22_2
    try clear Z22_3
    try clear Z22_4
    try clear Z7_0
    try clear Z7_1
    try clear Z7_2
    try clear Z7_3
    try clear Z7_4
    try clear Y14_0
    try clear Y14_1
    try clear Y14_2
    try clear Y14_3
    try clear Y14_4
    try clear Y18_0
    try clear Y18_1
    try clear Y18_2
    try clear Y18_3
    try clear Y18_4
    try clear Y22_0
    try clear Y22_1
    try clear Y22_2
    try clear Y22_3
    try clear Y22_4
    try clear Y7_0
    try clear Y7_1
    try clear Y7_2
    try clear Y7_3
    try clear Y7_4
    obtain ⟨kq, HA, HJ4, BK865, HB⟩ := hcut
    cases kq with
    | zero => exact absurd HA.out (by simp [vellumlaw04_RowBack.j0])
    | succ kj4 =>
      have H := HA.out
      clear HA
      simp only [vellumlaw04_RowBack.j0] at H
      replace H := Option.bind_eq_some_iff.mp H
      obtain ⟨⟨t873, t876⟩, A240, H⟩ := H
      replace H : (if t876 = 0 then ((row_Encode.f kj4 a0_0 l0_1 l0_2 l0_3 l0_4 t873).bind fun bt877 => (if bt877.2 = 0 then (if bt877.1.toList = a2.toList then ((vellumlaw04_awake.f kj4).bind fun t879 => (some t879)) else (some false)) else (some false))) else (if (t873.length : Int) = 0 then ((vellumlaw04_awake.f kj4).bind fun t880 => (some t880)) else (some false))) = some r := H
      have A24 := am A240
      clear A240
      by_cases c25 : t876 = 0
      · rw [if_pos c25] at H
        have c25b0 : (t876 == 0) = true := beq_iff_eq.mpr c25
        have c25b1 : (t876 != 0) = false := bne_eq_false_iff_eq.mpr c25
        clear c25
        replace H := Option.bind_eq_some_iff.mp H
        obtain ⟨⟨t877, t878⟩, A260, H⟩ := H
        replace H : (if t878 = 0 then (if t877.toList = a2.toList then ((vellumlaw04_awake.f kj4).bind fun t879 => (some t879)) else (some false)) else (some false)) = some r := H
        have A26 := am A260
        clear A260
        by_cases c27 : t878 = 0
        · rw [if_pos c27] at H
          have c27b0 : (t878 == 0) = true := beq_iff_eq.mpr c27
          have c27b1 : (t878 != 0) = false := bne_eq_false_iff_eq.mpr c27
          clear c27
          by_cases c28 : t877.toList = a2.toList
          · rw [if_pos c28] at H
            have c28b0 : (t877.toList == a2.toList) = true := beq_iff_eq.mpr c28
            have c28b1 : (t877.toList != a2.toList) = false := bne_eq_false_iff_eq.mpr c28
            clear c28
            replace H := Option.bind_eq_some_iff.mp H
            obtain ⟨t879, A290, H⟩ := H
            replace H : (some t879) = some r := H
            have A29 := am A290
            clear A290
            obtain rfl := Option.some.inj H
            obtain ⟨Z30_0, Z30_1, Z30_2, Z30_3, Z30_4, Y30_0, Y30_1, Y30_2, Y30_3, Y30_4⟩ := bq5 BK865
            go_wp2_with (first | ((with_reducible refine gate_callee (f := 58) rfl ?_); refine goesL_ (some 40) rfl rfl Tryd.func58 (by kernel_rfl) rfl #[.agg #[.string a0_0, .slice A0_1 l0_1.length c0_1, .slice A0_2 l0_2.length c0_2, .slice A0_3 l0_3.length c0_3, .slice A0_4 l0_4.length c0_4], .string a2] rfl ar ?_; (with_reducible refine (row_Decode.calls kj4 a0_0 _ _ l0_1 _ _ l0_2 _ _ l0_3 _ _ l0_4 a2 t873 t876 _ (Kd.cb HR0_1 HB) HC0_1.out (Kd.cb HR0_2 HB) HC0_2.out (Kd.cb HR0_3 HB) HC0_3.out (Kd.cb HR0_4 HB) HC0_4.out (Glob.below HG.out (bl HB)) A24.out).mono ?_); rintro e w31 ⟨v874, rfl, ho0, hb⟩; refine ⟨_, rfl, ?_⟩; have n0_ := am (Kd.R_lower ho0 (below_size (bl HB))); have n1_ := kb BK865 hb; have n2_ := sb HB hb; clear BK865; clear HB; have HO875 := n0_; have BK865 := n1_; have HB := n2_; clear n0_ n1_ n2_; (try clear hb); (try clear hb2 hk hi); (try clear ho0); obtain ⟨Z32_0, Z32_1, Z32_2, Z32_3, Z32_4, Y32_0, Y32_1, Y32_2, Y32_3, Y32_4⟩ := bq5 BK865; obtain ⟨Ao33, co33, eo33⟩ := Kd.R_slice HO875.out; subst eo33) | ((with_reducible refine gate_callee (f := 52) rfl ?_); refine goesL_ (some 54) rfl rfl Tryd.func52 (by kernel_rfl) rfl #[.agg #[.string a0_0, .slice A0_1 l0_1.length c0_1, .slice A0_2 l0_2.length c0_2, .slice A0_3 l0_3.length c0_3, .slice A0_4 l0_4.length c0_4], .slice Ao33 t873.length co33] rfl ar ?_; (with_reducible refine (row_Encode.calls kj4 a0_0 _ _ l0_1 _ _ l0_2 _ _ l0_3 _ _ l0_4 _ _ t873 t877 t878 _ (Kd.cb HR0_1 HB) HC0_1.out (Kd.cb HR0_2 HB) HC0_2.out (Kd.cb HR0_3 HB) HC0_3.out (Kd.cb HR0_4 HB) HC0_4.out ?side9 ?side10 (Glob.below HG.out (bl HB)) A26.out).mono ?_); (case side9 => repeat (first | exact (Kd.R_reads' HO875.out).2.2 | (with_reducible refine Kd.C_alloc ?_ _) | (with_reducible refine Kd.C_drewN ?_ _) | (with_reducible refine Kd.C_drew ?_))); (case side10 => exact (Kd.R_reads' HO875.out).2.1); rintro e w34 ⟨rfl, hb⟩; refine ⟨_, rfl, ?_⟩; have n0_ := am (Kd.R_below (Kd.rr HO875.out) hb); have n1_ := kb BK865 hb; have n2_ := sb HB hb; clear HO875; clear BK865; clear HB; have HO875 := n0_; have BK865 := n1_; have HB := n2_; clear n0_ n1_ n2_; (try clear hb); (try clear hb2 hk hi)) | (go_at_call 54; (with_reducible refine (vellumlaw04_awake.calls kj4  t879 _ (Glob.below HG.out (bl HB)) A29.out).mono ?_); rintro e w35 ⟨rfl, hb⟩; have n0_ := am (Kd.R_below (Kd.rr HO875.out) hb); have n1_ := kb BK865 hb; have n2_ := sb HB hb; clear HO875; clear BK865; clear HB; have HO875 := n0_; have BK865 := n1_; have HB := n2_; clear n0_ n1_ n2_; (try clear hb); (try clear hb2 hk hi)))
            go_ret
            exact ⟨er, bl HB⟩
          · rw [if_neg c28] at H
            have c28b0 : (t877.toList == a2.toList) = false := beq_eq_false_iff_ne.mpr c28
            have c28b1 : (t877.toList != a2.toList) = true := bne_iff_ne.mpr c28
            obtain rfl := Option.some.inj H
            obtain ⟨Z36_0, Z36_1, Z36_2, Z36_3, Z36_4, Y36_0, Y36_1, Y36_2, Y36_3, Y36_4⟩ := bq5 BK865
            go_wp2_with (first | ((with_reducible refine gate_callee (f := 58) rfl ?_); refine goesL_ (some 40) rfl rfl Tryd.func58 (by kernel_rfl) rfl #[.agg #[.string a0_0, .slice A0_1 l0_1.length c0_1, .slice A0_2 l0_2.length c0_2, .slice A0_3 l0_3.length c0_3, .slice A0_4 l0_4.length c0_4], .string a2] rfl ar ?_; (with_reducible refine (row_Decode.calls kj4 a0_0 _ _ l0_1 _ _ l0_2 _ _ l0_3 _ _ l0_4 a2 t873 t876 _ (Kd.cb HR0_1 HB) HC0_1.out (Kd.cb HR0_2 HB) HC0_2.out (Kd.cb HR0_3 HB) HC0_3.out (Kd.cb HR0_4 HB) HC0_4.out (Glob.below HG.out (bl HB)) A24.out).mono ?_); rintro e w37 ⟨v874, rfl, ho0, hb⟩; refine ⟨_, rfl, ?_⟩; have n0_ := am (Kd.R_lower ho0 (below_size (bl HB))); have n1_ := kb BK865 hb; have n2_ := sb HB hb; clear BK865; clear HB; have HO875 := n0_; have BK865 := n1_; have HB := n2_; clear n0_ n1_ n2_; (try clear hb); (try clear hb2 hk hi); (try clear ho0); obtain ⟨Z38_0, Z38_1, Z38_2, Z38_3, Z38_4, Y38_0, Y38_1, Y38_2, Y38_3, Y38_4⟩ := bq5 BK865; obtain ⟨Ao39, co39, eo39⟩ := Kd.R_slice HO875.out; subst eo39) | ((with_reducible refine gate_callee (f := 52) rfl ?_); refine goesL_ (some 54) rfl rfl Tryd.func52 (by kernel_rfl) rfl #[.agg #[.string a0_0, .slice A0_1 l0_1.length c0_1, .slice A0_2 l0_2.length c0_2, .slice A0_3 l0_3.length c0_3, .slice A0_4 l0_4.length c0_4], .slice Ao39 t873.length co39] rfl ar ?_; (with_reducible refine (row_Encode.calls kj4 a0_0 _ _ l0_1 _ _ l0_2 _ _ l0_3 _ _ l0_4 _ _ t873 t877 t878 _ (Kd.cb HR0_1 HB) HC0_1.out (Kd.cb HR0_2 HB) HC0_2.out (Kd.cb HR0_3 HB) HC0_3.out (Kd.cb HR0_4 HB) HC0_4.out ?side9 ?side10 (Glob.below HG.out (bl HB)) A26.out).mono ?_); (case side9 => repeat (first | exact (Kd.R_reads' HO875.out).2.2 | (with_reducible refine Kd.C_alloc ?_ _) | (with_reducible refine Kd.C_drewN ?_ _) | (with_reducible refine Kd.C_drew ?_))); (case side10 => exact (Kd.R_reads' HO875.out).2.1); rintro e w40 ⟨rfl, hb⟩; refine ⟨_, rfl, ?_⟩; have n0_ := am (Kd.R_below (Kd.rr HO875.out) hb); have n1_ := kb BK865 hb; have n2_ := sb HB hb; clear HO875; clear BK865; clear HB; have HO875 := n0_; have BK865 := n1_; have HB := n2_; clear n0_ n1_ n2_; (try clear hb); (try clear hb2 hk hi)))
            go_ret
            exact ⟨er, bl HB⟩
        · rw [if_neg c27] at H
          have c27b0 : (t878 == 0) = false := beq_eq_false_iff_ne.mpr c27
          have c27b1 : (t878 != 0) = true := bne_iff_ne.mpr c27
          obtain rfl := Option.some.inj H
          obtain ⟨Z41_0, Z41_1, Z41_2, Z41_3, Z41_4, Y41_0, Y41_1, Y41_2, Y41_3, Y41_4⟩ := bq5 BK865
          go_wp2_with (first | ((with_reducible refine gate_callee (f := 58) rfl ?_); refine goesL_ (some 40) rfl rfl Tryd.func58 (by kernel_rfl) rfl #[.agg #[.string a0_0, .slice A0_1 l0_1.length c0_1, .slice A0_2 l0_2.length c0_2, .slice A0_3 l0_3.length c0_3, .slice A0_4 l0_4.length c0_4], .string a2] rfl ar ?_; (with_reducible refine (row_Decode.calls kj4 a0_0 _ _ l0_1 _ _ l0_2 _ _ l0_3 _ _ l0_4 a2 t873 t876 _ (Kd.cb HR0_1 HB) HC0_1.out (Kd.cb HR0_2 HB) HC0_2.out (Kd.cb HR0_3 HB) HC0_3.out (Kd.cb HR0_4 HB) HC0_4.out (Glob.below HG.out (bl HB)) A24.out).mono ?_); rintro e w42 ⟨v874, rfl, ho0, hb⟩; refine ⟨_, rfl, ?_⟩; have n0_ := am (Kd.R_lower ho0 (below_size (bl HB))); have n1_ := kb BK865 hb; have n2_ := sb HB hb; clear BK865; clear HB; have HO875 := n0_; have BK865 := n1_; have HB := n2_; clear n0_ n1_ n2_; (try clear hb); (try clear hb2 hk hi); (try clear ho0); obtain ⟨Z43_0, Z43_1, Z43_2, Z43_3, Z43_4, Y43_0, Y43_1, Y43_2, Y43_3, Y43_4⟩ := bq5 BK865; obtain ⟨Ao44, co44, eo44⟩ := Kd.R_slice HO875.out; subst eo44) | ((with_reducible refine gate_callee (f := 52) rfl ?_); refine goesL_ (some 54) rfl rfl Tryd.func52 (by kernel_rfl) rfl #[.agg #[.string a0_0, .slice A0_1 l0_1.length c0_1, .slice A0_2 l0_2.length c0_2, .slice A0_3 l0_3.length c0_3, .slice A0_4 l0_4.length c0_4], .slice Ao44 t873.length co44] rfl ar ?_; (with_reducible refine (row_Encode.calls kj4 a0_0 _ _ l0_1 _ _ l0_2 _ _ l0_3 _ _ l0_4 _ _ t873 t877 t878 _ (Kd.cb HR0_1 HB) HC0_1.out (Kd.cb HR0_2 HB) HC0_2.out (Kd.cb HR0_3 HB) HC0_3.out (Kd.cb HR0_4 HB) HC0_4.out ?side9 ?side10 (Glob.below HG.out (bl HB)) A26.out).mono ?_); (case side9 => repeat (first | exact (Kd.R_reads' HO875.out).2.2 | (with_reducible refine Kd.C_alloc ?_ _) | (with_reducible refine Kd.C_drewN ?_ _) | (with_reducible refine Kd.C_drew ?_))); (case side10 => exact (Kd.R_reads' HO875.out).2.1); rintro e w45 ⟨rfl, hb⟩; refine ⟨_, rfl, ?_⟩; have n0_ := am (Kd.R_below (Kd.rr HO875.out) hb); have n1_ := kb BK865 hb; have n2_ := sb HB hb; clear HO875; clear BK865; clear HB; have HO875 := n0_; have BK865 := n1_; have HB := n2_; clear n0_ n1_ n2_; (try clear hb); (try clear hb2 hk hi)))
          go_ret
          exact ⟨er, bl HB⟩
      · rw [if_neg c25] at H
        have c25b0 : (t876 == 0) = false := beq_eq_false_iff_ne.mpr c25
        have c25b1 : (t876 != 0) = true := bne_iff_ne.mpr c25
        by_cases c46 : (t873.length : Int) = 0
        · rw [if_pos c46] at H
          have c46b0 : ((t873.length : Int) == 0) = true := beq_iff_eq.mpr c46
          have c46b1 : ((t873.length : Int) != 0) = false := bne_eq_false_iff_eq.mpr c46
          clear c46
          replace H := Option.bind_eq_some_iff.mp H
          obtain ⟨t880, A470, H⟩ := H
          replace H : (some t880) = some r := H
          have A47 := am A470
          clear A470
          obtain rfl := Option.some.inj H
          obtain ⟨Z48_0, Z48_1, Z48_2, Z48_3, Z48_4, Y48_0, Y48_1, Y48_2, Y48_3, Y48_4⟩ := bq5 BK865
          go_wp2_with (first | ((with_reducible refine gate_callee (f := 58) rfl ?_); refine goesL_ (some 40) rfl rfl Tryd.func58 (by kernel_rfl) rfl #[.agg #[.string a0_0, .slice A0_1 l0_1.length c0_1, .slice A0_2 l0_2.length c0_2, .slice A0_3 l0_3.length c0_3, .slice A0_4 l0_4.length c0_4], .string a2] rfl ar ?_; (with_reducible refine (row_Decode.calls kj4 a0_0 _ _ l0_1 _ _ l0_2 _ _ l0_3 _ _ l0_4 a2 t873 t876 _ (Kd.cb HR0_1 HB) HC0_1.out (Kd.cb HR0_2 HB) HC0_2.out (Kd.cb HR0_3 HB) HC0_3.out (Kd.cb HR0_4 HB) HC0_4.out (Glob.below HG.out (bl HB)) A24.out).mono ?_); rintro e w49 ⟨v874, rfl, ho0, hb⟩; refine ⟨_, rfl, ?_⟩; have n0_ := am (Kd.R_lower ho0 (below_size (bl HB))); have n1_ := kb BK865 hb; have n2_ := sb HB hb; clear BK865; clear HB; have HO875 := n0_; have BK865 := n1_; have HB := n2_; clear n0_ n1_ n2_; (try clear hb); (try clear hb2 hk hi); (try clear ho0); obtain ⟨Ao50, co50, eo50⟩ := Kd.R_slice HO875.out; subst eo50) | (go_at_call 54; (with_reducible refine (vellumlaw04_awake.calls kj4  t880 _ (Glob.below HG.out (bl HB)) A47.out).mono ?_); rintro e w51 ⟨rfl, hb⟩; have n0_ := am (Kd.R_below (Kd.rr HO875.out) hb); have n1_ := kb BK865 hb; have n2_ := sb HB hb; clear HO875; clear BK865; clear HB; have HO875 := n0_; have BK865 := n1_; have HB := n2_; clear n0_ n1_ n2_; (try clear hb); (try clear hb2 hk hi)))
          go_ret
          exact ⟨er, bl HB⟩
        · rw [if_neg c46] at H
          have c46b0 : ((t873.length : Int) == 0) = false := beq_eq_false_iff_ne.mpr c46
          have c46b1 : ((t873.length : Int) != 0) = true := bne_iff_ne.mpr c46
          have c46b2 : ¬ (t873 = []) := fun h_ => c46 (by rw [h_]; rfl)
          obtain rfl := Option.some.inj H
          obtain ⟨Z52_0, Z52_1, Z52_2, Z52_3, Z52_4, Y52_0, Y52_1, Y52_2, Y52_3, Y52_4⟩ := bq5 BK865
          go_wp2_with (first | ((with_reducible refine gate_callee (f := 58) rfl ?_); refine goesL_ (some 40) rfl rfl Tryd.func58 (by kernel_rfl) rfl #[.agg #[.string a0_0, .slice A0_1 l0_1.length c0_1, .slice A0_2 l0_2.length c0_2, .slice A0_3 l0_3.length c0_3, .slice A0_4 l0_4.length c0_4], .string a2] rfl ar ?_; (with_reducible refine (row_Decode.calls kj4 a0_0 _ _ l0_1 _ _ l0_2 _ _ l0_3 _ _ l0_4 a2 t873 t876 _ (Kd.cb HR0_1 HB) HC0_1.out (Kd.cb HR0_2 HB) HC0_2.out (Kd.cb HR0_3 HB) HC0_3.out (Kd.cb HR0_4 HB) HC0_4.out (Glob.below HG.out (bl HB)) A24.out).mono ?_); rintro e w53 ⟨v874, rfl, ho0, hb⟩; refine ⟨_, rfl, ?_⟩; have n0_ := am (Kd.R_lower ho0 (below_size (bl HB))); have n1_ := kb BK865 hb; have n2_ := sb HB hb; clear BK865; clear HB; have HO875 := n0_; have BK865 := n1_; have HB := n2_; clear n0_ n1_ n2_; (try clear hb); (try clear hb2 hk hi); (try clear ho0); obtain ⟨Ao54, co54, eo54⟩ := Kd.R_slice HO875.out; subst eo54))
          go_ret
          exact ⟨er, bl HB⟩
end Go.Proofs.YtpiifdbicibelaaDoor.PA
end
section
namespace Go.Proofs.YtpiifdbicibelaaDoor.Pure
open Go.RowKit Go.Proofs Go.Proofs.YtpiifdbicibelaaDoorW.PrintWords Go.Proofs.YtpiifdbicibelaaDoorW.PrintLast Go.Proofs.YtpiifdbicibelaaDoorW.PrintMore Go.Proofs.YtpiifdbicibelaaDoor.PA Go.Proofs.YtpiifdbicibelaaDoor.OpenK
set_option linter.unusedVariables false
set_option linter.unusedSimpArgs false
abbrev R3 := List S50 × ByteArray × Bool
def kindsOf (cs : List S105) : List Int := cs.map fun c => c.f1
def decSpec (cs : List S105) (acc : List S50) (o : Option (List S50 × List Int)) (r : R3) : Prop :=
  match o with
  | none => r.2.2 = false
  | some (vs, R) => if admRow cs vs = 0 then r = (acc ++ vs, strOfNums R, true) else r.2.2 = false
theorem mk_get {H : List Int} {i : Nat} (h : i / 4 < H.length) : mk H i = (H[i / 4] / 4 ^ (i % 4)) % 4 := by
  unfold mk; simp [List.getD, List.getElem?_eq_getElem h]
theorem mark_read {H : List Int} (hH : Bytes H) {i : Nat} (h : i / 4 < H.length) : Go.bits .and .u8 (shr .u8 (bt (strOfNums H) ((i / 4 : Nat) : Int)) ((2 * (i % 4) : Nat) : Int)) 3 = mk H i := by
  rw [str_bt hH (i / 4) h, and3 _ _ (hH _ (List.getElem_mem h)) (Nat.mod_lt _ (by decide)), mk_get h]
theorem rd105_get (cs : List S105) (i : Nat) (h : i < cs.length) : rd_T105 cs (i : Int) = cs[i] := by
  unfold rd_T105; simp [List.getD, List.getElem?_eq_getElem h]
theorem dec_l1 (cs : List S105) (hcs : cs.length ≤ 64) (hk : ∀ c ∈ cs, 1 ≤ c.f1 ∧ c.f1 ≤ 5) (H : List Int) (hH : Bytes H) (hHl : H.length = (cs.length + 3) / 4) : ∀ (m i : Nat) (acc : List S50) (L : List Int), i + m = cs.length → acc.length ≤ i → Bytes L → L.length ≤ 65536 →
    ∃ r, Ev (fun k => row_decode.l1 k (strOfNums L) (strOfNums H) acc cs (cs.length : Int) (i : Int)) r ∧ decSpec (cs.drop i) acc (rowV (kindsOf (cs.drop i)) H i L) r
  | 0, i, acc, L, hm, ha, hL, hlen => by
    refine ⟨(acc, strOfNums L, true), Ev.from_ 1 fun k => ?_, ?_⟩
    · simp only [row_decode.l1]
      rw [if_neg (by omega)]
    · rw [List.drop_of_length_le (by omega)]
      show decSpec [] acc (some ([], L)) _
      simp [decSpec, admRow]
  | m + 1, i, acc, L, hm, ha, hL, hlen => by
    have hlt : i < cs.length := by omega
    have hc := hk _ (List.getElem_mem hlt)
    have hdiv : i / 4 < H.length := by omega
    obtain ⟨rg, g1, g2⟩ := get_code (c := cs[i]) hc (mk H i) (mk_range H i) L hL hlen
    have h1 : True → wrap64 ((i : Int) + 1) = ((i + 1 : Nat) : Int) := fun _ => wrap_one i (by omega)
    have h4 : True → wrap64 (Int.tdiv (i : Int) 4) = ((i / 4 : Nat) : Int) := fun _ => by rw [tdiv4]; exact wrap64_id (by omega) (by omega)
    have h2 : True → wrap64 (2 * (Int.tmod (i : Int) 4)) = ((2 * (i % 4) : Nat) : Int) := fun _ => by rw [tmod4, wrap64_id (by omega) (by omega)]; omega
    have hmr := mark_read hH hdiv
    have hds : cs.drop i = cs[i] :: cs.drop (i + 1) := List.drop_eq_getElem_cons hlt
    have step : ∀ k, row_decode.l1 (k + 1) (strOfNums L) (strOfNums H) acc cs (cs.length : Int) (i : Int) = (row_get.f k cs[i].f0 cs[i].f1 cs[i].f2 cs[i].f3.f0 cs[i].f3.f1 cs[i].f3.f2 cs[i].f3.f3 (mk H i) (strOfNums L)).bind fun bt812 => (if bt812.2.2.2.2.2 = true then (if acc.length < 3518437208883 then (row_decode.l1 k bt812.2.2.2.2.1 (strOfNums H) (acc ++ [(⟨bt812.1, bt812.2.1, bt812.2.2.1, bt812.2.2.2.1⟩ : S50)]) cs (cs.length : Int) ((i + 1 : Nat) : Int)) else (none)) else (some (([] : List (S50)), (⟨#[]⟩ : ByteArray), false))) := by
      intro k
      simp only [row_decode.l1, h1 trivial, h4 trivial, h2 trivial, str_size]
      rw [if_pos (by omega), if_pos (by omega), if_pos (by omega), if_pos (by omega), if_pos (by omega), if_pos (by omega), hmr, rd105_get cs i hlt]
    rw [hds]
    have fails : rg.2.2.2.2.2 = false → Ev (fun k => row_decode.l1 k (strOfNums L) (strOfNums H) acc cs (cs.length : Int) (i : Int)) (([] : List (S50)), (⟨#[]⟩ : ByteArray), false) := fun hf =>
      Ev.step step (Ev.bind g1 (Ev.neg (by rw [hf]; decide) Ev.pure))
    simp only [kindsOf, List.map_cons, rowV]
    cases hv : valR cs[i].f1 (mk H i) L with
    | none =>
      rw [hv] at g2
      exact ⟨_, fails g2, rfl⟩
    | some p =>
      obtain ⟨v, R⟩ := p
      rw [hv] at g2
      simp only [getSpec] at g2
      have hR : Bytes R ∧ R.length ≤ 65536 := by
        obtain ⟨e, _⟩ := valR_sound hc (mk_range H i).1 hL hlen hv
        have := valR_len hv
        rw [e] at hL
        exact ⟨hL.app.2, by omega⟩
      by_cases hf : fitB cs[i] v = true
      · rw [if_pos hf] at g2
        subst g2
        obtain ⟨r, r1, r2⟩ := dec_l1 cs hcs hk H hH hHl m (i + 1) (acc ++ [v]) R (by omega) (by simp; omega) hR.1 hR.2
        refine ⟨r, Ev.step step (Ev.bind g1 (Ev.pos rfl (Ev.pos (by omega) r1))), ?_⟩
        simp only [kindsOf] at r2
        simp only
        cases hw : rowV ((cs.drop (i + 1)).map fun c => c.f1) H (i + 1) R with
        | none => rw [hw] at r2; exact r2
        | some q =>
          obtain ⟨vs, R'⟩ := q
          rw [hw] at r2
          simp only [decSpec] at r2 ⊢
          by_cases ha : admRow (cs.drop (i + 1)) vs = 0
          · rw [if_pos ha] at r2
            rw [if_pos ((admRow_cons _ _ _ _).2 ⟨hf, ha⟩), r2, List.append_assoc]; rfl
          · rw [if_neg ha] at r2
            rw [if_neg (fun h => ha ((admRow_cons _ _ _ _).1 h).2)]
            exact r2
      · rw [if_neg hf] at g2
        refine ⟨_, fails g2, ?_⟩
        simp only
        cases hw : rowV ((cs.drop (i + 1)).map fun c => c.f1) H (i + 1) R with
        | none => rfl
        | some q =>
          obtain ⟨vs, R'⟩ := q
          simp only [decSpec]
          rw [if_neg (fun h => hf ((admRow_cons _ _ _ _).1 h).1)]
          trivial
theorem dec_l0 (cs : List S105) (hcs : cs.length ≤ 64) (H : List Int) (hH : Bytes H) (hHl : H.length = (cs.length + 3) / 4) (L : List Int) (r : R3) (hr : Ev (fun k => row_decode.l1 k (strOfNums L) (strOfNums H) [] cs (cs.length : Int) 0) r) : ∀ (m i : Nat), i + m = 4 * ((cs.length + 3) / 4) →
    Ev (fun k => row_decode.l0 k cs (strOfNums L) (((cs.length + 3) / 4 : Nat) : Int) (strOfNums H) (i : Int)) (if padOk H i m = true then r else (([] : List (S50)), (⟨#[]⟩ : ByteArray), false))
  | 0, i, hm => by
    rw [if_pos (show padOk H i 0 = true from rfl)]
    refine Ev.step (fun k => ?_) hr
    have h4 : True → wrap64 (4 * (((cs.length + 3) / 4 : Nat) : Int)) = ((4 * ((cs.length + 3) / 4) : Nat) : Int) := fun _ => by rw [wrap64_id (by omega) (by omega)]; omega
    simp only [row_decode.l0, h4 trivial]
    rw [if_neg (by omega)]
  | m + 1, i, hm => by
    have hdiv : i / 4 < H.length := by omega
    have h0 : True → wrap64 (4 * (((cs.length + 3) / 4 : Nat) : Int)) = ((4 * ((cs.length + 3) / 4) : Nat) : Int) := fun _ => by rw [wrap64_id (by omega) (by omega)]; omega
    have h1 : True → wrap64 ((i : Int) + 1) = ((i + 1 : Nat) : Int) := fun _ => wrap_one i (by omega)
    have h4 : True → wrap64 (Int.tdiv (i : Int) 4) = ((i / 4 : Nat) : Int) := fun _ => by rw [tdiv4]; exact wrap64_id (by omega) (by omega)
    have h2 : True → wrap64 (2 * (Int.tmod (i : Int) 4)) = ((2 * (i % 4) : Nat) : Int) := fun _ => by rw [tmod4, wrap64_id (by omega) (by omega)]; omega
    have hmr := mark_read hH hdiv
    refine Ev.step (g := fun k => if mk H i = 0 then row_decode.l0 k cs (strOfNums L) (((cs.length + 3) / 4 : Nat) : Int) (strOfNums H) ((i + 1 : Nat) : Int) else some (([] : List (S50)), (⟨#[]⟩ : ByteArray), false)) (fun k => ?_) ?_
    · simp only [row_decode.l0, h0 trivial, h1 trivial, h4 trivial, h2 trivial, str_size]
      rw [if_pos (by omega), if_pos (by omega), if_pos (by omega), if_pos (by omega), hmr]
    · have ih := dec_l0 cs hcs H hH hHl L r hr m (i + 1) (by omega)
      by_cases hz : mk H i = 0
      · refine Ev.pos hz ?_
        have e : padOk H i (m + 1) = padOk H (i + 1) m := by
          show (mk H i == 0 && padOk H (i + 1) m) = _
          rw [hz]; rfl
        rw [e]; exact ih
      · refine Ev.neg hz ?_
        have hz2 : (mk H i == 0) = false := by simpa using hz
        have e : padOk H i (m + 1) = false := by
          show (mk H i == 0 && padOk H (i + 1) m) = _
          rw [hz2]; rfl
        rw [if_neg (by rw [e]; decide)]; exact Ev.pure
theorem decode_ev4 (cs : List S105) (hcs : cs.length ≤ 64) (hk : ∀ c ∈ cs, 1 ≤ c.f1 ∧ c.f1 ≤ 5) (L : List Int) (hL : Bytes L) (hlen : L.length ≤ 65536) :
    ∃ r, Ev (fun k => row_decode.f k cs (strOfNums L)) r ∧ decSpec cs [] (rowR (kindsOf cs) L) r := by
  have e1 : wrap64 (Int.tdiv (wrap64 ((wrap64 (2 * (cs.length : Int))) + 7)) 8) = (((cs.length + 3) / 4 : Nat) : Int) := by
    rw [wrap64_id (n := 2 * (cs.length : Int)) (by omega) (by omega), wrap64_id (n := 2 * (cs.length : Int) + 7) (by omega) (by omega)]
    have e : Int.tdiv (2 * (cs.length : Int) + 7) 8 = (((2 * cs.length + 7) / 8 : Nat) : Int) := rfl
    rw [e, wrap64_id (by omega) (by omega)]; omega
  have hkl : (kindsOf cs).length = cs.length := by simp [kindsOf]
  simp only [row_decode.f, e1, str_size, rowR, hkl]
  by_cases hn : L.length < (cs.length + 3) / 4
  · rw [if_pos hn]
    exact ⟨_, Ev.pos (by omega) Ev.pure, rfl⟩
  · rw [if_neg hn]
    have hH : Bytes (L.take ((cs.length + 3) / 4)) := hL.take _
    have hHl : (L.take ((cs.length + 3) / 4)).length = (cs.length + 3) / 4 := by rw [List.length_take]; omega
    have hD : Bytes (L.drop ((cs.length + 3) / 4)) := hL.drop _
    have x1 : (strOfNums L).extract ((((cs.length + 3) / 4 : Nat) : Int)).toNat L.length = strOfNums (L.drop ((cs.length + 3) / 4)) := str_drop' L _
    have x2 : (strOfNums L).extract 0 ((((cs.length + 3) / 4 : Nat) : Int)).toNat = strOfNums (L.take ((cs.length + 3) / 4)) := by
      rw [str_take, Int.toNat_natCast]; rfl
    obtain ⟨r, r1, r2⟩ := dec_l1 cs hcs hk _ hH hHl cs.length 0 [] _ (by omega) (by simp) hD (by rw [List.length_drop]; omega)
    have h0 := dec_l0 cs hcs _ hH hHl _ r r1 (4 * ((cs.length + 3) / 4) - cs.length) cs.length (by omega)
    refine ⟨_, Ev.neg (by omega) (Ev.pos (by omega) (Ev.pos (by omega) (by rw [x1, x2]; exact h0))), ?_⟩
    by_cases hp : padOk (L.take ((cs.length + 3) / 4)) cs.length (4 * ((cs.length + 3) / 4) - cs.length) = true
    · rw [if_pos hp, if_pos hp]
      simpa using r2
    · rw [if_neg hp, if_neg hp]; rfl
/-- What both sides tell of some bytes. -/
def decR (a : ByteArray) (c : List S105) (d : List Int) (e : List S115) (f : List S139) (L : List Int) : List S50 × Int :=
  if checkT a c d e f = 0 then
    (if 65536 < L.length then ([], 3) else match rowR (kindsOf c) L with
      | none => ([], 41)
      | some (vs, R) => if R = [] ∧ admRow c vs = 0 then (vs, 0) else ([], 41))
  else ([], checkT a c d e f)
theorem str_empty {R : List Int} : (strOfNums R).toList = ([] : List UInt8) ↔ R = [] := by
  rw [Lib.toList_data, strOfNums_data]
  simp [toB]
theorem decR_code {a : ByteArray} {c : List S105} {d : List Int} {e : List S115} {f : List S139} (h : WfT a c d e f) {L : List Int} (hL : Bytes L) : Ev (fun k => row_Decode.f k a c d e f (strOfNums L)) (decR a c d e f L) := by
  have hch : schema_Check.f a c d e f = some (checkT a c d e f) := by
    unfold schema_Check.f; rw [if_pos (wfT_wfTB h)]
  simp only [row_Decode.f, hch, Option.bind_some, str_size]
  unfold decR
  by_cases h0 : checkT a c d e f = 0
  · rw [if_pos h0]
    refine Ev.pos h0 ?_
    by_cases hl : 65536 < L.length
    · rw [if_pos hl]; exact Ev.pos (by omega) Ev.pure
    · rw [if_neg hl]
      refine Ev.neg (by omega) ?_
      obtain ⟨r, r1, r2⟩ := decode_ev4 c (checkT_len h0) (fun x hx => checkT_kind h0 _ (List.mem_map.2 ⟨x, hx, rfl⟩)) L hL (by omega)
      refine Ev.bind r1 ?_
      cases hr : rowR (kindsOf c) L with
      | none =>
        rw [hr] at r2
        exact Ev.neg (by rw [show r.2.2 = false from r2]; decide) Ev.pure
      | some p =>
        obtain ⟨vs, R⟩ := p
        rw [hr] at r2
        simp only [decSpec] at r2
        by_cases ha : admRow c vs = 0
        · rw [if_pos ha] at r2
          subst r2
          refine Ev.pos rfl ?_
          by_cases hR : R = []
          · have e : (if R = [] ∧ admRow c vs = 0 then ((vs, 0) : List S50 × Int) else ([], 41)) = (vs, 0) := if_pos ⟨hR, ha⟩
            show Ev _ (if R = [] ∧ admRow c vs = 0 then ((vs, 0) : List S50 × Int) else ([], 41))
            rw [e]
            exact Ev.pos (str_empty.2 hR) (by simpa using Ev.pure)
          · have e : (if R = [] ∧ admRow c vs = 0 then ((vs, 0) : List S50 × Int) else ([], 41)) = ([], 41) := if_neg (fun g => hR g.1)
            show Ev _ (if R = [] ∧ admRow c vs = 0 then ((vs, 0) : List S50 × Int) else ([], 41))
            rw [e]
            exact Ev.neg (fun g => hR (str_empty.1 g)) Ev.pure
        · rw [if_neg ha] at r2
          have e : (if R = [] ∧ admRow c vs = 0 then ((vs, 0) : List S50 × Int) else ([], 41)) = ([], 41) := if_neg (fun g => ha g.2)
          show Ev _ (if R = [] ∧ admRow c vs = 0 then ((vs, 0) : List S50 × Int) else ([], 41))
          rw [e]
          exact Ev.neg (by rw [r2]; decide) Ev.pure
  · rw [if_neg h0]; exact Ev.neg h0 Ev.pure
theorem rowR_vals {cs : List S105} {L : List Int} {vs : List S50} {R : List Int} (hk : ∀ c ∈ cs, 1 ≤ c.f1 ∧ c.f1 ≤ 5) (hL : Bytes L) (hlen : L.length ≤ 65536) (h : rowR (kindsOf cs) L = some (vs, R)) : L = rowB vs ++ R ∧ vs.length = cs.length ∧ ∀ v ∈ vs, wf50 v ∧ v.f3.size ≤ 65536 := by
  obtain ⟨h1, h2, h3⟩ := rowR_sound (fun k hk' => by
    obtain ⟨x, hx, rfl⟩ := List.mem_map.1 hk'
    exact hk x hx) hL hlen h
  exact ⟨h1, by rw [h2]; simp [kindsOf], h3⟩
theorem sameL_self : ∀ xs : List S50, sameL xs xs = true
  | [] => rfl
  | x :: xs => by simp [sameL, sameL_self xs, smB_iff.2 rfl]
theorem vb_bytes : ∀ (q n : Nat), n ≤ q → Bytes (vb n)
  | 0, n, h => by
    rw [vb.eq_1, dif_neg (by omega)]
    intro x hx
    rw [List.mem_singleton] at hx; subst hx; omega
  | q + 1, n, h => by
    rw [vb.eq_1]
    by_cases hn : 128 ≤ n
    · rw [dif_pos hn]
      have ih := vb_bytes q (n / 128) (by omega)
      intro x hx
      rcases List.mem_cons.1 hx with rfl | hx
      · omega
      · exact ih x hx
    · rw [dif_neg hn]
      intro x hx
      rw [List.mem_singleton] at hx; subst hx; omega
theorem lowB_bytes (n : Int) (i m : Nat) : Bytes (lowB n i m) := by
  intro x hx
  unfold lowB at hx
  obtain ⟨j, _, rfl⟩ := List.mem_map.1 hx
  omega
theorem toldB_bytes (v : S50) : Bytes (toldB v) := by
  unfold toldB
  split
  · exact vb_bytes _ _ (Nat.le_refl _)
  split
  · exact lowB_bytes _ _ _
  split
  · intro x hx
    rcases List.mem_append.1 hx with h | h
    · exact vb_bytes _ _ (Nat.le_refl _) x h
    · exact bytesOf_bytes _ x h
  · intro x hx; cases hx
theorem rowB_bytes (vs : List S50) : Bytes (rowB vs) := by
  have hs := setM_spec vs 0 (List.replicate ((vs.length + 3) / 4) 0) (fun x hx => by rw [List.eq_of_mem_replicate hx]; decide) (by simp; omega) (fun j _ _ => mk_zero _ _)
  unfold rowB
  intro x hx
  rcases List.mem_append.1 hx with h | h
  · exact hs.1 x h
  · obtain ⟨v, _, hv⟩ := List.mem_flatMap.1 h
    exact toldB_bytes v x hv
theorem kinds_ok {a : ByteArray} {c : List S105} {d : List Int} {e : List S115} {f : List S139} (h : checkT a c d e f = 0) : ∀ x ∈ c, 1 ≤ x.f1 ∧ x.f1 ≤ 5 := fun x hx => checkT_kind h _ (List.mem_map.2 ⟨x, hx, rfl⟩)
/-- What was encoded is decoded. -/
theorem back_enc {a : ByteArray} {c : List S105} {d : List Int} {e : List S115} {f : List S139} {row : List S50} (hr : ∀ v ∈ row, wf50 v) (h : (encR a c d e f row).2 = 0) :
    encR a c d e f row = (strOfNums (rowB row), 0) ∧ decR a c d e f (rowB row) = (row, 0) := by
  unfold encR at h ⊢
  by_cases h0 : admT a c d e f row = 0
  · rw [if_pos h0] at h ⊢
    by_cases hl : 65536 < (rowB row).length
    · rw [if_pos hl] at h; cases h
    · rw [if_neg hl]
      refine ⟨rfl, ?_⟩
      have hc := admT_check h0
      obtain ⟨v1, v2⟩ := adm_vals h0 hr
      have hrr := rowR_complete [] (checkT_kind hc) v1 v2
      rw [List.append_nil] at hrr
      unfold decR
      rw [if_pos hc, if_neg hl]
      have hrr2 : rowR (kindsOf c) (rowB row) = some (row, []) := hrr
      rw [hrr2]
      exact if_pos ⟨rfl, ((admT_iff hc).1 h0).2⟩
  · rw [if_neg h0] at h; exact absurd h h0
/-- What was decoded is encoded. -/
theorem back_dec {a : ByteArray} {c : List S105} {d : List Int} {e : List S115} {f : List S139} {L : List Int} (hL : Bytes L) :
    ((decR a c d e f L).2 = 0 ∧ (∀ v ∈ (decR a c d e f L).1, wf50 v) ∧ admT a c d e f (decR a c d e f L).1 = 0 ∧ encR a c d e f (decR a c d e f L).1 = (strOfNums L, 0)) ∨ ((decR a c d e f L).2 ≠ 0 ∧ (decR a c d e f L).1 = []) := by
  unfold decR
  by_cases h0 : checkT a c d e f = 0
  · rw [if_pos h0]
    by_cases hl : 65536 < L.length
    · rw [if_pos hl]; exact .inr ⟨by decide, rfl⟩
    · rw [if_neg hl]
      cases hr : rowR (kindsOf c) L with
      | none => exact .inr ⟨(show (41 : Int) ≠ 0 by decide), rfl⟩
      | some p =>
        obtain ⟨vs, R⟩ := p
        simp only
        by_cases hR : R = [] ∧ admRow c vs = 0
        · rw [if_pos hR]
          obtain ⟨rfl, ha⟩ := hR
          obtain ⟨g1, g2, g3⟩ := rowR_vals (kinds_ok h0) hL (by omega) hr
          rw [List.append_nil] at g1
          have hadm : admT a c d e f vs = 0 := (admT_iff h0).2 ⟨g2, ha⟩
          refine .inl ⟨rfl, fun v hv => (g3 v hv).1, hadm, ?_⟩
          unfold encR
          rw [if_pos hadm, ← g1, if_neg hl]
        · rw [if_neg hR]; exact .inr ⟨by decide, rfl⟩
  · rw [if_neg h0]; exact .inr ⟨h0, rfl⟩
theorem RowBack (x0 : S65) (l1 : List S50) (a2 : ByteArray) (h0 : wf65 x0) (h1 : l1.length * 40 ≤ 140737488351232 ∧ ∀ y ∈ l1, wf50 y) (h2 : a2.size ≤ 140737488351232) : ∃ k, vellumlaw04_RowBack.f k x0.f0 x0.f1 x0.f2 x0.f3 x0.f4 l1 a2 = some true := by
  refine Ev.ex ?_
  simp only [vellumlaw04_RowBack.f]
  have hT := wf65_T h0
  have hL := bytesOf_bytes a2
  have hj : Ev (fun k => vellumlaw04_RowBack.j0 k a2 x0.f0 x0.f1 x0.f2 x0.f3 x0.f4) true := by
    refine Ev.step (fun k => by simp only [vellumlaw04_RowBack.j0]; rfl) ?_
    have c1 := decR_code hT hL
    rw [str_bytes] at c1
    refine Ev.bind c1 ?_
    rcases back_dec (a := x0.f0) (c := x0.f1) (d := x0.f2) (e := x0.f3) (f := x0.f4) hL with ⟨g1, g2, g3, g4⟩ | ⟨g1, g2⟩
    · refine Ev.pos g1 (Ev.bind (encR_code hT g2) ?_)
      rw [g4, str_bytes]
      exact Ev.pos rfl (Ev.pos rfl (Ev.bind awake4_ev Ev.pure))
    · refine Ev.neg g1 (Ev.pos (by rw [g2]; rfl) (Ev.bind awake4_ev Ev.pure))
  refine Ev.bind (encR_code hT h1.2) ?_
  by_cases he : (encR x0.f0 x0.f1 x0.f2 x0.f3 x0.f4 l1).2 = 0
  · obtain ⟨g1, g2⟩ := back_enc h1.2 he
    refine Ev.pos he ?_
    rw [g1]
    have c1 := decR_code hT (rowB_bytes l1)
    rw [g2] at c1
    refine Ev.bind c1 (Ev.pos rfl (Ev.bind (same_ref _ _ (by omega)) (Ev.pos ?_ hj)))
    rw [decide_eq_true rfl, sameL_self]; rfl
  · exact Ev.neg he hj
end Go.Proofs.YtpiifdbicibelaaDoor.Pure
end
section
namespace Go.Proofs.YtpiifdbicibelaaDoor
open Go.RowKit
theorem main_ : Tryd.pinned.checked.prog.mainIs = some (true, "409e20a6319c123f59629b35fea50f486835097bfbed967dc062cdc0fc9eff79".toList) := by kernel_rfl
theorem looks_ : false = Tryd.prog.looks [] := by kernel_rfl
end Go.Proofs.YtpiifdbicibelaaDoor
end
section
namespace Go.Proofs.YtpiifdbicibelaaDoor.rowBack
open Go.ChangeShapes Go.WideShapes Go.ChangeAt Go.RowKit Go.Proofs.YtpiifdbicibelaaDoorW.PrintWords Go.Proofs.YtpiifdbicibelaaDoor.PA Go.Proofs.YtpiifdbicibelaaDoor.OpenK Go.Proofs.YtpiifdbicibelaaDoor.Pure
open Go.ChangeMaps (open_string shut_string)
set_option linter.unusedVariables false
theorem walk {H : Type} {enc : TypeId × Value → H} (W : World) (base : Nat) (args : Array Value) (ds : List (DataW H)) (ps : List MemPlace) (hA0 : DataW.TrodAll enc Tryd.prog W 0 (fun _ => true) true Tryd.f16.params.toList args.toList ds ps)
    (hw0 : (DataW.weightsEach Tryd.prog Tryd.f16.params.toList ds).all (· ≤ reachBytes) = true) (hval0 : ∀ (j : Nat) t v, Tryd.f16.params[j]? = some t → args[j]? = some v → Value.okWide Tryd.prog W .any base t v) (hG : Glob W) :
    Calls Tryd.prog 16 args W fun e W' => e = .returned (.bool true) ∧ Below W.heap.size W W' := by
  have hval : ∀ (j : Nat) t v, Tryd.f16.params[j]? = some t → args[j]? = some v → Value.okWide Tryd.prog W .any base t v := @hval0
  have hA : DataW.TrodAll enc Tryd.prog W 0 (fun _ => true) true Tryd.f16.params.toList args.toList ds ps := hA0
  have hw : (DataW.weightsEach Tryd.prog Tryd.f16.params.toList ds).all (· ≤ reachBytes) = true := hw0
  rw [Tryd.params16] at hA hval hw
  clear hA0 hw0 hval0
  obtain ⟨v0, vs0, d0, ds0, p0, q0, hargs, rfl, rfl, h0, r0⟩ := trodAll_cons hA
  obtain ⟨v1, vs1, d1, ds1, p1, q1, rfl, rfl, rfl, h1, r1⟩ := trodAll_cons r0
  obtain ⟨v2, vs2, d2, ds2, p2, q2, rfl, rfl, rfl, h2, r2⟩ := trodAll_cons r1
  obtain ⟨rfl, rfl, rfl⟩ := trodAll_nil r2
  obtain rfl : args = #[v0, v1, v2] := by cases args; simp_all
  simp only [DataW.weightsEach, all_append_iff] at hw
  obtain ⟨hw0, hw1, hw2, _⟩ := hw
  obtain ⟨fuel0, hf0⟩ := h0
  obtain ⟨x0, hK0, wf0_⟩ := opn65 hf0 hw0
  -- STRUCT 0
  obtain ⟨A0_1, c0_1, A0_2, c0_2, A0_3, c0_3, A0_4, c0_4, he0, hl0_1, hC0_1, hl0_2, hC0_2, hl0_3, hC0_3, hl0_4, hC0_4⟩ := k65_open hK0
  obtain rfl : v0 = .agg #[.string x0.f0, .slice A0_1 x0.f1.length c0_1, .slice A0_2 x0.f2.length c0_2, .slice A0_3 x0.f3.length c0_3, .slice A0_4 x0.f4.length c0_4] := agg_of_cells he0 (by simp)
  obtain ⟨a1, len1, cap1, rfl⟩ := arg_slice (j := 1) @hval rfl rfl Tryd.underlying22
  obtain ⟨fuel1, hf1⟩ := h1
  obtain ⟨l1, ⟨A1, c1, he1, hl1, hC1⟩, wf1_⟩ := (Opn.slice Tryd.underlying22 opn50 (by kernel_rfl) (by kernel_rfl)) hf1 hw1
  simp [Value.cells] at he1
  obtain ⟨rfl, rfl, rfl⟩ := he1
  obtain ⟨a2, rfl, rfl, rfl, y2⟩ := arg_string (j := 2) @hval rfl rfl Tryd.underlying9 h2
  have wf2_ : a2.size ≤ 140737488351232 := by
    simp only [DataW.weights, List.all_cons, List.all_nil, Bool.and_true, decide_eq_true_eq, Array.length_toList] at hw2
    unfold reachBytes at hw2
    exact hw2
  obtain ⟨k, h⟩ := RowBack x0 l1 a2 wf0_ wf1_ wf2_
  refine (vellumlaw04_RowBack.calls k x0.f0 _ _ x0.f1 _ _ x0.f2 _ _ x0.f3 _ _ x0.f4 _ _ l1 a2 true W hC0_1 hl0_1 hC0_2 hl0_2 hC0_3 hl0_3 hC0_4 hl0_4 hC1 hl1 hG h).mono ?_
  rintro e W' ⟨rfl, hd⟩
  exact ⟨rfl, hd⟩
theorem witness_row (os : Os) {H : Type} (enc : TypeId × Value → H) :
    (OpenSpec.ofChange Rows.rowBackSpec).preRow enc Tryd.prog Tryd.f16 [] false laidList ((laidWorld os).forCall (fun _ _ => 0) ⟨#[], #[.agg #[.string ByteArray.empty, .slice none 0 0, .slice none 0 0, .slice none 0 0, .slice none 0 0], .slice none 0 0, .string ByteArray.empty], []⟩).memory #[.agg #[.string ByteArray.empty, .slice none 0 0, .slice none 0 0, .slice none 0 0, .slice none 0 0], .slice none 0 0, .string ByteArray.empty] := by
  have hw : (DataW.whole enc Tryd.prog ((laidWorld os).forCall (fun _ _ => 0) ⟨#[], #[.agg #[.string ByteArray.empty, .slice none 0 0, .slice none 0 0, .slice none 0 0, .slice none 0 0], .slice none 0 0, .string ByteArray.empty], []⟩).memory Tryd.f16.params.toList (OpenSpec.ofChange Rows.rowBackSpec).vars false (#[.agg #[.string ByteArray.empty, .slice none 0 0, .slice none 0 0, .slice none 0 0, .slice none 0 0], .slice none 0 0, .string ByteArray.empty] : Array Value).toList 8).map (fun x => (x.1, x.2.1)) = some ([.agg [.lit (.string []), .nil, .nil, .nil, .nil], .nil, .lit (.string [])], []) := by kernel_rfl
  obtain ⟨⟨x1, x2, x3⟩, hx, hx1⟩ := Option.map_eq_some_iff.1 hw
  simp only [Prod.mk.injEq] at hx1
  obtain ⟨rfl, rfl⟩ := hx1
  exact OpenSpec.preRow_of_cond 8 hx (by kernel_rfl) (fun k hk => by cases hk) (by kernel_rfl) (laid_met os _)
theorem ends {os : Os} (started : os.Started) {H : Type} {enc : TypeId × Value → H} {F : Stop.Interp} : ReturnsInHanded { modest := false } Tryd.checked os 16 .any ((OpenSpec.ofChange Rows.rowBackSpec).preRow enc Tryd.prog Tryd.f16 [] false laidList) (((OpenSpec.ofChange Rows.rowBackSpec).at F).post enc Tryd.prog Tryd.f16 false true false false) :=
  law_lifted (spec := Rows.rowBackSpec) Tryd.func16 (by kernel_rfl) (tb := 4) rfl Tryd.underlying4 (by kernel_rfl) rfl
    (fun H ds hl => by
      match ds, hl with
      | [_, _, _], _ => rfl) started
    (witness_row_atRef (enc := enc) (C := Tryd.checked) false (laidWorld os) #[.agg #[.string ByteArray.empty, .slice none 0 0, .slice none 0 0, .slice none 0 0, .slice none 0 0], .slice none 0 0, .string ByteArray.empty] rfl (by kernel_rfl) (by kernel_rfl) (by kernel_rfl) (witness_row os enc))
    (fun W base args ds ps hA hw hval hG => walk W base args ds ps hA hw @hval hG)
theorem inPlace_ : Tryd.prog.inPlace 16 = Rows.rowBackRow.inPlace := by kernel_rfl
theorem unfollowed_ : Tryd.prog.unfollowed 16 = Rows.rowBackRow.unfollowed := by kernel_rfl
theorem recurses_ : Tryd.prog.recurses 16 = Rows.rowBackRow.recurses := by kernel_rfl
theorem named_ : Tryd.prog.varsNamed 16 = Rows.rowBackRow.named := by kernel_rfl
theorem closed : joinedFacts Tryd.prog 16 Tryd.f16 (OpenSpec.ofChange Rows.rowBackSpec).bare Rows.rowBackRow = true := by
  unfold joinedFacts
  rw [laidOut, mapsRowed_, stops_, stopKnobs_, plainKeys_, stopsHeard_, mayEnter_, lifts_, make_, inPlace_, unfollowed_, recurses_, named_]
  kernel_rfl
set_option maxRecDepth 100000 in
theorem over : Rows.rowBackRow.holds Tryd.pinned (OpenSpec.ofChange Rows.rowBackSpec) :=
  OpenClaim.holds_of_cond 16 Tryd.f16 rfl rfl rfl rfl rfl rfl rfl ⟨rfl, rfl, rfl, rfl, rfl⟩ rfl rfl rfl rfl rfl (by kernel_rfl) Tryd.func16 closed
    (of_decide_eq_true (by kernel_rfl)) (by unfold Func.isWrapper; rw [if_neg (of_decide_eq_false (by kernel_rfl))]; exact ⟨rfl, rfl⟩)
    (fun os started H enc _ F => by
      rw [OpenClaim.pre_eq_preRow]
      exact ends started)
theorem goes_ : false = Rows.rowBackRow.goesBy Tryd.prog := by kernel_rfl
theorem fnamed_ : Tryd.prog.funcNamed "vellum/vellumlaw04.RowBack" = some 16 := by kernel_rfl
theorem card : Rows.RowBackCardSaid :=
  Claim7.holds_tied_plain_at .later [] [.data, .pinned] true (true, "409e20a6319c123f59629b35fea50f486835097bfbed967dc062cdc0fc9eff79") false
    over (fun _ h => by cases h) (by kernel_rfl) (fun _ h => by cases h) rowBack_row_tie rfl ⟨rfl, rfl⟩ main_ rfl
    (fun f fn hf hfn => by
      obtain rfl : f = 16 := Option.some.inj (fnamed_.symm.trans hf) |>.symm
      obtain rfl : fn = Tryd.f16 := (Option.some.inj (Tryd.func16.symm.trans hfn)).symm
      exact ⟨looks_, fun j t ht => by
        rw [Tryd.params16] at ht
        have h3 : t ∈ [65, 22, 9] := by
          have := List.mem_of_getElem? (l := [65, 22, 9]) (i := j) (by simpa using ht)
          exact this
        have h4 : ∀ t ∈ [65, 22, 9], Tryd.prog.wantsStandIn t = false := by
          intro t ht
          simp only [List.mem_cons, List.mem_nil_iff, or_false] at ht
          rcases ht with rfl | rfl | rfl
          all_goals kernel_rfl
        exact h4 t h3⟩)
    goes_
end Go.Proofs.YtpiifdbicibelaaDoor.rowBack
namespace Go.Proofs.YtpiifdbicibelaaDoor
theorem rowBack_holds : Rows.RowBackCardSaid := rowBack.card
end Go.Proofs.YtpiifdbicibelaaDoor
end
