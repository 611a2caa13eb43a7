/- Part 4 of what the proof of RowTurns stands on: words for walks, printed functions with their contracts, plain laws. -/
import Derived.Test.YtpiifdbicibelaaDoorKRowTurns2
section
namespace Go.Proofs.YtpiifdbicibelaaDoor.PA
open Go.RowKit Go.Proofs.YtpiifdbicibelaaDoorW.PrintWords Go.Proofs.YtpiifdbicibelaaDoorW.PrintLast Go.Proofs.YtpiifdbicibelaaDoorW.PrintMore
attribute [local go_sem] max2_int min2_int max_two min_two max_three min_three max_four min_four
set_option linter.unusedVariables false
set_option linter.unusedSimpArgs false
mutual
def row_decode.l0 : Nat → List (S105) → ByteArray → Int → ByteArray → Int → Option ((List (S50)) × ByteArray × Bool)
  | 0, _, _, _, _, _ => none
  | k + 1, x0, x1, x7, x8, x9 => if x9 < (wrap64 (4 * x7)) then (if 0 ≤ (wrap64 (Int.tdiv x9 4)) then (if (wrap64 (Int.tdiv x9 4)) < (x8.size : Int) then (if 0 ≤ (wrap64 (2 * (Int.tmod x9 4))) then (if (Go.bits .and .u8 (shr .u8 (bt x8 (wrap64 (Int.tdiv x9 4))) (wrap64 (2 * (Int.tmod x9 4)))) 3) = 0 then (row_decode.l0 k x0 x1 x7 x8 (wrap64 (x9 + 1))) else (some (([] : List (S50)), (⟨#[]⟩ : ByteArray), false))) else (none)) else (none)) else (none)) else (row_decode.l1 k x1 x8 ([] : List (S50)) x0 (x0.length : Int) 0)
def row_decode.l1 : Nat → ByteArray → ByteArray → List (S50) → List (S105) → Int → Int → Option ((List (S50)) × ByteArray × Bool)
  | 0, _, _, _, _, _, _ => none
  | k + 1, x1, x8, x10, x49, x50, x51 => if x51 < x50 then (if 0 ≤ x51 then (if x51 < (x49.length : Int) then (if 0 ≤ (wrap64 (Int.tdiv x51 4)) then (if (wrap64 (Int.tdiv x51 4)) < (x8.size : Int) then (if 0 ≤ (wrap64 (2 * (Int.tmod x51 4))) then ((row_get.f k ((rd_T105 x49 x51).f0) ((rd_T105 x49 x51).f1) ((rd_T105 x49 x51).f2) ((rd_T105 x49 x51).f3.f0) ((rd_T105 x49 x51).f3.f1) ((rd_T105 x49 x51).f3.f2) ((rd_T105 x49 x51).f3.f3) (Go.bits .and .u8 (shr .u8 (bt x8 (wrap64 (Int.tdiv x51 4))) (wrap64 (2 * (Int.tmod x51 4)))) 3) x1).bind fun bt812 => (if bt812.2.2.2.2.2 = true then (if x10.length < 3518437208883 then (row_decode.l1 k bt812.2.2.2.2.1 x8 (x10 ++ [(⟨bt812.1, bt812.2.1, bt812.2.2.1, bt812.2.2.2.1⟩ : S50)]) x49 x50 (wrap64 (x51 + 1))) else (none)) else (some (([] : List (S50)), (⟨#[]⟩ : ByteArray), false)))) else (none)) else (none)) else (none)) else (none)) else (none)) else (some (x10, x1, true))
end
def row_decode.f (k : Nat) (l0 : List (S105)) (a1 : ByteArray) : Option ((List (S50)) × ByteArray × Bool) := if (wrap64 (Int.tdiv (wrap64 ((wrap64 (2 * (l0.length : Int))) + 7)) 8)) > (a1.size : Int) then (some (([] : List (S50)), (⟨#[]⟩ : ByteArray), false)) else (if 0 ≤ (wrap64 (Int.tdiv (wrap64 ((wrap64 (2 * (l0.length : Int))) + 7)) 8)) then (if (wrap64 (Int.tdiv (wrap64 ((wrap64 (2 * (l0.length : Int))) + 7)) 8)) ≤ (a1.size : Int) then (row_decode.l0 k l0 (a1.extract ((wrap64 (Int.tdiv (wrap64 ((wrap64 (2 * (l0.length : Int))) + 7)) 8)) : Int).toNat a1.size) (wrap64 (Int.tdiv (wrap64 ((wrap64 (2 * (l0.length : Int))) + 7)) 8)) (a1.extract 0 ((wrap64 (Int.tdiv (wrap64 ((wrap64 (2 * (l0.length : Int))) + 7)) 8)) : Int).toNat) (l0.length : Int)) else (none)) else (none))
def row_decode.T4 : Bool × List (List Nat × List Nat) := (true, [([], []), ([], []), ([0, 1], [0, 1]), ([], []), ([], []), ([3, 4], [3, 4]), ([2, 0, 1, 2], [2]), ([5, 6, 0, 1, 2, 3, 4, 5, 6], [0, 3, 5])])
def row_decode.B4 : List Nat := [0, 0, 3, 0, 0, 24, 7, 127]
theorem row_decode.tab4 : rtab .any (opsOf Tryd.f92 4) = row_decode.T4 := by kernel_rfl
theorem row_decode.bits4 : waitsOk row_decode.T4.2 row_decode.B4 = true := by kernel_rfl
def row_decode.T14 : Bool × List (List Nat × List Nat) := (true, [([], []), ([], []), ([], []), ([2], [2]), ([1, 3], [1, 3]), ([], []), ([5], [5]), ([6], [6]), ([4, 7], [4, 7]), ([8], [8]), ([], []), ([0, 9, 10], [0, 9, 10]), ([11], [11]), ([12], [12]), ([12], [12]), ([12], [12]), ([], []), ([16, 13, 11, 0, 1, 2, 3, 4, 5, 6, 7, 8, 9, 10, 11, 12, 13, 16], [13, 16]), ([14, 17, 0, 1, 2, 3, 4, 5, 6, 7, 8, 9, 10, 11, 12, 13, 14, 16, 17], [14]), ([15, 18, 0, 1, 2, 3, 4, 5, 6, 7, 8, 9, 10, 11, 12, 13, 14, 15, 16, 17, 18], [15])])
def row_decode.B14 : List Nat := [0, 0, 0, 4, 14, 0, 32, 96, 254, 510, 0, 2047, 4095, 8191, 8191, 8191, 0, 81919, 229375, 524287]
theorem row_decode.tab14 : rtab .any (opsOf Tryd.f92 14) = row_decode.T14 := by kernel_rfl
theorem row_decode.bits14 : waitsOk row_decode.T14.2 row_decode.B14 = true := by kernel_rfl
set_option maxHeartbeats 8000000 in
set_option maxRecDepth 100000 in
theorem row_decode.calls (k : Nat) (A0 : Option Addr) (c0 : Nat) (l0 : List (S105)) (a1 : ByteArray) (r1 : List (S50)) (r2 : ByteArray) (r3 : Bool) (w : World) (hr0 : Kd.C k105 w A0 l0.length l0) (hc0 : l0.length ≤ c0) (hG : Glob w) (h : row_decode.f k l0 a1 = some (r1, r2, r3)) :
    Calls Tryd.prog 92 #[.slice A0 l0.length c0, .string a1] w fun e w' => ∃ v0_ : Value, e = .returned (.tuple #[v0_, .string r2, .bool r3]) ∧ Kd.R k50 50 w' w.heap.size (fun _ => True) v0_ r1 ∧ Below w.heap.size w w' := by
  have hu105 := Tryd.underlying105
  have hu50 := Tryd.underlying50
  have HR0 := am hr0
  have HC0 := am hc0
  clear hr0 hc0
  have HG := am hG
  clear hG
  have HB := am (Below.refl w.heap.size w)
  have H : (if (wrap64 (Int.tdiv (wrap64 ((wrap64 (2 * (l0.length : Int))) + 7)) 8)) > (a1.size : Int) then (some (([] : List (S50)), (⟨#[]⟩ : ByteArray), false)) else (if 0 ≤ (wrap64 (Int.tdiv (wrap64 ((wrap64 (2 * (l0.length : Int))) + 7)) 8)) then (if (wrap64 (Int.tdiv (wrap64 ((wrap64 (2 * (l0.length : Int))) + 7)) 8)) ≤ (a1.size : Int) then (row_decode.l0 k l0 (a1.extract ((wrap64 (Int.tdiv (wrap64 ((wrap64 (2 * (l0.length : Int))) + 7)) 8)) : Int).toNat a1.size) (wrap64 (Int.tdiv (wrap64 ((wrap64 (2 * (l0.length : Int))) + 7)) 8)) (a1.extract 0 ((wrap64 (Int.tdiv (wrap64 ((wrap64 (2 * (l0.length : Int))) + 7)) 8)) : Int).toNat) (l0.length : Int)) else (none)) else (none))) = some (r1, r2, r3) := h
  clear h
  by_cases c3 : (wrap64 (Int.tdiv (wrap64 ((wrap64 (2 * (l0.length : Int))) + 7)) 8)) > (a1.size : Int)
  · rw [if_pos c3] at H
    have c3b0 : decide ((a1.size : Int) < (wrap64 (Int.tdiv (wrap64 ((wrap64 (2 * (l0.length : Int))) + 7)) 8))) = true := decide_eq_true c3
    clear c3
    simp only [Option.some.injEq, Prod.mk.injEq] at H
    obtain ⟨rfl, rfl, rfl⟩ := H
    go_enter Tryd.func92, Tryd.ntmps92
    go_wp2
    go_ret3
    exact ⟨_, er, by first | exact Kd.R_nil _ _ _ _ _ | exact Kd.N_nil _ _ _ _ _ | exact Kd.V_nil _ _ _ _ _ | exact Kd.Q_nil _ _ _ _ _ | exact Kd.S_nil _ _ _ _ _, bl HB⟩
  · rw [if_neg c3] at H
    have c3b0 : decide ((a1.size : Int) < (wrap64 (Int.tdiv (wrap64 ((wrap64 (2 * (l0.length : Int))) + 7)) 8))) = false := decide_eq_false c3
    clear c3
    obtain ⟨ji4, hji4⟩ : ∃ j_ : Int, (wrap64 (Int.tdiv (wrap64 ((wrap64 (2 * (l0.length : Int))) + 7)) 8)) = j_ := ⟨_, rfl⟩
    replace H : (if 0 ≤ (ji4) then (if (ji4) ≤ (a1.size : Int) then (row_decode.l0 k l0 (a1.extract ((ji4) : Int).toNat a1.size) ji4 (a1.extract 0 ((ji4) : Int).toNat) (l0.length : Int)) else (none)) else (none)) = some (r1, r2, r3) := by first | (rw [hji4] at H; exact H) | (simp only [hji4] at H ⊢; exact H)
    (try rw [hji4] at c3b0)
    have hji4w : (IntKind.i64.wrap (Int.tdiv (wrap64 ((wrap64 (2 * (l0.length : Int))) + 7)) 8)) = ji4 := (i64_w _).trans hji4
    by_cases c5 : 0 ≤ (ji4)
    · rw [if_pos c5] at H
      have c5b0 := eq_true c5
      have c5b1 : decide (0 ≤ (ji4)) = true := decide_eq_true c5
      clear c5
      by_cases c6 : (ji4) ≤ (a1.size : Int)
      · rw [if_pos c6] at H
        have c6b0 := eq_true c6
        have c6b1 : decide ((ji4) ≤ (a1.size : Int)) = true := decide_eq_true c6
        clear c6
        have c7b0 := eq_true (oda : 0 ≤ (ji4))
        have c8b0 := eq_true (oda : (ji4) ≤ (a1.size : Int))
        have H' := am H
        clear H
        go_enter Tryd.func92, Tryd.ntmps92
        try go_wp2
        have n0_ := am (below_drew1 HB.out)
        clear HB
        have HB := n0_
        clear n0_
        refine start_ (n := 8) (S := fun w' => True) (ds := []) (bb 0 8) (by kernel_rfl) rfl rfl trivial (fun hHeld => ?_); refine with_tabW row_decode.tab4 row_decode.bits4 (fun HT_ HW_ => ?_)
        generalize w.drew = w9 at HB hHeld ⊢
        refine pu HT_ 0 (some 25) (bb 1 8) ?_
        refine pu HT_ 1 (some 26) (bb 2 8) ?_
        refine pu HT_ 2 (some 27) (bb 3 8) ?_
        refine pu HT_ 3 (some 28) (bb 4 8) ?_
        refine pu HT_ 4 (some 29) (bb 5 8) ?_
        refine pu HT_ 5 (some 30) (bb 6 8) ?_
        refine pu HT_ 6 (some 8) (bb 7 8) ?_
        refine pu HT_ 7 (some 1) (bb 8 8) ?_
        refine done_ (done_of HT_.out (by kernel_rfl)) ?_
        try go_wp2
        go_loopg [9] k (fun kq v9 w' => ∃ (x9_1 : Int), v9 = .int .i64 x9_1 ∧ Aside0 (row_decode.l0 kq l0 (a1.extract ((ji4) : Int).toNat a1.size) ji4 (a1.extract 0 ((ji4) : Int).toNat) x9_1 = some (r1, r2, r3)) ∧ Aside0 (kq ≤ k) ∧ Aside0 (Below w.heap.size w w'))
        case atStart => exact ⟨((l0.length : Int)), eb, H', ⟨Nat.le_refl _⟩, ⟨bl HB⟩⟩
        case round =>
          clear H'
          try clear p2
          try clear c3
          try clear c3b0
          try clear c5
          try clear c5b0
          try clear c5b1
          try clear c6
          try clear c6b0
          try clear c6b1
          try clear p6
          try clear c7
          try clear c7b0
          try clear c8
          try clear c8b0
          try clear c9
          obtain ⟨x9_1, rfl, HA, HK1, HB⟩ := hrel
          cases gk with
          | zero => exact absurd HA.out (by simp [row_decode.l0])
          | succ k1 =>
            have H := HA.out
            clear HA
            simp only [row_decode.l0] at H
            by_cases c10 : x9_1 < (wrap64 (4 * ji4))
            · rw [if_pos c10] at H
              have c10b0 : decide (x9_1 < (wrap64 (4 * ji4))) = true := decide_eq_true c10
              clear c10
              obtain ⟨ji11, hji11⟩ : ∃ j_ : Int, (wrap64 (Int.tdiv x9_1 4)) = j_ := ⟨_, rfl⟩
              replace H : (if 0 ≤ (ji11) then (if (ji11) < ((a1.extract 0 ((ji4) : Int).toNat).size : Int) then (if 0 ≤ (wrap64 (2 * (Int.tmod x9_1 4))) then (if (Go.bits .and .u8 (shr .u8 (bt (a1.extract 0 ((ji4) : Int).toNat) (ji11)) (wrap64 (2 * (Int.tmod x9_1 4)))) 3) = 0 then (row_decode.l0 k1 l0 (a1.extract ((ji4) : Int).toNat a1.size) ji4 (a1.extract 0 ((ji4) : Int).toNat) (wrap64 (x9_1 + 1))) else (some (([] : List (S50)), (⟨#[]⟩ : ByteArray), false))) else (none)) else (none)) else (none)) = some (r1, r2, r3) := by first | (rw [hji11] at H; exact H) | (simp only [hji11] at H ⊢; exact H)
              have hji11w : (IntKind.i64.wrap (Int.tdiv x9_1 4)) = ji11 := (i64_w _).trans hji11
              by_cases c12 : 0 ≤ (ji11)
              · rw [if_pos c12] at H
                have c12b0 : decide (0 ≤ (ji11)) = true := decide_eq_true c12
                clear c12
                by_cases c13 : (ji11) < ((a1.extract 0 ((ji4) : Int).toNat).size : Int)
                · rw [if_pos c13] at H
                  have c13b0 : decide ((ji11) < ((a1.extract 0 ((ji4) : Int).toNat).size : Int)) = true := decide_eq_true c13
                  clear c13
                  obtain ⟨ji15, hji15⟩ : ∃ j_ : Int, (wrap64 (2 * (Int.tmod x9_1 4))) = j_ := ⟨_, rfl⟩
                  replace H : (if 0 ≤ (ji15) then (if (Go.bits .and .u8 (shr .u8 (bt (a1.extract 0 ((ji4) : Int).toNat) (ji11)) (ji15)) 3) = 0 then (row_decode.l0 k1 l0 (a1.extract ((ji4) : Int).toNat a1.size) ji4 (a1.extract 0 ((ji4) : Int).toNat) (wrap64 (x9_1 + 1))) else (some (([] : List (S50)), (⟨#[]⟩ : ByteArray), false))) else (none)) = some (r1, r2, r3) := by first | (rw [hji15] at H; exact H) | (simp only [hji15] at H ⊢; exact H)
                  have hji15w : (IntKind.i64.wrap (2 * (Int.tmod x9_1 4))) = ji15 := (i64_w _).trans hji15
                  by_cases c16 : 0 ≤ (ji15)
                  · rw [if_pos c16] at H
                    have c16b0 := eq_true c16
                    have c16b1 : decide (0 ≤ (ji15)) = true := decide_eq_true c16
                    clear c16
                    obtain ⟨ji17, hji17⟩ : ∃ j_ : Int, (shr .u8 (bt (a1.extract 0 ((ji4) : Int).toNat) (ji11)) (ji15)) = j_ := ⟨_, rfl⟩
                    replace H : (if (Go.bits .and .u8 (ji17) 3) = 0 then (row_decode.l0 k1 l0 (a1.extract ((ji4) : Int).toNat a1.size) ji4 (a1.extract 0 ((ji4) : Int).toNat) (wrap64 (x9_1 + 1))) else (some (([] : List (S50)), (⟨#[]⟩ : ByteArray), false))) = some (r1, r2, r3) := by first | (rw [hji17] at H; exact H) | (simp only [hji17] at H ⊢; exact H)
                    have hji17_ : ((bt (a1.extract 0 ((ji4) : Int).toNat) (ji11)) / 2 ^ min (ji15).toNat 8) = ji17 := hji17
                    have hji17z : (ji15) ≤ 8 → ((bt (a1.extract 0 ((ji4) : Int).toNat) (ji11)) / 2 ^ (ji15).toNat) = ji17 := shr_small hji17
                    by_cases c18 : (Go.bits .and .u8 (ji17) 3) = 0
                    · rw [if_pos c18] at H
                      have c18b0 : ((Go.bits .and .u8 (ji17) 3) == 0) = true := beq_iff_eq.mpr c18
                      have c18b1 : ((Go.bits .and .u8 (ji17) 3) != 0) = false := bne_eq_false_iff_eq.mpr c18
                      clear c18
                      have H' := am H
                      clear H
                      have p14 : 0 ≤ ((ji11) : Int) := oda
                      have q14 : (ji11) < ((a1.extract 0 ((ji4) : Int).toNat).size : Int) := oda
                      have hx14 := bt_at (a1.extract 0 ((ji4) : Int).toNat) (ji11)
                      (try (have qs14 := q14; simp only [ByteArray.size_extract, Nat.sub_zero] at qs14; replace qs14 := eq_true qs14))
                      replace p14 := eq_true p14
                      replace q14 := eq_true q14
                      go_wp2
                      go_roundg k1
                      case measure => have := HK1.out; omega
                      case rel => exact ⟨(wrap64 (x9_1 + 1)), eb, H', ⟨by have := HK1.out; omega⟩, ⟨bl HB⟩⟩
                    · rw [if_neg c18] at H
                      have c18b0 : ((Go.bits .and .u8 (ji17) 3) == 0) = false := beq_eq_false_iff_ne.mpr c18
                      have c18b1 : ((Go.bits .and .u8 (ji17) 3) != 0) = true := bne_iff_ne.mpr c18
                      simp only [Option.some.injEq, Prod.mk.injEq] at H
                      obtain ⟨rfl, rfl, rfl⟩ := H
                      have p14 : 0 ≤ ((ji11) : Int) := oda
                      have q14 : (ji11) < ((a1.extract 0 ((ji4) : Int).toNat).size : Int) := oda
                      have hx14 := bt_at (a1.extract 0 ((ji4) : Int).toNat) (ji11)
                      (try (have qs14 := q14; simp only [ByteArray.size_extract, Nat.sub_zero] at qs14; replace qs14 := eq_true qs14))
                      replace p14 := eq_true p14
                      replace q14 := eq_true q14
                      go_wp2
                      go_ret3
                      exact ⟨_, by first | rfl | (simp [errW_none, errW_some] <;> rfl) | (simp only [← hji4, ← hji11, ← hji15, ← hji17]; first | rfl | (simp [errW_none, errW_some] <;> rfl)) | (simp [*, errW_none, errW_some] <;> rfl), by first | exact Kd.R_nil _ _ _ _ _ | exact Kd.N_nil _ _ _ _ _ | exact Kd.V_nil _ _ _ _ _ | exact Kd.Q_nil _ _ _ _ _ | exact Kd.S_nil _ _ _ _ _, bl HB⟩
                  · rw [if_neg c16] at H
                    exact absurd H (by simp)
                · rw [if_neg c13] at H
                  exact absurd H (by simp)
              · rw [if_neg c12] at H
                exact absurd H (by simp)
            · rw [if_neg c10] at H
              have c10b0 : decide (x9_1 < (wrap64 (4 * ji4))) = false := decide_eq_false c10
              clear c10
              have H' := am H
              clear H
              go_wp2
              go_loopg [1, 10, 51] k1 (fun kq v1 v10 v51 w' => ∃ (x1_2 : ByteArray) (x10_2 : List (S50)) (x51_2 : Int), v1 = .string x1_2 ∧ v51 = .int .i64 x51_2 ∧ Aside0 (row_decode.l1 kq x1_2 (a1.extract 0 ((ji4) : Int).toNat) x10_2 l0 (l0.length : Int) x51_2 = some (r1, r2, r3)) ∧ Aside0 (kq ≤ k1) ∧ Aside0 (Kd.R k50 50 w' w.heap.size (fun _ => True) v10 x10_2) ∧ Aside0 (Below w.heap.size w w'))
              case atStart => exact ⟨((a1.extract ((ji4) : Int).toNat a1.size)), (([] : List (S50))), (0), (by first | rfl | (simp; done) | (simp only [← hji4] <;> (first | rfl | simp)) | (simp [*]; done)), eb, H', ⟨Nat.le_refl _⟩, ⟨by first | exact Kd.R_nil _ _ _ _ _ | exact Kd.N_nil _ _ _ _ _ | exact Kd.V_nil _ _ _ _ _ | exact Kd.Q_nil _ _ _ _ _ | exact Kd.S_nil _ _ _ _ _⟩, ⟨bl HB⟩⟩
              case round =>
                clear H'
                try clear c1
                try clear p1
                try clear q1
                try clear hx1
                try clear p2
                try clear c3
                try clear c3b0
                try clear c5
                try clear c5b0
                try clear c5b1
                try clear c6
                try clear c6b0
                try clear c6b1
                try clear p6
                try clear c7
                try clear c7b0
                try clear c8
                try clear c8b0
                try clear c9
                try clear c10
                try clear c10b0
                try clear c12
                try clear c12b0
                try clear c13
                try clear c13b0
                try clear p14
                try clear q14
                try clear hx14
                try clear c16
                try clear c16b0
                try clear c16b1
                try clear c18
                try clear c18b0
                try clear c18b1
                try clear p14
                try clear p2
                try clear p6
                try clear q14
                obtain ⟨x1_2, x10_2, x51_2, rfl, rfl, HA, HK2, HO_10, HB⟩ := hrel
                cases gk with
                | zero => exact absurd HA.out (by simp [row_decode.l1])
                | succ k2 =>
                  have H := HA.out
                  clear HA
                  simp only [row_decode.l1] at H
                  by_cases c19 : x51_2 < (l0.length : Int)
                  · rw [if_pos c19] at H
                    have c19b0 : decide (x51_2 < (l0.length : Int)) = true := decide_eq_true c19
                    clear c19
                    by_cases c20 : 0 ≤ x51_2
                    · rw [if_pos c20] at H
                      have c20b0 : decide (0 ≤ x51_2) = true := decide_eq_true c20
                      clear c20
                      by_cases c21 : x51_2 < (l0.length : Int)
                      · rw [if_pos c21] at H
                        have c21b0 : decide (x51_2 < (l0.length : Int)) = true := decide_eq_true c21
                        clear c21
                        obtain ⟨ji22, hji22⟩ : ∃ j_ : Int, (wrap64 (Int.tdiv x51_2 4)) = j_ := ⟨_, rfl⟩
                        replace H : (if 0 ≤ (ji22) then (if (ji22) < ((a1.extract 0 ((ji4) : Int).toNat).size : Int) then (if 0 ≤ (wrap64 (2 * (Int.tmod x51_2 4))) then ((row_get.f k2 ((rd_T105 l0 x51_2).f0) ((rd_T105 l0 x51_2).f1) ((rd_T105 l0 x51_2).f2) ((rd_T105 l0 x51_2).f3.f0) ((rd_T105 l0 x51_2).f3.f1) ((rd_T105 l0 x51_2).f3.f2) ((rd_T105 l0 x51_2).f3.f3) (Go.bits .and .u8 (shr .u8 (bt (a1.extract 0 ((ji4) : Int).toNat) (ji22)) (wrap64 (2 * (Int.tmod x51_2 4)))) 3) x1_2).bind fun bt812 => (if bt812.2.2.2.2.2 = true then (if x10_2.length < 3518437208883 then (row_decode.l1 k2 bt812.2.2.2.2.1 (a1.extract 0 ((ji4) : Int).toNat) (x10_2 ++ [(⟨bt812.1, bt812.2.1, bt812.2.2.1, bt812.2.2.2.1⟩ : S50)]) l0 (l0.length : Int) (wrap64 (x51_2 + 1))) else (none)) else (some (([] : List (S50)), (⟨#[]⟩ : ByteArray), false)))) else (none)) else (none)) else (none)) = some (r1, r2, r3) := by first | (rw [hji22] at H; exact H) | (simp only [hji22] at H ⊢; exact H)
                        have hji22w : (IntKind.i64.wrap (Int.tdiv x51_2 4)) = ji22 := (i64_w _).trans hji22
                        by_cases c23 : 0 ≤ (ji22)
                        · rw [if_pos c23] at H
                          have c23b0 : decide (0 ≤ (ji22)) = true := decide_eq_true c23
                          clear c23
                          by_cases c24 : (ji22) < ((a1.extract 0 ((ji4) : Int).toNat).size : Int)
                          · rw [if_pos c24] at H
                            have c24b0 : decide ((ji22) < ((a1.extract 0 ((ji4) : Int).toNat).size : Int)) = true := decide_eq_true c24
                            clear c24
                            obtain ⟨ji26, hji26⟩ : ∃ j_ : Int, (wrap64 (2 * (Int.tmod x51_2 4))) = j_ := ⟨_, rfl⟩
                            replace H : (if 0 ≤ (ji26) then ((row_get.f k2 ((rd_T105 l0 x51_2).f0) ((rd_T105 l0 x51_2).f1) ((rd_T105 l0 x51_2).f2) ((rd_T105 l0 x51_2).f3.f0) ((rd_T105 l0 x51_2).f3.f1) ((rd_T105 l0 x51_2).f3.f2) ((rd_T105 l0 x51_2).f3.f3) (Go.bits .and .u8 (shr .u8 (bt (a1.extract 0 ((ji4) : Int).toNat) (ji22)) (ji26)) 3) x1_2).bind fun bt812 => (if bt812.2.2.2.2.2 = true then (if x10_2.length < 3518437208883 then (row_decode.l1 k2 bt812.2.2.2.2.1 (a1.extract 0 ((ji4) : Int).toNat) (x10_2 ++ [(⟨bt812.1, bt812.2.1, bt812.2.2.1, bt812.2.2.2.1⟩ : S50)]) l0 (l0.length : Int) (wrap64 (x51_2 + 1))) else (none)) else (some (([] : List (S50)), (⟨#[]⟩ : ByteArray), false)))) else (none)) = some (r1, r2, r3) := by first | (rw [hji26] at H; exact H) | (simp only [hji26] at H ⊢; exact H)
                            have hji26w : (IntKind.i64.wrap (2 * (Int.tmod x51_2 4))) = ji26 := (i64_w _).trans hji26
                            by_cases c27 : 0 ≤ (ji26)
                            · rw [if_pos c27] at H
                              have c27b0 := eq_true c27
                              have c27b1 : decide (0 ≤ (ji26)) = true := decide_eq_true c27
                              clear c27
                              obtain ⟨ji28, hji28⟩ : ∃ j_ : Int, (shr .u8 (bt (a1.extract 0 ((ji4) : Int).toNat) (ji22)) (ji26)) = j_ := ⟨_, rfl⟩
                              replace H : ((row_get.f k2 ((rd_T105 l0 x51_2).f0) ((rd_T105 l0 x51_2).f1) ((rd_T105 l0 x51_2).f2) ((rd_T105 l0 x51_2).f3.f0) ((rd_T105 l0 x51_2).f3.f1) ((rd_T105 l0 x51_2).f3.f2) ((rd_T105 l0 x51_2).f3.f3) (Go.bits .and .u8 (ji28) 3) x1_2).bind fun bt812 => (if bt812.2.2.2.2.2 = true then (if x10_2.length < 3518437208883 then (row_decode.l1 k2 bt812.2.2.2.2.1 (a1.extract 0 ((ji4) : Int).toNat) (x10_2 ++ [(⟨bt812.1, bt812.2.1, bt812.2.2.1, bt812.2.2.2.1⟩ : S50)]) l0 (l0.length : Int) (wrap64 (x51_2 + 1))) else (none)) else (some (([] : List (S50)), (⟨#[]⟩ : ByteArray), false)))) = some (r1, r2, r3) := by first | (rw [hji28] at H; exact H) | (simp only [hji28] at H ⊢; exact H)
                              have hji28_ : ((bt (a1.extract 0 ((ji4) : Int).toNat) (ji22)) / 2 ^ min (ji26).toNat 8) = ji28 := hji28
                              have hji28z : (ji26) ≤ 8 → ((bt (a1.extract 0 ((ji4) : Int).toNat) (ji22)) / 2 ^ (ji26).toNat) = ji28 := shr_small hji28
                              replace H := Option.bind_eq_some_iff.mp H
                              obtain ⟨⟨t812, t813, t814, t815, t816, t817⟩, A290, H⟩ := H
                              replace H : (if t817 = true then (if x10_2.length < 3518437208883 then (row_decode.l1 k2 t816 (a1.extract 0 ((ji4) : Int).toNat) (x10_2 ++ [(⟨t812, t813, t814, t815⟩ : S50)]) l0 (l0.length : Int) (wrap64 (x51_2 + 1))) else (none)) else (some (([] : List (S50)), (⟨#[]⟩ : ByteArray), false))) = some (r1, r2, r3) := H
                              have A29 := am A290
                              clear A290
                              by_cases c30 : t817 = true
                              · subst c30
                                have H1 : (if x10_2.length < 3518437208883 then (row_decode.l1 k2 t816 (a1.extract 0 ((ji4) : Int).toNat) (x10_2 ++ [(⟨t812, t813, t814, t815⟩ : S50)]) l0 (l0.length : Int) (wrap64 (x51_2 + 1))) else (none)) = some (r1, r2, r3) := by rw [if_pos rfl] at H; exact H
                                clear H
                                have H := H1
                                clear H1
                                by_cases c31 : x10_2.length < 3518437208883
                                · rw [if_pos c31] at H
                                  have LMc31 := am c31
                                  clear c31
                                  obtain ⟨y819, hy819⟩ : ∃ y_ : List (S50), y_ = (x10_2 ++ [(⟨t812, t813, t814, t815⟩ : S50)]) := ⟨_, rfl⟩
                                  replace H : (row_decode.l1 k2 t816 (a1.extract 0 ((ji4) : Int).toNat) y819 l0 (l0.length : Int) (wrap64 (x51_2 + 1))) = some (r1, r2, r3) := by first | (rw [hy819]; with_reducible exact H) | (have H2_ := (Option.bind_some _ _).symm.trans H; rw [hy819]; with_reducible exact H2_) | (have H2_ := (Option.bind_some _ _).symm.trans H; with_reducible exact H2_) | with_reducible exact H | (rw [hy819]; exact H) | exact H
                                  have Ny819 := am hy819
                                  clear hy819
                                  have H' := am H
                                  clear H
                                  have p810 : 0 ≤ (x51_2 : Int) := oda
                                  have q810 : x51_2 < (l0.length : Int) := oda
                                  obtain ⟨ad810, e810, hx810_0, hx810_1, hx810_2, hx810_3, hx810_4, hx810_5, hx810_6⟩ := at_T105 HR0.out x51_2 p810 q810
                                  cases e810
                                  replace hx810_0 := hc HB hx810_0
                                  replace hx810_1 := hc HB hx810_1
                                  replace hx810_2 := hc HB hx810_2
                                  replace hx810_3 := hc HB hx810_3
                                  replace hx810_4 := hc HB hx810_4
                                  replace hx810_5 := hc HB hx810_5
                                  replace hx810_6 := hc HB hx810_6
                                  replace p810 := eq_true p810
                                  replace q810 := eq_true q810
                                  try go_wp2_with (first | ((with_reducible refine gate_dst (N := 12) rfl ?_); refine box_event rfl (N := 12) rfl (cs := #[.string (⟨#[]⟩ : ByteArray), .int .i64 0, .bool false, .int .i64 0, .int .i64 0, .float .f64 0, .string (⟨#[]⟩ : ByteArray)]) (t := 105) gs ?_; intro gb811 hg w32 hbox hb; have n0_ := am (Kd.R_below (Kd.rr HO_10.out) hb); have n1_ := sb HB hb; have n2_ := am (hbox); have n3_ := gw hg HB; have n4_ := gw hg HB; clear HO_10; clear HB; have HO_10 := n0_; have HB := n1_; have BK811 := n2_; have GW811 := n3_; have GE811 := n4_; clear n0_ n1_ n2_ n3_ n4_; clear hb hbox hg; obtain ⟨Z33_0, Z33_1, Z33_2, Z33_3, Z33_4, Z33_5, Z33_6, Y33_0, Y33_1, Y33_2, Y33_3, Y33_4, Y33_5, Y33_6⟩ := bq7 BK811))
                                  have n0_ : Aside0 (Kd.R k50 50 (((((((w32.setCell ⟨gb811, 0, none⟩ (.string ((rd_T105 l0 x51_2).f0))).setCell ⟨gb811, 1, none⟩ (.int .i64 ((rd_T105 l0 x51_2).f1))).setCell ⟨gb811, 2, none⟩ (.bool ((rd_T105 l0 x51_2).f2))).setCell ⟨gb811, 3, none⟩ (.int .i64 ((rd_T105 l0 x51_2).f3.f0))).setCell ⟨gb811, 4, none⟩ (.int .i64 ((rd_T105 l0 x51_2).f3.f1))).setCell ⟨gb811, 5, none⟩ (.float .f64 ((rd_T105 l0 x51_2).f3.f2))).setCell ⟨gb811, 6, none⟩ (.string ((rd_T105 l0 x51_2).f3.f3))) w.heap.size (fun _ => True) u10 x10_2) := ⟨by (with_reducible repeat (first | apply Kd.R_alloc | apply Kd.R_drewN | apply Kd.R_drew)); exact Kd.R_mono (Kd.R_far (p := ⟨gb811, 6, none⟩) (Kd.R_far (p := ⟨gb811, 5, none⟩) (Kd.R_far (p := ⟨gb811, 4, none⟩) (Kd.R_far (p := ⟨gb811, 3, none⟩) (Kd.R_far (p := ⟨gb811, 2, none⟩) (Kd.R_far (p := ⟨gb811, 1, none⟩) (Kd.R_far (p := ⟨gb811, 0, none⟩) (Kd.R_types HO_10.out BK811.out (by decide)) (fun _ hk => hk.2) (.string ((rd_T105 l0 x51_2).f0))) (fun _ hk => hk.2) (.int .i64 ((rd_T105 l0 x51_2).f1))) (fun _ hk => hk.2) (.bool ((rd_T105 l0 x51_2).f2))) (fun _ hk => hk.2) (.int .i64 ((rd_T105 l0 x51_2).f3.f0))) (fun _ hk => hk.2) (.int .i64 ((rd_T105 l0 x51_2).f3.f1))) (fun _ hk => hk.2) (.float .f64 ((rd_T105 l0 x51_2).f3.f2))) (fun _ hk => hk.2) (.string ((rd_T105 l0 x51_2).f3.f3))) (fun _ hk => trivial)⟩
                                  have n1_ : Aside0 ((((((((w32.setCell ⟨gb811, 0, none⟩ (.string ((rd_T105 l0 x51_2).f0))).setCell ⟨gb811, 1, none⟩ (.int .i64 ((rd_T105 l0 x51_2).f1))).setCell ⟨gb811, 2, none⟩ (.bool ((rd_T105 l0 x51_2).f2))).setCell ⟨gb811, 3, none⟩ (.int .i64 ((rd_T105 l0 x51_2).f3.f0))).setCell ⟨gb811, 4, none⟩ (.int .i64 ((rd_T105 l0 x51_2).f3.f1))).setCell ⟨gb811, 5, none⟩ (.float .f64 ((rd_T105 l0 x51_2).f3.f2))).setCell ⟨gb811, 6, none⟩ (.string ((rd_T105 l0 x51_2).f3.f3))).heap[gb811]? = some (.cells #[.string ((rd_T105 l0 x51_2).f0), .int .i64 ((rd_T105 l0 x51_2).f1), .bool ((rd_T105 l0 x51_2).f2), .int .i64 ((rd_T105 l0 x51_2).f3.f0), .int .i64 ((rd_T105 l0 x51_2).f3.f1), .float .f64 ((rd_T105 l0 x51_2).f3.f2), .string ((rd_T105 l0 x51_2).f3.f3)] 105 (0, 0))) := ⟨by refine rp ?_; refine blk_put (cs := #[.string ((rd_T105 l0 x51_2).f0), .int .i64 ((rd_T105 l0 x51_2).f1), .bool ((rd_T105 l0 x51_2).f2), .int .i64 ((rd_T105 l0 x51_2).f3.f0), .int .i64 ((rd_T105 l0 x51_2).f3.f1), .float .f64 ((rd_T105 l0 x51_2).f3.f2), .string (⟨#[]⟩ : ByteArray)]) ?_ 6 _ rfl; refine rp ?_; refine blk_put (cs := #[.string ((rd_T105 l0 x51_2).f0), .int .i64 ((rd_T105 l0 x51_2).f1), .bool ((rd_T105 l0 x51_2).f2), .int .i64 ((rd_T105 l0 x51_2).f3.f0), .int .i64 ((rd_T105 l0 x51_2).f3.f1), .float .f64 0, .string (⟨#[]⟩ : ByteArray)]) ?_ 5 _ rfl; refine rp ?_; refine blk_put (cs := #[.string ((rd_T105 l0 x51_2).f0), .int .i64 ((rd_T105 l0 x51_2).f1), .bool ((rd_T105 l0 x51_2).f2), .int .i64 ((rd_T105 l0 x51_2).f3.f0), .int .i64 0, .float .f64 0, .string (⟨#[]⟩ : ByteArray)]) ?_ 4 _ rfl; refine rp ?_; refine blk_put (cs := #[.string ((rd_T105 l0 x51_2).f0), .int .i64 ((rd_T105 l0 x51_2).f1), .bool ((rd_T105 l0 x51_2).f2), .int .i64 0, .int .i64 0, .float .f64 0, .string (⟨#[]⟩ : ByteArray)]) ?_ 3 _ rfl; refine rp ?_; refine blk_put (cs := #[.string ((rd_T105 l0 x51_2).f0), .int .i64 ((rd_T105 l0 x51_2).f1), .bool false, .int .i64 0, .int .i64 0, .float .f64 0, .string (⟨#[]⟩ : ByteArray)]) ?_ 2 _ rfl; refine rp ?_; refine blk_put (cs := #[.string ((rd_T105 l0 x51_2).f0), .int .i64 0, .bool false, .int .i64 0, .int .i64 0, .float .f64 0, .string (⟨#[]⟩ : ByteArray)]) ?_ 1 _ rfl; refine rp ?_; refine blk_put (cs := #[.string (⟨#[]⟩ : ByteArray), .int .i64 0, .bool false, .int .i64 0, .int .i64 0, .float .f64 0, .string (⟨#[]⟩ : ByteArray)]) ?_ 0 _ rfl; exact bk BK811⟩
                                  have n2_ : Aside0 (Below w.heap.size w (((((((w32.setCell ⟨gb811, 0, none⟩ (.string ((rd_T105 l0 x51_2).f0))).setCell ⟨gb811, 1, none⟩ (.int .i64 ((rd_T105 l0 x51_2).f1))).setCell ⟨gb811, 2, none⟩ (.bool ((rd_T105 l0 x51_2).f2))).setCell ⟨gb811, 3, none⟩ (.int .i64 ((rd_T105 l0 x51_2).f3.f0))).setCell ⟨gb811, 4, none⟩ (.int .i64 ((rd_T105 l0 x51_2).f3.f1))).setCell ⟨gb811, 5, none⟩ (.float .f64 ((rd_T105 l0 x51_2).f3.f2))).setCell ⟨gb811, 6, none⟩ (.string ((rd_T105 l0 x51_2).f3.f3)))) := ⟨bl HB⟩
                                  (try clear HO_10)
                                  (try clear BK811)
                                  (try clear HB)
                                  generalize (((((((w32.setCell ⟨gb811, 0, none⟩ (.string ((rd_T105 l0 x51_2).f0))).setCell ⟨gb811, 1, none⟩ (.int .i64 ((rd_T105 l0 x51_2).f1))).setCell ⟨gb811, 2, none⟩ (.bool ((rd_T105 l0 x51_2).f2))).setCell ⟨gb811, 3, none⟩ (.int .i64 ((rd_T105 l0 x51_2).f3.f0))).setCell ⟨gb811, 4, none⟩ (.int .i64 ((rd_T105 l0 x51_2).f3.f1))).setCell ⟨gb811, 5, none⟩ (.float .f64 ((rd_T105 l0 x51_2).f3.f2))).setCell ⟨gb811, 6, none⟩ (.string ((rd_T105 l0 x51_2).f3.f3))) = w34 at n0_ n1_ n2_ ⊢
                                  have HO_10 := n0_
                                  have BK811 := n1_
                                  have HB := n2_
                                  clear n0_ n1_ n2_
                                  have n0_ := am (Kd.R_drew HO_10.out)
                                  have n1_ := am (blk_drew BK811.out)
                                  have n2_ := am (below_drew1 HB.out)
                                  clear HO_10
                                  clear BK811
                                  clear HB
                                  have HO_10 := n0_
                                  have BK811 := n1_
                                  have HB := n2_
                                  clear n0_ n1_ n2_
                                  have p25 : 0 ≤ ((ji22) : Int) := oda
                                  have q25 : (ji22) < ((a1.extract 0 ((ji4) : Int).toNat).size : Int) := oda
                                  have hx25 := bt_at (a1.extract 0 ((ji4) : Int).toNat) (ji22)
                                  (try (have qs25 := q25; simp only [ByteArray.size_extract, Nat.sub_zero] at qs25; replace qs25 := eq_true qs25))
                                  replace p25 := eq_true p25
                                  replace q25 := eq_true q25
                                  refine start_ (n := 20) (S := fun w' => w'.cell? ⟨gb811, 0, none⟩ = some (.string ((rd_T105 l0 x51_2).f0)) ∧ w'.cell? ⟨gb811, 1, none⟩ = some (.int .i64 ((rd_T105 l0 x51_2).f1)) ∧ w'.cell? ⟨gb811, 2, none⟩ = some (.bool ((rd_T105 l0 x51_2).f2)) ∧ w'.cell? ⟨gb811, 3, none⟩ = some (.int .i64 ((rd_T105 l0 x51_2).f3.f0)) ∧ w'.cell? ⟨gb811, 4, none⟩ = some (.int .i64 ((rd_T105 l0 x51_2).f3.f1)) ∧ w'.cell? ⟨gb811, 5, none⟩ = some (.float .f64 ((rd_T105 l0 x51_2).f3.f2)) ∧ w'.cell? ⟨gb811, 6, none⟩ = some (.string ((rd_T105 l0 x51_2).f3.f3))) (ds := []) (bb 0 20) (by kernel_rfl) rfl rfl ⟨(blk_cell BK811.out 0).trans rfl, (blk_cell BK811.out 1).trans rfl, (blk_cell BK811.out 2).trans rfl, (blk_cell BK811.out 3).trans rfl, (blk_cell BK811.out 4).trans rfl, (blk_cell BK811.out 5).trans rfl, (blk_cell BK811.out 6).trans rfl⟩ (fun hHeld => ?_); refine with_tabW row_decode.tab14 row_decode.bits14 (fun HT_ HW_ => ?_)
                                  generalize w34.drew = w35 at HO_10 BK811 HB hHeld ⊢
                                  refine pu HT_ 1 (some 58) (bs 20 2) ?_
                                  refine pu HT_ 2 (some 59) (bs 20 6) ?_
                                  refine pu HT_ 3 (some 60) (bs 20 14) ?_
                                  refine pu HT_ 5 (some 62) (bs 20 46) ?_
                                  refine pu HT_ 6 (some 63) (bs 20 110) ?_
                                  refine pu HT_ 7 (some 64) (bs 20 238) ?_
                                  refine pu HT_ 10 (some 67) (bs 20 1262) ?_
                                  refine tk HT_ HW_ hHeld 0 (some 57) (bs 20 1263) ?_
                                  refine tk HT_ HW_ hHeld 4 (some 61) (bs 20 1279) ?_
                                  refine pu HT_ 8 (some 65) (bs 20 1535) ?_
                                  refine pu HT_ 9 (some 66) (bb 11 20) ?_
                                  refine join_ (σ := Nat) 3 (bb 17 20) (fun s_ => [(68, .tuple #[.agg #[.int .i64 t812, .int .i64 t813, .float .f64 t814, .string t815], .string t816, .bool true]), (13, .pointer (some ⟨s_, 0, none⟩)), (56, .tuple #[.agg #[.int .i64 t812, .int .i64 t813, .float .f64 t814, .string t815], .string t816, .bool true]), (69, .agg #[.int .i64 t812, .int .i64 t813, .float .f64 t814, .string t815]), (70, .string t816), (71, .bool true)]) (fun s_ w' => (w'.cell? ⟨gb811, 0, none⟩ = some (.string ((rd_T105 l0 x51_2).f0)) ∧ w'.cell? ⟨gb811, 1, none⟩ = some (.int .i64 ((rd_T105 l0 x51_2).f1)) ∧ w'.cell? ⟨gb811, 2, none⟩ = some (.bool ((rd_T105 l0 x51_2).f2)) ∧ w'.cell? ⟨gb811, 3, none⟩ = some (.int .i64 ((rd_T105 l0 x51_2).f3.f0)) ∧ w'.cell? ⟨gb811, 4, none⟩ = some (.int .i64 ((rd_T105 l0 x51_2).f3.f1)) ∧ w'.cell? ⟨gb811, 5, none⟩ = some (.float .f64 ((rd_T105 l0 x51_2).f3.f2)) ∧ w'.cell? ⟨gb811, 6, none⟩ = some (.string ((rd_T105 l0 x51_2).f3.f3))) ∧ (Kd.R k50 50 w' w.heap.size (fun k_ => k_ ≠ s_) u10 x10_2) ∧ (w'.heap[gb811]? = some (.cells #[.string ((rd_T105 l0 x51_2).f0), .int .i64 ((rd_T105 l0 x51_2).f1), .bool ((rd_T105 l0 x51_2).f2), .int .i64 ((rd_T105 l0 x51_2).f3.f0), .int .i64 ((rd_T105 l0 x51_2).f3.f1), .float .f64 ((rd_T105 l0 x51_2).f3.f2), .string ((rd_T105 l0 x51_2).f3.f3)] 105 (0, 0))) ∧ (w'.heap[s_]? = some (.cells #[.int .i64 0, .int .i64 0, .float .f64 0, .string (⟨#[]⟩ : ByteArray)] 50 (0, 0))) ∧ (w.heap.size ≤ s_) ∧ (w.heap.size ≤ s_) ∧ (gb811 ≠ s_) ∧ (s_ ≠ gb811) ∧ (Below w.heap.size w w')) ?_ ?_
                                  rotate_left
                                  · intro hCont
                                    refine two_ (i := 11) (j := 16) (Ni := some 68) (Nj := some 13) (bb 12 20) (bs 20 67583) rfl rfl rfl rfl (two_of HT_.out (by kernel_rfl)) (by decide) (by decide) (fun K hK => ?_) (fun K hK => ?_)
                                    · skip
                                      refine goes_ Tryd.func131 (by kernel_rfl) rfl #[.agg #[.string ((rd_T105 l0 x51_2).f0), .int .i64 ((rd_T105 l0 x51_2).f1), .bool ((rd_T105 l0 x51_2).f2), .int .i64 ((rd_T105 l0 x51_2).f3.f0), .int .i64 ((rd_T105 l0 x51_2).f3.f1), .float .f64 ((rd_T105 l0 x51_2).f3.f2), .string ((rd_T105 l0 x51_2).f3.f3)], .int .u8 (Go.bits .and .u8 (ji28) 3), .string x1_2] (by rfl) rfl rfl (by (try simp only [List.map_toArray, List.map_cons, List.map_nil]); first | done | (simp only [hji28]; rfl) | rfl | (simp only [List.length_drop, List.length_take]; rfl)) ?_
                                      with_reducible refine (row_get.calls k2 ((rd_T105 l0 x51_2).f0) ((rd_T105 l0 x51_2).f1) ((rd_T105 l0 x51_2).f2) ((rd_T105 l0 x51_2).f3.f0) ((rd_T105 l0 x51_2).f3.f1) ((rd_T105 l0 x51_2).f3.f2) ((rd_T105 l0 x51_2).f3.f3) (Go.bits .and .u8 (ji28) 3) x1_2 t812 t813 t814 t815 t816 true _ ?side1 A29.out).mono ?_
                                      (case side1 => exact Glob.below HG.out (bl HB))
                                      rintro e w36 ⟨rfl, hb⟩
                                      refine ⟨_, rfl, ?_⟩
                                      have n0_ := am (Kd.R_below (Kd.rr HO_10.out) hb)
                                      have n1_ := kb BK811 hb
                                      have n2_ := sb HB hb
                                      clear HO_10
                                      clear BK811
                                      clear HB
                                      have HO_10 := n0_
                                      have BK811 := n1_
                                      have HB := n2_
                                      clear n0_ n1_ n2_
                                      (try clear hb)
                                      (try clear hb2)
                                      (try clear hk)
                                      (try clear hi)
                                      refine hK.out _ _ ⟨(blk_cell BK811.out 0).trans rfl, (blk_cell BK811.out 1).trans rfl, (blk_cell BK811.out 2).trans rfl, (blk_cell BK811.out 3).trans rfl, (blk_cell BK811.out 4).trans rfl, (blk_cell BK811.out 5).trans rfl, (blk_cell BK811.out 6).trans rfl⟩ (fun hHeld => ?_)
                                      clear hK K
                                      refine norm_ (a' := ?_) ?_ ?_
                                      rotate_left
                                      · show Act.put _ (some 68) _ = _
                                        simp only [Act.put, List.setIfInBounds_toArray, List.set_cons_zero, List.set_cons_succ, i64_w, i32_w]
                                        rfl
                                      refine pu HT_ 12 (some 56) (bb 13 20) ?_
                                      refine pu HT_ 13 (some 69) (bb 14 20) ?_
                                      refine pu HT_ 14 (some 70) (bb 15 20) ?_
                                      refine pu HT_ 15 (some 71) (bb 16 20) ?_
                                      refine one_ (i := 16) (N := some 13) (bb 17 20) rfl rfl (one_of HT_.out (by kernel_rfl)) (by decide) (fun K hK => ?_)
                                      refine box_step ?hg (N := 13) ?hd (cs := #[.int .i64 0, .int .i64 0, .float .f64 0, .string (⟨#[]⟩ : ByteArray)]) (t := 50) ?hr ?_; (case hd => rfl); (case hg => rfl); (case hr => first | (go_simp; done) | (go_simp; rfl))
                                      intro gb818 hg w37 hbox hb
                                      have n0_ := am (Kd.R_below (Kd.R_elderB (Kd.rr HO_10.out) gb818 (Nat.le_of_eq hg.symm)) hb)
                                      have n1_ := kb BK811 hb
                                      have n2_ := sb HB hb
                                      have n3_ := am (hbox)
                                      have n4_ := gw hg HB
                                      have n5_ := gw hg HB
                                      have n6_ := am ((by rw [hg]; exact Nat.ne_of_lt (blk_lt (bk BK811)) : gb811 ≠ gb818))
                                      have n7_ := am ((by rw [hg]; exact Nat.ne_of_gt (blk_lt (bk BK811)) : gb818 ≠ gb811))
                                      clear HO_10
                                      clear BK811
                                      clear HB
                                      have HO_10 := n0_
                                      have BK811 := n1_
                                      have HB := n2_
                                      have BK818 := n3_
                                      have GW818 := n4_
                                      have GE818 := n5_
                                      have NB811_818 := n6_
                                      have NB818_811 := n7_
                                      clear n0_ n1_ n2_ n3_ n4_ n5_ n6_ n7_
                                      clear hb hbox hg
                                      refine hK.out _ _ ⟨(blk_cell BK811.out 0).trans rfl, (blk_cell BK811.out 1).trans rfl, (blk_cell BK811.out 2).trans rfl, (blk_cell BK811.out 3).trans rfl, (blk_cell BK811.out 4).trans rfl, (blk_cell BK811.out 5).trans rfl, (blk_cell BK811.out 6).trans rfl⟩ (fun hHeld => ?_)
                                      clear hK K
                                      refine norm_ (a' := ?_) ?_ ?_
                                      rotate_left
                                      · show Act.put _ (some 13) _ = _
                                        simp only [Act.put, List.setIfInBounds_toArray, List.set_cons_zero, List.set_cons_succ, i64_w, i32_w]
                                        rfl
                                      exact norm_ (np) (hCont (gb818) _ ⟨hHeld, (by (with_reducible repeat (first | apply Kd.R_alloc | apply Kd.R_drewN | apply Kd.R_drew)); exact Kd.R_mono HO_10.out (fun _ hk => hk.2)), (bk BK811), (bk BK818), GW818.out, GE818.out, NB811_818.out, NB818_811.out, (bl HB)⟩)
                                    · skip
                                      refine box_step ?hg (N := 13) ?hd (cs := #[.int .i64 0, .int .i64 0, .float .f64 0, .string (⟨#[]⟩ : ByteArray)]) (t := 50) ?hr ?_; (case hd => rfl); (case hg => rfl); (case hr => first | (go_simp; done) | (go_simp; rfl))
                                      intro gb818 hg w36 hbox hb
                                      have n0_ := am (Kd.R_below (Kd.R_elderB (Kd.rr HO_10.out) gb818 (Nat.le_of_eq hg.symm)) hb)
                                      have n1_ := kb BK811 hb
                                      have n2_ := sb HB hb
                                      have n3_ := am (hbox)
                                      have n4_ := gw hg HB
                                      have n5_ := gw hg HB
                                      have n6_ := am ((by rw [hg]; exact Nat.ne_of_lt (blk_lt (bk BK811)) : gb811 ≠ gb818))
                                      have n7_ := am ((by rw [hg]; exact Nat.ne_of_gt (blk_lt (bk BK811)) : gb818 ≠ gb811))
                                      clear HO_10
                                      clear BK811
                                      clear HB
                                      have HO_10 := n0_
                                      have BK811 := n1_
                                      have HB := n2_
                                      have BK818 := n3_
                                      have GW818 := n4_
                                      have GE818 := n5_
                                      have NB811_818 := n6_
                                      have NB818_811 := n7_
                                      clear n0_ n1_ n2_ n3_ n4_ n5_ n6_ n7_
                                      clear hb hbox hg
                                      refine hK.out _ _ ⟨(blk_cell BK811.out 0).trans rfl, (blk_cell BK811.out 1).trans rfl, (blk_cell BK811.out 2).trans rfl, (blk_cell BK811.out 3).trans rfl, (blk_cell BK811.out 4).trans rfl, (blk_cell BK811.out 5).trans rfl, (blk_cell BK811.out 6).trans rfl⟩ (fun hHeld => ?_)
                                      clear hK K
                                      refine norm_ (a' := ?_) ?_ ?_
                                      rotate_left
                                      · show Act.put _ (some 13) _ = _
                                        simp only [Act.put, List.setIfInBounds_toArray, List.set_cons_zero, List.set_cons_succ, i64_w, i32_w]
                                        rfl
                                      refine one_ (i := 11) (N := some 68) (bs 20 69631) rfl rfl (one_of HT_.out (by kernel_rfl)) (by decide) (fun K hK => ?_)
                                      refine goes_ Tryd.func131 (by kernel_rfl) rfl #[.agg #[.string ((rd_T105 l0 x51_2).f0), .int .i64 ((rd_T105 l0 x51_2).f1), .bool ((rd_T105 l0 x51_2).f2), .int .i64 ((rd_T105 l0 x51_2).f3.f0), .int .i64 ((rd_T105 l0 x51_2).f3.f1), .float .f64 ((rd_T105 l0 x51_2).f3.f2), .string ((rd_T105 l0 x51_2).f3.f3)], .int .u8 (Go.bits .and .u8 (ji28) 3), .string x1_2] (by rfl) rfl rfl (by (try simp only [List.map_toArray, List.map_cons, List.map_nil]); first | done | (simp only [hji28]; rfl) | rfl | (simp only [List.length_drop, List.length_take]; rfl)) ?_
                                      with_reducible refine (row_get.calls k2 ((rd_T105 l0 x51_2).f0) ((rd_T105 l0 x51_2).f1) ((rd_T105 l0 x51_2).f2) ((rd_T105 l0 x51_2).f3.f0) ((rd_T105 l0 x51_2).f3.f1) ((rd_T105 l0 x51_2).f3.f2) ((rd_T105 l0 x51_2).f3.f3) (Go.bits .and .u8 (ji28) 3) x1_2 t812 t813 t814 t815 t816 true _ ?side1 A29.out).mono ?_
                                      (case side1 => exact Glob.below HG.out (bl HB))
                                      rintro e w37 ⟨rfl, hb⟩
                                      refine ⟨_, rfl, ?_⟩
                                      have n0_ := am (Kd.R_below (Kd.rr HO_10.out) hb)
                                      have n1_ := kb BK811 hb
                                      have n2_ := kb BK818 hb
                                      have n3_ := sb HB hb
                                      clear HO_10
                                      clear BK811
                                      clear BK818
                                      clear HB
                                      have HO_10 := n0_
                                      have BK811 := n1_
                                      have BK818 := n2_
                                      have HB := n3_
                                      clear n0_ n1_ n2_ n3_
                                      (try clear hb)
                                      (try clear hb2)
                                      (try clear hk)
                                      (try clear hi)
                                      refine hK.out _ _ ⟨(blk_cell BK811.out 0).trans rfl, (blk_cell BK811.out 1).trans rfl, (blk_cell BK811.out 2).trans rfl, (blk_cell BK811.out 3).trans rfl, (blk_cell BK811.out 4).trans rfl, (blk_cell BK811.out 5).trans rfl, (blk_cell BK811.out 6).trans rfl⟩ (fun hHeld => ?_)
                                      clear hK K
                                      refine norm_ (a' := ?_) ?_ ?_
                                      rotate_left
                                      · show Act.put _ (some 68) _ = _
                                        simp only [Act.put, List.setIfInBounds_toArray, List.set_cons_zero, List.set_cons_succ, i64_w, i32_w]
                                        rfl
                                      refine pu HT_ 12 (some 56) (bs 20 73727) ?_
                                      refine pu HT_ 13 (some 69) (bs 20 81919) ?_
                                      refine pu HT_ 14 (some 70) (bs 20 98303) ?_
                                      refine pu HT_ 15 (some 71) (bb 17 20) ?_
                                      exact norm_ (np) (hCont (gb818) _ ⟨hHeld, (by (with_reducible repeat (first | apply Kd.R_alloc | apply Kd.R_drewN | apply Kd.R_drew)); exact Kd.R_mono HO_10.out (fun _ hk => hk.2)), (bk BK811), (bk BK818), GW818.out, GE818.out, NB811_818.out, NB818_811.out, (bl HB)⟩)
                                  rintro gb818 w38 ⟨hS_, h0_, h1_, h2_, h3_, h4_, h5_, h6_, h7_⟩
                                  have n0_ : Aside0 (Kd.R k50 50 w38 w.heap.size (fun k_ => k_ ≠ gb818) u10 x10_2) := ⟨h0_⟩
                                  have n1_ : Aside0 (w38.heap[gb811]? = some (.cells #[.string ((rd_T105 l0 x51_2).f0), .int .i64 ((rd_T105 l0 x51_2).f1), .bool ((rd_T105 l0 x51_2).f2), .int .i64 ((rd_T105 l0 x51_2).f3.f0), .int .i64 ((rd_T105 l0 x51_2).f3.f1), .float .f64 ((rd_T105 l0 x51_2).f3.f2), .string ((rd_T105 l0 x51_2).f3.f3)] 105 (0, 0))) := ⟨h1_⟩
                                  have n2_ : Aside0 (w38.heap[gb818]? = some (.cells #[.int .i64 0, .int .i64 0, .float .f64 0, .string (⟨#[]⟩ : ByteArray)] 50 (0, 0))) := ⟨h2_⟩
                                  have n3_ : Aside0 (w.heap.size ≤ gb818) := ⟨h3_⟩
                                  have n4_ : Aside0 (w.heap.size ≤ gb818) := ⟨h4_⟩
                                  have n5_ : Aside0 (gb811 ≠ gb818) := ⟨h5_⟩
                                  have n6_ : Aside0 (gb818 ≠ gb811) := ⟨h6_⟩
                                  have n7_ : Aside0 (Below w.heap.size w w38) := ⟨h7_⟩
                                  clear HO_10
                                  clear BK811
                                  clear HB
                                  clear h0_ h1_ h2_ h3_ h4_ h5_ h6_ h7_
                                  have HO_10 := n0_
                                  have BK811 := n1_
                                  have BK818 := n2_
                                  have GW818 := n3_
                                  have GE818 := n4_
                                  have NB811_818 := n5_
                                  have NB818_811 := n6_
                                  have HB := n7_
                                  clear n0_ n1_ n2_ n3_ n4_ n5_ n6_ n7_
                                  have hHeld : w38.cell? ⟨gb811, 0, none⟩ = some (.string ((rd_T105 l0 x51_2).f0)) ∧ w38.cell? ⟨gb811, 1, none⟩ = some (.int .i64 ((rd_T105 l0 x51_2).f1)) ∧ w38.cell? ⟨gb811, 2, none⟩ = some (.bool ((rd_T105 l0 x51_2).f2)) ∧ w38.cell? ⟨gb811, 3, none⟩ = some (.int .i64 ((rd_T105 l0 x51_2).f3.f0)) ∧ w38.cell? ⟨gb811, 4, none⟩ = some (.int .i64 ((rd_T105 l0 x51_2).f3.f1)) ∧ w38.cell? ⟨gb811, 5, none⟩ = some (.float .f64 ((rd_T105 l0 x51_2).f3.f2)) ∧ w38.cell? ⟨gb811, 6, none⟩ = some (.string ((rd_T105 l0 x51_2).f3.f3)) := hS_
                                  refine norm_ (a' := ?_) ?_ ?_
                                  rotate_left
                                  · simp only [putAll, Act.put, List.setIfInBounds_toArray, List.set_cons_zero, List.set_cons_succ]
                                    rfl
                                  refine one_ (i := 17) (N := none) (bb 18 20) rfl rfl (one_of HT_.out (by kernel_rfl)) (by decide) (fun K hK => ?_)
                                  have hs39 : w38.cell? ⟨gb818, 0, none⟩ = some (.int .i64 0) := (blk_cell BK818.out 0).trans rfl
                                  have hfs39 := blk_frozen BK818.out 0
                                  have hns39_0 := NB811_818.out
                                  have hms39_0 := NB818_811.out
                                  have hs40 : w38.cell? ⟨gb818, 1, none⟩ = some (.int .i64 0) := (blk_cell BK818.out 1).trans rfl
                                  have hfs40 := blk_frozen BK818.out 1
                                  have hns40_0 := NB811_818.out
                                  have hms40_0 := NB818_811.out
                                  have hs41 : w38.cell? ⟨gb818, 2, none⟩ = some (.float .f64 0) := (blk_cell BK818.out 2).trans rfl
                                  have hfs41 := blk_frozen BK818.out 2
                                  have hns41_0 := NB811_818.out
                                  have hms41_0 := NB818_811.out
                                  have hs42 : w38.cell? ⟨gb818, 3, none⟩ = some (.string (⟨#[]⟩ : ByteArray)) := (blk_cell BK818.out 3).trans rfl
                                  have hfs42 := blk_frozen BK818.out 3
                                  have hns42_0 := NB811_818.out
                                  have hms42_0 := NB818_811.out
                                  refine skip_ (w1 := ?_) (by rfl) rfl ?_ ?_
                                  rotate_left
                                  · go_simp
                                    rfl
                                  refine hK.out _ _ ⟨((cell_far (p := ⟨gb818, _, none⟩) NB811_818.out _).trans (((cell_far (p := ⟨gb818, _, none⟩) NB811_818.out _).trans (((cell_far (p := ⟨gb818, _, none⟩) NB811_818.out _).trans (((cell_far (p := ⟨gb818, _, none⟩) NB811_818.out _).trans (hHeld.1)))))))), ((cell_far (p := ⟨gb818, _, none⟩) NB811_818.out _).trans (((cell_far (p := ⟨gb818, _, none⟩) NB811_818.out _).trans (((cell_far (p := ⟨gb818, _, none⟩) NB811_818.out _).trans (((cell_far (p := ⟨gb818, _, none⟩) NB811_818.out _).trans (hHeld.2.1)))))))), ((cell_far (p := ⟨gb818, _, none⟩) NB811_818.out _).trans (((cell_far (p := ⟨gb818, _, none⟩) NB811_818.out _).trans (((cell_far (p := ⟨gb818, _, none⟩) NB811_818.out _).trans (((cell_far (p := ⟨gb818, _, none⟩) NB811_818.out _).trans (hHeld.2.2.1)))))))), ((cell_far (p := ⟨gb818, _, none⟩) NB811_818.out _).trans (((cell_far (p := ⟨gb818, _, none⟩) NB811_818.out _).trans (((cell_far (p := ⟨gb818, _, none⟩) NB811_818.out _).trans (((cell_far (p := ⟨gb818, _, none⟩) NB811_818.out _).trans (hHeld.2.2.2.1)))))))), ((cell_far (p := ⟨gb818, _, none⟩) NB811_818.out _).trans (((cell_far (p := ⟨gb818, _, none⟩) NB811_818.out _).trans (((cell_far (p := ⟨gb818, _, none⟩) NB811_818.out _).trans (((cell_far (p := ⟨gb818, _, none⟩) NB811_818.out _).trans (hHeld.2.2.2.2.1)))))))), ((cell_far (p := ⟨gb818, _, none⟩) NB811_818.out _).trans (((cell_far (p := ⟨gb818, _, none⟩) NB811_818.out _).trans (((cell_far (p := ⟨gb818, _, none⟩) NB811_818.out _).trans (((cell_far (p := ⟨gb818, _, none⟩) NB811_818.out _).trans (hHeld.2.2.2.2.2.1)))))))), ((cell_far (p := ⟨gb818, _, none⟩) NB811_818.out _).trans (((cell_far (p := ⟨gb818, _, none⟩) NB811_818.out _).trans (((cell_far (p := ⟨gb818, _, none⟩) NB811_818.out _).trans (((cell_far (p := ⟨gb818, _, none⟩) NB811_818.out _).trans (hHeld.2.2.2.2.2.2))))))))⟩ (fun hHeld => ?_)
                                  clear hK K
                                  refine pu HT_ 18 (some 14) (bb 19 20) ?_
                                  refine pu HT_ 19 (some 15) (bb 20 20) ?_
                                  refine done_ (done_of HT_.out (by kernel_rfl)) ?_
                                  have hnb43 := NB818_811.out
                                  have hnc43 := NB811_818.out
                                  obtain ⟨Z44_0, Z44_1, Z44_2, Z44_3, Y44_0, Y44_1, Y44_2, Y44_3⟩ := bq4 BK818
                                  try go_wp2_with (first | ((with_reducible refine gate_builtin (b := .append) (xs := #[.tmp 74, .tmp 76]) rfl ?_); at_builtin; refine Kd.R_append k50 (w0 := w) w.heap.size rfl (.tmp 74) (.tmp 76) 22 50 (.agg #[(.int .i64 0), (.int .i64 0), (.float .f64 0), (.string ⟨#[]⟩)]) 40 rfl Tryd.underlying22 info50 rfl (by decide) (by omega) u10 x10_2 (⟨t812, t813, t814, t815⟩ : S50) [.int .i64 t812, .int .i64 t813, .float .f64 t814, .string t815] (fun k_ => k_ ≠ gb818) (fun _ => False) rfl (by first | (go_simp; done) | (go_simp; rfl)) ?aP (fun _ hk => hk.elim) ?aF ?aO ?aB ?aS ?aL ?_; (case aP => exact k50_mkM _ _ _ (⟨t812, t813, t814, t815⟩ : S50)); (case aB => exact (bl HB)); (case aF => exact (fun k_ hk => Kd.freshB (g := gb818) (o := .cells #[.int .i64 t812, .int .i64 t813, .float .f64 t814, .string t815] 50 (0, 0)) (by refine rp ?_; refine blk_put (cs := #[.int .i64 t812, .int .i64 t813, .float .f64 t814, .string (⟨#[]⟩ : ByteArray)]) ?_ 3 _ rfl; refine rp ?_; refine blk_put (cs := #[.int .i64 t812, .int .i64 t813, .float .f64 0, .string (⟨#[]⟩ : ByteArray)]) ?_ 2 _ rfl; refine rp ?_; refine blk_put (cs := #[.int .i64 t812, .int .i64 0, .float .f64 0, .string (⟨#[]⟩ : ByteArray)]) ?_ 1 _ rfl; refine rp ?_; refine blk_put (cs := #[.int .i64 0, .int .i64 0, .float .f64 0, .string (⟨#[]⟩ : ByteArray)]) ?_ 0 _ rfl; exact bk BK818) k_ hk)); (case aO => exact (by (with_reducible repeat (first | apply Kd.R_alloc | apply Kd.R_drewN | apply Kd.R_drew)); exact Kd.R_mono (Kd.R_far (p := ⟨gb818, 3, none⟩) (Kd.R_far (p := ⟨gb818, 2, none⟩) (Kd.R_far (p := ⟨gb818, 1, none⟩) (Kd.R_far (p := ⟨gb818, 0, none⟩) (Kd.R_mono HO_10.out (fun k_ hk => (⟨hk, hk⟩ : _ ∧ k_ ≠ gb818))) (fun _ hk => hk.2) (.int .i64 t812)) (fun _ hk => hk.2) (.int .i64 t813)) (fun _ hk => hk.2) (.float .f64 t814)) (fun _ hk => hk.2) (.string t815)) (fun _ hk => hk.1))); (case aS => exact (below_size (bl HB))); (case aL => have := LMc31.out; omega); intro v820 w45 ho hb hg hat; rw [← Ny819.out] at ho; have n0_ := am (blk_grown (g := gb811) (o := .cells #[.string ((rd_T105 l0 x51_2).f0), .int .i64 ((rd_T105 l0 x51_2).f1), .bool ((rd_T105 l0 x51_2).f2), .int .i64 ((rd_T105 l0 x51_2).f3.f0), .int .i64 ((rd_T105 l0 x51_2).f3.f1), .float .f64 ((rd_T105 l0 x51_2).f3.f2), .string ((rd_T105 l0 x51_2).f3.f3)] 105 (0, 0)) (by refine rp ?_; refine blk_far ?_ NB811_818.out _; refine rp ?_; refine blk_far ?_ NB811_818.out _; refine rp ?_; refine blk_far ?_ NB811_818.out _; refine rp ?_; refine blk_far ?_ NB811_818.out _; exact bk BK811) hg (Kd.R_ne HO_10.out BK811.out (by decide))); have n1_ := am (blk_grown (g := gb818) (o := .cells #[.int .i64 t812, .int .i64 t813, .float .f64 t814, .string t815] 50 (0, 0)) (by refine rp ?_; refine blk_put (cs := #[.int .i64 t812, .int .i64 t813, .float .f64 t814, .string (⟨#[]⟩ : ByteArray)]) ?_ 3 _ rfl; refine rp ?_; refine blk_put (cs := #[.int .i64 t812, .int .i64 t813, .float .f64 0, .string (⟨#[]⟩ : ByteArray)]) ?_ 2 _ rfl; refine rp ?_; refine blk_put (cs := #[.int .i64 t812, .int .i64 0, .float .f64 0, .string (⟨#[]⟩ : ByteArray)]) ?_ 1 _ rfl; refine rp ?_; refine blk_put (cs := #[.int .i64 0, .int .i64 0, .float .f64 0, .string (⟨#[]⟩ : ByteArray)]) ?_ 0 _ rfl; exact bk BK818) hg (Kd.R_away HO_10.out (fun _ hk => hk))); have n2_ := am (hb); have n3_ := am (ho); clear BK811; clear BK818; clear HB; clear HO_10; have BK811 := n0_; have BK818 := n1_; have HB := n2_; have HO821 := n3_; clear n0_ n1_ n2_ n3_; clear ho hb hg hat))
                                  go_roundg k2
                                  case measure => have := HK1.out; have := HK2.out; omega
                                  case rel => exact ⟨(t816), (y819), (wrap64 (x51_2 + 1)), eb, eb, H', ⟨by have := HK1.out; have := HK2.out; omega⟩, ⟨by (with_reducible repeat (first | apply Kd.R_alloc | apply Kd.R_drewN | apply Kd.R_drew)); exact Kd.R_mono HO821.out (fun _ hk => trivial)⟩, ⟨bl HB⟩⟩
                                · rw [if_neg c31] at H
                                  exact absurd H (by simp)
                              · replace c30 := Bool.eq_false_iff.mpr c30
                                subst c30
                                have H1 : (some (([] : List (S50)), (⟨#[]⟩ : ByteArray), false)) = some (r1, r2, r3) := by rw [if_neg (show ¬ (false = true) by decide)] at H; exact H
                                clear H
                                have H := H1
                                clear H1
                                simp only [Option.some.injEq, Prod.mk.injEq] at H
                                obtain ⟨rfl, rfl, rfl⟩ := H
                                have p810 : 0 ≤ (x51_2 : Int) := oda
                                have q810 : x51_2 < (l0.length : Int) := oda
                                obtain ⟨ad810, e810, hx810_0, hx810_1, hx810_2, hx810_3, hx810_4, hx810_5, hx810_6⟩ := at_T105 HR0.out x51_2 p810 q810
                                cases e810
                                replace hx810_0 := hc HB hx810_0
                                replace hx810_1 := hc HB hx810_1
                                replace hx810_2 := hc HB hx810_2
                                replace hx810_3 := hc HB hx810_3
                                replace hx810_4 := hc HB hx810_4
                                replace hx810_5 := hc HB hx810_5
                                replace hx810_6 := hc HB hx810_6
                                replace p810 := eq_true p810
                                replace q810 := eq_true q810
                                try go_wp2_with (first | ((with_reducible refine gate_dst (N := 12) rfl ?_); refine box_event rfl (N := 12) rfl (cs := #[.string (⟨#[]⟩ : ByteArray), .int .i64 0, .bool false, .int .i64 0, .int .i64 0, .float .f64 0, .string (⟨#[]⟩ : ByteArray)]) (t := 105) gs ?_; intro gb811 hg w46 hbox hb; have n0_ := am (Kd.R_below (Kd.rr HO_10.out) hb); have n1_ := sb HB hb; have n2_ := am (hbox); have n3_ := gw hg HB; have n4_ := gw hg HB; clear HO_10; clear HB; have HO_10 := n0_; have HB := n1_; have BK811 := n2_; have GW811 := n3_; have GE811 := n4_; clear n0_ n1_ n2_ n3_ n4_; clear hb hbox hg; obtain ⟨Z47_0, Z47_1, Z47_2, Z47_3, Z47_4, Z47_5, Z47_6, Y47_0, Y47_1, Y47_2, Y47_3, Y47_4, Y47_5, Y47_6⟩ := bq7 BK811))
                                have n0_ : Aside0 (Kd.R k50 50 (((((((w46.setCell ⟨gb811, 0, none⟩ (.string ((rd_T105 l0 x51_2).f0))).setCell ⟨gb811, 1, none⟩ (.int .i64 ((rd_T105 l0 x51_2).f1))).setCell ⟨gb811, 2, none⟩ (.bool ((rd_T105 l0 x51_2).f2))).setCell ⟨gb811, 3, none⟩ (.int .i64 ((rd_T105 l0 x51_2).f3.f0))).setCell ⟨gb811, 4, none⟩ (.int .i64 ((rd_T105 l0 x51_2).f3.f1))).setCell ⟨gb811, 5, none⟩ (.float .f64 ((rd_T105 l0 x51_2).f3.f2))).setCell ⟨gb811, 6, none⟩ (.string ((rd_T105 l0 x51_2).f3.f3))) w.heap.size (fun _ => True) u10 x10_2) := ⟨by (with_reducible repeat (first | apply Kd.R_alloc | apply Kd.R_drewN | apply Kd.R_drew)); exact Kd.R_mono (Kd.R_far (p := ⟨gb811, 6, none⟩) (Kd.R_far (p := ⟨gb811, 5, none⟩) (Kd.R_far (p := ⟨gb811, 4, none⟩) (Kd.R_far (p := ⟨gb811, 3, none⟩) (Kd.R_far (p := ⟨gb811, 2, none⟩) (Kd.R_far (p := ⟨gb811, 1, none⟩) (Kd.R_far (p := ⟨gb811, 0, none⟩) (Kd.R_types HO_10.out BK811.out (by decide)) (fun _ hk => hk.2) (.string ((rd_T105 l0 x51_2).f0))) (fun _ hk => hk.2) (.int .i64 ((rd_T105 l0 x51_2).f1))) (fun _ hk => hk.2) (.bool ((rd_T105 l0 x51_2).f2))) (fun _ hk => hk.2) (.int .i64 ((rd_T105 l0 x51_2).f3.f0))) (fun _ hk => hk.2) (.int .i64 ((rd_T105 l0 x51_2).f3.f1))) (fun _ hk => hk.2) (.float .f64 ((rd_T105 l0 x51_2).f3.f2))) (fun _ hk => hk.2) (.string ((rd_T105 l0 x51_2).f3.f3))) (fun _ hk => trivial)⟩
                                have n1_ : Aside0 ((((((((w46.setCell ⟨gb811, 0, none⟩ (.string ((rd_T105 l0 x51_2).f0))).setCell ⟨gb811, 1, none⟩ (.int .i64 ((rd_T105 l0 x51_2).f1))).setCell ⟨gb811, 2, none⟩ (.bool ((rd_T105 l0 x51_2).f2))).setCell ⟨gb811, 3, none⟩ (.int .i64 ((rd_T105 l0 x51_2).f3.f0))).setCell ⟨gb811, 4, none⟩ (.int .i64 ((rd_T105 l0 x51_2).f3.f1))).setCell ⟨gb811, 5, none⟩ (.float .f64 ((rd_T105 l0 x51_2).f3.f2))).setCell ⟨gb811, 6, none⟩ (.string ((rd_T105 l0 x51_2).f3.f3))).heap[gb811]? = some (.cells #[.string ((rd_T105 l0 x51_2).f0), .int .i64 ((rd_T105 l0 x51_2).f1), .bool ((rd_T105 l0 x51_2).f2), .int .i64 ((rd_T105 l0 x51_2).f3.f0), .int .i64 ((rd_T105 l0 x51_2).f3.f1), .float .f64 ((rd_T105 l0 x51_2).f3.f2), .string ((rd_T105 l0 x51_2).f3.f3)] 105 (0, 0))) := ⟨by refine rp ?_; refine blk_put (cs := #[.string ((rd_T105 l0 x51_2).f0), .int .i64 ((rd_T105 l0 x51_2).f1), .bool ((rd_T105 l0 x51_2).f2), .int .i64 ((rd_T105 l0 x51_2).f3.f0), .int .i64 ((rd_T105 l0 x51_2).f3.f1), .float .f64 ((rd_T105 l0 x51_2).f3.f2), .string (⟨#[]⟩ : ByteArray)]) ?_ 6 _ rfl; refine rp ?_; refine blk_put (cs := #[.string ((rd_T105 l0 x51_2).f0), .int .i64 ((rd_T105 l0 x51_2).f1), .bool ((rd_T105 l0 x51_2).f2), .int .i64 ((rd_T105 l0 x51_2).f3.f0), .int .i64 ((rd_T105 l0 x51_2).f3.f1), .float .f64 0, .string (⟨#[]⟩ : ByteArray)]) ?_ 5 _ rfl; refine rp ?_; refine blk_put (cs := #[.string ((rd_T105 l0 x51_2).f0), .int .i64 ((rd_T105 l0 x51_2).f1), .bool ((rd_T105 l0 x51_2).f2), .int .i64 ((rd_T105 l0 x51_2).f3.f0), .int .i64 0, .float .f64 0, .string (⟨#[]⟩ : ByteArray)]) ?_ 4 _ rfl; refine rp ?_; refine blk_put (cs := #[.string ((rd_T105 l0 x51_2).f0), .int .i64 ((rd_T105 l0 x51_2).f1), .bool ((rd_T105 l0 x51_2).f2), .int .i64 0, .int .i64 0, .float .f64 0, .string (⟨#[]⟩ : ByteArray)]) ?_ 3 _ rfl; refine rp ?_; refine blk_put (cs := #[.string ((rd_T105 l0 x51_2).f0), .int .i64 ((rd_T105 l0 x51_2).f1), .bool false, .int .i64 0, .int .i64 0, .float .f64 0, .string (⟨#[]⟩ : ByteArray)]) ?_ 2 _ rfl; refine rp ?_; refine blk_put (cs := #[.string ((rd_T105 l0 x51_2).f0), .int .i64 0, .bool false, .int .i64 0, .int .i64 0, .float .f64 0, .string (⟨#[]⟩ : ByteArray)]) ?_ 1 _ rfl; refine rp ?_; refine blk_put (cs := #[.string (⟨#[]⟩ : ByteArray), .int .i64 0, .bool false, .int .i64 0, .int .i64 0, .float .f64 0, .string (⟨#[]⟩ : ByteArray)]) ?_ 0 _ rfl; exact bk BK811⟩
                                have n2_ : Aside0 (Below w.heap.size w (((((((w46.setCell ⟨gb811, 0, none⟩ (.string ((rd_T105 l0 x51_2).f0))).setCell ⟨gb811, 1, none⟩ (.int .i64 ((rd_T105 l0 x51_2).f1))).setCell ⟨gb811, 2, none⟩ (.bool ((rd_T105 l0 x51_2).f2))).setCell ⟨gb811, 3, none⟩ (.int .i64 ((rd_T105 l0 x51_2).f3.f0))).setCell ⟨gb811, 4, none⟩ (.int .i64 ((rd_T105 l0 x51_2).f3.f1))).setCell ⟨gb811, 5, none⟩ (.float .f64 ((rd_T105 l0 x51_2).f3.f2))).setCell ⟨gb811, 6, none⟩ (.string ((rd_T105 l0 x51_2).f3.f3)))) := ⟨bl HB⟩
                                (try clear HO_10)
                                (try clear BK811)
                                (try clear HB)
                                generalize (((((((w46.setCell ⟨gb811, 0, none⟩ (.string ((rd_T105 l0 x51_2).f0))).setCell ⟨gb811, 1, none⟩ (.int .i64 ((rd_T105 l0 x51_2).f1))).setCell ⟨gb811, 2, none⟩ (.bool ((rd_T105 l0 x51_2).f2))).setCell ⟨gb811, 3, none⟩ (.int .i64 ((rd_T105 l0 x51_2).f3.f0))).setCell ⟨gb811, 4, none⟩ (.int .i64 ((rd_T105 l0 x51_2).f3.f1))).setCell ⟨gb811, 5, none⟩ (.float .f64 ((rd_T105 l0 x51_2).f3.f2))).setCell ⟨gb811, 6, none⟩ (.string ((rd_T105 l0 x51_2).f3.f3))) = w48 at n0_ n1_ n2_ ⊢
                                have HO_10 := n0_
                                have BK811 := n1_
                                have HB := n2_
                                clear n0_ n1_ n2_
                                have n0_ := am (Kd.R_drew HO_10.out)
                                have n1_ := am (blk_drew BK811.out)
                                have n2_ := am (below_drew1 HB.out)
                                clear HO_10
                                clear BK811
                                clear HB
                                have HO_10 := n0_
                                have BK811 := n1_
                                have HB := n2_
                                clear n0_ n1_ n2_
                                have p25 : 0 ≤ ((ji22) : Int) := oda
                                have q25 : (ji22) < ((a1.extract 0 ((ji4) : Int).toNat).size : Int) := oda
                                have hx25 := bt_at (a1.extract 0 ((ji4) : Int).toNat) (ji22)
                                (try (have qs25 := q25; simp only [ByteArray.size_extract, Nat.sub_zero] at qs25; replace qs25 := eq_true qs25))
                                replace p25 := eq_true p25
                                replace q25 := eq_true q25
                                refine start_ (n := 20) (S := fun w' => w'.cell? ⟨gb811, 0, none⟩ = some (.string ((rd_T105 l0 x51_2).f0)) ∧ w'.cell? ⟨gb811, 1, none⟩ = some (.int .i64 ((rd_T105 l0 x51_2).f1)) ∧ w'.cell? ⟨gb811, 2, none⟩ = some (.bool ((rd_T105 l0 x51_2).f2)) ∧ w'.cell? ⟨gb811, 3, none⟩ = some (.int .i64 ((rd_T105 l0 x51_2).f3.f0)) ∧ w'.cell? ⟨gb811, 4, none⟩ = some (.int .i64 ((rd_T105 l0 x51_2).f3.f1)) ∧ w'.cell? ⟨gb811, 5, none⟩ = some (.float .f64 ((rd_T105 l0 x51_2).f3.f2)) ∧ w'.cell? ⟨gb811, 6, none⟩ = some (.string ((rd_T105 l0 x51_2).f3.f3))) (ds := []) (bb 0 20) (by kernel_rfl) rfl rfl ⟨(blk_cell BK811.out 0).trans rfl, (blk_cell BK811.out 1).trans rfl, (blk_cell BK811.out 2).trans rfl, (blk_cell BK811.out 3).trans rfl, (blk_cell BK811.out 4).trans rfl, (blk_cell BK811.out 5).trans rfl, (blk_cell BK811.out 6).trans rfl⟩ (fun hHeld => ?_); refine with_tabW row_decode.tab14 row_decode.bits14 (fun HT_ HW_ => ?_)
                                generalize w48.drew = w49 at HO_10 BK811 HB hHeld ⊢
                                refine pu HT_ 1 (some 58) (bs 20 2) ?_
                                refine pu HT_ 2 (some 59) (bs 20 6) ?_
                                refine pu HT_ 3 (some 60) (bs 20 14) ?_
                                refine pu HT_ 5 (some 62) (bs 20 46) ?_
                                refine pu HT_ 6 (some 63) (bs 20 110) ?_
                                refine pu HT_ 7 (some 64) (bs 20 238) ?_
                                refine pu HT_ 10 (some 67) (bs 20 1262) ?_
                                refine tk HT_ HW_ hHeld 0 (some 57) (bs 20 1263) ?_
                                refine tk HT_ HW_ hHeld 4 (some 61) (bs 20 1279) ?_
                                refine pu HT_ 8 (some 65) (bs 20 1535) ?_
                                refine pu HT_ 9 (some 66) (bb 11 20) ?_
                                refine join_ (σ := Nat) 3 (bb 17 20) (fun s_ => [(68, .tuple #[.agg #[.int .i64 t812, .int .i64 t813, .float .f64 t814, .string t815], .string t816, .bool false]), (13, .pointer (some ⟨s_, 0, none⟩)), (56, .tuple #[.agg #[.int .i64 t812, .int .i64 t813, .float .f64 t814, .string t815], .string t816, .bool false]), (69, .agg #[.int .i64 t812, .int .i64 t813, .float .f64 t814, .string t815]), (70, .string t816), (71, .bool false)]) (fun s_ w' => (w'.cell? ⟨gb811, 0, none⟩ = some (.string ((rd_T105 l0 x51_2).f0)) ∧ w'.cell? ⟨gb811, 1, none⟩ = some (.int .i64 ((rd_T105 l0 x51_2).f1)) ∧ w'.cell? ⟨gb811, 2, none⟩ = some (.bool ((rd_T105 l0 x51_2).f2)) ∧ w'.cell? ⟨gb811, 3, none⟩ = some (.int .i64 ((rd_T105 l0 x51_2).f3.f0)) ∧ w'.cell? ⟨gb811, 4, none⟩ = some (.int .i64 ((rd_T105 l0 x51_2).f3.f1)) ∧ w'.cell? ⟨gb811, 5, none⟩ = some (.float .f64 ((rd_T105 l0 x51_2).f3.f2)) ∧ w'.cell? ⟨gb811, 6, none⟩ = some (.string ((rd_T105 l0 x51_2).f3.f3))) ∧ (Kd.R k50 50 w' w.heap.size (fun k_ => k_ ≠ s_) u10 x10_2) ∧ (w'.heap[gb811]? = some (.cells #[.string ((rd_T105 l0 x51_2).f0), .int .i64 ((rd_T105 l0 x51_2).f1), .bool ((rd_T105 l0 x51_2).f2), .int .i64 ((rd_T105 l0 x51_2).f3.f0), .int .i64 ((rd_T105 l0 x51_2).f3.f1), .float .f64 ((rd_T105 l0 x51_2).f3.f2), .string ((rd_T105 l0 x51_2).f3.f3)] 105 (0, 0))) ∧ (w'.heap[s_]? = some (.cells #[.int .i64 0, .int .i64 0, .float .f64 0, .string (⟨#[]⟩ : ByteArray)] 50 (0, 0))) ∧ (w.heap.size ≤ s_) ∧ (w.heap.size ≤ s_) ∧ (gb811 ≠ s_) ∧ (s_ ≠ gb811) ∧ (Below w.heap.size w w')) ?_ ?_
                                rotate_left
                                · intro hCont
                                  refine two_ (i := 11) (j := 16) (Ni := some 68) (Nj := some 13) (bb 12 20) (bs 20 67583) rfl rfl rfl rfl (two_of HT_.out (by kernel_rfl)) (by decide) (by decide) (fun K hK => ?_) (fun K hK => ?_)
                                  · skip
                                    refine goes_ Tryd.func131 (by kernel_rfl) rfl #[.agg #[.string ((rd_T105 l0 x51_2).f0), .int .i64 ((rd_T105 l0 x51_2).f1), .bool ((rd_T105 l0 x51_2).f2), .int .i64 ((rd_T105 l0 x51_2).f3.f0), .int .i64 ((rd_T105 l0 x51_2).f3.f1), .float .f64 ((rd_T105 l0 x51_2).f3.f2), .string ((rd_T105 l0 x51_2).f3.f3)], .int .u8 (Go.bits .and .u8 (ji28) 3), .string x1_2] (by rfl) rfl rfl (by (try simp only [List.map_toArray, List.map_cons, List.map_nil]); first | done | (simp only [hji28]; rfl) | rfl | (simp only [List.length_drop, List.length_take]; rfl)) ?_
                                    with_reducible refine (row_get.calls k2 ((rd_T105 l0 x51_2).f0) ((rd_T105 l0 x51_2).f1) ((rd_T105 l0 x51_2).f2) ((rd_T105 l0 x51_2).f3.f0) ((rd_T105 l0 x51_2).f3.f1) ((rd_T105 l0 x51_2).f3.f2) ((rd_T105 l0 x51_2).f3.f3) (Go.bits .and .u8 (ji28) 3) x1_2 t812 t813 t814 t815 t816 false _ ?side1 A29.out).mono ?_
                                    (case side1 => exact Glob.below HG.out (bl HB))
                                    rintro e w50 ⟨rfl, hb⟩
                                    refine ⟨_, rfl, ?_⟩
                                    have n0_ := am (Kd.R_below (Kd.rr HO_10.out) hb)
                                    have n1_ := kb BK811 hb
                                    have n2_ := sb HB hb
                                    clear HO_10
                                    clear BK811
                                    clear HB
                                    have HO_10 := n0_
                                    have BK811 := n1_
                                    have HB := n2_
                                    clear n0_ n1_ n2_
                                    (try clear hb)
                                    (try clear hb2)
                                    (try clear hk)
                                    (try clear hi)
                                    refine hK.out _ _ ⟨(blk_cell BK811.out 0).trans rfl, (blk_cell BK811.out 1).trans rfl, (blk_cell BK811.out 2).trans rfl, (blk_cell BK811.out 3).trans rfl, (blk_cell BK811.out 4).trans rfl, (blk_cell BK811.out 5).trans rfl, (blk_cell BK811.out 6).trans rfl⟩ (fun hHeld => ?_)
                                    clear hK K
                                    refine norm_ (a' := ?_) ?_ ?_
                                    rotate_left
                                    · show Act.put _ (some 68) _ = _
                                      simp only [Act.put, List.setIfInBounds_toArray, List.set_cons_zero, List.set_cons_succ, i64_w, i32_w]
                                      rfl
                                    refine pu HT_ 12 (some 56) (bb 13 20) ?_
                                    refine pu HT_ 13 (some 69) (bb 14 20) ?_
                                    refine pu HT_ 14 (some 70) (bb 15 20) ?_
                                    refine pu HT_ 15 (some 71) (bb 16 20) ?_
                                    refine one_ (i := 16) (N := some 13) (bb 17 20) rfl rfl (one_of HT_.out (by kernel_rfl)) (by decide) (fun K hK => ?_)
                                    refine box_step ?hg (N := 13) ?hd (cs := #[.int .i64 0, .int .i64 0, .float .f64 0, .string (⟨#[]⟩ : ByteArray)]) (t := 50) ?hr ?_; (case hd => rfl); (case hg => rfl); (case hr => first | (go_simp; done) | (go_simp; rfl))
                                    intro gb818 hg w51 hbox hb
                                    have n0_ := am (Kd.R_below (Kd.R_elderB (Kd.rr HO_10.out) gb818 (Nat.le_of_eq hg.symm)) hb)
                                    have n1_ := kb BK811 hb
                                    have n2_ := sb HB hb
                                    have n3_ := am (hbox)
                                    have n4_ := gw hg HB
                                    have n5_ := gw hg HB
                                    have n6_ := am ((by rw [hg]; exact Nat.ne_of_lt (blk_lt (bk BK811)) : gb811 ≠ gb818))
                                    have n7_ := am ((by rw [hg]; exact Nat.ne_of_gt (blk_lt (bk BK811)) : gb818 ≠ gb811))
                                    clear HO_10
                                    clear BK811
                                    clear HB
                                    have HO_10 := n0_
                                    have BK811 := n1_
                                    have HB := n2_
                                    have BK818 := n3_
                                    have GW818 := n4_
                                    have GE818 := n5_
                                    have NB811_818 := n6_
                                    have NB818_811 := n7_
                                    clear n0_ n1_ n2_ n3_ n4_ n5_ n6_ n7_
                                    clear hb hbox hg
                                    refine hK.out _ _ ⟨(blk_cell BK811.out 0).trans rfl, (blk_cell BK811.out 1).trans rfl, (blk_cell BK811.out 2).trans rfl, (blk_cell BK811.out 3).trans rfl, (blk_cell BK811.out 4).trans rfl, (blk_cell BK811.out 5).trans rfl, (blk_cell BK811.out 6).trans rfl⟩ (fun hHeld => ?_)
                                    clear hK K
                                    refine norm_ (a' := ?_) ?_ ?_
                                    rotate_left
                                    · show Act.put _ (some 13) _ = _
                                      simp only [Act.put, List.setIfInBounds_toArray, List.set_cons_zero, List.set_cons_succ, i64_w, i32_w]
                                      rfl
                                    exact norm_ (np) (hCont (gb818) _ ⟨hHeld, (by (with_reducible repeat (first | apply Kd.R_alloc | apply Kd.R_drewN | apply Kd.R_drew)); exact Kd.R_mono HO_10.out (fun _ hk => hk.2)), (bk BK811), (bk BK818), GW818.out, GE818.out, NB811_818.out, NB818_811.out, (bl HB)⟩)
                                  · skip
                                    refine box_step ?hg (N := 13) ?hd (cs := #[.int .i64 0, .int .i64 0, .float .f64 0, .string (⟨#[]⟩ : ByteArray)]) (t := 50) ?hr ?_; (case hd => rfl); (case hg => rfl); (case hr => first | (go_simp; done) | (go_simp; rfl))
                                    intro gb818 hg w50 hbox hb
                                    have n0_ := am (Kd.R_below (Kd.R_elderB (Kd.rr HO_10.out) gb818 (Nat.le_of_eq hg.symm)) hb)
                                    have n1_ := kb BK811 hb
                                    have n2_ := sb HB hb
                                    have n3_ := am (hbox)
                                    have n4_ := gw hg HB
                                    have n5_ := gw hg HB
                                    have n6_ := am ((by rw [hg]; exact Nat.ne_of_lt (blk_lt (bk BK811)) : gb811 ≠ gb818))
                                    have n7_ := am ((by rw [hg]; exact Nat.ne_of_gt (blk_lt (bk BK811)) : gb818 ≠ gb811))
                                    clear HO_10
                                    clear BK811
                                    clear HB
                                    have HO_10 := n0_
                                    have BK811 := n1_
                                    have HB := n2_
                                    have BK818 := n3_
                                    have GW818 := n4_
                                    have GE818 := n5_
                                    have NB811_818 := n6_
                                    have NB818_811 := n7_
                                    clear n0_ n1_ n2_ n3_ n4_ n5_ n6_ n7_
                                    clear hb hbox hg
                                    refine hK.out _ _ ⟨(blk_cell BK811.out 0).trans rfl, (blk_cell BK811.out 1).trans rfl, (blk_cell BK811.out 2).trans rfl, (blk_cell BK811.out 3).trans rfl, (blk_cell BK811.out 4).trans rfl, (blk_cell BK811.out 5).trans rfl, (blk_cell BK811.out 6).trans rfl⟩ (fun hHeld => ?_)
                                    clear hK K
                                    refine norm_ (a' := ?_) ?_ ?_
                                    rotate_left
                                    · show Act.put _ (some 13) _ = _
                                      simp only [Act.put, List.setIfInBounds_toArray, List.set_cons_zero, List.set_cons_succ, i64_w, i32_w]
                                      rfl
                                    refine one_ (i := 11) (N := some 68) (bs 20 69631) rfl rfl (one_of HT_.out (by kernel_rfl)) (by decide) (fun K hK => ?_)
                                    refine goes_ Tryd.func131 (by kernel_rfl) rfl #[.agg #[.string ((rd_T105 l0 x51_2).f0), .int .i64 ((rd_T105 l0 x51_2).f1), .bool ((rd_T105 l0 x51_2).f2), .int .i64 ((rd_T105 l0 x51_2).f3.f0), .int .i64 ((rd_T105 l0 x51_2).f3.f1), .float .f64 ((rd_T105 l0 x51_2).f3.f2), .string ((rd_T105 l0 x51_2).f3.f3)], .int .u8 (Go.bits .and .u8 (ji28) 3), .string x1_2] (by rfl) rfl rfl (by (try simp only [List.map_toArray, List.map_cons, List.map_nil]); first | done | (simp only [hji28]; rfl) | rfl | (simp only [List.length_drop, List.length_take]; rfl)) ?_
                                    with_reducible refine (row_get.calls k2 ((rd_T105 l0 x51_2).f0) ((rd_T105 l0 x51_2).f1) ((rd_T105 l0 x51_2).f2) ((rd_T105 l0 x51_2).f3.f0) ((rd_T105 l0 x51_2).f3.f1) ((rd_T105 l0 x51_2).f3.f2) ((rd_T105 l0 x51_2).f3.f3) (Go.bits .and .u8 (ji28) 3) x1_2 t812 t813 t814 t815 t816 false _ ?side1 A29.out).mono ?_
                                    (case side1 => exact Glob.below HG.out (bl HB))
                                    rintro e w51 ⟨rfl, hb⟩
                                    refine ⟨_, rfl, ?_⟩
                                    have n0_ := am (Kd.R_below (Kd.rr HO_10.out) hb)
                                    have n1_ := kb BK811 hb
                                    have n2_ := kb BK818 hb
                                    have n3_ := sb HB hb
                                    clear HO_10
                                    clear BK811
                                    clear BK818
                                    clear HB
                                    have HO_10 := n0_
                                    have BK811 := n1_
                                    have BK818 := n2_
                                    have HB := n3_
                                    clear n0_ n1_ n2_ n3_
                                    (try clear hb)
                                    (try clear hb2)
                                    (try clear hk)
                                    (try clear hi)
                                    refine hK.out _ _ ⟨(blk_cell BK811.out 0).trans rfl, (blk_cell BK811.out 1).trans rfl, (blk_cell BK811.out 2).trans rfl, (blk_cell BK811.out 3).trans rfl, (blk_cell BK811.out 4).trans rfl, (blk_cell BK811.out 5).trans rfl, (blk_cell BK811.out 6).trans rfl⟩ (fun hHeld => ?_)
                                    clear hK K
                                    refine norm_ (a' := ?_) ?_ ?_
                                    rotate_left
                                    · show Act.put _ (some 68) _ = _
                                      simp only [Act.put, List.setIfInBounds_toArray, List.set_cons_zero, List.set_cons_succ, i64_w, i32_w]
                                      rfl
                                    refine pu HT_ 12 (some 56) (bs 20 73727) ?_
                                    refine pu HT_ 13 (some 69) (bs 20 81919) ?_
                                    refine pu HT_ 14 (some 70) (bs 20 98303) ?_
                                    refine pu HT_ 15 (some 71) (bb 17 20) ?_
                                    exact norm_ (np) (hCont (gb818) _ ⟨hHeld, (by (with_reducible repeat (first | apply Kd.R_alloc | apply Kd.R_drewN | apply Kd.R_drew)); exact Kd.R_mono HO_10.out (fun _ hk => hk.2)), (bk BK811), (bk BK818), GW818.out, GE818.out, NB811_818.out, NB818_811.out, (bl HB)⟩)
                                rintro gb818 w52 ⟨hS_, h0_, h1_, h2_, h3_, h4_, h5_, h6_, h7_⟩
                                have n0_ : Aside0 (Kd.R k50 50 w52 w.heap.size (fun k_ => k_ ≠ gb818) u10 x10_2) := ⟨h0_⟩
                                have n1_ : Aside0 (w52.heap[gb811]? = some (.cells #[.string ((rd_T105 l0 x51_2).f0), .int .i64 ((rd_T105 l0 x51_2).f1), .bool ((rd_T105 l0 x51_2).f2), .int .i64 ((rd_T105 l0 x51_2).f3.f0), .int .i64 ((rd_T105 l0 x51_2).f3.f1), .float .f64 ((rd_T105 l0 x51_2).f3.f2), .string ((rd_T105 l0 x51_2).f3.f3)] 105 (0, 0))) := ⟨h1_⟩
                                have n2_ : Aside0 (w52.heap[gb818]? = some (.cells #[.int .i64 0, .int .i64 0, .float .f64 0, .string (⟨#[]⟩ : ByteArray)] 50 (0, 0))) := ⟨h2_⟩
                                have n3_ : Aside0 (w.heap.size ≤ gb818) := ⟨h3_⟩
                                have n4_ : Aside0 (w.heap.size ≤ gb818) := ⟨h4_⟩
                                have n5_ : Aside0 (gb811 ≠ gb818) := ⟨h5_⟩
                                have n6_ : Aside0 (gb818 ≠ gb811) := ⟨h6_⟩
                                have n7_ : Aside0 (Below w.heap.size w w52) := ⟨h7_⟩
                                clear HO_10
                                clear BK811
                                clear HB
                                clear h0_ h1_ h2_ h3_ h4_ h5_ h6_ h7_
                                have HO_10 := n0_
                                have BK811 := n1_
                                have BK818 := n2_
                                have GW818 := n3_
                                have GE818 := n4_
                                have NB811_818 := n5_
                                have NB818_811 := n6_
                                have HB := n7_
                                clear n0_ n1_ n2_ n3_ n4_ n5_ n6_ n7_
                                have hHeld : w52.cell? ⟨gb811, 0, none⟩ = some (.string ((rd_T105 l0 x51_2).f0)) ∧ w52.cell? ⟨gb811, 1, none⟩ = some (.int .i64 ((rd_T105 l0 x51_2).f1)) ∧ w52.cell? ⟨gb811, 2, none⟩ = some (.bool ((rd_T105 l0 x51_2).f2)) ∧ w52.cell? ⟨gb811, 3, none⟩ = some (.int .i64 ((rd_T105 l0 x51_2).f3.f0)) ∧ w52.cell? ⟨gb811, 4, none⟩ = some (.int .i64 ((rd_T105 l0 x51_2).f3.f1)) ∧ w52.cell? ⟨gb811, 5, none⟩ = some (.float .f64 ((rd_T105 l0 x51_2).f3.f2)) ∧ w52.cell? ⟨gb811, 6, none⟩ = some (.string ((rd_T105 l0 x51_2).f3.f3)) := hS_
                                refine norm_ (a' := ?_) ?_ ?_
                                rotate_left
                                · simp only [putAll, Act.put, List.setIfInBounds_toArray, List.set_cons_zero, List.set_cons_succ]
                                  rfl
                                refine one_ (i := 17) (N := none) (bb 18 20) rfl rfl (one_of HT_.out (by kernel_rfl)) (by decide) (fun K hK => ?_)
                                have hs53 : w52.cell? ⟨gb818, 0, none⟩ = some (.int .i64 0) := (blk_cell BK818.out 0).trans rfl
                                have hfs53 := blk_frozen BK818.out 0
                                have hns53_0 := NB811_818.out
                                have hms53_0 := NB818_811.out
                                have hs54 : w52.cell? ⟨gb818, 1, none⟩ = some (.int .i64 0) := (blk_cell BK818.out 1).trans rfl
                                have hfs54 := blk_frozen BK818.out 1
                                have hns54_0 := NB811_818.out
                                have hms54_0 := NB818_811.out
                                have hs55 : w52.cell? ⟨gb818, 2, none⟩ = some (.float .f64 0) := (blk_cell BK818.out 2).trans rfl
                                have hfs55 := blk_frozen BK818.out 2
                                have hns55_0 := NB811_818.out
                                have hms55_0 := NB818_811.out
                                have hs56 : w52.cell? ⟨gb818, 3, none⟩ = some (.string (⟨#[]⟩ : ByteArray)) := (blk_cell BK818.out 3).trans rfl
                                have hfs56 := blk_frozen BK818.out 3
                                have hns56_0 := NB811_818.out
                                have hms56_0 := NB818_811.out
                                refine skip_ (w1 := ?_) (by rfl) rfl ?_ ?_
                                rotate_left
                                · go_simp
                                  rfl
                                refine hK.out _ _ ⟨((cell_far (p := ⟨gb818, _, none⟩) NB811_818.out _).trans (((cell_far (p := ⟨gb818, _, none⟩) NB811_818.out _).trans (((cell_far (p := ⟨gb818, _, none⟩) NB811_818.out _).trans (((cell_far (p := ⟨gb818, _, none⟩) NB811_818.out _).trans (hHeld.1)))))))), ((cell_far (p := ⟨gb818, _, none⟩) NB811_818.out _).trans (((cell_far (p := ⟨gb818, _, none⟩) NB811_818.out _).trans (((cell_far (p := ⟨gb818, _, none⟩) NB811_818.out _).trans (((cell_far (p := ⟨gb818, _, none⟩) NB811_818.out _).trans (hHeld.2.1)))))))), ((cell_far (p := ⟨gb818, _, none⟩) NB811_818.out _).trans (((cell_far (p := ⟨gb818, _, none⟩) NB811_818.out _).trans (((cell_far (p := ⟨gb818, _, none⟩) NB811_818.out _).trans (((cell_far (p := ⟨gb818, _, none⟩) NB811_818.out _).trans (hHeld.2.2.1)))))))), ((cell_far (p := ⟨gb818, _, none⟩) NB811_818.out _).trans (((cell_far (p := ⟨gb818, _, none⟩) NB811_818.out _).trans (((cell_far (p := ⟨gb818, _, none⟩) NB811_818.out _).trans (((cell_far (p := ⟨gb818, _, none⟩) NB811_818.out _).trans (hHeld.2.2.2.1)))))))), ((cell_far (p := ⟨gb818, _, none⟩) NB811_818.out _).trans (((cell_far (p := ⟨gb818, _, none⟩) NB811_818.out _).trans (((cell_far (p := ⟨gb818, _, none⟩) NB811_818.out _).trans (((cell_far (p := ⟨gb818, _, none⟩) NB811_818.out _).trans (hHeld.2.2.2.2.1)))))))), ((cell_far (p := ⟨gb818, _, none⟩) NB811_818.out _).trans (((cell_far (p := ⟨gb818, _, none⟩) NB811_818.out _).trans (((cell_far (p := ⟨gb818, _, none⟩) NB811_818.out _).trans (((cell_far (p := ⟨gb818, _, none⟩) NB811_818.out _).trans (hHeld.2.2.2.2.2.1)))))))), ((cell_far (p := ⟨gb818, _, none⟩) NB811_818.out _).trans (((cell_far (p := ⟨gb818, _, none⟩) NB811_818.out _).trans (((cell_far (p := ⟨gb818, _, none⟩) NB811_818.out _).trans (((cell_far (p := ⟨gb818, _, none⟩) NB811_818.out _).trans (hHeld.2.2.2.2.2.2))))))))⟩ (fun hHeld => ?_)
                                clear hK K
                                refine pu HT_ 18 (some 14) (bb 19 20) ?_
                                refine pu HT_ 19 (some 15) (bb 20 20) ?_
                                refine done_ (done_of HT_.out (by kernel_rfl)) ?_
                                try go_wp2
                                go_ret3
                                exact ⟨_, by first | rfl | (simp [errW_none, errW_some] <;> rfl) | (simp only [← hji4, ← hji22, ← hji26, ← hji28]; first | rfl | (simp [errW_none, errW_some] <;> rfl)) | (simp [*, errW_none, errW_some] <;> rfl), by first | exact Kd.R_nil _ _ _ _ _ | exact Kd.N_nil _ _ _ _ _ | exact Kd.V_nil _ _ _ _ _ | exact Kd.Q_nil _ _ _ _ _ | exact Kd.S_nil _ _ _ _ _, bl HB⟩
                            · rw [if_neg c27] at H
                              exact absurd H (by simp)
                          · rw [if_neg c24] at H
                            exact absurd H (by simp)
                        · rw [if_neg c23] at H
                          exact absurd H (by simp)
                      · rw [if_neg c21] at H
                        exact absurd H (by simp)
                    · rw [if_neg c20] at H
                      exact absurd H (by simp)
                  · rw [if_neg c19] at H
                    have c19b0 : decide (x51_2 < (l0.length : Int)) = false := decide_eq_false c19
                    clear c19
                    simp only [Option.some.injEq, Prod.mk.injEq] at H
                    obtain ⟨rfl, rfl, rfl⟩ := H
                    go_wp2
                    go_ret3
                    exact ⟨_, by first | rfl | (simp [errW_none, errW_some] <;> rfl) | (simp only [← hji4]; first | rfl | (simp [errW_none, errW_some] <;> rfl)) | (simp [*, errW_none, errW_some] <;> rfl), Kd.rr HO_10.out, bl HB⟩
      · rw [if_neg c6] at H
        exact absurd H (by simp)
    · rw [if_neg c5] at H
      exact absurd H (by simp)
end Go.Proofs.YtpiifdbicibelaaDoor.PA
end
section
namespace Go.Proofs.YtpiifdbicibelaaDoor.Pure
open Go.RowKit Go.Proofs Go.Proofs.YtpiifdbicibelaaDoorW.PrintWords Go.Proofs.YtpiifdbicibelaaDoorW.PrintLast Go.Proofs.YtpiifdbicibelaaDoorW.PrintMore Go.Proofs.YtpiifdbicibelaaDoor.PA Go.Proofs.YtpiifdbicibelaaDoor.OpenK
set_option linter.unusedVariables false
set_option linter.unusedSimpArgs false
theorem and127 (k : IntKind) (hk : k = .u64 ∨ k = .u8) (c : Int) (hc : 0 ≤ c ∧ c ≤ 255) : Go.bits .and k c 127 = ((c % 128).toNat : Int) := by
  have h64 : ∀ x : Fin 256, Go.bits .and .u64 (x.val : Int) 127 = (((x.val : Int) % 128).toNat : Int) := by decide +kernel
  have h8 : ∀ x : Fin 256, Go.bits .and .u8 (x.val : Int) 127 = (((x.val : Int) % 128).toNat : Int) := by decide +kernel
  have e : ((c.toNat : Nat) : Int) = c := by omega
  rcases hk with rfl | rfl
  · have := h64 ⟨c.toNat, by omega⟩
    simpa only [e] using this
  · have := h8 ⟨c.toNat, by omega⟩
    simpa only [e] using this
theorem mn_ten (n : Nat) : mn (n : Int) 10 = ((min n 10 : Nat) : Int) := by unfold mn; split <;> omega
theorem drop_cons {L : List Int} {i : Nat} (h : i < L.length) : L.drop i = L[i] :: L.drop (i + 1) := List.drop_eq_getElem_cons h
theorem str_rest (L : List Int) (i : Nat) : (strOfNums L).extract (((i : Nat) : Int)).toNat (strOfNums L).size = strOfNums (L.drop i) := str_drop L i
def vrT (n s : Nat) : Option (Nat × List Int) → Int × ByteArray × Bool
  | none => (0, (⟨#[]⟩ : ByteArray), false)
  | some (m, R) => (((n + 2 ^ s * m : Nat) : Int), strOfNums R, true)
theorem pow7 (i : Nat) : 2 ^ (7 * (i + 1)) = 2 ^ (7 * i) * 128 := by rw [Nat.mul_add, Nat.pow_add]
theorem digit_fits {i : Nat} {c : Nat} (hi : i ≤ 9) (hc : c < 128) (h9 : i = 9 → c ≤ 1) : c * 2 ^ (7 * i) < 2 ^ 64 := by
  by_cases h : i = 9
  · subst h
    have := h9 rfl
    exact Nat.lt_of_le_of_lt (Nat.mul_le_mul_right _ this) (by decide)
  · have h1 : 2 ^ (7 * i) ≤ 2 ^ 56 := Nat.pow_le_pow_right (by decide) (by omega)
    exact Nat.lt_of_le_of_lt (Nat.mul_le_mul (Nat.le_of_lt hc) h1) (by decide)
theorem digit_low {i n c : Nat} (hn : n < 2 ^ (7 * i)) (hc : c < 128) : n + 2 ^ (7 * i) * c < 2 ^ (7 * (i + 1)) := by
  rw [pow7]
  calc n + 2 ^ (7 * i) * c < 2 ^ (7 * i) + 2 ^ (7 * i) * c := by omega
    _ = 2 ^ (7 * i) * (c + 1) := by rw [Nat.mul_add]; omega
    _ ≤ _ := Nat.mul_le_mul_left _ (by omega)
theorem vr_cons (i : Nat) (c : Int) (M : List Int) : vr i (c :: M) = if 10 ≤ i then none else if (i = 9 ∧ 1 < c) ∨ (0 < i ∧ c = 0) then none else if c < 128 then some (c.toNat, M) else
    match vr (i + 1) M with
    | none => none
    | some (n, R) => some ((c - 128).toNat + 128 * n, R) := rfl
theorem vrT_more {i n c : Nat} (o : Option (Nat × List Int)) : vrT (n + 2 ^ (7 * i) * c) (7 * (i + 1)) o = vrT n (7 * i) (match o with | none => none | some (m, R) => some (c + 128 * m, R)) := by
  cases o with
  | none => rfl
  | some p =>
    obtain ⟨m, R⟩ := p
    simp only [vrT]
    have e : n + 2 ^ (7 * i) * c + 2 ^ (7 * (i + 1)) * m = n + 2 ^ (7 * i) * (c + 128 * m) := by
      rw [pow7, Nat.mul_add, Nat.mul_assoc, Nat.add_assoc]
    rw [e]
theorem varint_l0 (L : List Int) (hL : Bytes L) (hlen : L.length ≤ 1000000) : ∀ (q i n : Nat), i + q = 10 → n < 2 ^ (7 * i) → Ev (fun k => row_varint.l0 k (strOfNums L) (n : Int) (mn (L.length : Int) 10) (i : Int)) (vrT n (7 * i) (vr i (L.drop i)))
  | q, i, n, hq, hn => by
    have hm := mn_ten L.length
    by_cases hlt : i < L.length ∧ i < 10
    · obtain ⟨hlt, h10⟩ := hlt
      have hb := str_bt hL i hlt
      have hc := hL _ (List.getElem_mem hlt)
      rw [drop_cons hlt]
      generalize L[i] = c at hb hc
      have hcw : IntKind.u64.wrap c = c := u64_wrap_id (by omega) (by omega)
      have h7 : True → wrap64 (7 * (i : Int)) = 7 * (i : Int) := fun _ => wrap64_id (by omega) (by omega)
      have h71 : (7 * (i : Int)) = ((7 * i : Nat) : Int) := by omega
      have h1 : True → wrap64 ((i : Int) + 1) = ((i + 1 : Nat) : Int) := fun _ => wrap_one i (by omega)
      refine Ev.step (g := fun k => row_varint.j1 k (strOfNums L) (n : Int) (i : Int) c (mn (L.length : Int) 10) (i : Int) (decide ((i = 9 ∧ 1 < c) ∨ (0 < i ∧ c = 0)))) (fun k => ?_) ?_
      · simp only [row_varint.l0, hb, hcw, str_size]
        rw [if_pos (by rw [hm]; omega), if_pos (by omega), if_pos (by omega)]
        by_cases h9 : i = 9
        · rw [if_pos (by omega)]
          by_cases hc1 : c > 1
          · rw [if_pos hc1, decide_eq_true (.inl ⟨h9, hc1⟩)]
          · rw [if_neg hc1, if_pos (by omega)]
            congr 1
            rw [Bool.eq_iff_iff, beq_iff_eq, decide_eq_true_eq]; omega
        · rw [if_neg (by omega)]
          by_cases h0 : i = 0
          · rw [if_neg (by omega), decide_eq_false (by omega)]
          · rw [if_pos (by omega)]
            congr 1
            rw [Bool.eq_iff_iff, beq_iff_eq, decide_eq_true_eq]; omega
      · rw [vr_cons, if_neg (by omega)]
        by_cases hz : (i = 9 ∧ 1 < c) ∨ (0 < i ∧ c = 0)
        · rw [if_pos hz, decide_eq_true hz]
          refine Ev.from_ 1 fun k => ?_
          simp only [row_varint.j1]
          rw [if_pos trivial]; rfl
        · rw [if_neg hz, decide_eq_false hz]
          have ho := or_shl n (c % 128).toNat (7 * i) hn (by omega) (digit_fits (by omega) (by omega) (fun h => by
            by_cases g : 1 < c
            · exact absurd (.inl ⟨h, g⟩) hz
            · omega))
          by_cases h128 : c < 128
          · rw [if_pos h128]
            refine Ev.from_ 1 fun k => ?_
            simp only [row_varint.j1, h7 trivial, h1 trivial, and127 .u64 (.inl rfl) c hc]
            rw [if_neg (by decide), if_pos (by omega), if_pos h128, if_pos (by omega), if_pos (by rw [str_size]; omega), str_rest, h71, ho]
            have e : (c % 128).toNat = c.toNat := by omega
            rw [e]; rfl
          · rw [if_neg h128]
            have ih := varint_l0 L hL hlen (q - 1) (i + 1) (n + 2 ^ (7 * i) * (c % 128).toNat) (by omega) (digit_low hn (by omega))
            rw [vrT_more] at ih
            have e : (c % 128).toNat = (c - 128).toNat := by omega
            refine Ev.step (g := fun k => row_varint.l0 k (strOfNums L) ((n + 2 ^ (7 * i) * (c % 128).toNat : Nat) : Int) (mn (L.length : Int) 10) ((i + 1 : Nat) : Int)) (fun k => ?_) ?_
            · simp only [row_varint.j1, h7 trivial, h1 trivial, and127 .u64 (.inl rfl) c hc]
              rw [if_neg (by decide), if_pos (by omega), if_neg h128, h71, ho]
            · rw [e] at ih ⊢
              exact ih
    · refine Ev.from_ 1 fun k => ?_
      simp only [row_varint.l0]
      rw [if_neg (by rw [hm]; omega)]
      have e : vr i (L.drop i) = none := by
        by_cases h : i < L.length
        · rw [drop_cons h, vr_cons, if_pos (by omega)]
        · rw [List.drop_of_length_le (by omega)]; rfl
      rw [e]; rfl
termination_by q => q
decreasing_by omega
theorem vrT_zero (o : Option (Nat × List Int)) : vrT 0 (7 * 0) o = match o with | none => (0, (⟨#[]⟩ : ByteArray), false) | some (m, R) => ((m : Int), strOfNums R, true) := by
  cases o with
  | none => rfl
  | some p => obtain ⟨m, R⟩ := p; simp [vrT]
theorem varint_ev (L : List Int) (hL : Bytes L) (hlen : L.length ≤ 1000000) : Ev (fun k => row_varint.f k (strOfNums L)) (match vr 0 L with | none => (0, (⟨#[]⟩ : ByteArray), false) | some (m, R) => ((m : Int), strOfNums R, true)) := by
  have := varint_l0 L hL hlen 10 0 0 rfl (by decide)
  rw [vrT_zero] at this
  simp only [row_varint.f, str_size]
  exact this
theorem lowN_take (L : List Int) (hL : Bytes L) (i : Nat) (h : i < L.length) (hi : i < 8) : lowN (L.take i) < 2 ^ (8 * i) ∧ lowN (L.take (i + 1)) = lowN (L.take i) + 2 ^ (8 * i) * (L[i]).toNat := by
  have hr := num_range (hL.take i).reverse
  have hl : (L.take i).length = i := by rw [List.length_take]; omega
  rw [List.length_reverse, hl] at hr
  have hp : (256 : Int) ^ i = ((2 ^ (8 * i) : Nat) : Int) := pow_nat i
  have hc := hL _ (List.getElem_mem h)
  unfold lowN
  refine ⟨by omega, ?_⟩
  rw [List.take_succ_eq_append_getElem h, List.reverse_append]
  simp only [List.reverse_cons, List.reverse_nil, List.nil_append, List.singleton_append, num, List.length_reverse, hl]
  rw [hp]
  have e : L[i] * ((2 ^ (8 * i) : Nat) : Int) = ((2 ^ (8 * i) * (L[i]).toNat : Nat) : Int) := by
    rw [Int.natCast_mul, Int.mul_comm]
    congr 1; omega
  rw [e]
  omega
theorem byte_fits {i c : Nat} (hi : i < 8) (hc : c ≤ 255) : c * 2 ^ (8 * i) < 2 ^ 64 := by
  have h1 : 2 ^ (8 * i) ≤ 2 ^ 56 := Nat.pow_le_pow_right (by decide) (by omega)
  exact Nat.lt_of_le_of_lt (Nat.mul_le_mul hc h1) (by decide)
theorem low_l0 (L : List Int) (hL : Bytes L) (h8 : 8 ≤ L.length) : ∀ (q i : Nat), i + q = 8 → Ev (fun k => row_low.l0 k (strOfNums L) (lowN (L.take i) : Int) (i : Int)) (lowN (L.take 8) : Int)
  | 0, i, hq => by
    refine Ev.from_ 1 fun k => ?_
    simp only [row_low.l0]
    obtain rfl : i = 8 := by omega
    rw [if_neg (by omega)]
  | q + 1, i, hq => by
    have hlt : i < L.length := by omega
    have hb := str_bt hL i hlt
    obtain ⟨g1, g2⟩ := lowN_take L hL i hlt (by omega)
    have hc := hL _ (List.getElem_mem hlt)
    have ih := low_l0 L hL h8 q (i + 1) (by omega)
    have ho := or_shl (lowN (L.take i)) (L[i]).toNat (8 * i) g1 (by omega) (byte_fits (by omega) (by omega))
    rw [g2] at ih
    refine Ev.step (g := fun k => row_low.l0 k (strOfNums L) ((lowN (L.take i) + 2 ^ (8 * i) * (L[i]).toNat : Nat) : Int) ((i + 1 : Nat) : Int)) (fun k => ?_) ih
    have e8 : wrap64 (8 * (i : Int)) = ((8 * i : Nat) : Int) := by rw [wrap64_id (by omega) (by omega)]; omega
    have ec : IntKind.u64.wrap L[i] = (((L[i]).toNat : Nat) : Int) := by rw [u64_wrap_id (by omega) (by omega)]; omega
    simp only [row_low.l0, hb, str_size, e8, ec]
    rw [if_pos (by omega), if_pos (by omega), if_pos (by omega), if_pos (by omega), ho, wrap64_id (by omega) (by omega)]
    rfl
theorem low_ev (L : List Int) (hL : Bytes L) (h8 : 8 ≤ L.length) : Ev (fun k => row_low.f k (strOfNums L)) (lowN (L.take 8) : Int) := low_l0 L hL h8 8 0 rfl
theorem i64_wrap {n : Int} (h0 : -9223372036854775808 ≤ n) (h1 : n < 9223372036854775808) : IntKind.i64.wrap n = n := by
  simp [IntKind.wrap, IntKind.signed, IntKind.bits]; omega
theorem xor_i64_zero (x : Nat) (h : x < 9223372036854775808) : Go.bits .xor .i64 (x : Int) 0 = (x : Int) := by
  have e1 : Go.bits .xor .i64 (x : Int) 0 = IntKind.i64.wrap (((BitVec.ofInt 64 (x : Int)) ^^^ (BitVec.ofInt 64 0)).toNat : Int) := rfl
  have e2 : (BitVec.ofInt 64 0).toNat = 0 := by decide
  rw [e1, BitVec.toNat_xor, e2, Nat.xor_zero, BitVec.toNat_ofInt]
  have h1 : ((x : Int) % ((2 ^ 64 : Nat) : Int)).toNat = x := by omega
  rw [h1]
  exact i64_wrap (by omega) (by omega)
theorem xor_i64_ones (x : Nat) (h : x < 9223372036854775808) : Go.bits .xor .i64 (x : Int) (-1) = -(x : Int) - 1 := by
  have e1 : Go.bits .xor .i64 (x : Int) (-1) = IntKind.i64.wrap (((BitVec.ofInt 64 (x : Int)) ^^^ (BitVec.ofInt 64 (-1))).toNat : Int) := rfl
  have e2 : (BitVec.ofInt 64 (-1)).toNat = 2 ^ 64 - 1 := by decide
  rw [e1, BitVec.toNat_xor, e2, BitVec.toNat_ofInt]
  have h1 : ((x : Int) % ((2 ^ 64 : Nat) : Int)).toNat = x := by omega
  rw [h1, xor_ones x 64 (by omega)]
  have e3 : ((2 ^ 64 - 1 - x : Nat) : Int) = 18446744073709551615 - (x : Int) := by omega
  rw [e3]
  have e4 : IntKind.i64.wrap (18446744073709551615 - (x : Int)) = (18446744073709551615 - (x : Int) + 9223372036854775808) % 18446744073709551616 - 9223372036854775808 := by
    simp [IntKind.wrap, IntKind.signed, IntKind.bits]
    omega
  rw [e4]; omega
theorem and_one (n : Nat) (h : n < 18446744073709551616) : Go.bits .and .u64 (n : Int) 1 = ((n % 2 : Nat) : Int) := by
  have e1 : Go.bits .and .u64 (n : Int) 1 = IntKind.u64.wrap (((BitVec.ofInt 64 (n : Int)) &&& (BitVec.ofInt 64 1)).toNat : Int) := rfl
  have e2 : (BitVec.ofInt 64 1).toNat = 1 := by decide
  rw [e1, BitVec.toNat_and, e2, Nat.and_one_is_mod, BitVec.toNat_ofInt]
  have h1 : ((n : Int) % ((2 ^ 64 : Nat) : Int)).toNat = n := by omega
  rw [h1]
  exact u64_wrap_id (by omega) (by omega)
theorem unzig_f (n : Nat) (h : n < 18446744073709551616) : row_unzig.f (n : Int) = some (uz n) := by
  unfold row_unzig.f uz
  have e0 : (n : Int) / 2 = ((n / 2 : Nat) : Int) := by omega
  rw [and_one n h, e0, wrap64_id (n := ((n / 2 : Nat) : Int)) (by omega) (by omega), wrap64_id (n := ((n % 2 : Nat) : Int)) (by omega) (by omega), wrap64_id (by omega) (by omega)]
  congr 1
  by_cases h2 : n % 2 = 0
  · rw [if_pos h2, h2]
    exact xor_i64_zero _ (by omega)
  · have h3 : n % 2 = 1 := by omega
    rw [if_neg h2, h3]
    exact xor_i64_ones _ (by omega)
theorem Ev.dep {α β : Type} {f : Nat → Option α} {f' : Nat → Option β} {v : α} {b : β} (h : Ev f v) (h2 : ∀ k, f k = some v → f' (k + 1) = some b) : Ev f' b := by
  obtain ⟨k0, h⟩ := h
  refine ⟨k0 + 1, fun k hk => ?_⟩
  obtain ⟨k, rfl⟩ : ∃ q, k = q + 1 := ⟨k - 1, by omega⟩
  exact h2 k (h k (by omega))
theorem Ev.dep2 {α β γ : Type} {f : Nat → Option α} {g : Nat → Option γ} {f' : Nat → Option β} {v : α} {c : γ} {b : β} (h : Ev f v) (hg : Ev g c) (h2 : ∀ k, f k = some v → g k = some c → f' (k + 1) = some b) : Ev f' b := by
  obtain ⟨k0, h⟩ := h
  obtain ⟨k1, hg⟩ := hg
  refine ⟨k0 + k1 + 1, fun k hk => ?_⟩
  obtain ⟨k, rfl⟩ : ∃ q, k = q + 1 := ⟨k - 1, by omega⟩
  exact h2 k (h k (by omega)) (hg k (by omega))
abbrev G6' := Int × Int × Nat × ByteArray × ByteArray × Bool
/-- What the program tells of a value, held against what stands there. -/
def getSpec (c : S105) (o : Option (S50 × List Int)) (r : G6') : Prop :=
  match o with
  | none => r.2.2.2.2.2 = false
  | some (v, R) => if fitB c v = true then r = (v.f0, v.f1, v.f2, v.f3, strOfNums R, true) else r.2.2.2.2.2 = false
theorem fitB_of {c : S105} {v : S50} (h : chkV v = 0) (h0 : v.f0 ≠ 0) (h1 : v.f0 = c.f1) : fitB c v = true := fitB_iff.2 ⟨h, .inr ⟨h0, h1⟩⟩
theorem get_code {c : S105} (hk : 1 ≤ c.f1 ∧ c.f1 ≤ 5) (m : Int) (hm : 0 ≤ m ∧ m ≤ 3) (L : List Int) (hL : Bytes L) (hlen : L.length ≤ 65536) :
    ∃ r, Ev (fun k => row_get.f k c.f0 c.f1 c.f2 c.f3.f0 c.f3.f1 c.f3.f2 c.f3.f3 m (strOfNums L)) r ∧ getSpec c (valR c.f1 m L) r := by
  simp only [row_get.f]
  by_cases h0 : m = 0
  · refine ⟨(0, 0, 0, (⟨#[]⟩ : ByteArray), strOfNums L, c.f2), Ev.pos h0 Ev.pure, ?_⟩
    subst h0
    have hc : chkV ⟨0, 0, 0, (⟨#[]⟩ : ByteArray)⟩ = 0 := chk_plain (.inl rfl) 0 (by decide) (fun _ _ => rfl) (fun _ => rfl)
    have hf : fitB c ⟨0, 0, 0, (⟨#[]⟩ : ByteArray)⟩ = c.f2 := by
      unfold fitB
      rw [decide_eq_true hc]; simp
    have hv : valR c.f1 0 L = some (⟨0, 0, 0, (⟨#[]⟩ : ByteArray)⟩, L) := by simp [valR]
    rw [hv]
    show if fitB c ⟨0, 0, 0, (⟨#[]⟩ : ByteArray)⟩ = true then _ else _
    rw [hf]
    cases hn : c.f2 <;> simp
  -- the kinds, the bits being 1 or 2
  have hj : ∀ b : Bool, (b = true ↔ m > 2 ∨ (m = 2 ∧ c.f1 ≠ 1)) → ∃ r, Ev (fun k => row_get.j0 k m (strOfNums L) b c.f0 c.f1 c.f2 c.f3.f0 c.f3.f1 c.f3.f2 c.f3.f3 c.f1 0 0 (⟨#[]⟩ : ByteArray)) r ∧ getSpec c (valR c.f1 m L) r := by
    intro b hb
    by_cases hbt : b = true
    · have hbm := hb.1 hbt
      refine ⟨(c.f1, 0, 0, (⟨#[]⟩ : ByteArray), (⟨#[]⟩ : ByteArray), false), Ev.from_ 1 fun k => ?_, ?_⟩
      · simp only [row_get.j0]; rw [if_pos hbt]
      · have hv : valR c.f1 m L = none := by
          unfold valR
          rw [if_neg h0, if_neg (by omega), if_pos (by omega)]
        rw [hv]; rfl
    have hbm : ¬ (m > 2 ∨ (m = 2 ∧ c.f1 ≠ 1)) := fun h => hbt (hb.2 h)
    by_cases k1 : c.f1 = 1
    · refine ⟨(c.f1, m - 1, 0, (⟨#[]⟩ : ByteArray), strOfNums L, true), Ev.from_ 1 fun k => ?_, ?_⟩
      · simp only [row_get.j0]
        rw [if_neg hbt, if_pos k1]
        have : (m - 1) % 256 = m - 1 := by omega
        rw [this]
      · have hv : valR c.f1 m L = some (⟨1, m - 1, 0, (⟨#[]⟩ : ByteArray)⟩, L) := by
          unfold valR
          rw [if_neg h0, if_pos ⟨k1, by omega⟩]
        rw [hv]
        have hc : chkV ⟨1, m - 1, 0, (⟨#[]⟩ : ByteArray)⟩ = 0 := chk_plain (.inr (.inl rfl)) 0 (fun _ => (show m - 1 = 0 ∨ m - 1 = 1 by omega)) (fun h => absurd rfl h) (fun _ => rfl)
        show if fitB c ⟨1, m - 1, 0, (⟨#[]⟩ : ByteArray)⟩ = true then _ else _
        rw [if_pos (fitB_of hc (show (1 : Int) ≠ 0 by decide) k1.symm), k1]
    have hm1 : m = 1 := by omega
    have hv0 : valR c.f1 m L = if c.f1 = 3 then (if L.length < 8 then none else some (⟨3, 0, lowN (L.take 8), (⟨#[]⟩ : ByteArray)⟩, L.drop 8))
        else match vr 0 L with
          | none => none
          | some (n, R) => if c.f1 = 2 then some (⟨2, uz n, 0, (⟨#[]⟩ : ByteArray)⟩, R) else if R.length < n then none else some (⟨c.f1, 0, 0, strOfNums (R.take n)⟩, R.drop n) := by
      unfold valR
      rw [if_neg h0, if_neg (fun h => k1 h.1), if_neg (by omega)]
      rfl
    have hvar := varint_ev L hL (by omega)
    by_cases k2 : c.f1 = 2
    · cases hv : vr 0 L with
      | none =>
        rw [hv] at hvar
        have hz : row_unzig.f 0 = some (uz 0) := unzig_f 0 (by decide)
        refine ⟨(c.f1, uz 0, 0, (⟨#[]⟩ : ByteArray), (⟨#[]⟩ : ByteArray), false), ?_, ?_⟩
        · refine Ev.dep hvar fun k hk => ?_
          simp only [row_get.j0]
          rw [if_neg hbt, if_neg k1, if_pos k2, hk]
          simp only [Option.bind_some, hz]
        · rw [hv0, if_neg (by omega), hv]; rfl
      | some p =>
        obtain ⟨n, R⟩ := p
        rw [hv] at hvar
        obtain ⟨_, g2, _, _⟩ := vr_sound 0 L n R hL hv
        have g2' : n < 18446744073709551616 := g2
        refine ⟨(c.f1, uz n, 0, (⟨#[]⟩ : ByteArray), strOfNums R, true), ?_, ?_⟩
        · refine Ev.dep hvar fun k hk => ?_
          simp only [row_get.j0]
          rw [if_neg hbt, if_neg k1, if_pos k2, hk]
          simp only [Option.bind_some, unzig_f n g2']
        · rw [hv0, if_neg (by omega), hv]
          simp only [getSpec]
          rw [if_pos k2]
          have hc : chkV ⟨2, uz n, 0, (⟨#[]⟩ : ByteArray)⟩ = 0 := chk_plain (.inr (.inr (.inl rfl))) 0 (fun h => absurd h (by decide)) (fun _ h => absurd rfl h) (fun _ => rfl)
          simp only
          rw [if_pos (fitB_of hc (show (2 : Int) ≠ 0 by decide) k2.symm), k2]
    by_cases k3 : c.f1 = 3
    · by_cases h8 : L.length < 8
      · refine ⟨(c.f1, 0, 0, (⟨#[]⟩ : ByteArray), (⟨#[]⟩ : ByteArray), false), Ev.from_ 1 fun k => ?_, ?_⟩
        · simp only [row_get.j0, str_size]
          rw [if_neg hbt, if_neg k1, if_neg k2, if_pos k3, if_pos (by omega)]
        · rw [hv0, if_pos k3, if_pos h8]; rfl
      · have hlow := low_ev L hL (by omega)
        refine ⟨(c.f1, 0, lowN (L.take 8), (⟨#[]⟩ : ByteArray), strOfNums (L.drop 8), true), ?_, ?_⟩
        · refine Ev.dep hlow fun k hk => ?_
          simp only [row_get.j0]
          rw [if_neg hbt, if_neg k1, if_neg k2, if_pos k3, if_neg (by rw [str_size]; omega), hk]
          simp only [Option.bind_some]
          rw [if_pos (by rw [str_size]; omega), str_drop]
          rfl
        · rw [hv0, if_pos k3, if_neg h8]
          have hc : chkV ⟨3, 0, lowN (L.take 8), (⟨#[]⟩ : ByteArray)⟩ = 0 := chk_plain (.inr (.inr (.inr rfl))) _ (fun h => absurd h (by decide)) (fun _ _ => rfl) (fun h => absurd rfl h)
          simp only [getSpec]
          rw [if_pos (fitB_of hc (show (3 : Int) ≠ 0 by decide) k3.symm), k3]
    · cases hv : vr 0 L with
      | none =>
        rw [hv] at hvar
        refine ⟨(c.f1, 0, 0, (⟨#[]⟩ : ByteArray), (⟨#[]⟩ : ByteArray), false), ?_, ?_⟩
        · refine Ev.dep hvar fun k hk => ?_
          simp only [row_get.j0]
          rw [if_neg hbt, if_neg k1, if_neg k2, if_neg k3, hk]
          simp only [Option.bind_some]
          rw [if_neg (by decide)]
        · rw [hv0, if_neg k3, hv]; rfl
      | some p =>
        obtain ⟨n, R⟩ := p
        rw [hv] at hvar
        obtain ⟨e1, g2, _, _⟩ := vr_sound 0 L n R hL hv
        have g2' : n < 18446744073709551616 := g2
        have hRl := vr_len 0 L n R hv
        have hws : IntKind.u64.wrap ((strOfNums R).size : Int) = (R.length : Int) := by rw [str_size]; exact u64_wrap_id (by omega) (by omega)
        by_cases hn : R.length < n
        · refine ⟨(c.f1, 0, 0, (⟨#[]⟩ : ByteArray), (⟨#[]⟩ : ByteArray), false), ?_, ?_⟩
          · refine Ev.dep hvar fun k hk => ?_
            simp only [row_get.j0]
            rw [if_neg hbt, if_neg k1, if_neg k2, if_neg k3, hk]
            simp only [Option.bind_some]
            rw [if_pos trivial, hws, if_pos (by omega)]
          · rw [hv0, if_neg k3, hv]
            simp only
            rw [if_neg k2, if_pos hn]; rfl
        · have hx1 : (strOfNums R).extract 0 (((n : Nat) : Int)).toNat = strOfNums (R.take n) := by
            rw [str_take]; simp
          have hx2 : (strOfNums R).extract (((n : Nat) : Int)).toNat (strOfNums R).size = strOfNums (R.drop n) := str_drop R n
          have hts : (strOfNums (R.take n)).size ≤ 65536 := by rw [str_size, List.length_take]; omega
          have hchk : Ev (fun k => value_Check.f k c.f1 0 0 (strOfNums (R.take n))) (chk c.f1 0 0 (strOfNums (R.take n))) := Ev.from_ 6 fun k => check_code k _ _ _ _ (by omega)
          refine ⟨(c.f1, 0, 0, strOfNums (R.take n), strOfNums (R.drop n), (chk c.f1 0 0 (strOfNums (R.take n)) == 0)), ?_, ?_⟩
          · refine Ev.dep2 hvar hchk fun k hk hk2 => ?_
            simp only [row_get.j0]
            rw [if_neg hbt, if_neg k1, if_neg k2, if_neg k3, hk]
            simp only [Option.bind_some]
            rw [if_pos trivial, hws, if_neg (by omega), if_pos (by omega), if_pos (by rw [str_size]; omega), hx1, hx2, hk2]
            rfl
          · rw [hv0, if_neg k3, hv]
            simp only
            rw [if_neg k2, if_neg hn]
            simp only [getSpec]
            by_cases hc : chk c.f1 0 0 (strOfNums (R.take n)) = 0
            · rw [if_pos (fitB_of (v := ⟨c.f1, 0, 0, strOfNums (R.take n)⟩) hc (show c.f1 ≠ 0 by omega) rfl), hc]; rfl
            · rw [if_neg (fun h => hc ((fitB_iff (c := c) (v := ⟨c.f1, 0, 0, strOfNums (R.take n)⟩)).1 h).1)]
              simpa using hc
  by_cases h2 : m > 2
  · obtain ⟨r, hr, hs⟩ := hj true (by simp [h2])
    exact ⟨r, Ev.neg h0 (Ev.pos h2 hr), hs⟩
  by_cases h3 : m = 2
  · obtain ⟨r, hr, hs⟩ := hj (c.f1 != 1) (by simp [h3])
    exact ⟨r, Ev.neg h0 (Ev.neg h2 (Ev.pos h3 hr)), hs⟩
  · obtain ⟨r, hr, hs⟩ := hj false (by simp; omega)
    exact ⟨r, Ev.neg h0 (Ev.neg h2 (Ev.neg h3 hr)), hs⟩
end Go.Proofs.YtpiifdbicibelaaDoor.Pure
end
section
namespace Go.Proofs.YtpiifdbicibelaaDoor.PA
open Go.RowKit Go.Proofs.YtpiifdbicibelaaDoorW.PrintWords Go.Proofs.YtpiifdbicibelaaDoorW.PrintLast Go.Proofs.YtpiifdbicibelaaDoorW.PrintMore
attribute [local go_sem] max2_int min2_int max_two min_two max_three min_three max_four min_four
set_option linter.unusedVariables false
set_option linter.unusedSimpArgs false
end Go.Proofs.YtpiifdbicibelaaDoor.PA
end
section
namespace Go.Proofs.YtpiifdbicibelaaDoor.Pure
open Go.RowKit Go.Proofs Go.Proofs.YtpiifdbicibelaaDoorW.PrintWords Go.Proofs.YtpiifdbicibelaaDoorW.PrintLast Go.Proofs.YtpiifdbicibelaaDoorW.PrintMore Go.Proofs.YtpiifdbicibelaaDoor.PA Go.Proofs.YtpiifdbicibelaaDoor.OpenK
set_option linter.unusedVariables false
set_option linter.unusedSimpArgs false
abbrev R3 := List S50 × ByteArray × Bool
def kindsOf (cs : List S105) : List Int := cs.map fun c => c.f1
def decSpec (cs : List S105) (acc : List S50) (o : Option (List S50 × List Int)) (r : R3) : Prop :=
  match o with
  | none => r.2.2 = false
  | some (vs, R) => if admRow cs vs = 0 then r = (acc ++ vs, strOfNums R, true) else r.2.2 = false
theorem mk_get {H : List Int} {i : Nat} (h : i / 4 < H.length) : mk H i = (H[i / 4] / 4 ^ (i % 4)) % 4 := by
  unfold mk; simp [List.getD, List.getElem?_eq_getElem h]
theorem mark_read {H : List Int} (hH : Bytes H) {i : Nat} (h : i / 4 < H.length) : Go.bits .and .u8 (shr .u8 (bt (strOfNums H) ((i / 4 : Nat) : Int)) ((2 * (i % 4) : Nat) : Int)) 3 = mk H i := by
  rw [str_bt hH (i / 4) h, and3 _ _ (hH _ (List.getElem_mem h)) (Nat.mod_lt _ (by decide)), mk_get h]
theorem rd105_get (cs : List S105) (i : Nat) (h : i < cs.length) : rd_T105 cs (i : Int) = cs[i] := by
  unfold rd_T105; simp [List.getD, List.getElem?_eq_getElem h]
theorem dec_l1 (cs : List S105) (hcs : cs.length ≤ 64) (hk : ∀ c ∈ cs, 1 ≤ c.f1 ∧ c.f1 ≤ 5) (H : List Int) (hH : Bytes H) (hHl : H.length = (cs.length + 3) / 4) : ∀ (m i : Nat) (acc : List S50) (L : List Int), i + m = cs.length → acc.length ≤ i → Bytes L → L.length ≤ 65536 →
    ∃ r, Ev (fun k => row_decode.l1 k (strOfNums L) (strOfNums H) acc cs (cs.length : Int) (i : Int)) r ∧ decSpec (cs.drop i) acc (rowV (kindsOf (cs.drop i)) H i L) r
  | 0, i, acc, L, hm, ha, hL, hlen => by
    refine ⟨(acc, strOfNums L, true), Ev.from_ 1 fun k => ?_, ?_⟩
    · simp only [row_decode.l1]
      rw [if_neg (by omega)]
    · rw [List.drop_of_length_le (by omega)]
      show decSpec [] acc (some ([], L)) _
      simp [decSpec, admRow]
  | m + 1, i, acc, L, hm, ha, hL, hlen => by
    have hlt : i < cs.length := by omega
    have hc := hk _ (List.getElem_mem hlt)
    have hdiv : i / 4 < H.length := by omega
    obtain ⟨rg, g1, g2⟩ := get_code (c := cs[i]) hc (mk H i) (mk_range H i) L hL hlen
    have h1 : True → wrap64 ((i : Int) + 1) = ((i + 1 : Nat) : Int) := fun _ => wrap_one i (by omega)
    have h4 : True → wrap64 (Int.tdiv (i : Int) 4) = ((i / 4 : Nat) : Int) := fun _ => by rw [tdiv4]; exact wrap64_id (by omega) (by omega)
    have h2 : True → wrap64 (2 * (Int.tmod (i : Int) 4)) = ((2 * (i % 4) : Nat) : Int) := fun _ => by rw [tmod4, wrap64_id (by omega) (by omega)]; omega
    have hmr := mark_read hH hdiv
    have hds : cs.drop i = cs[i] :: cs.drop (i + 1) := List.drop_eq_getElem_cons hlt
    have step : ∀ k, row_decode.l1 (k + 1) (strOfNums L) (strOfNums H) acc cs (cs.length : Int) (i : Int) = (row_get.f k cs[i].f0 cs[i].f1 cs[i].f2 cs[i].f3.f0 cs[i].f3.f1 cs[i].f3.f2 cs[i].f3.f3 (mk H i) (strOfNums L)).bind fun bt812 => (if bt812.2.2.2.2.2 = true then (if acc.length < 3518437208883 then (row_decode.l1 k bt812.2.2.2.2.1 (strOfNums H) (acc ++ [(⟨bt812.1, bt812.2.1, bt812.2.2.1, bt812.2.2.2.1⟩ : S50)]) cs (cs.length : Int) ((i + 1 : Nat) : Int)) else (none)) else (some (([] : List (S50)), (⟨#[]⟩ : ByteArray), false))) := by
      intro k
      simp only [row_decode.l1, h1 trivial, h4 trivial, h2 trivial, str_size]
      rw [if_pos (by omega), if_pos (by omega), if_pos (by omega), if_pos (by omega), if_pos (by omega), if_pos (by omega), hmr, rd105_get cs i hlt]
    rw [hds]
    have fails : rg.2.2.2.2.2 = false → Ev (fun k => row_decode.l1 k (strOfNums L) (strOfNums H) acc cs (cs.length : Int) (i : Int)) (([] : List (S50)), (⟨#[]⟩ : ByteArray), false) := fun hf =>
      Ev.step step (Ev.bind g1 (Ev.neg (by rw [hf]; decide) Ev.pure))
    simp only [kindsOf, List.map_cons, rowV]
    cases hv : valR cs[i].f1 (mk H i) L with
    | none =>
      rw [hv] at g2
      exact ⟨_, fails g2, rfl⟩
    | some p =>
      obtain ⟨v, R⟩ := p
      rw [hv] at g2
      simp only [getSpec] at g2
      have hR : Bytes R ∧ R.length ≤ 65536 := by
        obtain ⟨e, _⟩ := valR_sound hc (mk_range H i).1 hL hlen hv
        have := valR_len hv
        rw [e] at hL
        exact ⟨hL.app.2, by omega⟩
      by_cases hf : fitB cs[i] v = true
      · rw [if_pos hf] at g2
        subst g2
        obtain ⟨r, r1, r2⟩ := dec_l1 cs hcs hk H hH hHl m (i + 1) (acc ++ [v]) R (by omega) (by simp; omega) hR.1 hR.2
        refine ⟨r, Ev.step step (Ev.bind g1 (Ev.pos rfl (Ev.pos (by omega) r1))), ?_⟩
        simp only [kindsOf] at r2
        simp only
        cases hw : rowV ((cs.drop (i + 1)).map fun c => c.f1) H (i + 1) R with
        | none => rw [hw] at r2; exact r2
        | some q =>
          obtain ⟨vs, R'⟩ := q
          rw [hw] at r2
          simp only [decSpec] at r2 ⊢
          by_cases ha : admRow (cs.drop (i + 1)) vs = 0
          · rw [if_pos ha] at r2
            rw [if_pos ((admRow_cons _ _ _ _).2 ⟨hf, ha⟩), r2, List.append_assoc]; rfl
          · rw [if_neg ha] at r2
            rw [if_neg (fun h => ha ((admRow_cons _ _ _ _).1 h).2)]
            exact r2
      · rw [if_neg hf] at g2
        refine ⟨_, fails g2, ?_⟩
        simp only
        cases hw : rowV ((cs.drop (i + 1)).map fun c => c.f1) H (i + 1) R with
        | none => rfl
        | some q =>
          obtain ⟨vs, R'⟩ := q
          simp only [decSpec]
          rw [if_neg (fun h => hf ((admRow_cons _ _ _ _).1 h).1)]
          trivial
theorem dec_l0 (cs : List S105) (hcs : cs.length ≤ 64) (H : List Int) (hH : Bytes H) (hHl : H.length = (cs.length + 3) / 4) (L : List Int) (r : R3) (hr : Ev (fun k => row_decode.l1 k (strOfNums L) (strOfNums H) [] cs (cs.length : Int) 0) r) : ∀ (m i : Nat), i + m = 4 * ((cs.length + 3) / 4) →
    Ev (fun k => row_decode.l0 k cs (strOfNums L) (((cs.length + 3) / 4 : Nat) : Int) (strOfNums H) (i : Int)) (if padOk H i m = true then r else (([] : List (S50)), (⟨#[]⟩ : ByteArray), false))
  | 0, i, hm => by
    rw [if_pos (show padOk H i 0 = true from rfl)]
    refine Ev.step (fun k => ?_) hr
    have h4 : True → wrap64 (4 * (((cs.length + 3) / 4 : Nat) : Int)) = ((4 * ((cs.length + 3) / 4) : Nat) : Int) := fun _ => by rw [wrap64_id (by omega) (by omega)]; omega
    simp only [row_decode.l0, h4 trivial]
    rw [if_neg (by omega)]
  | m + 1, i, hm => by
    have hdiv : i / 4 < H.length := by omega
    have h0 : True → wrap64 (4 * (((cs.length + 3) / 4 : Nat) : Int)) = ((4 * ((cs.length + 3) / 4) : Nat) : Int) := fun _ => by rw [wrap64_id (by omega) (by omega)]; omega
    have h1 : True → wrap64 ((i : Int) + 1) = ((i + 1 : Nat) : Int) := fun _ => wrap_one i (by omega)
    have h4 : True → wrap64 (Int.tdiv (i : Int) 4) = ((i / 4 : Nat) : Int) := fun _ => by rw [tdiv4]; exact wrap64_id (by omega) (by omega)
    have h2 : True → wrap64 (2 * (Int.tmod (i : Int) 4)) = ((2 * (i % 4) : Nat) : Int) := fun _ => by rw [tmod4, wrap64_id (by omega) (by omega)]; omega
    have hmr := mark_read hH hdiv
    refine Ev.step (g := fun k => if mk H i = 0 then row_decode.l0 k cs (strOfNums L) (((cs.length + 3) / 4 : Nat) : Int) (strOfNums H) ((i + 1 : Nat) : Int) else some (([] : List (S50)), (⟨#[]⟩ : ByteArray), false)) (fun k => ?_) ?_
    · simp only [row_decode.l0, h0 trivial, h1 trivial, h4 trivial, h2 trivial, str_size]
      rw [if_pos (by omega), if_pos (by omega), if_pos (by omega), if_pos (by omega), hmr]
    · have ih := dec_l0 cs hcs H hH hHl L r hr m (i + 1) (by omega)
      by_cases hz : mk H i = 0
      · refine Ev.pos hz ?_
        have e : padOk H i (m + 1) = padOk H (i + 1) m := by
          show (mk H i == 0 && padOk H (i + 1) m) = _
          rw [hz]; rfl
        rw [e]; exact ih
      · refine Ev.neg hz ?_
        have hz2 : (mk H i == 0) = false := by simpa using hz
        have e : padOk H i (m + 1) = false := by
          show (mk H i == 0 && padOk H (i + 1) m) = _
          rw [hz2]; rfl
        rw [if_neg (by rw [e]; decide)]; exact Ev.pure
theorem decode_ev4 (cs : List S105) (hcs : cs.length ≤ 64) (hk : ∀ c ∈ cs, 1 ≤ c.f1 ∧ c.f1 ≤ 5) (L : List Int) (hL : Bytes L) (hlen : L.length ≤ 65536) :
    ∃ r, Ev (fun k => row_decode.f k cs (strOfNums L)) r ∧ decSpec cs [] (rowR (kindsOf cs) L) r := by
  have e1 : wrap64 (Int.tdiv (wrap64 ((wrap64 (2 * (cs.length : Int))) + 7)) 8) = (((cs.length + 3) / 4 : Nat) : Int) := by
    rw [wrap64_id (n := 2 * (cs.length : Int)) (by omega) (by omega), wrap64_id (n := 2 * (cs.length : Int) + 7) (by omega) (by omega)]
    have e : Int.tdiv (2 * (cs.length : Int) + 7) 8 = (((2 * cs.length + 7) / 8 : Nat) : Int) := rfl
    rw [e, wrap64_id (by omega) (by omega)]; omega
  have hkl : (kindsOf cs).length = cs.length := by simp [kindsOf]
  simp only [row_decode.f, e1, str_size, rowR, hkl]
  by_cases hn : L.length < (cs.length + 3) / 4
  · rw [if_pos hn]
    exact ⟨_, Ev.pos (by omega) Ev.pure, rfl⟩
  · rw [if_neg hn]
    have hH : Bytes (L.take ((cs.length + 3) / 4)) := hL.take _
    have hHl : (L.take ((cs.length + 3) / 4)).length = (cs.length + 3) / 4 := by rw [List.length_take]; omega
    have hD : Bytes (L.drop ((cs.length + 3) / 4)) := hL.drop _
    have x1 : (strOfNums L).extract ((((cs.length + 3) / 4 : Nat) : Int)).toNat L.length = strOfNums (L.drop ((cs.length + 3) / 4)) := str_drop' L _
    have x2 : (strOfNums L).extract 0 ((((cs.length + 3) / 4 : Nat) : Int)).toNat = strOfNums (L.take ((cs.length + 3) / 4)) := by
      rw [str_take, Int.toNat_natCast]; rfl
    obtain ⟨r, r1, r2⟩ := dec_l1 cs hcs hk _ hH hHl cs.length 0 [] _ (by omega) (by simp) hD (by rw [List.length_drop]; omega)
    have h0 := dec_l0 cs hcs _ hH hHl _ r r1 (4 * ((cs.length + 3) / 4) - cs.length) cs.length (by omega)
    refine ⟨_, Ev.neg (by omega) (Ev.pos (by omega) (Ev.pos (by omega) (by rw [x1, x2]; exact h0))), ?_⟩
    by_cases hp : padOk (L.take ((cs.length + 3) / 4)) cs.length (4 * ((cs.length + 3) / 4) - cs.length) = true
    · rw [if_pos hp, if_pos hp]
      simpa using r2
    · rw [if_neg hp, if_neg hp]; rfl
theorem str_empty {R : List Int} : (strOfNums R).toList = ([] : List UInt8) ↔ R = [] := by
  rw [Lib.toList_data, strOfNums_data]
  simp [toB]
theorem sameL_self : ∀ xs : List S50, sameL xs xs = true
  | [] => rfl
  | x :: xs => by simp [sameL, sameL_self xs, smB_iff.2 rfl]
theorem vb_bytes : ∀ (q n : Nat), n ≤ q → Bytes (vb n)
  | 0, n, h => by
    rw [vb.eq_1, dif_neg (by omega)]
    intro x hx
    rw [List.mem_singleton] at hx; subst hx; omega
  | q + 1, n, h => by
    rw [vb.eq_1]
    by_cases hn : 128 ≤ n
    · rw [dif_pos hn]
      have ih := vb_bytes q (n / 128) (by omega)
      intro x hx
      rcases List.mem_cons.1 hx with rfl | hx
      · omega
      · exact ih x hx
    · rw [dif_neg hn]
      intro x hx
      rw [List.mem_singleton] at hx; subst hx; omega
theorem lowB_bytes (n : Int) (i m : Nat) : Bytes (lowB n i m) := by
  intro x hx
  unfold lowB at hx
  obtain ⟨j, _, rfl⟩ := List.mem_map.1 hx
  omega
theorem toldB_bytes (v : S50) : Bytes (toldB v) := by
  unfold toldB
  split
  · exact vb_bytes _ _ (Nat.le_refl _)
  split
  · exact lowB_bytes _ _ _
  split
  · intro x hx
    rcases List.mem_append.1 hx with h | h
    · exact vb_bytes _ _ (Nat.le_refl _) x h
    · exact bytesOf_bytes _ x h
  · intro x hx; cases hx
theorem rowB_bytes (vs : List S50) : Bytes (rowB vs) := by
  have hs := setM_spec vs 0 (List.replicate ((vs.length + 3) / 4) 0) (fun x hx => by rw [List.eq_of_mem_replicate hx]; decide) (by simp; omega) (fun j _ _ => mk_zero _ _)
  unfold rowB
  intro x hx
  rcases List.mem_append.1 hx with h | h
  · exact hs.1 x h
  · obtain ⟨v, _, hv⟩ := List.mem_flatMap.1 h
    exact toldB_bytes v x hv
theorem kinds_ok {a : ByteArray} {c : List S105} {d : List Int} {e : List S115} {f : List S139} (h : checkT a c d e f = 0) : ∀ x ∈ c, 1 ≤ x.f1 ∧ x.f1 ≤ 5 := fun x hx => checkT_kind h _ (List.mem_map.2 ⟨x, hx, rfl⟩)
end Go.Proofs.YtpiifdbicibelaaDoor.Pure
end
section
namespace Go.Proofs.YtpiifdbicibelaaDoor.PA
open Go.RowKit Go.Proofs.YtpiifdbicibelaaDoorW.PrintWords Go.Proofs.YtpiifdbicibelaaDoorW.PrintLast Go.Proofs.YtpiifdbicibelaaDoorW.PrintMore
attribute [local go_sem] max2_int min2_int max_two min_two max_three min_three max_four min_four
set_option linter.unusedVariables false
set_option linter.unusedSimpArgs false
mutual
def row_Apply.l0 : Nat → List (S50) → ByteArray → List (S50) → Int → ByteArray → List (S105) → List Int → List (S115) → List (S139) → Option ((List (S50)) × Int)
  | 0, _, _, _, _, _, _, _, _, _ => none
  | k + 1, x1, x2, x9, x10, x882000, x882001, x882002, x882003, x882004 => if x2.toList = ([] : List UInt8) then (some (x9, 0)) else ((row_varint.f k x2).bind fun bt889 => (if bt889.2.2 = true then (row_Apply.j1 k x1 x9 x10 bt889.1 bt889.2.1 (decide (bt889.1 ≥ (IntKind.u64.wrap (wrap64 ((x1.length : Int) - x10))))) x882000 x882001 x882002 x882003 x882004) else (row_Apply.j1 k x1 x9 x10 bt889.1 bt889.2.1 true x882000 x882001 x882002 x882003 x882004)))
def row_Apply.j1 : Nat → List (S50) → List (S50) → Int → Int → ByteArray → Bool → ByteArray → List (S105) → List Int → List (S115) → List (S139) → Option ((List (S50)) × Int)
  | 0, _, _, _, _, _, _, _, _, _, _, _ => none
  | k + 1, x1, x9, x10, x11, x12, x46, x882000, x882001, x882002, x882003, x882004 => if x46 = true then (some (([] : List (S50)), 41)) else (if 0 ≤ (wrap64 (x10 + (wrap64 (x11)))) then (if (wrap64 (x10 + (wrap64 (x11)))) ≤ (wrap64 ((wrap64 (x10 + (wrap64 (x11)))) + 1)) then (if (wrap64 ((wrap64 (x10 + (wrap64 (x11)))) + 1)) ≤ (x882001.length : Int) then ((row_decode.f k ((x882001.take ((wrap64 ((wrap64 (x10 + (wrap64 (x11)))) + 1)) : Int).toNat).drop ((wrap64 (x10 + (wrap64 (x11)))) : Int).toNat) x12).bind fun bt896 => (if bt896.2.2 = true then (if 0 < (bt896.1.length : Int) then (if (wrap64 (x10 + (wrap64 (x11)))) < (x1.length : Int) then ((row_same.f ((rd_T50 bt896.1 0).f0) ((rd_T50 bt896.1 0).f1) ((rd_T50 bt896.1 0).f2) ((rd_T50 bt896.1 0).f3) ((rd_T50 x1 (wrap64 (x10 + (wrap64 (x11))))).f0) ((rd_T50 x1 (wrap64 (x10 + (wrap64 (x11))))).f1) ((rd_T50 x1 (wrap64 (x10 + (wrap64 (x11))))).f2) ((rd_T50 x1 (wrap64 (x10 + (wrap64 (x11))))).f3)).bind fun t903 => (if t903 = true then (some (([] : List (S50)), 41)) else (if (wrap64 (x10 + (wrap64 (x11)))) < (x9.length : Int) then (row_Apply.l0 k x1 bt896.2.1 (x9.set ((wrap64 (x10 + (wrap64 (x11)))) : Int).toNat (⟨(rd_T50 bt896.1 0).f0, (rd_T50 bt896.1 0).f1, (rd_T50 bt896.1 0).f2, (rd_T50 bt896.1 0).f3⟩ : S50)) (wrap64 ((wrap64 (x10 + (wrap64 (x11)))) + 1)) x882000 x882001 x882002 x882003 x882004) else (none)))) else (none)) else (none)) else (some (([] : List (S50)), 41)))) else (none)) else (none)) else (none))
end
def row_Apply.f (k : Nat) (a0_0 : ByteArray) (l0_1 : List (S105)) (l0_2 : List Int) (l0_3 : List (S115)) (l0_4 : List (S139)) (l1 : List (S50)) (a2 : ByteArray) : Option ((List (S50)) × Int) := (schema_Admits.f a0_0 l0_1 l0_2 l0_3 l0_4 l1).bind fun t882 => (if t882 = 0 then (if (a2.size : Int) > 65536 then (some (([] : List (S50)), 3)) else ((some (([] : List (S50)) : List (S50))).bind fun y883 => (if y883.length + l1.length < 3518437208883 then (row_Apply.l0 k l1 a2 (y883 ++ l1) 0 a0_0 l0_1 l0_2 l0_3 l0_4) else (none)))) else (some (([] : List (S50)), t882)))
def row_Apply.T14 : Bool × List (List Nat × List Nat) := (true, [([], []), ([0], [0]), ([1], [1]), ([2], [2]), ([3, 2], [2, 3]), ([4, 2], [2, 4]), ([2], [2]), ([2], [2]), ([6, 7, 2], [2, 6, 7]), ([8, 2], [2, 8]), ([5, 9, 2, 2], [2, 5, 9]), ([2, 10], [2, 10])])
def row_Apply.B14 : List Nat := [0, 1, 3, 7, 15, 31, 7, 7, 199, 455, 1023, 2047]
theorem row_Apply.tab14 : rtab .any (opsOf Tryd.f60 14) = row_Apply.T14 := by kernel_rfl
theorem row_Apply.bits14 : waitsOk row_Apply.T14.2 row_Apply.B14 = true := by kernel_rfl
set_option maxHeartbeats 8000000 in
set_option maxRecDepth 100000 in
theorem row_Apply.calls (k : Nat) (a0_0 : ByteArray) (A0_1 : Option Addr) (c0_1 : Nat) (l0_1 : List (S105)) (A0_2 : Option Addr) (c0_2 : Nat) (l0_2 : List Int) (A0_3 : Option Addr) (c0_3 : Nat) (l0_3 : List (S115)) (A0_4 : Option Addr) (c0_4 : Nat) (l0_4 : List (S139)) (A1 : Option Addr) (c1 : Nat) (l1 : List (S50)) (a2 : ByteArray) (r1 : List (S50)) (r2 : Int) (w : World) (hr0_1 : Kd.C k105 w A0_1 l0_1.length l0_1) (hc0_1 : l0_1.length ≤ c0_1) (hr0_2 : Kd.C (Kd.int .i64) w A0_2 l0_2.length l0_2) (hc0_2 : l0_2.length ≤ c0_2) (hr0_3 : Kd.C k115 w A0_3 l0_3.length l0_3) (hc0_3 : l0_3.length ≤ c0_3) (hr0_4 : Kd.C k139 w A0_4 l0_4.length l0_4) (hc0_4 : l0_4.length ≤ c0_4) (hr1 : Kd.C k50 w A1 l1.length l1) (hc1 : l1.length ≤ c1) (hG : Glob w) (h : row_Apply.f k a0_0 l0_1 l0_2 l0_3 l0_4 l1 a2 = some (r1, r2)) :
    Calls Tryd.prog 60 #[.agg #[.string a0_0, .slice A0_1 l0_1.length c0_1, .slice A0_2 l0_2.length c0_2, .slice A0_3 l0_3.length c0_3, .slice A0_4 l0_4.length c0_4], .slice A1 l1.length c1, .string a2] w fun e w' => ∃ v0_ : Value, e = .returned (.tuple #[v0_, .int .i64 r2]) ∧ Kd.R k50 50 w' w.heap.size (fun _ => True) v0_ r1 ∧ Below w.heap.size w w' := by
  have hu65 := Tryd.underlying65
  have hu50 := Tryd.underlying50
  have HR0_1 := am hr0_1
  have HC0_1 := am hc0_1
  clear hr0_1 hc0_1
  have HR0_2 := am hr0_2
  have HC0_2 := am hc0_2
  clear hr0_2 hc0_2
  have HR0_3 := am hr0_3
  have HC0_3 := am hc0_3
  clear hr0_3 hc0_3
  have HR0_4 := am hr0_4
  have HC0_4 := am hc0_4
  clear hr0_4 hc0_4
  have HR1 := am hr1
  have HC1 := am hc1
  clear hr1 hc1
  have HG := am hG
  clear hG
  have HB := am (Below.refl w.heap.size w)
  have H : ((schema_Admits.f a0_0 l0_1 l0_2 l0_3 l0_4 l1).bind fun t882 => (if t882 = 0 then (if (a2.size : Int) > 65536 then (some (([] : List (S50)), 3)) else ((some (([] : List (S50)) : List (S50))).bind fun y883 => (if y883.length + l1.length < 3518437208883 then (row_Apply.l0 k l1 a2 (y883 ++ l1) 0 a0_0 l0_1 l0_2 l0_3 l0_4) else (none)))) else (some (([] : List (S50)), t882)))) = some (r1, r2) := h
  clear h
  replace H := Option.bind_eq_some_iff.mp H
  obtain ⟨t882, A40, H⟩ := H
  replace H : (if t882 = 0 then (if (a2.size : Int) > 65536 then (some (([] : List (S50)), 3)) else ((some (([] : List (S50)) : List (S50))).bind fun y883 => (if y883.length + l1.length < 3518437208883 then (row_Apply.l0 k l1 a2 (y883 ++ l1) 0 a0_0 l0_1 l0_2 l0_3 l0_4) else (none)))) else (some (([] : List (S50)), t882))) = some (r1, r2) := H
  have A4 := am A40
  clear A40
  by_cases c5 : t882 = 0
  · rw [if_pos c5] at H
    have c5b0 : (t882 == 0) = true := beq_iff_eq.mpr c5
    have c5b1 : (t882 != 0) = false := bne_eq_false_iff_eq.mpr c5
    clear c5
    by_cases c6 : (a2.size : Int) > 65536
    · rw [if_pos c6] at H
      have c6b0 : decide (65536 < (a2.size : Int)) = true := decide_eq_true c6
      have c6b1 : decide (65536 < a2.size) = true := decide_eq_true (by omega)
      clear c6
      simp only [Option.some.injEq, Prod.mk.injEq] at H
      obtain ⟨rfl, rfl⟩ := H
      go_enter Tryd.func60, Tryd.ntmps60
      go_wp2_with (first | ((with_reducible refine gate_dst (N := 3) rfl ?_); (try (refine gate_guard (by rfl) ?_; dsimp only)); refine box_event rfl (N := 3) rfl (cs := #[.string a0_0, .slice A0_1 l0_1.length c0_1, .slice A0_2 l0_2.length c0_2, .slice A0_3 l0_3.length c0_3, .slice A0_4 l0_4.length c0_4]) (t := 65) gs ?_; intro gb881 hg w7 hbox hb; have BK881 := am (hbox); have GW881 := gw hg HB; have GE881 := gw hg HB; replace HB := sb HB hb; clear hb hbox hg; obtain ⟨Z8_0, Z8_1, Z8_2, Z8_3, Z8_4, Y8_0, Y8_1, Y8_2, Y8_3, Y8_4⟩ := bq5 BK881) | ((with_reducible refine gate_callee (f := 83) rfl ?_); refine goesL_ (some 18) rfl rfl Tryd.func83 (by kernel_rfl) rfl #[.agg #[.string a0_0, .slice A0_1 l0_1.length c0_1, .slice A0_2 l0_2.length c0_2, .slice A0_3 l0_3.length c0_3, .slice A0_4 l0_4.length c0_4], .slice A1 l1.length c1] rfl ar ?_; (with_reducible refine (schema_Admits.calls a0_0 _ _ l0_1 _ _ l0_2 _ _ l0_3 _ _ l0_4 _ _ l1 t882 _ (Kd.cb HR0_1 HB) HC0_1.out (Kd.cb HR0_2 HB) HC0_2.out (Kd.cb HR0_3 HB) HC0_3.out (Kd.cb HR0_4 HB) HC0_4.out (Kd.cb HR1 HB) HC1.out (Glob.below HG.out (bl HB)) A4.out).mono ?_); rintro e w9 ⟨rfl, hb⟩; refine ⟨_, rfl, ?_⟩; replace BK881 := kb BK881 hb; replace HB := sb HB hb; (try clear hb); (try clear hb2 hk hi)))
      go_ret2
      exact ⟨_, er, by first | exact Kd.R_nil _ _ _ _ _ | exact Kd.N_nil _ _ _ _ _ | exact Kd.V_nil _ _ _ _ _ | exact Kd.Q_nil _ _ _ _ _ | exact Kd.S_nil _ _ _ _ _, bl HB⟩
    · rw [if_neg c6] at H
      have c6b0 : decide (65536 < (a2.size : Int)) = false := decide_eq_false c6
      have c6b1 : decide (65536 < a2.size) = false := decide_eq_false (by omega)
      clear c6
      obtain ⟨y883, hy883⟩ : ∃ y_ : List (S50), y_ = (([] : List (S50))) := ⟨_, rfl⟩
      replace H : (if y883.length + l1.length < 3518437208883 then (row_Apply.l0 k l1 a2 (y883 ++ l1) 0 a0_0 l0_1 l0_2 l0_3 l0_4) else (none)) = some (r1, r2) := by first | (rw [hy883]; with_reducible exact H) | (have H2_ := (Option.bind_some _ _).symm.trans H; rw [hy883]; with_reducible exact H2_) | (have H2_ := (Option.bind_some _ _).symm.trans H; with_reducible exact H2_) | with_reducible exact H | (rw [hy883]; exact H) | exact H
      have Ny883 := am hy883
      clear hy883
      by_cases c10 : y883.length + l1.length < 3518437208883
      · rw [if_pos c10] at H
        have LMc10 := am c10
        clear c10
        obtain ⟨y886, hy886⟩ : ∃ y_ : List (S50), y_ = (y883 ++ l1) := ⟨_, rfl⟩
        replace H : (row_Apply.l0 k l1 a2 y886 0 a0_0 l0_1 l0_2 l0_3 l0_4) = some (r1, r2) := by first | (rw [hy886]; with_reducible exact H) | (have H2_ := (Option.bind_some _ _).symm.trans H; rw [hy886]; with_reducible exact H2_) | (have H2_ := (Option.bind_some _ _).symm.trans H; with_reducible exact H2_) | with_reducible exact H | (rw [hy886]; exact H) | exact H
        have Ny886 := am hy886
        clear hy886
        have H' := am H
        clear H
        go_enter Tryd.func60, Tryd.ntmps60
        go_wp2_with (first | ((with_reducible refine gate_dst (N := 3) rfl ?_); (try (refine gate_guard (by rfl) ?_; dsimp only)); refine box_event rfl (N := 3) rfl (cs := #[.string a0_0, .slice A0_1 l0_1.length c0_1, .slice A0_2 l0_2.length c0_2, .slice A0_3 l0_3.length c0_3, .slice A0_4 l0_4.length c0_4]) (t := 65) gs ?_; intro gb881 hg w11 hbox hb; have BK881 := am (hbox); have GW881 := gw hg HB; have GE881 := gw hg HB; replace HB := sb HB hb; clear hb hbox hg; obtain ⟨Z12_0, Z12_1, Z12_2, Z12_3, Z12_4, Y12_0, Y12_1, Y12_2, Y12_3, Y12_4⟩ := bq5 BK881) | ((with_reducible refine gate_callee (f := 83) rfl ?_); refine goesL_ (some 18) rfl rfl Tryd.func83 (by kernel_rfl) rfl #[.agg #[.string a0_0, .slice A0_1 l0_1.length c0_1, .slice A0_2 l0_2.length c0_2, .slice A0_3 l0_3.length c0_3, .slice A0_4 l0_4.length c0_4], .slice A1 l1.length c1] rfl ar ?_; (with_reducible refine (schema_Admits.calls a0_0 _ _ l0_1 _ _ l0_2 _ _ l0_3 _ _ l0_4 _ _ l1 t882 _ (Kd.cb HR0_1 HB) HC0_1.out (Kd.cb HR0_2 HB) HC0_2.out (Kd.cb HR0_3 HB) HC0_3.out (Kd.cb HR0_4 HB) HC0_4.out (Kd.cb HR1 HB) HC1.out (Glob.below HG.out (bl HB)) A4.out).mono ?_); rintro e w13 ⟨rfl, hb⟩; refine ⟨_, rfl, ?_⟩; replace BK881 := kb BK881 hb; replace HB := sb HB hb; (try clear hb); (try clear hb2 hk hi)) | ((with_reducible refine gate_dst (N := 25) rfl ?_); (try (refine gate_guard (by rfl) ?_; dsimp only)); refine Kd.R_lit k50 _ 50 ?hg (N := 25) ?hd (xs := ([] : List (S50))) (inner := []) (ok := fun _ => True) (okp := fun _ => True) ?hr ?hp (fun _ hk => hk) trivial (Below.refl _ _) (Nat.le_refl _) (by simp) ?_; (case hd => rfl); (case hg => rfl); (case hr => first | (go_simp; done) | (go_simp; rfl)); (case hp => exact (Reps.none _ _)); intro v884 w14 ho15 hb hg_ hnew_; clear hg_ hnew_; (first | rw [← Ny883.out] at ho15 | (simp only [Int.reduceToNat] at ho15; rw [← Ny883.out] at ho15)); have n0_ := am (Kd.R_lower ho15 (below_size (bl HB))); have n1_ := kb BK881 hb; have n2_ := sb HB hb; clear BK881; clear HB; have HO885 := n0_; have BK881 := n1_; have HB := n2_; clear n0_ n1_ n2_; clear hb ho15) | ((with_reducible refine gate_builtin (b := .append) (xs := #[.tmp 25, .tmp 26]) rfl ?_); (try (refine gate_guard (by rfl) ?_; dsimp only)); at_builtin; refine Kd.R_append_rows k50 (w0 := w) w.heap.size rfl (.tmp 25) (.tmp 26) 22 50 (.agg #[(.int .i64 0), (.int .i64 0), (.float .f64 0), (.string ⟨#[]⟩)]) 40 rfl Tryd.underlying22 info50 rfl (by decide) (by omega) v884 y883 l1 _ _ _ (fun _ => True) (fun _ => False) rfl rfl ?aO ?aR (fun _ _ h => h) (fun _ h => h.elim) ?aF ?aB ?aS ?aL ?_; (case aR => exact Kd.cb HR1 HB); (case aB => exact (bl HB)); (case aF => exact (fun _ _ => trivial)); (case aO => exact (Kd.rr HO885.out)); (case aS => exact (below_size (bl HB))); (case aL => have := LMc10.out; omega); intro v887 w16 ho hb hg hat; rw [← Ny886.out] at ho; have n0_ := am (blk_grown (g := gb881) (o := .cells #[.string a0_0, .slice A0_1 l0_1.length c0_1, .slice A0_2 l0_2.length c0_2, .slice A0_3 l0_3.length c0_3, .slice A0_4 l0_4.length c0_4] 65 (0, 0)) (bk BK881) hg (Kd.R_ne HO885.out BK881.out (by decide))); have n1_ := am (hb); have n2_ := am (ho); clear BK881; clear HB; clear HO885; have BK881 := n0_; have HB := n1_; have HO888 := n2_; clear n0_ n1_ n2_; clear ho hb hg hat))
        go_loopg [2, 10] k (fun kq v2 v10 w' => ∃ (x2_1 : ByteArray) (x9_1 : List (S50)) (x10_1 : Int), v2 = .string x2_1 ∧ v10 = .int .i64 x10_1 ∧ Aside0 (row_Apply.l0 kq l1 x2_1 x9_1 x10_1 a0_0 l0_1 l0_2 l0_3 l0_4 = some (r1, r2)) ∧ Aside0 (kq ≤ k) ∧ Aside0 (Kd.R k50 50 w' w.heap.size (fun _ => True) v887 x9_1) ∧ Aside0 (w'.heap[gb881]? = some (.cells #[.string a0_0, (.slice A0_1 l0_1.length c0_1), (.slice A0_2 l0_2.length c0_2), (.slice A0_3 l0_3.length c0_3), (.slice A0_4 l0_4.length c0_4)] 65 (0, 0))) ∧ Aside0 (Below w.heap.size w w'))
        case atStart => exact ⟨(a2), (y886), (0), eb, eb, H', ⟨Nat.le_refl _⟩, ⟨Kd.rr HO888.out⟩, ⟨bk BK881⟩, ⟨bl HB⟩⟩
        case round =>
          clear H'
          try clear c1
          try clear p2
          try clear c5
          try clear c5b0
          try clear c5b1
          try clear c6
          try clear c6b0
          try clear c6b1
          try clear c8
          try clear c10
          try clear Z12_0
          try clear Z12_1
          try clear Z12_2
          try clear Z12_3
          try clear Z12_4
          try clear Z8_0
          try clear Z8_1
          try clear Z8_2
          try clear Z8_3
          try clear Z8_4
          try clear Y12_0
          try clear Y12_1
          try clear Y12_2
          try clear Y12_3
          try clear Y12_4
          try clear Y8_0
          try clear Y8_1
          try clear Y8_2
          try clear Y8_3
          try clear Y8_4
          obtain ⟨x2_1, x9_1, x10_1, rfl, rfl, HA, HK1, HO_9, BK881, HB⟩ := hrel
          cases gk with
          | zero => exact absurd HA.out (by simp [row_Apply.l0])
          | succ k1 =>
            have H := HA.out
            clear HA
            simp only [row_Apply.l0] at H
            by_cases c17 : x2_1.toList = ([] : List UInt8)
            · rw [if_pos c17] at H
              have c17b0 : (x2_1.toList == ([] : List UInt8)) = true := beq_iff_eq.mpr c17
              have c17b1 : (x2_1.toList != ([] : List UInt8)) = false := bne_eq_false_iff_eq.mpr c17
              clear c17
              simp only [Option.some.injEq, Prod.mk.injEq] at H
              obtain ⟨rfl, rfl⟩ := H
              go_wp2
              go_ret2
              exact ⟨_, er, Kd.rr HO_9.out, bl HB⟩
            · rw [if_neg c17] at H
              have c17b0 : (x2_1.toList == ([] : List UInt8)) = false := beq_eq_false_iff_ne.mpr c17
              have c17b1 : (x2_1.toList != ([] : List UInt8)) = true := bne_iff_ne.mpr c17
              replace H := Option.bind_eq_some_iff.mp H
              obtain ⟨⟨t889, t890, t891⟩, A180, H⟩ := H
              replace H : (if t891 = true then (row_Apply.j1 k1 l1 x9_1 x10_1 t889 t890 (decide (t889 ≥ (IntKind.u64.wrap (wrap64 ((l1.length : Int) - x10_1))))) a0_0 l0_1 l0_2 l0_3 l0_4) else (row_Apply.j1 k1 l1 x9_1 x10_1 t889 t890 true a0_0 l0_1 l0_2 l0_3 l0_4)) = some (r1, r2) := H
              have A18 := am A180
              clear A180
              have HC19 := am H
              clear H
              go_upto_region 10 with (first | ((with_reducible refine gate_callee (f := 95) rfl ?_); refine goesL_ (some 32) rfl rfl Tryd.func95 (by kernel_rfl) rfl #[.string x2_1] rfl ar ?_; (with_reducible refine (row_varint.calls k1 x2_1 t889 t890 t891 _ A18.out).mono ?_); rintro e w20 ⟨rfl, hb⟩; refine ⟨_, rfl, ?_⟩; have n0_ := am (Kd.R_below (Kd.rr HO_9.out) hb); have n1_ := kb BK881 hb; have n2_ := sb HB hb; clear HO_9; clear BK881; clear HB; have HO_9 := n0_; have BK881 := n1_; have HB := n2_; clear n0_ n1_ n2_; (try clear hb); (try clear hb2 hk hi)))
              (try simp only [Act.put, List.setIfInBounds_toArray, List.set_cons_zero, List.set_cons_succ])
              go_cut [46] (fun v46 wc => ∃ (kq : Nat) (x46_18 : Bool), v46 = .bool x46_18 ∧ Aside0 (row_Apply.j1 kq l1 x9_1 x10_1 t889 t890 x46_18 a0_0 l0_1 l0_2 l0_3 l0_4 = some (r1, r2)) ∧ Aside0 (kq ≤ k1) ∧ Aside0 (Kd.R k50 50 wc w.heap.size (fun _ => True) v887 x9_1) ∧ Aside0 (wc.heap[gb881]? = some (.cells #[.string a0_0, (.slice A0_1 l0_1.length c0_1), (.slice A0_2 l0_2.length c0_2), (.slice A0_3 l0_3.length c0_3), (.slice A0_4 l0_4.length c0_4)] 65 (0, 0))) ∧ Aside0 (Below w.heap.size w wc))
              case first =>
                have H := HC19.out
                clear HC19
                by_cases c21 : t891 = true
                · subst c21
                  have H1 : (row_Apply.j1 k1 l1 x9_1 x10_1 t889 t890 (decide (t889 ≥ (IntKind.u64.wrap (wrap64 ((l1.length : Int) - x10_1))))) a0_0 l0_1 l0_2 l0_3 l0_4) = some (r1, r2) := by rw [if_pos rfl] at H; exact H
                  clear H
                  have H := H1
                  clear H1
                  have H' := am H
                  clear H
                  go_wp2
                  go_meet
                  case rel => exact ⟨_, (decide (t889 ≥ (IntKind.u64.wrap (wrap64 ((l1.length : Int) - x10_1))))), eb, H', ⟨by have := HK1.out; first | omega | exact Nat.le_refl _⟩, ⟨Kd.rr HO_9.out⟩, ⟨bk BK881⟩, ⟨bl HB⟩⟩
                · replace c21 := Bool.eq_false_iff.mpr c21
                  subst c21
                  have H1 : (row_Apply.j1 k1 l1 x9_1 x10_1 t889 t890 true a0_0 l0_1 l0_2 l0_3 l0_4) = some (r1, r2) := by rw [if_neg (show ¬ (false = true) by decide)] at H; exact H
                  clear H
                  have H := H1
                  clear H1
                  have H' := am H
                  clear H
                  go_wp2
                  go_meet
                  case rel => exact ⟨_, (true), eb, H', ⟨by have := HK1.out; first | omega | exact Nat.le_refl _⟩, ⟨Kd.rr HO_9.out⟩, ⟨bk BK881⟩, ⟨bl HB⟩⟩
              case rest =>
                clear HC19
                try clear c1
                try clear c2
                try clear p2
                try clear c5
                try clear c5b0
                try clear c5b1
                try clear c6
                try clear c6b0
                try clear c6b1
                try clear p6
                try clear c8
                try clear c9
                try clear c10
                try clear c17
                try clear c17b0
                try clear c17b1
                try clear c21
                try clear Z12_0
                try clear Z12_1
                try clear Z12_2
                try clear Z12_3
                try clear Z12_4
                try clear Z8_0
                try clear Z8_1
                try clear Z8_2
                try clear Z8_3
                try clear Z8_4
                try clear Y12_0
                try clear Y12_1
                try clear Y12_2
                try clear Y12_3
                try clear Y12_4
                try clear Y8_0
                try clear Y8_1
                try clear Y8_2
                try clear Y8_3
                try clear Y8_4
                try clear p2
                obtain ⟨kq, x46_18, rfl, HA, HJ18, HO_9, BK881, HB⟩ := hcut
                cases kq with
                | zero => exact absurd HA.out (by simp [row_Apply.j1])
                | succ kj18 =>
                  have H := HA.out
                  clear HA
                  simp only [row_Apply.j1] at H
                  by_cases c22 : x46_18 = true
                  · subst c22
                    have H1 : (some (([] : List (S50)), 41)) = some (r1, r2) := by rw [if_pos rfl] at H; exact H
                    clear H
                    have H := H1
                    clear H1
                    simp only [Option.some.injEq, Prod.mk.injEq] at H
                    obtain ⟨rfl, rfl⟩ := H
                    go_wp2
                    go_ret2
                    exact ⟨_, er, by first | exact Kd.R_nil _ _ _ _ _ | exact Kd.N_nil _ _ _ _ _ | exact Kd.V_nil _ _ _ _ _ | exact Kd.Q_nil _ _ _ _ _ | exact Kd.S_nil _ _ _ _ _, bl HB⟩
                  · replace c22 := Bool.eq_false_iff.mpr c22
                    subst c22
                    have H1 : (if 0 ≤ (wrap64 (x10_1 + (wrap64 (t889)))) then (if (wrap64 (x10_1 + (wrap64 (t889)))) ≤ (wrap64 ((wrap64 (x10_1 + (wrap64 (t889)))) + 1)) then (if (wrap64 ((wrap64 (x10_1 + (wrap64 (t889)))) + 1)) ≤ (l0_1.length : Int) then ((row_decode.f kj18 ((l0_1.take ((wrap64 ((wrap64 (x10_1 + (wrap64 (t889)))) + 1)) : Int).toNat).drop ((wrap64 (x10_1 + (wrap64 (t889)))) : Int).toNat) t890).bind fun bt896 => (if bt896.2.2 = true then (if 0 < (bt896.1.length : Int) then (if (wrap64 (x10_1 + (wrap64 (t889)))) < (l1.length : Int) then ((row_same.f ((rd_T50 bt896.1 0).f0) ((rd_T50 bt896.1 0).f1) ((rd_T50 bt896.1 0).f2) ((rd_T50 bt896.1 0).f3) ((rd_T50 l1 (wrap64 (x10_1 + (wrap64 (t889))))).f0) ((rd_T50 l1 (wrap64 (x10_1 + (wrap64 (t889))))).f1) ((rd_T50 l1 (wrap64 (x10_1 + (wrap64 (t889))))).f2) ((rd_T50 l1 (wrap64 (x10_1 + (wrap64 (t889))))).f3)).bind fun t903 => (if t903 = true then (some (([] : List (S50)), 41)) else (if (wrap64 (x10_1 + (wrap64 (t889)))) < (x9_1.length : Int) then (row_Apply.l0 kj18 l1 bt896.2.1 (x9_1.set ((wrap64 (x10_1 + (wrap64 (t889)))) : Int).toNat (⟨(rd_T50 bt896.1 0).f0, (rd_T50 bt896.1 0).f1, (rd_T50 bt896.1 0).f2, (rd_T50 bt896.1 0).f3⟩ : S50)) (wrap64 ((wrap64 (x10_1 + (wrap64 (t889)))) + 1)) a0_0 l0_1 l0_2 l0_3 l0_4) else (none)))) else (none)) else (none)) else (some (([] : List (S50)), 41)))) else (none)) else (none)) else (none)) = some (r1, r2) := by rw [if_neg (show ¬ (false = true) by decide)] at H; exact H
                    clear H
                    have H := H1
                    clear H1
                    obtain ⟨ji23, hji23⟩ : ∃ j_ : Int, (wrap64 (x10_1 + (wrap64 (t889)))) = j_ := ⟨_, rfl⟩
                    replace H : (if 0 ≤ (ji23) then (if (ji23) ≤ (wrap64 ((ji23) + 1)) then (if (wrap64 ((ji23) + 1)) ≤ (l0_1.length : Int) then ((row_decode.f kj18 ((l0_1.take ((wrap64 ((ji23) + 1)) : Int).toNat).drop ((ji23) : Int).toNat) t890).bind fun bt896 => (if bt896.2.2 = true then (if 0 < (bt896.1.length : Int) then (if (ji23) < (l1.length : Int) then ((row_same.f ((rd_T50 bt896.1 0).f0) ((rd_T50 bt896.1 0).f1) ((rd_T50 bt896.1 0).f2) ((rd_T50 bt896.1 0).f3) ((rd_T50 l1 (ji23)).f0) ((rd_T50 l1 (ji23)).f1) ((rd_T50 l1 (ji23)).f2) ((rd_T50 l1 (ji23)).f3)).bind fun t903 => (if t903 = true then (some (([] : List (S50)), 41)) else (if (ji23) < (x9_1.length : Int) then (row_Apply.l0 kj18 l1 bt896.2.1 (x9_1.set ((ji23) : Int).toNat (⟨(rd_T50 bt896.1 0).f0, (rd_T50 bt896.1 0).f1, (rd_T50 bt896.1 0).f2, (rd_T50 bt896.1 0).f3⟩ : S50)) (wrap64 ((ji23) + 1)) a0_0 l0_1 l0_2 l0_3 l0_4) else (none)))) else (none)) else (none)) else (some (([] : List (S50)), 41)))) else (none)) else (none)) else (none)) = some (r1, r2) := by first | (rw [hji23] at H; exact H) | (simp only [hji23] at H ⊢; exact H)
                    have hji23w : (IntKind.i64.wrap (x10_1 + (wrap64 (t889)))) = ji23 := (i64_w _).trans hji23
                    by_cases c24 : 0 ≤ (ji23)
                    · rw [if_pos c24] at H
                      have c24b0 := eq_true c24
                      have c24b1 : decide (0 ≤ (ji23)) = true := decide_eq_true c24
                      clear c24
                      by_cases c25 : (ji23) ≤ (wrap64 ((ji23) + 1))
                      · rw [if_pos c25] at H
                        have c25b0 := eq_true c25
                        have c25b1 : decide ((ji23) ≤ (wrap64 ((ji23) + 1))) = true := decide_eq_true c25
                        by_cases c26 : (wrap64 ((ji23) + 1)) ≤ (l0_1.length : Int)
                        · rw [if_pos c26] at H
                          have c26b0 := eq_true c26
                          have c26b1 : decide ((wrap64 ((ji23) + 1)) ≤ (l0_1.length : Int)) = true := decide_eq_true c26
                          obtain ⟨y892, hy892⟩ : ∃ y_ : List (S105), y_ = ((l0_1.take ((wrap64 ((ji23) + 1)) : Int).toNat).drop ((ji23) : Int).toNat) := ⟨_, rfl⟩
                          replace H : ((row_decode.f kj18 y892 t890).bind fun bt896 => (if bt896.2.2 = true then (if 0 < (bt896.1.length : Int) then (if (ji23) < (l1.length : Int) then ((row_same.f ((rd_T50 bt896.1 0).f0) ((rd_T50 bt896.1 0).f1) ((rd_T50 bt896.1 0).f2) ((rd_T50 bt896.1 0).f3) ((rd_T50 l1 (ji23)).f0) ((rd_T50 l1 (ji23)).f1) ((rd_T50 l1 (ji23)).f2) ((rd_T50 l1 (ji23)).f3)).bind fun t903 => (if t903 = true then (some (([] : List (S50)), 41)) else (if (ji23) < (x9_1.length : Int) then (row_Apply.l0 kj18 l1 bt896.2.1 (x9_1.set ((ji23) : Int).toNat (⟨(rd_T50 bt896.1 0).f0, (rd_T50 bt896.1 0).f1, (rd_T50 bt896.1 0).f2, (rd_T50 bt896.1 0).f3⟩ : S50)) (wrap64 ((ji23) + 1)) a0_0 l0_1 l0_2 l0_3 l0_4) else (none)))) else (none)) else (none)) else (some (([] : List (S50)), 41)))) = some (r1, r2) := by first | (rw [hy892]; with_reducible exact H) | (have H2_ := (Option.bind_some _ _).symm.trans H; rw [hy892]; with_reducible exact H2_) | (have H2_ := (Option.bind_some _ _).symm.trans H; with_reducible exact H2_) | with_reducible exact H | (rw [hy892]; exact H) | exact H
                          have Ny892 := am hy892
                          clear hy892
                          replace H := Option.bind_eq_some_iff.mp H
                          obtain ⟨⟨t896, t897, t898⟩, A270, H⟩ := H
                          replace H : (if t898 = true then (if 0 < (t896.length : Int) then (if (ji23) < (l1.length : Int) then ((row_same.f ((rd_T50 t896 0).f0) ((rd_T50 t896 0).f1) ((rd_T50 t896 0).f2) ((rd_T50 t896 0).f3) ((rd_T50 l1 (ji23)).f0) ((rd_T50 l1 (ji23)).f1) ((rd_T50 l1 (ji23)).f2) ((rd_T50 l1 (ji23)).f3)).bind fun t903 => (if t903 = true then (some (([] : List (S50)), 41)) else (if (ji23) < (x9_1.length : Int) then (row_Apply.l0 kj18 l1 t897 (x9_1.set ((ji23) : Int).toNat (⟨(rd_T50 t896 0).f0, (rd_T50 t896 0).f1, (rd_T50 t896 0).f2, (rd_T50 t896 0).f3⟩ : S50)) (wrap64 ((ji23) + 1)) a0_0 l0_1 l0_2 l0_3 l0_4) else (none)))) else (none)) else (none)) else (some (([] : List (S50)), 41))) = some (r1, r2) := H
                          have A27 := am A270
                          clear A270
                          by_cases c28 : t898 = true
                          · subst c28
                            have H1 : (if 0 < (t896.length : Int) then (if (ji23) < (l1.length : Int) then ((row_same.f ((rd_T50 t896 0).f0) ((rd_T50 t896 0).f1) ((rd_T50 t896 0).f2) ((rd_T50 t896 0).f3) ((rd_T50 l1 (ji23)).f0) ((rd_T50 l1 (ji23)).f1) ((rd_T50 l1 (ji23)).f2) ((rd_T50 l1 (ji23)).f3)).bind fun t903 => (if t903 = true then (some (([] : List (S50)), 41)) else (if (ji23) < (x9_1.length : Int) then (row_Apply.l0 kj18 l1 t897 (x9_1.set ((ji23) : Int).toNat (⟨(rd_T50 t896 0).f0, (rd_T50 t896 0).f1, (rd_T50 t896 0).f2, (rd_T50 t896 0).f3⟩ : S50)) (wrap64 ((ji23) + 1)) a0_0 l0_1 l0_2 l0_3 l0_4) else (none)))) else (none)) else (none)) = some (r1, r2) := by rw [if_pos rfl] at H; exact H
                            clear H
                            have H := H1
                            clear H1
                            by_cases c29 : 0 < (t896.length : Int)
                            · rw [if_pos c29] at H
                              have c29b0 : decide (0 < (t896.length : Int)) = true := decide_eq_true c29
                              have c29b1 : decide (0 < t896.length) = true := decide_eq_true (by omega)
                              clear c29
                              by_cases c30 : (ji23) < (l1.length : Int)
                              · rw [if_pos c30] at H
                                have c30b0 : decide ((ji23) < (l1.length : Int)) = true := decide_eq_true c30
                                clear c30
                                replace H := Option.bind_eq_some_iff.mp H
                                obtain ⟨t903, A310, H⟩ := H
                                replace H : (if t903 = true then (some (([] : List (S50)), 41)) else (if (ji23) < (x9_1.length : Int) then (row_Apply.l0 kj18 l1 t897 (x9_1.set ((ji23) : Int).toNat (⟨(rd_T50 t896 0).f0, (rd_T50 t896 0).f1, (rd_T50 t896 0).f2, (rd_T50 t896 0).f3⟩ : S50)) (wrap64 ((ji23) + 1)) a0_0 l0_1 l0_2 l0_3 l0_4) else (none))) = some (r1, r2) := H
                                have A31 := am A310
                                clear A310
                                by_cases c32 : t903 = true
                                · subst c32
                                  have H1 : (some (([] : List (S50)), 41)) = some (r1, r2) := by rw [if_pos rfl] at H; exact H
                                  clear H
                                  have H := H1
                                  clear H1
                                  simp only [Option.some.injEq, Prod.mk.injEq] at H
                                  obtain ⟨rfl, rfl⟩ := H
                                  obtain ⟨Z33_0, Z33_1, Z33_2, Z33_3, Z33_4, Y33_0, Y33_1, Y33_2, Y33_3, Y33_4⟩ := bq5 BK881
                                  have q34 : ((wrap64 ((ji23) + 1)) : Int) ≤ ((l0_1.length : Int) : Int) := oda
                                  obtain ⟨i034, hi034, _, hsz34, _⟩ := info_parts info105
                                  have hroom34 : l0_1.length ≤ c0_1 := HC0_1.out
                                  have hC34 : Kd.C k105 _ A0_1 l0_1.length l0_1 := HR0_1.out
                                  have ql34 : ((ji23) : Int) ≤ ((wrap64 ((ji23) + 1)) : Int) := oda
                                  have q034 : (0 : Int) ≤ ((ji23) : Int) := oda
                                  have hcut34 := cut_mid (P := Tryd.prog) 60 105 .i64 .i64 Tryd.underlying60 hi034 7 hsz34 A0_1 l0_1.length c0_1 (ji23) (wrap64 ((ji23) + 1)) q034 ql34 q34 hroom34
                                  have hr34 := Kd.C_mid (lo := ((ji23) : Int).toNat) (hi := ((wrap64 ((ji23) + 1)) : Int).toNat) (c := c0_1) hC34 (by omega) (by omega) hroom34
                                  obtain ⟨A34, hA34⟩ : ∃ A1, A1 = (if c0_1 = ((ji23) : Int).toNat then A0_1 else (A0_1 : Option Addr).map (·.add (((ji23) : Int).toNat * 7))) := ⟨_, rfl⟩
                                  obtain ⟨c34, hc34⟩ : ∃ c1, c1 = c0_1 - ((ji23) : Int).toNat := ⟨_, rfl⟩
                                  have hy34 : y892.length = ((wrap64 ((ji23) + 1)) : Int).toNat - ((ji23) : Int).toNat := (by rw [Ny892.out, List.length_drop, List.length_take] <;> omega)
                                  rw [show ((l0_1).take ((wrap64 ((ji23) + 1)) : Int).toNat).drop ((ji23) : Int).toNat = y892 from Ny892.out.symm] at hr34
                                  replace hr34 : Kd.C k105 _ A34 y892.length y892 := (by rw [hA34]; exact hr34)
                                  rw [← hy34, ← hA34, ← hc34] at hcut34
                                  have HR895 := am hr34
                                  have HC895 := am (show y892.length ≤ c34 from by rw [hy34, hc34]; exact Nat.sub_le_sub_right (Nat.le_trans (by omega) hroom34) _)
                                  clear hr34 hC34 hroom34 hi034 hsz34 hc34
                                  have KY34 := am hy34
                                  have KA34 := am hA34
                                  clear hy34 hA34
                                  replace q34 := eq_true q34
                                  try go_wp2_with (first | ((with_reducible refine gate_callee (f := 92) rfl ?_); refine goesL_ (some 59) rfl rfl Tryd.func92 (by kernel_rfl) rfl #[.slice A34 y892.length c34, .string t890] rfl ar ?_; (with_reducible refine (row_decode.calls kj18 _ _ y892 t890 t896 t897 true _ ?side1 HC895.out (Glob.below HG.out (bl HB)) A27.out).mono ?_); (case side1 => exact Kd.cb HR895 HB); rintro e w35 ⟨v899, rfl, ho0, hb⟩; refine ⟨_, rfl, ?_⟩; have n0_ := am (Kd.R_elder' (Kd.rr HO_9.out) (Kd.R_base ho0) hb); have n1_ := am (Kd.R_lower (Kd.R_new' ho0 (Kd.R_lt (Kd.rr HO_9.out))) (below_size (bl HB))); have n2_ := kb BK881 hb; have n3_ := sb HB hb; clear HO_9; clear BK881; clear HB; have HO_9 := n0_; have HO900 := n1_; have BK881 := n2_; have HB := n3_; clear n0_ n1_ n2_ n3_; (try clear hb); (try clear hb2 hk hi); (try clear ho0)))
                                  have n0_ := am (Kd.R_drew HO_9.out)
                                  have n1_ := am (Kd.R_drew HO900.out)
                                  have n2_ := am (blk_drew BK881.out)
                                  have n3_ := am (below_drew1 HB.out)
                                  clear HO_9
                                  clear HO900
                                  clear BK881
                                  clear HB
                                  have HO_9 := n0_
                                  have HO900 := n1_
                                  have BK881 := n2_
                                  have HB := n3_
                                  clear n0_ n1_ n2_ n3_
                                  obtain ⟨Ao37, co37, eo37⟩ := Kd.R_slice HO900.out
                                  (first | subst eo37 | (injection eo37 with f1_ f2_ f3_; have f4_ := f1_.symm; have f5_ := f3_.symm; clear f1_ f2_ f3_; subst f4_; subst f5_))
                                  have p901 : 0 ≤ (0 : Int) := (by omega)
                                  have q901 : 0 < (t896.length : Int) := oda
                                  obtain ⟨ad901, e901, hx901_0, hx901_1, hx901_2, hx901_3⟩ := at_T50 (Kd.R_reads' HO900.out).2.2 0 p901 q901
                                  cases e901
                                  have qi901 : (0 < t896.length) = True := eq_true (by omega)
                                  (try rw [show ((0 : Int)).toNat = 0 from rfl] at hx901_0)
                                  (try rw [show 0 * 4 = 0 from rfl] at hx901_0)
                                  (try rw [Addr.add_zero'] at hx901_0)
                                  (try rw [show ((0 : Int)).toNat = 0 from rfl] at hx901_1)
                                  (try rw [show 0 * 4 = 0 from rfl] at hx901_1)
                                  (try rw [Addr.add_zero'] at hx901_1)
                                  (try rw [show ((0 : Int)).toNat = 0 from rfl] at hx901_2)
                                  (try rw [show 0 * 4 = 0 from rfl] at hx901_2)
                                  (try rw [Addr.add_zero'] at hx901_2)
                                  (try rw [show ((0 : Int)).toNat = 0 from rfl] at hx901_3)
                                  (try rw [show 0 * 4 = 0 from rfl] at hx901_3)
                                  (try rw [Addr.add_zero'] at hx901_3)
                                  replace p901 := eq_true p901
                                  replace q901 := eq_true q901
                                  have p902 : 0 ≤ ((ji23) : Int) := oda
                                  have q902 : (ji23) < (l1.length : Int) := oda
                                  obtain ⟨ad902, e902, hx902_0, hx902_1, hx902_2, hx902_3⟩ := at_T50 HR1.out (ji23) p902 q902
                                  have hw902_3 := hx902_3
                                  have hw902_2 := hx902_2
                                  have hw902_1 := hx902_1
                                  have hw902_0 := hx902_0
                                  cases e902
                                  replace hx902_0 := hc HB hx902_0
                                  replace hx902_1 := hc HB hx902_1
                                  replace hx902_2 := hc HB hx902_2
                                  replace hx902_3 := hc HB hx902_3
                                  replace p902 := eq_true p902
                                  replace q902 := eq_true q902
                                  refine start_ (n := 12) (S := fun w' => w'.cell? ad901 = some (.int .i64 ((rd_T50 t896 0).f0)) ∧ w'.cell? ⟨ad901.block, ad901.off + 1, none⟩ = some (.int .i64 ((rd_T50 t896 0).f1)) ∧ w'.cell? ⟨ad901.block, ad901.off + 2, none⟩ = some (.float .f64 ((rd_T50 t896 0).f2)) ∧ w'.cell? ⟨ad901.block, ad901.off + 3, none⟩ = some (.string ((rd_T50 t896 0).f3)) ∧ w'.cell? (ad902.add (((ji23)).toNat * 4)) = some (.int .i64 ((rd_T50 l1 (ji23)).f0)) ∧ w'.cell? ⟨(ad902.add (((ji23)).toNat * 4)).block, (ad902.add (((ji23)).toNat * 4)).off + 1, none⟩ = some (.int .i64 ((rd_T50 l1 (ji23)).f1)) ∧ w'.cell? ⟨(ad902.add (((ji23)).toNat * 4)).block, (ad902.add (((ji23)).toNat * 4)).off + 2, none⟩ = some (.float .f64 ((rd_T50 l1 (ji23)).f2)) ∧ w'.cell? ⟨(ad902.add (((ji23)).toNat * 4)).block, (ad902.add (((ji23)).toNat * 4)).off + 3, none⟩ = some (.string ((rd_T50 l1 (ji23)).f3))) (ds := []) (bb 0 12) (by kernel_rfl) rfl rfl ⟨hx901_0, hx901_1, hx901_2, hx901_3, (hc HB hw902_0), (hc HB hw902_1), (hc HB hw902_2), (hc HB hw902_3)⟩ (fun hHeld => ?_); refine with_tabW row_Apply.tab14 row_Apply.bits14 (fun HT_ HW_ => ?_)
                                  generalize w35.drew = w36 at HO_9 HO900 BK881 HB hx901_0 hx901_1 hx901_2 hx901_3 hx902_0 hx902_1 hx902_2 hx902_3 hHeld ⊢
                                  refine pu HT_ 0 (some 63) (bb 1 12) ?_
                                  refine pu HT_ 1 (some 64) (bb 2 12) ?_
                                  refine pu HT_ 2 (some 65) (bb 3 12) ?_
                                  refine pu HT_ 3 (some 66) (bb 4 12) ?_
                                  refine pu HT_ 4 (some 67) (bb 5 12) ?_
                                  refine pu HT_ 6 (some 69) (bs 12 95) ?_
                                  refine pu HT_ 7 (some 70) (bs 12 223) ?_
                                  refine pu HT_ 8 (some 71) (bs 12 479) ?_
                                  refine tk HT_ HW_ hHeld 5 (some 68) (bb 9 12) ?_
                                  refine tk HT_ HW_ hHeld 9 (some 72) (bb 10 12) ?_
                                  refine one_ (i := 10) (N := some 73) (bb 11 12) rfl rfl (one_of HT_.out (by kernel_rfl)) (by decide) (fun K hK => ?_)
                                  refine goes_ Tryd.func88 (by kernel_rfl) rfl #[.agg #[.int .i64 ((rd_T50 t896 0).f0), .int .i64 ((rd_T50 t896 0).f1), .float .f64 ((rd_T50 t896 0).f2), .string ((rd_T50 t896 0).f3)], .agg #[.int .i64 ((rd_T50 l1 (ji23)).f0), .int .i64 ((rd_T50 l1 (ji23)).f1), .float .f64 ((rd_T50 l1 (ji23)).f2), .string ((rd_T50 l1 (ji23)).f3)]] (by rfl) rfl rfl (by (try simp only [List.map_toArray, List.map_cons, List.map_nil]); first | done | (simp only [hji23]; rfl) | rfl | (simp only [List.length_drop, List.length_take]; rfl)) ?_
                                  with_reducible refine (row_same.calls ((rd_T50 t896 0).f0) ((rd_T50 t896 0).f1) ((rd_T50 t896 0).f2) ((rd_T50 t896 0).f3) ((rd_T50 l1 (ji23)).f0) ((rd_T50 l1 (ji23)).f1) ((rd_T50 l1 (ji23)).f2) ((rd_T50 l1 (ji23)).f3) true _ A31.out).mono ?_
                                  rintro e w38 ⟨rfl, hb⟩
                                  have HS0_ := (hb.cell (World.block_lt_of_cell? _ _ (hHeld.1))).trans (hHeld.1)
                                  have HS1_ := (hb.cell (World.block_lt_of_cell? _ _ (hHeld.2.1))).trans (hHeld.2.1)
                                  have HS2_ := (hb.cell (World.block_lt_of_cell? _ _ (hHeld.2.2.1))).trans (hHeld.2.2.1)
                                  have HS3_ := (hb.cell (World.block_lt_of_cell? _ _ (hHeld.2.2.2.1))).trans (hHeld.2.2.2.1)
                                  refine ⟨_, rfl, ?_⟩
                                  have n0_ := am (Kd.R_below (Kd.rr HO_9.out) hb)
                                  have n1_ := am (Kd.R_below (Kd.rr HO900.out) hb)
                                  have n2_ := kb BK881 hb
                                  have n3_ := sb HB hb
                                  clear HO_9
                                  clear HO900
                                  clear BK881
                                  clear HB
                                  have HO_9 := n0_
                                  have HO900 := n1_
                                  have BK881 := n2_
                                  have HB := n3_
                                  clear n0_ n1_ n2_ n3_
                                  (try clear hb)
                                  (try clear hb2)
                                  (try clear hk)
                                  (try clear hi)
                                  refine hK.out _ _ ⟨HS0_, HS1_, HS2_, HS3_, (hc HB hw902_0), (hc HB hw902_1), (hc HB hw902_2), (hc HB hw902_3)⟩ (fun hHeld => ?_)
                                  clear hK K
                                  refine norm_ (a' := ?_) ?_ ?_
                                  rotate_left
                                  · show Act.put _ (some 73) _ = _
                                    simp only [Act.put, List.setIfInBounds_toArray, List.set_cons_zero, List.set_cons_succ, i64_w, i32_w]
                                    rfl
                                  refine pu HT_ 11 (some 74) (bb 12 12) ?_
                                  refine done_ (done_of HT_.out (by kernel_rfl)) ?_
                                  try go_wp2
                                  go_ret2
                                  exact ⟨_, by first | rfl | (simp [errW_none, errW_some] <;> rfl) | (simp only [← hji23]; first | rfl | (simp [errW_none, errW_some] <;> rfl)) | (simp [*, errW_none, errW_some] <;> rfl), by first | exact Kd.R_nil _ _ _ _ _ | exact Kd.N_nil _ _ _ _ _ | exact Kd.V_nil _ _ _ _ _ | exact Kd.Q_nil _ _ _ _ _ | exact Kd.S_nil _ _ _ _ _, bl HB⟩
                                · replace c32 := Bool.eq_false_iff.mpr c32
                                  subst c32
                                  have H1 : (if (ji23) < (x9_1.length : Int) then (row_Apply.l0 kj18 l1 t897 (x9_1.set ((ji23) : Int).toNat (⟨(rd_T50 t896 0).f0, (rd_T50 t896 0).f1, (rd_T50 t896 0).f2, (rd_T50 t896 0).f3⟩ : S50)) (wrap64 ((ji23) + 1)) a0_0 l0_1 l0_2 l0_3 l0_4) else (none)) = some (r1, r2) := by rw [if_neg (show ¬ (false = true) by decide)] at H; exact H
                                  clear H
                                  have H := H1
                                  clear H1
                                  by_cases c39 : (ji23) < (x9_1.length : Int)
                                  · rw [if_pos c39] at H
                                    have c39b0 : decide ((ji23) < (x9_1.length : Int)) = true := decide_eq_true c39
                                    clear c39
                                    obtain ⟨y905, hy905⟩ : ∃ y_ : List (S50), y_ = (x9_1.set ((ji23) : Int).toNat (⟨(rd_T50 t896 0).f0, (rd_T50 t896 0).f1, (rd_T50 t896 0).f2, (rd_T50 t896 0).f3⟩ : S50)) := ⟨_, rfl⟩
                                    replace H : (row_Apply.l0 kj18 l1 t897 y905 (wrap64 ((ji23) + 1)) a0_0 l0_1 l0_2 l0_3 l0_4) = some (r1, r2) := by first | (rw [hy905]; with_reducible exact H) | (have H2_ := (Option.bind_some _ _).symm.trans H; rw [hy905]; with_reducible exact H2_) | (have H2_ := (Option.bind_some _ _).symm.trans H; with_reducible exact H2_) | with_reducible exact H | (rw [hy905]; exact H) | exact H
                                    have Ny905 := am hy905
                                    clear hy905
                                    have H' := am H
                                    clear H
                                    obtain ⟨Z41_0, Z41_1, Z41_2, Z41_3, Z41_4, Y41_0, Y41_1, Y41_2, Y41_3, Y41_4⟩ := bq5 BK881
                                    have q42 : ((wrap64 ((ji23) + 1)) : Int) ≤ ((l0_1.length : Int) : Int) := oda
                                    obtain ⟨i042, hi042, _, hsz42, _⟩ := info_parts info105
                                    have hroom42 : l0_1.length ≤ c0_1 := HC0_1.out
                                    have hC42 : Kd.C k105 _ A0_1 l0_1.length l0_1 := HR0_1.out
                                    have ql42 : ((ji23) : Int) ≤ ((wrap64 ((ji23) + 1)) : Int) := oda
                                    have q042 : (0 : Int) ≤ ((ji23) : Int) := oda
                                    have hcut42 := cut_mid (P := Tryd.prog) 60 105 .i64 .i64 Tryd.underlying60 hi042 7 hsz42 A0_1 l0_1.length c0_1 (ji23) (wrap64 ((ji23) + 1)) q042 ql42 q42 hroom42
                                    have hr42 := Kd.C_mid (lo := ((ji23) : Int).toNat) (hi := ((wrap64 ((ji23) + 1)) : Int).toNat) (c := c0_1) hC42 (by omega) (by omega) hroom42
                                    obtain ⟨A42, hA42⟩ : ∃ A1, A1 = (if c0_1 = ((ji23) : Int).toNat then A0_1 else (A0_1 : Option Addr).map (·.add (((ji23) : Int).toNat * 7))) := ⟨_, rfl⟩
                                    obtain ⟨c42, hc42⟩ : ∃ c1, c1 = c0_1 - ((ji23) : Int).toNat := ⟨_, rfl⟩
                                    have hy42 : y892.length = ((wrap64 ((ji23) + 1)) : Int).toNat - ((ji23) : Int).toNat := (by rw [Ny892.out, List.length_drop, List.length_take] <;> omega)
                                    rw [show ((l0_1).take ((wrap64 ((ji23) + 1)) : Int).toNat).drop ((ji23) : Int).toNat = y892 from Ny892.out.symm] at hr42
                                    replace hr42 : Kd.C k105 _ A42 y892.length y892 := (by rw [hA42]; exact hr42)
                                    rw [← hy42, ← hA42, ← hc42] at hcut42
                                    have HR895 := am hr42
                                    have HC895 := am (show y892.length ≤ c42 from by rw [hy42, hc42]; exact Nat.sub_le_sub_right (Nat.le_trans (by omega) hroom42) _)
                                    clear hr42 hC42 hroom42 hi042 hsz42 hc42
                                    have KY42 := am hy42
                                    have KA42 := am hA42
                                    clear hy42 hA42
                                    replace q42 := eq_true q42
                                    try go_wp2_with (first | ((with_reducible refine gate_callee (f := 92) rfl ?_); refine goesL_ (some 59) rfl rfl Tryd.func92 (by kernel_rfl) rfl #[.slice A42 y892.length c42, .string t890] rfl ar ?_; (with_reducible refine (row_decode.calls kj18 _ _ y892 t890 t896 t897 true _ ?side1 HC895.out (Glob.below HG.out (bl HB)) A27.out).mono ?_); (case side1 => exact Kd.cb HR895 HB); rintro e w43 ⟨v899, rfl, ho0, hb⟩; refine ⟨_, rfl, ?_⟩; have n0_ := am (Kd.R_elder' (Kd.rr HO_9.out) (Kd.R_base ho0) hb); have n1_ := am (Kd.R_lower (Kd.R_new' ho0 (Kd.R_lt (Kd.rr HO_9.out))) (below_size (bl HB))); have n2_ := kb BK881 hb; have n3_ := sb HB hb; clear HO_9; clear BK881; clear HB; have HO_9 := n0_; have HO900 := n1_; have BK881 := n2_; have HB := n3_; clear n0_ n1_ n2_ n3_; (try clear hb); (try clear hb2 hk hi); (try clear ho0)))
                                    have n0_ := am (Kd.R_drew HO_9.out)
                                    have n1_ := am (Kd.R_drew HO900.out)
                                    have n2_ := am (blk_drew BK881.out)
                                    have n3_ := am (below_drew1 HB.out)
                                    clear HO_9
                                    clear HO900
                                    clear BK881
                                    clear HB
                                    have HO_9 := n0_
                                    have HO900 := n1_
                                    have BK881 := n2_
                                    have HB := n3_
                                    clear n0_ n1_ n2_ n3_
                                    obtain ⟨Ao45, co45, eo45⟩ := Kd.R_slice HO900.out
                                    (first | subst eo45 | (injection eo45 with f1_ f2_ f3_; have f4_ := f1_.symm; have f5_ := f3_.symm; clear f1_ f2_ f3_; subst f4_; subst f5_))
                                    have p901 : 0 ≤ (0 : Int) := (by omega)
                                    have q901 : 0 < (t896.length : Int) := oda
                                    obtain ⟨ad901, e901, hx901_0, hx901_1, hx901_2, hx901_3⟩ := at_T50 (Kd.R_reads' HO900.out).2.2 0 p901 q901
                                    cases e901
                                    have qi901 : (0 < t896.length) = True := eq_true (by omega)
                                    (try rw [show ((0 : Int)).toNat = 0 from rfl] at hx901_0)
                                    (try rw [show 0 * 4 = 0 from rfl] at hx901_0)
                                    (try rw [Addr.add_zero'] at hx901_0)
                                    (try rw [show ((0 : Int)).toNat = 0 from rfl] at hx901_1)
                                    (try rw [show 0 * 4 = 0 from rfl] at hx901_1)
                                    (try rw [Addr.add_zero'] at hx901_1)
                                    (try rw [show ((0 : Int)).toNat = 0 from rfl] at hx901_2)
                                    (try rw [show 0 * 4 = 0 from rfl] at hx901_2)
                                    (try rw [Addr.add_zero'] at hx901_2)
                                    (try rw [show ((0 : Int)).toNat = 0 from rfl] at hx901_3)
                                    (try rw [show 0 * 4 = 0 from rfl] at hx901_3)
                                    (try rw [Addr.add_zero'] at hx901_3)
                                    replace p901 := eq_true p901
                                    replace q901 := eq_true q901
                                    have p902 : 0 ≤ ((ji23) : Int) := oda
                                    have q902 : (ji23) < (l1.length : Int) := oda
                                    obtain ⟨ad902, e902, hx902_0, hx902_1, hx902_2, hx902_3⟩ := at_T50 HR1.out (ji23) p902 q902
                                    have hw902_3 := hx902_3
                                    have hw902_2 := hx902_2
                                    have hw902_1 := hx902_1
                                    have hw902_0 := hx902_0
                                    cases e902
                                    replace hx902_0 := hc HB hx902_0
                                    replace hx902_1 := hc HB hx902_1
                                    replace hx902_2 := hc HB hx902_2
                                    replace hx902_3 := hc HB hx902_3
                                    replace p902 := eq_true p902
                                    replace q902 := eq_true q902
                                    refine start_ (n := 12) (S := fun w' => w'.cell? ad901 = some (.int .i64 ((rd_T50 t896 0).f0)) ∧ w'.cell? ⟨ad901.block, ad901.off + 1, none⟩ = some (.int .i64 ((rd_T50 t896 0).f1)) ∧ w'.cell? ⟨ad901.block, ad901.off + 2, none⟩ = some (.float .f64 ((rd_T50 t896 0).f2)) ∧ w'.cell? ⟨ad901.block, ad901.off + 3, none⟩ = some (.string ((rd_T50 t896 0).f3)) ∧ w'.cell? (ad902.add (((ji23)).toNat * 4)) = some (.int .i64 ((rd_T50 l1 (ji23)).f0)) ∧ w'.cell? ⟨(ad902.add (((ji23)).toNat * 4)).block, (ad902.add (((ji23)).toNat * 4)).off + 1, none⟩ = some (.int .i64 ((rd_T50 l1 (ji23)).f1)) ∧ w'.cell? ⟨(ad902.add (((ji23)).toNat * 4)).block, (ad902.add (((ji23)).toNat * 4)).off + 2, none⟩ = some (.float .f64 ((rd_T50 l1 (ji23)).f2)) ∧ w'.cell? ⟨(ad902.add (((ji23)).toNat * 4)).block, (ad902.add (((ji23)).toNat * 4)).off + 3, none⟩ = some (.string ((rd_T50 l1 (ji23)).f3))) (ds := []) (bb 0 12) (by kernel_rfl) rfl rfl ⟨hx901_0, hx901_1, hx901_2, hx901_3, (hc HB hw902_0), (hc HB hw902_1), (hc HB hw902_2), (hc HB hw902_3)⟩ (fun hHeld => ?_); refine with_tabW row_Apply.tab14 row_Apply.bits14 (fun HT_ HW_ => ?_)
                                    generalize w43.drew = w44 at HO_9 HO900 BK881 HB hx901_0 hx901_1 hx901_2 hx901_3 hx902_0 hx902_1 hx902_2 hx902_3 hHeld ⊢
                                    refine pu HT_ 0 (some 63) (bb 1 12) ?_
                                    refine pu HT_ 1 (some 64) (bb 2 12) ?_
                                    refine pu HT_ 2 (some 65) (bb 3 12) ?_
                                    refine pu HT_ 3 (some 66) (bb 4 12) ?_
                                    refine pu HT_ 4 (some 67) (bb 5 12) ?_
                                    refine pu HT_ 6 (some 69) (bs 12 95) ?_
                                    refine pu HT_ 7 (some 70) (bs 12 223) ?_
                                    refine pu HT_ 8 (some 71) (bs 12 479) ?_
                                    refine tk HT_ HW_ hHeld 5 (some 68) (bb 9 12) ?_
                                    refine tk HT_ HW_ hHeld 9 (some 72) (bb 10 12) ?_
                                    refine one_ (i := 10) (N := some 73) (bb 11 12) rfl rfl (one_of HT_.out (by kernel_rfl)) (by decide) (fun K hK => ?_)
                                    refine goes_ Tryd.func88 (by kernel_rfl) rfl #[.agg #[.int .i64 ((rd_T50 t896 0).f0), .int .i64 ((rd_T50 t896 0).f1), .float .f64 ((rd_T50 t896 0).f2), .string ((rd_T50 t896 0).f3)], .agg #[.int .i64 ((rd_T50 l1 (ji23)).f0), .int .i64 ((rd_T50 l1 (ji23)).f1), .float .f64 ((rd_T50 l1 (ji23)).f2), .string ((rd_T50 l1 (ji23)).f3)]] (by rfl) rfl rfl (by (try simp only [List.map_toArray, List.map_cons, List.map_nil]); first | done | (simp only [hji23]; rfl) | rfl | (simp only [List.length_drop, List.length_take]; rfl)) ?_
                                    with_reducible refine (row_same.calls ((rd_T50 t896 0).f0) ((rd_T50 t896 0).f1) ((rd_T50 t896 0).f2) ((rd_T50 t896 0).f3) ((rd_T50 l1 (ji23)).f0) ((rd_T50 l1 (ji23)).f1) ((rd_T50 l1 (ji23)).f2) ((rd_T50 l1 (ji23)).f3) false _ A31.out).mono ?_
                                    rintro e w46 ⟨rfl, hb⟩
                                    have HS0_ := (hb.cell (World.block_lt_of_cell? _ _ (hHeld.1))).trans (hHeld.1)
                                    have HS1_ := (hb.cell (World.block_lt_of_cell? _ _ (hHeld.2.1))).trans (hHeld.2.1)
                                    have HS2_ := (hb.cell (World.block_lt_of_cell? _ _ (hHeld.2.2.1))).trans (hHeld.2.2.1)
                                    have HS3_ := (hb.cell (World.block_lt_of_cell? _ _ (hHeld.2.2.2.1))).trans (hHeld.2.2.2.1)
                                    refine ⟨_, rfl, ?_⟩
                                    have n0_ := am (Kd.R_below (Kd.rr HO_9.out) hb)
                                    have n1_ := am (Kd.R_below (Kd.rr HO900.out) hb)
                                    have n2_ := kb BK881 hb
                                    have n3_ := sb HB hb
                                    clear HO_9
                                    clear HO900
                                    clear BK881
                                    clear HB
                                    have HO_9 := n0_
                                    have HO900 := n1_
                                    have BK881 := n2_
                                    have HB := n3_
                                    clear n0_ n1_ n2_ n3_
                                    (try clear hb)
                                    (try clear hb2)
                                    (try clear hk)
                                    (try clear hi)
                                    refine hK.out _ _ ⟨HS0_, HS1_, HS2_, HS3_, (hc HB hw902_0), (hc HB hw902_1), (hc HB hw902_2), (hc HB hw902_3)⟩ (fun hHeld => ?_)
                                    clear hK K
                                    refine norm_ (a' := ?_) ?_ ?_
                                    rotate_left
                                    · show Act.put _ (some 73) _ = _
                                      simp only [Act.put, List.setIfInBounds_toArray, List.set_cons_zero, List.set_cons_succ, i64_w, i32_w]
                                      rfl
                                    refine pu HT_ 11 (some 74) (bb 12 12) ?_
                                    refine done_ (done_of HT_.out (by kernel_rfl)) ?_
                                    have p904 : 0 ≤ (0 : Int) := (by omega)
                                    have q904 : 0 < (t896.length : Int) := oda
                                    obtain ⟨ad904, e904, hx904_0, hx904_1, hx904_2, hx904_3⟩ := at_T50 (Kd.R_reads' HO900.out).2.2 0 p904 q904
                                    obtain rfl : ad901 = ad904 := (by injection e904)
                                    have qi904 : (0 < t896.length) = True := eq_true (by omega)
                                    (try rw [show ((0 : Int)).toNat = 0 from rfl] at hx904_0)
                                    (try rw [show 0 * 4 = 0 from rfl] at hx904_0)
                                    (try rw [Addr.add_zero'] at hx904_0)
                                    (try rw [show ((0 : Int)).toNat = 0 from rfl] at hx904_1)
                                    (try rw [show 0 * 4 = 0 from rfl] at hx904_1)
                                    (try rw [Addr.add_zero'] at hx904_1)
                                    (try rw [show ((0 : Int)).toNat = 0 from rfl] at hx904_2)
                                    (try rw [show 0 * 4 = 0 from rfl] at hx904_2)
                                    (try rw [Addr.add_zero'] at hx904_2)
                                    (try rw [show ((0 : Int)).toNat = 0 from rfl] at hx904_3)
                                    (try rw [show 0 * 4 = 0 from rfl] at hx904_3)
                                    (try rw [Addr.add_zero'] at hx904_3)
                                    replace p904 := eq_true p904
                                    replace q904 := eq_true q904
                                    have p40 : 0 ≤ ((ji23) : Int) := oda
                                    have q40 : ((ji23) : Int) < ((x9_1.length : Int) : Int) := oda
                                    obtain ⟨go40, co40, eo40, gb40, gl40, cl40, HG40⟩ := Kd.R_form HO_9.out (by omega)
                                    (first | cases eo40 | (injection eo40 with ea_ en_ ec_; (first | subst ea_ | (injection ea_ with ea_; subst ea_)); subst ec_; clear en_))
                                    have GB40 := am gb40
                                    have GG40 := am HG40
                                    clear gb40 gl40 HG40
                                    obtain ⟨ce40, hcl40, hM40, hcc40, hfr40⟩ := Kd.R_elem HO_9.out z50 ((ji23) : Int) p40 q40
                                    obtain rfl := k50_openM hM40
                                    have hx40_0 : w46.cell? ⟨go40, ((ji23) : Int).toNat * 4, none⟩ = some (.int .i64 ((rd_T50 x9_1 (ji23)).f0)) := hcc40 0 _ rfl
                                    have hx40_1 : w46.cell? ⟨go40, ((ji23) : Int).toNat * 4 + 1, none⟩ = some (.int .i64 ((rd_T50 x9_1 (ji23)).f1)) := hcc40 1 _ rfl
                                    have hx40_2 : w46.cell? ⟨go40, ((ji23) : Int).toNat * 4 + 2, none⟩ = some (.float .f64 ((rd_T50 x9_1 (ji23)).f2)) := hcc40 2 _ rfl
                                    have hx40_3 : w46.cell? ⟨go40, ((ji23) : Int).toNat * 4 + 3, none⟩ = some (.string ((rd_T50 x9_1 (ji23)).f3)) := hcc40 3 _ rfl
                                    have hf40_0 : w46.frozen? ⟨go40, ((ji23) : Int).toNat * 4, none⟩ = false := hfr40 0
                                    have hf40_1 : w46.frozen? ⟨go40, ((ji23) : Int).toNat * 4 + 1, none⟩ = false := hfr40 1
                                    have hf40_2 : w46.frozen? ⟨go40, ((ji23) : Int).toNat * 4 + 2, none⟩ = false := hfr40 2
                                    have hf40_3 : w46.frozen? ⟨go40, ((ji23) : Int).toNat * 4 + 3, none⟩ = false := hfr40 3
                                    clear hcl40 hcc40 hfr40 hM40
                                    replace p40 := eq_true p40
                                    replace q40 := eq_true q40
                                    have n_ := am (Kd.R_mono (ok' := (fun k_ => some k_ ≠ (.slice (some ad901) t896.length co45 : Value).ownBlock)) HO_9.out (fun k_ hk => hk.2))
                                    clear HO_9
                                    have HO_9 := n_
                                    clear n_
                                    have HX47 := am (show Kd.R k50 50 w46 w.heap.size (fun k_ => some k_ ≠ (.slice (some ad901) t896.length co45 : Value).ownBlock) (.slice (some ⟨go40, 0, none⟩) x9_1.length co40) x9_1 from (Kd.rr HO_9.out))
                                    obtain ⟨ce47, hcl47, hM47, hcc47, hfr47⟩ := Kd.R_elem HX47.out z50 ((ji23) : Int) (oda) (by have h_ : ((ji23) : Int) < ((x9_1.length : Int) : Int) := oda; first | exact h_ | (have e_ := (Kd.R_reads' HO_9.out).1; omega) | simpa using h_)
                                    obtain rfl := k50_openM hM47
                                    have HP47 := Kd.R_seg HX47.out ((ji23) : Int) (oda) (by have h_ : ((ji23) : Int) < ((x9_1.length : Int) : Int) := oda; first | exact h_ | (have e_ := (Kd.R_reads' HO_9.out).1; omega) | simpa using h_) (seg := [.int .i64 ((rd_T50 t896 0).f0), .int .i64 ((rd_T50 t896 0).f1), .float .f64 ((rd_T50 t896 0).f2), .string ((rd_T50 t896 0).f3)]) (j := 0) hcl47 hcc47 (show 4 ≤ 4 from by decide) (x' := (⟨(rd_T50 t896 0).f0, (rd_T50 t896 0).f1, (rd_T50 t896 0).f2, (rd_T50 t896 0).f3⟩ : S50)) (k50_mkM _ _ _ (⟨(rd_T50 t896 0).f0, (rd_T50 t896 0).f1, (rd_T50 t896 0).f2, (rd_T50 t896 0).f3⟩ : S50) ) (fun _ hk => hk)
                                    have hx47_0 := hcc47 0 _ rfl
                                    (try simp only [show (k50).sz = 4 from rfl, Nat.mul_one, Nat.add_zero] at hx47_0)
                                    have hf47_0 := hfr47 0
                                    (try simp only [show (k50).sz = 4 from rfl, Nat.mul_one, Nat.add_zero] at hf47_0)
                                    have hx47_1 := hcc47 1 _ rfl
                                    (try simp only [show (k50).sz = 4 from rfl, Nat.mul_one, Nat.add_zero] at hx47_1)
                                    have hf47_1 := hfr47 1
                                    (try simp only [show (k50).sz = 4 from rfl, Nat.mul_one, Nat.add_zero] at hf47_1)
                                    have hx47_2 := hcc47 2 _ rfl
                                    (try simp only [show (k50).sz = 4 from rfl, Nat.mul_one, Nat.add_zero] at hx47_2)
                                    have hf47_2 := hfr47 2
                                    (try simp only [show (k50).sz = 4 from rfl, Nat.mul_one, Nat.add_zero] at hf47_2)
                                    have hx47_3 := hcc47 3 _ rfl
                                    (try simp only [show (k50).sz = 4 from rfl, Nat.mul_one, Nat.add_zero] at hx47_3)
                                    have hf47_3 := hfr47 3
                                    (try simp only [show (k50).sz = 4 from rfl, Nat.mul_one, Nat.add_zero] at hf47_3)
                                    clear hcl47 hcc47 hfr47 hM47
                                    try go_wp2_with (first | ((with_reducible refine gate_store (t := 50) (p := 83) rfl ?_); refine store_event (t := 50) (p := 83) (v := ?vo_w48) (w1 := ((((w46.setCell ⟨go40, ((ji23) : Int).toNat * 4, none⟩ (.int .i64 ((rd_T50 t896 0).f0))).setCell ⟨go40, ((ji23) : Int).toNat * 4 + 1, none⟩ (.int .i64 ((rd_T50 t896 0).f1))).setCell ⟨go40, ((ji23) : Int).toNat * 4 + 2, none⟩ (.float .f64 ((rd_T50 t896 0).f2))).setCell ⟨go40, ((ji23) : Int).toNat * 4 + 3, none⟩ (.string ((rd_T50 t896 0).f3)))) ?hg ?ho ?hn ?hr ?_; (case ho => rfl); (case hg => rfl); (case hn => rfl); (case hr => first | (go_simp; done) | (go_simp; rfl)); intro w48 hw; have hg : w46.grownBy w48 (some go40) := (by rw [hw]; exact HP47.2); have hp_ : Kd.R k50 50 w48 w.heap.size (fun k_ => some k_ ≠ (.slice (some ad901) t896.length co45 : Value).ownBlock) (.slice (some ⟨go40, 0, none⟩) x9_1.length co40) y905 := (by rw [hw, Ny905.out]; exact HP47.1); clear HP47; have n0_ := am (hp_); have n1_ := am (blk_grown (g := gb881) (o := .cells #[.string a0_0, .slice A0_1 l0_1.length c0_1, .slice A0_2 l0_2.length c0_2, .slice A0_3 l0_3.length c0_3, .slice A0_4 l0_4.length c0_4] 65 (0, 0)) (bk BK881) hg (Kd.R_ne HO_9.out BK881.out (by decide))); have n2_ := am (Kd.R_after (v := (.slice (some ⟨go40, 0, none⟩) x9_1.length co40)) (v1 := (.slice (some ⟨go40, 0, none⟩) x9_1.length co40)) (ok := (fun _ => True)) (Kd.rr HO900.out) hg (.inl rfl)); have n3_ := am ((by rw [hw]; exact below_set (below_set (below_set (below_set (HB.out) GB40.out) GB40.out) GB40.out) GB40.out : Below w.heap.size w w48)); clear HO_9; clear BK881; clear HO900; clear HB; have HO_9 := n0_; have BK881 := n1_; have HO900 := n2_; have HB := n3_; clear n0_ n1_ n2_ n3_; clear hg hw hp_))
                                    go_roundg kj18
                                    case measure => have := HK1.out; have := HJ18.out; omega
                                    case rel => exact ⟨(t897), (y905), (wrap64 ((ji23) + 1)), eb, (by first | rfl | (simp; done) | (simp only [← hji23] <;> (first | rfl | simp)) | (simp [*]; done)), H', ⟨by have := HK1.out; have := HJ18.out; omega⟩, ⟨by (with_reducible repeat (first | apply Kd.R_alloc | apply Kd.R_drewN | apply Kd.R_drew)); exact Kd.R_mono HO_9.out (fun _ hk => trivial)⟩, ⟨bk BK881⟩, ⟨bl HB⟩⟩
                                  · rw [if_neg c39] at H
                                    exact absurd H (by simp)
                              · rw [if_neg c30] at H
                                exact absurd H (by simp)
                            · rw [if_neg c29] at H
                              exact absurd H (by simp)
                          · replace c28 := Bool.eq_false_iff.mpr c28
                            subst c28
                            have H1 : (some (([] : List (S50)), 41)) = some (r1, r2) := by rw [if_neg (show ¬ (false = true) by decide)] at H; exact H
                            clear H
                            have H := H1
                            clear H1
                            simp only [Option.some.injEq, Prod.mk.injEq] at H
                            obtain ⟨rfl, rfl⟩ := H
                            obtain ⟨Z49_0, Z49_1, Z49_2, Z49_3, Z49_4, Y49_0, Y49_1, Y49_2, Y49_3, Y49_4⟩ := bq5 BK881
                            have q50 : ((wrap64 ((ji23) + 1)) : Int) ≤ ((l0_1.length : Int) : Int) := oda
                            obtain ⟨i050, hi050, _, hsz50, _⟩ := info_parts info105
                            have hroom50 : l0_1.length ≤ c0_1 := HC0_1.out
                            have hC50 : Kd.C k105 _ A0_1 l0_1.length l0_1 := HR0_1.out
                            have ql50 : ((ji23) : Int) ≤ ((wrap64 ((ji23) + 1)) : Int) := oda
                            have q050 : (0 : Int) ≤ ((ji23) : Int) := oda
                            have hcut50 := cut_mid (P := Tryd.prog) 60 105 .i64 .i64 Tryd.underlying60 hi050 7 hsz50 A0_1 l0_1.length c0_1 (ji23) (wrap64 ((ji23) + 1)) q050 ql50 q50 hroom50
                            have hr50 := Kd.C_mid (lo := ((ji23) : Int).toNat) (hi := ((wrap64 ((ji23) + 1)) : Int).toNat) (c := c0_1) hC50 (by omega) (by omega) hroom50
                            obtain ⟨A50, hA50⟩ : ∃ A1, A1 = (if c0_1 = ((ji23) : Int).toNat then A0_1 else (A0_1 : Option Addr).map (·.add (((ji23) : Int).toNat * 7))) := ⟨_, rfl⟩
                            obtain ⟨c50, hc50⟩ : ∃ c1, c1 = c0_1 - ((ji23) : Int).toNat := ⟨_, rfl⟩
                            have hy50 : y892.length = ((wrap64 ((ji23) + 1)) : Int).toNat - ((ji23) : Int).toNat := (by rw [Ny892.out, List.length_drop, List.length_take] <;> omega)
                            rw [show ((l0_1).take ((wrap64 ((ji23) + 1)) : Int).toNat).drop ((ji23) : Int).toNat = y892 from Ny892.out.symm] at hr50
                            replace hr50 : Kd.C k105 _ A50 y892.length y892 := (by rw [hA50]; exact hr50)
                            rw [← hy50, ← hA50, ← hc50] at hcut50
                            have HR895 := am hr50
                            have HC895 := am (show y892.length ≤ c50 from by rw [hy50, hc50]; exact Nat.sub_le_sub_right (Nat.le_trans (by omega) hroom50) _)
                            clear hr50 hC50 hroom50 hi050 hsz50 hc50
                            have KY50 := am hy50
                            have KA50 := am hA50
                            clear hy50 hA50
                            replace q50 := eq_true q50
                            try go_wp2_with (first | ((with_reducible refine gate_callee (f := 92) rfl ?_); refine goesL_ (some 59) rfl rfl Tryd.func92 (by kernel_rfl) rfl #[.slice A50 y892.length c50, .string t890] rfl ar ?_; (with_reducible refine (row_decode.calls kj18 _ _ y892 t890 t896 t897 false _ ?side1 HC895.out (Glob.below HG.out (bl HB)) A27.out).mono ?_); (case side1 => exact Kd.cb HR895 HB); rintro e w51 ⟨v899, rfl, ho0, hb⟩; refine ⟨_, rfl, ?_⟩; have n0_ := am (Kd.R_elder' (Kd.rr HO_9.out) (Kd.R_base ho0) hb); have n1_ := am (Kd.R_lower (Kd.R_new' ho0 (Kd.R_lt (Kd.rr HO_9.out))) (below_size (bl HB))); have n2_ := kb BK881 hb; have n3_ := sb HB hb; clear HO_9; clear BK881; clear HB; have HO_9 := n0_; have HO900 := n1_; have BK881 := n2_; have HB := n3_; clear n0_ n1_ n2_ n3_; (try clear hb); (try clear hb2 hk hi); (try clear ho0)))
                            have n0_ := am (Kd.R_drew HO_9.out)
                            have n1_ := am (Kd.R_drew HO900.out)
                            have n2_ := am (blk_drew BK881.out)
                            have n3_ := am (below_drew1 HB.out)
                            clear HO_9
                            clear HO900
                            clear BK881
                            clear HB
                            have HO_9 := n0_
                            have HO900 := n1_
                            have BK881 := n2_
                            have HB := n3_
                            clear n0_ n1_ n2_ n3_
                            refine start_ (n := 12) (S := fun w' => True) (ds := []) (bb 0 12) (by kernel_rfl) rfl rfl trivial (fun hHeld => ?_); refine with_tabW row_Apply.tab14 row_Apply.bits14 (fun HT_ HW_ => ?_)
                            generalize w51.drew = w52 at HO_9 HO900 BK881 HB hHeld ⊢
                            refine pu HT_ 0 (some 63) (bb 1 12) ?_
                            refine pu HT_ 1 (some 64) (bb 2 12) ?_
                            refine pu HT_ 2 (some 65) (bb 3 12) ?_
                            refine pure_ (i := 3) (N := some 66) (v := undef) (a' := ?_) (bb 4 12) rfl rfl (any_of HT_.out (by kernel_rfl)) (fun _ _ _ h => h) (Or.inr ⟨by rfl, rfl⟩) ?_ ?_
                            rotate_left
                            · simp only [Act.put, List.setIfInBounds_toArray, List.set_cons_zero, List.set_cons_succ, i64_w, i32_w]
                              rfl
                            refine pure_ (i := 4) (N := some 67) (v := undef) (a' := ?_) (bb 5 12) rfl rfl (any_of HT_.out (by kernel_rfl)) (fun _ _ _ h => h) (Or.inr ⟨by rfl, rfl⟩) ?_ ?_
                            rotate_left
                            · simp only [Act.put, List.setIfInBounds_toArray, List.set_cons_zero, List.set_cons_succ, i64_w, i32_w]
                              rfl
                            refine pure_ (i := 5) (N := some 68) (v := undef) (a' := ?_) (bb 6 12) rfl rfl (any_of HT_.out (by kernel_rfl)) (fun _ _ _ h => h) (Or.inr ⟨by rfl, rfl⟩) ?_ ?_
                            rotate_left
                            · simp only [Act.put, List.setIfInBounds_toArray, List.set_cons_zero, List.set_cons_succ, i64_w, i32_w]
                              rfl
                            refine pure_ (i := 6) (N := some 69) (v := undef) (a' := ?_) (bb 7 12) rfl rfl (any_of HT_.out (by kernel_rfl)) (fun _ _ _ h => h) (Or.inr ⟨by rfl, rfl⟩) ?_ ?_
                            rotate_left
                            · simp only [Act.put, List.setIfInBounds_toArray, List.set_cons_zero, List.set_cons_succ, i64_w, i32_w]
                              rfl
                            refine pure_ (i := 7) (N := some 70) (v := undef) (a' := ?_) (bb 8 12) rfl rfl (any_of HT_.out (by kernel_rfl)) (fun _ _ _ h => h) (Or.inr ⟨by rfl, rfl⟩) ?_ ?_
                            rotate_left
                            · simp only [Act.put, List.setIfInBounds_toArray, List.set_cons_zero, List.set_cons_succ, i64_w, i32_w]
                              rfl
                            refine pure_ (i := 8) (N := some 71) (v := undef) (a' := ?_) (bb 9 12) rfl rfl (any_of HT_.out (by kernel_rfl)) (fun _ _ _ h => h) (Or.inr ⟨by rfl, rfl⟩) ?_ ?_
                            rotate_left
                            · simp only [Act.put, List.setIfInBounds_toArray, List.set_cons_zero, List.set_cons_succ, i64_w, i32_w]
                              rfl
                            refine pure_ (i := 9) (N := some 72) (v := undef) (a' := ?_) (bb 10 12) rfl rfl (any_of HT_.out (by kernel_rfl)) (fun _ _ _ h => h) (Or.inr ⟨by rfl, rfl⟩) ?_ ?_
                            rotate_left
                            · simp only [Act.put, List.setIfInBounds_toArray, List.set_cons_zero, List.set_cons_succ, i64_w, i32_w]
                              rfl
                            refine pure_ (i := 10) (N := some 73) (v := undef) (a' := ?_) (bb 11 12) rfl rfl (any_of HT_.out (by kernel_rfl)) (fun _ _ _ h => h) (Or.inr ⟨by rfl, rfl⟩) ?_ ?_
                            rotate_left
                            · simp only [Act.put, List.setIfInBounds_toArray, List.set_cons_zero, List.set_cons_succ, i64_w, i32_w]
                              rfl
                            refine pu HT_ 11 (some 74) (bb 12 12) ?_
                            refine done_ (done_of HT_.out (by kernel_rfl)) ?_
                            try go_wp2
                            go_ret2
                            exact ⟨_, by first | rfl | (simp [errW_none, errW_some] <;> rfl) | (simp only [← hji23]; first | rfl | (simp [errW_none, errW_some] <;> rfl)) | (simp [*, errW_none, errW_some] <;> rfl), by first | exact Kd.R_nil _ _ _ _ _ | exact Kd.N_nil _ _ _ _ _ | exact Kd.V_nil _ _ _ _ _ | exact Kd.Q_nil _ _ _ _ _ | exact Kd.S_nil _ _ _ _ _, bl HB⟩
                        · rw [if_neg c26] at H
                          exact absurd H (by simp)
                      · rw [if_neg c25] at H
                        exact absurd H (by simp)
                    · rw [if_neg c24] at H
                      exact absurd H (by simp)
      · rw [if_neg c10] at H
        exact absurd H (by simp)
  · rw [if_neg c5] at H
    have c5b0 : (t882 == 0) = false := beq_eq_false_iff_ne.mpr c5
    have c5b1 : (t882 != 0) = true := bne_iff_ne.mpr c5
    simp only [Option.some.injEq, Prod.mk.injEq] at H
    obtain ⟨rfl, rfl⟩ := H
    go_enter Tryd.func60, Tryd.ntmps60
    go_wp2_with (first | ((with_reducible refine gate_dst (N := 3) rfl ?_); (try (refine gate_guard (by rfl) ?_; dsimp only)); refine box_event rfl (N := 3) rfl (cs := #[.string a0_0, .slice A0_1 l0_1.length c0_1, .slice A0_2 l0_2.length c0_2, .slice A0_3 l0_3.length c0_3, .slice A0_4 l0_4.length c0_4]) (t := 65) gs ?_; intro gb881 hg w53 hbox hb; have BK881 := am (hbox); have GW881 := gw hg HB; have GE881 := gw hg HB; replace HB := sb HB hb; clear hb hbox hg; obtain ⟨Z54_0, Z54_1, Z54_2, Z54_3, Z54_4, Y54_0, Y54_1, Y54_2, Y54_3, Y54_4⟩ := bq5 BK881) | ((with_reducible refine gate_callee (f := 83) rfl ?_); refine goesL_ (some 18) rfl rfl Tryd.func83 (by kernel_rfl) rfl #[.agg #[.string a0_0, .slice A0_1 l0_1.length c0_1, .slice A0_2 l0_2.length c0_2, .slice A0_3 l0_3.length c0_3, .slice A0_4 l0_4.length c0_4], .slice A1 l1.length c1] rfl ar ?_; (with_reducible refine (schema_Admits.calls a0_0 _ _ l0_1 _ _ l0_2 _ _ l0_3 _ _ l0_4 _ _ l1 t882 _ (Kd.cb HR0_1 HB) HC0_1.out (Kd.cb HR0_2 HB) HC0_2.out (Kd.cb HR0_3 HB) HC0_3.out (Kd.cb HR0_4 HB) HC0_4.out (Kd.cb HR1 HB) HC1.out (Glob.below HG.out (bl HB)) A4.out).mono ?_); rintro e w55 ⟨rfl, hb⟩; refine ⟨_, rfl, ?_⟩; replace BK881 := kb BK881 hb; replace HB := sb HB hb; (try clear hb); (try clear hb2 hk hi)))
    go_ret2
    exact ⟨_, er, by first | exact Kd.R_nil _ _ _ _ _ | exact Kd.N_nil _ _ _ _ _ | exact Kd.V_nil _ _ _ _ _ | exact Kd.Q_nil _ _ _ _ _ | exact Kd.S_nil _ _ _ _ _, bl HB⟩
end Go.Proofs.YtpiifdbicibelaaDoor.PA
end
section
namespace Go.Proofs.YtpiifdbicibelaaDoor.Pure
open Go.RowKit Go.Proofs Go.Proofs.YtpiifdbicibelaaDoorW.PrintWords Go.Proofs.YtpiifdbicibelaaDoorW.PrintLast Go.Proofs.YtpiifdbicibelaaDoorW.PrintMore Go.Proofs.YtpiifdbicibelaaDoor.PA Go.Proofs.YtpiifdbicibelaaDoor.OpenK
set_option linter.unusedVariables false
set_option linter.unusedSimpArgs false
def appOut (c : List S105) : Option (List S50) → List S50 × Int
  | none => ([], 41)
  | some o => if admRow c o = 0 then (o, 0) else ([], 41)
theorem one_slice' {α : Type} {ys : List α} {i : Nat} (h : i < ys.length) : (ys.take (i + 1)).drop i = [ys[i]] := by
  rw [List.take_succ_eq_append_getElem h, List.drop_append_of_le_length (by simp; omega), List.drop_of_length_le (by simp; omega)]
  rfl
theorem kinds_get {c : List S105} {i : Nat} (h : i < c.length) : rd (kindsOf c) (i : Int) = c[i].f1 := by
  rw [rd_int (by simpa [kindsOf] using h)]
  simp [kindsOf]
theorem rowR_one {k : Int} {L : List Int} {vs : List S50} {R : List Int} (hk : 1 ≤ k ∧ k ≤ 5) (hL : Bytes L) (hlen : L.length ≤ 65536) (h : rowR [k] L = some (vs, R)) :
    ∃ w, vs = [w] ∧ L = rowB [w] ++ R ∧ wf50 w ∧ w.f3.size ≤ 65536 ∧ R.length ≤ L.length ∧ R = L.drop (L.length - R.length) := by
  obtain ⟨h1, h2, h3⟩ := rowR_sound (fun x hx => by rw [List.mem_singleton] at hx; subst hx; exact hk) hL hlen h
  have hl := rowR_len h
  match vs, h2 with
  | [w], _ =>
    refine ⟨w, rfl, h1, (h3 w (by simp)).1, (h3 w (by simp)).2, hl, ?_⟩
    have hll := congrArg List.length h1
    rw [List.length_append] at hll
    have e2 : L.length - R.length = (rowB [w]).length := by omega
    rw [e2]
    conv => rhs; rw [h1]
    simp
theorem admRow_set {c : List S105} {out : List S50} {i : Nat} {w : S50} (hl : out.length = c.length) (hi : i < c.length) (h : admRow c out = 0) (hw : fitB c[i] w = true) : admRow c (out.set i w) = 0 := by
  rw [admRow_iff c _ (by rw [List.length_set]; exact hl)]
  intro j h1 h2
  rw [List.length_set] at h1
  rw [List.getElem_set]
  split
  · rename_i e; subst e; exact hw
  · exact (admRow_iff c out hl).1 h j h1 h2
theorem admRow_bad {c : List S105} {ys : List S50} {i : Nat} {w : S50} (hl : ys.length = c.length) (hi : i < c.length) (hy : ys[i]? = some w) (hw : ¬ fitB c[i] w = true) : ¬ admRow c ys = 0 := by
  intro h
  have hi2 : i < ys.length := by omega
  have := (admRow_iff c ys hl).1 h i hi2 hi
  rw [List.getElem?_eq_getElem hi2, Option.some.injEq] at hy
  rw [hy] at this
  exact hw this
/-- What both sides do at a number. -/
theorem admRow_one (c : S105) (w : S50) : admRow [c] [w] = 0 ↔ fitB c w = true := by
  rw [admRow_cons]; simp [admRow]
theorem app_code (c : List S105) (hc : c.length ≤ 64) (hk : ∀ x ∈ c, 1 ≤ x.f1 ∧ x.f1 ≤ 5) (l : List S50) (hll : l.length = c.length) (a : ByteArray) (d : List Int) (e : List S115) (f : List S139) :
    ∀ (n nx : Nat) (out : List S50) (L : List Int), L.length < n → Bytes L → L.length ≤ 65536 → nx ≤ l.length → out.length = c.length → admRow c out = 0 →
    Ev (fun k => row_Apply.l0 k l (strOfNums L) out (nx : Int) a c d e f) (appOut c (appR (kindsOf c) l n nx out L))
  | 0, nx, out, L, hn, _, _, _, _, _ => by omega
  | n + 1, nx, out, L, hn, hL, hlen, hnx, hol, hadm => by
    by_cases h0 : L = []
    · refine Ev.from_ 1 fun k => ?_
      simp only [row_Apply.l0]
      rw [if_pos (str_empty.2 h0)]
      simp only [appR]
      rw [if_pos h0]
      simp only [appOut]
      rw [if_pos hadm]
    have hvar := varint_ev L hL (by omega)
    have hw1 : True → IntKind.u64.wrap (wrap64 ((l.length : Int) - (nx : Int))) = ((l.length - nx : Nat) : Int) := fun _ => by rw [wrap64_id (by omega) (by omega), u64_wrap_id (by omega) (by omega)]; omega
    have bad : ∀ (x y : Int) (s : ByteArray), Ev (fun k => row_Apply.j1 k l out x y s true a c d e f) (([] : List S50), (41 : Int)) := fun x y s => Ev.from_ 1 fun k => by
      simp only [row_Apply.j1]; rw [if_pos trivial]
    simp only [appR]
    rw [if_neg h0]
    cases hv : vr 0 L with
    | none =>
      rw [hv] at hvar
      refine Ev.dep2 hvar (bad (nx : Int) 0 (⟨#[]⟩ : ByteArray)) fun k hk1 hk2 => ?_
      simp only [row_Apply.l0]
      rw [if_neg (fun g => h0 (str_empty.1 g)), hk1]
      simp only [Option.bind_some]
      rw [if_neg (by decide)]
      exact hk2
    | some p =>
      obtain ⟨dd, R⟩ := p
      rw [hv] at hvar
      obtain ⟨v1, _, _, _⟩ := vr_sound 0 L dd R hL hv
      have hR : Bytes R := by rw [v1] at hL; exact hL.app.2
      have hl1 := vr_len 0 L dd R hv
      simp only
      by_cases hd : l.length - nx ≤ dd
      · rw [if_pos hd]
        refine Ev.dep2 hvar (bad (nx : Int) (dd : Int) (strOfNums R)) fun k hk1 hk2 => ?_
        simp only [row_Apply.l0]
        rw [if_neg (fun g => h0 (str_empty.1 g)), hk1]
        simp only [Option.bind_some]
        rw [if_pos trivial, hw1 trivial, decide_eq_true (by omega)]
        exact hk2
      · rw [if_neg hd]
        have hi : nx + dd < c.length := by omega
        have hil : nx + dd < l.length := by omega
        have hio : nx + dd < out.length := by omega
        have hki := hk _ (List.getElem_mem hi)
        rw [kinds_get hi]
        have hw2 : True → wrap64 ((nx : Int) + (wrap64 (dd : Int))) = ((nx + dd : Nat) : Int) := fun _ => by rw [wrap64_id (n := (dd : Int)) (by omega) (by omega), wrap64_id (by omega) (by omega)]; omega
        have hw3 : True → wrap64 (((nx + dd : Nat) : Int) + 1) = ((nx + dd + 1 : Nat) : Int) := fun _ => wrap_one (nx + dd) (by omega)
        obtain ⟨r, r1, r2⟩ := decode_ev4 [c[nx + dd]] (by simp) (fun x hx => by rw [List.mem_singleton] at hx; subst hx; exact hki) R hR (by omega)
        have hkk : kindsOf [c[nx + dd]] = [c[nx + dd].f1] := rfl
        rw [hkk] at r2
        have hj : ∀ v : List S50 × Int, Ev (fun k => row_Apply.j1 k l out (nx : Int) (dd : Int) (strOfNums R) false a c d e f) v → Ev (fun k => row_Apply.l0 k l (strOfNums L) out (nx : Int) a c d e f) v := fun v hv2 => by
          refine Ev.dep2 hvar hv2 fun k hk1 hk2 => ?_
          simp only [row_Apply.l0]
          rw [if_neg (fun g => h0 (str_empty.1 g)), hk1]
          simp only [Option.bind_some]
          rw [if_pos trivial, hw1 trivial, decide_eq_false (by omega)]
          exact hk2
        have jj : ∀ k, row_Apply.j1 (k + 1) l out (nx : Int) (dd : Int) (strOfNums R) false a c d e f = (row_decode.f k [c[nx + dd]] (strOfNums R)).bind fun bt896 => (if bt896.2.2 = true then (if 0 < (bt896.1.length : Int) then ((row_same.f ((rd_T50 bt896.1 0).f0) ((rd_T50 bt896.1 0).f1) ((rd_T50 bt896.1 0).f2) ((rd_T50 bt896.1 0).f3) (l[nx + dd].f0) (l[nx + dd].f1) (l[nx + dd].f2) (l[nx + dd].f3)).bind fun t903 => (if t903 = true then (some (([] : List (S50)), 41)) else (row_Apply.l0 k l bt896.2.1 (out.set (nx + dd) (⟨(rd_T50 bt896.1 0).f0, (rd_T50 bt896.1 0).f1, (rd_T50 bt896.1 0).f2, (rd_T50 bt896.1 0).f3⟩ : S50)) ((nx + dd + 1 : Nat) : Int) a c d e f))) else (none)) else (some (([] : List (S50)), 41))) := by
          intro k
          simp only [row_Apply.j1, hw2 trivial, hw3 trivial]
          have t1 : (0 : Int) ≤ ((nx + dd : Nat) : Int) := by omega
          have t2 : ((nx + dd : Nat) : Int) ≤ ((nx + dd + 1 : Nat) : Int) := by omega
          have t3 : ((nx + dd + 1 : Nat) : Int) ≤ (c.length : Int) := by omega
          have t4 : ((nx + dd : Nat) : Int) < (l.length : Int) := by omega
          have t5 : ((nx + dd : Nat) : Int) < (out.length : Int) := by omega
          rw [if_neg (by decide)]
          simp only [if_pos t1, if_pos t2, if_pos t3, if_pos t4, if_pos t5, Int.toNat_natCast, one_slice' hi, rd_get l (nx + dd) _ (List.getElem?_eq_getElem hil)]
        cases hr : rowR [c[nx + dd].f1] R with
        | none =>
          rw [hr] at r2
          refine hj _ (Ev.step jj (Ev.bind r1 (Ev.neg (by rw [show r.2.2 = false from r2]; decide) Ev.pure)))
        | some q =>
          obtain ⟨vs, R'⟩ := q
          rw [hr] at r2
          obtain ⟨w, rfl, e1, w1, w2, hl2, _⟩ := rowR_one hki hR (by omega) hr
          have hR' : Bytes R' := by rw [e1] at hR; exact hR.app.2
          simp only [decSpec] at r2
          simp only
          rw [rd_get l (nx + dd) _ (List.getElem?_eq_getElem hil)]
          by_cases hf : fitB c[nx + dd] w = true
          · rw [if_pos ((admRow_one _ _).2 hf)] at r2
            subst r2
            refine hj _ (Ev.step jj (Ev.bind r1 (Ev.pos rfl (Ev.pos (by show (0 : Int) < 1; decide) ?_))))
            have hrd : rd_T50 ([] ++ [w]) 0 = w := rfl
            simp only [hrd]
            refine Ev.bind (Ev.const (sm_code w l[nx + dd])) ?_
            cases hs : smB w l[nx + dd] with
            | true =>
              rw [if_pos rfl]
              exact Ev.pos rfl Ev.pure
            | false =>
              rw [if_neg (by decide)]
              refine Ev.neg (by decide) ?_
              exact app_code c hc hk l hll a d e f n (nx + dd + 1) (out.set (nx + dd) w) R' (by omega) hR' (by omega) (by omega) (by rw [List.length_set]; exact hol) (admRow_set hol hi hadm hf)
          · rw [if_neg (fun g => hf ((admRow_one _ _).1 g))] at r2
            have hres : Ev (fun k => row_Apply.l0 k l (strOfNums L) out (nx : Int) a c d e f) (([] : List S50), (41 : Int)) := hj _ (Ev.step jj (Ev.bind r1 (Ev.neg (by rw [r2]; decide) Ev.pure)))
            cases hs : smB w l[nx + dd] with
            | true =>
              rw [if_pos rfl]
              exact hres
            | false =>
              rw [if_neg (by decide)]
              cases ha : appR (kindsOf c) l n (nx + dd + 1) (out.set (nx + dd) w) R' with
              | none => exact hres
              | some ys =>
                obtain ⟨k1, k2⟩ := app_keep _ _ _ _ _ _ _ ha
                rw [List.length_set] at k1
                have := k2 (nx + dd) (by omega)
                rw [List.getElem?_set_self hio] at this
                have hb := admRow_bad (by omega) hi this hf
                have e2 : appOut c (some ys) = ([], 41) := if_neg hb
                rw [e2]; exact hres
/-- What both sides tell of a row behind a change. -/
def appRes (a : ByteArray) (c : List S105) (d : List Int) (e : List S115) (f : List S139) (l : List S50) (L : List Int) : List S50 × Int :=
  if admT a c d e f l = 0 then (if 65536 < L.length then ([], 3) else appOut c (appR (kindsOf c) l (L.length + 100) 0 l L)) else ([], admT a c d e f l)
theorem appRes_code {a : ByteArray} {c : List S105} {d : List Int} {e : List S115} {f : List S139} (h : WfT a c d e f) {l : List S50} (hl : ∀ v ∈ l, wf50 v) {L : List Int} (hL : Bytes L) : Ev (fun k => row_Apply.f k a c d e f l (strOfNums L)) (appRes a c d e f l L) := by
  simp only [row_Apply.f, admits_f h hl, Option.bind_some, str_size]
  unfold appRes
  by_cases h0 : admT a c d e f l = 0
  · rw [if_pos h0]
    refine Ev.pos h0 ?_
    by_cases hb : 65536 < L.length
    · rw [if_pos hb]; exact Ev.pos (by omega) Ev.pure
    · rw [if_neg hb]
      have hch := admT_check h0
      obtain ⟨h1, h2⟩ := (admT_iff hch).1 h0
      have hc := checkT_len hch
      refine Ev.neg (by omega) (Ev.pos (by rw [List.length_nil]; omega) ?_)
      exact app_code c hc (kinds_ok hch) l h1 a d e f (L.length + 100) 0 l L (by omega) hL (by omega) (by omega) h1 h2
  · rw [if_neg h0]; exact Ev.neg h0 Ev.pure
end Go.Proofs.YtpiifdbicibelaaDoor.Pure
end
section
namespace Go.Proofs.YtpiifdbicibelaaDoor.PA
open Go.RowKit Go.Proofs.YtpiifdbicibelaaDoorW.PrintWords Go.Proofs.YtpiifdbicibelaaDoorW.PrintLast Go.Proofs.YtpiifdbicibelaaDoorW.PrintMore
attribute [local go_sem] max2_int min2_int max_two min_two max_three min_three max_four min_four
set_option linter.unusedVariables false
set_option linter.unusedSimpArgs false
def vellumlaw04_RowTurns.f (k : Nat) (a0_0 : ByteArray) (l0_1 : List (S105)) (l0_2 : List Int) (l0_3 : List (S115)) (l0_4 : List (S139)) (l1_0 : List (S50)) (l1_1 : List (S50)) (a2 : ByteArray) : Option (Bool) := (row_Change.f k a0_0 l0_1 l0_2 l0_3 l0_4 l1_0 l1_1).bind fun bt968 => (if bt968.2 = 0 then ((row_Apply.f k a0_0 l0_1 l0_2 l0_3 l0_4 l1_0 bt968.1).bind fun bt970 => (if bt970.2 = 0 then ((vellumref01_SameRow.f k bt970.1 l1_1).bind fun t974 => (if t974 = true then ((row_Change.f k a0_0 l0_1 l0_2 l0_3 l0_4 l1_0 l1_0).bind fun bt975 => (if bt975.2 = 0 then (if (bt975.1.size : Int) > 0 then (some false) else ((row_Apply.f k a0_0 l0_1 l0_2 l0_3 l0_4 l1_0 a2).bind fun bt977 => (if bt977.2 = 0 then ((row_Change.f k a0_0 l0_1 l0_2 l0_3 l0_4 l1_0 bt977.1).bind fun bt981 => (if bt981.2 = 0 then (if bt981.1.toList = a2.toList then ((vellumlaw04_awake.f k).bind fun t983 => (some t983)) else (some false)) else (some false))) else (if (bt977.1.length : Int) = 0 then ((vellumlaw04_awake.f k).bind fun t984 => (some t984)) else (some false))))) else (some false))) else (some false))) else (some false))) else ((row_Apply.f k a0_0 l0_1 l0_2 l0_3 l0_4 l1_0 a2).bind fun bt985 => (if bt985.2 = 0 then ((row_Change.f k a0_0 l0_1 l0_2 l0_3 l0_4 l1_0 bt985.1).bind fun bt989 => (if bt989.2 = 0 then (if bt989.1.toList = a2.toList then ((vellumlaw04_awake.f k).bind fun t991 => (some t991)) else (some false)) else (some false))) else (if (bt985.1.length : Int) = 0 then ((vellumlaw04_awake.f k).bind fun t992 => (some t992)) else (some false)))))
end Go.Proofs.YtpiifdbicibelaaDoor.PA
end
