/- Part 5 of what the proof of RowApplies stands on: words for walks, printed functions with their contracts, plain laws. -/
import Derived.Test.YtpiifdbicibelaaDoorKRowApplies3
section
namespace Go.Proofs.YtpiifdbicibelaaDoor.PA
open Go.RowKit Go.Proofs.YtpiifdbicibelaaDoorW.PrintWords Go.Proofs.YtpiifdbicibelaaDoorW.PrintLast Go.Proofs.YtpiifdbicibelaaDoorW.PrintMore
attribute [local go_sem] max2_int min2_int max_two min_two max_three min_three max_four min_four
set_option linter.unusedVariables false
set_option linter.unusedSimpArgs false
set_option maxHeartbeats 8000000 in
set_option maxRecDepth 100000 in
theorem row_decode.calls (k : Nat) (A0 : Option Addr) (c0 : Nat) (l0 : List (S105)) (a1 : ByteArray) (r1 : List (S50)) (r2 : ByteArray) (r3 : Bool) (w : World) (hr0 : Kd.C k105 w A0 l0.length l0) (hc0 : l0.length ≤ c0) (hG : Glob w) (h : row_decode.f k l0 a1 = some (r1, r2, r3)) :
  Calls Tryd.prog 92 #[.slice A0 l0.length c0, .string a1] w fun e w' => ∃ v0_ : Value, e = .returned (.tuple #[v0_, .string r2, .bool r3]) ∧ Kd.R k50 50 w' w.heap.size (fun _ => True) v0_ r1 ∧ Below w.heap.size w w' := by
 have hu105 := Tryd.underlying105
 have hu50 := Tryd.underlying50
 have HR0 := am hr0
 have HC0 := am hc0
 clear hr0 hc0
 have HG := am hG
 clear hG
 have HB := am (Below.refl w.heap.size w)
 have H : (if (wrap64 (Int.tdiv (wrap64 ((wrap64 (2 * (l0.length : Int))) + 7)) 8)) > (a1.size : Int) then (some (([] : List (S50)), (⟨#[]⟩ : ByteArray), false)) else (if 0 ≤ (wrap64 (Int.tdiv (wrap64 ((wrap64 (2 * (l0.length : Int))) + 7)) 8)) then (if (wrap64 (Int.tdiv (wrap64 ((wrap64 (2 * (l0.length : Int))) + 7)) 8)) ≤ (a1.size : Int) then (row_decode.l0 k l0 (a1.extract ((wrap64 (Int.tdiv (wrap64 ((wrap64 (2 * (l0.length : Int))) + 7)) 8)) : Int).toNat a1.size) (wrap64 (Int.tdiv (wrap64 ((wrap64 (2 * (l0.length : Int))) + 7)) 8)) (a1.extract 0 ((wrap64 (Int.tdiv (wrap64 ((wrap64 (2 * (l0.length : Int))) + 7)) 8)) : Int).toNat) (l0.length : Int)) else (none)) else (none))) = some (r1, r2, r3) := h
 clear h
 by_cases c3 : (wrap64 (Int.tdiv (wrap64 ((wrap64 (2 * (l0.length : Int))) + 7)) 8)) > (a1.size : Int)
 ·rw [if_pos c3] at H
  have c3b0 : decide ((a1.size : Int) < (wrap64 (Int.tdiv (wrap64 ((wrap64 (2 * (l0.length : Int))) + 7)) 8))) = true := decide_eq_true c3
  clear c3
  simp only [Option.some.injEq, Prod.mk.injEq] at H
  obtain ⟨rfl, rfl, rfl⟩ := H
  go_enter Tryd.func92, Tryd.ntmps92
  go_wp2
  go_ret3
  exact ⟨_, er, by first | exact Kd.R_nil _ _ _ _ _ | exact Kd.N_nil _ _ _ _ _ | exact Kd.V_nil _ _ _ _ _ | exact Kd.Q_nil _ _ _ _ _ | exact Kd.S_nil _ _ _ _ _, bl HB⟩
 ·rw [if_neg c3] at H
  have c3b0 : decide ((a1.size : Int) < (wrap64 (Int.tdiv (wrap64 ((wrap64 (2 * (l0.length : Int))) + 7)) 8))) = false := decide_eq_false c3
  clear c3
  obtain ⟨ji4, hji4⟩ : ∃ j_ : Int, (wrap64 (Int.tdiv (wrap64 ((wrap64 (2 * (l0.length : Int))) + 7)) 8)) = j_ := ⟨_, rfl⟩
  replace H : (if 0 ≤ (ji4) then (if (ji4) ≤ (a1.size : Int) then (row_decode.l0 k l0 (a1.extract ((ji4) : Int).toNat a1.size) ji4 (a1.extract 0 ((ji4) : Int).toNat) (l0.length : Int)) else (none)) else (none)) = some (r1, r2, r3) := by first | (rw [hji4] at H; exact H) | (simp only [hji4] at H ⊢; exact H)
  (try rw [hji4] at c3b0)
  have hji4w : (IntKind.i64.wrap (Int.tdiv (wrap64 ((wrap64 (2 * (l0.length : Int))) + 7)) 8)) = ji4 := (i64_w _).trans hji4
  by_cases c5 : 0 ≤ (ji4)
  ·rw [if_pos c5] at H
   have c5b0 := eq_true c5
   have c5b1 : decide (0 ≤ (ji4)) = true := decide_eq_true c5
   clear c5
   by_cases c6 : (ji4) ≤ (a1.size : Int)
   ·rw [if_pos c6] at H
    have c6b0 := eq_true c6
    have c6b1 : decide ((ji4) ≤ (a1.size : Int)) = true := decide_eq_true c6
    clear c6
    have c7b0 := eq_true (oda : 0 ≤ (ji4))
    have c8b0 := eq_true (oda : (ji4) ≤ (a1.size : Int))
    have H' := am H
    clear H
    go_enter Tryd.func92, Tryd.ntmps92
    try go_wp2
    have n0_ := am (below_drew1 HB.out)
    clear HB
    have HB := n0_
    clear n0_
    refine start_ (n := 8) (S := fun w' => True) (ds := []) (bb 0 8) (by kernel_rfl) rfl rfl trivial (fun hHeld => ?_); refine with_tabW row_decode.tab4 row_decode.bits4 (fun HT_ HW_ => ?_)
    generalize w.drew = w9 at HB hHeld ⊢
    refine pu HT_ 0 (some 25) (bb 1 8) ?_
    refine pu HT_ 1 (some 26) (bb 2 8) ?_
    refine pu HT_ 2 (some 27) (bb 3 8) ?_
    refine pu HT_ 3 (some 28) (bb 4 8) ?_
    refine pu HT_ 4 (some 29) (bb 5 8) ?_
    refine pu HT_ 5 (some 30) (bb 6 8) ?_
    refine pu HT_ 6 (some 8) (bb 7 8) ?_
    refine pu HT_ 7 (some 1) (bb 8 8) ?_
    refine done_ (done_of HT_.out (by kernel_rfl)) ?_
    try go_wp2
    go_loopg [9] k (fun kq v9 w' => ∃ (x9_1 : Int), v9 = .int .i64 x9_1 ∧ Aside0 (row_decode.l0 kq l0 (a1.extract ((ji4) : Int).toNat a1.size) ji4 (a1.extract 0 ((ji4) : Int).toNat) x9_1 = some (r1, r2, r3)) ∧ Aside0 (kq ≤ k) ∧ Aside0 (Below w.heap.size w w'))
    case atStart => exact ⟨((l0.length : Int)), eb, H', ⟨Nat.le_refl _⟩, ⟨bl HB⟩⟩
    case round =>
     clear H'
     (try clear p2); (try clear c3); (try clear c3b0); (try clear c5); (try clear c5b0 c5b1); (try clear c6); (try clear c6b0 c6b1); (try clear p6); (try clear c7); (try clear c7b0); (try clear c8); (try clear c8b0); (try clear c9)
     obtain ⟨x9_1, rfl, HA, HK1, HB⟩ := hrel
     cases gk with
     | zero => exact absurd HA.out (by simp [row_decode.l0])
     | succ k1 =>
      have H := HA.out
      clear HA
      simp only [row_decode.l0] at H
      by_cases c10 : x9_1 < (wrap64 (4 * ji4))
      ·rw [if_pos c10] at H
       have c10b0 : decide (x9_1 < (wrap64 (4 * ji4))) = true := decide_eq_true c10
       clear c10
       obtain ⟨ji11, hji11⟩ : ∃ j_ : Int, (wrap64 (Int.tdiv x9_1 4)) = j_ := ⟨_, rfl⟩
       replace H : (if 0 ≤ (ji11) then (if (ji11) < ((a1.extract 0 ((ji4) : Int).toNat).size : Int) then (if 0 ≤ (wrap64 (2 * (Int.tmod x9_1 4))) then (if (Go.bits .and .u8 (shr .u8 (bt (a1.extract 0 ((ji4) : Int).toNat) (ji11)) (wrap64 (2 * (Int.tmod x9_1 4)))) 3) = 0 then (row_decode.l0 k1 l0 (a1.extract ((ji4) : Int).toNat a1.size) ji4 (a1.extract 0 ((ji4) : Int).toNat) (wrap64 (x9_1 + 1))) else (some (([] : List (S50)), (⟨#[]⟩ : ByteArray), false))) else (none)) else (none)) else (none)) = some (r1, r2, r3) := by first | (rw [hji11] at H; exact H) | (simp only [hji11] at H ⊢; exact H)
       have hji11w : (IntKind.i64.wrap (Int.tdiv x9_1 4)) = ji11 := (i64_w _).trans hji11
       by_cases c12 : 0 ≤ (ji11)
       ·rw [if_pos c12] at H
        have c12b0 : decide (0 ≤ (ji11)) = true := decide_eq_true c12
        clear c12
        by_cases c13 : (ji11) < ((a1.extract 0 ((ji4) : Int).toNat).size : Int)
        ·rw [if_pos c13] at H
         have c13b0 : decide ((ji11) < ((a1.extract 0 ((ji4) : Int).toNat).size : Int)) = true := decide_eq_true c13
         clear c13
         obtain ⟨ji15, hji15⟩ : ∃ j_ : Int, (wrap64 (2 * (Int.tmod x9_1 4))) = j_ := ⟨_, rfl⟩
         replace H : (if 0 ≤ (ji15) then (if (Go.bits .and .u8 (shr .u8 (bt (a1.extract 0 ((ji4) : Int).toNat) (ji11)) (ji15)) 3) = 0 then (row_decode.l0 k1 l0 (a1.extract ((ji4) : Int).toNat a1.size) ji4 (a1.extract 0 ((ji4) : Int).toNat) (wrap64 (x9_1 + 1))) else (some (([] : List (S50)), (⟨#[]⟩ : ByteArray), false))) else (none)) = some (r1, r2, r3) := by first | (rw [hji15] at H; exact H) | (simp only [hji15] at H ⊢; exact H)
         have hji15w : (IntKind.i64.wrap (2 * (Int.tmod x9_1 4))) = ji15 := (i64_w _).trans hji15
         by_cases c16 : 0 ≤ (ji15)
         ·rw [if_pos c16] at H
          have c16b0 := eq_true c16
          have c16b1 : decide (0 ≤ (ji15)) = true := decide_eq_true c16
          clear c16
          obtain ⟨ji17, hji17⟩ : ∃ j_ : Int, (shr .u8 (bt (a1.extract 0 ((ji4) : Int).toNat) (ji11)) (ji15)) = j_ := ⟨_, rfl⟩
          replace H : (if (Go.bits .and .u8 (ji17) 3) = 0 then (row_decode.l0 k1 l0 (a1.extract ((ji4) : Int).toNat a1.size) ji4 (a1.extract 0 ((ji4) : Int).toNat) (wrap64 (x9_1 + 1))) else (some (([] : List (S50)), (⟨#[]⟩ : ByteArray), false))) = some (r1, r2, r3) := by first | (rw [hji17] at H; exact H) | (simp only [hji17] at H ⊢; exact H)
          have hji17_ : ((bt (a1.extract 0 ((ji4) : Int).toNat) (ji11)) / 2 ^ min (ji15).toNat 8) = ji17 := hji17
          have hji17z : (ji15) ≤ 8 → ((bt (a1.extract 0 ((ji4) : Int).toNat) (ji11)) / 2 ^ (ji15).toNat) = ji17 := shr_small hji17
          by_cases c18 : (Go.bits .and .u8 (ji17) 3) = 0
          ·rw [if_pos c18] at H
           have c18b0 : ((Go.bits .and .u8 (ji17) 3) == 0) = true := beq_iff_eq.mpr c18
           have c18b1 : ((Go.bits .and .u8 (ji17) 3) != 0) = false := bne_eq_false_iff_eq.mpr c18
           clear c18
           have H' := am H
           clear H
           have p14 : 0 ≤ ((ji11) : Int) := oda
           have q14 : (ji11) < ((a1.extract 0 ((ji4) : Int).toNat).size : Int) := oda
           have hx14 := bt_at (a1.extract 0 ((ji4) : Int).toNat) (ji11)
           (try (have qs14 := q14; simp only [ByteArray.size_extract, Nat.sub_zero] at qs14; replace qs14 := eq_true qs14))
           replace p14 := eq_true p14
           replace q14 := eq_true q14
           go_wp2
           go_roundg k1
           case measure => have := HK1.out; omega
           case rel => exact ⟨(wrap64 (x9_1 + 1)), eb, H', ⟨by have := HK1.out; omega⟩, ⟨bl HB⟩⟩
          ·rw [if_neg c18] at H
           have c18b0 : ((Go.bits .and .u8 (ji17) 3) == 0) = false := beq_eq_false_iff_ne.mpr c18
           have c18b1 : ((Go.bits .and .u8 (ji17) 3) != 0) = true := bne_iff_ne.mpr c18
           simp only [Option.some.injEq, Prod.mk.injEq] at H
           obtain ⟨rfl, rfl, rfl⟩ := H
           have p14 : 0 ≤ ((ji11) : Int) := oda
           have q14 : (ji11) < ((a1.extract 0 ((ji4) : Int).toNat).size : Int) := oda
           have hx14 := bt_at (a1.extract 0 ((ji4) : Int).toNat) (ji11)
           (try (have qs14 := q14; simp only [ByteArray.size_extract, Nat.sub_zero] at qs14; replace qs14 := eq_true qs14))
           replace p14 := eq_true p14
           replace q14 := eq_true q14
           go_wp2
           go_ret3
           exact ⟨_, by first | rfl | (simp [errW_none, errW_some] <;> rfl) | (simp only [← hji4, ← hji11, ← hji15, ← hji17]; first | rfl | (simp [errW_none, errW_some] <;> rfl)) | (simp [*, errW_none, errW_some] <;> rfl), by first | exact Kd.R_nil _ _ _ _ _ | exact Kd.N_nil _ _ _ _ _ | exact Kd.V_nil _ _ _ _ _ | exact Kd.Q_nil _ _ _ _ _ | exact Kd.S_nil _ _ _ _ _, bl HB⟩
         ·rw [if_neg c16] at H
          exact absurd H (by simp)
        ·rw [if_neg c13] at H
         exact absurd H (by simp)
       ·rw [if_neg c12] at H
        exact absurd H (by simp)
      ·rw [if_neg c10] at H
       have c10b0 : decide (x9_1 < (wrap64 (4 * ji4))) = false := decide_eq_false c10
       clear c10
       have H' := am H
       clear H
       go_wp2
       go_loopg [1, 10, 51] k1 (fun kq v1 v10 v51 w' => ∃ (x1_2 : ByteArray) (x10_2 : List (S50)) (x51_2 : Int), v1 = .string x1_2 ∧ v51 = .int .i64 x51_2 ∧ Aside0 (row_decode.l1 kq x1_2 (a1.extract 0 ((ji4) : Int).toNat) x10_2 l0 (l0.length : Int) x51_2 = some (r1, r2, r3)) ∧ Aside0 (kq ≤ k1) ∧ Aside0 (Kd.R k50 50 w' w.heap.size (fun _ => True) v10 x10_2) ∧ Aside0 (Below w.heap.size w w'))
       case atStart => exact ⟨((a1.extract ((ji4) : Int).toNat a1.size)), (([] : List (S50))), (0), (by first | rfl | (simp; done) | (simp only [← hji4] <;> (first | rfl | simp)) | (simp [*]; done)), eb, H', ⟨Nat.le_refl _⟩, ⟨by first | exact Kd.R_nil _ _ _ _ _ | exact Kd.N_nil _ _ _ _ _ | exact Kd.V_nil _ _ _ _ _ | exact Kd.Q_nil _ _ _ _ _ | exact Kd.S_nil _ _ _ _ _⟩, ⟨bl HB⟩⟩
       case round =>
        clear H'
        (try clear c1); (try clear p1); (try clear q1); (try clear hx1); (try clear p2); (try clear c3); (try clear c3b0); (try clear c5); (try clear c5b0 c5b1); (try clear c6); (try clear c6b0 c6b1); (try clear p6); (try clear c7); (try clear c7b0); (try clear c8); (try clear c8b0); (try clear c9); (try clear c10); (try clear c10b0); (try clear c12); (try clear c12b0); (try clear c13); (try clear c13b0); (try clear p14); (try clear q14); (try clear hx14); (try clear c16); (try clear c16b0 c16b1); (try clear c18); (try clear c18b0 c18b1); (try clear p14); (try clear p2); (try clear p6); (try clear q14)
        obtain ⟨x1_2, x10_2, x51_2, rfl, rfl, HA, HK2, HO_10, HB⟩ := hrel
        cases gk with
        | zero => exact absurd HA.out (by simp [row_decode.l1])
        | succ k2 =>
         have H := HA.out
         clear HA
         simp only [row_decode.l1] at H
         by_cases c19 : x51_2 < (l0.length : Int)
         ·rw [if_pos c19] at H
          have c19b0 : decide (x51_2 < (l0.length : Int)) = true := decide_eq_true c19
          clear c19
          by_cases c20 : 0 ≤ x51_2
          ·rw [if_pos c20] at H
           have c20b0 : decide (0 ≤ x51_2) = true := decide_eq_true c20
           clear c20
           by_cases c21 : x51_2 < (l0.length : Int)
           ·rw [if_pos c21] at H
            have c21b0 : decide (x51_2 < (l0.length : Int)) = true := decide_eq_true c21
            clear c21
            obtain ⟨ji22, hji22⟩ : ∃ j_ : Int, (wrap64 (Int.tdiv x51_2 4)) = j_ := ⟨_, rfl⟩
            replace H : (if 0 ≤ (ji22) then (if (ji22) < ((a1.extract 0 ((ji4) : Int).toNat).size : Int) then (if 0 ≤ (wrap64 (2 * (Int.tmod x51_2 4))) then ((row_get.f k2 ((rd_T105 l0 x51_2).f0) ((rd_T105 l0 x51_2).f1) ((rd_T105 l0 x51_2).f2) ((rd_T105 l0 x51_2).f3.f0) ((rd_T105 l0 x51_2).f3.f1) ((rd_T105 l0 x51_2).f3.f2) ((rd_T105 l0 x51_2).f3.f3) (Go.bits .and .u8 (shr .u8 (bt (a1.extract 0 ((ji4) : Int).toNat) (ji22)) (wrap64 (2 * (Int.tmod x51_2 4)))) 3) x1_2).bind fun bt812 => (if bt812.2.2.2.2.2 = true then (if x10_2.length < 3518437208883 then (row_decode.l1 k2 bt812.2.2.2.2.1 (a1.extract 0 ((ji4) : Int).toNat) (x10_2 ++ [(⟨bt812.1, bt812.2.1, bt812.2.2.1, bt812.2.2.2.1⟩ : S50)]) l0 (l0.length : Int) (wrap64 (x51_2 + 1))) else (none)) else (some (([] : List (S50)), (⟨#[]⟩ : ByteArray), false)))) else (none)) else (none)) else (none)) = some (r1, r2, r3) := by first | (rw [hji22] at H; exact H) | (simp only [hji22] at H ⊢; exact H)
            have hji22w : (IntKind.i64.wrap (Int.tdiv x51_2 4)) = ji22 := (i64_w _).trans hji22
            by_cases c23 : 0 ≤ (ji22)
            ·rw [if_pos c23] at H
             have c23b0 : decide (0 ≤ (ji22)) = true := decide_eq_true c23
             clear c23
             by_cases c24 : (ji22) < ((a1.extract 0 ((ji4) : Int).toNat).size : Int)
             ·rw [if_pos c24] at H
              have c24b0 : decide ((ji22) < ((a1.extract 0 ((ji4) : Int).toNat).size : Int)) = true := decide_eq_true c24
              clear c24
              obtain ⟨ji26, hji26⟩ : ∃ j_ : Int, (wrap64 (2 * (Int.tmod x51_2 4))) = j_ := ⟨_, rfl⟩
              replace H : (if 0 ≤ (ji26) then ((row_get.f k2 ((rd_T105 l0 x51_2).f0) ((rd_T105 l0 x51_2).f1) ((rd_T105 l0 x51_2).f2) ((rd_T105 l0 x51_2).f3.f0) ((rd_T105 l0 x51_2).f3.f1) ((rd_T105 l0 x51_2).f3.f2) ((rd_T105 l0 x51_2).f3.f3) (Go.bits .and .u8 (shr .u8 (bt (a1.extract 0 ((ji4) : Int).toNat) (ji22)) (ji26)) 3) x1_2).bind fun bt812 => (if bt812.2.2.2.2.2 = true then (if x10_2.length < 3518437208883 then (row_decode.l1 k2 bt812.2.2.2.2.1 (a1.extract 0 ((ji4) : Int).toNat) (x10_2 ++ [(⟨bt812.1, bt812.2.1, bt812.2.2.1, bt812.2.2.2.1⟩ : S50)]) l0 (l0.length : Int) (wrap64 (x51_2 + 1))) else (none)) else (some (([] : List (S50)), (⟨#[]⟩ : ByteArray), false)))) else (none)) = some (r1, r2, r3) := by first | (rw [hji26] at H; exact H) | (simp only [hji26] at H ⊢; exact H)
              have hji26w : (IntKind.i64.wrap (2 * (Int.tmod x51_2 4))) = ji26 := (i64_w _).trans hji26
              by_cases c27 : 0 ≤ (ji26)
              ·rw [if_pos c27] at H
               have c27b0 := eq_true c27
               have c27b1 : decide (0 ≤ (ji26)) = true := decide_eq_true c27
               clear c27
               obtain ⟨ji28, hji28⟩ : ∃ j_ : Int, (shr .u8 (bt (a1.extract 0 ((ji4) : Int).toNat) (ji22)) (ji26)) = j_ := ⟨_, rfl⟩
               replace H : ((row_get.f k2 ((rd_T105 l0 x51_2).f0) ((rd_T105 l0 x51_2).f1) ((rd_T105 l0 x51_2).f2) ((rd_T105 l0 x51_2).f3.f0) ((rd_T105 l0 x51_2).f3.f1) ((rd_T105 l0 x51_2).f3.f2) ((rd_T105 l0 x51_2).f3.f3) (Go.bits .and .u8 (ji28) 3) x1_2).bind fun bt812 => (if bt812.2.2.2.2.2 = true then (if x10_2.length < 3518437208883 then (row_decode.l1 k2 bt812.2.2.2.2.1 (a1.extract 0 ((ji4) : Int).toNat) (x10_2 ++ [(⟨bt812.1, bt812.2.1, bt812.2.2.1, bt812.2.2.2.1⟩ : S50)]) l0 (l0.length : Int) (wrap64 (x51_2 + 1))) else (none)) else (some (([] : List (S50)), (⟨#[]⟩ : ByteArray), false)))) = some (r1, r2, r3) := by first | (rw [hji28] at H; exact H) | (simp only [hji28] at H ⊢; exact H)
               have hji28_ : ((bt (a1.extract 0 ((ji4) : Int).toNat) (ji22)) / 2 ^ min (ji26).toNat 8) = ji28 := hji28
               have hji28z : (ji26) ≤ 8 → ((bt (a1.extract 0 ((ji4) : Int).toNat) (ji22)) / 2 ^ (ji26).toNat) = ji28 := shr_small hji28
               replace H := Option.bind_eq_some_iff.mp H
               obtain ⟨⟨t812, t813, t814, t815, t816, t817⟩, A290, H⟩ := H
               replace H : (if t817 = true then (if x10_2.length < 3518437208883 then (row_decode.l1 k2 t816 (a1.extract 0 ((ji4) : Int).toNat) (x10_2 ++ [(⟨t812, t813, t814, t815⟩ : S50)]) l0 (l0.length : Int) (wrap64 (x51_2 + 1))) else (none)) else (some (([] : List (S50)), (⟨#[]⟩ : ByteArray), false))) = some (r1, r2, r3) := H
               have A29 := am A290
               clear A290
               by_cases c30 : t817 = true
               ·subst c30
                have H1 : (if x10_2.length < 3518437208883 then (row_decode.l1 k2 t816 (a1.extract 0 ((ji4) : Int).toNat) (x10_2 ++ [(⟨t812, t813, t814, t815⟩ : S50)]) l0 (l0.length : Int) (wrap64 (x51_2 + 1))) else (none)) = some (r1, r2, r3) := by rw [if_pos rfl] at H; exact H
                clear H
                have H := H1
                clear H1
                by_cases c31 : x10_2.length < 3518437208883
                ·rw [if_pos c31] at H
                 have LMc31 := am c31
                 clear c31
                 obtain ⟨y819, hy819⟩ : ∃ y_ : List (S50), y_ = (x10_2 ++ [(⟨t812, t813, t814, t815⟩ : S50)]) := ⟨_, rfl⟩
                 replace H : (row_decode.l1 k2 t816 (a1.extract 0 ((ji4) : Int).toNat) y819 l0 (l0.length : Int) (wrap64 (x51_2 + 1))) = some (r1, r2, r3) := by first | (rw [hy819]; with_reducible exact H) | (have H2_ := (Option.bind_some _ _).symm.trans H; rw [hy819]; with_reducible exact H2_) | (have H2_ := (Option.bind_some _ _).symm.trans H; with_reducible exact H2_) | with_reducible exact H | (rw [hy819]; exact H) | exact H
                 have Ny819 := am hy819
                 clear hy819
                 have H' := am H
                 clear H
                 have p810 : 0 ≤ (x51_2 : Int) := oda
                 have q810 : x51_2 < (l0.length : Int) := oda
                 obtain ⟨ad810, e810, hx810_0, hx810_1, hx810_2, hx810_3, hx810_4, hx810_5, hx810_6⟩ := at_T105 HR0.out x51_2 p810 q810
                 cases e810
                 replace hx810_0 := hc HB hx810_0
                 replace hx810_1 := hc HB hx810_1
                 replace hx810_2 := hc HB hx810_2
                 replace hx810_3 := hc HB hx810_3
                 replace hx810_4 := hc HB hx810_4
                 replace hx810_5 := hc HB hx810_5
                 replace hx810_6 := hc HB hx810_6
                 replace p810 := eq_true p810
                 replace q810 := eq_true q810
                 try go_wp2_with (first | ((with_reducible refine gate_dst (N := 12) rfl ?_); refine box_event rfl (N := 12) rfl (cs := #[.string (⟨#[]⟩ : ByteArray), .int .i64 0, .bool false, .int .i64 0, .int .i64 0, .float .f64 0, .string (⟨#[]⟩ : ByteArray)]) (t := 105) gs ?_; intro gb811 hg w32 hbox hb; have n0_ := am (Kd.R_below (Kd.rr HO_10.out) hb); have n1_ := sb HB hb; have n2_ := am (hbox); have n3_ := gw hg HB; have n4_ := gw hg HB; clear HO_10; clear HB; have HO_10 := n0_; have HB := n1_; have BK811 := n2_; have GW811 := n3_; have GE811 := n4_; clear n0_ n1_ n2_ n3_ n4_; clear hb hbox hg; obtain ⟨Z33_0, Z33_1, Z33_2, Z33_3, Z33_4, Z33_5, Z33_6, Y33_0, Y33_1, Y33_2, Y33_3, Y33_4, Y33_5, Y33_6⟩ := bq7 BK811))
                 have n0_ : Aside0 (Kd.R k50 50 (((((((w32.setCell ⟨gb811, 0, none⟩ (.string ((rd_T105 l0 x51_2).f0))).setCell ⟨gb811, 1, none⟩ (.int .i64 ((rd_T105 l0 x51_2).f1))).setCell ⟨gb811, 2, none⟩ (.bool ((rd_T105 l0 x51_2).f2))).setCell ⟨gb811, 3, none⟩ (.int .i64 ((rd_T105 l0 x51_2).f3.f0))).setCell ⟨gb811, 4, none⟩ (.int .i64 ((rd_T105 l0 x51_2).f3.f1))).setCell ⟨gb811, 5, none⟩ (.float .f64 ((rd_T105 l0 x51_2).f3.f2))).setCell ⟨gb811, 6, none⟩ (.string ((rd_T105 l0 x51_2).f3.f3))) w.heap.size (fun _ => True) u10 x10_2) := ⟨by (with_reducible repeat (first | apply Kd.R_alloc | apply Kd.R_drewN | apply Kd.R_drew)); exact Kd.R_mono (Kd.R_far (p := ⟨gb811, 6, none⟩) (Kd.R_far (p := ⟨gb811, 5, none⟩) (Kd.R_far (p := ⟨gb811, 4, none⟩) (Kd.R_far (p := ⟨gb811, 3, none⟩) (Kd.R_far (p := ⟨gb811, 2, none⟩) (Kd.R_far (p := ⟨gb811, 1, none⟩) (Kd.R_far (p := ⟨gb811, 0, none⟩) (Kd.R_types HO_10.out BK811.out (by decide)) (fun _ hk => hk.2) (.string ((rd_T105 l0 x51_2).f0))) (fun _ hk => hk.2) (.int .i64 ((rd_T105 l0 x51_2).f1))) (fun _ hk => hk.2) (.bool ((rd_T105 l0 x51_2).f2))) (fun _ hk => hk.2) (.int .i64 ((rd_T105 l0 x51_2).f3.f0))) (fun _ hk => hk.2) (.int .i64 ((rd_T105 l0 x51_2).f3.f1))) (fun _ hk => hk.2) (.float .f64 ((rd_T105 l0 x51_2).f3.f2))) (fun _ hk => hk.2) (.string ((rd_T105 l0 x51_2).f3.f3))) (fun _ hk => trivial)⟩
                 have n1_ : Aside0 ((((((((w32.setCell ⟨gb811, 0, none⟩ (.string ((rd_T105 l0 x51_2).f0))).setCell ⟨gb811, 1, none⟩ (.int .i64 ((rd_T105 l0 x51_2).f1))).setCell ⟨gb811, 2, none⟩ (.bool ((rd_T105 l0 x51_2).f2))).setCell ⟨gb811, 3, none⟩ (.int .i64 ((rd_T105 l0 x51_2).f3.f0))).setCell ⟨gb811, 4, none⟩ (.int .i64 ((rd_T105 l0 x51_2).f3.f1))).setCell ⟨gb811, 5, none⟩ (.float .f64 ((rd_T105 l0 x51_2).f3.f2))).setCell ⟨gb811, 6, none⟩ (.string ((rd_T105 l0 x51_2).f3.f3))).heap[gb811]? = some (.cells #[.string ((rd_T105 l0 x51_2).f0), .int .i64 ((rd_T105 l0 x51_2).f1), .bool ((rd_T105 l0 x51_2).f2), .int .i64 ((rd_T105 l0 x51_2).f3.f0), .int .i64 ((rd_T105 l0 x51_2).f3.f1), .float .f64 ((rd_T105 l0 x51_2).f3.f2), .string ((rd_T105 l0 x51_2).f3.f3)] 105 (0, 0))) := ⟨by refine rp ?_; refine blk_put (cs := #[.string ((rd_T105 l0 x51_2).f0), .int .i64 ((rd_T105 l0 x51_2).f1), .bool ((rd_T105 l0 x51_2).f2), .int .i64 ((rd_T105 l0 x51_2).f3.f0), .int .i64 ((rd_T105 l0 x51_2).f3.f1), .float .f64 ((rd_T105 l0 x51_2).f3.f2), .string (⟨#[]⟩ : ByteArray)]) ?_ 6 _ rfl; refine rp ?_; refine blk_put (cs := #[.string ((rd_T105 l0 x51_2).f0), .int .i64 ((rd_T105 l0 x51_2).f1), .bool ((rd_T105 l0 x51_2).f2), .int .i64 ((rd_T105 l0 x51_2).f3.f0), .int .i64 ((rd_T105 l0 x51_2).f3.f1), .float .f64 0, .string (⟨#[]⟩ : ByteArray)]) ?_ 5 _ rfl; refine rp ?_; refine blk_put (cs := #[.string ((rd_T105 l0 x51_2).f0), .int .i64 ((rd_T105 l0 x51_2).f1), .bool ((rd_T105 l0 x51_2).f2), .int .i64 ((rd_T105 l0 x51_2).f3.f0), .int .i64 0, .float .f64 0, .string (⟨#[]⟩ : ByteArray)]) ?_ 4 _ rfl; refine rp ?_; refine blk_put (cs := #[.string ((rd_T105 l0 x51_2).f0), .int .i64 ((rd_T105 l0 x51_2).f1), .bool ((rd_T105 l0 x51_2).f2), .int .i64 0, .int .i64 0, .float .f64 0, .string (⟨#[]⟩ : ByteArray)]) ?_ 3 _ rfl; refine rp ?_; refine blk_put (cs := #[.string ((rd_T105 l0 x51_2).f0), .int .i64 ((rd_T105 l0 x51_2).f1), .bool false, .int .i64 0, .int .i64 0, .float .f64 0, .string (⟨#[]⟩ : ByteArray)]) ?_ 2 _ rfl; refine rp ?_; refine blk_put (cs := #[.string ((rd_T105 l0 x51_2).f0), .int .i64 0, .bool false, .int .i64 0, .int .i64 0, .float .f64 0, .string (⟨#[]⟩ : ByteArray)]) ?_ 1 _ rfl; refine rp ?_; refine blk_put (cs := #[.string (⟨#[]⟩ : ByteArray), .int .i64 0, .bool false, .int .i64 0, .int .i64 0, .float .f64 0, .string (⟨#[]⟩ : ByteArray)]) ?_ 0 _ rfl; exact bk BK811⟩
                 have n2_ : Aside0 (Below w.heap.size w (((((((w32.setCell ⟨gb811, 0, none⟩ (.string ((rd_T105 l0 x51_2).f0))).setCell ⟨gb811, 1, none⟩ (.int .i64 ((rd_T105 l0 x51_2).f1))).setCell ⟨gb811, 2, none⟩ (.bool ((rd_T105 l0 x51_2).f2))).setCell ⟨gb811, 3, none⟩ (.int .i64 ((rd_T105 l0 x51_2).f3.f0))).setCell ⟨gb811, 4, none⟩ (.int .i64 ((rd_T105 l0 x51_2).f3.f1))).setCell ⟨gb811, 5, none⟩ (.float .f64 ((rd_T105 l0 x51_2).f3.f2))).setCell ⟨gb811, 6, none⟩ (.string ((rd_T105 l0 x51_2).f3.f3)))) := ⟨bl HB⟩
                 (try clear HO_10)
                 (try clear BK811)
                 (try clear HB)
                 generalize (((((((w32.setCell ⟨gb811, 0, none⟩ (.string ((rd_T105 l0 x51_2).f0))).setCell ⟨gb811, 1, none⟩ (.int .i64 ((rd_T105 l0 x51_2).f1))).setCell ⟨gb811, 2, none⟩ (.bool ((rd_T105 l0 x51_2).f2))).setCell ⟨gb811, 3, none⟩ (.int .i64 ((rd_T105 l0 x51_2).f3.f0))).setCell ⟨gb811, 4, none⟩ (.int .i64 ((rd_T105 l0 x51_2).f3.f1))).setCell ⟨gb811, 5, none⟩ (.float .f64 ((rd_T105 l0 x51_2).f3.f2))).setCell ⟨gb811, 6, none⟩ (.string ((rd_T105 l0 x51_2).f3.f3))) = w34 at n0_ n1_ n2_ ⊢
                 have HO_10 := n0_
                 have BK811 := n1_
                 have HB := n2_
                 clear n0_ n1_ n2_
                 have n0_ := am (Kd.R_drew HO_10.out)
                 have n1_ := am (blk_drew BK811.out)
                 have n2_ := am (below_drew1 HB.out)
                 clear HO_10
                 clear BK811
                 clear HB
                 have HO_10 := n0_
                 have BK811 := n1_
                 have HB := n2_
                 clear n0_ n1_ n2_
                 have p25 : 0 ≤ ((ji22) : Int) := oda
                 have q25 : (ji22) < ((a1.extract 0 ((ji4) : Int).toNat).size : Int) := oda
                 have hx25 := bt_at (a1.extract 0 ((ji4) : Int).toNat) (ji22)
                 (try (have qs25 := q25; simp only [ByteArray.size_extract, Nat.sub_zero] at qs25; replace qs25 := eq_true qs25))
                 replace p25 := eq_true p25
                 replace q25 := eq_true q25
                 refine start_ (n := 20) (S := fun w' => w'.cell? ⟨gb811, 0, none⟩ = some (.string ((rd_T105 l0 x51_2).f0)) ∧ w'.cell? ⟨gb811, 1, none⟩ = some (.int .i64 ((rd_T105 l0 x51_2).f1)) ∧ w'.cell? ⟨gb811, 2, none⟩ = some (.bool ((rd_T105 l0 x51_2).f2)) ∧ w'.cell? ⟨gb811, 3, none⟩ = some (.int .i64 ((rd_T105 l0 x51_2).f3.f0)) ∧ w'.cell? ⟨gb811, 4, none⟩ = some (.int .i64 ((rd_T105 l0 x51_2).f3.f1)) ∧ w'.cell? ⟨gb811, 5, none⟩ = some (.float .f64 ((rd_T105 l0 x51_2).f3.f2)) ∧ w'.cell? ⟨gb811, 6, none⟩ = some (.string ((rd_T105 l0 x51_2).f3.f3))) (ds := []) (bb 0 20) (by kernel_rfl) rfl rfl ⟨(blk_cell BK811.out 0).trans rfl, (blk_cell BK811.out 1).trans rfl, (blk_cell BK811.out 2).trans rfl, (blk_cell BK811.out 3).trans rfl, (blk_cell BK811.out 4).trans rfl, (blk_cell BK811.out 5).trans rfl, (blk_cell BK811.out 6).trans rfl⟩ (fun hHeld => ?_); refine with_tabW row_decode.tab14 row_decode.bits14 (fun HT_ HW_ => ?_)
                 generalize w34.drew = w35 at HO_10 BK811 HB hHeld ⊢
                 refine pu HT_ 1 (some 58) (bs 20 2) ?_
                 refine pu HT_ 2 (some 59) (bs 20 6) ?_
                 refine pu HT_ 3 (some 60) (bs 20 14) ?_
                 refine pu HT_ 5 (some 62) (bs 20 46) ?_
                 refine pu HT_ 6 (some 63) (bs 20 110) ?_
                 refine pu HT_ 7 (some 64) (bs 20 238) ?_
                 refine pu HT_ 10 (some 67) (bs 20 1262) ?_
                 refine tk HT_ HW_ hHeld 0 (some 57) (bs 20 1263) ?_
                 refine tk HT_ HW_ hHeld 4 (some 61) (bs 20 1279) ?_
                 refine pu HT_ 8 (some 65) (bs 20 1535) ?_
                 refine pu HT_ 9 (some 66) (bb 11 20) ?_
                 refine join_ (σ := Nat) 3 (bb 17 20) (fun s_ => [(68, .tuple #[.agg #[.int .i64 t812, .int .i64 t813, .float .f64 t814, .string t815], .string t816, .bool true]), (13, .pointer (some ⟨s_, 0, none⟩)), (56, .tuple #[.agg #[.int .i64 t812, .int .i64 t813, .float .f64 t814, .string t815], .string t816, .bool true]), (69, .agg #[.int .i64 t812, .int .i64 t813, .float .f64 t814, .string t815]), (70, .string t816), (71, .bool true)]) (fun s_ w' => (w'.cell? ⟨gb811, 0, none⟩ = some (.string ((rd_T105 l0 x51_2).f0)) ∧ w'.cell? ⟨gb811, 1, none⟩ = some (.int .i64 ((rd_T105 l0 x51_2).f1)) ∧ w'.cell? ⟨gb811, 2, none⟩ = some (.bool ((rd_T105 l0 x51_2).f2)) ∧ w'.cell? ⟨gb811, 3, none⟩ = some (.int .i64 ((rd_T105 l0 x51_2).f3.f0)) ∧ w'.cell? ⟨gb811, 4, none⟩ = some (.int .i64 ((rd_T105 l0 x51_2).f3.f1)) ∧ w'.cell? ⟨gb811, 5, none⟩ = some (.float .f64 ((rd_T105 l0 x51_2).f3.f2)) ∧ w'.cell? ⟨gb811, 6, none⟩ = some (.string ((rd_T105 l0 x51_2).f3.f3))) ∧ (Kd.R k50 50 w' w.heap.size (fun k_ => k_ ≠ s_) u10 x10_2) ∧ (w'.heap[gb811]? = some (.cells #[.string ((rd_T105 l0 x51_2).f0), .int .i64 ((rd_T105 l0 x51_2).f1), .bool ((rd_T105 l0 x51_2).f2), .int .i64 ((rd_T105 l0 x51_2).f3.f0), .int .i64 ((rd_T105 l0 x51_2).f3.f1), .float .f64 ((rd_T105 l0 x51_2).f3.f2), .string ((rd_T105 l0 x51_2).f3.f3)] 105 (0, 0))) ∧ (w'.heap[s_]? = some (.cells #[.int .i64 0, .int .i64 0, .float .f64 0, .string (⟨#[]⟩ : ByteArray)] 50 (0, 0))) ∧ (w.heap.size ≤ s_) ∧ (w.heap.size ≤ s_) ∧ (gb811 ≠ s_) ∧ (s_ ≠ gb811) ∧ (Below w.heap.size w w')) ?_ ?_
                 rotate_left
                 ·intro hCont
                  refine two_ (i := 11) (j := 16) (Ni := some 68) (Nj := some 13) (bb 12 20) (bs 20 67583) rfl rfl rfl rfl (two_of HT_.out (by kernel_rfl)) (by decide) (by decide) (fun K hK => ?_) (fun K hK => ?_)
                  ·skip
                   refine goes_ Tryd.func131 (by kernel_rfl) rfl #[.agg #[.string ((rd_T105 l0 x51_2).f0), .int .i64 ((rd_T105 l0 x51_2).f1), .bool ((rd_T105 l0 x51_2).f2), .int .i64 ((rd_T105 l0 x51_2).f3.f0), .int .i64 ((rd_T105 l0 x51_2).f3.f1), .float .f64 ((rd_T105 l0 x51_2).f3.f2), .string ((rd_T105 l0 x51_2).f3.f3)], .int .u8 (Go.bits .and .u8 (ji28) 3), .string x1_2] (by rfl) rfl rfl (by (try simp only [List.map_toArray, List.map_cons, List.map_nil]); first | done | (simp only [hji28]; rfl) | rfl | (simp only [List.length_drop, List.length_take]; rfl)) ?_
                   with_reducible refine (row_get.calls k2 ((rd_T105 l0 x51_2).f0) ((rd_T105 l0 x51_2).f1) ((rd_T105 l0 x51_2).f2) ((rd_T105 l0 x51_2).f3.f0) ((rd_T105 l0 x51_2).f3.f1) ((rd_T105 l0 x51_2).f3.f2) ((rd_T105 l0 x51_2).f3.f3) (Go.bits .and .u8 (ji28) 3) x1_2 t812 t813 t814 t815 t816 true _ ?side1 A29.out).mono ?_
                   (case side1 => exact Glob.below HG.out (bl HB))
                   rintro e w36 ⟨rfl, hb⟩
                   refine ⟨_, rfl, ?_⟩
                   have n0_ := am (Kd.R_below (Kd.rr HO_10.out) hb)
                   have n1_ := kb BK811 hb
                   have n2_ := sb HB hb
                   clear HO_10
                   clear BK811
                   clear HB
                   have HO_10 := n0_
                   have BK811 := n1_
                   have HB := n2_
                   clear n0_ n1_ n2_
                   (try clear hb)
                   (try clear hb2)
                   (try clear hk)
                   (try clear hi)
                   refine hK.out _ _ ⟨(blk_cell BK811.out 0).trans rfl, (blk_cell BK811.out 1).trans rfl, (blk_cell BK811.out 2).trans rfl, (blk_cell BK811.out 3).trans rfl, (blk_cell BK811.out 4).trans rfl, (blk_cell BK811.out 5).trans rfl, (blk_cell BK811.out 6).trans rfl⟩ (fun hHeld => ?_)
                   clear hK K
                   refine norm_ (a' := ?_) ?_ ?_
                   rotate_left
                   ·show Act.put _ (some 68) _ = _
                    simp only [Act.put, List.setIfInBounds_toArray, List.set_cons_zero, List.set_cons_succ, i64_w, i32_w]
                    rfl
                   refine pu HT_ 12 (some 56) (bb 13 20) ?_
                   refine pu HT_ 13 (some 69) (bb 14 20) ?_
                   refine pu HT_ 14 (some 70) (bb 15 20) ?_
                   refine pu HT_ 15 (some 71) (bb 16 20) ?_
                   refine one_ (i := 16) (N := some 13) (bb 17 20) rfl rfl (one_of HT_.out (by kernel_rfl)) (by decide) (fun K hK => ?_)
                   refine box_step ?hg (N := 13) ?hd (cs := #[.int .i64 0, .int .i64 0, .float .f64 0, .string (⟨#[]⟩ : ByteArray)]) (t := 50) ?hr ?_; (case hd => rfl); (case hg => rfl); (case hr => first | (go_simp; done) | (go_simp; rfl))
                   intro gb818 hg w37 hbox hb
                   have n0_ := am (Kd.R_below (Kd.R_elderB (Kd.rr HO_10.out) gb818 (Nat.le_of_eq hg.symm)) hb)
                   have n1_ := kb BK811 hb
                   have n2_ := sb HB hb
                   have n3_ := am (hbox)
                   have n4_ := gw hg HB
                   have n5_ := gw hg HB
                   have n6_ := am ((by rw [hg]; exact Nat.ne_of_lt (blk_lt (bk BK811)) : gb811 ≠ gb818))
                   have n7_ := am ((by rw [hg]; exact Nat.ne_of_gt (blk_lt (bk BK811)) : gb818 ≠ gb811))
                   clear HO_10
                   clear BK811
                   clear HB
                   have HO_10 := n0_
                   have BK811 := n1_
                   have HB := n2_
                   have BK818 := n3_
                   have GW818 := n4_
                   have GE818 := n5_
                   have NB811_818 := n6_
                   have NB818_811 := n7_
                   clear n0_ n1_ n2_ n3_ n4_ n5_ n6_ n7_
                   clear hb hbox hg
                   refine hK.out _ _ ⟨(blk_cell BK811.out 0).trans rfl, (blk_cell BK811.out 1).trans rfl, (blk_cell BK811.out 2).trans rfl, (blk_cell BK811.out 3).trans rfl, (blk_cell BK811.out 4).trans rfl, (blk_cell BK811.out 5).trans rfl, (blk_cell BK811.out 6).trans rfl⟩ (fun hHeld => ?_)
                   clear hK K
                   refine norm_ (a' := ?_) ?_ ?_
                   rotate_left
                   ·show Act.put _ (some 13) _ = _
                    simp only [Act.put, List.setIfInBounds_toArray, List.set_cons_zero, List.set_cons_succ, i64_w, i32_w]
                    rfl
                   exact norm_ (np) (hCont (gb818) _ ⟨hHeld, (by (with_reducible repeat (first | apply Kd.R_alloc | apply Kd.R_drewN | apply Kd.R_drew)); exact Kd.R_mono HO_10.out (fun _ hk => hk.2)), (bk BK811), (bk BK818), GW818.out, GE818.out, NB811_818.out, NB818_811.out, (bl HB)⟩)
                  ·skip
                   refine box_step ?hg (N := 13) ?hd (cs := #[.int .i64 0, .int .i64 0, .float .f64 0, .string (⟨#[]⟩ : ByteArray)]) (t := 50) ?hr ?_; (case hd => rfl); (case hg => rfl); (case hr => first | (go_simp; done) | (go_simp; rfl))
                   intro gb818 hg w36 hbox hb
                   have n0_ := am (Kd.R_below (Kd.R_elderB (Kd.rr HO_10.out) gb818 (Nat.le_of_eq hg.symm)) hb)
                   have n1_ := kb BK811 hb
                   have n2_ := sb HB hb
                   have n3_ := am (hbox)
                   have n4_ := gw hg HB
                   have n5_ := gw hg HB
                   have n6_ := am ((by rw [hg]; exact Nat.ne_of_lt (blk_lt (bk BK811)) : gb811 ≠ gb818))
                   have n7_ := am ((by rw [hg]; exact Nat.ne_of_gt (blk_lt (bk BK811)) : gb818 ≠ gb811))
                   clear HO_10
                   clear BK811
                   clear HB
                   have HO_10 := n0_
                   have BK811 := n1_
                   have HB := n2_
                   have BK818 := n3_
                   have GW818 := n4_
                   have GE818 := n5_
                   have NB811_818 := n6_
                   have NB818_811 := n7_
                   clear n0_ n1_ n2_ n3_ n4_ n5_ n6_ n7_
                   clear hb hbox hg
                   refine hK.out _ _ ⟨(blk_cell BK811.out 0).trans rfl, (blk_cell BK811.out 1).trans rfl, (blk_cell BK811.out 2).trans rfl, (blk_cell BK811.out 3).trans rfl, (blk_cell BK811.out 4).trans rfl, (blk_cell BK811.out 5).trans rfl, (blk_cell BK811.out 6).trans rfl⟩ (fun hHeld => ?_)
                   clear hK K
                   refine norm_ (a' := ?_) ?_ ?_
                   rotate_left
                   ·show Act.put _ (some 13) _ = _
                    simp only [Act.put, List.setIfInBounds_toArray, List.set_cons_zero, List.set_cons_succ, i64_w, i32_w]
                    rfl
                   refine one_ (i := 11) (N := some 68) (bs 20 69631) rfl rfl (one_of HT_.out (by kernel_rfl)) (by decide) (fun K hK => ?_)
                   refine goes_ Tryd.func131 (by kernel_rfl) rfl #[.agg #[.string ((rd_T105 l0 x51_2).f0), .int .i64 ((rd_T105 l0 x51_2).f1), .bool ((rd_T105 l0 x51_2).f2), .int .i64 ((rd_T105 l0 x51_2).f3.f0), .int .i64 ((rd_T105 l0 x51_2).f3.f1), .float .f64 ((rd_T105 l0 x51_2).f3.f2), .string ((rd_T105 l0 x51_2).f3.f3)], .int .u8 (Go.bits .and .u8 (ji28) 3), .string x1_2] (by rfl) rfl rfl (by (try simp only [List.map_toArray, List.map_cons, List.map_nil]); first | done | (simp only [hji28]; rfl) | rfl | (simp only [List.length_drop, List.length_take]; rfl)) ?_
                   with_reducible refine (row_get.calls k2 ((rd_T105 l0 x51_2).f0) ((rd_T105 l0 x51_2).f1) ((rd_T105 l0 x51_2).f2) ((rd_T105 l0 x51_2).f3.f0) ((rd_T105 l0 x51_2).f3.f1) ((rd_T105 l0 x51_2).f3.f2) ((rd_T105 l0 x51_2).f3.f3) (Go.bits .and .u8 (ji28) 3) x1_2 t812 t813 t814 t815 t816 true _ ?side1 A29.out).mono ?_
                   (case side1 => exact Glob.below HG.out (bl HB))
                   rintro e w37 ⟨rfl, hb⟩
                   refine ⟨_, rfl, ?_⟩
                   have n0_ := am (Kd.R_below (Kd.rr HO_10.out) hb)
                   have n1_ := kb BK811 hb
                   have n2_ := kb BK818 hb
                   have n3_ := sb HB hb
                   clear HO_10
                   clear BK811
                   clear BK818
                   clear HB
                   have HO_10 := n0_
                   have BK811 := n1_
                   have BK818 := n2_
                   have HB := n3_
                   clear n0_ n1_ n2_ n3_
                   (try clear hb)
                   (try clear hb2)
                   (try clear hk)
                   (try clear hi)
                   refine hK.out _ _ ⟨(blk_cell BK811.out 0).trans rfl, (blk_cell BK811.out 1).trans rfl, (blk_cell BK811.out 2).trans rfl, (blk_cell BK811.out 3).trans rfl, (blk_cell BK811.out 4).trans rfl, (blk_cell BK811.out 5).trans rfl, (blk_cell BK811.out 6).trans rfl⟩ (fun hHeld => ?_)
                   clear hK K
                   refine norm_ (a' := ?_) ?_ ?_
                   rotate_left
                   ·show Act.put _ (some 68) _ = _
                    simp only [Act.put, List.setIfInBounds_toArray, List.set_cons_zero, List.set_cons_succ, i64_w, i32_w]
                    rfl
                   refine pu HT_ 12 (some 56) (bs 20 73727) ?_
                   refine pu HT_ 13 (some 69) (bs 20 81919) ?_
                   refine pu HT_ 14 (some 70) (bs 20 98303) ?_
                   refine pu HT_ 15 (some 71) (bb 17 20) ?_
                   exact norm_ (np) (hCont (gb818) _ ⟨hHeld, (by (with_reducible repeat (first | apply Kd.R_alloc | apply Kd.R_drewN | apply Kd.R_drew)); exact Kd.R_mono HO_10.out (fun _ hk => hk.2)), (bk BK811), (bk BK818), GW818.out, GE818.out, NB811_818.out, NB818_811.out, (bl HB)⟩)
                 rintro gb818 w38 ⟨hS_, h0_, h1_, h2_, h3_, h4_, h5_, h6_, h7_⟩
                 have n0_ : Aside0 (Kd.R k50 50 w38 w.heap.size (fun k_ => k_ ≠ gb818) u10 x10_2) := ⟨h0_⟩
                 have n1_ : Aside0 (w38.heap[gb811]? = some (.cells #[.string ((rd_T105 l0 x51_2).f0), .int .i64 ((rd_T105 l0 x51_2).f1), .bool ((rd_T105 l0 x51_2).f2), .int .i64 ((rd_T105 l0 x51_2).f3.f0), .int .i64 ((rd_T105 l0 x51_2).f3.f1), .float .f64 ((rd_T105 l0 x51_2).f3.f2), .string ((rd_T105 l0 x51_2).f3.f3)] 105 (0, 0))) := ⟨h1_⟩
                 have n2_ : Aside0 (w38.heap[gb818]? = some (.cells #[.int .i64 0, .int .i64 0, .float .f64 0, .string (⟨#[]⟩ : ByteArray)] 50 (0, 0))) := ⟨h2_⟩
                 have n3_ : Aside0 (w.heap.size ≤ gb818) := ⟨h3_⟩
                 have n4_ : Aside0 (w.heap.size ≤ gb818) := ⟨h4_⟩
                 have n5_ : Aside0 (gb811 ≠ gb818) := ⟨h5_⟩
                 have n6_ : Aside0 (gb818 ≠ gb811) := ⟨h6_⟩
                 have n7_ : Aside0 (Below w.heap.size w w38) := ⟨h7_⟩
                 clear HO_10
                 clear BK811
                 clear HB
                 clear h0_ h1_ h2_ h3_ h4_ h5_ h6_ h7_
                 have HO_10 := n0_
                 have BK811 := n1_
                 have BK818 := n2_
                 have GW818 := n3_
                 have GE818 := n4_
                 have NB811_818 := n5_
                 have NB818_811 := n6_
                 have HB := n7_
                 clear n0_ n1_ n2_ n3_ n4_ n5_ n6_ n7_
                 have hHeld : w38.cell? ⟨gb811, 0, none⟩ = some (.string ((rd_T105 l0 x51_2).f0)) ∧ w38.cell? ⟨gb811, 1, none⟩ = some (.int .i64 ((rd_T105 l0 x51_2).f1)) ∧ w38.cell? ⟨gb811, 2, none⟩ = some (.bool ((rd_T105 l0 x51_2).f2)) ∧ w38.cell? ⟨gb811, 3, none⟩ = some (.int .i64 ((rd_T105 l0 x51_2).f3.f0)) ∧ w38.cell? ⟨gb811, 4, none⟩ = some (.int .i64 ((rd_T105 l0 x51_2).f3.f1)) ∧ w38.cell? ⟨gb811, 5, none⟩ = some (.float .f64 ((rd_T105 l0 x51_2).f3.f2)) ∧ w38.cell? ⟨gb811, 6, none⟩ = some (.string ((rd_T105 l0 x51_2).f3.f3)) := hS_
                 refine norm_ (a' := ?_) ?_ ?_
                 rotate_left
                 ·simp only [putAll, Act.put, List.setIfInBounds_toArray, List.set_cons_zero, List.set_cons_succ]
                  rfl
                 refine one_ (i := 17) (N := none) (bb 18 20) rfl rfl (one_of HT_.out (by kernel_rfl)) (by decide) (fun K hK => ?_)
                 have hs39 : w38.cell? ⟨gb818, 0, none⟩ = some (.int .i64 0) := (blk_cell BK818.out 0).trans rfl
                 have hfs39 := blk_frozen BK818.out 0
                 have hns39_0 := NB811_818.out
                 have hms39_0 := NB818_811.out
                 have hs40 : w38.cell? ⟨gb818, 1, none⟩ = some (.int .i64 0) := (blk_cell BK818.out 1).trans rfl
                 have hfs40 := blk_frozen BK818.out 1
                 have hns40_0 := NB811_818.out
                 have hms40_0 := NB818_811.out
                 have hs41 : w38.cell? ⟨gb818, 2, none⟩ = some (.float .f64 0) := (blk_cell BK818.out 2).trans rfl
                 have hfs41 := blk_frozen BK818.out 2
                 have hns41_0 := NB811_818.out
                 have hms41_0 := NB818_811.out
                 have hs42 : w38.cell? ⟨gb818, 3, none⟩ = some (.string (⟨#[]⟩ : ByteArray)) := (blk_cell BK818.out 3).trans rfl
                 have hfs42 := blk_frozen BK818.out 3
                 have hns42_0 := NB811_818.out
                 have hms42_0 := NB818_811.out
                 refine skip_ (w1 := ?_) (by rfl) rfl ?_ ?_
                 rotate_left
                 ·go_simp
                  rfl
                 refine hK.out _ _ ⟨((cell_far (p := ⟨gb818, _, none⟩) NB811_818.out _).trans (((cell_far (p := ⟨gb818, _, none⟩) NB811_818.out _).trans (((cell_far (p := ⟨gb818, _, none⟩) NB811_818.out _).trans (((cell_far (p := ⟨gb818, _, none⟩) NB811_818.out _).trans (hHeld.1)))))))), ((cell_far (p := ⟨gb818, _, none⟩) NB811_818.out _).trans (((cell_far (p := ⟨gb818, _, none⟩) NB811_818.out _).trans (((cell_far (p := ⟨gb818, _, none⟩) NB811_818.out _).trans (((cell_far (p := ⟨gb818, _, none⟩) NB811_818.out _).trans (hHeld.2.1)))))))), ((cell_far (p := ⟨gb818, _, none⟩) NB811_818.out _).trans (((cell_far (p := ⟨gb818, _, none⟩) NB811_818.out _).trans (((cell_far (p := ⟨gb818, _, none⟩) NB811_818.out _).trans (((cell_far (p := ⟨gb818, _, none⟩) NB811_818.out _).trans (hHeld.2.2.1)))))))), ((cell_far (p := ⟨gb818, _, none⟩) NB811_818.out _).trans (((cell_far (p := ⟨gb818, _, none⟩) NB811_818.out _).trans (((cell_far (p := ⟨gb818, _, none⟩) NB811_818.out _).trans (((cell_far (p := ⟨gb818, _, none⟩) NB811_818.out _).trans (hHeld.2.2.2.1)))))))), ((cell_far (p := ⟨gb818, _, none⟩) NB811_818.out _).trans (((cell_far (p := ⟨gb818, _, none⟩) NB811_818.out _).trans (((cell_far (p := ⟨gb818, _, none⟩) NB811_818.out _).trans (((cell_far (p := ⟨gb818, _, none⟩) NB811_818.out _).trans (hHeld.2.2.2.2.1)))))))), ((cell_far (p := ⟨gb818, _, none⟩) NB811_818.out _).trans (((cell_far (p := ⟨gb818, _, none⟩) NB811_818.out _).trans (((cell_far (p := ⟨gb818, _, none⟩) NB811_818.out _).trans (((cell_far (p := ⟨gb818, _, none⟩) NB811_818.out _).trans (hHeld.2.2.2.2.2.1)))))))), ((cell_far (p := ⟨gb818, _, none⟩) NB811_818.out _).trans (((cell_far (p := ⟨gb818, _, none⟩) NB811_818.out _).trans (((cell_far (p := ⟨gb818, _, none⟩) NB811_818.out _).trans (((cell_far (p := ⟨gb818, _, none⟩) NB811_818.out _).trans (hHeld.2.2.2.2.2.2))))))))⟩ (fun hHeld => ?_)
                 clear hK K
                 refine pu HT_ 18 (some 14) (bb 19 20) ?_
                 refine pu HT_ 19 (some 15) (bb 20 20) ?_
                 refine done_ (done_of HT_.out (by kernel_rfl)) ?_
                 have hnb43 := NB818_811.out
                 have hnc43 := NB811_818.out
                 obtain ⟨Z44_0, Z44_1, Z44_2, Z44_3, Y44_0, Y44_1, Y44_2, Y44_3⟩ := bq4 BK818
                 try go_wp2_with (first | ((with_reducible refine gate_builtin (b := .append) (xs := #[.tmp 74, .tmp 76]) rfl ?_); at_builtin; refine Kd.R_append k50 (w0 := w) w.heap.size rfl (.tmp 74) (.tmp 76) 22 50 (.agg #[(.int .i64 0), (.int .i64 0), (.float .f64 0), (.string ⟨#[]⟩)]) 40 rfl Tryd.underlying22 info50 rfl (by decide) (by omega) u10 x10_2 (⟨t812, t813, t814, t815⟩ : S50) [.int .i64 t812, .int .i64 t813, .float .f64 t814, .string t815] (fun k_ => k_ ≠ gb818) (fun _ => False) rfl (by first | (go_simp; done) | (go_simp; rfl)) ?aP (fun _ hk => hk.elim) ?aF ?aO ?aB ?aS ?aL ?_; (case aP => exact k50_mkM _ _ _ (⟨t812, t813, t814, t815⟩ : S50)); (case aB => exact (bl HB)); (case aF => exact (fun k_ hk => Kd.freshB (g := gb818) (o := .cells #[.int .i64 t812, .int .i64 t813, .float .f64 t814, .string t815] 50 (0, 0)) (by refine rp ?_; refine blk_put (cs := #[.int .i64 t812, .int .i64 t813, .float .f64 t814, .string (⟨#[]⟩ : ByteArray)]) ?_ 3 _ rfl; refine rp ?_; refine blk_put (cs := #[.int .i64 t812, .int .i64 t813, .float .f64 0, .string (⟨#[]⟩ : ByteArray)]) ?_ 2 _ rfl; refine rp ?_; refine blk_put (cs := #[.int .i64 t812, .int .i64 0, .float .f64 0, .string (⟨#[]⟩ : ByteArray)]) ?_ 1 _ rfl; refine rp ?_; refine blk_put (cs := #[.int .i64 0, .int .i64 0, .float .f64 0, .string (⟨#[]⟩ : ByteArray)]) ?_ 0 _ rfl; exact bk BK818) k_ hk)); (case aO => exact (by (with_reducible repeat (first | apply Kd.R_alloc | apply Kd.R_drewN | apply Kd.R_drew)); exact Kd.R_mono (Kd.R_far (p := ⟨gb818, 3, none⟩) (Kd.R_far (p := ⟨gb818, 2, none⟩) (Kd.R_far (p := ⟨gb818, 1, none⟩) (Kd.R_far (p := ⟨gb818, 0, none⟩) (Kd.R_mono HO_10.out (fun k_ hk => (⟨hk, hk⟩ : _ ∧ k_ ≠ gb818))) (fun _ hk => hk.2) (.int .i64 t812)) (fun _ hk => hk.2) (.int .i64 t813)) (fun _ hk => hk.2) (.float .f64 t814)) (fun _ hk => hk.2) (.string t815)) (fun _ hk => hk.1))); (case aS => exact (below_size (bl HB))); (case aL => have := LMc31.out; omega); intro v820 w45 ho hb hg hat; rw [← Ny819.out] at ho; have n0_ := am (blk_grown (g := gb811) (o := .cells #[.string ((rd_T105 l0 x51_2).f0), .int .i64 ((rd_T105 l0 x51_2).f1), .bool ((rd_T105 l0 x51_2).f2), .int .i64 ((rd_T105 l0 x51_2).f3.f0), .int .i64 ((rd_T105 l0 x51_2).f3.f1), .float .f64 ((rd_T105 l0 x51_2).f3.f2), .string ((rd_T105 l0 x51_2).f3.f3)] 105 (0, 0)) (by refine rp ?_; refine blk_far ?_ NB811_818.out _; refine rp ?_; refine blk_far ?_ NB811_818.out _; refine rp ?_; refine blk_far ?_ NB811_818.out _; refine rp ?_; refine blk_far ?_ NB811_818.out _; exact bk BK811) hg (Kd.R_ne HO_10.out BK811.out (by decide))); have n1_ := am (blk_grown (g := gb818) (o := .cells #[.int .i64 t812, .int .i64 t813, .float .f64 t814, .string t815] 50 (0, 0)) (by refine rp ?_; refine blk_put (cs := #[.int .i64 t812, .int .i64 t813, .float .f64 t814, .string (⟨#[]⟩ : ByteArray)]) ?_ 3 _ rfl; refine rp ?_; refine blk_put (cs := #[.int .i64 t812, .int .i64 t813, .float .f64 0, .string (⟨#[]⟩ : ByteArray)]) ?_ 2 _ rfl; refine rp ?_; refine blk_put (cs := #[.int .i64 t812, .int .i64 0, .float .f64 0, .string (⟨#[]⟩ : ByteArray)]) ?_ 1 _ rfl; refine rp ?_; refine blk_put (cs := #[.int .i64 0, .int .i64 0, .float .f64 0, .string (⟨#[]⟩ : ByteArray)]) ?_ 0 _ rfl; exact bk BK818) hg (Kd.R_away HO_10.out (fun _ hk => hk))); have n2_ := am (hb); have n3_ := am (ho); clear BK811; clear BK818; clear HB; clear HO_10; have BK811 := n0_; have BK818 := n1_; have HB := n2_; have HO821 := n3_; clear n0_ n1_ n2_ n3_; clear ho hb hg hat))
                 go_roundg k2
                 case measure => have := HK1.out; have := HK2.out; omega
                 case rel => exact ⟨(t816), (y819), (wrap64 (x51_2 + 1)), eb, eb, H', ⟨by have := HK1.out; have := HK2.out; omega⟩, ⟨by (with_reducible repeat (first | apply Kd.R_alloc | apply Kd.R_drewN | apply Kd.R_drew)); exact Kd.R_mono HO821.out (fun _ hk => trivial)⟩, ⟨bl HB⟩⟩
                ·rw [if_neg c31] at H
                 exact absurd H (by simp)
               ·replace c30 := Bool.eq_false_iff.mpr c30
                subst c30
                have H1 : (some (([] : List (S50)), (⟨#[]⟩ : ByteArray), false)) = some (r1, r2, r3) := by rw [if_neg (show ¬ (false = true) by decide)] at H; exact H
                clear H
                have H := H1
                clear H1
                simp only [Option.some.injEq, Prod.mk.injEq] at H
                obtain ⟨rfl, rfl, rfl⟩ := H
                have p810 : 0 ≤ (x51_2 : Int) := oda
                have q810 : x51_2 < (l0.length : Int) := oda
                obtain ⟨ad810, e810, hx810_0, hx810_1, hx810_2, hx810_3, hx810_4, hx810_5, hx810_6⟩ := at_T105 HR0.out x51_2 p810 q810
                cases e810
                replace hx810_0 := hc HB hx810_0
                replace hx810_1 := hc HB hx810_1
                replace hx810_2 := hc HB hx810_2
                replace hx810_3 := hc HB hx810_3
                replace hx810_4 := hc HB hx810_4
                replace hx810_5 := hc HB hx810_5
                replace hx810_6 := hc HB hx810_6
                replace p810 := eq_true p810
                replace q810 := eq_true q810
                try go_wp2_with (first | ((with_reducible refine gate_dst (N := 12) rfl ?_); refine box_event rfl (N := 12) rfl (cs := #[.string (⟨#[]⟩ : ByteArray), .int .i64 0, .bool false, .int .i64 0, .int .i64 0, .float .f64 0, .string (⟨#[]⟩ : ByteArray)]) (t := 105) gs ?_; intro gb811 hg w46 hbox hb; have n0_ := am (Kd.R_below (Kd.rr HO_10.out) hb); have n1_ := sb HB hb; have n2_ := am (hbox); have n3_ := gw hg HB; have n4_ := gw hg HB; clear HO_10; clear HB; have HO_10 := n0_; have HB := n1_; have BK811 := n2_; have GW811 := n3_; have GE811 := n4_; clear n0_ n1_ n2_ n3_ n4_; clear hb hbox hg; obtain ⟨Z47_0, Z47_1, Z47_2, Z47_3, Z47_4, Z47_5, Z47_6, Y47_0, Y47_1, Y47_2, Y47_3, Y47_4, Y47_5, Y47_6⟩ := bq7 BK811))
                have n0_ : Aside0 (Kd.R k50 50 (((((((w46.setCell ⟨gb811, 0, none⟩ (.string ((rd_T105 l0 x51_2).f0))).setCell ⟨gb811, 1, none⟩ (.int .i64 ((rd_T105 l0 x51_2).f1))).setCell ⟨gb811, 2, none⟩ (.bool ((rd_T105 l0 x51_2).f2))).setCell ⟨gb811, 3, none⟩ (.int .i64 ((rd_T105 l0 x51_2).f3.f0))).setCell ⟨gb811, 4, none⟩ (.int .i64 ((rd_T105 l0 x51_2).f3.f1))).setCell ⟨gb811, 5, none⟩ (.float .f64 ((rd_T105 l0 x51_2).f3.f2))).setCell ⟨gb811, 6, none⟩ (.string ((rd_T105 l0 x51_2).f3.f3))) w.heap.size (fun _ => True) u10 x10_2) := ⟨by (with_reducible repeat (first | apply Kd.R_alloc | apply Kd.R_drewN | apply Kd.R_drew)); exact Kd.R_mono (Kd.R_far (p := ⟨gb811, 6, none⟩) (Kd.R_far (p := ⟨gb811, 5, none⟩) (Kd.R_far (p := ⟨gb811, 4, none⟩) (Kd.R_far (p := ⟨gb811, 3, none⟩) (Kd.R_far (p := ⟨gb811, 2, none⟩) (Kd.R_far (p := ⟨gb811, 1, none⟩) (Kd.R_far (p := ⟨gb811, 0, none⟩) (Kd.R_types HO_10.out BK811.out (by decide)) (fun _ hk => hk.2) (.string ((rd_T105 l0 x51_2).f0))) (fun _ hk => hk.2) (.int .i64 ((rd_T105 l0 x51_2).f1))) (fun _ hk => hk.2) (.bool ((rd_T105 l0 x51_2).f2))) (fun _ hk => hk.2) (.int .i64 ((rd_T105 l0 x51_2).f3.f0))) (fun _ hk => hk.2) (.int .i64 ((rd_T105 l0 x51_2).f3.f1))) (fun _ hk => hk.2) (.float .f64 ((rd_T105 l0 x51_2).f3.f2))) (fun _ hk => hk.2) (.string ((rd_T105 l0 x51_2).f3.f3))) (fun _ hk => trivial)⟩
                have n1_ : Aside0 ((((((((w46.setCell ⟨gb811, 0, none⟩ (.string ((rd_T105 l0 x51_2).f0))).setCell ⟨gb811, 1, none⟩ (.int .i64 ((rd_T105 l0 x51_2).f1))).setCell ⟨gb811, 2, none⟩ (.bool ((rd_T105 l0 x51_2).f2))).setCell ⟨gb811, 3, none⟩ (.int .i64 ((rd_T105 l0 x51_2).f3.f0))).setCell ⟨gb811, 4, none⟩ (.int .i64 ((rd_T105 l0 x51_2).f3.f1))).setCell ⟨gb811, 5, none⟩ (.float .f64 ((rd_T105 l0 x51_2).f3.f2))).setCell ⟨gb811, 6, none⟩ (.string ((rd_T105 l0 x51_2).f3.f3))).heap[gb811]? = some (.cells #[.string ((rd_T105 l0 x51_2).f0), .int .i64 ((rd_T105 l0 x51_2).f1), .bool ((rd_T105 l0 x51_2).f2), .int .i64 ((rd_T105 l0 x51_2).f3.f0), .int .i64 ((rd_T105 l0 x51_2).f3.f1), .float .f64 ((rd_T105 l0 x51_2).f3.f2), .string ((rd_T105 l0 x51_2).f3.f3)] 105 (0, 0))) := ⟨by refine rp ?_; refine blk_put (cs := #[.string ((rd_T105 l0 x51_2).f0), .int .i64 ((rd_T105 l0 x51_2).f1), .bool ((rd_T105 l0 x51_2).f2), .int .i64 ((rd_T105 l0 x51_2).f3.f0), .int .i64 ((rd_T105 l0 x51_2).f3.f1), .float .f64 ((rd_T105 l0 x51_2).f3.f2), .string (⟨#[]⟩ : ByteArray)]) ?_ 6 _ rfl; refine rp ?_; refine blk_put (cs := #[.string ((rd_T105 l0 x51_2).f0), .int .i64 ((rd_T105 l0 x51_2).f1), .bool ((rd_T105 l0 x51_2).f2), .int .i64 ((rd_T105 l0 x51_2).f3.f0), .int .i64 ((rd_T105 l0 x51_2).f3.f1), .float .f64 0, .string (⟨#[]⟩ : ByteArray)]) ?_ 5 _ rfl; refine rp ?_; refine blk_put (cs := #[.string ((rd_T105 l0 x51_2).f0), .int .i64 ((rd_T105 l0 x51_2).f1), .bool ((rd_T105 l0 x51_2).f2), .int .i64 ((rd_T105 l0 x51_2).f3.f0), .int .i64 0, .float .f64 0, .string (⟨#[]⟩ : ByteArray)]) ?_ 4 _ rfl; refine rp ?_; refine blk_put (cs := #[.string ((rd_T105 l0 x51_2).f0), .int .i64 ((rd_T105 l0 x51_2).f1), .bool ((rd_T105 l0 x51_2).f2), .int .i64 0, .int .i64 0, .float .f64 0, .string (⟨#[]⟩ : ByteArray)]) ?_ 3 _ rfl; refine rp ?_; refine blk_put (cs := #[.string ((rd_T105 l0 x51_2).f0), .int .i64 ((rd_T105 l0 x51_2).f1), .bool false, .int .i64 0, .int .i64 0, .float .f64 0, .string (⟨#[]⟩ : ByteArray)]) ?_ 2 _ rfl; refine rp ?_; refine blk_put (cs := #[.string ((rd_T105 l0 x51_2).f0), .int .i64 0, .bool false, .int .i64 0, .int .i64 0, .float .f64 0, .string (⟨#[]⟩ : ByteArray)]) ?_ 1 _ rfl; refine rp ?_; refine blk_put (cs := #[.string (⟨#[]⟩ : ByteArray), .int .i64 0, .bool false, .int .i64 0, .int .i64 0, .float .f64 0, .string (⟨#[]⟩ : ByteArray)]) ?_ 0 _ rfl; exact bk BK811⟩
                have n2_ : Aside0 (Below w.heap.size w (((((((w46.setCell ⟨gb811, 0, none⟩ (.string ((rd_T105 l0 x51_2).f0))).setCell ⟨gb811, 1, none⟩ (.int .i64 ((rd_T105 l0 x51_2).f1))).setCell ⟨gb811, 2, none⟩ (.bool ((rd_T105 l0 x51_2).f2))).setCell ⟨gb811, 3, none⟩ (.int .i64 ((rd_T105 l0 x51_2).f3.f0))).setCell ⟨gb811, 4, none⟩ (.int .i64 ((rd_T105 l0 x51_2).f3.f1))).setCell ⟨gb811, 5, none⟩ (.float .f64 ((rd_T105 l0 x51_2).f3.f2))).setCell ⟨gb811, 6, none⟩ (.string ((rd_T105 l0 x51_2).f3.f3)))) := ⟨bl HB⟩
                (try clear HO_10)
                (try clear BK811)
                (try clear HB)
                generalize (((((((w46.setCell ⟨gb811, 0, none⟩ (.string ((rd_T105 l0 x51_2).f0))).setCell ⟨gb811, 1, none⟩ (.int .i64 ((rd_T105 l0 x51_2).f1))).setCell ⟨gb811, 2, none⟩ (.bool ((rd_T105 l0 x51_2).f2))).setCell ⟨gb811, 3, none⟩ (.int .i64 ((rd_T105 l0 x51_2).f3.f0))).setCell ⟨gb811, 4, none⟩ (.int .i64 ((rd_T105 l0 x51_2).f3.f1))).setCell ⟨gb811, 5, none⟩ (.float .f64 ((rd_T105 l0 x51_2).f3.f2))).setCell ⟨gb811, 6, none⟩ (.string ((rd_T105 l0 x51_2).f3.f3))) = w48 at n0_ n1_ n2_ ⊢
                have HO_10 := n0_
                have BK811 := n1_
                have HB := n2_
                clear n0_ n1_ n2_
                have n0_ := am (Kd.R_drew HO_10.out)
                have n1_ := am (blk_drew BK811.out)
                have n2_ := am (below_drew1 HB.out)
                clear HO_10
                clear BK811
                clear HB
                have HO_10 := n0_
                have BK811 := n1_
                have HB := n2_
                clear n0_ n1_ n2_
                have p25 : 0 ≤ ((ji22) : Int) := oda
                have q25 : (ji22) < ((a1.extract 0 ((ji4) : Int).toNat).size : Int) := oda
                have hx25 := bt_at (a1.extract 0 ((ji4) : Int).toNat) (ji22)
                (try (have qs25 := q25; simp only [ByteArray.size_extract, Nat.sub_zero] at qs25; replace qs25 := eq_true qs25))
                replace p25 := eq_true p25
                replace q25 := eq_true q25
                refine start_ (n := 20) (S := fun w' => w'.cell? ⟨gb811, 0, none⟩ = some (.string ((rd_T105 l0 x51_2).f0)) ∧ w'.cell? ⟨gb811, 1, none⟩ = some (.int .i64 ((rd_T105 l0 x51_2).f1)) ∧ w'.cell? ⟨gb811, 2, none⟩ = some (.bool ((rd_T105 l0 x51_2).f2)) ∧ w'.cell? ⟨gb811, 3, none⟩ = some (.int .i64 ((rd_T105 l0 x51_2).f3.f0)) ∧ w'.cell? ⟨gb811, 4, none⟩ = some (.int .i64 ((rd_T105 l0 x51_2).f3.f1)) ∧ w'.cell? ⟨gb811, 5, none⟩ = some (.float .f64 ((rd_T105 l0 x51_2).f3.f2)) ∧ w'.cell? ⟨gb811, 6, none⟩ = some (.string ((rd_T105 l0 x51_2).f3.f3))) (ds := []) (bb 0 20) (by kernel_rfl) rfl rfl ⟨(blk_cell BK811.out 0).trans rfl, (blk_cell BK811.out 1).trans rfl, (blk_cell BK811.out 2).trans rfl, (blk_cell BK811.out 3).trans rfl, (blk_cell BK811.out 4).trans rfl, (blk_cell BK811.out 5).trans rfl, (blk_cell BK811.out 6).trans rfl⟩ (fun hHeld => ?_); refine with_tabW row_decode.tab14 row_decode.bits14 (fun HT_ HW_ => ?_)
                generalize w48.drew = w49 at HO_10 BK811 HB hHeld ⊢
                refine pu HT_ 1 (some 58) (bs 20 2) ?_
                refine pu HT_ 2 (some 59) (bs 20 6) ?_
                refine pu HT_ 3 (some 60) (bs 20 14) ?_
                refine pu HT_ 5 (some 62) (bs 20 46) ?_
                refine pu HT_ 6 (some 63) (bs 20 110) ?_
                refine pu HT_ 7 (some 64) (bs 20 238) ?_
                refine pu HT_ 10 (some 67) (bs 20 1262) ?_
                refine tk HT_ HW_ hHeld 0 (some 57) (bs 20 1263) ?_
                refine tk HT_ HW_ hHeld 4 (some 61) (bs 20 1279) ?_
                refine pu HT_ 8 (some 65) (bs 20 1535) ?_
                refine pu HT_ 9 (some 66) (bb 11 20) ?_
                refine join_ (σ := Nat) 3 (bb 17 20) (fun s_ => [(68, .tuple #[.agg #[.int .i64 t812, .int .i64 t813, .float .f64 t814, .string t815], .string t816, .bool false]), (13, .pointer (some ⟨s_, 0, none⟩)), (56, .tuple #[.agg #[.int .i64 t812, .int .i64 t813, .float .f64 t814, .string t815], .string t816, .bool false]), (69, .agg #[.int .i64 t812, .int .i64 t813, .float .f64 t814, .string t815]), (70, .string t816), (71, .bool false)]) (fun s_ w' => (w'.cell? ⟨gb811, 0, none⟩ = some (.string ((rd_T105 l0 x51_2).f0)) ∧ w'.cell? ⟨gb811, 1, none⟩ = some (.int .i64 ((rd_T105 l0 x51_2).f1)) ∧ w'.cell? ⟨gb811, 2, none⟩ = some (.bool ((rd_T105 l0 x51_2).f2)) ∧ w'.cell? ⟨gb811, 3, none⟩ = some (.int .i64 ((rd_T105 l0 x51_2).f3.f0)) ∧ w'.cell? ⟨gb811, 4, none⟩ = some (.int .i64 ((rd_T105 l0 x51_2).f3.f1)) ∧ w'.cell? ⟨gb811, 5, none⟩ = some (.float .f64 ((rd_T105 l0 x51_2).f3.f2)) ∧ w'.cell? ⟨gb811, 6, none⟩ = some (.string ((rd_T105 l0 x51_2).f3.f3))) ∧ (Kd.R k50 50 w' w.heap.size (fun k_ => k_ ≠ s_) u10 x10_2) ∧ (w'.heap[gb811]? = some (.cells #[.string ((rd_T105 l0 x51_2).f0), .int .i64 ((rd_T105 l0 x51_2).f1), .bool ((rd_T105 l0 x51_2).f2), .int .i64 ((rd_T105 l0 x51_2).f3.f0), .int .i64 ((rd_T105 l0 x51_2).f3.f1), .float .f64 ((rd_T105 l0 x51_2).f3.f2), .string ((rd_T105 l0 x51_2).f3.f3)] 105 (0, 0))) ∧ (w'.heap[s_]? = some (.cells #[.int .i64 0, .int .i64 0, .float .f64 0, .string (⟨#[]⟩ : ByteArray)] 50 (0, 0))) ∧ (w.heap.size ≤ s_) ∧ (w.heap.size ≤ s_) ∧ (gb811 ≠ s_) ∧ (s_ ≠ gb811) ∧ (Below w.heap.size w w')) ?_ ?_
                rotate_left
                ·intro hCont
                 refine two_ (i := 11) (j := 16) (Ni := some 68) (Nj := some 13) (bb 12 20) (bs 20 67583) rfl rfl rfl rfl (two_of HT_.out (by kernel_rfl)) (by decide) (by decide) (fun K hK => ?_) (fun K hK => ?_)
                 ·skip
                  refine goes_ Tryd.func131 (by kernel_rfl) rfl #[.agg #[.string ((rd_T105 l0 x51_2).f0), .int .i64 ((rd_T105 l0 x51_2).f1), .bool ((rd_T105 l0 x51_2).f2), .int .i64 ((rd_T105 l0 x51_2).f3.f0), .int .i64 ((rd_T105 l0 x51_2).f3.f1), .float .f64 ((rd_T105 l0 x51_2).f3.f2), .string ((rd_T105 l0 x51_2).f3.f3)], .int .u8 (Go.bits .and .u8 (ji28) 3), .string x1_2] (by rfl) rfl rfl (by (try simp only [List.map_toArray, List.map_cons, List.map_nil]); first | done | (simp only [hji28]; rfl) | rfl | (simp only [List.length_drop, List.length_take]; rfl)) ?_
                  with_reducible refine (row_get.calls k2 ((rd_T105 l0 x51_2).f0) ((rd_T105 l0 x51_2).f1) ((rd_T105 l0 x51_2).f2) ((rd_T105 l0 x51_2).f3.f0) ((rd_T105 l0 x51_2).f3.f1) ((rd_T105 l0 x51_2).f3.f2) ((rd_T105 l0 x51_2).f3.f3) (Go.bits .and .u8 (ji28) 3) x1_2 t812 t813 t814 t815 t816 false _ ?side1 A29.out).mono ?_
                  (case side1 => exact Glob.below HG.out (bl HB))
                  rintro e w50 ⟨rfl, hb⟩
                  refine ⟨_, rfl, ?_⟩
                  have n0_ := am (Kd.R_below (Kd.rr HO_10.out) hb)
                  have n1_ := kb BK811 hb
                  have n2_ := sb HB hb
                  clear HO_10
                  clear BK811
                  clear HB
                  have HO_10 := n0_
                  have BK811 := n1_
                  have HB := n2_
                  clear n0_ n1_ n2_
                  (try clear hb)
                  (try clear hb2)
                  (try clear hk)
                  (try clear hi)
                  refine hK.out _ _ ⟨(blk_cell BK811.out 0).trans rfl, (blk_cell BK811.out 1).trans rfl, (blk_cell BK811.out 2).trans rfl, (blk_cell BK811.out 3).trans rfl, (blk_cell BK811.out 4).trans rfl, (blk_cell BK811.out 5).trans rfl, (blk_cell BK811.out 6).trans rfl⟩ (fun hHeld => ?_)
                  clear hK K
                  refine norm_ (a' := ?_) ?_ ?_
                  rotate_left
                  ·show Act.put _ (some 68) _ = _
                   simp only [Act.put, List.setIfInBounds_toArray, List.set_cons_zero, List.set_cons_succ, i64_w, i32_w]
                   rfl
                  refine pu HT_ 12 (some 56) (bb 13 20) ?_
                  refine pu HT_ 13 (some 69) (bb 14 20) ?_
                  refine pu HT_ 14 (some 70) (bb 15 20) ?_
                  refine pu HT_ 15 (some 71) (bb 16 20) ?_
                  refine one_ (i := 16) (N := some 13) (bb 17 20) rfl rfl (one_of HT_.out (by kernel_rfl)) (by decide) (fun K hK => ?_)
                  refine box_step ?hg (N := 13) ?hd (cs := #[.int .i64 0, .int .i64 0, .float .f64 0, .string (⟨#[]⟩ : ByteArray)]) (t := 50) ?hr ?_; (case hd => rfl); (case hg => rfl); (case hr => first | (go_simp; done) | (go_simp; rfl))
                  intro gb818 hg w51 hbox hb
                  have n0_ := am (Kd.R_below (Kd.R_elderB (Kd.rr HO_10.out) gb818 (Nat.le_of_eq hg.symm)) hb)
                  have n1_ := kb BK811 hb
                  have n2_ := sb HB hb
                  have n3_ := am (hbox)
                  have n4_ := gw hg HB
                  have n5_ := gw hg HB
                  have n6_ := am ((by rw [hg]; exact Nat.ne_of_lt (blk_lt (bk BK811)) : gb811 ≠ gb818))
                  have n7_ := am ((by rw [hg]; exact Nat.ne_of_gt (blk_lt (bk BK811)) : gb818 ≠ gb811))
                  clear HO_10
                  clear BK811
                  clear HB
                  have HO_10 := n0_
                  have BK811 := n1_
                  have HB := n2_
                  have BK818 := n3_
                  have GW818 := n4_
                  have GE818 := n5_
                  have NB811_818 := n6_
                  have NB818_811 := n7_
                  clear n0_ n1_ n2_ n3_ n4_ n5_ n6_ n7_
                  clear hb hbox hg
                  refine hK.out _ _ ⟨(blk_cell BK811.out 0).trans rfl, (blk_cell BK811.out 1).trans rfl, (blk_cell BK811.out 2).trans rfl, (blk_cell BK811.out 3).trans rfl, (blk_cell BK811.out 4).trans rfl, (blk_cell BK811.out 5).trans rfl, (blk_cell BK811.out 6).trans rfl⟩ (fun hHeld => ?_)
                  clear hK K
                  refine norm_ (a' := ?_) ?_ ?_
                  rotate_left
                  ·show Act.put _ (some 13) _ = _
                   simp only [Act.put, List.setIfInBounds_toArray, List.set_cons_zero, List.set_cons_succ, i64_w, i32_w]
                   rfl
                  exact norm_ (np) (hCont (gb818) _ ⟨hHeld, (by (with_reducible repeat (first | apply Kd.R_alloc | apply Kd.R_drewN | apply Kd.R_drew)); exact Kd.R_mono HO_10.out (fun _ hk => hk.2)), (bk BK811), (bk BK818), GW818.out, GE818.out, NB811_818.out, NB818_811.out, (bl HB)⟩)
                 ·skip
                  refine box_step ?hg (N := 13) ?hd (cs := #[.int .i64 0, .int .i64 0, .float .f64 0, .string (⟨#[]⟩ : ByteArray)]) (t := 50) ?hr ?_; (case hd => rfl); (case hg => rfl); (case hr => first | (go_simp; done) | (go_simp; rfl))
                  intro gb818 hg w50 hbox hb
                  have n0_ := am (Kd.R_below (Kd.R_elderB (Kd.rr HO_10.out) gb818 (Nat.le_of_eq hg.symm)) hb)
                  have n1_ := kb BK811 hb
                  have n2_ := sb HB hb
                  have n3_ := am (hbox)
                  have n4_ := gw hg HB
                  have n5_ := gw hg HB
                  have n6_ := am ((by rw [hg]; exact Nat.ne_of_lt (blk_lt (bk BK811)) : gb811 ≠ gb818))
                  have n7_ := am ((by rw [hg]; exact Nat.ne_of_gt (blk_lt (bk BK811)) : gb818 ≠ gb811))
                  clear HO_10
                  clear BK811
                  clear HB
                  have HO_10 := n0_
                  have BK811 := n1_
                  have HB := n2_
                  have BK818 := n3_
                  have GW818 := n4_
                  have GE818 := n5_
                  have NB811_818 := n6_
                  have NB818_811 := n7_
                  clear n0_ n1_ n2_ n3_ n4_ n5_ n6_ n7_
                  clear hb hbox hg
                  refine hK.out _ _ ⟨(blk_cell BK811.out 0).trans rfl, (blk_cell BK811.out 1).trans rfl, (blk_cell BK811.out 2).trans rfl, (blk_cell BK811.out 3).trans rfl, (blk_cell BK811.out 4).trans rfl, (blk_cell BK811.out 5).trans rfl, (blk_cell BK811.out 6).trans rfl⟩ (fun hHeld => ?_)
                  clear hK K
                  refine norm_ (a' := ?_) ?_ ?_
                  rotate_left
                  ·show Act.put _ (some 13) _ = _
                   simp only [Act.put, List.setIfInBounds_toArray, List.set_cons_zero, List.set_cons_succ, i64_w, i32_w]
                   rfl
                  refine one_ (i := 11) (N := some 68) (bs 20 69631) rfl rfl (one_of HT_.out (by kernel_rfl)) (by decide) (fun K hK => ?_)
                  refine goes_ Tryd.func131 (by kernel_rfl) rfl #[.agg #[.string ((rd_T105 l0 x51_2).f0), .int .i64 ((rd_T105 l0 x51_2).f1), .bool ((rd_T105 l0 x51_2).f2), .int .i64 ((rd_T105 l0 x51_2).f3.f0), .int .i64 ((rd_T105 l0 x51_2).f3.f1), .float .f64 ((rd_T105 l0 x51_2).f3.f2), .string ((rd_T105 l0 x51_2).f3.f3)], .int .u8 (Go.bits .and .u8 (ji28) 3), .string x1_2] (by rfl) rfl rfl (by (try simp only [List.map_toArray, List.map_cons, List.map_nil]); first | done | (simp only [hji28]; rfl) | rfl | (simp only [List.length_drop, List.length_take]; rfl)) ?_
                  with_reducible refine (row_get.calls k2 ((rd_T105 l0 x51_2).f0) ((rd_T105 l0 x51_2).f1) ((rd_T105 l0 x51_2).f2) ((rd_T105 l0 x51_2).f3.f0) ((rd_T105 l0 x51_2).f3.f1) ((rd_T105 l0 x51_2).f3.f2) ((rd_T105 l0 x51_2).f3.f3) (Go.bits .and .u8 (ji28) 3) x1_2 t812 t813 t814 t815 t816 false _ ?side1 A29.out).mono ?_
                  (case side1 => exact Glob.below HG.out (bl HB))
                  rintro e w51 ⟨rfl, hb⟩
                  refine ⟨_, rfl, ?_⟩
                  have n0_ := am (Kd.R_below (Kd.rr HO_10.out) hb)
                  have n1_ := kb BK811 hb
                  have n2_ := kb BK818 hb
                  have n3_ := sb HB hb
                  clear HO_10
                  clear BK811
                  clear BK818
                  clear HB
                  have HO_10 := n0_
                  have BK811 := n1_
                  have BK818 := n2_
                  have HB := n3_
                  clear n0_ n1_ n2_ n3_
                  (try clear hb)
                  (try clear hb2)
                  (try clear hk)
                  (try clear hi)
                  refine hK.out _ _ ⟨(blk_cell BK811.out 0).trans rfl, (blk_cell BK811.out 1).trans rfl, (blk_cell BK811.out 2).trans rfl, (blk_cell BK811.out 3).trans rfl, (blk_cell BK811.out 4).trans rfl, (blk_cell BK811.out 5).trans rfl, (blk_cell BK811.out 6).trans rfl⟩ (fun hHeld => ?_)
                  clear hK K
                  refine norm_ (a' := ?_) ?_ ?_
                  rotate_left
                  ·show Act.put _ (some 68) _ = _
                   simp only [Act.put, List.setIfInBounds_toArray, List.set_cons_zero, List.set_cons_succ, i64_w, i32_w]
                   rfl
                  refine pu HT_ 12 (some 56) (bs 20 73727) ?_
                  refine pu HT_ 13 (some 69) (bs 20 81919) ?_
                  refine pu HT_ 14 (some 70) (bs 20 98303) ?_
                  refine pu HT_ 15 (some 71) (bb 17 20) ?_
                  exact norm_ (np) (hCont (gb818) _ ⟨hHeld, (by (with_reducible repeat (first | apply Kd.R_alloc | apply Kd.R_drewN | apply Kd.R_drew)); exact Kd.R_mono HO_10.out (fun _ hk => hk.2)), (bk BK811), (bk BK818), GW818.out, GE818.out, NB811_818.out, NB818_811.out, (bl HB)⟩)
                rintro gb818 w52 ⟨hS_, h0_, h1_, h2_, h3_, h4_, h5_, h6_, h7_⟩
                have n0_ : Aside0 (Kd.R k50 50 w52 w.heap.size (fun k_ => k_ ≠ gb818) u10 x10_2) := ⟨h0_⟩
                have n1_ : Aside0 (w52.heap[gb811]? = some (.cells #[.string ((rd_T105 l0 x51_2).f0), .int .i64 ((rd_T105 l0 x51_2).f1), .bool ((rd_T105 l0 x51_2).f2), .int .i64 ((rd_T105 l0 x51_2).f3.f0), .int .i64 ((rd_T105 l0 x51_2).f3.f1), .float .f64 ((rd_T105 l0 x51_2).f3.f2), .string ((rd_T105 l0 x51_2).f3.f3)] 105 (0, 0))) := ⟨h1_⟩
                have n2_ : Aside0 (w52.heap[gb818]? = some (.cells #[.int .i64 0, .int .i64 0, .float .f64 0, .string (⟨#[]⟩ : ByteArray)] 50 (0, 0))) := ⟨h2_⟩
                have n3_ : Aside0 (w.heap.size ≤ gb818) := ⟨h3_⟩
                have n4_ : Aside0 (w.heap.size ≤ gb818) := ⟨h4_⟩
                have n5_ : Aside0 (gb811 ≠ gb818) := ⟨h5_⟩
                have n6_ : Aside0 (gb818 ≠ gb811) := ⟨h6_⟩
                have n7_ : Aside0 (Below w.heap.size w w52) := ⟨h7_⟩
                clear HO_10
                clear BK811
                clear HB
                clear h0_ h1_ h2_ h3_ h4_ h5_ h6_ h7_
                have HO_10 := n0_
                have BK811 := n1_
                have BK818 := n2_
                have GW818 := n3_
                have GE818 := n4_
                have NB811_818 := n5_
                have NB818_811 := n6_
                have HB := n7_
                clear n0_ n1_ n2_ n3_ n4_ n5_ n6_ n7_
                have hHeld : w52.cell? ⟨gb811, 0, none⟩ = some (.string ((rd_T105 l0 x51_2).f0)) ∧ w52.cell? ⟨gb811, 1, none⟩ = some (.int .i64 ((rd_T105 l0 x51_2).f1)) ∧ w52.cell? ⟨gb811, 2, none⟩ = some (.bool ((rd_T105 l0 x51_2).f2)) ∧ w52.cell? ⟨gb811, 3, none⟩ = some (.int .i64 ((rd_T105 l0 x51_2).f3.f0)) ∧ w52.cell? ⟨gb811, 4, none⟩ = some (.int .i64 ((rd_T105 l0 x51_2).f3.f1)) ∧ w52.cell? ⟨gb811, 5, none⟩ = some (.float .f64 ((rd_T105 l0 x51_2).f3.f2)) ∧ w52.cell? ⟨gb811, 6, none⟩ = some (.string ((rd_T105 l0 x51_2).f3.f3)) := hS_
                refine norm_ (a' := ?_) ?_ ?_
                rotate_left
                ·simp only [putAll, Act.put, List.setIfInBounds_toArray, List.set_cons_zero, List.set_cons_succ]
                 rfl
                refine one_ (i := 17) (N := none) (bb 18 20) rfl rfl (one_of HT_.out (by kernel_rfl)) (by decide) (fun K hK => ?_)
                have hs53 : w52.cell? ⟨gb818, 0, none⟩ = some (.int .i64 0) := (blk_cell BK818.out 0).trans rfl
                have hfs53 := blk_frozen BK818.out 0
                have hns53_0 := NB811_818.out
                have hms53_0 := NB818_811.out
                have hs54 : w52.cell? ⟨gb818, 1, none⟩ = some (.int .i64 0) := (blk_cell BK818.out 1).trans rfl
                have hfs54 := blk_frozen BK818.out 1
                have hns54_0 := NB811_818.out
                have hms54_0 := NB818_811.out
                have hs55 : w52.cell? ⟨gb818, 2, none⟩ = some (.float .f64 0) := (blk_cell BK818.out 2).trans rfl
                have hfs55 := blk_frozen BK818.out 2
                have hns55_0 := NB811_818.out
                have hms55_0 := NB818_811.out
                have hs56 : w52.cell? ⟨gb818, 3, none⟩ = some (.string (⟨#[]⟩ : ByteArray)) := (blk_cell BK818.out 3).trans rfl
                have hfs56 := blk_frozen BK818.out 3
                have hns56_0 := NB811_818.out
                have hms56_0 := NB818_811.out
                refine skip_ (w1 := ?_) (by rfl) rfl ?_ ?_
                rotate_left
                ·go_simp
                 rfl
                refine hK.out _ _ ⟨((cell_far (p := ⟨gb818, _, none⟩) NB811_818.out _).trans (((cell_far (p := ⟨gb818, _, none⟩) NB811_818.out _).trans (((cell_far (p := ⟨gb818, _, none⟩) NB811_818.out _).trans (((cell_far (p := ⟨gb818, _, none⟩) NB811_818.out _).trans (hHeld.1)))))))), ((cell_far (p := ⟨gb818, _, none⟩) NB811_818.out _).trans (((cell_far (p := ⟨gb818, _, none⟩) NB811_818.out _).trans (((cell_far (p := ⟨gb818, _, none⟩) NB811_818.out _).trans (((cell_far (p := ⟨gb818, _, none⟩) NB811_818.out _).trans (hHeld.2.1)))))))), ((cell_far (p := ⟨gb818, _, none⟩) NB811_818.out _).trans (((cell_far (p := ⟨gb818, _, none⟩) NB811_818.out _).trans (((cell_far (p := ⟨gb818, _, none⟩) NB811_818.out _).trans (((cell_far (p := ⟨gb818, _, none⟩) NB811_818.out _).trans (hHeld.2.2.1)))))))), ((cell_far (p := ⟨gb818, _, none⟩) NB811_818.out _).trans (((cell_far (p := ⟨gb818, _, none⟩) NB811_818.out _).trans (((cell_far (p := ⟨gb818, _, none⟩) NB811_818.out _).trans (((cell_far (p := ⟨gb818, _, none⟩) NB811_818.out _).trans (hHeld.2.2.2.1)))))))), ((cell_far (p := ⟨gb818, _, none⟩) NB811_818.out _).trans (((cell_far (p := ⟨gb818, _, none⟩) NB811_818.out _).trans (((cell_far (p := ⟨gb818, _, none⟩) NB811_818.out _).trans (((cell_far (p := ⟨gb818, _, none⟩) NB811_818.out _).trans (hHeld.2.2.2.2.1)))))))), ((cell_far (p := ⟨gb818, _, none⟩) NB811_818.out _).trans (((cell_far (p := ⟨gb818, _, none⟩) NB811_818.out _).trans (((cell_far (p := ⟨gb818, _, none⟩) NB811_818.out _).trans (((cell_far (p := ⟨gb818, _, none⟩) NB811_818.out _).trans (hHeld.2.2.2.2.2.1)))))))), ((cell_far (p := ⟨gb818, _, none⟩) NB811_818.out _).trans (((cell_far (p := ⟨gb818, _, none⟩) NB811_818.out _).trans (((cell_far (p := ⟨gb818, _, none⟩) NB811_818.out _).trans (((cell_far (p := ⟨gb818, _, none⟩) NB811_818.out _).trans (hHeld.2.2.2.2.2.2))))))))⟩ (fun hHeld => ?_)
                clear hK K
                refine pu HT_ 18 (some 14) (bb 19 20) ?_
                refine pu HT_ 19 (some 15) (bb 20 20) ?_
                refine done_ (done_of HT_.out (by kernel_rfl)) ?_
                try go_wp2
                go_ret3
                exact ⟨_, by first | rfl | (simp [errW_none, errW_some] <;> rfl) | (simp only [← hji4, ← hji22, ← hji26, ← hji28]; first | rfl | (simp [errW_none, errW_some] <;> rfl)) | (simp [*, errW_none, errW_some] <;> rfl), by first | exact Kd.R_nil _ _ _ _ _ | exact Kd.N_nil _ _ _ _ _ | exact Kd.V_nil _ _ _ _ _ | exact Kd.Q_nil _ _ _ _ _ | exact Kd.S_nil _ _ _ _ _, bl HB⟩
              ·rw [if_neg c27] at H
               exact absurd H (by simp)
             ·rw [if_neg c24] at H
              exact absurd H (by simp)
            ·rw [if_neg c23] at H
             exact absurd H (by simp)
           ·rw [if_neg c21] at H
            exact absurd H (by simp)
          ·rw [if_neg c20] at H
           exact absurd H (by simp)
         ·rw [if_neg c19] at H
          have c19b0 : decide (x51_2 < (l0.length : Int)) = false := decide_eq_false c19
          clear c19
          simp only [Option.some.injEq, Prod.mk.injEq] at H
          obtain ⟨rfl, rfl, rfl⟩ := H
          go_wp2
          go_ret3
          exact ⟨_, by first | rfl | (simp [errW_none, errW_some] <;> rfl) | (simp only [← hji4]; first | rfl | (simp [errW_none, errW_some] <;> rfl)) | (simp [*, errW_none, errW_some] <;> rfl), Kd.rr HO_10.out, bl HB⟩
   ·rw [if_neg c6] at H
    exact absurd H (by simp)
  ·rw [if_neg c5] at H
   exact absurd H (by simp)
mutual
def vellumref04_number.l0 : Nat → ByteArray → Int → Int → Option (Int × Int)
 | 0, _, _, _ => none
 | k + 1, x0, x4, x5 => if x5 < (x0.size : Int) then (vellumref04_number.j1 k x0 x4 x5 (decide (x5 < 10))) else (vellumref04_number.j1 k x0 x4 x5 false)
def vellumref04_number.j1 : Nat → ByteArray → Int → Int → Bool → Option (Int × Int)
 | 0, _, _, _, _ => none
 | k + 1, x0, x4, x5, x13 => if x13 = true then (if x5 = 9 then (if 0 ≤ x5 then (if x5 < (x0.size : Int) then (vellumref04_number.j2 k x0 x4 x5 (decide ((bt x0 x5) > 1))) else (none)) else (none)) else (vellumref04_number.j2 k x0 x4 x5 false)) else (some (0, 0))
def vellumref04_number.j2 : Nat → ByteArray → Int → Int → Bool → Option (Int × Int)
 | 0, _, _, _, _ => none
 | k + 1, x0, x4, x5, x23 => if x23 = true then (some (0, 0)) else (if 0 ≤ x5 then (if x5 < (x0.size : Int) then (if 0 ≤ (IntKind.u64.wrap (wrap64 (7 * x5))) then (if (bt x0 x5) < 128 then (if x5 > 0 then (if (bt x0 x5) = 0 then (some (0, 0)) else (some (Go.bits .or .u64 x4 (shl .u64 (IntKind.u64.wrap (Go.bits .and .u8 (bt x0 x5) 127)) (IntKind.u64.wrap (wrap64 (7 * x5)))), wrap64 (x5 + 1)))) else (some (Go.bits .or .u64 x4 (shl .u64 (IntKind.u64.wrap (Go.bits .and .u8 (bt x0 x5) 127)) (IntKind.u64.wrap (wrap64 (7 * x5)))), wrap64 (x5 + 1)))) else (vellumref04_number.l0 k x0 (Go.bits .or .u64 x4 (shl .u64 (IntKind.u64.wrap (Go.bits .and .u8 (bt x0 x5) 127)) (IntKind.u64.wrap (wrap64 (7 * x5))))) (wrap64 (x5 + 1)))) else (none)) else (none)) else (none))
end
def vellumref04_number.f (k : Nat) (a0 : ByteArray) : Option (Int × Int) := vellumref04_number.l0 k a0 0 0
set_option maxHeartbeats 8000000 in
set_option maxRecDepth 100000 in
theorem vellumref04_number.calls (k : Nat) (a0 : ByteArray) (r1 : Int) (r2 : Int) (w : World) (h : vellumref04_number.f k a0 = some (r1, r2)) :
  Calls Tryd.prog 96 #[.string a0] w fun e w' => e = .returned (.tuple #[.int .u64 r1, .int .i64 r2]) ∧ Drawn0 w w' := by
 have H : (vellumref04_number.l0 k a0 0 0) = some (r1, r2) := h
 clear h
 have H' := am H
 clear H
 go_enter Tryd.func96, Tryd.ntmps96
 go_wp2
 go_loopg [4, 5] k (fun kq v4 v5 w' => ∃ (x4_1 : Int) (x5_1 : Int), v4 = .int .u64 x4_1 ∧ v5 = .int .i64 x5_1 ∧ Aside0 (vellumref04_number.l0 kq a0 x4_1 x5_1 = some (r1, r2)) ∧ Aside0 (kq ≤ k) ∧ Drawn0 w w')
 case atStart => exact ⟨(0), (0), eb, eb, H', ⟨Nat.le_refl _⟩, by repeat (first | exact Drawn0.refl _ | apply Drawn0.step)⟩
 case round =>
  clear H'
  obtain ⟨x4_1, x5_1, rfl, rfl, HA, HK1, ⟨m1, rfl⟩⟩ := hrel
  cases gk with
  | zero => exact absurd HA.out (by simp [vellumref04_number.l0])
  | succ k1 =>
   have H := HA.out
   clear HA
   simp only [vellumref04_number.l0] at H
   have HC2 := am H
   clear H
   go_upto_region 3 with (fail)
   go_cut [13] (fun v13 wc => ∃ (kq : Nat) (x13_1 : Bool), v13 = .bool x13_1 ∧ Aside0 (vellumref04_number.j1 kq a0 x4_1 x5_1 x13_1 = some (r1, r2)) ∧ Aside0 (kq ≤ k1) ∧ Drawn0 w wc)
   case first =>
    have H := HC2.out
    clear HC2
    by_cases c3 : x5_1 < (a0.size : Int)
    ·rw [if_pos c3] at H
     have c3b0 : decide (x5_1 < (a0.size : Int)) = true := decide_eq_true c3
     clear c3
     (first | rw [c3b0] | (simp only [i64_w, i32_w]; rw [c3b0]) | skip)
     have H' := am H
     clear H
     go_wp2
     go_meet
     case rel => exact ⟨_, (decide (x5_1 < 10)), eb, H', ⟨by have := HK1.out; first | omega | exact Nat.le_refl _⟩, by repeat (first | exact Drawn0.refl _ | apply Drawn0.step)⟩
    ·rw [if_neg c3] at H
     have c3b0 : decide (x5_1 < (a0.size : Int)) = false := decide_eq_false c3
     clear c3
     (first | rw [c3b0] | (simp only [i64_w, i32_w]; rw [c3b0]) | skip)
     have H' := am H
     clear H
     go_wp2
     go_meet
     case rel => exact ⟨_, (false), eb, H', ⟨by have := HK1.out; first | omega | exact Nat.le_refl _⟩, by repeat (first | exact Drawn0.refl _ | apply Drawn0.step)⟩
   case rest =>
    clear HC2
    (try clear p2); (try clear c3); (try clear c3b0)
    obtain ⟨kq, x13_1, rfl, HA, HJ1, ⟨mc1, rfl⟩⟩ := hcut
    cases kq with
    | zero => exact absurd HA.out (by simp [vellumref04_number.j1])
    | succ kj1 =>
     have H := HA.out
     clear HA
     simp only [vellumref04_number.j1] at H
     by_cases c4 : x13_1 = true
     ·subst c4
      have H1 : (if x5_1 = 9 then (if 0 ≤ x5_1 then (if x5_1 < (a0.size : Int) then (vellumref04_number.j2 kj1 a0 x4_1 x5_1 (decide ((bt a0 x5_1) > 1))) else (none)) else (none)) else (vellumref04_number.j2 kj1 a0 x4_1 x5_1 false)) = some (r1, r2) := by rw [if_pos rfl] at H; exact H
      clear H
      have H := H1
      clear H1
      have HC5 := am H
      clear H
      go_upto_region 5 with (fail)
      go_cut [23] (fun v23 wc => ∃ (kq : Nat) (x23_4 : Bool), v23 = .bool x23_4 ∧ Aside0 (vellumref04_number.j2 kq a0 x4_1 x5_1 x23_4 = some (r1, r2)) ∧ Aside0 (kq ≤ kj1) ∧ Drawn0 w wc)
      case first =>
       have H := HC5.out
       clear HC5
       by_cases c6 : x5_1 = 9
       ·rw [if_pos c6] at H
        have c6b0 : (x5_1 == 9) = true := beq_iff_eq.mpr c6
        have c6b1 : (x5_1 != 9) = false := bne_eq_false_iff_eq.mpr c6
        clear c6
        (first | rw [c6b0] | (simp only [i64_w, i32_w]; rw [c6b0]) | skip)
        by_cases c7 : 0 ≤ x5_1
        ·rw [if_pos c7] at H
         have c7b0 : decide (0 ≤ x5_1) = true := decide_eq_true c7
         clear c7
         by_cases c8 : x5_1 < (a0.size : Int)
         ·rw [if_pos c8] at H
          have c8b0 : decide (x5_1 < (a0.size : Int)) = true := decide_eq_true c8
          clear c8
          have H' := am H
          clear H
          have p9 : 0 ≤ (x5_1 : Int) := oda
          have q9 : x5_1 < (a0.size : Int) := oda
          have hx9 := bt_at a0 x5_1
          replace p9 := eq_true p9
          replace q9 := eq_true q9
          go_wp2
          go_meet
          case rel => exact ⟨_, (decide ((bt a0 x5_1) > 1)), eb, H', ⟨by have := HK1.out; have := HJ1.out; first | omega | exact Nat.le_refl _⟩, by repeat (first | exact Drawn0.refl _ | apply Drawn0.step)⟩
         ·rw [if_neg c8] at H
          exact absurd H (by simp)
        ·rw [if_neg c7] at H
         exact absurd H (by simp)
       ·rw [if_neg c6] at H
        have c6b0 : (x5_1 == 9) = false := beq_eq_false_iff_ne.mpr c6
        have c6b1 : (x5_1 != 9) = true := bne_iff_ne.mpr c6
        (first | rw [c6b0] | (simp only [i64_w, i32_w]; rw [c6b0]) | skip)
        have H' := am H
        clear H
        go_wp2
        go_meet
        case rel => exact ⟨_, (false), eb, H', ⟨by have := HK1.out; have := HJ1.out; first | omega | exact Nat.le_refl _⟩, by repeat (first | exact Drawn0.refl _ | apply Drawn0.step)⟩
      case rest =>
       clear HC5
       (try clear c1); (try clear p2); (try clear c3); (try clear c3b0); (try clear c4); (try clear c6); (try clear c6b0 c6b1); (try clear c7); (try clear c7b0); (try clear c8); (try clear c8b0); (try clear c9); (try clear p9); (try clear q9); (try clear hx9); (try clear p2); (try clear p9); (try clear q9)
       obtain ⟨kq, x23_4, rfl, HA, HJ4, ⟨mc4, rfl⟩⟩ := hcut
       cases kq with
       | zero => exact absurd HA.out (by simp [vellumref04_number.j2])
       | succ kj4 =>
        have H := HA.out
        clear HA
        simp only [vellumref04_number.j2] at H
        by_cases c10 : x23_4 = true
        ·subst c10
         have H1 : (some (0, 0)) = some (r1, r2) := by rw [if_pos rfl] at H; exact H
         clear H
         have H := H1
         clear H1
         simp only [Option.some.injEq, Prod.mk.injEq] at H
         obtain ⟨rfl, rfl⟩ := H
         go_wp2
         go_ret2
         exact ⟨eb, by repeat (first | exact Drawn0.refl _ | apply Drawn0.step)⟩
        ·replace c10 := Bool.eq_false_iff.mpr c10
         subst c10
         have H1 : (if 0 ≤ x5_1 then (if x5_1 < (a0.size : Int) then (if 0 ≤ (IntKind.u64.wrap (wrap64 (7 * x5_1))) then (if (bt a0 x5_1) < 128 then (if x5_1 > 0 then (if (bt a0 x5_1) = 0 then (some (0, 0)) else (some (Go.bits .or .u64 x4_1 (shl .u64 (IntKind.u64.wrap (Go.bits .and .u8 (bt a0 x5_1) 127)) (IntKind.u64.wrap (wrap64 (7 * x5_1)))), wrap64 (x5_1 + 1)))) else (some (Go.bits .or .u64 x4_1 (shl .u64 (IntKind.u64.wrap (Go.bits .and .u8 (bt a0 x5_1) 127)) (IntKind.u64.wrap (wrap64 (7 * x5_1)))), wrap64 (x5_1 + 1)))) else (vellumref04_number.l0 kj4 a0 (Go.bits .or .u64 x4_1 (shl .u64 (IntKind.u64.wrap (Go.bits .and .u8 (bt a0 x5_1) 127)) (IntKind.u64.wrap (wrap64 (7 * x5_1))))) (wrap64 (x5_1 + 1)))) else (none)) else (none)) else (none)) = some (r1, r2) := by rw [if_neg (show ¬ (false = true) by decide)] at H; exact H
         clear H
         have H := H1
         clear H1
         by_cases c11 : 0 ≤ x5_1
         ·rw [if_pos c11] at H
          have c11b0 : decide (0 ≤ x5_1) = true := decide_eq_true c11
          clear c11
          by_cases c12 : x5_1 < (a0.size : Int)
          ·rw [if_pos c12] at H
           have c12b0 : decide (x5_1 < (a0.size : Int)) = true := decide_eq_true c12
           clear c12
           obtain ⟨ji14, hji14⟩ : ∃ j_ : Int, (IntKind.u64.wrap (wrap64 (7 * x5_1))) = j_ := ⟨_, rfl⟩
           replace H : (if 0 ≤ (ji14) then (if (bt a0 x5_1) < 128 then (if x5_1 > 0 then (if (bt a0 x5_1) = 0 then (some (0, 0)) else (some (Go.bits .or .u64 x4_1 (shl .u64 (IntKind.u64.wrap (Go.bits .and .u8 (bt a0 x5_1) 127)) (ji14)), wrap64 (x5_1 + 1)))) else (some (Go.bits .or .u64 x4_1 (shl .u64 (IntKind.u64.wrap (Go.bits .and .u8 (bt a0 x5_1) 127)) (ji14)), wrap64 (x5_1 + 1)))) else (vellumref04_number.l0 kj4 a0 (Go.bits .or .u64 x4_1 (shl .u64 (IntKind.u64.wrap (Go.bits .and .u8 (bt a0 x5_1) 127)) (ji14))) (wrap64 (x5_1 + 1)))) else (none)) = some (r1, r2) := by first | (rw [hji14] at H; exact H) | (simp only [hji14] at H ⊢; exact H)
           by_cases c15 : 0 ≤ (ji14)
           ·rw [if_pos c15] at H
            have c15b0 := eq_true c15
            have c15b1 : decide (0 ≤ (ji14)) = true := decide_eq_true c15
            clear c15
            obtain ⟨ji16, hji16⟩ : ∃ j_ : Int, (shl .u64 (IntKind.u64.wrap (Go.bits .and .u8 (bt a0 x5_1) 127)) (ji14)) = j_ := ⟨_, rfl⟩
            replace H : (if (bt a0 x5_1) < 128 then (if x5_1 > 0 then (if (bt a0 x5_1) = 0 then (some (0, 0)) else (some (Go.bits .or .u64 x4_1 (ji16), wrap64 (x5_1 + 1)))) else (some (Go.bits .or .u64 x4_1 (ji16), wrap64 (x5_1 + 1)))) else (vellumref04_number.l0 kj4 a0 (Go.bits .or .u64 x4_1 (ji16)) (wrap64 (x5_1 + 1)))) = some (r1, r2) := by first | (rw [hji16] at H; exact H) | (simp only [hji16] at H ⊢; exact H)
            have hji16_ : (IntKind.u64.wrap ((IntKind.u64.wrap (Go.bits .and .u8 (bt a0 x5_1) 127)) * 2 ^ min (ji14).toNat 64)) = ji16 := hji16
            have hji16z : (ji14) ≤ 64 → (IntKind.u64.wrap ((IntKind.u64.wrap (Go.bits .and .u8 (bt a0 x5_1) 127)) * 2 ^ (ji14).toNat)) = ji16 := shl_small hji16
            by_cases c18 : (bt a0 x5_1) < 128
            ·rw [if_pos c18] at H
             have c18b0 : decide ((bt a0 x5_1) < 128) = true := decide_eq_true c18
             clear c18
             by_cases c19 : x5_1 > 0
             ·rw [if_pos c19] at H
              have c19b0 : decide (0 < x5_1) = true := decide_eq_true c19
              clear c19
              by_cases c21 : (bt a0 x5_1) = 0
              ·rw [if_pos c21] at H
               have c21b0 : ((bt a0 x5_1) == 0) = true := beq_iff_eq.mpr c21
               have c21b1 : ((bt a0 x5_1) != 0) = false := bne_eq_false_iff_eq.mpr c21
               clear c21
               simp only [Option.some.injEq, Prod.mk.injEq] at H
               obtain ⟨rfl, rfl⟩ := H
               have p13 : 0 ≤ (x5_1 : Int) := oda
               have q13 : x5_1 < (a0.size : Int) := oda
               have hx13 := bt_at a0 x5_1
               replace p13 := eq_true p13
               replace q13 := eq_true q13
               have p17 : 0 ≤ (x5_1 : Int) := oda
               have q17 : x5_1 < (a0.size : Int) := oda
               have hx17 := bt_at a0 x5_1
               replace p17 := eq_true p17
               replace q17 := eq_true q17
               have p20 : 0 ≤ (x5_1 : Int) := oda
               have q20 : x5_1 < (a0.size : Int) := oda
               have hx20 := bt_at a0 x5_1
               replace p20 := eq_true p20
               replace q20 := eq_true q20
               go_wp2
               go_ret2
               exact ⟨by first | rfl | (simp; done) | (simp only [← hji14, ← hji16] <;> (first | rfl | simp)) | (simp [*]; done), by repeat (first | exact Drawn0.refl _ | apply Drawn0.step)⟩
              ·rw [if_neg c21] at H
               have c21b0 : ((bt a0 x5_1) == 0) = false := beq_eq_false_iff_ne.mpr c21
               have c21b1 : ((bt a0 x5_1) != 0) = true := bne_iff_ne.mpr c21
               simp only [Option.some.injEq, Prod.mk.injEq] at H
               obtain ⟨rfl, rfl⟩ := H
               have p13 : 0 ≤ (x5_1 : Int) := oda
               have q13 : x5_1 < (a0.size : Int) := oda
               have hx13 := bt_at a0 x5_1
               replace p13 := eq_true p13
               replace q13 := eq_true q13
               have p17 : 0 ≤ (x5_1 : Int) := oda
               have q17 : x5_1 < (a0.size : Int) := oda
               have hx17 := bt_at a0 x5_1
               replace p17 := eq_true p17
               replace q17 := eq_true q17
               have p20 : 0 ≤ (x5_1 : Int) := oda
               have q20 : x5_1 < (a0.size : Int) := oda
               have hx20 := bt_at a0 x5_1
               replace p20 := eq_true p20
               replace q20 := eq_true q20
               go_wp2
               go_ret2
               exact ⟨by first | rfl | (simp; done) | (simp only [← hji14, ← hji16] <;> (first | rfl | simp)) | (simp [*]; done), by repeat (first | exact Drawn0.refl _ | apply Drawn0.step)⟩
             ·rw [if_neg c19] at H
              have c19b0 : decide (0 < x5_1) = false := decide_eq_false c19
              clear c19
              simp only [Option.some.injEq, Prod.mk.injEq] at H
              obtain ⟨rfl, rfl⟩ := H
              have p13 : 0 ≤ (x5_1 : Int) := oda
              have q13 : x5_1 < (a0.size : Int) := oda
              have hx13 := bt_at a0 x5_1
              replace p13 := eq_true p13
              replace q13 := eq_true q13
              have p17 : 0 ≤ (x5_1 : Int) := oda
              have q17 : x5_1 < (a0.size : Int) := oda
              have hx17 := bt_at a0 x5_1
              replace p17 := eq_true p17
              replace q17 := eq_true q17
              go_wp2
              go_ret2
              exact ⟨by first | rfl | (simp; done) | (simp only [← hji14, ← hji16] <;> (first | rfl | simp)) | (simp [*]; done), by repeat (first | exact Drawn0.refl _ | apply Drawn0.step)⟩
            ·rw [if_neg c18] at H
             have c18b0 : decide ((bt a0 x5_1) < 128) = false := decide_eq_false c18
             clear c18
             have H' := am H
             clear H
             have p13 : 0 ≤ (x5_1 : Int) := oda
             have q13 : x5_1 < (a0.size : Int) := oda
             have hx13 := bt_at a0 x5_1
             replace p13 := eq_true p13
             replace q13 := eq_true q13
             have p17 : 0 ≤ (x5_1 : Int) := oda
             have q17 : x5_1 < (a0.size : Int) := oda
             have hx17 := bt_at a0 x5_1
             replace p17 := eq_true p17
             replace q17 := eq_true q17
             go_wp2
             go_roundg kj4
             case measure => have := HK1.out; have := HJ1.out; have := HJ4.out; omega
             case rel => exact ⟨(Go.bits .or .u64 x4_1 (ji16)), (wrap64 (x5_1 + 1)), (by first | rfl | (simp; done) | (simp only [← hji16] <;> (first | rfl | simp)) | (simp [*]; done)), eb, H', ⟨by have := HK1.out; have := HJ1.out; have := HJ4.out; omega⟩, by repeat (first | exact Drawn0.refl _ | apply Drawn0.step)⟩
           ·rw [if_neg c15] at H
            exact absurd H (by simp)
          ·rw [if_neg c12] at H
           exact absurd H (by simp)
         ·rw [if_neg c11] at H
          exact absurd H (by simp)
     ·replace c4 := Bool.eq_false_iff.mpr c4
      subst c4
      have H1 : (some (0, 0)) = some (r1, r2) := by rw [if_neg (show ¬ (false = true) by decide)] at H; exact H
      clear H
      have H := H1
      clear H1
      simp only [Option.some.injEq, Prod.mk.injEq] at H
      obtain ⟨rfl, rfl⟩ := H
      go_wp2
      go_ret2
      exact ⟨eb, by repeat (first | exact Drawn0.refl _ | apply Drawn0.step)⟩
mutual
def vellumref04_value.j0 : Nat → Int → Int → ByteArray → Bool → Int → Int → Nat → ByteArray → Option (Int × Int × Nat × ByteArray × Int)
 | 0, _, _, _, _, _, _, _, _ => none
 | k + 1, x0, x1, x2, x19, x831000, x831001, x831002, x831003 => if x19 = true then (some (x831000, (x1 - 1) % 256, x831002, x831003, 0)) else (if x1 > 1 then (some (x831000, x831001, x831002, x831003, (-1))) else (if x0 = 3 then (if (x2.size : Int) < 8 then (some (x831000, x831001, x831002, x831003, (-1))) else (vellumref04_value.l0 k x2 0 0 x831000 x831001 x831002 x831003)) else ((vellumref04_number.f k x2).bind fun bt831 => (if bt831.2 = 0 then (some (x831000, x831001, x831002, x831003, (-1))) else (if x0 = 2 then (if (Int.tmod bt831.1 2) = 1 then (some (x831000, wrap64 ((wrap64 (-(wrap64 (bt831.1 / 2)))) - 1), x831002, x831003, bt831.2)) else (some (x831000, wrap64 (bt831.1 / 2), x831002, x831003, bt831.2))) else (if bt831.1 > (IntKind.u64.wrap (wrap64 ((x2.size : Int) - bt831.2))) then (some (x831000, x831001, x831002, x831003, (-1))) else (if 0 ≤ bt831.2 then (if bt831.2 ≤ (wrap64 (bt831.2 + (wrap64 (bt831.1)))) then (if (wrap64 (bt831.2 + (wrap64 (bt831.1)))) ≤ (x2.size : Int) then (some (x831000, x831001, x831002, x2.extract (bt831.2 : Int).toNat ((wrap64 (bt831.2 + (wrap64 (bt831.1)))) : Int).toNat, wrap64 (bt831.2 + (wrap64 (bt831.1))))) else (none)) else (none)) else (none))))))))
def vellumref04_value.l0 : Nat → ByteArray → Int → Int → Int → Int → Nat → ByteArray → Option (Int × Int × Nat × ByteArray × Int)
 | 0, _, _, _, _, _, _, _ => none
 | k + 1, x2, x9, x10, x831000, x831001, x831002, x831003 => if x10 < 8 then (if 0 ≤ x10 then (if x10 < (x2.size : Int) then (if 0 ≤ (IntKind.u64.wrap (wrap64 (8 * x10))) then (vellumref04_value.l0 k x2 (Go.bits .or .u64 x9 (shl .u64 (IntKind.u64.wrap (bt x2 x10)) (IntKind.u64.wrap (wrap64 (8 * x10))))) (wrap64 (x10 + 1)) x831000 x831001 x831002 x831003) else (none)) else (none)) else (none)) else (some (x831000, x831001, x9.toNat, x831003, 8))
end
def vellumref04_value.f (k : Nat) (a0 : Int) (a1 : Int) (a2 : ByteArray) : Option (Int × Int × Nat × ByteArray × Int) := if a1 = 0 then (some (0, 0, 0, (⟨#[]⟩ : ByteArray), 0)) else (if a0 = 1 then (vellumref04_value.j0 k a0 a1 a2 (decide (a1 < 3)) a0 0 0 (⟨#[]⟩ : ByteArray)) else (vellumref04_value.j0 k a0 a1 a2 false a0 0 0 (⟨#[]⟩ : ByteArray)))
set_option maxHeartbeats 8000000 in
set_option maxRecDepth 100000 in
theorem vellumref04_value.calls (k : Nat) (a0 : Int) (a1 : Int) (a2 : ByteArray) (r1 : Int) (r2 : Int) (r3 : Nat) (r4 : ByteArray) (r5 : Int) (w : World) (h : vellumref04_value.f k a0 a1 a2 = some (r1, r2, r3, r4, r5)) :
  Calls Tryd.prog 136 #[.int .i64 a0, .int .u8 a1, .string a2] w fun e w' => e = .returned (.tuple #[.agg #[.int .i64 r1, .int .i64 r2, .float .f64 r3, .string r4], .int .i64 r5]) ∧ Below w.heap.size w w' := by
 have hu50 := Tryd.underlying50
 have HB := am (Below.refl w.heap.size w)
 have H : (if a1 = 0 then (some (0, 0, 0, (⟨#[]⟩ : ByteArray), 0)) else (if a0 = 1 then (vellumref04_value.j0 k a0 a1 a2 (decide (a1 < 3)) a0 0 0 (⟨#[]⟩ : ByteArray)) else (vellumref04_value.j0 k a0 a1 a2 false a0 0 0 (⟨#[]⟩ : ByteArray)))) = some (r1, r2, r3, r4, r5) := h
 clear h
 by_cases c4 : a1 = 0
 ·rw [if_pos c4] at H
  have c4b0 : (a1 == 0) = true := beq_iff_eq.mpr c4
  have c4b1 : (a1 != 0) = false := bne_eq_false_iff_eq.mpr c4
  clear c4
  simp only [Option.some.injEq, Prod.mk.injEq] at H
  obtain ⟨rfl, rfl, rfl, rfl, rfl⟩ := H
  go_enter Tryd.func136, Tryd.ntmps136
  go_wp2_with (first | ((with_reducible refine gate_dst (N := 6) rfl ?_); refine box_event rfl (N := 6) rfl (cs := #[.int .i64 0, .int .i64 0, .float .f64 0, .string (⟨#[]⟩ : ByteArray)]) (t := 50) gs ?_; intro gb829 hg w5 hbox hb; have BK829 := am (hbox); have GW829 := gw hg HB; have GE829 := gw hg HB; replace HB := sb HB hb; clear hb hbox hg) | ((with_reducible refine gate_dst (N := 8) rfl ?_); refine box_event rfl (N := 8) rfl (cs := #[.int .i64 0, .int .i64 0, .float .f64 0, .string (⟨#[]⟩ : ByteArray)]) (t := 50) gs ?_; intro gb830 hg w6 hbox hb; have BK830 := am (hbox); have GW830 := gw hg HB; have GE830 := gw hg HB; have NB829_830 := am ((by rw [hg]; exact Nat.ne_of_lt (blk_lt (bk BK829)) : gb829 ≠ gb830)); have NB830_829 := am ((by rw [hg]; exact Nat.ne_of_gt (blk_lt (bk BK829)) : gb830 ≠ gb829)); replace BK829 := kb BK829 hb; replace HB := sb HB hb; clear hb hbox hg; have hnb7 := NB830_829.out; have hnc7 := NB829_830.out; obtain ⟨Z8_0, Z8_1, Z8_2, Z8_3, Y8_0, Y8_1, Y8_2, Y8_3⟩ := bq4 BK830; obtain ⟨Z9_0, Z9_1, Z9_2, Z9_3, Y9_0, Y9_1, Y9_2, Y9_3⟩ := bq4 BK829))
  refine bodyPost_ret (results_ct rfl _ _ gb829 50 #[.int .i64 0, .int .i64 0, .float .f64 0, .string (⟨#[]⟩ : ByteArray)] (0, 0) _ rfl (by refine rp ?_; refine blk_put (cs := #[.int .i64 0, .int .i64 0, .float .f64 0, .string (⟨#[]⟩ : ByteArray)]) ?_ 3 _ rfl; refine rp ?_; refine blk_put (cs := #[.int .i64 0, .int .i64 0, .float .f64 0, .string (⟨#[]⟩ : ByteArray)]) ?_ 2 _ rfl; refine rp ?_; refine blk_put (cs := #[.int .i64 0, .int .i64 0, .float .f64 0, .string (⟨#[]⟩ : ByteArray)]) ?_ 1 _ rfl; refine rp ?_; refine blk_put (cs := #[.int .i64 0, .int .i64 0, .float .f64 0, .string (⟨#[]⟩ : ByteArray)]) ?_ 0 _ rfl; refine rp ?_; refine blk_far ?_ NB829_830.out _; refine rp ?_; refine blk_far ?_ NB829_830.out _; refine rp ?_; refine blk_far ?_ NB829_830.out _; refine rp ?_; refine blk_far ?_ NB829_830.out _; exact bk BK829) Tryd.underlying50 rfl (by kernel_rfl)) rfl ?_
  exact ⟨er, bl HB⟩
 ·rw [if_neg c4] at H
  have c4b0 : (a1 == 0) = false := beq_eq_false_iff_ne.mpr c4
  have c4b1 : (a1 != 0) = true := bne_iff_ne.mpr c4
  have HC10 := am H
  clear H
  go_enter Tryd.func136, Tryd.ntmps136
  go_upto_region 4 with (first | ((with_reducible refine gate_dst (N := 6) rfl ?_); refine box_event rfl (N := 6) rfl (cs := #[.int .i64 0, .int .i64 0, .float .f64 0, .string (⟨#[]⟩ : ByteArray)]) (t := 50) gs ?_; intro gb829 hg w11 hbox hb; have BK829 := am (hbox); have GW829 := gw hg HB; have GE829 := gw hg HB; replace HB := sb HB hb; clear hb hbox hg) | ((with_reducible refine gate_dst (N := 8) rfl ?_); refine box_event rfl (N := 8) rfl (cs := #[.int .i64 0, .int .i64 0, .float .f64 0, .string (⟨#[]⟩ : ByteArray)]) (t := 50) gs ?_; intro gb830 hg w12 hbox hb; have BK830 := am (hbox); have GW830 := gw hg HB; have GE830 := gw hg HB; have NB829_830 := am ((by rw [hg]; exact Nat.ne_of_lt (blk_lt (bk BK829)) : gb829 ≠ gb830)); have NB830_829 := am ((by rw [hg]; exact Nat.ne_of_gt (blk_lt (bk BK829)) : gb830 ≠ gb829)); replace BK829 := kb BK829 hb; replace HB := sb HB hb; clear hb hbox hg; have hnb13 := NB830_829.out; have hnc13 := NB829_830.out; obtain ⟨Z14_0, Z14_1, Z14_2, Z14_3, Y14_0, Y14_1, Y14_2, Y14_3⟩ := bq4 BK830))
  (try simp only [Act.put, List.setIfInBounds_toArray, List.set_cons_zero, List.set_cons_succ])
  go_cut [19] (fun v19 wc => ∃ (kq : Nat) (x19_9 : Bool), v19 = .bool x19_9 ∧ Aside0 (vellumref04_value.j0 kq a0 a1 a2 x19_9 a0 0 0 (⟨#[]⟩ : ByteArray) = some (r1, r2, r3, r4, r5)) ∧ Aside0 (kq ≤ k) ∧ Aside0 (wc.heap[gb829]? = some (.cells #[.int .i64 0, .int .i64 0, .float .f64 0, .string (⟨#[]⟩ : ByteArray)] 50 (0, 0))) ∧ Aside0 (wc.heap[gb830]? = some (.cells #[.int .i64 a0, .int .i64 0, .float .f64 0, .string (⟨#[]⟩ : ByteArray)] 50 (0, 0))) ∧ Aside0 (Below w.heap.size w wc))
  case first =>
   have H := HC10.out
   clear HC10
   by_cases c15 : a0 = 1
   ·rw [if_pos c15] at H
    have c15b0 : (a0 == 1) = true := beq_iff_eq.mpr c15
    have c15b1 : (a0 != 1) = false := bne_eq_false_iff_eq.mpr c15
    clear c15
    (first | rw [c15b0] | (simp only [i64_w, i32_w]; rw [c15b0]) | skip)
    have H' := am H
    clear H
    go_wp2
    go_meet
    case rel => exact ⟨_, (decide (a1 < 3)), eb, H', ⟨by first | omega | exact Nat.le_refl _⟩, ⟨by refine rp ?_; refine blk_far ?_ NB829_830.out _; refine rp ?_; refine blk_far ?_ NB829_830.out _; refine rp ?_; refine blk_far ?_ NB829_830.out _; refine rp ?_; refine blk_far ?_ NB829_830.out _; exact bk BK829⟩, ⟨by refine rp ?_; refine blk_put (cs := #[.int .i64 a0, .int .i64 0, .float .f64 0, .string (⟨#[]⟩ : ByteArray)]) ?_ 3 _ rfl; refine rp ?_; refine blk_put (cs := #[.int .i64 a0, .int .i64 0, .float .f64 0, .string (⟨#[]⟩ : ByteArray)]) ?_ 2 _ rfl; refine rp ?_; refine blk_put (cs := #[.int .i64 a0, .int .i64 0, .float .f64 0, .string (⟨#[]⟩ : ByteArray)]) ?_ 1 _ rfl; refine rp ?_; refine blk_put (cs := #[.int .i64 0, .int .i64 0, .float .f64 0, .string (⟨#[]⟩ : ByteArray)]) ?_ 0 _ rfl; exact bk BK830⟩, ⟨bl HB⟩⟩
   ·rw [if_neg c15] at H
    have c15b0 : (a0 == 1) = false := beq_eq_false_iff_ne.mpr c15
    have c15b1 : (a0 != 1) = true := bne_iff_ne.mpr c15
    (first | rw [c15b0] | (simp only [i64_w, i32_w]; rw [c15b0]) | skip)
    have H' := am H
    clear H
    go_wp2
    go_meet
    case rel => exact ⟨_, (false), eb, H', ⟨by first | omega | exact Nat.le_refl _⟩, ⟨by refine rp ?_; refine blk_far ?_ NB829_830.out _; refine rp ?_; refine blk_far ?_ NB829_830.out _; refine rp ?_; refine blk_far ?_ NB829_830.out _; refine rp ?_; refine blk_far ?_ NB829_830.out _; exact bk BK829⟩, ⟨by refine rp ?_; refine blk_put (cs := #[.int .i64 a0, .int .i64 0, .float .f64 0, .string (⟨#[]⟩ : ByteArray)]) ?_ 3 _ rfl; refine rp ?_; refine blk_put (cs := #[.int .i64 a0, .int .i64 0, .float .f64 0, .string (⟨#[]⟩ : ByteArray)]) ?_ 2 _ rfl; refine rp ?_; refine blk_put (cs := #[.int .i64 a0, .int .i64 0, .float .f64 0, .string (⟨#[]⟩ : ByteArray)]) ?_ 1 _ rfl; refine rp ?_; refine blk_put (cs := #[.int .i64 0, .int .i64 0, .float .f64 0, .string (⟨#[]⟩ : ByteArray)]) ?_ 0 _ rfl; exact bk BK830⟩, ⟨bl HB⟩⟩
  case rest =>
   clear HC10
   (try clear c1); (try clear p2); (try clear c4); (try clear c4b0 c4b1); (try clear c7); (try clear c13); (try clear c15); (try clear c15b0 c15b1); (try clear Z14_0 Z14_1 Z14_2 Z14_3); (try clear Z8_0 Z8_1 Z8_2 Z8_3); (try clear Z9_0 Z9_1 Z9_2 Z9_3); (try clear Y14_0 Y14_1 Y14_2 Y14_3); (try clear Y8_0 Y8_1 Y8_2 Y8_3); (try clear Y9_0 Y9_1 Y9_2 Y9_3)
   obtain ⟨kq, x19_9, rfl, HA, HJ9, BK829, BK830, HB⟩ := hcut
   cases kq with
   | zero => exact absurd HA.out (by simp [vellumref04_value.j0])
   | succ kj9 =>
    have H := HA.out
    clear HA
    simp only [vellumref04_value.j0] at H
    by_cases c16 : x19_9 = true
    ·subst c16
     have H1 : (some (a0, (a1 - 1) % 256, 0, (⟨#[]⟩ : ByteArray), 0)) = some (r1, r2, r3, r4, r5) := by rw [if_pos rfl] at H; exact H
     clear H
     have H := H1
     clear H1
     simp only [Option.some.injEq, Prod.mk.injEq] at H
     obtain ⟨rfl, rfl, rfl, rfl, rfl⟩ := H
     have hnb17 := NB830_829.out
     have hnc17 := NB829_830.out
     obtain ⟨Z18_0, Z18_1, Z18_2, Z18_3, Y18_0, Y18_1, Y18_2, Y18_3⟩ := bq4 BK830
     obtain ⟨Z19_0, Z19_1, Z19_2, Z19_3, Y19_0, Y19_1, Y19_2, Y19_3⟩ := bq4 BK829
     go_wp2
     refine bodyPost_ret (results_ct rfl _ _ gb829 50 #[.int .i64 a0, .int .i64 ((a1 - 1) % 256), .float .f64 0, .string (⟨#[]⟩ : ByteArray)] (0, 0) _ rfl (by refine rp ?_; refine blk_put (cs := #[.int .i64 a0, .int .i64 ((a1 - 1) % 256), .float .f64 0, .string (⟨#[]⟩ : ByteArray)]) ?_ 3 _ rfl; refine rp ?_; refine blk_put (cs := #[.int .i64 a0, .int .i64 ((a1 - 1) % 256), .float .f64 0, .string (⟨#[]⟩ : ByteArray)]) ?_ 2 _ rfl; refine rp ?_; refine blk_put (cs := #[.int .i64 a0, .int .i64 0, .float .f64 0, .string (⟨#[]⟩ : ByteArray)]) ?_ 1 _ rfl; refine rp ?_; refine blk_put (cs := #[.int .i64 0, .int .i64 0, .float .f64 0, .string (⟨#[]⟩ : ByteArray)]) ?_ 0 _ rfl; refine rp ?_; refine blk_far ?_ NB829_830.out _; exact bk BK829) Tryd.underlying50 rfl (by kernel_rfl)) rfl ?_
     exact ⟨er, bl HB⟩
    ·replace c16 := Bool.eq_false_iff.mpr c16
     subst c16
     have H1 : (if a1 > 1 then (some (a0, 0, 0, (⟨#[]⟩ : ByteArray), (-1))) else (if a0 = 3 then (if (a2.size : Int) < 8 then (some (a0, 0, 0, (⟨#[]⟩ : ByteArray), (-1))) else (vellumref04_value.l0 kj9 a2 0 0 a0 0 0 (⟨#[]⟩ : ByteArray))) else ((vellumref04_number.f kj9 a2).bind fun bt831 => (if bt831.2 = 0 then (some (a0, 0, 0, (⟨#[]⟩ : ByteArray), (-1))) else (if a0 = 2 then (if (Int.tmod bt831.1 2) = 1 then (some (a0, wrap64 ((wrap64 (-(wrap64 (bt831.1 / 2)))) - 1), 0, (⟨#[]⟩ : ByteArray), bt831.2)) else (some (a0, wrap64 (bt831.1 / 2), 0, (⟨#[]⟩ : ByteArray), bt831.2))) else (if bt831.1 > (IntKind.u64.wrap (wrap64 ((a2.size : Int) - bt831.2))) then (some (a0, 0, 0, (⟨#[]⟩ : ByteArray), (-1))) else (if 0 ≤ bt831.2 then (if bt831.2 ≤ (wrap64 (bt831.2 + (wrap64 (bt831.1)))) then (if (wrap64 (bt831.2 + (wrap64 (bt831.1)))) ≤ (a2.size : Int) then (some (a0, 0, 0, a2.extract (bt831.2 : Int).toNat ((wrap64 (bt831.2 + (wrap64 (bt831.1)))) : Int).toNat, wrap64 (bt831.2 + (wrap64 (bt831.1))))) else (none)) else (none)) else (none)))))))) = some (r1, r2, r3, r4, r5) := by rw [if_neg (show ¬ (false = true) by decide)] at H; exact H
     clear H
     have H := H1
     clear H1
     by_cases c20 : a1 > 1
     ·rw [if_pos c20] at H
      have c20b0 : decide (1 < a1) = true := decide_eq_true c20
      clear c20
      simp only [Option.some.injEq, Prod.mk.injEq] at H
      obtain ⟨rfl, rfl, rfl, rfl, rfl⟩ := H
      have hnb21 := NB830_829.out
      have hnc21 := NB829_830.out
      obtain ⟨Z22_0, Z22_1, Z22_2, Z22_3, Y22_0, Y22_1, Y22_2, Y22_3⟩ := bq4 BK830
      obtain ⟨Z23_0, Z23_1, Z23_2, Z23_3, Y23_0, Y23_1, Y23_2, Y23_3⟩ := bq4 BK829
      go_wp2
      refine bodyPost_ret (results_ct rfl _ _ gb829 50 #[.int .i64 a0, .int .i64 0, .float .f64 0, .string (⟨#[]⟩ : ByteArray)] (0, 0) _ rfl (by refine rp ?_; refine blk_put (cs := #[.int .i64 a0, .int .i64 0, .float .f64 0, .string (⟨#[]⟩ : ByteArray)]) ?_ 3 _ rfl; refine rp ?_; refine blk_put (cs := #[.int .i64 a0, .int .i64 0, .float .f64 0, .string (⟨#[]⟩ : ByteArray)]) ?_ 2 _ rfl; refine rp ?_; refine blk_put (cs := #[.int .i64 a0, .int .i64 0, .float .f64 0, .string (⟨#[]⟩ : ByteArray)]) ?_ 1 _ rfl; refine rp ?_; refine blk_put (cs := #[.int .i64 0, .int .i64 0, .float .f64 0, .string (⟨#[]⟩ : ByteArray)]) ?_ 0 _ rfl; exact bk BK829) Tryd.underlying50 rfl (by kernel_rfl)) rfl ?_
      exact ⟨er, bl HB⟩
     ·rw [if_neg c20] at H
      have c20b0 : decide (1 < a1) = false := decide_eq_false c20
      clear c20
      by_cases c24 : a0 = 3
      ·rw [if_pos c24] at H
       have c24b0 : (a0 == 3) = true := beq_iff_eq.mpr c24
       have c24b1 : (a0 != 3) = false := bne_eq_false_iff_eq.mpr c24
       clear c24
       by_cases c25 : (a2.size : Int) < 8
       ·rw [if_pos c25] at H
        have c25b0 : decide ((a2.size : Int) < 8) = true := decide_eq_true c25
        have c25b1 : decide (a2.size < 8) = true := decide_eq_true (by omega)
        clear c25
        simp only [Option.some.injEq, Prod.mk.injEq] at H
        obtain ⟨rfl, rfl, rfl, rfl, rfl⟩ := H
        have hnb26 := NB830_829.out
        have hnc26 := NB829_830.out
        obtain ⟨Z27_0, Z27_1, Z27_2, Z27_3, Y27_0, Y27_1, Y27_2, Y27_3⟩ := bq4 BK830
        obtain ⟨Z28_0, Z28_1, Z28_2, Z28_3, Y28_0, Y28_1, Y28_2, Y28_3⟩ := bq4 BK829
        go_wp2
        refine bodyPost_ret (results_ct rfl _ _ gb829 50 #[.int .i64 a0, .int .i64 0, .float .f64 0, .string (⟨#[]⟩ : ByteArray)] (0, 0) _ rfl (by refine rp ?_; refine blk_put (cs := #[.int .i64 a0, .int .i64 0, .float .f64 0, .string (⟨#[]⟩ : ByteArray)]) ?_ 3 _ rfl; refine rp ?_; refine blk_put (cs := #[.int .i64 a0, .int .i64 0, .float .f64 0, .string (⟨#[]⟩ : ByteArray)]) ?_ 2 _ rfl; refine rp ?_; refine blk_put (cs := #[.int .i64 a0, .int .i64 0, .float .f64 0, .string (⟨#[]⟩ : ByteArray)]) ?_ 1 _ rfl; refine rp ?_; refine blk_put (cs := #[.int .i64 0, .int .i64 0, .float .f64 0, .string (⟨#[]⟩ : ByteArray)]) ?_ 0 _ rfl; exact bk BK829) Tryd.underlying50 rfl (by kernel_rfl)) rfl ?_
        exact ⟨er, bl HB⟩
       ·rw [if_neg c25] at H
        have c25b0 : decide ((a2.size : Int) < 8) = false := decide_eq_false c25
        have c25b1 : decide (a2.size < 8) = false := decide_eq_false (by omega)
        clear c25
        have H' := am H
        clear H
        go_wp2
        go_loopg [9, 10] kj9 (fun kq v9 v10 w' => ∃ (x9_2 : Int) (x10_2 : Int), v9 = .int .u64 x9_2 ∧ v10 = .int .i64 x10_2 ∧ Aside0 (vellumref04_value.l0 kq a2 x9_2 x10_2 a0 0 0 (⟨#[]⟩ : ByteArray) = some (r1, r2, r3, r4, r5)) ∧ Aside0 (kq ≤ kj9) ∧ Aside0 (w'.heap[gb829]? = some (.cells #[.int .i64 0, .int .i64 0, .float .f64 0, .string (⟨#[]⟩ : ByteArray)] 50 (0, 0))) ∧ Aside0 (w'.heap[gb830]? = some (.cells #[.int .i64 a0, .int .i64 0, .float .f64 0, .string (⟨#[]⟩ : ByteArray)] 50 (0, 0))) ∧ Aside0 (Below w.heap.size w w'))
        case atStart => exact ⟨(0), (0), eb, eb, H', ⟨Nat.le_refl _⟩, ⟨bk BK829⟩, ⟨bk BK830⟩, ⟨bl HB⟩⟩
        case round =>
         clear H'
         (try clear c1); (try clear c2); (try clear p2); (try clear c4); (try clear c4b0 c4b1); (try clear p6); (try clear c7); (try clear c13); (try clear c15); (try clear c15b0 c15b1); (try clear c16); (try clear c17); (try clear c20); (try clear c20b0); (try clear c21); (try clear c24); (try clear c24b0 c24b1); (try clear c25); (try clear c25b0 c25b1); (try clear c26); (try clear Z14_0 Z14_1 Z14_2 Z14_3); (try clear Z18_0 Z18_1 Z18_2 Z18_3); (try clear Z19_0 Z19_1 Z19_2 Z19_3); (try clear Z22_0 Z22_1 Z22_2 Z22_3); (try clear Z23_0 Z23_1 Z23_2 Z23_3); (try clear Z27_0 Z27_1 Z27_2 Z27_3); (try clear Z28_0 Z28_1 Z28_2 Z28_3); (try clear Z8_0 Z8_1 Z8_2 Z8_3); (try clear Z9_0 Z9_1 Z9_2 Z9_3); (try clear Y14_0 Y14_1 Y14_2 Y14_3); (try clear Y18_0 Y18_1 Y18_2 Y18_3); (try clear Y19_0 Y19_1 Y19_2 Y19_3); (try clear Y22_0 Y22_1 Y22_2 Y22_3); (try clear Y23_0 Y23_1 Y23_2 Y23_3); (try clear Y27_0 Y27_1 Y27_2 Y27_3); (try clear Y28_0 Y28_1 Y28_2 Y28_3); (try clear Y8_0 Y8_1 Y8_2 Y8_3); (try clear Y9_0 Y9_1 Y9_2 Y9_3); (try clear p2)
         obtain ⟨x9_2, x10_2, rfl, rfl, HA, HK2, BK829, BK830, HB⟩ := hrel
         cases gk with
         | zero => exact absurd HA.out (by simp [vellumref04_value.l0])
         | succ k2 =>
          have H := HA.out
          clear HA
          simp only [vellumref04_value.l0] at H
          by_cases c29 : x10_2 < 8
          ·rw [if_pos c29] at H
           have c29b0 : decide (x10_2 < 8) = true := decide_eq_true c29
           clear c29
           by_cases c30 : 0 ≤ x10_2
           ·rw [if_pos c30] at H
            have c30b0 : decide (0 ≤ x10_2) = true := decide_eq_true c30
            clear c30
            by_cases c31 : x10_2 < (a2.size : Int)
            ·rw [if_pos c31] at H
             have c31b0 : decide (x10_2 < (a2.size : Int)) = true := decide_eq_true c31
             clear c31
             obtain ⟨ji33, hji33⟩ : ∃ j_ : Int, (IntKind.u64.wrap (wrap64 (8 * x10_2))) = j_ := ⟨_, rfl⟩
             replace H : (if 0 ≤ (ji33) then (vellumref04_value.l0 k2 a2 (Go.bits .or .u64 x9_2 (shl .u64 (IntKind.u64.wrap (bt a2 x10_2)) (ji33))) (wrap64 (x10_2 + 1)) a0 0 0 (⟨#[]⟩ : ByteArray)) else (none)) = some (r1, r2, r3, r4, r5) := by first | (rw [hji33] at H; exact H) | (simp only [hji33] at H ⊢; exact H)
             by_cases c34 : 0 ≤ (ji33)
             ·rw [if_pos c34] at H
              have c34b0 := eq_true c34
              have c34b1 : decide (0 ≤ (ji33)) = true := decide_eq_true c34
              clear c34
              obtain ⟨ji35, hji35⟩ : ∃ j_ : Int, (shl .u64 (IntKind.u64.wrap (bt a2 x10_2)) (ji33)) = j_ := ⟨_, rfl⟩
              replace H : (vellumref04_value.l0 k2 a2 (Go.bits .or .u64 x9_2 (ji35)) (wrap64 (x10_2 + 1)) a0 0 0 (⟨#[]⟩ : ByteArray)) = some (r1, r2, r3, r4, r5) := by first | (rw [hji35] at H; exact H) | (simp only [hji35] at H ⊢; exact H)
              have hji35_ : (IntKind.u64.wrap ((IntKind.u64.wrap (bt a2 x10_2)) * 2 ^ min (ji33).toNat 64)) = ji35 := hji35
              have hji35z : (ji33) ≤ 64 → (IntKind.u64.wrap ((IntKind.u64.wrap (bt a2 x10_2)) * 2 ^ (ji33).toNat)) = ji35 := shl_small hji35
              have H' := am H
              clear H
              have p32 : 0 ≤ (x10_2 : Int) := oda
              have q32 : x10_2 < (a2.size : Int) := oda
              have hx32 := bt_at a2 x10_2
              replace p32 := eq_true p32
              replace q32 := eq_true q32
              go_wp2
              go_roundg k2
              case measure => have := HJ9.out; have := HK2.out; omega
              case rel => exact ⟨(Go.bits .or .u64 x9_2 (ji35)), (wrap64 (x10_2 + 1)), (by first | rfl | (simp; done) | (simp only [← hji35] <;> (first | rfl | simp)) | (simp [*]; done)), eb, H', ⟨by have := HJ9.out; have := HK2.out; omega⟩, ⟨bk BK829⟩, ⟨bk BK830⟩, ⟨bl HB⟩⟩
             ·rw [if_neg c34] at H
              exact absurd H (by simp)
            ·rw [if_neg c31] at H
             exact absurd H (by simp)
           ·rw [if_neg c30] at H
            exact absurd H (by simp)
          ·rw [if_neg c29] at H
           have c29b0 : decide (x10_2 < 8) = false := decide_eq_false c29
           clear c29
           simp only [Option.some.injEq, Prod.mk.injEq] at H
           obtain ⟨rfl, rfl, rfl, rfl, rfl⟩ := H
           have hnb36 := NB830_829.out
           have hnc36 := NB829_830.out
           obtain ⟨Z37_0, Z37_1, Z37_2, Z37_3, Y37_0, Y37_1, Y37_2, Y37_3⟩ := bq4 BK830
           obtain ⟨Z38_0, Z38_1, Z38_2, Z38_3, Y38_0, Y38_1, Y38_2, Y38_3⟩ := bq4 BK829
           go_wp2
           refine bodyPost_ret (results_ct rfl _ _ gb829 50 #[.int .i64 a0, .int .i64 0, .float .f64 x9_2.toNat, .string (⟨#[]⟩ : ByteArray)] (0, 0) _ rfl (by refine rp ?_; refine blk_put (cs := #[.int .i64 a0, .int .i64 0, .float .f64 x9_2.toNat, .string (⟨#[]⟩ : ByteArray)]) ?_ 3 _ rfl; refine rp ?_; refine blk_put (cs := #[.int .i64 a0, .int .i64 0, .float .f64 0, .string (⟨#[]⟩ : ByteArray)]) ?_ 2 _ rfl; refine rp ?_; refine blk_put (cs := #[.int .i64 a0, .int .i64 0, .float .f64 0, .string (⟨#[]⟩ : ByteArray)]) ?_ 1 _ rfl; refine rp ?_; refine blk_put (cs := #[.int .i64 0, .int .i64 0, .float .f64 0, .string (⟨#[]⟩ : ByteArray)]) ?_ 0 _ rfl; refine rp ?_; refine blk_far ?_ NB829_830.out _; exact bk BK829) Tryd.underlying50 rfl (by kernel_rfl)) rfl ?_
           exact ⟨er, bl HB⟩
      ·rw [if_neg c24] at H
       have c24b0 : (a0 == 3) = false := beq_eq_false_iff_ne.mpr c24
       have c24b1 : (a0 != 3) = true := bne_iff_ne.mpr c24
       replace H := Option.bind_eq_some_iff.mp H
       obtain ⟨⟨t831, t832⟩, A390, H⟩ := H
       replace H : (if t832 = 0 then (some (a0, 0, 0, (⟨#[]⟩ : ByteArray), (-1))) else (if a0 = 2 then (if (Int.tmod t831 2) = 1 then (some (a0, wrap64 ((wrap64 (-(wrap64 (t831 / 2)))) - 1), 0, (⟨#[]⟩ : ByteArray), t832)) else (some (a0, wrap64 (t831 / 2), 0, (⟨#[]⟩ : ByteArray), t832))) else (if t831 > (IntKind.u64.wrap (wrap64 ((a2.size : Int) - t832))) then (some (a0, 0, 0, (⟨#[]⟩ : ByteArray), (-1))) else (if 0 ≤ t832 then (if t832 ≤ (wrap64 (t832 + (wrap64 (t831)))) then (if (wrap64 (t832 + (wrap64 (t831)))) ≤ (a2.size : Int) then (some (a0, 0, 0, a2.extract (t832 : Int).toNat ((wrap64 (t832 + (wrap64 (t831)))) : Int).toNat, wrap64 (t832 + (wrap64 (t831))))) else (none)) else (none)) else (none))))) = some (r1, r2, r3, r4, r5) := H
       have A39 := am A390
       clear A390
       by_cases c40 : t832 = 0
       ·rw [if_pos c40] at H
        have c40b0 : (t832 == 0) = true := beq_iff_eq.mpr c40
        have c40b1 : (t832 != 0) = false := bne_eq_false_iff_eq.mpr c40
        clear c40
        simp only [Option.some.injEq, Prod.mk.injEq] at H
        obtain ⟨rfl, rfl, rfl, rfl, rfl⟩ := H
        go_wp2_with (first | ((with_reducible refine gate_callee (f := 96) rfl ?_); refine goesL_ (some 62) rfl rfl Tryd.func96 (by kernel_rfl) rfl #[.string a2] rfl ar ?_; (with_reducible refine (vellumref04_number.calls kj9 a2 t831 t832 _ A39.out).mono ?_); rintro e w' ⟨rfl, ⟨nd, rfl⟩⟩; refine ⟨_, rfl, ?_⟩; (try (rw [drewN_self wc]; generalize hq_ : World.drewN wc _ = wc; have n0_ : Aside0 (wc.heap[gb829]? = some (.cells #[.int .i64 0, .int .i64 0, .float .f64 0, .string (⟨#[]⟩ : ByteArray)] 50 (0, 0))) := ⟨by rw [← hq_]; exact (bk BK829)⟩; have n1_ : Aside0 (wc.heap[gb830]? = some (.cells #[.int .i64 a0, .int .i64 0, .float .f64 0, .string (⟨#[]⟩ : ByteArray)] 50 (0, 0))) := ⟨by rw [← hq_]; exact (bk BK830)⟩; have n2_ : Aside0 (Below w.heap.size w wc) := ⟨by rw [← hq_]; exact (bl HB)⟩; clear BK829 BK830 HB hq_; have BK829 := n0_; have BK830 := n1_; have HB := n2_; clear n0_ n1_ n2_)); (try have Zuz41 : wc.cell? ⟨gb829, 0, none⟩ = some (.int .i64 0) := (blk_cell BK829.out 0).trans rfl); (try have Yuz41 := blk_frozen BK829.out 0); (try have Zuz42 : wc.cell? ⟨gb829, 1, none⟩ = some (.int .i64 0) := (blk_cell BK829.out 1).trans rfl); (try have Yuz42 := blk_frozen BK829.out 1); (try have Zuz43 : wc.cell? ⟨gb829, 2, none⟩ = some (.float .f64 0) := (blk_cell BK829.out 2).trans rfl); (try have Yuz43 := blk_frozen BK829.out 2); (try have Zuz44 : wc.cell? ⟨gb829, 3, none⟩ = some (.string (⟨#[]⟩ : ByteArray)) := (blk_cell BK829.out 3).trans rfl); (try have Yuz44 := blk_frozen BK829.out 3); (try have Zuz45 : wc.cell? ⟨gb830, 0, none⟩ = some (.int .i64 a0) := (blk_cell BK830.out 0).trans rfl); (try have Yuz45 := blk_frozen BK830.out 0); (try have Zuz46 : wc.cell? ⟨gb830, 1, none⟩ = some (.int .i64 0) := (blk_cell BK830.out 1).trans rfl); (try have Yuz46 := blk_frozen BK830.out 1); (try have Zuz47 : wc.cell? ⟨gb830, 2, none⟩ = some (.float .f64 0) := (blk_cell BK830.out 2).trans rfl); (try have Yuz47 := blk_frozen BK830.out 2); (try have Zuz48 : wc.cell? ⟨gb830, 3, none⟩ = some (.string (⟨#[]⟩ : ByteArray)) := (blk_cell BK830.out 3).trans rfl); (try have Yuz48 := blk_frozen BK830.out 3); have hnb49 := NB830_829.out; have hnc49 := NB829_830.out; obtain ⟨Z50_0, Z50_1, Z50_2, Z50_3, Y50_0, Y50_1, Y50_2, Y50_3⟩ := bq4 BK830; obtain ⟨Z51_0, Z51_1, Z51_2, Z51_3, Y51_0, Y51_1, Y51_2, Y51_3⟩ := bq4 BK829))
        refine bodyPost_ret (results_ct rfl _ _ gb829 50 #[.int .i64 a0, .int .i64 0, .float .f64 0, .string (⟨#[]⟩ : ByteArray)] (0, 0) _ rfl (by refine rp ?_; refine blk_put (cs := #[.int .i64 a0, .int .i64 0, .float .f64 0, .string (⟨#[]⟩ : ByteArray)]) ?_ 3 _ rfl; refine rp ?_; refine blk_put (cs := #[.int .i64 a0, .int .i64 0, .float .f64 0, .string (⟨#[]⟩ : ByteArray)]) ?_ 2 _ rfl; refine rp ?_; refine blk_put (cs := #[.int .i64 a0, .int .i64 0, .float .f64 0, .string (⟨#[]⟩ : ByteArray)]) ?_ 1 _ rfl; refine rp ?_; refine blk_put (cs := #[.int .i64 0, .int .i64 0, .float .f64 0, .string (⟨#[]⟩ : ByteArray)]) ?_ 0 _ rfl; exact bk BK829) Tryd.underlying50 rfl (by kernel_rfl)) rfl ?_
        exact ⟨er, bl HB⟩
       ·rw [if_neg c40] at H
        have c40b0 : (t832 == 0) = false := beq_eq_false_iff_ne.mpr c40
        have c40b1 : (t832 != 0) = true := bne_iff_ne.mpr c40
        by_cases c52 : a0 = 2
        ·rw [if_pos c52] at H
         have c52b0 : (a0 == 2) = true := beq_iff_eq.mpr c52
         have c52b1 : (a0 != 2) = false := bne_eq_false_iff_eq.mpr c52
         clear c52
         by_cases c53 : (Int.tmod t831 2) = 1
         ·rw [if_pos c53] at H
          have c53b0 : ((Int.tmod t831 2) == 1) = true := beq_iff_eq.mpr c53
          have c53b1 : ((Int.tmod t831 2) != 1) = false := bne_eq_false_iff_eq.mpr c53
          clear c53
          simp only [Option.some.injEq, Prod.mk.injEq] at H
          obtain ⟨rfl, rfl, rfl, rfl, rfl⟩ := H
          go_wp2_with (first | ((with_reducible refine gate_callee (f := 96) rfl ?_); refine goesL_ (some 62) rfl rfl Tryd.func96 (by kernel_rfl) rfl #[.string a2] rfl ar ?_; (with_reducible refine (vellumref04_number.calls kj9 a2 t831 t832 _ A39.out).mono ?_); rintro e w' ⟨rfl, ⟨nd, rfl⟩⟩; refine ⟨_, rfl, ?_⟩; (try (rw [drewN_self wc]; generalize hq_ : World.drewN wc _ = wc; have n0_ : Aside0 (wc.heap[gb829]? = some (.cells #[.int .i64 0, .int .i64 0, .float .f64 0, .string (⟨#[]⟩ : ByteArray)] 50 (0, 0))) := ⟨by rw [← hq_]; exact (bk BK829)⟩; have n1_ : Aside0 (wc.heap[gb830]? = some (.cells #[.int .i64 a0, .int .i64 0, .float .f64 0, .string (⟨#[]⟩ : ByteArray)] 50 (0, 0))) := ⟨by rw [← hq_]; exact (bk BK830)⟩; have n2_ : Aside0 (Below w.heap.size w wc) := ⟨by rw [← hq_]; exact (bl HB)⟩; clear BK829 BK830 HB hq_; have BK829 := n0_; have BK830 := n1_; have HB := n2_; clear n0_ n1_ n2_)); (try have Zuz54 : wc.cell? ⟨gb829, 0, none⟩ = some (.int .i64 0) := (blk_cell BK829.out 0).trans rfl); (try have Yuz54 := blk_frozen BK829.out 0); (try have Zuz55 : wc.cell? ⟨gb829, 1, none⟩ = some (.int .i64 0) := (blk_cell BK829.out 1).trans rfl); (try have Yuz55 := blk_frozen BK829.out 1); (try have Zuz56 : wc.cell? ⟨gb829, 2, none⟩ = some (.float .f64 0) := (blk_cell BK829.out 2).trans rfl); (try have Yuz56 := blk_frozen BK829.out 2); (try have Zuz57 : wc.cell? ⟨gb829, 3, none⟩ = some (.string (⟨#[]⟩ : ByteArray)) := (blk_cell BK829.out 3).trans rfl); (try have Yuz57 := blk_frozen BK829.out 3); (try have Zuz58 : wc.cell? ⟨gb830, 0, none⟩ = some (.int .i64 a0) := (blk_cell BK830.out 0).trans rfl); (try have Yuz58 := blk_frozen BK830.out 0); (try have Zuz59 : wc.cell? ⟨gb830, 1, none⟩ = some (.int .i64 0) := (blk_cell BK830.out 1).trans rfl); (try have Yuz59 := blk_frozen BK830.out 1); (try have Zuz60 : wc.cell? ⟨gb830, 2, none⟩ = some (.float .f64 0) := (blk_cell BK830.out 2).trans rfl); (try have Yuz60 := blk_frozen BK830.out 2); (try have Zuz61 : wc.cell? ⟨gb830, 3, none⟩ = some (.string (⟨#[]⟩ : ByteArray)) := (blk_cell BK830.out 3).trans rfl); (try have Yuz61 := blk_frozen BK830.out 3); have hnb62 := NB830_829.out; have hnc62 := NB829_830.out; obtain ⟨Z63_0, Z63_1, Z63_2, Z63_3, Y63_0, Y63_1, Y63_2, Y63_3⟩ := bq4 BK830; obtain ⟨Z64_0, Z64_1, Z64_2, Z64_3, Y64_0, Y64_1, Y64_2, Y64_3⟩ := bq4 BK829))
          refine bodyPost_ret (results_ct rfl _ _ gb829 50 #[.int .i64 a0, .int .i64 (wrap64 ((wrap64 (-(wrap64 (t831 / 2)))) - 1)), .float .f64 0, .string (⟨#[]⟩ : ByteArray)] (0, 0) _ rfl (by refine rp ?_; refine blk_put (cs := #[.int .i64 a0, .int .i64 (wrap64 ((wrap64 (-(wrap64 (t831 / 2)))) - 1)), .float .f64 0, .string (⟨#[]⟩ : ByteArray)]) ?_ 3 _ rfl; refine rp ?_; refine blk_put (cs := #[.int .i64 a0, .int .i64 (wrap64 ((wrap64 (-(wrap64 (t831 / 2)))) - 1)), .float .f64 0, .string (⟨#[]⟩ : ByteArray)]) ?_ 2 _ rfl; refine rp ?_; refine blk_put (cs := #[.int .i64 a0, .int .i64 0, .float .f64 0, .string (⟨#[]⟩ : ByteArray)]) ?_ 1 _ rfl; refine rp ?_; refine blk_put (cs := #[.int .i64 0, .int .i64 0, .float .f64 0, .string (⟨#[]⟩ : ByteArray)]) ?_ 0 _ rfl; refine rp ?_; refine blk_far ?_ NB829_830.out _; refine rp ?_; refine blk_far ?_ NB829_830.out _; exact bk BK829) Tryd.underlying50 rfl (by kernel_rfl)) rfl ?_
          exact ⟨er, bl HB⟩
         ·rw [if_neg c53] at H
          have c53b0 : ((Int.tmod t831 2) == 1) = false := beq_eq_false_iff_ne.mpr c53
          have c53b1 : ((Int.tmod t831 2) != 1) = true := bne_iff_ne.mpr c53
          simp only [Option.some.injEq, Prod.mk.injEq] at H
          obtain ⟨rfl, rfl, rfl, rfl, rfl⟩ := H
          go_wp2_with (first | ((with_reducible refine gate_callee (f := 96) rfl ?_); refine goesL_ (some 62) rfl rfl Tryd.func96 (by kernel_rfl) rfl #[.string a2] rfl ar ?_; (with_reducible refine (vellumref04_number.calls kj9 a2 t831 t832 _ A39.out).mono ?_); rintro e w' ⟨rfl, ⟨nd, rfl⟩⟩; refine ⟨_, rfl, ?_⟩; (try (rw [drewN_self wc]; generalize hq_ : World.drewN wc _ = wc; have n0_ : Aside0 (wc.heap[gb829]? = some (.cells #[.int .i64 0, .int .i64 0, .float .f64 0, .string (⟨#[]⟩ : ByteArray)] 50 (0, 0))) := ⟨by rw [← hq_]; exact (bk BK829)⟩; have n1_ : Aside0 (wc.heap[gb830]? = some (.cells #[.int .i64 a0, .int .i64 0, .float .f64 0, .string (⟨#[]⟩ : ByteArray)] 50 (0, 0))) := ⟨by rw [← hq_]; exact (bk BK830)⟩; have n2_ : Aside0 (Below w.heap.size w wc) := ⟨by rw [← hq_]; exact (bl HB)⟩; clear BK829 BK830 HB hq_; have BK829 := n0_; have BK830 := n1_; have HB := n2_; clear n0_ n1_ n2_)); (try have Zuz65 : wc.cell? ⟨gb829, 0, none⟩ = some (.int .i64 0) := (blk_cell BK829.out 0).trans rfl); (try have Yuz65 := blk_frozen BK829.out 0); (try have Zuz66 : wc.cell? ⟨gb829, 1, none⟩ = some (.int .i64 0) := (blk_cell BK829.out 1).trans rfl); (try have Yuz66 := blk_frozen BK829.out 1); (try have Zuz67 : wc.cell? ⟨gb829, 2, none⟩ = some (.float .f64 0) := (blk_cell BK829.out 2).trans rfl); (try have Yuz67 := blk_frozen BK829.out 2); (try have Zuz68 : wc.cell? ⟨gb829, 3, none⟩ = some (.string (⟨#[]⟩ : ByteArray)) := (blk_cell BK829.out 3).trans rfl); (try have Yuz68 := blk_frozen BK829.out 3); (try have Zuz69 : wc.cell? ⟨gb830, 0, none⟩ = some (.int .i64 a0) := (blk_cell BK830.out 0).trans rfl); (try have Yuz69 := blk_frozen BK830.out 0); (try have Zuz70 : wc.cell? ⟨gb830, 1, none⟩ = some (.int .i64 0) := (blk_cell BK830.out 1).trans rfl); (try have Yuz70 := blk_frozen BK830.out 1); (try have Zuz71 : wc.cell? ⟨gb830, 2, none⟩ = some (.float .f64 0) := (blk_cell BK830.out 2).trans rfl); (try have Yuz71 := blk_frozen BK830.out 2); (try have Zuz72 : wc.cell? ⟨gb830, 3, none⟩ = some (.string (⟨#[]⟩ : ByteArray)) := (blk_cell BK830.out 3).trans rfl); (try have Yuz72 := blk_frozen BK830.out 3); have hnb73 := NB830_829.out; have hnc73 := NB829_830.out; obtain ⟨Z74_0, Z74_1, Z74_2, Z74_3, Y74_0, Y74_1, Y74_2, Y74_3⟩ := bq4 BK830; obtain ⟨Z75_0, Z75_1, Z75_2, Z75_3, Y75_0, Y75_1, Y75_2, Y75_3⟩ := bq4 BK829))
          refine bodyPost_ret (results_ct rfl _ _ gb829 50 #[.int .i64 a0, .int .i64 (wrap64 (t831 / 2)), .float .f64 0, .string (⟨#[]⟩ : ByteArray)] (0, 0) _ rfl (by refine rp ?_; refine blk_put (cs := #[.int .i64 a0, .int .i64 (wrap64 (t831 / 2)), .float .f64 0, .string (⟨#[]⟩ : ByteArray)]) ?_ 3 _ rfl; refine rp ?_; refine blk_put (cs := #[.int .i64 a0, .int .i64 (wrap64 (t831 / 2)), .float .f64 0, .string (⟨#[]⟩ : ByteArray)]) ?_ 2 _ rfl; refine rp ?_; refine blk_put (cs := #[.int .i64 a0, .int .i64 0, .float .f64 0, .string (⟨#[]⟩ : ByteArray)]) ?_ 1 _ rfl; refine rp ?_; refine blk_put (cs := #[.int .i64 0, .int .i64 0, .float .f64 0, .string (⟨#[]⟩ : ByteArray)]) ?_ 0 _ rfl; refine rp ?_; refine blk_far ?_ NB829_830.out _; exact bk BK829) Tryd.underlying50 rfl (by kernel_rfl)) rfl ?_
          exact ⟨er, bl HB⟩
        ·rw [if_neg c52] at H
         have c52b0 : (a0 == 2) = false := beq_eq_false_iff_ne.mpr c52
         have c52b1 : (a0 != 2) = true := bne_iff_ne.mpr c52
         by_cases c76 : t831 > (IntKind.u64.wrap (wrap64 ((a2.size : Int) - t832)))
         ·rw [if_pos c76] at H
          have c76b0 : decide ((IntKind.u64.wrap (wrap64 ((a2.size : Int) - t832))) < t831) = true := decide_eq_true c76
          clear c76
          simp only [Option.some.injEq, Prod.mk.injEq] at H
          obtain ⟨rfl, rfl, rfl, rfl, rfl⟩ := H
          go_wp2_with (first | ((with_reducible refine gate_callee (f := 96) rfl ?_); refine goesL_ (some 62) rfl rfl Tryd.func96 (by kernel_rfl) rfl #[.string a2] rfl ar ?_; (with_reducible refine (vellumref04_number.calls kj9 a2 t831 t832 _ A39.out).mono ?_); rintro e w' ⟨rfl, ⟨nd, rfl⟩⟩; refine ⟨_, rfl, ?_⟩; (try (rw [drewN_self wc]; generalize hq_ : World.drewN wc _ = wc; have n0_ : Aside0 (wc.heap[gb829]? = some (.cells #[.int .i64 0, .int .i64 0, .float .f64 0, .string (⟨#[]⟩ : ByteArray)] 50 (0, 0))) := ⟨by rw [← hq_]; exact (bk BK829)⟩; have n1_ : Aside0 (wc.heap[gb830]? = some (.cells #[.int .i64 a0, .int .i64 0, .float .f64 0, .string (⟨#[]⟩ : ByteArray)] 50 (0, 0))) := ⟨by rw [← hq_]; exact (bk BK830)⟩; have n2_ : Aside0 (Below w.heap.size w wc) := ⟨by rw [← hq_]; exact (bl HB)⟩; clear BK829 BK830 HB hq_; have BK829 := n0_; have BK830 := n1_; have HB := n2_; clear n0_ n1_ n2_)); (try have Zuz77 : wc.cell? ⟨gb829, 0, none⟩ = some (.int .i64 0) := (blk_cell BK829.out 0).trans rfl); (try have Yuz77 := blk_frozen BK829.out 0); (try have Zuz78 : wc.cell? ⟨gb829, 1, none⟩ = some (.int .i64 0) := (blk_cell BK829.out 1).trans rfl); (try have Yuz78 := blk_frozen BK829.out 1); (try have Zuz79 : wc.cell? ⟨gb829, 2, none⟩ = some (.float .f64 0) := (blk_cell BK829.out 2).trans rfl); (try have Yuz79 := blk_frozen BK829.out 2); (try have Zuz80 : wc.cell? ⟨gb829, 3, none⟩ = some (.string (⟨#[]⟩ : ByteArray)) := (blk_cell BK829.out 3).trans rfl); (try have Yuz80 := blk_frozen BK829.out 3); (try have Zuz81 : wc.cell? ⟨gb830, 0, none⟩ = some (.int .i64 a0) := (blk_cell BK830.out 0).trans rfl); (try have Yuz81 := blk_frozen BK830.out 0); (try have Zuz82 : wc.cell? ⟨gb830, 1, none⟩ = some (.int .i64 0) := (blk_cell BK830.out 1).trans rfl); (try have Yuz82 := blk_frozen BK830.out 1); (try have Zuz83 : wc.cell? ⟨gb830, 2, none⟩ = some (.float .f64 0) := (blk_cell BK830.out 2).trans rfl); (try have Yuz83 := blk_frozen BK830.out 2); (try have Zuz84 : wc.cell? ⟨gb830, 3, none⟩ = some (.string (⟨#[]⟩ : ByteArray)) := (blk_cell BK830.out 3).trans rfl); (try have Yuz84 := blk_frozen BK830.out 3); have hnb85 := NB830_829.out; have hnc85 := NB829_830.out; obtain ⟨Z86_0, Z86_1, Z86_2, Z86_3, Y86_0, Y86_1, Y86_2, Y86_3⟩ := bq4 BK830; obtain ⟨Z87_0, Z87_1, Z87_2, Z87_3, Y87_0, Y87_1, Y87_2, Y87_3⟩ := bq4 BK829))
          refine bodyPost_ret (results_ct rfl _ _ gb829 50 #[.int .i64 a0, .int .i64 0, .float .f64 0, .string (⟨#[]⟩ : ByteArray)] (0, 0) _ rfl (by refine rp ?_; refine blk_put (cs := #[.int .i64 a0, .int .i64 0, .float .f64 0, .string (⟨#[]⟩ : ByteArray)]) ?_ 3 _ rfl; refine rp ?_; refine blk_put (cs := #[.int .i64 a0, .int .i64 0, .float .f64 0, .string (⟨#[]⟩ : ByteArray)]) ?_ 2 _ rfl; refine rp ?_; refine blk_put (cs := #[.int .i64 a0, .int .i64 0, .float .f64 0, .string (⟨#[]⟩ : ByteArray)]) ?_ 1 _ rfl; refine rp ?_; refine blk_put (cs := #[.int .i64 0, .int .i64 0, .float .f64 0, .string (⟨#[]⟩ : ByteArray)]) ?_ 0 _ rfl; exact bk BK829) Tryd.underlying50 rfl (by kernel_rfl)) rfl ?_
          exact ⟨er, bl HB⟩
         ·rw [if_neg c76] at H
          have c76b0 : decide ((IntKind.u64.wrap (wrap64 ((a2.size : Int) - t832))) < t831) = false := decide_eq_false c76
          clear c76
          by_cases c88 : 0 ≤ t832
          ·rw [if_pos c88] at H
           have c88b0 := eq_true c88
           have c88b1 : decide (0 ≤ t832) = true := decide_eq_true c88
           clear c88
           by_cases c89 : t832 ≤ (wrap64 (t832 + (wrap64 (t831))))
           ·rw [if_pos c89] at H
            have c89b0 := eq_true c89
            have c89b1 : decide (t832 ≤ (wrap64 (t832 + (wrap64 (t831))))) = true := decide_eq_true c89
            by_cases c90 : (wrap64 (t832 + (wrap64 (t831)))) ≤ (a2.size : Int)
            ·rw [if_pos c90] at H
             have c90b0 := eq_true c90
             have c90b1 : decide ((wrap64 (t832 + (wrap64 (t831)))) ≤ (a2.size : Int)) = true := decide_eq_true c90
             simp only [Option.some.injEq, Prod.mk.injEq] at H
             obtain ⟨rfl, rfl, rfl, rfl, rfl⟩ := H
             go_wp2_with (first | ((with_reducible refine gate_callee (f := 96) rfl ?_); refine goesL_ (some 62) rfl rfl Tryd.func96 (by kernel_rfl) rfl #[.string a2] rfl ar ?_; (with_reducible refine (vellumref04_number.calls kj9 a2 t831 t832 _ A39.out).mono ?_); rintro e w' ⟨rfl, ⟨nd, rfl⟩⟩; refine ⟨_, rfl, ?_⟩; (try (rw [drewN_self wc]; generalize hq_ : World.drewN wc _ = wc; have n0_ : Aside0 (wc.heap[gb829]? = some (.cells #[.int .i64 0, .int .i64 0, .float .f64 0, .string (⟨#[]⟩ : ByteArray)] 50 (0, 0))) := ⟨by rw [← hq_]; exact (bk BK829)⟩; have n1_ : Aside0 (wc.heap[gb830]? = some (.cells #[.int .i64 a0, .int .i64 0, .float .f64 0, .string (⟨#[]⟩ : ByteArray)] 50 (0, 0))) := ⟨by rw [← hq_]; exact (bk BK830)⟩; have n2_ : Aside0 (Below w.heap.size w wc) := ⟨by rw [← hq_]; exact (bl HB)⟩; clear BK829 BK830 HB hq_; have BK829 := n0_; have BK830 := n1_; have HB := n2_; clear n0_ n1_ n2_)); (try have Zuz91 : wc.cell? ⟨gb829, 0, none⟩ = some (.int .i64 0) := (blk_cell BK829.out 0).trans rfl); (try have Yuz91 := blk_frozen BK829.out 0); (try have Zuz92 : wc.cell? ⟨gb829, 1, none⟩ = some (.int .i64 0) := (blk_cell BK829.out 1).trans rfl); (try have Yuz92 := blk_frozen BK829.out 1); (try have Zuz93 : wc.cell? ⟨gb829, 2, none⟩ = some (.float .f64 0) := (blk_cell BK829.out 2).trans rfl); (try have Yuz93 := blk_frozen BK829.out 2); (try have Zuz94 : wc.cell? ⟨gb829, 3, none⟩ = some (.string (⟨#[]⟩ : ByteArray)) := (blk_cell BK829.out 3).trans rfl); (try have Yuz94 := blk_frozen BK829.out 3); (try have Zuz95 : wc.cell? ⟨gb830, 0, none⟩ = some (.int .i64 a0) := (blk_cell BK830.out 0).trans rfl); (try have Yuz95 := blk_frozen BK830.out 0); (try have Zuz96 : wc.cell? ⟨gb830, 1, none⟩ = some (.int .i64 0) := (blk_cell BK830.out 1).trans rfl); (try have Yuz96 := blk_frozen BK830.out 1); (try have Zuz97 : wc.cell? ⟨gb830, 2, none⟩ = some (.float .f64 0) := (blk_cell BK830.out 2).trans rfl); (try have Yuz97 := blk_frozen BK830.out 2); (try have Zuz98 : wc.cell? ⟨gb830, 3, none⟩ = some (.string (⟨#[]⟩ : ByteArray)) := (blk_cell BK830.out 3).trans rfl); (try have Yuz98 := blk_frozen BK830.out 3); have hnb99 := NB830_829.out; have hnc99 := NB829_830.out; obtain ⟨Z100_0, Z100_1, Z100_2, Z100_3, Y100_0, Y100_1, Y100_2, Y100_3⟩ := bq4 BK830; obtain ⟨Z101_0, Z101_1, Z101_2, Z101_3, Y101_0, Y101_1, Y101_2, Y101_3⟩ := bq4 BK829))
             refine bodyPost_ret (results_ct rfl _ _ gb829 50 #[.int .i64 a0, .int .i64 0, .float .f64 0, .string (a2.extract (t832 : Int).toNat ((wrap64 (t832 + (wrap64 (t831)))) : Int).toNat)] (0, 0) _ rfl (by refine rp ?_; refine blk_put (cs := #[.int .i64 a0, .int .i64 0, .float .f64 0, .string (⟨#[]⟩ : ByteArray)]) ?_ 3 _ rfl; refine rp ?_; refine blk_put (cs := #[.int .i64 a0, .int .i64 0, .float .f64 0, .string (⟨#[]⟩ : ByteArray)]) ?_ 2 _ rfl; refine rp ?_; refine blk_put (cs := #[.int .i64 a0, .int .i64 0, .float .f64 0, .string (⟨#[]⟩ : ByteArray)]) ?_ 1 _ rfl; refine rp ?_; refine blk_put (cs := #[.int .i64 0, .int .i64 0, .float .f64 0, .string (⟨#[]⟩ : ByteArray)]) ?_ 0 _ rfl; refine rp ?_; refine blk_far ?_ NB829_830.out _; exact bk BK829) Tryd.underlying50 rfl (by kernel_rfl)) rfl ?_
             exact ⟨er, bl HB⟩
            ·rw [if_neg c90] at H
             exact absurd H (by simp)
           ·rw [if_neg c89] at H
            exact absurd H (by simp)
          ·rw [if_neg c88] at H
           exact absurd H (by simp)
mutual
def vellumref04_values.l0 : Nat → List Int → ByteArray → Int → Int → Option ((List (S50)) × Int)
 | 0, _, _, _, _ => none
 | k + 1, x0, x1, x6, x7 => if x7 < (wrap64 (4 * x6)) then (if 0 ≤ (wrap64 (Int.tdiv x7 4)) then (if (wrap64 (Int.tdiv x7 4)) < (x1.size : Int) then (if 0 ≤ (IntKind.u64.wrap (wrap64 ((Int.tmod x7 4) * 2))) then (if (Go.bits .and .u8 (shr .u8 (bt x1 (wrap64 (Int.tdiv x7 4))) (IntKind.u64.wrap (wrap64 ((Int.tmod x7 4) * 2)))) 3) = 0 then (vellumref04_values.l0 k x0 x1 x6 (wrap64 (x7 + 1))) else (some (([] : List (S50)), (-1)))) else (none)) else (none)) else (none)) else (vellumref04_values.l1 k x0 x1 x6 ([] : List (S50)) 0)
def vellumref04_values.l1 : Nat → List Int → ByteArray → Int → List (S50) → Int → Option ((List (S50)) × Int)
 | 0, _, _, _, _, _ => none
 | k + 1, x0, x1, x6, x8, x9 => if x9 < (x0.length : Int) then (if 0 ≤ x9 then (if 0 ≤ (wrap64 (Int.tdiv x9 4)) then (if (wrap64 (Int.tdiv x9 4)) < (x1.size : Int) then (if 0 ≤ (IntKind.u64.wrap (wrap64 ((Int.tmod x9 4) * 2))) then (if 0 ≤ x6 then (if x6 ≤ (x1.size : Int) then ((vellumref04_value.f k (rd x0 x9) (Go.bits .and .u8 (shr .u8 (bt x1 (wrap64 (Int.tdiv x9 4))) (IntKind.u64.wrap (wrap64 ((Int.tmod x9 4) * 2)))) 3) (x1.extract (x6 : Int).toNat x1.size)).bind fun bt834 => (if bt834.2.2.2.2 < 0 then (some (([] : List (S50)), (-1))) else (if x8.length < 3518437208883 then (vellumref04_values.l1 k x0 x1 (wrap64 (x6 + bt834.2.2.2.2)) (x8 ++ [(⟨bt834.1, bt834.2.1, bt834.2.2.1, bt834.2.2.2.1⟩ : S50)]) (wrap64 (x9 + 1))) else (none)))) else (none)) else (none)) else (none)) else (none)) else (none)) else (none)) else (some (x8, x6))
end
def vellumref04_values.f (k : Nat) (l0 : List Int) (a1 : ByteArray) : Option ((List (S50)) × Int) := if (a1.size : Int) < (wrap64 (Int.tdiv (wrap64 ((l0.length : Int) + 3)) 4)) then (some (([] : List (S50)), (-1))) else (vellumref04_values.l0 k l0 a1 (wrap64 (Int.tdiv (wrap64 ((l0.length : Int) + 3)) 4)) (l0.length : Int))
def vellumref04_values.T13 : Bool × List (List Nat × List Nat) := (true, [([], []), ([], []), ([0, 1], [0, 1]), ([2], [2]), ([], []), ([], []), ([5], [5]), ([4, 6], [4, 6]), ([], []), ([8], [8]), ([9], [9]), ([10], [10]), ([7, 11], [7, 11]), ([12], [12]), ([], []), ([], []), ([14, 15], [14, 15]), ([3, 13, 16], [3, 13, 16]), ([17], [17]), ([18], [18]), ([18], [18]), ([], []), ([21, 19, 17, 0, 1, 2, 3, 4, 5, 6, 7, 8, 9, 10, 11, 12, 13, 14, 15, 16, 17, 18, 19, 21], [19, 21]), ([20, 22, 0, 1, 2, 3, 4, 5, 6, 7, 8, 9, 10, 11, 12, 13, 14, 15, 16, 17, 18, 19, 20, 21, 22], [20])])
def vellumref04_values.B13 : List Nat := [0, 0, 3, 7, 0, 0, 32, 112, 0, 256, 768, 1792, 4080, 8176, 0, 0, 49152, 131071, 262143, 524287, 524287, 0, 3145727, 8388607]
theorem vellumref04_values.tab13 : rtab .any (opsOf Tryd.f94 13) = vellumref04_values.T13 := by kernel_rfl
theorem vellumref04_values.bits13 : waitsOk vellumref04_values.T13.2 vellumref04_values.B13 = true := by kernel_rfl
set_option maxHeartbeats 8000000 in
set_option maxRecDepth 100000 in
theorem vellumref04_values.calls (k : Nat) (A0 : Option Addr) (c0 : Nat) (l0 : List Int) (a1 : ByteArray) (r1 : List (S50)) (r2 : Int) (w : World) (hr0 : Kd.C (Kd.int .i64) w A0 l0.length l0) (hc0 : l0.length ≤ c0) (h : vellumref04_values.f k l0 a1 = some (r1, r2)) :
  Calls Tryd.prog 94 #[.slice A0 l0.length c0, .string a1] w fun e w' => ∃ v0_ : Value, e = .returned (.tuple #[v0_, .int .i64 r2]) ∧ Kd.R k50 50 w' w.heap.size (fun _ => True) v0_ r1 ∧ Below w.heap.size w w' := by
 have hu50 := Tryd.underlying50
 have HR0 := am hr0
 have HC0 := am hc0
 clear hr0 hc0
 have HB := am (Below.refl w.heap.size w)
 have H : (if (a1.size : Int) < (wrap64 (Int.tdiv (wrap64 ((l0.length : Int) + 3)) 4)) then (some (([] : List (S50)), (-1))) else (vellumref04_values.l0 k l0 a1 (wrap64 (Int.tdiv (wrap64 ((l0.length : Int) + 3)) 4)) (l0.length : Int))) = some (r1, r2) := h
 clear h
 by_cases c3 : (a1.size : Int) < (wrap64 (Int.tdiv (wrap64 ((l0.length : Int) + 3)) 4))
 ·rw [if_pos c3] at H
  have c3b0 : decide ((a1.size : Int) < (wrap64 (Int.tdiv (wrap64 ((l0.length : Int) + 3)) 4))) = true := decide_eq_true c3
  clear c3
  simp only [Option.some.injEq, Prod.mk.injEq] at H
  obtain ⟨rfl, rfl⟩ := H
  go_enter Tryd.func94, Tryd.ntmps94
  go_wp2
  go_ret2
  exact ⟨_, er, by first | exact Kd.R_nil _ _ _ _ _ | exact Kd.N_nil _ _ _ _ _ | exact Kd.V_nil _ _ _ _ _ | exact Kd.Q_nil _ _ _ _ _ | exact Kd.S_nil _ _ _ _ _, bl HB⟩
 ·rw [if_neg c3] at H
  have c3b0 : decide ((a1.size : Int) < (wrap64 (Int.tdiv (wrap64 ((l0.length : Int) + 3)) 4))) = false := decide_eq_false c3
  clear c3
  have H' := am H
  clear H
  go_enter Tryd.func94, Tryd.ntmps94
  go_wp2
  go_loopg [7] k (fun kq v7 w' => ∃ (x7_1 : Int), v7 = .int .i64 x7_1 ∧ Aside0 (vellumref04_values.l0 kq l0 a1 (wrap64 (Int.tdiv (wrap64 ((l0.length : Int) + 3)) 4)) x7_1 = some (r1, r2)) ∧ Aside0 (kq ≤ k) ∧ Aside0 (Below w.heap.size w w'))
  case atStart => exact ⟨((l0.length : Int)), eb, H', ⟨Nat.le_refl _⟩, ⟨bl HB⟩⟩
  case round =>
   clear H'
   (try clear p2); (try clear c3); (try clear c3b0)
   obtain ⟨x7_1, rfl, HA, HK1, HB⟩ := hrel
   cases gk with
   | zero => exact absurd HA.out (by simp [vellumref04_values.l0])
   | succ k1 =>
    have H := HA.out
    clear HA
    simp only [vellumref04_values.l0] at H
    by_cases c4 : x7_1 < (wrap64 (4 * (wrap64 (Int.tdiv (wrap64 ((l0.length : Int) + 3)) 4))))
    ·rw [if_pos c4] at H
     have c4b0 : decide (x7_1 < (wrap64 (4 * (wrap64 (Int.tdiv (wrap64 ((l0.length : Int) + 3)) 4))))) = true := decide_eq_true c4
     clear c4
     obtain ⟨ji5, hji5⟩ : ∃ j_ : Int, (wrap64 (Int.tdiv x7_1 4)) = j_ := ⟨_, rfl⟩
     replace H : (if 0 ≤ (ji5) then (if (ji5) < (a1.size : Int) then (if 0 ≤ (IntKind.u64.wrap (wrap64 ((Int.tmod x7_1 4) * 2))) then (if (Go.bits .and .u8 (shr .u8 (bt a1 (ji5)) (IntKind.u64.wrap (wrap64 ((Int.tmod x7_1 4) * 2)))) 3) = 0 then (vellumref04_values.l0 k1 l0 a1 (wrap64 (Int.tdiv (wrap64 ((l0.length : Int) + 3)) 4)) (wrap64 (x7_1 + 1))) else (some (([] : List (S50)), (-1)))) else (none)) else (none)) else (none)) = some (r1, r2) := by first | (rw [hji5] at H; exact H) | (simp only [hji5] at H ⊢; exact H)
     have hji5w : (IntKind.i64.wrap (Int.tdiv x7_1 4)) = ji5 := (i64_w _).trans hji5
     by_cases c6 : 0 ≤ (ji5)
     ·rw [if_pos c6] at H
      have c6b0 : decide (0 ≤ (ji5)) = true := decide_eq_true c6
      clear c6
      by_cases c7 : (ji5) < (a1.size : Int)
      ·rw [if_pos c7] at H
       have c7b0 : decide ((ji5) < (a1.size : Int)) = true := decide_eq_true c7
       clear c7
       obtain ⟨ji9, hji9⟩ : ∃ j_ : Int, (IntKind.u64.wrap (wrap64 ((Int.tmod x7_1 4) * 2))) = j_ := ⟨_, rfl⟩
       replace H : (if 0 ≤ (ji9) then (if (Go.bits .and .u8 (shr .u8 (bt a1 (ji5)) (ji9)) 3) = 0 then (vellumref04_values.l0 k1 l0 a1 (wrap64 (Int.tdiv (wrap64 ((l0.length : Int) + 3)) 4)) (wrap64 (x7_1 + 1))) else (some (([] : List (S50)), (-1)))) else (none)) = some (r1, r2) := by first | (rw [hji9] at H; exact H) | (simp only [hji9] at H ⊢; exact H)
       by_cases c10 : 0 ≤ (ji9)
       ·rw [if_pos c10] at H
        have c10b0 := eq_true c10
        have c10b1 : decide (0 ≤ (ji9)) = true := decide_eq_true c10
        clear c10
        obtain ⟨ji11, hji11⟩ : ∃ j_ : Int, (shr .u8 (bt a1 (ji5)) (ji9)) = j_ := ⟨_, rfl⟩
        replace H : (if (Go.bits .and .u8 (ji11) 3) = 0 then (vellumref04_values.l0 k1 l0 a1 (wrap64 (Int.tdiv (wrap64 ((l0.length : Int) + 3)) 4)) (wrap64 (x7_1 + 1))) else (some (([] : List (S50)), (-1)))) = some (r1, r2) := by first | (rw [hji11] at H; exact H) | (simp only [hji11] at H ⊢; exact H)
        have hji11_ : ((bt a1 (ji5)) / 2 ^ min (ji9).toNat 8) = ji11 := hji11
        have hji11z : (ji9) ≤ 8 → ((bt a1 (ji5)) / 2 ^ (ji9).toNat) = ji11 := shr_small hji11
        by_cases c12 : (Go.bits .and .u8 (ji11) 3) = 0
        ·rw [if_pos c12] at H
         have c12b0 : ((Go.bits .and .u8 (ji11) 3) == 0) = true := beq_iff_eq.mpr c12
         have c12b1 : ((Go.bits .and .u8 (ji11) 3) != 0) = false := bne_eq_false_iff_eq.mpr c12
         clear c12
         have H' := am H
         clear H
         have p8 : 0 ≤ ((ji5) : Int) := oda
         have q8 : (ji5) < (a1.size : Int) := oda
         have hx8 := bt_at a1 (ji5)
         replace p8 := eq_true p8
         replace q8 := eq_true q8
         go_wp2
         go_roundg k1
         case measure => have := HK1.out; omega
         case rel => exact ⟨(wrap64 (x7_1 + 1)), eb, H', ⟨by have := HK1.out; omega⟩, ⟨bl HB⟩⟩
        ·rw [if_neg c12] at H
         have c12b0 : ((Go.bits .and .u8 (ji11) 3) == 0) = false := beq_eq_false_iff_ne.mpr c12
         have c12b1 : ((Go.bits .and .u8 (ji11) 3) != 0) = true := bne_iff_ne.mpr c12
         simp only [Option.some.injEq, Prod.mk.injEq] at H
         obtain ⟨rfl, rfl⟩ := H
         have p8 : 0 ≤ ((ji5) : Int) := oda
         have q8 : (ji5) < (a1.size : Int) := oda
         have hx8 := bt_at a1 (ji5)
         replace p8 := eq_true p8
         replace q8 := eq_true q8
         go_wp2
         go_ret2
         exact ⟨_, by first | rfl | (simp [errW_none, errW_some] <;> rfl) | (simp only [← hji5, ← hji9, ← hji11]; first | rfl | (simp [errW_none, errW_some] <;> rfl)) | (simp [*, errW_none, errW_some] <;> rfl), by first | exact Kd.R_nil _ _ _ _ _ | exact Kd.N_nil _ _ _ _ _ | exact Kd.V_nil _ _ _ _ _ | exact Kd.Q_nil _ _ _ _ _ | exact Kd.S_nil _ _ _ _ _, bl HB⟩
       ·rw [if_neg c10] at H
        exact absurd H (by simp)
      ·rw [if_neg c7] at H
       exact absurd H (by simp)
     ·rw [if_neg c6] at H
      exact absurd H (by simp)
    ·rw [if_neg c4] at H
     have c4b0 : decide (x7_1 < (wrap64 (4 * (wrap64 (Int.tdiv (wrap64 ((l0.length : Int) + 3)) 4))))) = false := decide_eq_false c4
     clear c4
     have H' := am H
     clear H
     go_wp2
     go_loopg [6, 8, 9] k1 (fun kq v6 v8 v9 w' => ∃ (x6_2 : Int) (x8_2 : List (S50)) (x9_2 : Int), v6 = .int .i64 x6_2 ∧ v9 = .int .i64 x9_2 ∧ Aside0 (vellumref04_values.l1 kq l0 a1 x6_2 x8_2 x9_2 = some (r1, r2)) ∧ Aside0 (kq ≤ k1) ∧ Aside0 (Kd.R k50 50 w' w.heap.size (fun _ => True) v8 x8_2) ∧ Aside0 (Below w.heap.size w w'))
     case atStart => exact ⟨((wrap64 (Int.tdiv (wrap64 ((l0.length : Int) + 3)) 4))), (([] : List (S50))), (0), eb, eb, H', ⟨Nat.le_refl _⟩, ⟨by first | exact Kd.R_nil _ _ _ _ _ | exact Kd.N_nil _ _ _ _ _ | exact Kd.V_nil _ _ _ _ _ | exact Kd.Q_nil _ _ _ _ _ | exact Kd.S_nil _ _ _ _ _⟩, ⟨bl HB⟩⟩
     case round =>
      clear H'
      (try clear c1); (try clear p2); (try clear c3); (try clear c3b0); (try clear c4); (try clear c4b0); (try clear c6); (try clear c6b0); (try clear p6); (try clear c7); (try clear c7b0); (try clear p8); (try clear q8); (try clear hx8); (try clear c9); (try clear c10); (try clear c10b0 c10b1); (try clear c12); (try clear c12b0 c12b1); (try clear p2); (try clear p8); (try clear q8)
      obtain ⟨x6_2, x8_2, x9_2, rfl, rfl, HA, HK2, HO_8, HB⟩ := hrel
      cases gk with
      | zero => exact absurd HA.out (by simp [vellumref04_values.l1])
      | succ k2 =>
       have H := HA.out
       clear HA
       simp only [vellumref04_values.l1] at H
       by_cases c13 : x9_2 < (l0.length : Int)
       ·rw [if_pos c13] at H
        have c13b0 : decide (x9_2 < (l0.length : Int)) = true := decide_eq_true c13
        clear c13
        by_cases c14 : 0 ≤ x9_2
        ·rw [if_pos c14] at H
         have c14b0 : decide (0 ≤ x9_2) = true := decide_eq_true c14
         clear c14
         obtain ⟨ji15, hji15⟩ : ∃ j_ : Int, (wrap64 (Int.tdiv x9_2 4)) = j_ := ⟨_, rfl⟩
         replace H : (if 0 ≤ (ji15) then (if (ji15) < (a1.size : Int) then (if 0 ≤ (IntKind.u64.wrap (wrap64 ((Int.tmod x9_2 4) * 2))) then (if 0 ≤ x6_2 then (if x6_2 ≤ (a1.size : Int) then ((vellumref04_value.f k2 (rd l0 x9_2) (Go.bits .and .u8 (shr .u8 (bt a1 (ji15)) (IntKind.u64.wrap (wrap64 ((Int.tmod x9_2 4) * 2)))) 3) (a1.extract (x6_2 : Int).toNat a1.size)).bind fun bt834 => (if bt834.2.2.2.2 < 0 then (some (([] : List (S50)), (-1))) else (if x8_2.length < 3518437208883 then (vellumref04_values.l1 k2 l0 a1 (wrap64 (x6_2 + bt834.2.2.2.2)) (x8_2 ++ [(⟨bt834.1, bt834.2.1, bt834.2.2.1, bt834.2.2.2.1⟩ : S50)]) (wrap64 (x9_2 + 1))) else (none)))) else (none)) else (none)) else (none)) else (none)) else (none)) = some (r1, r2) := by first | (rw [hji15] at H; exact H) | (simp only [hji15] at H ⊢; exact H)
         have hji15w : (IntKind.i64.wrap (Int.tdiv x9_2 4)) = ji15 := (i64_w _).trans hji15
         by_cases c16 : 0 ≤ (ji15)
         ·rw [if_pos c16] at H
          have c16b0 : decide (0 ≤ (ji15)) = true := decide_eq_true c16
          clear c16
          by_cases c17 : (ji15) < (a1.size : Int)
          ·rw [if_pos c17] at H
           have c17b0 : decide ((ji15) < (a1.size : Int)) = true := decide_eq_true c17
           clear c17
           obtain ⟨ji19, hji19⟩ : ∃ j_ : Int, (IntKind.u64.wrap (wrap64 ((Int.tmod x9_2 4) * 2))) = j_ := ⟨_, rfl⟩
           replace H : (if 0 ≤ (ji19) then (if 0 ≤ x6_2 then (if x6_2 ≤ (a1.size : Int) then ((vellumref04_value.f k2 (rd l0 x9_2) (Go.bits .and .u8 (shr .u8 (bt a1 (ji15)) (ji19)) 3) (a1.extract (x6_2 : Int).toNat a1.size)).bind fun bt834 => (if bt834.2.2.2.2 < 0 then (some (([] : List (S50)), (-1))) else (if x8_2.length < 3518437208883 then (vellumref04_values.l1 k2 l0 a1 (wrap64 (x6_2 + bt834.2.2.2.2)) (x8_2 ++ [(⟨bt834.1, bt834.2.1, bt834.2.2.1, bt834.2.2.2.1⟩ : S50)]) (wrap64 (x9_2 + 1))) else (none)))) else (none)) else (none)) else (none)) = some (r1, r2) := by first | (rw [hji19] at H; exact H) | (simp only [hji19] at H ⊢; exact H)
           by_cases c20 : 0 ≤ (ji19)
           ·rw [if_pos c20] at H
            have c20b0 := eq_true c20
            have c20b1 : decide (0 ≤ (ji19)) = true := decide_eq_true c20
            clear c20
            obtain ⟨ji21, hji21⟩ : ∃ j_ : Int, (shr .u8 (bt a1 (ji15)) (ji19)) = j_ := ⟨_, rfl⟩
            replace H : (if 0 ≤ x6_2 then (if x6_2 ≤ (a1.size : Int) then ((vellumref04_value.f k2 (rd l0 x9_2) (Go.bits .and .u8 (ji21) 3) (a1.extract (x6_2 : Int).toNat a1.size)).bind fun bt834 => (if bt834.2.2.2.2 < 0 then (some (([] : List (S50)), (-1))) else (if x8_2.length < 3518437208883 then (vellumref04_values.l1 k2 l0 a1 (wrap64 (x6_2 + bt834.2.2.2.2)) (x8_2 ++ [(⟨bt834.1, bt834.2.1, bt834.2.2.1, bt834.2.2.2.1⟩ : S50)]) (wrap64 (x9_2 + 1))) else (none)))) else (none)) else (none)) = some (r1, r2) := by first | (rw [hji21] at H; exact H) | (simp only [hji21] at H ⊢; exact H)
            have hji21_ : ((bt a1 (ji15)) / 2 ^ min (ji19).toNat 8) = ji21 := hji21
            have hji21z : (ji19) ≤ 8 → ((bt a1 (ji15)) / 2 ^ (ji19).toNat) = ji21 := shr_small hji21
            by_cases c22 : 0 ≤ x6_2
            ·rw [if_pos c22] at H
             have c22b0 := eq_true c22
             have c22b1 : decide (0 ≤ x6_2) = true := decide_eq_true c22
             clear c22
             by_cases c23 : x6_2 ≤ (a1.size : Int)
             ·rw [if_pos c23] at H
              have c23b0 := eq_true c23
              have c23b1 : decide (x6_2 ≤ (a1.size : Int)) = true := decide_eq_true c23
              clear c23
              replace H := Option.bind_eq_some_iff.mp H
              obtain ⟨⟨t834, t835, t836, t837, t838⟩, A240, H⟩ := H
              replace H : (if t838 < 0 then (some (([] : List (S50)), (-1))) else (if x8_2.length < 3518437208883 then (vellumref04_values.l1 k2 l0 a1 (wrap64 (x6_2 + t838)) (x8_2 ++ [(⟨t834, t835, t836, t837⟩ : S50)]) (wrap64 (x9_2 + 1))) else (none))) = some (r1, r2) := H
              have A24 := am A240
              clear A240
              by_cases c25 : t838 < 0
              ·rw [if_pos c25] at H
               have c25b0 : decide (t838 < 0) = true := decide_eq_true c25
               clear c25
               simp only [Option.some.injEq, Prod.mk.injEq] at H
               obtain ⟨rfl, rfl⟩ := H
               try go_wp2
               have n0_ := am (Kd.R_drew HO_8.out)
               have n1_ := am (below_drew1 HB.out)
               clear HO_8
               clear HB
               have HO_8 := n0_
               have HB := n1_
               clear n0_ n1_
               have p833 : 0 ≤ (x9_2 : Int) := oda
               have q833 : x9_2 < (l0.length : Int) := oda
               obtain ⟨ad833, e833, hx833_0⟩ := Kd.at_int HR0.out x9_2 p833 q833
               have hw833_0 := hx833_0
               cases e833
               replace hx833_0 := hc HB hx833_0
               replace p833 := eq_true p833
               replace q833 := eq_true q833
               have p18 : 0 ≤ ((ji15) : Int) := oda
               have q18 : (ji15) < (a1.size : Int) := oda
               have hx18 := bt_at a1 (ji15)
               replace p18 := eq_true p18
               replace q18 := eq_true q18
               refine start_ (n := 24) (S := fun w' => w'.cell? (ad833.add (x9_2).toNat) = some (.int .i64 (rd l0 x9_2))) (ds := []) (bb 0 24) (by kernel_rfl) rfl rfl ((hc HB hw833_0)) (fun hHeld => ?_); refine with_tabW vellumref04_values.tab13 vellumref04_values.bits13 (fun HT_ HW_ => ?_)
               generalize wr.drew = w26 at HO_8 HB hx833_0 hHeld ⊢
               refine pu HT_ 0 (some 46) (bb 1 24) ?_
               refine pu HT_ 1 (some 47) (bb 2 24) ?_
               refine pu HT_ 2 (some 48) (bb 3 24) ?_
               refine pu HT_ 4 (some 50) (bs 24 23) ?_
               refine pu HT_ 5 (some 51) (bs 24 55) ?_
               refine pu HT_ 6 (some 52) (bs 24 119) ?_
               refine pu HT_ 8 (some 54) (bs 24 375) ?_
               refine pu HT_ 9 (some 55) (bs 24 887) ?_
               refine pu HT_ 10 (some 56) (bs 24 1911) ?_
               refine pu HT_ 11 (some 57) (bs 24 3959) ?_
               refine pu HT_ 14 (some 60) (bs 24 20343) ?_
               refine pu HT_ 15 (some 61) (bs 24 53111) ?_
               refine pu HT_ 16 (some 62) (bs 24 118647) ?_
               refine tk HT_ HW_ hHeld 3 (some 49) (bs 24 118655) ?_
               refine tk HT_ HW_ hHeld 7 (some 53) (bs 24 118783) ?_
               refine pu HT_ 12 (some 58) (bs 24 122879) ?_
               refine pu HT_ 13 (some 59) (bb 17 24) ?_
               refine join_ (σ := Nat) 2 (bb 22 24) (fun s_ => [(63, .tuple #[.agg #[.int .i64 t834, .int .i64 t835, .float .f64 t836, .string t837], .int .i64 t838]), (10, .pointer (some ⟨s_, 0, none⟩)), (45, .tuple #[.agg #[.int .i64 t834, .int .i64 t835, .float .f64 t836, .string t837], .int .i64 t838]), (64, .agg #[.int .i64 t834, .int .i64 t835, .float .f64 t836, .string t837]), (65, .int .i64 t838)]) (fun s_ w' => (w'.cell? (ad833.add (x9_2).toNat) = some (.int .i64 (rd l0 x9_2))) ∧ (Kd.R k50 50 w' w.heap.size (fun k_ => k_ ≠ s_) u8 x8_2) ∧ (w'.heap[s_]? = some (.cells #[.int .i64 0, .int .i64 0, .float .f64 0, .string (⟨#[]⟩ : ByteArray)] 50 (0, 0))) ∧ (w.heap.size ≤ s_) ∧ (w.heap.size ≤ s_) ∧ (Below w.heap.size w w')) ?_ ?_
               rotate_left
               ·intro hCont
                refine two_ (i := 17) (j := 21) (Ni := some 63) (Nj := some 10) (bb 18 24) (bs 24 2228223) rfl rfl rfl rfl (two_of HT_.out (by kernel_rfl)) (by decide) (by decide) (fun K hK => ?_) (fun K hK => ?_)
                ·skip
                 refine goes_ Tryd.func136 (by kernel_rfl) rfl #[.int .i64 (rd l0 x9_2), .int .u8 (Go.bits .and .u8 (ji21) 3), .string (a1.extract (x6_2 : Int).toNat a1.size)] (by rfl) rfl rfl (by (try simp only [List.map_toArray, List.map_cons, List.map_nil]); first | done | (simp only [hji21]; rfl) | rfl | (simp only [List.length_drop, List.length_take]; rfl)) ?_
                 with_reducible refine (vellumref04_value.calls k2 (rd l0 x9_2) (Go.bits .and .u8 (ji21) 3) (a1.extract (x6_2 : Int).toNat a1.size) t834 t835 t836 t837 t838 _ A24.out).mono ?_
                 rintro e w27 ⟨rfl, hb⟩
                 refine ⟨_, rfl, ?_⟩
                 have n0_ := am (Kd.R_below (Kd.rr HO_8.out) hb)
                 have n1_ := sb HB hb
                 clear HO_8
                 clear HB
                 have HO_8 := n0_
                 have HB := n1_
                 clear n0_ n1_
                 (try clear hb)
                 (try clear hb2)
                 (try clear hk)
                 (try clear hi)
                 refine hK.out _ _ ((hc HB hw833_0)) (fun hHeld => ?_)
                 clear hK K
                 refine norm_ (a' := ?_) ?_ ?_
                 rotate_left
                 ·show Act.put _ (some 63) _ = _
                  simp only [Act.put, List.setIfInBounds_toArray, List.set_cons_zero, List.set_cons_succ, i64_w, i32_w]
                  rfl
                 refine pu HT_ 18 (some 45) (bb 19 24) ?_
                 refine pu HT_ 19 (some 64) (bb 20 24) ?_
                 refine pu HT_ 20 (some 65) (bb 21 24) ?_
                 refine one_ (i := 21) (N := some 10) (bb 22 24) rfl rfl (one_of HT_.out (by kernel_rfl)) (by decide) (fun K hK => ?_)
                 refine box_step ?hg (N := 10) ?hd (cs := #[.int .i64 0, .int .i64 0, .float .f64 0, .string (⟨#[]⟩ : ByteArray)]) (t := 50) ?hr ?_; (case hd => rfl); (case hg => rfl); (case hr => first | (go_simp; done) | (go_simp; rfl))
                 intro gb839 hg w28 hbox hb
                 have n0_ := am (Kd.R_below (Kd.R_elderB (Kd.rr HO_8.out) gb839 (Nat.le_of_eq hg.symm)) hb)
                 have n1_ := sb HB hb
                 have n2_ := am (hbox)
                 have n3_ := gw hg HB
                 have n4_ := gw hg HB
                 clear HO_8
                 clear HB
                 have HO_8 := n0_
                 have HB := n1_
                 have BK839 := n2_
                 have GW839 := n3_
                 have GE839 := n4_
                 clear n0_ n1_ n2_ n3_ n4_
                 clear hb hbox hg
                 refine hK.out _ _ ((hc HB hw833_0)) (fun hHeld => ?_)
                 clear hK K
                 refine norm_ (a' := ?_) ?_ ?_
                 rotate_left
                 ·show Act.put _ (some 10) _ = _
                  simp only [Act.put, List.setIfInBounds_toArray, List.set_cons_zero, List.set_cons_succ, i64_w, i32_w]
                  rfl
                 exact norm_ (np) (hCont (gb839) _ ⟨hHeld, (by (with_reducible repeat (first | apply Kd.R_alloc | apply Kd.R_drewN | apply Kd.R_drew)); exact Kd.R_mono HO_8.out (fun _ hk => hk.2)), (bk BK839), GW839.out, GE839.out, (bl HB)⟩)
                ·skip
                 refine box_step ?hg (N := 10) ?hd (cs := #[.int .i64 0, .int .i64 0, .float .f64 0, .string (⟨#[]⟩ : ByteArray)]) (t := 50) ?hr ?_; (case hd => rfl); (case hg => rfl); (case hr => first | (go_simp; done) | (go_simp; rfl))
                 intro gb839 hg w27 hbox hb
                 have n0_ := am (Kd.R_below (Kd.R_elderB (Kd.rr HO_8.out) gb839 (Nat.le_of_eq hg.symm)) hb)
                 have n1_ := sb HB hb
                 have n2_ := am (hbox)
                 have n3_ := gw hg HB
                 have n4_ := gw hg HB
                 clear HO_8
                 clear HB
                 have HO_8 := n0_
                 have HB := n1_
                 have BK839 := n2_
                 have GW839 := n3_
                 have GE839 := n4_
                 clear n0_ n1_ n2_ n3_ n4_
                 clear hb hbox hg
                 refine hK.out _ _ ((hc HB hw833_0)) (fun hHeld => ?_)
                 clear hK K
                 refine norm_ (a' := ?_) ?_ ?_
                 rotate_left
                 ·show Act.put _ (some 10) _ = _
                  simp only [Act.put, List.setIfInBounds_toArray, List.set_cons_zero, List.set_cons_succ, i64_w, i32_w]
                  rfl
                 refine one_ (i := 17) (N := some 63) (bs 24 2359295) rfl rfl (one_of HT_.out (by kernel_rfl)) (by decide) (fun K hK => ?_)
                 refine goes_ Tryd.func136 (by kernel_rfl) rfl #[.int .i64 (rd l0 x9_2), .int .u8 (Go.bits .and .u8 (ji21) 3), .string (a1.extract (x6_2 : Int).toNat a1.size)] (by rfl) rfl rfl (by (try simp only [List.map_toArray, List.map_cons, List.map_nil]); first | done | (simp only [hji21]; rfl) | rfl | (simp only [List.length_drop, List.length_take]; rfl)) ?_
                 with_reducible refine (vellumref04_value.calls k2 (rd l0 x9_2) (Go.bits .and .u8 (ji21) 3) (a1.extract (x6_2 : Int).toNat a1.size) t834 t835 t836 t837 t838 _ A24.out).mono ?_
                 rintro e w28 ⟨rfl, hb⟩
                 refine ⟨_, rfl, ?_⟩
                 have n0_ := am (Kd.R_below (Kd.rr HO_8.out) hb)
                 have n1_ := kb BK839 hb
                 have n2_ := sb HB hb
                 clear HO_8
                 clear BK839
                 clear HB
                 have HO_8 := n0_
                 have BK839 := n1_
                 have HB := n2_
                 clear n0_ n1_ n2_
                 (try clear hb)
                 (try clear hb2)
                 (try clear hk)
                 (try clear hi)
                 refine hK.out _ _ ((hc HB hw833_0)) (fun hHeld => ?_)
                 clear hK K
                 refine norm_ (a' := ?_) ?_ ?_
                 rotate_left
                 ·show Act.put _ (some 63) _ = _
                  simp only [Act.put, List.setIfInBounds_toArray, List.set_cons_zero, List.set_cons_succ, i64_w, i32_w]
                  rfl
                 refine pu HT_ 18 (some 45) (bs 24 2621439) ?_
                 refine pu HT_ 19 (some 64) (bs 24 3145727) ?_
                 refine pu HT_ 20 (some 65) (bb 22 24) ?_
                 exact norm_ (np) (hCont (gb839) _ ⟨hHeld, (by (with_reducible repeat (first | apply Kd.R_alloc | apply Kd.R_drewN | apply Kd.R_drew)); exact Kd.R_mono HO_8.out (fun _ hk => hk.2)), (bk BK839), GW839.out, GE839.out, (bl HB)⟩)
               rintro gb839 w29 ⟨hS_, h0_, h1_, h2_, h3_, h4_⟩
               have n0_ : Aside0 (Kd.R k50 50 w29 w.heap.size (fun k_ => k_ ≠ gb839) u8 x8_2) := ⟨h0_⟩
               have n1_ : Aside0 (w29.heap[gb839]? = some (.cells #[.int .i64 0, .int .i64 0, .float .f64 0, .string (⟨#[]⟩ : ByteArray)] 50 (0, 0))) := ⟨h1_⟩
               have n2_ : Aside0 (w.heap.size ≤ gb839) := ⟨h2_⟩
               have n3_ : Aside0 (w.heap.size ≤ gb839) := ⟨h3_⟩
               have n4_ : Aside0 (Below w.heap.size w w29) := ⟨h4_⟩
               clear HO_8
               clear HB
               clear h0_ h1_ h2_ h3_ h4_
               have HO_8 := n0_
               have BK839 := n1_
               have GW839 := n2_
               have GE839 := n3_
               have HB := n4_
               clear n0_ n1_ n2_ n3_ n4_
               have hHeld : w29.cell? (ad833.add (x9_2).toNat) = some (.int .i64 (rd l0 x9_2)) := hS_
               refine norm_ (a' := ?_) ?_ ?_
               rotate_left
               ·simp only [putAll, Act.put, List.setIfInBounds_toArray, List.set_cons_zero, List.set_cons_succ]
                rfl
               refine one_ (i := 22) (N := none) (bb 23 24) rfl rfl (one_of HT_.out (by kernel_rfl)) (by decide) (fun K hK => ?_)
               have hs30 : w29.cell? ⟨gb839, 0, none⟩ = some (.int .i64 0) := (blk_cell BK839.out 0).trans rfl
               have hfs30 := blk_frozen BK839.out 0
               have hs31 : w29.cell? ⟨gb839, 1, none⟩ = some (.int .i64 0) := (blk_cell BK839.out 1).trans rfl
               have hfs31 := blk_frozen BK839.out 1
               have hs32 : w29.cell? ⟨gb839, 2, none⟩ = some (.float .f64 0) := (blk_cell BK839.out 2).trans rfl
               have hfs32 := blk_frozen BK839.out 2
               have hs33 : w29.cell? ⟨gb839, 3, none⟩ = some (.string (⟨#[]⟩ : ByteArray)) := (blk_cell BK839.out 3).trans rfl
               have hfs33 := blk_frozen BK839.out 3
               refine skip_ (w1 := ?_) (by rfl) rfl ?_ ?_
               rotate_left
               ·go_simp
                rfl
               refine hK.out _ _ (((cell_far (p := ⟨gb839, _, none⟩) (by first | exact Nat.ne_of_lt (Nat.lt_of_lt_of_le (by have := World.block_lt_of_cell? _ _ hw833_0; first | rwa [add_block] at this | exact this) GW839.out) | (rw [add_block]; exact Nat.ne_of_lt (Nat.lt_of_lt_of_le (by have := World.block_lt_of_cell? _ _ hw833_0; first | rwa [add_block] at this | exact this) GW839.out)) | (show (Addr.add _ _).block ≠ _; rw [add_block]; exact Nat.ne_of_lt (Nat.lt_of_lt_of_le (by have := World.block_lt_of_cell? _ _ hw833_0; first | rwa [add_block] at this | exact this) GW839.out)) | (dsimp only; exact Nat.ne_of_lt (Nat.lt_of_lt_of_le (by have := World.block_lt_of_cell? _ _ hw833_0; first | rwa [add_block] at this | exact this) GW839.out))) _).trans (((cell_far (p := ⟨gb839, _, none⟩) (by first | exact Nat.ne_of_lt (Nat.lt_of_lt_of_le (by have := World.block_lt_of_cell? _ _ hw833_0; first | rwa [add_block] at this | exact this) GW839.out) | (rw [add_block]; exact Nat.ne_of_lt (Nat.lt_of_lt_of_le (by have := World.block_lt_of_cell? _ _ hw833_0; first | rwa [add_block] at this | exact this) GW839.out)) | (show (Addr.add _ _).block ≠ _; rw [add_block]; exact Nat.ne_of_lt (Nat.lt_of_lt_of_le (by have := World.block_lt_of_cell? _ _ hw833_0; first | rwa [add_block] at this | exact this) GW839.out)) | (dsimp only; exact Nat.ne_of_lt (Nat.lt_of_lt_of_le (by have := World.block_lt_of_cell? _ _ hw833_0; first | rwa [add_block] at this | exact this) GW839.out))) _).trans (((cell_far (p := ⟨gb839, _, none⟩) (by first | exact Nat.ne_of_lt (Nat.lt_of_lt_of_le (by have := World.block_lt_of_cell? _ _ hw833_0; first | rwa [add_block] at this | exact this) GW839.out) | (rw [add_block]; exact Nat.ne_of_lt (Nat.lt_of_lt_of_le (by have := World.block_lt_of_cell? _ _ hw833_0; first | rwa [add_block] at this | exact this) GW839.out)) | (show (Addr.add _ _).block ≠ _; rw [add_block]; exact Nat.ne_of_lt (Nat.lt_of_lt_of_le (by have := World.block_lt_of_cell? _ _ hw833_0; first | rwa [add_block] at this | exact this) GW839.out)) | (dsimp only; exact Nat.ne_of_lt (Nat.lt_of_lt_of_le (by have := World.block_lt_of_cell? _ _ hw833_0; first | rwa [add_block] at this | exact this) GW839.out))) _).trans (((cell_far (p := ⟨gb839, _, none⟩) (by first | exact Nat.ne_of_lt (Nat.lt_of_lt_of_le (by have := World.block_lt_of_cell? _ _ hw833_0; first | rwa [add_block] at this | exact this) GW839.out) | (rw [add_block]; exact Nat.ne_of_lt (Nat.lt_of_lt_of_le (by have := World.block_lt_of_cell? _ _ hw833_0; first | rwa [add_block] at this | exact this) GW839.out)) | (show (Addr.add _ _).block ≠ _; rw [add_block]; exact Nat.ne_of_lt (Nat.lt_of_lt_of_le (by have := World.block_lt_of_cell? _ _ hw833_0; first | rwa [add_block] at this | exact this) GW839.out)) | (dsimp only; exact Nat.ne_of_lt (Nat.lt_of_lt_of_le (by have := World.block_lt_of_cell? _ _ hw833_0; first | rwa [add_block] at this | exact this) GW839.out))) _).trans (hHeld))))))))) (fun hHeld => ?_)
               clear hK K
               refine pu HT_ 23 (some 11) (bb 24 24) ?_
               refine done_ (done_of HT_.out (by kernel_rfl)) ?_
               try go_wp2
               go_ret2
               exact ⟨_, by first | rfl | (simp [errW_none, errW_some] <;> rfl) | (simp only [← hji15, ← hji19, ← hji21]; first | rfl | (simp [errW_none, errW_some] <;> rfl)) | (simp [*, errW_none, errW_some] <;> rfl), by first | exact Kd.R_nil _ _ _ _ _ | exact Kd.N_nil _ _ _ _ _ | exact Kd.V_nil _ _ _ _ _ | exact Kd.Q_nil _ _ _ _ _ | exact Kd.S_nil _ _ _ _ _, bl HB⟩
              ·rw [if_neg c25] at H
               have c25b0 : decide (t838 < 0) = false := decide_eq_false c25
               clear c25
               by_cases c34 : x8_2.length < 3518437208883
               ·rw [if_pos c34] at H
                have LMc34 := am c34
                clear c34
                obtain ⟨y840, hy840⟩ : ∃ y_ : List (S50), y_ = (x8_2 ++ [(⟨t834, t835, t836, t837⟩ : S50)]) := ⟨_, rfl⟩
                replace H : (vellumref04_values.l1 k2 l0 a1 (wrap64 (x6_2 + t838)) y840 (wrap64 (x9_2 + 1))) = some (r1, r2) := by first | (rw [hy840]; with_reducible exact H) | (have H2_ := (Option.bind_some _ _).symm.trans H; rw [hy840]; with_reducible exact H2_) | (have H2_ := (Option.bind_some _ _).symm.trans H; with_reducible exact H2_) | with_reducible exact H | (rw [hy840]; exact H) | exact H
                have Ny840 := am hy840
                clear hy840
                have H' := am H
                clear H
                try go_wp2
                have n0_ := am (Kd.R_drew HO_8.out)
                have n1_ := am (below_drew1 HB.out)
                clear HO_8
                clear HB
                have HO_8 := n0_
                have HB := n1_
                clear n0_ n1_
                have p833 : 0 ≤ (x9_2 : Int) := oda
                have q833 : x9_2 < (l0.length : Int) := oda
                obtain ⟨ad833, e833, hx833_0⟩ := Kd.at_int HR0.out x9_2 p833 q833
                have hw833_0 := hx833_0
                cases e833
                replace hx833_0 := hc HB hx833_0
                replace p833 := eq_true p833
                replace q833 := eq_true q833
                have p18 : 0 ≤ ((ji15) : Int) := oda
                have q18 : (ji15) < (a1.size : Int) := oda
                have hx18 := bt_at a1 (ji15)
                replace p18 := eq_true p18
                replace q18 := eq_true q18
                refine start_ (n := 24) (S := fun w' => w'.cell? (ad833.add (x9_2).toNat) = some (.int .i64 (rd l0 x9_2))) (ds := []) (bb 0 24) (by kernel_rfl) rfl rfl ((hc HB hw833_0)) (fun hHeld => ?_); refine with_tabW vellumref04_values.tab13 vellumref04_values.bits13 (fun HT_ HW_ => ?_)
                generalize wr.drew = w35 at HO_8 HB hx833_0 hHeld ⊢
                refine pu HT_ 0 (some 46) (bb 1 24) ?_
                refine pu HT_ 1 (some 47) (bb 2 24) ?_
                refine pu HT_ 2 (some 48) (bb 3 24) ?_
                refine pu HT_ 4 (some 50) (bs 24 23) ?_
                refine pu HT_ 5 (some 51) (bs 24 55) ?_
                refine pu HT_ 6 (some 52) (bs 24 119) ?_
                refine pu HT_ 8 (some 54) (bs 24 375) ?_
                refine pu HT_ 9 (some 55) (bs 24 887) ?_
                refine pu HT_ 10 (some 56) (bs 24 1911) ?_
                refine pu HT_ 11 (some 57) (bs 24 3959) ?_
                refine pu HT_ 14 (some 60) (bs 24 20343) ?_
                refine pu HT_ 15 (some 61) (bs 24 53111) ?_
                refine pu HT_ 16 (some 62) (bs 24 118647) ?_
                refine tk HT_ HW_ hHeld 3 (some 49) (bs 24 118655) ?_
                refine tk HT_ HW_ hHeld 7 (some 53) (bs 24 118783) ?_
                refine pu HT_ 12 (some 58) (bs 24 122879) ?_
                refine pu HT_ 13 (some 59) (bb 17 24) ?_
                refine join_ (σ := Nat) 2 (bb 22 24) (fun s_ => [(63, .tuple #[.agg #[.int .i64 t834, .int .i64 t835, .float .f64 t836, .string t837], .int .i64 t838]), (10, .pointer (some ⟨s_, 0, none⟩)), (45, .tuple #[.agg #[.int .i64 t834, .int .i64 t835, .float .f64 t836, .string t837], .int .i64 t838]), (64, .agg #[.int .i64 t834, .int .i64 t835, .float .f64 t836, .string t837]), (65, .int .i64 t838)]) (fun s_ w' => (w'.cell? (ad833.add (x9_2).toNat) = some (.int .i64 (rd l0 x9_2))) ∧ (Kd.R k50 50 w' w.heap.size (fun k_ => k_ ≠ s_) u8 x8_2) ∧ (w'.heap[s_]? = some (.cells #[.int .i64 0, .int .i64 0, .float .f64 0, .string (⟨#[]⟩ : ByteArray)] 50 (0, 0))) ∧ (w.heap.size ≤ s_) ∧ (w.heap.size ≤ s_) ∧ (Below w.heap.size w w')) ?_ ?_
                rotate_left
                ·intro hCont
                 refine two_ (i := 17) (j := 21) (Ni := some 63) (Nj := some 10) (bb 18 24) (bs 24 2228223) rfl rfl rfl rfl (two_of HT_.out (by kernel_rfl)) (by decide) (by decide) (fun K hK => ?_) (fun K hK => ?_)
                 ·skip
                  refine goes_ Tryd.func136 (by kernel_rfl) rfl #[.int .i64 (rd l0 x9_2), .int .u8 (Go.bits .and .u8 (ji21) 3), .string (a1.extract (x6_2 : Int).toNat a1.size)] (by rfl) rfl rfl (by (try simp only [List.map_toArray, List.map_cons, List.map_nil]); first | done | (simp only [hji21]; rfl) | rfl | (simp only [List.length_drop, List.length_take]; rfl)) ?_
                  with_reducible refine (vellumref04_value.calls k2 (rd l0 x9_2) (Go.bits .and .u8 (ji21) 3) (a1.extract (x6_2 : Int).toNat a1.size) t834 t835 t836 t837 t838 _ A24.out).mono ?_
                  rintro e w36 ⟨rfl, hb⟩
                  refine ⟨_, rfl, ?_⟩
                  have n0_ := am (Kd.R_below (Kd.rr HO_8.out) hb)
                  have n1_ := sb HB hb
                  clear HO_8
                  clear HB
                  have HO_8 := n0_
                  have HB := n1_
                  clear n0_ n1_
                  (try clear hb)
                  (try clear hb2)
                  (try clear hk)
                  (try clear hi)
                  refine hK.out _ _ ((hc HB hw833_0)) (fun hHeld => ?_)
                  clear hK K
                  refine norm_ (a' := ?_) ?_ ?_
                  rotate_left
                  ·show Act.put _ (some 63) _ = _
                   simp only [Act.put, List.setIfInBounds_toArray, List.set_cons_zero, List.set_cons_succ, i64_w, i32_w]
                   rfl
                  refine pu HT_ 18 (some 45) (bb 19 24) ?_
                  refine pu HT_ 19 (some 64) (bb 20 24) ?_
                  refine pu HT_ 20 (some 65) (bb 21 24) ?_
                  refine one_ (i := 21) (N := some 10) (bb 22 24) rfl rfl (one_of HT_.out (by kernel_rfl)) (by decide) (fun K hK => ?_)
                  refine box_step ?hg (N := 10) ?hd (cs := #[.int .i64 0, .int .i64 0, .float .f64 0, .string (⟨#[]⟩ : ByteArray)]) (t := 50) ?hr ?_; (case hd => rfl); (case hg => rfl); (case hr => first | (go_simp; done) | (go_simp; rfl))
                  intro gb839 hg w37 hbox hb
                  have n0_ := am (Kd.R_below (Kd.R_elderB (Kd.rr HO_8.out) gb839 (Nat.le_of_eq hg.symm)) hb)
                  have n1_ := sb HB hb
                  have n2_ := am (hbox)
                  have n3_ := gw hg HB
                  have n4_ := gw hg HB
                  clear HO_8
                  clear HB
                  have HO_8 := n0_
                  have HB := n1_
                  have BK839 := n2_
                  have GW839 := n3_
                  have GE839 := n4_
                  clear n0_ n1_ n2_ n3_ n4_
                  clear hb hbox hg
                  refine hK.out _ _ ((hc HB hw833_0)) (fun hHeld => ?_)
                  clear hK K
                  refine norm_ (a' := ?_) ?_ ?_
                  rotate_left
                  ·show Act.put _ (some 10) _ = _
                   simp only [Act.put, List.setIfInBounds_toArray, List.set_cons_zero, List.set_cons_succ, i64_w, i32_w]
                   rfl
                  exact norm_ (np) (hCont (gb839) _ ⟨hHeld, (by (with_reducible repeat (first | apply Kd.R_alloc | apply Kd.R_drewN | apply Kd.R_drew)); exact Kd.R_mono HO_8.out (fun _ hk => hk.2)), (bk BK839), GW839.out, GE839.out, (bl HB)⟩)
                 ·skip
                  refine box_step ?hg (N := 10) ?hd (cs := #[.int .i64 0, .int .i64 0, .float .f64 0, .string (⟨#[]⟩ : ByteArray)]) (t := 50) ?hr ?_; (case hd => rfl); (case hg => rfl); (case hr => first | (go_simp; done) | (go_simp; rfl))
                  intro gb839 hg w36 hbox hb
                  have n0_ := am (Kd.R_below (Kd.R_elderB (Kd.rr HO_8.out) gb839 (Nat.le_of_eq hg.symm)) hb)
                  have n1_ := sb HB hb
                  have n2_ := am (hbox)
                  have n3_ := gw hg HB
                  have n4_ := gw hg HB
                  clear HO_8
                  clear HB
                  have HO_8 := n0_
                  have HB := n1_
                  have BK839 := n2_
                  have GW839 := n3_
                  have GE839 := n4_
                  clear n0_ n1_ n2_ n3_ n4_
                  clear hb hbox hg
                  refine hK.out _ _ ((hc HB hw833_0)) (fun hHeld => ?_)
                  clear hK K
                  refine norm_ (a' := ?_) ?_ ?_
                  rotate_left
                  ·show Act.put _ (some 10) _ = _
                   simp only [Act.put, List.setIfInBounds_toArray, List.set_cons_zero, List.set_cons_succ, i64_w, i32_w]
                   rfl
                  refine one_ (i := 17) (N := some 63) (bs 24 2359295) rfl rfl (one_of HT_.out (by kernel_rfl)) (by decide) (fun K hK => ?_)
                  refine goes_ Tryd.func136 (by kernel_rfl) rfl #[.int .i64 (rd l0 x9_2), .int .u8 (Go.bits .and .u8 (ji21) 3), .string (a1.extract (x6_2 : Int).toNat a1.size)] (by rfl) rfl rfl (by (try simp only [List.map_toArray, List.map_cons, List.map_nil]); first | done | (simp only [hji21]; rfl) | rfl | (simp only [List.length_drop, List.length_take]; rfl)) ?_
                  with_reducible refine (vellumref04_value.calls k2 (rd l0 x9_2) (Go.bits .and .u8 (ji21) 3) (a1.extract (x6_2 : Int).toNat a1.size) t834 t835 t836 t837 t838 _ A24.out).mono ?_
                  rintro e w37 ⟨rfl, hb⟩
                  refine ⟨_, rfl, ?_⟩
                  have n0_ := am (Kd.R_below (Kd.rr HO_8.out) hb)
                  have n1_ := kb BK839 hb
                  have n2_ := sb HB hb
                  clear HO_8
                  clear BK839
                  clear HB
                  have HO_8 := n0_
                  have BK839 := n1_
                  have HB := n2_
                  clear n0_ n1_ n2_
                  (try clear hb)
                  (try clear hb2)
                  (try clear hk)
                  (try clear hi)
                  refine hK.out _ _ ((hc HB hw833_0)) (fun hHeld => ?_)
                  clear hK K
                  refine norm_ (a' := ?_) ?_ ?_
                  rotate_left
                  ·show Act.put _ (some 63) _ = _
                   simp only [Act.put, List.setIfInBounds_toArray, List.set_cons_zero, List.set_cons_succ, i64_w, i32_w]
                   rfl
                  refine pu HT_ 18 (some 45) (bs 24 2621439) ?_
                  refine pu HT_ 19 (some 64) (bs 24 3145727) ?_
                  refine pu HT_ 20 (some 65) (bb 22 24) ?_
                  exact norm_ (np) (hCont (gb839) _ ⟨hHeld, (by (with_reducible repeat (first | apply Kd.R_alloc | apply Kd.R_drewN | apply Kd.R_drew)); exact Kd.R_mono HO_8.out (fun _ hk => hk.2)), (bk BK839), GW839.out, GE839.out, (bl HB)⟩)
                rintro gb839 w38 ⟨hS_, h0_, h1_, h2_, h3_, h4_⟩
                have n0_ : Aside0 (Kd.R k50 50 w38 w.heap.size (fun k_ => k_ ≠ gb839) u8 x8_2) := ⟨h0_⟩
                have n1_ : Aside0 (w38.heap[gb839]? = some (.cells #[.int .i64 0, .int .i64 0, .float .f64 0, .string (⟨#[]⟩ : ByteArray)] 50 (0, 0))) := ⟨h1_⟩
                have n2_ : Aside0 (w.heap.size ≤ gb839) := ⟨h2_⟩
                have n3_ : Aside0 (w.heap.size ≤ gb839) := ⟨h3_⟩
                have n4_ : Aside0 (Below w.heap.size w w38) := ⟨h4_⟩
                clear HO_8
                clear HB
                clear h0_ h1_ h2_ h3_ h4_
                have HO_8 := n0_
                have BK839 := n1_
                have GW839 := n2_
                have GE839 := n3_
                have HB := n4_
                clear n0_ n1_ n2_ n3_ n4_
                have hHeld : w38.cell? (ad833.add (x9_2).toNat) = some (.int .i64 (rd l0 x9_2)) := hS_
                refine norm_ (a' := ?_) ?_ ?_
                rotate_left
                ·simp only [putAll, Act.put, List.setIfInBounds_toArray, List.set_cons_zero, List.set_cons_succ]
                 rfl
                refine one_ (i := 22) (N := none) (bb 23 24) rfl rfl (one_of HT_.out (by kernel_rfl)) (by decide) (fun K hK => ?_)
                have hs39 : w38.cell? ⟨gb839, 0, none⟩ = some (.int .i64 0) := (blk_cell BK839.out 0).trans rfl
                have hfs39 := blk_frozen BK839.out 0
                have hs40 : w38.cell? ⟨gb839, 1, none⟩ = some (.int .i64 0) := (blk_cell BK839.out 1).trans rfl
                have hfs40 := blk_frozen BK839.out 1
                have hs41 : w38.cell? ⟨gb839, 2, none⟩ = some (.float .f64 0) := (blk_cell BK839.out 2).trans rfl
                have hfs41 := blk_frozen BK839.out 2
                have hs42 : w38.cell? ⟨gb839, 3, none⟩ = some (.string (⟨#[]⟩ : ByteArray)) := (blk_cell BK839.out 3).trans rfl
                have hfs42 := blk_frozen BK839.out 3
                refine skip_ (w1 := ?_) (by rfl) rfl ?_ ?_
                rotate_left
                ·go_simp
                 rfl
                refine hK.out _ _ (((cell_far (p := ⟨gb839, _, none⟩) (by first | exact Nat.ne_of_lt (Nat.lt_of_lt_of_le (by have := World.block_lt_of_cell? _ _ hw833_0; first | rwa [add_block] at this | exact this) GW839.out) | (rw [add_block]; exact Nat.ne_of_lt (Nat.lt_of_lt_of_le (by have := World.block_lt_of_cell? _ _ hw833_0; first | rwa [add_block] at this | exact this) GW839.out)) | (show (Addr.add _ _).block ≠ _; rw [add_block]; exact Nat.ne_of_lt (Nat.lt_of_lt_of_le (by have := World.block_lt_of_cell? _ _ hw833_0; first | rwa [add_block] at this | exact this) GW839.out)) | (dsimp only; exact Nat.ne_of_lt (Nat.lt_of_lt_of_le (by have := World.block_lt_of_cell? _ _ hw833_0; first | rwa [add_block] at this | exact this) GW839.out))) _).trans (((cell_far (p := ⟨gb839, _, none⟩) (by first | exact Nat.ne_of_lt (Nat.lt_of_lt_of_le (by have := World.block_lt_of_cell? _ _ hw833_0; first | rwa [add_block] at this | exact this) GW839.out) | (rw [add_block]; exact Nat.ne_of_lt (Nat.lt_of_lt_of_le (by have := World.block_lt_of_cell? _ _ hw833_0; first | rwa [add_block] at this | exact this) GW839.out)) | (show (Addr.add _ _).block ≠ _; rw [add_block]; exact Nat.ne_of_lt (Nat.lt_of_lt_of_le (by have := World.block_lt_of_cell? _ _ hw833_0; first | rwa [add_block] at this | exact this) GW839.out)) | (dsimp only; exact Nat.ne_of_lt (Nat.lt_of_lt_of_le (by have := World.block_lt_of_cell? _ _ hw833_0; first | rwa [add_block] at this | exact this) GW839.out))) _).trans (((cell_far (p := ⟨gb839, _, none⟩) (by first | exact Nat.ne_of_lt (Nat.lt_of_lt_of_le (by have := World.block_lt_of_cell? _ _ hw833_0; first | rwa [add_block] at this | exact this) GW839.out) | (rw [add_block]; exact Nat.ne_of_lt (Nat.lt_of_lt_of_le (by have := World.block_lt_of_cell? _ _ hw833_0; first | rwa [add_block] at this | exact this) GW839.out)) | (show (Addr.add _ _).block ≠ _; rw [add_block]; exact Nat.ne_of_lt (Nat.lt_of_lt_of_le (by have := World.block_lt_of_cell? _ _ hw833_0; first | rwa [add_block] at this | exact this) GW839.out)) | (dsimp only; exact Nat.ne_of_lt (Nat.lt_of_lt_of_le (by have := World.block_lt_of_cell? _ _ hw833_0; first | rwa [add_block] at this | exact this) GW839.out))) _).trans (((cell_far (p := ⟨gb839, _, none⟩) (by first | exact Nat.ne_of_lt (Nat.lt_of_lt_of_le (by have := World.block_lt_of_cell? _ _ hw833_0; first | rwa [add_block] at this | exact this) GW839.out) | (rw [add_block]; exact Nat.ne_of_lt (Nat.lt_of_lt_of_le (by have := World.block_lt_of_cell? _ _ hw833_0; first | rwa [add_block] at this | exact this) GW839.out)) | (show (Addr.add _ _).block ≠ _; rw [add_block]; exact Nat.ne_of_lt (Nat.lt_of_lt_of_le (by have := World.block_lt_of_cell? _ _ hw833_0; first | rwa [add_block] at this | exact this) GW839.out)) | (dsimp only; exact Nat.ne_of_lt (Nat.lt_of_lt_of_le (by have := World.block_lt_of_cell? _ _ hw833_0; first | rwa [add_block] at this | exact this) GW839.out))) _).trans (hHeld))))))))) (fun hHeld => ?_)
                clear hK K
                refine pu HT_ 23 (some 11) (bb 24 24) ?_
                refine done_ (done_of HT_.out (by kernel_rfl)) ?_
                obtain ⟨Z43_0, Z43_1, Z43_2, Z43_3, Y43_0, Y43_1, Y43_2, Y43_3⟩ := bq4 BK839
                try go_wp2_with (first | ((with_reducible refine gate_builtin (b := .append) (xs := #[.tmp 68, .tmp 70]) rfl ?_); at_builtin; refine Kd.R_append k50 (w0 := w) w.heap.size rfl (.tmp 68) (.tmp 70) 22 50 (.agg #[(.int .i64 0), (.int .i64 0), (.float .f64 0), (.string ⟨#[]⟩)]) 40 rfl Tryd.underlying22 info50 rfl (by decide) (by omega) u8 x8_2 (⟨t834, t835, t836, t837⟩ : S50) [.int .i64 t834, .int .i64 t835, .float .f64 t836, .string t837] (fun k_ => k_ ≠ gb839) (fun _ => False) rfl (by first | (go_simp; done) | (go_simp; rfl)) ?aP (fun _ hk => hk.elim) ?aF ?aO ?aB ?aS ?aL ?_; (case aP => exact k50_mkM _ _ _ (⟨t834, t835, t836, t837⟩ : S50)); (case aB => exact (bl HB)); (case aF => exact (fun k_ hk => Kd.freshB (g := gb839) (o := .cells #[.int .i64 t834, .int .i64 t835, .float .f64 t836, .string t837] 50 (0, 0)) (by refine rp ?_; refine blk_put (cs := #[.int .i64 t834, .int .i64 t835, .float .f64 t836, .string (⟨#[]⟩ : ByteArray)]) ?_ 3 _ rfl; refine rp ?_; refine blk_put (cs := #[.int .i64 t834, .int .i64 t835, .float .f64 0, .string (⟨#[]⟩ : ByteArray)]) ?_ 2 _ rfl; refine rp ?_; refine blk_put (cs := #[.int .i64 t834, .int .i64 0, .float .f64 0, .string (⟨#[]⟩ : ByteArray)]) ?_ 1 _ rfl; refine rp ?_; refine blk_put (cs := #[.int .i64 0, .int .i64 0, .float .f64 0, .string (⟨#[]⟩ : ByteArray)]) ?_ 0 _ rfl; exact bk BK839) k_ hk)); (case aO => exact (by (with_reducible repeat (first | apply Kd.R_alloc | apply Kd.R_drewN | apply Kd.R_drew)); exact Kd.R_mono (Kd.R_far (p := ⟨gb839, 3, none⟩) (Kd.R_far (p := ⟨gb839, 2, none⟩) (Kd.R_far (p := ⟨gb839, 1, none⟩) (Kd.R_far (p := ⟨gb839, 0, none⟩) (Kd.R_mono HO_8.out (fun k_ hk => (⟨hk, hk⟩ : _ ∧ k_ ≠ gb839))) (fun _ hk => hk.2) (.int .i64 t834)) (fun _ hk => hk.2) (.int .i64 t835)) (fun _ hk => hk.2) (.float .f64 t836)) (fun _ hk => hk.2) (.string t837)) (fun _ hk => hk.1))); (case aS => exact (below_size (bl HB))); (case aL => have := LMc34.out; omega); intro v841 w44 ho hb hg hat; rw [← Ny840.out] at ho; have n0_ := am (blk_grown (g := gb839) (o := .cells #[.int .i64 t834, .int .i64 t835, .float .f64 t836, .string t837] 50 (0, 0)) (by refine rp ?_; refine blk_put (cs := #[.int .i64 t834, .int .i64 t835, .float .f64 t836, .string (⟨#[]⟩ : ByteArray)]) ?_ 3 _ rfl; refine rp ?_; refine blk_put (cs := #[.int .i64 t834, .int .i64 t835, .float .f64 0, .string (⟨#[]⟩ : ByteArray)]) ?_ 2 _ rfl; refine rp ?_; refine blk_put (cs := #[.int .i64 t834, .int .i64 0, .float .f64 0, .string (⟨#[]⟩ : ByteArray)]) ?_ 1 _ rfl; refine rp ?_; refine blk_put (cs := #[.int .i64 0, .int .i64 0, .float .f64 0, .string (⟨#[]⟩ : ByteArray)]) ?_ 0 _ rfl; exact bk BK839) hg (Kd.R_away HO_8.out (fun _ hk => hk))); have n1_ := am (hb); have n2_ := am (ho); clear BK839; clear HB; clear HO_8; have BK839 := n0_; have HB := n1_; have HO842 := n2_; clear n0_ n1_ n2_; clear ho hb hg hat))
                go_roundg k2
                case measure => have := HK1.out; have := HK2.out; omega
                case rel => exact ⟨(wrap64 (x6_2 + t838)), (y840), (wrap64 (x9_2 + 1)), eb, eb, H', ⟨by have := HK1.out; have := HK2.out; omega⟩, ⟨by (with_reducible repeat (first | apply Kd.R_alloc | apply Kd.R_drewN | apply Kd.R_drew)); exact Kd.R_mono HO842.out (fun _ hk => trivial)⟩, ⟨bl HB⟩⟩
               ·rw [if_neg c34] at H
                exact absurd H (by simp)
             ·rw [if_neg c23] at H
              exact absurd H (by simp)
            ·rw [if_neg c22] at H
             exact absurd H (by simp)
           ·rw [if_neg c20] at H
            exact absurd H (by simp)
          ·rw [if_neg c17] at H
           exact absurd H (by simp)
         ·rw [if_neg c16] at H
          exact absurd H (by simp)
        ·rw [if_neg c14] at H
         exact absurd H (by simp)
       ·rw [if_neg c13] at H
        have c13b0 : decide (x9_2 < (l0.length : Int)) = false := decide_eq_false c13
        clear c13
        simp only [Option.some.injEq, Prod.mk.injEq] at H
        obtain ⟨rfl, rfl⟩ := H
        go_wp2
        go_ret2
        exact ⟨_, er, Kd.rr HO_8.out, bl HB⟩
end Go.Proofs.YtpiifdbicibelaaDoor.PA
end
section
namespace Go.Proofs.YtpiifdbicibelaaDoor.Pure
open Go.RowKit Go.Proofs Go.Proofs.YtpiifdbicibelaaDoorW.PrintWords Go.Proofs.YtpiifdbicibelaaDoorW.PrintLast Go.Proofs.YtpiifdbicibelaaDoorW.PrintMore Go.Proofs.YtpiifdbicibelaaDoor.PA Go.Proofs.YtpiifdbicibelaaDoor.OpenK
set_option linter.unusedVariables false
set_option linter.unusedSimpArgs false
theorem and127 (k : IntKind) (hk : k = .u64 ∨ k = .u8) (c : Int) (hc : 0 ≤ c ∧ c ≤ 255) : Go.bits .and k c 127 = ((c % 128).toNat : Int) := by
 have h64 : ∀ x : Fin 256, Go.bits .and .u64 (x.val : Int) 127 = (((x.val : Int) % 128).toNat : Int) := by decide +kernel
 have h8 : ∀ x : Fin 256, Go.bits .and .u8 (x.val : Int) 127 = (((x.val : Int) % 128).toNat : Int) := by decide +kernel
 have e : ((c.toNat : Nat) : Int) = c := by omega
 rcases hk with rfl | rfl
 ·have := h64 ⟨c.toNat, by omega⟩
  simpa only [e] using this
 ·have := h8 ⟨c.toNat, by omega⟩
  simpa only [e] using this
theorem mn_ten (n : Nat) : mn (n : Int) 10 = ((min n 10 : Nat) : Int) := by unfold mn; split <;> omega
theorem drop_cons {L : List Int} {i : Nat} (h : i < L.length) : L.drop i = L[i] :: L.drop (i + 1) := List.drop_eq_getElem_cons h
theorem str_rest (L : List Int) (i : Nat) : (strOfNums L).extract (((i : Nat) : Int)).toNat (strOfNums L).size = strOfNums (L.drop i) := str_drop L i
def vrT (n s : Nat) : Option (Nat × List Int) → Int × ByteArray × Bool
 | none => (0, (⟨#[]⟩ : ByteArray), false)
 | some (m, R) => (((n + 2 ^ s * m : Nat) : Int), strOfNums R, true)
theorem pow7 (i : Nat) : 2 ^ (7 * (i + 1)) = 2 ^ (7 * i) * 128 := by rw [Nat.mul_add, Nat.pow_add]
theorem digit_fits {i : Nat} {c : Nat} (hi : i ≤ 9) (hc : c < 128) (h9 : i = 9 → c ≤ 1) : c * 2 ^ (7 * i) < 2 ^ 64 := by
 by_cases h : i = 9
 ·subst h
  have := h9 rfl
  exact Nat.lt_of_le_of_lt (Nat.mul_le_mul_right _ this) (by decide)
 ·have h1 : 2 ^ (7 * i) ≤ 2 ^ 56 := Nat.pow_le_pow_right (by decide) (by omega)
  exact Nat.lt_of_le_of_lt (Nat.mul_le_mul (Nat.le_of_lt hc) h1) (by decide)
theorem digit_low {i n c : Nat} (hn : n < 2 ^ (7 * i)) (hc : c < 128) : n + 2 ^ (7 * i) * c < 2 ^ (7 * (i + 1)) := by
 rw [pow7]
 calc n + 2 ^ (7 * i) * c < 2 ^ (7 * i) + 2 ^ (7 * i) * c := by omega
  _ = 2 ^ (7 * i) * (c + 1) := by rw [Nat.mul_add]; omega
  _ ≤ _ := Nat.mul_le_mul_left _ (by omega)
theorem vr_cons (i : Nat) (c : Int) (M : List Int) : vr i (c :: M) = if 10 ≤ i then none else if (i = 9 ∧ 1 < c) ∨ (0 < i ∧ c = 0) then none else if c < 128 then some (c.toNat, M) else
  match vr (i + 1) M with
  | none => none
  | some (n, R) => some ((c - 128).toNat + 128 * n, R) := rfl
theorem vrT_more {i n c : Nat} (o : Option (Nat × List Int)) : vrT (n + 2 ^ (7 * i) * c) (7 * (i + 1)) o = vrT n (7 * i) (match o with | none => none | some (m, R) => some (c + 128 * m, R)) := by
 cases o with
 | none => rfl
 | some p =>
  obtain ⟨m, R⟩ := p
  simp only [vrT]
  have e : n + 2 ^ (7 * i) * c + 2 ^ (7 * (i + 1)) * m = n + 2 ^ (7 * i) * (c + 128 * m) := by
   rw [pow7, Nat.mul_add, Nat.mul_assoc, Nat.add_assoc]
  rw [e]
theorem varint_l0 (L : List Int) (hL : Bytes L) (hlen : L.length ≤ 1000000) : ∀ (q i n : Nat), i + q = 10 → n < 2 ^ (7 * i) → Ev (fun k => row_varint.l0 k (strOfNums L) (n : Int) (mn (L.length : Int) 10) (i : Int)) (vrT n (7 * i) (vr i (L.drop i)))
 | q, i, n, hq, hn => by
  have hm := mn_ten L.length
  by_cases hlt : i < L.length ∧ i < 10
  ·obtain ⟨hlt, h10⟩ := hlt
   have hb := str_bt hL i hlt
   have hc := hL _ (List.getElem_mem hlt)
   rw [drop_cons hlt]
   generalize L[i] = c at hb hc
   have hcw : IntKind.u64.wrap c = c := u64_wrap_id (by omega) (by omega)
   have h7 : True → wrap64 (7 * (i : Int)) = 7 * (i : Int) := fun _ => wrap64_id (by omega) (by omega)
   have h71 : (7 * (i : Int)) = ((7 * i : Nat) : Int) := by omega
   have h1 : True → wrap64 ((i : Int) + 1) = ((i + 1 : Nat) : Int) := fun _ => wrap_one i (by omega)
   refine Ev.step (g := fun k => row_varint.j1 k (strOfNums L) (n : Int) (i : Int) c (mn (L.length : Int) 10) (i : Int) (decide ((i = 9 ∧ 1 < c) ∨ (0 < i ∧ c = 0)))) (fun k => ?_) ?_
   ·simp only [row_varint.l0, hb, hcw, str_size]
    rw [if_pos (by rw [hm]; omega), if_pos (by omega), if_pos (by omega)]
    by_cases h9 : i = 9
    ·rw [if_pos (by omega)]
     by_cases hc1 : c > 1
     ·rw [if_pos hc1, decide_eq_true (.inl ⟨h9, hc1⟩)]
     ·rw [if_neg hc1, if_pos (by omega)]
      congr 1
      rw [Bool.eq_iff_iff, beq_iff_eq, decide_eq_true_eq]; omega
    ·rw [if_neg (by omega)]
     by_cases h0 : i = 0
     ·rw [if_neg (by omega), decide_eq_false (by omega)]
     ·rw [if_pos (by omega)]
      congr 1
      rw [Bool.eq_iff_iff, beq_iff_eq, decide_eq_true_eq]; omega
   ·rw [vr_cons, if_neg (by omega)]
    by_cases hz : (i = 9 ∧ 1 < c) ∨ (0 < i ∧ c = 0)
    ·rw [if_pos hz, decide_eq_true hz]
     refine Ev.from_ 1 fun k => ?_
     simp only [row_varint.j1]
     rw [if_pos trivial]; rfl
    ·rw [if_neg hz, decide_eq_false hz]
     have ho := or_shl n (c % 128).toNat (7 * i) hn (by omega) (digit_fits (by omega) (by omega) (fun h => by
      by_cases g : 1 < c
      ·exact absurd (.inl ⟨h, g⟩) hz
      ·omega))
     by_cases h128 : c < 128
     ·rw [if_pos h128]
      refine Ev.from_ 1 fun k => ?_
      simp only [row_varint.j1, h7 trivial, h1 trivial, and127 .u64 (.inl rfl) c hc]
      rw [if_neg (by decide), if_pos (by omega), if_pos h128, if_pos (by omega), if_pos (by rw [str_size]; omega), str_rest, h71, ho]
      have e : (c % 128).toNat = c.toNat := by omega
      rw [e]; rfl
     ·rw [if_neg h128]
      have ih := varint_l0 L hL hlen (q - 1) (i + 1) (n + 2 ^ (7 * i) * (c % 128).toNat) (by omega) (digit_low hn (by omega))
      rw [vrT_more] at ih
      have e : (c % 128).toNat = (c - 128).toNat := by omega
      refine Ev.step (g := fun k => row_varint.l0 k (strOfNums L) ((n + 2 ^ (7 * i) * (c % 128).toNat : Nat) : Int) (mn (L.length : Int) 10) ((i + 1 : Nat) : Int)) (fun k => ?_) ?_
      ·simp only [row_varint.j1, h7 trivial, h1 trivial, and127 .u64 (.inl rfl) c hc]
       rw [if_neg (by decide), if_pos (by omega), if_neg h128, h71, ho]
      ·rw [e] at ih ⊢
       exact ih
  ·refine Ev.from_ 1 fun k => ?_
   simp only [row_varint.l0]
   rw [if_neg (by rw [hm]; omega)]
   have e : vr i (L.drop i) = none := by
    by_cases h : i < L.length
    ·rw [drop_cons h, vr_cons, if_pos (by omega)]
    ·rw [List.drop_of_length_le (by omega)]; rfl
   rw [e]; rfl
termination_by q => q
decreasing_by omega
theorem vrT_zero (o : Option (Nat × List Int)) : vrT 0 (7 * 0) o = match o with | none => (0, (⟨#[]⟩ : ByteArray), false) | some (m, R) => ((m : Int), strOfNums R, true) := by
 cases o with
 | none => rfl
 | some p => obtain ⟨m, R⟩ := p; simp [vrT]
theorem varint_ev (L : List Int) (hL : Bytes L) (hlen : L.length ≤ 1000000) : Ev (fun k => row_varint.f k (strOfNums L)) (match vr 0 L with | none => (0, (⟨#[]⟩ : ByteArray), false) | some (m, R) => ((m : Int), strOfNums R, true)) := by
 have := varint_l0 L hL hlen 10 0 0 rfl (by decide)
 rw [vrT_zero] at this
 simp only [row_varint.f, str_size]
 exact this
def vrN (len n s : Nat) : Option (Nat × List Int) → Int × Int
 | none => (0, 0)
 | some (m, R) => (((n + 2 ^ s * m : Nat) : Int), ((len - R.length : Nat) : Int))
theorem vrN_more {i n c len : Nat} (o : Option (Nat × List Int)) : vrN len (n + 2 ^ (7 * i) * c) (7 * (i + 1)) o = vrN len n (7 * i) (match o with | none => none | some (m, R) => some (c + 128 * m, R)) := by
 cases o with
 | none => rfl
 | some p =>
  obtain ⟨m, R⟩ := p
  simp only [vrN]
  have e : n + 2 ^ (7 * i) * c + 2 ^ (7 * (i + 1)) * m = n + 2 ^ (7 * i) * (c + 128 * m) := by
   rw [pow7, Nat.mul_add, Nat.mul_assoc, Nat.add_assoc]
  rw [e]
theorem number_l0 (L : List Int) (hL : Bytes L) (hlen : L.length ≤ 1000000) : ∀ (q i n : Nat), i + q = 10 → n < 2 ^ (7 * i) → Ev (fun k => vellumref04_number.l0 k (strOfNums L) (n : Int) (i : Int)) (vrN L.length n (7 * i) (vr i (L.drop i)))
 | q, i, n, hq, hn => by
  by_cases hlt : i < L.length ∧ i < 10
  ·obtain ⟨hlt, h10⟩ := hlt
   have hb := str_bt hL i hlt
   have hc := hL _ (List.getElem_mem hlt)
   have hdl : (L.drop (i + 1)).length = L.length - (i + 1) := List.length_drop
   rw [drop_cons hlt]
   generalize L[i] = c at hb hc
   have h7 : True → IntKind.u64.wrap (wrap64 (7 * (i : Int))) = 7 * (i : Int) := fun _ => by rw [wrap64_id (by omega) (by omega), u64_wrap_id (by omega) (by omega)]
   have h71 : (7 * (i : Int)) = ((7 * i : Nat) : Int) := by omega
   have h1 : True → wrap64 ((i : Int) + 1) = ((i + 1 : Nat) : Int) := fun _ => wrap_one i (by omega)
   have hw : IntKind.u64.wrap (((c % 128).toNat : Nat) : Int) = (((c % 128).toNat : Nat) : Int) := u64_wrap_id (by omega) (by omega)
   refine Ev.step (g := fun k => vellumref04_number.j1 k (strOfNums L) (n : Int) (i : Int) true) (fun k => ?_) (Ev.step (g := fun k => vellumref04_number.j2 k (strOfNums L) (n : Int) (i : Int) (decide (i = 9 ∧ 1 < c))) (fun k => ?_) ?_)
   ·simp only [vellumref04_number.l0, str_size]
    rw [if_pos (by omega), decide_eq_true (by omega)]
   ·simp only [vellumref04_number.j1, str_size, hb]
    rw [if_pos trivial]
    by_cases h9 : i = 9
    ·rw [if_pos (by omega), if_pos (by omega), if_pos (by omega)]
     congr 1
     rw [decide_eq_decide]; omega
    ·rw [if_neg (by omega), decide_eq_false (by omega)]
   ·rw [vr_cons, if_neg (by omega)]
    by_cases hz9 : i = 9 ∧ 1 < c
    ·rw [if_pos (.inl hz9), decide_eq_true hz9]
     refine Ev.from_ 1 fun k => ?_
     simp only [vellumref04_number.j2]
     rw [if_pos trivial]; rfl
    rw [decide_eq_false hz9]
    have ho := or_shl n (c % 128).toNat (7 * i) hn (by omega) (digit_fits (by omega) (by omega) (fun h => by
      by_cases g : 1 < c
      ·exact absurd ⟨h, g⟩ hz9
      ·omega))
    by_cases h128 : c < 128
    ·by_cases hz : 0 < i ∧ c = 0
     ·rw [if_pos (.inr hz)]
      refine Ev.from_ 1 fun k => ?_
      simp only [vellumref04_number.j2, h7 trivial, h1 trivial, hb, str_size]
      rw [if_neg (by decide), if_pos (by omega), if_pos (by omega), if_pos (by omega), if_pos h128, if_pos (by omega), if_pos hz.2]; rfl
     ·rw [if_neg (by omega), if_pos h128]
      refine Ev.from_ 1 fun k => ?_
      have e : (c % 128).toNat = c.toNat := by omega
      simp only [vellumref04_number.j2, h7 trivial, h1 trivial, hb, str_size, and127 .u8 (.inr rfl) c hc, hw]
      rw [if_neg (by decide), if_pos (by omega), if_pos (by omega), if_pos (by omega), if_pos h128, h71, ho, e]
      simp only [vrN, hdl]
      have e2 : L.length - (L.length - (i + 1)) = i + 1 := by omega
      rw [e2]
      by_cases h0 : i = 0
      ·rw [if_neg (by omega)]
      ·rw [if_pos (by omega), if_neg (by omega)]
    ·rw [if_neg (by omega), if_neg h128]
     have ih := number_l0 L hL hlen (q - 1) (i + 1) (n + 2 ^ (7 * i) * (c % 128).toNat) (by omega) (digit_low hn (by omega))
     rw [vrN_more] at ih
     have e : (c % 128).toNat = (c - 128).toNat := by omega
     refine Ev.step (g := fun k => vellumref04_number.l0 k (strOfNums L) ((n + 2 ^ (7 * i) * (c % 128).toNat : Nat) : Int) ((i + 1 : Nat) : Int)) (fun k => ?_) ?_
     ·simp only [vellumref04_number.j2, h7 trivial, h1 trivial, hb, str_size, and127 .u8 (.inr rfl) c hc, hw]
      rw [if_neg (by decide), if_pos (by omega), if_pos (by omega), if_pos (by omega), if_neg h128, h71, ho]
     ·rw [e] at ih ⊢
      exact ih
  ·have e : vr i (L.drop i) = none := by
    by_cases h : i < L.length
    ·rw [drop_cons h, vr_cons, if_pos (by omega)]
    ·rw [List.drop_of_length_le (by omega)]; rfl
   rw [e]
   refine Ev.step (g := fun k => vellumref04_number.j1 k (strOfNums L) (n : Int) (i : Int) false) (fun k => ?_) ?_
   ·simp only [vellumref04_number.l0, str_size]
    by_cases h : i < L.length
    ·rw [if_pos (by omega), decide_eq_false (by omega)]
    ·rw [if_neg (by omega)]
   ·refine Ev.from_ 1 fun k => ?_
    simp only [vellumref04_number.j1]
    rw [if_neg (by decide)]; rfl
termination_by q => q
decreasing_by omega
theorem number_ev4 (L : List Int) (hL : Bytes L) (hlen : L.length ≤ 1000000) : Ev (fun k => vellumref04_number.f k (strOfNums L)) (match vr 0 L with | none => (0, 0) | some (m, R) => ((m : Int), ((L.length - R.length : Nat) : Int))) := by
 have := number_l0 L hL hlen 10 0 0 rfl (by decide)
 simp only [vellumref04_number.f]
 have e : ∀ o : Option (Nat × List Int), vrN L.length 0 (7 * 0) o = match o with | none => (0, 0) | some (m, R) => ((m : Int), ((L.length - R.length : Nat) : Int)) := by
  intro o
  cases o with
  | none => rfl
  | some p => obtain ⟨m, R⟩ := p; simp [vrN]
 rw [e] at this
 exact this
theorem lowN_take (L : List Int) (hL : Bytes L) (i : Nat) (h : i < L.length) (hi : i < 8) : lowN (L.take i) < 2 ^ (8 * i) ∧ lowN (L.take (i + 1)) = lowN (L.take i) + 2 ^ (8 * i) * (L[i]).toNat := by
 have hr := num_range (hL.take i).reverse
 have hl : (L.take i).length = i := by rw [List.length_take]; omega
 rw [List.length_reverse, hl] at hr
 have hp : (256 : Int) ^ i = ((2 ^ (8 * i) : Nat) : Int) := pow_nat i
 have hc := hL _ (List.getElem_mem h)
 unfold lowN
 refine ⟨by omega, ?_⟩
 rw [List.take_succ_eq_append_getElem h, List.reverse_append]
 simp only [List.reverse_cons, List.reverse_nil, List.nil_append, List.singleton_append, num, List.length_reverse, hl]
 rw [hp]
 have e : L[i] * ((2 ^ (8 * i) : Nat) : Int) = ((2 ^ (8 * i) * (L[i]).toNat : Nat) : Int) := by
  rw [Int.natCast_mul, Int.mul_comm]
  congr 1; omega
 rw [e]
 omega
theorem byte_fits {i c : Nat} (hi : i < 8) (hc : c ≤ 255) : c * 2 ^ (8 * i) < 2 ^ 64 := by
 have h1 : 2 ^ (8 * i) ≤ 2 ^ 56 := Nat.pow_le_pow_right (by decide) (by omega)
 exact Nat.lt_of_le_of_lt (Nat.mul_le_mul hc h1) (by decide)
theorem low_l0 (L : List Int) (hL : Bytes L) (h8 : 8 ≤ L.length) : ∀ (q i : Nat), i + q = 8 → Ev (fun k => row_low.l0 k (strOfNums L) (lowN (L.take i) : Int) (i : Int)) (lowN (L.take 8) : Int)
 | 0, i, hq => by
  refine Ev.from_ 1 fun k => ?_
  simp only [row_low.l0]
  obtain rfl : i = 8 := by omega
  rw [if_neg (by omega)]
 | q + 1, i, hq => by
  have hlt : i < L.length := by omega
  have hb := str_bt hL i hlt
  obtain ⟨g1, g2⟩ := lowN_take L hL i hlt (by omega)
  have hc := hL _ (List.getElem_mem hlt)
  have ih := low_l0 L hL h8 q (i + 1) (by omega)
  have ho := or_shl (lowN (L.take i)) (L[i]).toNat (8 * i) g1 (by omega) (byte_fits (by omega) (by omega))
  rw [g2] at ih
  refine Ev.step (g := fun k => row_low.l0 k (strOfNums L) ((lowN (L.take i) + 2 ^ (8 * i) * (L[i]).toNat : Nat) : Int) ((i + 1 : Nat) : Int)) (fun k => ?_) ih
  have e8 : wrap64 (8 * (i : Int)) = ((8 * i : Nat) : Int) := by rw [wrap64_id (by omega) (by omega)]; omega
  have ec : IntKind.u64.wrap L[i] = (((L[i]).toNat : Nat) : Int) := by rw [u64_wrap_id (by omega) (by omega)]; omega
  simp only [row_low.l0, hb, str_size, e8, ec]
  rw [if_pos (by omega), if_pos (by omega), if_pos (by omega), if_pos (by omega), ho, wrap64_id (by omega) (by omega)]
  rfl
theorem low_ev (L : List Int) (hL : Bytes L) (h8 : 8 ≤ L.length) : Ev (fun k => row_low.f k (strOfNums L)) (lowN (L.take 8) : Int) := low_l0 L hL h8 8 0 rfl
theorem value_l0 (L : List Int) (hL : Bytes L) (h8 : 8 ≤ L.length) (a b : Int) (c : Nat) (d : ByteArray) : ∀ (q i : Nat), i + q = 8 → Ev (fun k => vellumref04_value.l0 k (strOfNums L) (lowN (L.take i) : Int) (i : Int) a b c d) (a, b, lowN (L.take 8), d, 8)
 | 0, i, hq => by
  refine Ev.from_ 1 fun k => ?_
  simp only [vellumref04_value.l0]
  obtain rfl : i = 8 := by omega
  rw [if_neg (by omega)]; rfl
 | q + 1, i, hq => by
  have hlt : i < L.length := by omega
  have hb := str_bt hL i hlt
  obtain ⟨g1, g2⟩ := lowN_take L hL i hlt (by omega)
  have hc := hL _ (List.getElem_mem hlt)
  have ih := value_l0 L hL h8 a b c d q (i + 1) (by omega)
  have ho := or_shl (lowN (L.take i)) (L[i]).toNat (8 * i) g1 (by omega) (byte_fits (by omega) (by omega))
  rw [g2] at ih
  refine Ev.step (g := fun k => vellumref04_value.l0 k (strOfNums L) ((lowN (L.take i) + 2 ^ (8 * i) * (L[i]).toNat : Nat) : Int) ((i + 1 : Nat) : Int) a b c d) (fun k => ?_) ih
  have e8 : IntKind.u64.wrap (wrap64 (8 * (i : Int))) = ((8 * i : Nat) : Int) := by rw [wrap64_id (by omega) (by omega), u64_wrap_id (by omega) (by omega)]; omega
  have ec : IntKind.u64.wrap L[i] = (((L[i]).toNat : Nat) : Int) := by rw [u64_wrap_id (by omega) (by omega)]; omega
  simp only [vellumref04_value.l0, hb, str_size, e8, ec]
  rw [if_pos (by omega), if_pos (by omega), if_pos (by omega), if_pos (by omega), ho, wrap64_id (by omega) (by omega)]
  rfl
theorem i64_wrap {n : Int} (h0 : -9223372036854775808 ≤ n) (h1 : n < 9223372036854775808) : IntKind.i64.wrap n = n := by
 simp [IntKind.wrap, IntKind.signed, IntKind.bits]; omega
theorem xor_i64_zero (x : Nat) (h : x < 9223372036854775808) : Go.bits .xor .i64 (x : Int) 0 = (x : Int) := by
 have e1 : Go.bits .xor .i64 (x : Int) 0 = IntKind.i64.wrap (((BitVec.ofInt 64 (x : Int)) ^^^ (BitVec.ofInt 64 0)).toNat : Int) := rfl
 have e2 : (BitVec.ofInt 64 0).toNat = 0 := by decide
 rw [e1, BitVec.toNat_xor, e2, Nat.xor_zero, BitVec.toNat_ofInt]
 have h1 : ((x : Int) % ((2 ^ 64 : Nat) : Int)).toNat = x := by omega
 rw [h1]
 exact i64_wrap (by omega) (by omega)
theorem xor_i64_ones (x : Nat) (h : x < 9223372036854775808) : Go.bits .xor .i64 (x : Int) (-1) = -(x : Int) - 1 := by
 have e1 : Go.bits .xor .i64 (x : Int) (-1) = IntKind.i64.wrap (((BitVec.ofInt 64 (x : Int)) ^^^ (BitVec.ofInt 64 (-1))).toNat : Int) := rfl
 have e2 : (BitVec.ofInt 64 (-1)).toNat = 2 ^ 64 - 1 := by decide
 rw [e1, BitVec.toNat_xor, e2, BitVec.toNat_ofInt]
 have h1 : ((x : Int) % ((2 ^ 64 : Nat) : Int)).toNat = x := by omega
 rw [h1, xor_ones x 64 (by omega)]
 have e3 : ((2 ^ 64 - 1 - x : Nat) : Int) = 18446744073709551615 - (x : Int) := by omega
 rw [e3]
 have e4 : IntKind.i64.wrap (18446744073709551615 - (x : Int)) = (18446744073709551615 - (x : Int) + 9223372036854775808) % 18446744073709551616 - 9223372036854775808 := by
  simp [IntKind.wrap, IntKind.signed, IntKind.bits]
  omega
 rw [e4]; omega
theorem and_one (n : Nat) (h : n < 18446744073709551616) : Go.bits .and .u64 (n : Int) 1 = ((n % 2 : Nat) : Int) := by
 have e1 : Go.bits .and .u64 (n : Int) 1 = IntKind.u64.wrap (((BitVec.ofInt 64 (n : Int)) &&& (BitVec.ofInt 64 1)).toNat : Int) := rfl
 have e2 : (BitVec.ofInt 64 1).toNat = 1 := by decide
 rw [e1, BitVec.toNat_and, e2, Nat.and_one_is_mod, BitVec.toNat_ofInt]
 have h1 : ((n : Int) % ((2 ^ 64 : Nat) : Int)).toNat = n := by omega
 rw [h1]
 exact u64_wrap_id (by omega) (by omega)
theorem unzig_f (n : Nat) (h : n < 18446744073709551616) : row_unzig.f (n : Int) = some (uz n) := by
 unfold row_unzig.f uz
 have e0 : (n : Int) / 2 = ((n / 2 : Nat) : Int) := by omega
 rw [and_one n h, e0, wrap64_id (n := ((n / 2 : Nat) : Int)) (by omega) (by omega), wrap64_id (n := ((n % 2 : Nat) : Int)) (by omega) (by omega), wrap64_id (by omega) (by omega)]
 congr 1
 by_cases h2 : n % 2 = 0
 ·rw [if_pos h2, h2]
  exact xor_i64_zero _ (by omega)
 ·have h3 : n % 2 = 1 := by omega
  rw [if_neg h2, h3]
  exact xor_i64_ones _ (by omega)
theorem Ev.dep {α β : Type} {f : Nat → Option α} {f' : Nat → Option β} {v : α} {b : β} (h : Ev f v) (h2 : ∀ k, f k = some v → f' (k + 1) = some b) : Ev f' b := by
 obtain ⟨k0, h⟩ := h
 refine ⟨k0 + 1, fun k hk => ?_⟩
 obtain ⟨k, rfl⟩ : ∃ q, k = q + 1 := ⟨k - 1, by omega⟩
 exact h2 k (h k (by omega))
theorem Ev.dep2 {α β γ : Type} {f : Nat → Option α} {g : Nat → Option γ} {f' : Nat → Option β} {v : α} {c : γ} {b : β} (h : Ev f v) (hg : Ev g c) (h2 : ∀ k, f k = some v → g k = some c → f' (k + 1) = some b) : Ev f' b := by
 obtain ⟨k0, h⟩ := h
 obtain ⟨k1, hg⟩ := hg
 refine ⟨k0 + k1 + 1, fun k hk => ?_⟩
 obtain ⟨k, rfl⟩ : ∃ q, k = q + 1 := ⟨k - 1, by omega⟩
 exact h2 k (h k (by omega)) (hg k (by omega))
abbrev G6' := Int × Int × Nat × ByteArray × ByteArray × Bool
def getSpec (c : S105) (o : Option (S50 × List Int)) (r : G6') : Prop :=
 match o with
 | none => r.2.2.2.2.2 = false
 | some (v, R) => if fitB c v = true then r = (v.f0, v.f1, v.f2, v.f3, strOfNums R, true) else r.2.2.2.2.2 = false
theorem fitB_of {c : S105} {v : S50} (h : chkV v = 0) (h0 : v.f0 ≠ 0) (h1 : v.f0 = c.f1) : fitB c v = true := fitB_iff.2 ⟨h, .inr ⟨h0, h1⟩⟩
theorem get_code {c : S105} (hk : 1 ≤ c.f1 ∧ c.f1 ≤ 5) (m : Int) (hm : 0 ≤ m ∧ m ≤ 3) (L : List Int) (hL : Bytes L) (hlen : L.length ≤ 65536) :
  ∃ r, Ev (fun k => row_get.f k c.f0 c.f1 c.f2 c.f3.f0 c.f3.f1 c.f3.f2 c.f3.f3 m (strOfNums L)) r ∧ getSpec c (valR c.f1 m L) r := by
 simp only [row_get.f]
 by_cases h0 : m = 0
 ·refine ⟨(0, 0, 0, (⟨#[]⟩ : ByteArray), strOfNums L, c.f2), Ev.pos h0 Ev.pure, ?_⟩
  subst h0
  have hc : chkV ⟨0, 0, 0, (⟨#[]⟩ : ByteArray)⟩ = 0 := chk_plain (.inl rfl) 0 (by decide) (fun _ _ => rfl) (fun _ => rfl)
  have hf : fitB c ⟨0, 0, 0, (⟨#[]⟩ : ByteArray)⟩ = c.f2 := by
   unfold fitB
   rw [decide_eq_true hc]; simp
  have hv : valR c.f1 0 L = some (⟨0, 0, 0, (⟨#[]⟩ : ByteArray)⟩, L) := by simp [valR]
  rw [hv]
  show if fitB c ⟨0, 0, 0, (⟨#[]⟩ : ByteArray)⟩ = true then _ else _
  rw [hf]
  cases hn : c.f2 <;> simp
 -- the kinds, the bits being 1 or 2
 have hj : ∀ b : Bool, (b = true ↔ m > 2 ∨ (m = 2 ∧ c.f1 ≠ 1)) → ∃ r, Ev (fun k => row_get.j0 k m (strOfNums L) b c.f0 c.f1 c.f2 c.f3.f0 c.f3.f1 c.f3.f2 c.f3.f3 c.f1 0 0 (⟨#[]⟩ : ByteArray)) r ∧ getSpec c (valR c.f1 m L) r := by
  intro b hb
  by_cases hbt : b = true
  ·have hbm := hb.1 hbt
   refine ⟨(c.f1, 0, 0, (⟨#[]⟩ : ByteArray), (⟨#[]⟩ : ByteArray), false), Ev.from_ 1 fun k => ?_, ?_⟩
   ·simp only [row_get.j0]; rw [if_pos hbt]
   ·have hv : valR c.f1 m L = none := by
     unfold valR
     rw [if_neg h0, if_neg (by omega), if_pos (by omega)]
    rw [hv]; rfl
  have hbm : ¬ (m > 2 ∨ (m = 2 ∧ c.f1 ≠ 1)) := fun h => hbt (hb.2 h)
  by_cases k1 : c.f1 = 1
  ·refine ⟨(c.f1, m - 1, 0, (⟨#[]⟩ : ByteArray), strOfNums L, true), Ev.from_ 1 fun k => ?_, ?_⟩
   ·simp only [row_get.j0]
    rw [if_neg hbt, if_pos k1]
    have : (m - 1) % 256 = m - 1 := by omega
    rw [this]
   ·have hv : valR c.f1 m L = some (⟨1, m - 1, 0, (⟨#[]⟩ : ByteArray)⟩, L) := by
     unfold valR
     rw [if_neg h0, if_pos ⟨k1, by omega⟩]
    rw [hv]
    have hc : chkV ⟨1, m - 1, 0, (⟨#[]⟩ : ByteArray)⟩ = 0 := chk_plain (.inr (.inl rfl)) 0 (fun _ => (show m - 1 = 0 ∨ m - 1 = 1 by omega)) (fun h => absurd rfl h) (fun _ => rfl)
    show if fitB c ⟨1, m - 1, 0, (⟨#[]⟩ : ByteArray)⟩ = true then _ else _
    rw [if_pos (fitB_of hc (show (1 : Int) ≠ 0 by decide) k1.symm), k1]
  have hm1 : m = 1 := by omega
  have hv0 : valR c.f1 m L = if c.f1 = 3 then (if L.length < 8 then none else some (⟨3, 0, lowN (L.take 8), (⟨#[]⟩ : ByteArray)⟩, L.drop 8))
    else match vr 0 L with
     | none => none
     | some (n, R) => if c.f1 = 2 then some (⟨2, uz n, 0, (⟨#[]⟩ : ByteArray)⟩, R) else if R.length < n then none else some (⟨c.f1, 0, 0, strOfNums (R.take n)⟩, R.drop n) := by
   unfold valR
   rw [if_neg h0, if_neg (fun h => k1 h.1), if_neg (by omega)]
   rfl
  have hvar := varint_ev L hL (by omega)
  by_cases k2 : c.f1 = 2
  ·cases hv : vr 0 L with
   | none =>
    rw [hv] at hvar
    have hz : row_unzig.f 0 = some (uz 0) := unzig_f 0 (by decide)
    refine ⟨(c.f1, uz 0, 0, (⟨#[]⟩ : ByteArray), (⟨#[]⟩ : ByteArray), false), ?_, ?_⟩
    ·refine Ev.dep hvar fun k hk => ?_
     simp only [row_get.j0]
     rw [if_neg hbt, if_neg k1, if_pos k2, hk]
     simp only [Option.bind_some, hz]
    ·rw [hv0, if_neg (by omega), hv]; rfl
   | some p =>
    obtain ⟨n, R⟩ := p
    rw [hv] at hvar
    obtain ⟨_, g2, _, _⟩ := vr_sound 0 L n R hL hv
    have g2' : n < 18446744073709551616 := g2
    refine ⟨(c.f1, uz n, 0, (⟨#[]⟩ : ByteArray), strOfNums R, true), ?_, ?_⟩
    ·refine Ev.dep hvar fun k hk => ?_
     simp only [row_get.j0]
     rw [if_neg hbt, if_neg k1, if_pos k2, hk]
     simp only [Option.bind_some, unzig_f n g2']
    ·rw [hv0, if_neg (by omega), hv]
     simp only [getSpec]
     rw [if_pos k2]
     have hc : chkV ⟨2, uz n, 0, (⟨#[]⟩ : ByteArray)⟩ = 0 := chk_plain (.inr (.inr (.inl rfl))) 0 (fun h => absurd h (by decide)) (fun _ h => absurd rfl h) (fun _ => rfl)
     simp only
     rw [if_pos (fitB_of hc (show (2 : Int) ≠ 0 by decide) k2.symm), k2]
  by_cases k3 : c.f1 = 3
  ·by_cases h8 : L.length < 8
   ·refine ⟨(c.f1, 0, 0, (⟨#[]⟩ : ByteArray), (⟨#[]⟩ : ByteArray), false), Ev.from_ 1 fun k => ?_, ?_⟩
    ·simp only [row_get.j0, str_size]
     rw [if_neg hbt, if_neg k1, if_neg k2, if_pos k3, if_pos (by omega)]
    ·rw [hv0, if_pos k3, if_pos h8]; rfl
   ·have hlow := low_ev L hL (by omega)
    refine ⟨(c.f1, 0, lowN (L.take 8), (⟨#[]⟩ : ByteArray), strOfNums (L.drop 8), true), ?_, ?_⟩
    ·refine Ev.dep hlow fun k hk => ?_
     simp only [row_get.j0]
     rw [if_neg hbt, if_neg k1, if_neg k2, if_pos k3, if_neg (by rw [str_size]; omega), hk]
     simp only [Option.bind_some]
     rw [if_pos (by rw [str_size]; omega), str_drop]
     rfl
    ·rw [hv0, if_pos k3, if_neg h8]
     have hc : chkV ⟨3, 0, lowN (L.take 8), (⟨#[]⟩ : ByteArray)⟩ = 0 := chk_plain (.inr (.inr (.inr rfl))) _ (fun h => absurd h (by decide)) (fun _ _ => rfl) (fun h => absurd rfl h)
     simp only [getSpec]
     rw [if_pos (fitB_of hc (show (3 : Int) ≠ 0 by decide) k3.symm), k3]
  ·cases hv : vr 0 L with
   | none =>
    rw [hv] at hvar
    refine ⟨(c.f1, 0, 0, (⟨#[]⟩ : ByteArray), (⟨#[]⟩ : ByteArray), false), ?_, ?_⟩
    ·refine Ev.dep hvar fun k hk => ?_
     simp only [row_get.j0]
     rw [if_neg hbt, if_neg k1, if_neg k2, if_neg k3, hk]
     simp only [Option.bind_some]
     rw [if_neg (by decide)]
    ·rw [hv0, if_neg k3, hv]; rfl
   | some p =>
    obtain ⟨n, R⟩ := p
    rw [hv] at hvar
    obtain ⟨e1, g2, _, _⟩ := vr_sound 0 L n R hL hv
    have g2' : n < 18446744073709551616 := g2
    have hRl := vr_len 0 L n R hv
    have hws : IntKind.u64.wrap ((strOfNums R).size : Int) = (R.length : Int) := by rw [str_size]; exact u64_wrap_id (by omega) (by omega)
    by_cases hn : R.length < n
    ·refine ⟨(c.f1, 0, 0, (⟨#[]⟩ : ByteArray), (⟨#[]⟩ : ByteArray), false), ?_, ?_⟩
     ·refine Ev.dep hvar fun k hk => ?_
      simp only [row_get.j0]
      rw [if_neg hbt, if_neg k1, if_neg k2, if_neg k3, hk]
      simp only [Option.bind_some]
      rw [if_pos trivial, hws, if_pos (by omega)]
     ·rw [hv0, if_neg k3, hv]
      simp only
      rw [if_neg k2, if_pos hn]; rfl
    ·have hx1 : (strOfNums R).extract 0 (((n : Nat) : Int)).toNat = strOfNums (R.take n) := by
      rw [str_take]; simp
     have hx2 : (strOfNums R).extract (((n : Nat) : Int)).toNat (strOfNums R).size = strOfNums (R.drop n) := str_drop R n
     have hts : (strOfNums (R.take n)).size ≤ 65536 := by rw [str_size, List.length_take]; omega
     have hchk : Ev (fun k => value_Check.f k c.f1 0 0 (strOfNums (R.take n))) (chk c.f1 0 0 (strOfNums (R.take n))) := Ev.from_ 6 fun k => check_code k _ _ _ _ (by omega)
     refine ⟨(c.f1, 0, 0, strOfNums (R.take n), strOfNums (R.drop n), (chk c.f1 0 0 (strOfNums (R.take n)) == 0)), ?_, ?_⟩
     ·refine Ev.dep2 hvar hchk fun k hk hk2 => ?_
      simp only [row_get.j0]
      rw [if_neg hbt, if_neg k1, if_neg k2, if_neg k3, hk]
      simp only [Option.bind_some]
      rw [if_pos trivial, hws, if_neg (by omega), if_pos (by omega), if_pos (by rw [str_size]; omega), hx1, hx2, hk2]
      rfl
     ·rw [hv0, if_neg k3, hv]
      simp only
      rw [if_neg k2, if_neg hn]
      simp only [getSpec]
      by_cases hc : chk c.f1 0 0 (strOfNums (R.take n)) = 0
      ·rw [if_pos (fitB_of (v := ⟨c.f1, 0, 0, strOfNums (R.take n)⟩) hc (show c.f1 ≠ 0 by omega) rfl), hc]; rfl
      ·rw [if_neg (fun h => hc ((fitB_iff (c := c) (v := ⟨c.f1, 0, 0, strOfNums (R.take n)⟩)).1 h).1)]
       simpa using hc
 by_cases h2 : m > 2
 ·obtain ⟨r, hr, hs⟩ := hj true (by simp [h2])
  exact ⟨r, Ev.neg h0 (Ev.pos h2 hr), hs⟩
 by_cases h3 : m = 2
 ·obtain ⟨r, hr, hs⟩ := hj (c.f1 != 1) (by simp [h3])
  exact ⟨r, Ev.neg h0 (Ev.neg h2 (Ev.pos h3 hr)), hs⟩
 ·obtain ⟨r, hr, hs⟩ := hj false (by simp; omega)
  exact ⟨r, Ev.neg h0 (Ev.neg h2 (Ev.neg h3 hr)), hs⟩
abbrev G5' := Int × Int × Nat × ByteArray × Int
def valSpec (len : Nat) (o : Option (S50 × List Int)) (r : G5') : Prop :=
 match o with
 | none => r.2.2.2.2 = -1
 | some (v, R) => r = (v.f0, v.f1, v.f2, v.f3, ((len - R.length : Nat) : Int))
theorem value_ref {kind : Int} (hk : 1 ≤ kind ∧ kind ≤ 5) (m : Int) (hm : 0 ≤ m ∧ m ≤ 3) (L : List Int) (hL : Bytes L) (hlen : L.length ≤ 65536) :
  ∃ r, Ev (fun k => vellumref04_value.f k kind m (strOfNums L)) r ∧ valSpec L.length (valR kind m L) r := by
 simp only [vellumref04_value.f]
 by_cases h0 : m = 0
 ·refine ⟨(0, 0, 0, (⟨#[]⟩ : ByteArray), 0), Ev.pos h0 Ev.pure, ?_⟩
  subst h0
  have hv : valR kind 0 L = some (⟨0, 0, 0, (⟨#[]⟩ : ByteArray)⟩, L) := by simp [valR]
  rw [hv]
  simp only [valSpec, Nat.sub_self]; rfl
 have hj : ∀ b : Bool, (b = true ↔ (kind = 1 ∧ m < 3)) → ∃ r, Ev (fun k => vellumref04_value.j0 k kind m (strOfNums L) b kind 0 0 (⟨#[]⟩ : ByteArray)) r ∧ valSpec L.length (valR kind m L) r := by
  intro b hb
  by_cases hbt : b = true
  ·have hbm := hb.1 hbt
   refine ⟨(kind, m - 1, 0, (⟨#[]⟩ : ByteArray), 0), Ev.from_ 1 fun k => ?_, ?_⟩
   ·simp only [vellumref04_value.j0]; rw [if_pos hbt]
    have : (m - 1) % 256 = m - 1 := by omega
    rw [this]
   ·have hv : valR kind m L = some (⟨1, m - 1, 0, (⟨#[]⟩ : ByteArray)⟩, L) := by
     unfold valR
     rw [if_neg h0, if_pos hbm]
    rw [hv, hbm.1]
    simp only [valSpec, Nat.sub_self]; rfl
  have hbm : ¬ (kind = 1 ∧ m < 3) := fun h => hbt (hb.2 h)
  by_cases h1 : 1 < m
  ·refine ⟨(kind, 0, 0, (⟨#[]⟩ : ByteArray), -1), Ev.from_ 1 fun k => ?_, ?_⟩
   ·simp only [vellumref04_value.j0]; rw [if_neg hbt, if_pos h1]
   ·have hv : valR kind m L = none := by
     unfold valR
     rw [if_neg h0, if_neg hbm, if_pos h1]
    rw [hv]; rfl
  have hv0 : valR kind m L = if kind = 3 then (if L.length < 8 then none else some (⟨3, 0, lowN (L.take 8), (⟨#[]⟩ : ByteArray)⟩, L.drop 8))
    else match vr 0 L with
     | none => none
     | some (n, R) => if kind = 2 then some (⟨2, uz n, 0, (⟨#[]⟩ : ByteArray)⟩, R) else if R.length < n then none else some (⟨kind, 0, 0, strOfNums (R.take n)⟩, R.drop n) := by
   unfold valR
   rw [if_neg h0, if_neg hbm, if_neg h1]
   rfl
  by_cases k3 : kind = 3
  ·by_cases h8 : L.length < 8
   ·refine ⟨(kind, 0, 0, (⟨#[]⟩ : ByteArray), -1), Ev.from_ 1 fun k => ?_, ?_⟩
    ·simp only [vellumref04_value.j0, str_size]
     rw [if_neg hbt, if_neg h1, if_pos k3, if_pos (by omega)]
    ·rw [hv0, if_pos k3, if_pos h8]; rfl
   ·have hlow := value_l0 L hL (by omega) kind 0 0 (⟨#[]⟩ : ByteArray) 8 0 rfl
    refine ⟨(kind, 0, lowN (L.take 8), (⟨#[]⟩ : ByteArray), 8), ?_, ?_⟩
    ·refine Ev.step (fun k => ?_) hlow
     simp only [vellumref04_value.j0]
     rw [if_neg hbt, if_neg h1, if_pos k3, if_neg (by rw [str_size]; omega)]
     rfl
    ·rw [hv0, if_pos k3, if_neg h8, k3]
     simp only [valSpec, List.length_drop]
     have : L.length - (L.length - 8) = 8 := by omega
     rw [this]; rfl
  have hnum := number_ev4 L hL (by omega)
  cases hv : vr 0 L with
  | none =>
   rw [hv] at hnum
   refine ⟨(kind, 0, 0, (⟨#[]⟩ : ByteArray), -1), ?_, ?_⟩
   ·refine Ev.dep hnum fun k hn => ?_
    simp only [vellumref04_value.j0]
    rw [if_neg hbt, if_neg h1, if_neg k3, hn]
    simp only [Option.bind_some]
    rw [if_pos trivial]
   ·rw [hv0, if_neg k3, hv]; rfl
  | some p =>
   obtain ⟨n, R⟩ := p
   rw [hv] at hnum
   obtain ⟨e1, g2, _, _⟩ := vr_sound 0 L n R hL hv
   have g2' : n < 18446744073709551616 := g2
   have hRl := vr_len 0 L n R hv
   have hp : ¬ ((L.length - R.length : Nat) : Int) = 0 := by omega
   by_cases k2 : kind = 2
   ·refine ⟨(kind, uz n, 0, (⟨#[]⟩ : ByteArray), ((L.length - R.length : Nat) : Int)), ?_, ?_⟩
    ·refine Ev.dep hnum fun k hn => ?_
     simp only [vellumref04_value.j0]
     rw [if_neg hbt, if_neg h1, if_neg k3, hn]
     simp only [Option.bind_some]
     have e0 : (n : Int) / 2 = ((n / 2 : Nat) : Int) := by omega
     have e3 : Int.tmod (n : Int) 2 = ((n % 2 : Nat) : Int) := rfl
     rw [if_neg hp, if_pos k2, e0, e3, wrap64_id (n := ((n / 2 : Nat) : Int)) (by omega) (by omega), wrap64_id (n := -((n / 2 : Nat) : Int)) (by omega) (by omega), wrap64_id (by omega) (by omega)]
     unfold uz
     by_cases h2 : n % 2 = 0
     ·rw [if_neg (by omega), if_pos h2]
     ·rw [if_pos (by omega), if_neg h2]
    ·rw [hv0, if_neg k3, hv]
     simp only
     rw [if_pos k2, k2]; rfl
   ·have hsub : True → IntKind.u64.wrap (wrap64 (((strOfNums L).size : Int) - ((L.length - R.length : Nat) : Int))) = (R.length : Int) := fun _ => by rw [str_size, wrap64_id (by omega) (by omega), u64_wrap_id (by omega) (by omega)]; omega
    have hR : R = L.drop (L.length - R.length) := by
     have hl := congrArg List.length e1
     rw [List.length_append] at hl
     have : L.length - R.length = (vb n).length := by omega
     rw [this]
     conv => rhs; rw [e1]
     simp
    by_cases hn : R.length < n
    ·refine ⟨(kind, 0, 0, (⟨#[]⟩ : ByteArray), -1), ?_, ?_⟩
     ·refine Ev.dep hnum fun k hnn => ?_
      simp only [vellumref04_value.j0]
      rw [if_neg hbt, if_neg h1, if_neg k3, hnn]
      simp only [Option.bind_some]
      rw [if_neg hp, if_neg k2, hsub trivial, if_pos (by omega)]
     ·rw [hv0, if_neg k3, hv]
      simp only
      rw [if_neg k2, if_pos hn]; rfl
    ·refine ⟨(kind, 0, 0, strOfNums (R.take n), ((L.length - (R.drop n).length : Nat) : Int)), ?_, ?_⟩
     ·refine Ev.dep hnum fun k hnn => ?_
      have hw1 : True → wrap64 (n : Int) = (n : Int) := fun _ => wrap64_id (by omega) (by omega)
      have hw2 : True → wrap64 (((L.length - R.length : Nat) : Int) + (n : Int)) = ((L.length - (R.drop n).length : Nat) : Int) := fun _ => by rw [wrap64_id (by omega) (by omega), List.length_drop]; omega
      simp only [vellumref04_value.j0]
      rw [if_neg hbt, if_neg h1, if_neg k3, hnn]
      simp only [Option.bind_some]
      rw [if_neg hp, if_neg k2, hsub trivial, if_neg (by omega), hw1 trivial, hw2 trivial]
      rw [if_pos (by omega), if_pos (by rw [List.length_drop]; omega), if_pos (by rw [str_size]; omega)]
      have hx : (strOfNums L).extract ((((L.length - R.length : Nat) : Int))).toNat ((((L.length - (R.drop n).length : Nat) : Int))).toNat = strOfNums (R.take n) := by
       rw [str_take]
       simp only [Int.toNat_natCast]
       rw [← hR, List.length_drop]
       congr 2; omega
      rw [hx]
     ·rw [hv0, if_neg k3, hv]
      simp only
      rw [if_neg k2, if_neg hn]; rfl
 by_cases h1 : kind = 1
 ·obtain ⟨r, hr, hs⟩ := hj (decide (m < 3)) (by simp [h1])
  exact ⟨r, Ev.neg h0 (Ev.pos h1 hr), hs⟩
 ·obtain ⟨r, hr, hs⟩ := hj false (by simp [h1])
  exact ⟨r, Ev.neg h0 (Ev.neg h1 hr), hs⟩
end Go.Proofs.YtpiifdbicibelaaDoor.Pure
end
section
namespace Go.Proofs.YtpiifdbicibelaaDoor.PA
open Go.RowKit Go.Proofs.YtpiifdbicibelaaDoorW.PrintWords Go.Proofs.YtpiifdbicibelaaDoorW.PrintLast Go.Proofs.YtpiifdbicibelaaDoorW.PrintMore
attribute [local go_sem] max2_int min2_int max_two min_two max_three min_three max_four min_four
set_option linter.unusedVariables false
set_option linter.unusedSimpArgs false
end Go.Proofs.YtpiifdbicibelaaDoor.PA
end
section
namespace Go.Proofs.YtpiifdbicibelaaDoor.Pure
open Go.RowKit Go.Proofs Go.Proofs.YtpiifdbicibelaaDoorW.PrintWords Go.Proofs.YtpiifdbicibelaaDoorW.PrintLast Go.Proofs.YtpiifdbicibelaaDoorW.PrintMore Go.Proofs.YtpiifdbicibelaaDoor.PA Go.Proofs.YtpiifdbicibelaaDoor.OpenK
set_option linter.unusedVariables false
set_option linter.unusedSimpArgs false
abbrev R3 := List S50 × ByteArray × Bool
def kindsOf (cs : List S105) : List Int := cs.map fun c => c.f1
def decSpec (cs : List S105) (acc : List S50) (o : Option (List S50 × List Int)) (r : R3) : Prop :=
 match o with
 | none => r.2.2 = false
 | some (vs, R) => if admRow cs vs = 0 then r = (acc ++ vs, strOfNums R, true) else r.2.2 = false
theorem mk_get {H : List Int} {i : Nat} (h : i / 4 < H.length) : mk H i = (H[i / 4] / 4 ^ (i % 4)) % 4 := by
 unfold mk; simp [List.getD, List.getElem?_eq_getElem h]
theorem mark_read {H : List Int} (hH : Bytes H) {i : Nat} (h : i / 4 < H.length) : Go.bits .and .u8 (shr .u8 (bt (strOfNums H) ((i / 4 : Nat) : Int)) ((2 * (i % 4) : Nat) : Int)) 3 = mk H i := by
 rw [str_bt hH (i / 4) h, and3 _ _ (hH _ (List.getElem_mem h)) (Nat.mod_lt _ (by decide)), mk_get h]
theorem rd105_get (cs : List S105) (i : Nat) (h : i < cs.length) : rd_T105 cs (i : Int) = cs[i] := by
 unfold rd_T105; simp [List.getD, List.getElem?_eq_getElem h]
theorem dec_l1 (cs : List S105) (hcs : cs.length ≤ 64) (hk : ∀ c ∈ cs, 1 ≤ c.f1 ∧ c.f1 ≤ 5) (H : List Int) (hH : Bytes H) (hHl : H.length = (cs.length + 3) / 4) : ∀ (m i : Nat) (acc : List S50) (L : List Int), i + m = cs.length → acc.length ≤ i → Bytes L → L.length ≤ 65536 →
  ∃ r, Ev (fun k => row_decode.l1 k (strOfNums L) (strOfNums H) acc cs (cs.length : Int) (i : Int)) r ∧ decSpec (cs.drop i) acc (rowV (kindsOf (cs.drop i)) H i L) r
 | 0, i, acc, L, hm, ha, hL, hlen => by
  refine ⟨(acc, strOfNums L, true), Ev.from_ 1 fun k => ?_, ?_⟩
  ·simp only [row_decode.l1]
   rw [if_neg (by omega)]
  ·rw [List.drop_of_length_le (by omega)]
   show decSpec [] acc (some ([], L)) _
   simp [decSpec, admRow]
 | m + 1, i, acc, L, hm, ha, hL, hlen => by
  have hlt : i < cs.length := by omega
  have hc := hk _ (List.getElem_mem hlt)
  have hdiv : i / 4 < H.length := by omega
  obtain ⟨rg, g1, g2⟩ := get_code (c := cs[i]) hc (mk H i) (mk_range H i) L hL hlen
  have h1 : True → wrap64 ((i : Int) + 1) = ((i + 1 : Nat) : Int) := fun _ => wrap_one i (by omega)
  have h4 : True → wrap64 (Int.tdiv (i : Int) 4) = ((i / 4 : Nat) : Int) := fun _ => by rw [tdiv4]; exact wrap64_id (by omega) (by omega)
  have h2 : True → wrap64 (2 * (Int.tmod (i : Int) 4)) = ((2 * (i % 4) : Nat) : Int) := fun _ => by rw [tmod4, wrap64_id (by omega) (by omega)]; omega
  have hmr := mark_read hH hdiv
  have hds : cs.drop i = cs[i] :: cs.drop (i + 1) := List.drop_eq_getElem_cons hlt
  have step : ∀ k, row_decode.l1 (k + 1) (strOfNums L) (strOfNums H) acc cs (cs.length : Int) (i : Int) = (row_get.f k cs[i].f0 cs[i].f1 cs[i].f2 cs[i].f3.f0 cs[i].f3.f1 cs[i].f3.f2 cs[i].f3.f3 (mk H i) (strOfNums L)).bind fun bt812 => (if bt812.2.2.2.2.2 = true then (if acc.length < 3518437208883 then (row_decode.l1 k bt812.2.2.2.2.1 (strOfNums H) (acc ++ [(⟨bt812.1, bt812.2.1, bt812.2.2.1, bt812.2.2.2.1⟩ : S50)]) cs (cs.length : Int) ((i + 1 : Nat) : Int)) else (none)) else (some (([] : List (S50)), (⟨#[]⟩ : ByteArray), false))) := by
   intro k
   simp only [row_decode.l1, h1 trivial, h4 trivial, h2 trivial, str_size]
   rw [if_pos (by omega), if_pos (by omega), if_pos (by omega), if_pos (by omega), if_pos (by omega), if_pos (by omega), hmr, rd105_get cs i hlt]
  rw [hds]
  have fails : rg.2.2.2.2.2 = false → Ev (fun k => row_decode.l1 k (strOfNums L) (strOfNums H) acc cs (cs.length : Int) (i : Int)) (([] : List (S50)), (⟨#[]⟩ : ByteArray), false) := fun hf =>
   Ev.step step (Ev.bind g1 (Ev.neg (by rw [hf]; decide) Ev.pure))
  simp only [kindsOf, List.map_cons, rowV]
  cases hv : valR cs[i].f1 (mk H i) L with
  | none =>
   rw [hv] at g2
   exact ⟨_, fails g2, rfl⟩
  | some p =>
   obtain ⟨v, R⟩ := p
   rw [hv] at g2
   simp only [getSpec] at g2
   have hR : Bytes R ∧ R.length ≤ 65536 := by
    obtain ⟨e, _⟩ := valR_sound hc (mk_range H i).1 hL hlen hv
    have := valR_len hv
    rw [e] at hL
    exact ⟨hL.app.2, by omega⟩
   by_cases hf : fitB cs[i] v = true
   ·rw [if_pos hf] at g2
    subst g2
    obtain ⟨r, r1, r2⟩ := dec_l1 cs hcs hk H hH hHl m (i + 1) (acc ++ [v]) R (by omega) (by simp; omega) hR.1 hR.2
    refine ⟨r, Ev.step step (Ev.bind g1 (Ev.pos rfl (Ev.pos (by omega) r1))), ?_⟩
    simp only [kindsOf] at r2
    simp only
    cases hw : rowV ((cs.drop (i + 1)).map fun c => c.f1) H (i + 1) R with
    | none => rw [hw] at r2; exact r2
    | some q =>
     obtain ⟨vs, R'⟩ := q
     rw [hw] at r2
     simp only [decSpec] at r2 ⊢
     by_cases ha : admRow (cs.drop (i + 1)) vs = 0
     ·rw [if_pos ha] at r2
      rw [if_pos ((admRow_cons _ _ _ _).2 ⟨hf, ha⟩), r2, List.append_assoc]; rfl
     ·rw [if_neg ha] at r2
      rw [if_neg (fun h => ha ((admRow_cons _ _ _ _).1 h).2)]
      exact r2
   ·rw [if_neg hf] at g2
    refine ⟨_, fails g2, ?_⟩
    simp only
    cases hw : rowV ((cs.drop (i + 1)).map fun c => c.f1) H (i + 1) R with
    | none => rfl
    | some q =>
     obtain ⟨vs, R'⟩ := q
     simp only [decSpec]
     rw [if_neg (fun h => hf ((admRow_cons _ _ _ _).1 h).1)]
     trivial
theorem dec_l0 (cs : List S105) (hcs : cs.length ≤ 64) (H : List Int) (hH : Bytes H) (hHl : H.length = (cs.length + 3) / 4) (L : List Int) (r : R3) (hr : Ev (fun k => row_decode.l1 k (strOfNums L) (strOfNums H) [] cs (cs.length : Int) 0) r) : ∀ (m i : Nat), i + m = 4 * ((cs.length + 3) / 4) →
  Ev (fun k => row_decode.l0 k cs (strOfNums L) (((cs.length + 3) / 4 : Nat) : Int) (strOfNums H) (i : Int)) (if padOk H i m = true then r else (([] : List (S50)), (⟨#[]⟩ : ByteArray), false))
 | 0, i, hm => by
  rw [if_pos (show padOk H i 0 = true from rfl)]
  refine Ev.step (fun k => ?_) hr
  have h4 : True → wrap64 (4 * (((cs.length + 3) / 4 : Nat) : Int)) = ((4 * ((cs.length + 3) / 4) : Nat) : Int) := fun _ => by rw [wrap64_id (by omega) (by omega)]; omega
  simp only [row_decode.l0, h4 trivial]
  rw [if_neg (by omega)]
 | m + 1, i, hm => by
  have hdiv : i / 4 < H.length := by omega
  have h0 : True → wrap64 (4 * (((cs.length + 3) / 4 : Nat) : Int)) = ((4 * ((cs.length + 3) / 4) : Nat) : Int) := fun _ => by rw [wrap64_id (by omega) (by omega)]; omega
  have h1 : True → wrap64 ((i : Int) + 1) = ((i + 1 : Nat) : Int) := fun _ => wrap_one i (by omega)
  have h4 : True → wrap64 (Int.tdiv (i : Int) 4) = ((i / 4 : Nat) : Int) := fun _ => by rw [tdiv4]; exact wrap64_id (by omega) (by omega)
  have h2 : True → wrap64 (2 * (Int.tmod (i : Int) 4)) = ((2 * (i % 4) : Nat) : Int) := fun _ => by rw [tmod4, wrap64_id (by omega) (by omega)]; omega
  have hmr := mark_read hH hdiv
  refine Ev.step (g := fun k => if mk H i = 0 then row_decode.l0 k cs (strOfNums L) (((cs.length + 3) / 4 : Nat) : Int) (strOfNums H) ((i + 1 : Nat) : Int) else some (([] : List (S50)), (⟨#[]⟩ : ByteArray), false)) (fun k => ?_) ?_
  ·simp only [row_decode.l0, h0 trivial, h1 trivial, h4 trivial, h2 trivial, str_size]
   rw [if_pos (by omega), if_pos (by omega), if_pos (by omega), if_pos (by omega), hmr]
  ·have ih := dec_l0 cs hcs H hH hHl L r hr m (i + 1) (by omega)
   by_cases hz : mk H i = 0
   ·refine Ev.pos hz ?_
    have e : padOk H i (m + 1) = padOk H (i + 1) m := by
     show (mk H i == 0 && padOk H (i + 1) m) = _
     rw [hz]; rfl
    rw [e]; exact ih
   ·refine Ev.neg hz ?_
    have hz2 : (mk H i == 0) = false := by simpa using hz
    have e : padOk H i (m + 1) = false := by
     show (mk H i == 0 && padOk H (i + 1) m) = _
     rw [hz2]; rfl
    rw [if_neg (by rw [e]; decide)]; exact Ev.pure
theorem decode_ev4 (cs : List S105) (hcs : cs.length ≤ 64) (hk : ∀ c ∈ cs, 1 ≤ c.f1 ∧ c.f1 ≤ 5) (L : List Int) (hL : Bytes L) (hlen : L.length ≤ 65536) :
  ∃ r, Ev (fun k => row_decode.f k cs (strOfNums L)) r ∧ decSpec cs [] (rowR (kindsOf cs) L) r := by
 have e1 : wrap64 (Int.tdiv (wrap64 ((wrap64 (2 * (cs.length : Int))) + 7)) 8) = (((cs.length + 3) / 4 : Nat) : Int) := by
  rw [wrap64_id (n := 2 * (cs.length : Int)) (by omega) (by omega), wrap64_id (n := 2 * (cs.length : Int) + 7) (by omega) (by omega)]
  have e : Int.tdiv (2 * (cs.length : Int) + 7) 8 = (((2 * cs.length + 7) / 8 : Nat) : Int) := rfl
  rw [e, wrap64_id (by omega) (by omega)]; omega
 have hkl : (kindsOf cs).length = cs.length := by simp [kindsOf]
 simp only [row_decode.f, e1, str_size, rowR, hkl]
 by_cases hn : L.length < (cs.length + 3) / 4
 ·rw [if_pos hn]
  exact ⟨_, Ev.pos (by omega) Ev.pure, rfl⟩
 ·rw [if_neg hn]
  have hH : Bytes (L.take ((cs.length + 3) / 4)) := hL.take _
  have hHl : (L.take ((cs.length + 3) / 4)).length = (cs.length + 3) / 4 := by rw [List.length_take]; omega
  have hD : Bytes (L.drop ((cs.length + 3) / 4)) := hL.drop _
  have x1 : (strOfNums L).extract ((((cs.length + 3) / 4 : Nat) : Int)).toNat L.length = strOfNums (L.drop ((cs.length + 3) / 4)) := str_drop' L _
  have x2 : (strOfNums L).extract 0 ((((cs.length + 3) / 4 : Nat) : Int)).toNat = strOfNums (L.take ((cs.length + 3) / 4)) := by
   rw [str_take, Int.toNat_natCast]; rfl
  obtain ⟨r, r1, r2⟩ := dec_l1 cs hcs hk _ hH hHl cs.length 0 [] _ (by omega) (by simp) hD (by rw [List.length_drop]; omega)
  have h0 := dec_l0 cs hcs _ hH hHl _ r r1 (4 * ((cs.length + 3) / 4) - cs.length) cs.length (by omega)
  refine ⟨_, Ev.neg (by omega) (Ev.pos (by omega) (Ev.pos (by omega) (by rw [x1, x2]; exact h0))), ?_⟩
  by_cases hp : padOk (L.take ((cs.length + 3) / 4)) cs.length (4 * ((cs.length + 3) / 4) - cs.length) = true
  ·rw [if_pos hp, if_pos hp]
   simpa using r2
  ·rw [if_neg hp, if_neg hp]; rfl
def valsSpec (len : Nat) (acc : List S50) (o : Option (List S50 × List Int)) (r : List S50 × Int) : Prop :=
 match o with
 | none => r = ([], -1)
 | some (vs, R) => r = (acc ++ vs, ((len - R.length : Nat) : Int)) ∧ R.length ≤ len
theorem rdk_get {ks : List Int} {i : Nat} (h : i < ks.length) : rd ks (i : Int) = ks[i] := rd_int h
theorem mk_take {L : List Int} {n i : Nat} (h : i / 4 < n) : mk (L.take n) i = mk L i := by
 unfold mk
 have : (L.take n).getD (i / 4) 0 = L.getD (i / 4) 0 := by
  simp only [List.getD, List.getElem?_take, if_pos h]
 rw [this]
theorem mark_read' {L : List Int} (hL : Bytes L) {i n : Nat} (h : i / 4 < n) (hn : n ≤ L.length) : Go.bits .and .u8 (shr .u8 (bt (strOfNums L) ((i / 4 : Nat) : Int)) ((2 * (i % 4) : Nat) : Int)) 3 = mk (L.take n) i := by
 rw [mk_take h]
 exact mark_read hL (by omega)
theorem valR_rest {kind m : Int} {L : List Int} {v : S50} {R : List Int} (hk : 1 ≤ kind ∧ kind ≤ 5) (hm : 0 ≤ m) (hL : Bytes L) (hlen : L.length ≤ 65536) (h : valR kind m L = some (v, R)) : R = L.drop (L.length - R.length) := by
 obtain ⟨e, _⟩ := valR_sound hk hm hL hlen h
 have hl := congrArg List.length e
 rw [List.length_append] at hl
 have e2 : L.length - R.length = (toldB v).length := by omega
 rw [e2]
 conv => rhs; rw [e]
 simp
theorem vals_l1 (ks : List Int) (hks : ks.length ≤ 64) (hk : ∀ k ∈ ks, 1 ≤ k ∧ k ≤ 5) (L : List Int) (hL : Bytes L) (hlen : L.length ≤ 65536) (hn : (ks.length + 3) / 4 ≤ L.length) : ∀ (m i : Nat) (acc : List S50) (at_ : Nat), i + m = ks.length → acc.length ≤ i → at_ ≤ L.length →
  ∃ r, Ev (fun k => vellumref04_values.l1 k ks (strOfNums L) (at_ : Int) acc (i : Int)) r ∧ valsSpec L.length acc (rowV (ks.drop i) (L.take ((ks.length + 3) / 4)) i (L.drop at_)) r
 | 0, i, acc, at_, hm, ha, hat => by
  refine ⟨(acc, (at_ : Int)), Ev.from_ 1 fun k => ?_, ?_⟩
  ·simp only [vellumref04_values.l1]
   rw [if_neg (by omega)]
  ·rw [List.drop_of_length_le (by omega)]
   simp only [rowV, valsSpec, List.append_nil, List.length_drop]
   have : L.length - (L.length - at_) = at_ := by omega
   rw [this]
   exact ⟨rfl, by omega⟩
 | m + 1, i, acc, at_, hm, ha, hat => by
  have hlt : i < ks.length := by omega
  have hc := hk _ (List.getElem_mem hlt)
  have hD : Bytes (L.drop at_) := hL.drop _
  have hdl : (L.drop at_).length = L.length - at_ := List.length_drop
  obtain ⟨rg, g1, g2⟩ := value_ref (kind := ks[i]) hc (mk (L.take ((ks.length + 3) / 4)) i) (mk_range _ i) (L.drop at_) hD (by omega)
  have h1 : True → wrap64 ((i : Int) + 1) = ((i + 1 : Nat) : Int) := fun _ => wrap_one i (by omega)
  have h4 : True → wrap64 (Int.tdiv (i : Int) 4) = ((i / 4 : Nat) : Int) := fun _ => by rw [tdiv4]; exact wrap64_id (by omega) (by omega)
  have h2 : True → IntKind.u64.wrap (wrap64 ((Int.tmod (i : Int) 4) * 2)) = ((2 * (i % 4) : Nat) : Int) := fun _ => by rw [tmod4, wrap64_id (by omega) (by omega), u64_wrap_id (by omega) (by omega)]; omega
  have hmr := mark_read' (L := L) (i := i) (n := (ks.length + 3) / 4) hL (by omega) hn
  have hx : (strOfNums L).extract (((at_ : Nat) : Int)).toNat L.length = strOfNums (L.drop at_) := str_drop' L at_
  have step : ∀ k, vellumref04_values.l1 (k + 1) ks (strOfNums L) (at_ : Int) acc (i : Int) = (vellumref04_value.f k ks[i] (mk (L.take ((ks.length + 3) / 4)) i) (strOfNums (L.drop at_))).bind fun bt834 => (if bt834.2.2.2.2 < 0 then (some (([] : List (S50)), (-1))) else (if acc.length < 3518437208883 then (vellumref04_values.l1 k ks (strOfNums L) (wrap64 ((at_ : Int) + bt834.2.2.2.2)) (acc ++ [(⟨bt834.1, bt834.2.1, bt834.2.2.1, bt834.2.2.2.1⟩ : S50)]) ((i + 1 : Nat) : Int)) else (none))) := by
   intro k
   simp only [vellumref04_values.l1, h1 trivial, h4 trivial, h2 trivial, str_size]
   rw [if_pos (by omega), if_pos (by omega), if_pos (by omega), if_pos (by omega), if_pos (by omega), if_pos (by omega), if_pos (by omega), hmr, hx, rdk_get hlt]
  rw [List.drop_eq_getElem_cons hlt]
  simp only [rowV]
  cases hv : valR ks[i] (mk (L.take ((ks.length + 3) / 4)) i) (L.drop at_) with
  | none =>
   rw [hv] at g2
   refine ⟨_, Ev.step step (Ev.bind g1 (Ev.pos (by rw [show rg.2.2.2.2 = -1 from g2]; decide) Ev.pure)), rfl⟩
  | some p =>
   obtain ⟨v, R⟩ := p
   rw [hv] at g2
   have g2 : rg = _ := g2
   subst g2
   have hR := valR_rest hc (mk_range _ i).1 hD (by omega) hv
   have hRl := valR_len hv
   have e1 : True → wrap64 ((at_ : Int) + (((L.drop at_).length - R.length : Nat) : Int)) = ((at_ + ((L.drop at_).length - R.length) : Nat) : Int) := fun _ => by rw [wrap64_id (by omega) (by omega)]; omega
   have hR2 : L.drop (at_ + ((L.drop at_).length - R.length)) = R := by
    rw [← List.drop_drop, ← hR]
   obtain ⟨r, r1, r2⟩ := vals_l1 ks hks hk L hL hlen hn m (i + 1) (acc ++ [v]) (at_ + ((L.drop at_).length - R.length)) (by omega) (by simp; omega) (by omega)
   rw [hR2] at r2
   refine ⟨r, Ev.step step (Ev.bind g1 (Ev.neg (by show ¬ (((L.drop at_).length - R.length : Nat) : Int) < 0; omega) (Ev.pos (by omega) ?_))), ?_⟩
   ·simp only [e1 trivial]
    exact r1
   ·simp only
    cases hw : rowV (ks.drop (i + 1)) (L.take ((ks.length + 3) / 4)) (i + 1) R with
    | none => rw [hw] at r2; exact r2
    | some q =>
     obtain ⟨vs, R'⟩ := q
     rw [hw] at r2
     simp only [valsSpec] at r2 ⊢
     rw [r2.1, List.append_assoc]
     exact ⟨rfl, r2.2⟩
theorem vals_l0 (ks : List Int) (hks : ks.length ≤ 64) (L : List Int) (hL : Bytes L) (hlen : L.length ≤ 65536) (hn : (ks.length + 3) / 4 ≤ L.length) (r : List S50 × Int) (hr : Ev (fun k => vellumref04_values.l1 k ks (strOfNums L) (((ks.length + 3) / 4 : Nat) : Int) [] 0) r) : ∀ (m i : Nat), i + m = 4 * ((ks.length + 3) / 4) →
  Ev (fun k => vellumref04_values.l0 k ks (strOfNums L) (((ks.length + 3) / 4 : Nat) : Int) (i : Int)) (if padOk (L.take ((ks.length + 3) / 4)) i m = true then r else (([] : List (S50)), -1))
 | 0, i, hm => by
  rw [if_pos (show padOk (L.take ((ks.length + 3) / 4)) i 0 = true from rfl)]
  refine Ev.step (fun k => ?_) hr
  have h4 : True → wrap64 (4 * (((ks.length + 3) / 4 : Nat) : Int)) = ((4 * ((ks.length + 3) / 4) : Nat) : Int) := fun _ => by rw [wrap64_id (by omega) (by omega)]; omega
  simp only [vellumref04_values.l0, h4 trivial]
  rw [if_neg (by omega)]
 | m + 1, i, hm => by
  have h0 : True → wrap64 (4 * (((ks.length + 3) / 4 : Nat) : Int)) = ((4 * ((ks.length + 3) / 4) : Nat) : Int) := fun _ => by rw [wrap64_id (by omega) (by omega)]; omega
  have h1 : True → wrap64 ((i : Int) + 1) = ((i + 1 : Nat) : Int) := fun _ => wrap_one i (by omega)
  have h4 : True → wrap64 (Int.tdiv (i : Int) 4) = ((i / 4 : Nat) : Int) := fun _ => by rw [tdiv4]; exact wrap64_id (by omega) (by omega)
  have h2 : True → IntKind.u64.wrap (wrap64 ((Int.tmod (i : Int) 4) * 2)) = ((2 * (i % 4) : Nat) : Int) := fun _ => by rw [tmod4, wrap64_id (by omega) (by omega), u64_wrap_id (by omega) (by omega)]; omega
  have hmr := mark_read' (L := L) (i := i) (n := (ks.length + 3) / 4) hL (by omega) hn
  refine Ev.step (g := fun k => if mk (L.take ((ks.length + 3) / 4)) i = 0 then vellumref04_values.l0 k ks (strOfNums L) (((ks.length + 3) / 4 : Nat) : Int) ((i + 1 : Nat) : Int) else some (([] : List (S50)), -1)) (fun k => ?_) ?_
  ·simp only [vellumref04_values.l0, h0 trivial, h1 trivial, h4 trivial, h2 trivial, str_size]
   rw [if_pos (by omega), if_pos (by omega), if_pos (by omega), if_pos (by omega), hmr]
  ·have ih := vals_l0 ks hks L hL hlen hn r hr m (i + 1) (by omega)
   by_cases hz : mk (L.take ((ks.length + 3) / 4)) i = 0
   ·refine Ev.pos hz ?_
    have e : padOk (L.take ((ks.length + 3) / 4)) i (m + 1) = padOk (L.take ((ks.length + 3) / 4)) (i + 1) m := by
     show (mk (L.take ((ks.length + 3) / 4)) i == 0 && padOk (L.take ((ks.length + 3) / 4)) (i + 1) m) = _
     rw [hz]; rfl
    rw [e]; exact ih
   ·refine Ev.neg hz ?_
    have hz2 : (mk (L.take ((ks.length + 3) / 4)) i == 0) = false := by simpa using hz
    have e : padOk (L.take ((ks.length + 3) / 4)) i (m + 1) = false := by
     show (mk (L.take ((ks.length + 3) / 4)) i == 0 && padOk (L.take ((ks.length + 3) / 4)) (i + 1) m) = _
     rw [hz2]; rfl
    rw [if_neg (by rw [e]; decide)]; exact Ev.pure
theorem values_ev (ks : List Int) (hks : ks.length ≤ 64) (hk : ∀ k ∈ ks, 1 ≤ k ∧ k ≤ 5) (L : List Int) (hL : Bytes L) (hlen : L.length ≤ 65536) :
  ∃ r, Ev (fun k => vellumref04_values.f k ks (strOfNums L)) r ∧ valsSpec L.length [] (rowR ks L) r := by
 have e1 : wrap64 (Int.tdiv (wrap64 ((ks.length : Int) + 3)) 4) = (((ks.length + 3) / 4 : Nat) : Int) := by
  rw [wrap64_id (n := (ks.length : Int) + 3) (by omega) (by omega)]
  have e : Int.tdiv ((ks.length : Int) + 3) 4 = (((ks.length + 3) / 4 : Nat) : Int) := rfl
  rw [e, wrap64_id (by omega) (by omega)]
 simp only [vellumref04_values.f, e1, str_size, rowR]
 by_cases hn : L.length < (ks.length + 3) / 4
 ·rw [if_pos hn]
  exact ⟨_, Ev.pos (by omega) Ev.pure, rfl⟩
 ·rw [if_neg hn]
  obtain ⟨r, r1, r2⟩ := vals_l1 ks hks hk L hL hlen (by omega) ks.length 0 [] ((ks.length + 3) / 4) (by omega) (by simp) (by omega)
  have h0 := vals_l0 ks hks L hL hlen (by omega) r r1 (4 * ((ks.length + 3) / 4) - ks.length) ks.length (by omega)
  refine ⟨_, Ev.neg (by omega) h0, ?_⟩
  by_cases hp : padOk (L.take ((ks.length + 3) / 4)) ks.length (4 * ((ks.length + 3) / 4) - ks.length) = true
  ·rw [if_pos hp, if_pos hp]
   simpa using r2
  ·rw [if_neg hp, if_neg hp]; rfl
theorem str_empty {R : List Int} : (strOfNums R).toList = ([] : List UInt8) ↔ R = [] := by
 rw [Lib.toList_data, strOfNums_data]
 simp [toB]
theorem sameL_self : ∀ xs : List S50, sameL xs xs = true
 | [] => rfl
 | x :: xs => by simp [sameL, sameL_self xs, smB_iff.2 rfl]
end Go.Proofs.YtpiifdbicibelaaDoor.Pure
end
