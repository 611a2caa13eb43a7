/- RowChanges: the law returns true at every input, and its arguments read as before. Conditions: as the row has them (the listed tables as the program's text lays them). -/
import Derived.Test.YtpiifdbicibelaaDoorKRowChanges3
section
namespace Go.Proofs.YtpiifdbicibelaaDoor.PA
open Go.RowKit Go.Proofs.YtpiifdbicibelaaDoorW.PrintWords Go.Proofs.YtpiifdbicibelaaDoorW.PrintLast Go.Proofs.YtpiifdbicibelaaDoorW.PrintMore
attribute [local go_sem] max2_int min2_int max_two min_two max_three min_three max_four min_four
set_option linter.unusedVariables false
set_option linter.unusedSimpArgs false
def vellumref04_Change.l0 : Nat → List (S50) → List (S50) → List Int → Int → Int → Option (ByteArray × Int)
  | 0, _, _, _, _, _ => none
  | k + 1, x1, x2, x10, x11, x12 => if x12 < (x1.length : Int) then (if 0 ≤ x12 then (if x12 < (x2.length : Int) then ((vellumref01_Same.f ((rd_T50 x1 x12).f0) ((rd_T50 x1 x12).f1) ((rd_T50 x1 x12).f2) ((rd_T50 x1 x12).f3) ((rd_T50 x2 x12).f0) ((rd_T50 x2 x12).f1) ((rd_T50 x2 x12).f2) ((rd_T50 x2 x12).f3)).bind fun t770 => (if t770 = true then (vellumref04_Change.l0 k x1 x2 x10 x11 (wrap64 (x12 + 1))) else ((vellumref04_varint.f k (IntKind.u64.wrap (wrap64 ((wrap64 (x12 - x11)) - 1)))).bind fun t771 => (if x10.length + t771.length < 140737488355328 then ((some (x10 ++ t771 : List Int)).bind fun y774 => (if x12 ≤ (wrap64 (x12 + 1)) then (if (wrap64 (x12 + 1)) ≤ (x2.length : Int) then ((vellumref04_bytesOf.f k ((x2.take ((wrap64 (x12 + 1)) : Int).toNat).drop (x12 : Int).toNat)).bind fun t781 => (if y774.length + t781.length < 140737488355328 then ((some (y774 ++ t781 : List Int)).bind fun y784 => (if (y784.length : Int) > 65536 then (some ((⟨#[]⟩ : ByteArray), 3)) else (vellumref04_Change.l0 k x1 x2 y784 x12 (wrap64 (x12 + 1))))) else (none))) else (none)) else (none))) else (none))))) else (none)) else (none)) else (some (strOfNums x10, 0))
def vellumref04_Change.f (k : Nat) (a0_0 : ByteArray) (l0_1 : List (S105)) (l0_2 : List Int) (l0_3 : List (S115)) (l0_4 : List (S139)) (l1 : List (S50)) (l2 : List (S50)) : Option (ByteArray × Int) := (vellumref03_Admits.f k a0_0 l0_1 l0_2 l0_3 l0_4 l1).bind fun t766 => ((vellumref03_Admits.f k a0_0 l0_1 l0_2 l0_3 l0_4 l2).bind fun t767 => (if t766 = 0 then (if t767 = 0 then (vellumref04_Change.l0 k l1 l2 ([] : List Int) (-1) 0) else (some ((⟨#[]⟩ : ByteArray), t767))) else (some ((⟨#[]⟩ : ByteArray), t766))))
def vellumref04_Change.T12 : Bool × List (List Nat × List Nat) := (true, [([], []), ([], []), ([0, 1], [0, 1]), ([2], [2]), ([], []), ([], []), ([4, 5], [4, 5]), ([6], [6]), ([3, 7], [3, 7])])
def vellumref04_Change.B12 : List Nat := [0, 0, 3, 7, 0, 0, 48, 112, 255]
theorem vellumref04_Change.tab12 : rtab .any (opsOf Tryd.f56 12) = vellumref04_Change.T12 := by kernel_rfl
theorem vellumref04_Change.bits12 : waitsOk vellumref04_Change.T12.2 vellumref04_Change.B12 = true := by kernel_rfl
set_option maxHeartbeats 8000000 in
set_option maxRecDepth 100000 in
theorem vellumref04_Change.calls (k : Nat) (a0_0 : ByteArray) (A0_1 : Option Addr) (c0_1 : Nat) (l0_1 : List (S105)) (A0_2 : Option Addr) (c0_2 : Nat) (l0_2 : List Int) (A0_3 : Option Addr) (c0_3 : Nat) (l0_3 : List (S115)) (A0_4 : Option Addr) (c0_4 : Nat) (l0_4 : List (S139)) (A1 : Option Addr) (c1 : Nat) (l1 : List (S50)) (A2 : Option Addr) (c2 : Nat) (l2 : List (S50)) (r1 : ByteArray) (r2 : Int) (w : World) (hr0_1 : Kd.C k105 w A0_1 l0_1.length l0_1) (hc0_1 : l0_1.length ≤ c0_1) (hr0_2 : Kd.C (Kd.int .i64) w A0_2 l0_2.length l0_2) (hc0_2 : l0_2.length ≤ c0_2) (hr0_3 : Kd.C k115 w A0_3 l0_3.length l0_3) (hc0_3 : l0_3.length ≤ c0_3) (hr0_4 : Kd.C k139 w A0_4 l0_4.length l0_4) (hc0_4 : l0_4.length ≤ c0_4) (hr1 : Kd.C k50 w A1 l1.length l1) (hc1 : l1.length ≤ c1) (hr2 : Kd.C k50 w A2 l2.length l2) (hc2 : l2.length ≤ c2) (hG : Glob w) (h : vellumref04_Change.f k a0_0 l0_1 l0_2 l0_3 l0_4 l1 l2 = some (r1, r2)) :
    Calls Tryd.prog 56 #[.agg #[.string a0_0, .slice A0_1 l0_1.length c0_1, .slice A0_2 l0_2.length c0_2, .slice A0_3 l0_3.length c0_3, .slice A0_4 l0_4.length c0_4], .slice A1 l1.length c1, .slice A2 l2.length c2] w fun e w' => e = .returned (.tuple #[.string r1, .int .i64 r2]) ∧ Below w.heap.size w w' := by
  have hu65 := Tryd.underlying65
  have hu50 := Tryd.underlying50
  have HR0_1 := am hr0_1
  have HC0_1 := am hc0_1
  clear hr0_1 hc0_1
  have HR0_2 := am hr0_2
  have HC0_2 := am hc0_2
  clear hr0_2 hc0_2
  have HR0_3 := am hr0_3
  have HC0_3 := am hc0_3
  clear hr0_3 hc0_3
  have HR0_4 := am hr0_4
  have HC0_4 := am hc0_4
  clear hr0_4 hc0_4
  have HR1 := am hr1
  have HC1 := am hc1
  clear hr1 hc1
  have HR2 := am hr2
  have HC2 := am hc2
  clear hr2 hc2
  have HG := am hG
  clear hG
  have HB := am (Below.refl w.heap.size w)
  have H : ((vellumref03_Admits.f k a0_0 l0_1 l0_2 l0_3 l0_4 l1).bind fun t766 => ((vellumref03_Admits.f k a0_0 l0_1 l0_2 l0_3 l0_4 l2).bind fun t767 => (if t766 = 0 then (if t767 = 0 then (vellumref04_Change.l0 k l1 l2 ([] : List Int) (-1) 0) else (some ((⟨#[]⟩ : ByteArray), t767))) else (some ((⟨#[]⟩ : ByteArray), t766))))) = some (r1, r2) := h
  clear h
  replace H := Option.bind_eq_some_iff.mp H
  obtain ⟨t766, A40, H⟩ := H
  replace H : ((vellumref03_Admits.f k a0_0 l0_1 l0_2 l0_3 l0_4 l2).bind fun t767 => (if t766 = 0 then (if t767 = 0 then (vellumref04_Change.l0 k l1 l2 ([] : List Int) (-1) 0) else (some ((⟨#[]⟩ : ByteArray), t767))) else (some ((⟨#[]⟩ : ByteArray), t766)))) = some (r1, r2) := H
  have A4 := am A40
  clear A40
  replace H := Option.bind_eq_some_iff.mp H
  obtain ⟨t767, A50, H⟩ := H
  replace H : (if t766 = 0 then (if t767 = 0 then (vellumref04_Change.l0 k l1 l2 ([] : List Int) (-1) 0) else (some ((⟨#[]⟩ : ByteArray), t767))) else (some ((⟨#[]⟩ : ByteArray), t766))) = some (r1, r2) := H
  have A5 := am A50
  clear A50
  by_cases c6 : t766 = 0
  · rw [if_pos c6] at H
    have c6b0 : (t766 == 0) = true := beq_iff_eq.mpr c6
    have c6b1 : (t766 != 0) = false := bne_eq_false_iff_eq.mpr c6
    clear c6
    by_cases c7 : t767 = 0
    · rw [if_pos c7] at H
      have c7b0 : (t767 == 0) = true := beq_iff_eq.mpr c7
      have c7b1 : (t767 != 0) = false := bne_eq_false_iff_eq.mpr c7
      clear c7
      have H' := am H
      clear H
      go_enter Tryd.func56, Tryd.ntmps56
      go_wp2_with (first | ((with_reducible refine gate_dst (N := 3) rfl ?_); refine box_event rfl (N := 3) rfl (cs := #[.string a0_0, .slice A0_1 l0_1.length c0_1, .slice A0_2 l0_2.length c0_2, .slice A0_3 l0_3.length c0_3, .slice A0_4 l0_4.length c0_4]) (t := 65) gs ?_; intro gb765 hg w8 hbox hb; have BK765 := am (hbox); have GW765 := gw hg HB; have GE765 := gw hg HB; replace HB := sb HB hb; clear hb hbox hg; obtain ⟨Z9_0, Z9_1, Z9_2, Z9_3, Z9_4, Y9_0, Y9_1, Y9_2, Y9_3, Y9_4⟩ := bq5 BK765) | ((with_reducible refine gate_callee (f := 85) rfl ?_); refine goesL_ (some 15) rfl rfl Tryd.func85 (by kernel_rfl) rfl #[.agg #[.string a0_0, .slice A0_1 l0_1.length c0_1, .slice A0_2 l0_2.length c0_2, .slice A0_3 l0_3.length c0_3, .slice A0_4 l0_4.length c0_4], .slice A1 l1.length c1] rfl ar ?_; (with_reducible refine (vellumref03_Admits.calls k a0_0 _ _ l0_1 _ _ l0_2 _ _ l0_3 _ _ l0_4 _ _ l1 t766 _ (Kd.cb HR0_1 HB) HC0_1.out (Kd.cb HR0_2 HB) HC0_2.out (Kd.cb HR0_3 HB) HC0_3.out (Kd.cb HR0_4 HB) HC0_4.out (Kd.cb HR1 HB) HC1.out (Glob.below HG.out (bl HB)) A4.out).mono ?_); rintro e w10 ⟨rfl, hb⟩; refine ⟨_, rfl, ?_⟩; replace BK765 := kb BK765 hb; replace HB := sb HB hb; (try clear hb); (try clear hb2 hk hi); obtain ⟨Z11_0, Z11_1, Z11_2, Z11_3, Z11_4, Y11_0, Y11_1, Y11_2, Y11_3, Y11_4⟩ := bq5 BK765) | ((with_reducible refine gate_callee (f := 85) rfl ?_); refine goesL_ (some 18) rfl rfl Tryd.func85 (by kernel_rfl) rfl #[.agg #[.string a0_0, .slice A0_1 l0_1.length c0_1, .slice A0_2 l0_2.length c0_2, .slice A0_3 l0_3.length c0_3, .slice A0_4 l0_4.length c0_4], .slice A2 l2.length c2] rfl ar ?_; (with_reducible refine (vellumref03_Admits.calls k a0_0 _ _ l0_1 _ _ l0_2 _ _ l0_3 _ _ l0_4 _ _ l2 t767 _ (Kd.cb HR0_1 HB) HC0_1.out (Kd.cb HR0_2 HB) HC0_2.out (Kd.cb HR0_3 HB) HC0_3.out (Kd.cb HR0_4 HB) HC0_4.out (Kd.cb HR2 HB) HC2.out (Glob.below HG.out (bl HB)) A5.out).mono ?_); rintro e w12 ⟨rfl, hb⟩; refine ⟨_, rfl, ?_⟩; replace BK765 := kb BK765 hb; replace HB := sb HB hb; (try clear hb); (try clear hb2 hk hi)))
      go_loopg [10, 11, 12] k (fun kq v10 v11 v12 w' => ∃ (x10_1 : List Int) (x11_1 : Int) (x12_1 : Int), v11 = .int .i64 x11_1 ∧ v12 = .int .i64 x12_1 ∧ Aside0 (vellumref04_Change.l0 kq l1 l2 x10_1 x11_1 x12_1 = some (r1, r2)) ∧ Aside0 (kq ≤ k) ∧ Aside0 (Kd.R (Kd.int .u8) 5 w' w.heap.size (fun _ => True) v10 x10_1) ∧ Aside0 (w'.heap[gb765]? = some (.cells #[.string a0_0, (.slice A0_1 l0_1.length c0_1), (.slice A0_2 l0_2.length c0_2), (.slice A0_3 l0_3.length c0_3), (.slice A0_4 l0_4.length c0_4)] 65 (0, 0))) ∧ Aside0 (Below w.heap.size w w'))
      case atStart => exact ⟨(([] : List Int)), ((-1)), (0), eb, eb, H', ⟨Nat.le_refl _⟩, ⟨by first | exact Kd.R_nil _ _ _ _ _ | exact Kd.N_nil _ _ _ _ _ | exact Kd.V_nil _ _ _ _ _ | exact Kd.Q_nil _ _ _ _ _ | exact Kd.S_nil _ _ _ _ _⟩, ⟨bk BK765⟩, ⟨bl HB⟩⟩
      case round =>
        clear H'
        try clear c1
        try clear c2
        try clear p2
        try clear c5
        try clear c6
        try clear c6b0
        try clear c6b1
        try clear c7
        try clear c7b0
        try clear c7b1
        try clear c8
        try clear Z11_0
        try clear Z11_1
        try clear Z11_2
        try clear Z11_3
        try clear Z11_4
        try clear Z9_0
        try clear Z9_1
        try clear Z9_2
        try clear Z9_3
        try clear Z9_4
        try clear Y11_0
        try clear Y11_1
        try clear Y11_2
        try clear Y11_3
        try clear Y11_4
        try clear Y9_0
        try clear Y9_1
        try clear Y9_2
        try clear Y9_3
        try clear Y9_4
        obtain ⟨x10_1, x11_1, x12_1, rfl, rfl, HA, HK1, HO_10, BK765, HB⟩ := hrel
        cases gk with
        | zero => exact absurd HA.out (by simp [vellumref04_Change.l0])
        | succ k1 =>
          have H := HA.out
          clear HA
          simp only [vellumref04_Change.l0] at H
          by_cases c13 : x12_1 < (l1.length : Int)
          · rw [if_pos c13] at H
            have c13b0 : decide (x12_1 < (l1.length : Int)) = true := decide_eq_true c13
            clear c13
            by_cases c14 : 0 ≤ x12_1
            · rw [if_pos c14] at H
              have c14b0 : decide (0 ≤ x12_1) = true := decide_eq_true c14
              clear c14
              by_cases c15 : x12_1 < (l2.length : Int)
              · rw [if_pos c15] at H
                have c15b0 : decide (x12_1 < (l2.length : Int)) = true := decide_eq_true c15
                clear c15
                replace H := Option.bind_eq_some_iff.mp H
                obtain ⟨t770, A160, H⟩ := H
                replace H : (if t770 = true then (vellumref04_Change.l0 k1 l1 l2 x10_1 x11_1 (wrap64 (x12_1 + 1))) else ((vellumref04_varint.f k1 (IntKind.u64.wrap (wrap64 ((wrap64 (x12_1 - x11_1)) - 1)))).bind fun t771 => (if x10_1.length + t771.length < 140737488355328 then ((some (x10_1 ++ t771 : List Int)).bind fun y774 => (if x12_1 ≤ (wrap64 (x12_1 + 1)) then (if (wrap64 (x12_1 + 1)) ≤ (l2.length : Int) then ((vellumref04_bytesOf.f k1 ((l2.take ((wrap64 (x12_1 + 1)) : Int).toNat).drop (x12_1 : Int).toNat)).bind fun t781 => (if y774.length + t781.length < 140737488355328 then ((some (y774 ++ t781 : List Int)).bind fun y784 => (if (y784.length : Int) > 65536 then (some ((⟨#[]⟩ : ByteArray), 3)) else (vellumref04_Change.l0 k1 l1 l2 y784 x12_1 (wrap64 (x12_1 + 1))))) else (none))) else (none)) else (none))) else (none)))) = some (r1, r2) := H
                have A16 := am A160
                clear A160
                by_cases c17 : t770 = true
                · subst c17
                  have H1 : (vellumref04_Change.l0 k1 l1 l2 x10_1 x11_1 (wrap64 (x12_1 + 1))) = some (r1, r2) := by rw [if_pos rfl] at H; exact H
                  clear H
                  have H := H1
                  clear H1
                  have H' := am H
                  clear H
                  try go_wp2
                  have n0_ := am (Kd.R_drew HO_10.out)
                  have n1_ := am (blk_drew BK765.out)
                  have n2_ := am (below_drew1 HB.out)
                  clear HO_10
                  clear BK765
                  clear HB
                  have HO_10 := n0_
                  have BK765 := n1_
                  have HB := n2_
                  clear n0_ n1_ n2_
                  have p768 : 0 ≤ (x12_1 : Int) := oda
                  have q768 : x12_1 < (l1.length : Int) := oda
                  obtain ⟨ad768, e768, hx768_0, hx768_1, hx768_2, hx768_3⟩ := at_T50 HR1.out x12_1 p768 q768
                  have hw768_3 := hx768_3
                  have hw768_2 := hx768_2
                  have hw768_1 := hx768_1
                  have hw768_0 := hx768_0
                  cases e768
                  replace hx768_0 := hc HB hx768_0
                  replace hx768_1 := hc HB hx768_1
                  replace hx768_2 := hc HB hx768_2
                  replace hx768_3 := hc HB hx768_3
                  replace p768 := eq_true p768
                  replace q768 := eq_true q768
                  have p769 : 0 ≤ (x12_1 : Int) := oda
                  have q769 : x12_1 < (l2.length : Int) := oda
                  obtain ⟨ad769, e769, hx769_0, hx769_1, hx769_2, hx769_3⟩ := at_T50 HR2.out x12_1 p769 q769
                  have hw769_3 := hx769_3
                  have hw769_2 := hx769_2
                  have hw769_1 := hx769_1
                  have hw769_0 := hx769_0
                  cases e769
                  replace hx769_0 := hc HB hx769_0
                  replace hx769_1 := hc HB hx769_1
                  replace hx769_2 := hc HB hx769_2
                  replace hx769_3 := hc HB hx769_3
                  replace p769 := eq_true p769
                  replace q769 := eq_true q769
                  refine start_ (n := 9) (S := fun w' => w'.cell? (ad768.add ((x12_1).toNat * 4)) = some (.int .i64 ((rd_T50 l1 x12_1).f0)) ∧ w'.cell? ⟨(ad768.add ((x12_1).toNat * 4)).block, (ad768.add ((x12_1).toNat * 4)).off + 1, none⟩ = some (.int .i64 ((rd_T50 l1 x12_1).f1)) ∧ w'.cell? ⟨(ad768.add ((x12_1).toNat * 4)).block, (ad768.add ((x12_1).toNat * 4)).off + 2, none⟩ = some (.float .f64 ((rd_T50 l1 x12_1).f2)) ∧ w'.cell? ⟨(ad768.add ((x12_1).toNat * 4)).block, (ad768.add ((x12_1).toNat * 4)).off + 3, none⟩ = some (.string ((rd_T50 l1 x12_1).f3)) ∧ w'.cell? (ad769.add ((x12_1).toNat * 4)) = some (.int .i64 ((rd_T50 l2 x12_1).f0)) ∧ w'.cell? ⟨(ad769.add ((x12_1).toNat * 4)).block, (ad769.add ((x12_1).toNat * 4)).off + 1, none⟩ = some (.int .i64 ((rd_T50 l2 x12_1).f1)) ∧ w'.cell? ⟨(ad769.add ((x12_1).toNat * 4)).block, (ad769.add ((x12_1).toNat * 4)).off + 2, none⟩ = some (.float .f64 ((rd_T50 l2 x12_1).f2)) ∧ w'.cell? ⟨(ad769.add ((x12_1).toNat * 4)).block, (ad769.add ((x12_1).toNat * 4)).off + 3, none⟩ = some (.string ((rd_T50 l2 x12_1).f3))) (ds := []) (bb 0 9) (by kernel_rfl) rfl rfl ⟨(hc HB hw768_0), (hc HB hw768_1), (hc HB hw768_2), (hc HB hw768_3), (hc HB hw769_0), (hc HB hw769_1), (hc HB hw769_2), (hc HB hw769_3)⟩ (fun hHeld => ?_); refine with_tabW vellumref04_Change.tab12 vellumref04_Change.bits12 (fun HT_ HW_ => ?_)
                  generalize wr.drew = w18 at HO_10 BK765 HB hx768_0 hx768_1 hx768_2 hx768_3 hx769_0 hx769_1 hx769_2 hx769_3 hHeld ⊢
                  refine pu HT_ 0 (some 31) (bb 1 9) ?_
                  refine pu HT_ 1 (some 32) (bb 2 9) ?_
                  refine pu HT_ 2 (some 33) (bb 3 9) ?_
                  refine pu HT_ 4 (some 35) (bs 9 23) ?_
                  refine pu HT_ 5 (some 36) (bs 9 55) ?_
                  refine pu HT_ 6 (some 37) (bs 9 119) ?_
                  refine tk HT_ HW_ hHeld 3 (some 34) (bb 7 9) ?_
                  refine tk HT_ HW_ hHeld 7 (some 38) (bb 8 9) ?_
                  refine one_ (i := 8) (N := some 39) (bb 9 9) rfl rfl (one_of HT_.out (by kernel_rfl)) (by decide) (fun K hK => ?_)
                  refine goes_ Tryd.func46 (by kernel_rfl) rfl #[.agg #[.int .i64 ((rd_T50 l1 x12_1).f0), .int .i64 ((rd_T50 l1 x12_1).f1), .float .f64 ((rd_T50 l1 x12_1).f2), .string ((rd_T50 l1 x12_1).f3)], .agg #[.int .i64 ((rd_T50 l2 x12_1).f0), .int .i64 ((rd_T50 l2 x12_1).f1), .float .f64 ((rd_T50 l2 x12_1).f2), .string ((rd_T50 l2 x12_1).f3)]] (by rfl) rfl rfl ar ?_
                  with_reducible refine (vellumref01_Same.calls ((rd_T50 l1 x12_1).f0) ((rd_T50 l1 x12_1).f1) ((rd_T50 l1 x12_1).f2) ((rd_T50 l1 x12_1).f3) ((rd_T50 l2 x12_1).f0) ((rd_T50 l2 x12_1).f1) ((rd_T50 l2 x12_1).f2) ((rd_T50 l2 x12_1).f3) true _ A16.out).mono ?_
                  rintro e w19 ⟨rfl, hb⟩
                  refine ⟨_, rfl, ?_⟩
                  have n0_ := am (Kd.R_below (Kd.rr HO_10.out) hb)
                  have n1_ := kb BK765 hb
                  have n2_ := sb HB hb
                  clear HO_10
                  clear BK765
                  clear HB
                  have HO_10 := n0_
                  have BK765 := n1_
                  have HB := n2_
                  clear n0_ n1_ n2_
                  (try clear hb)
                  (try clear hb2)
                  (try clear hk)
                  (try clear hi)
                  refine hK.out _ _ ⟨(hc HB hw768_0), (hc HB hw768_1), (hc HB hw768_2), (hc HB hw768_3), (hc HB hw769_0), (hc HB hw769_1), (hc HB hw769_2), (hc HB hw769_3)⟩ (fun hHeld => ?_)
                  clear hK K
                  refine norm_ (a' := ?_) ?_ ?_
                  rotate_left
                  · show Act.put _ (some 39) _ = _
                    simp only [Act.put, List.setIfInBounds_toArray, List.set_cons_zero, List.set_cons_succ, i64_w, i32_w]
                    rfl
                  refine done_ (done_of HT_.out (by kernel_rfl)) ?_
                  try go_wp2
                  go_roundg k1
                  case measure => have := HK1.out; omega
                  case rel => exact ⟨(x10_1), (x11_1), (wrap64 (x12_1 + 1)), eb, eb, H', ⟨by have := HK1.out; omega⟩, ⟨Kd.rr HO_10.out⟩, ⟨bk BK765⟩, ⟨bl HB⟩⟩
                · replace c17 := Bool.eq_false_iff.mpr c17
                  subst c17
                  have H1 : ((vellumref04_varint.f k1 (IntKind.u64.wrap (wrap64 ((wrap64 (x12_1 - x11_1)) - 1)))).bind fun t771 => (if x10_1.length + t771.length < 140737488355328 then ((some (x10_1 ++ t771 : List Int)).bind fun y774 => (if x12_1 ≤ (wrap64 (x12_1 + 1)) then (if (wrap64 (x12_1 + 1)) ≤ (l2.length : Int) then ((vellumref04_bytesOf.f k1 ((l2.take ((wrap64 (x12_1 + 1)) : Int).toNat).drop (x12_1 : Int).toNat)).bind fun t781 => (if y774.length + t781.length < 140737488355328 then ((some (y774 ++ t781 : List Int)).bind fun y784 => (if (y784.length : Int) > 65536 then (some ((⟨#[]⟩ : ByteArray), 3)) else (vellumref04_Change.l0 k1 l1 l2 y784 x12_1 (wrap64 (x12_1 + 1))))) else (none))) else (none)) else (none))) else (none))) = some (r1, r2) := by rw [if_neg (show ¬ (false = true) by decide)] at H; exact H
                  clear H
                  have H := H1
                  clear H1
                  replace H := Option.bind_eq_some_iff.mp H
                  obtain ⟨t771, A200, H⟩ := H
                  replace H : (if x10_1.length + t771.length < 140737488355328 then ((some (x10_1 ++ t771 : List Int)).bind fun y774 => (if x12_1 ≤ (wrap64 (x12_1 + 1)) then (if (wrap64 (x12_1 + 1)) ≤ (l2.length : Int) then ((vellumref04_bytesOf.f k1 ((l2.take ((wrap64 (x12_1 + 1)) : Int).toNat).drop (x12_1 : Int).toNat)).bind fun t781 => (if y774.length + t781.length < 140737488355328 then ((some (y774 ++ t781 : List Int)).bind fun y784 => (if (y784.length : Int) > 65536 then (some ((⟨#[]⟩ : ByteArray), 3)) else (vellumref04_Change.l0 k1 l1 l2 y784 x12_1 (wrap64 (x12_1 + 1))))) else (none))) else (none)) else (none))) else (none)) = some (r1, r2) := H
                  have A20 := am A200
                  clear A200
                  by_cases c21 : x10_1.length + t771.length < 140737488355328
                  · rw [if_pos c21] at H
                    have LMc21 := am c21
                    clear c21
                    obtain ⟨y774, hy774⟩ : ∃ y_ : List Int, y_ = (x10_1 ++ t771) := ⟨_, rfl⟩
                    replace H : (if x12_1 ≤ (wrap64 (x12_1 + 1)) then (if (wrap64 (x12_1 + 1)) ≤ (l2.length : Int) then ((vellumref04_bytesOf.f k1 ((l2.take ((wrap64 (x12_1 + 1)) : Int).toNat).drop (x12_1 : Int).toNat)).bind fun t781 => (if y774.length + t781.length < 140737488355328 then ((some (y774 ++ t781 : List Int)).bind fun y784 => (if (y784.length : Int) > 65536 then (some ((⟨#[]⟩ : ByteArray), 3)) else (vellumref04_Change.l0 k1 l1 l2 y784 x12_1 (wrap64 (x12_1 + 1))))) else (none))) else (none)) else (none)) = some (r1, r2) := by first | (rw [hy774]; with_reducible exact H) | (have H2_ := (Option.bind_some _ _).symm.trans H; rw [hy774]; with_reducible exact H2_) | (have H2_ := (Option.bind_some _ _).symm.trans H; with_reducible exact H2_) | with_reducible exact H | (rw [hy774]; exact H) | exact H
                    have Ny774 := am hy774
                    clear hy774
                    have c22b0 := eq_true (oda : 0 ≤ x12_1)
                    by_cases c23 : x12_1 ≤ (wrap64 (x12_1 + 1))
                    · rw [if_pos c23] at H
                      have c23b0 := eq_true c23
                      have c23b1 : decide (x12_1 ≤ (wrap64 (x12_1 + 1))) = true := decide_eq_true c23
                      by_cases c24 : (wrap64 (x12_1 + 1)) ≤ (l2.length : Int)
                      · rw [if_pos c24] at H
                        have c24b0 := eq_true c24
                        have c24b1 : decide ((wrap64 (x12_1 + 1)) ≤ (l2.length : Int)) = true := decide_eq_true c24
                        obtain ⟨y777, hy777⟩ : ∃ y_ : List (S50), y_ = ((l2.take ((wrap64 (x12_1 + 1)) : Int).toNat).drop (x12_1 : Int).toNat) := ⟨_, rfl⟩
                        replace H : ((vellumref04_bytesOf.f k1 y777).bind fun t781 => (if y774.length + t781.length < 140737488355328 then ((some (y774 ++ t781 : List Int)).bind fun y784 => (if (y784.length : Int) > 65536 then (some ((⟨#[]⟩ : ByteArray), 3)) else (vellumref04_Change.l0 k1 l1 l2 y784 x12_1 (wrap64 (x12_1 + 1))))) else (none))) = some (r1, r2) := by first | (rw [hy777]; with_reducible exact H) | (have H2_ := (Option.bind_some _ _).symm.trans H; rw [hy777]; with_reducible exact H2_) | (have H2_ := (Option.bind_some _ _).symm.trans H; with_reducible exact H2_) | with_reducible exact H | (rw [hy777]; exact H) | exact H
                        have Ny777 := am hy777
                        clear hy777
                        replace H := Option.bind_eq_some_iff.mp H
                        obtain ⟨t781, A250, H⟩ := H
                        replace H : (if y774.length + t781.length < 140737488355328 then ((some (y774 ++ t781 : List Int)).bind fun y784 => (if (y784.length : Int) > 65536 then (some ((⟨#[]⟩ : ByteArray), 3)) else (vellumref04_Change.l0 k1 l1 l2 y784 x12_1 (wrap64 (x12_1 + 1))))) else (none)) = some (r1, r2) := H
                        have A25 := am A250
                        clear A250
                        by_cases c26 : y774.length + t781.length < 140737488355328
                        · rw [if_pos c26] at H
                          have LMc26 := am c26
                          clear c26
                          obtain ⟨y784, hy784⟩ : ∃ y_ : List Int, y_ = (y774 ++ t781) := ⟨_, rfl⟩
                          replace H : (if (y784.length : Int) > 65536 then (some ((⟨#[]⟩ : ByteArray), 3)) else (vellumref04_Change.l0 k1 l1 l2 y784 x12_1 (wrap64 (x12_1 + 1)))) = some (r1, r2) := by first | (rw [hy784]; with_reducible exact H) | (have H2_ := (Option.bind_some _ _).symm.trans H; rw [hy784]; with_reducible exact H2_) | (have H2_ := (Option.bind_some _ _).symm.trans H; with_reducible exact H2_) | with_reducible exact H | (rw [hy784]; exact H) | exact H
                          have Ny784 := am hy784
                          clear hy784
                          by_cases c27 : (y784.length : Int) > 65536
                          · rw [if_pos c27] at H
                            have c27b0 : decide (65536 < (y784.length : Int)) = true := decide_eq_true c27
                            have c27b1 : decide (65536 < y784.length) = true := decide_eq_true (by omega)
                            clear c27
                            simp only [Option.some.injEq, Prod.mk.injEq] at H
                            obtain ⟨rfl, rfl⟩ := H
                            try go_wp2
                            have n0_ := am (Kd.R_drew HO_10.out)
                            have n1_ := am (blk_drew BK765.out)
                            have n2_ := am (below_drew1 HB.out)
                            clear HO_10
                            clear BK765
                            clear HB
                            have HO_10 := n0_
                            have BK765 := n1_
                            have HB := n2_
                            clear n0_ n1_ n2_
                            have p768 : 0 ≤ (x12_1 : Int) := oda
                            have q768 : x12_1 < (l1.length : Int) := oda
                            obtain ⟨ad768, e768, hx768_0, hx768_1, hx768_2, hx768_3⟩ := at_T50 HR1.out x12_1 p768 q768
                            have hw768_3 := hx768_3
                            have hw768_2 := hx768_2
                            have hw768_1 := hx768_1
                            have hw768_0 := hx768_0
                            cases e768
                            replace hx768_0 := hc HB hx768_0
                            replace hx768_1 := hc HB hx768_1
                            replace hx768_2 := hc HB hx768_2
                            replace hx768_3 := hc HB hx768_3
                            replace p768 := eq_true p768
                            replace q768 := eq_true q768
                            have p769 : 0 ≤ (x12_1 : Int) := oda
                            have q769 : x12_1 < (l2.length : Int) := oda
                            obtain ⟨ad769, e769, hx769_0, hx769_1, hx769_2, hx769_3⟩ := at_T50 HR2.out x12_1 p769 q769
                            have hw769_3 := hx769_3
                            have hw769_2 := hx769_2
                            have hw769_1 := hx769_1
                            have hw769_0 := hx769_0
                            cases e769
                            replace hx769_0 := hc HB hx769_0
                            replace hx769_1 := hc HB hx769_1
                            replace hx769_2 := hc HB hx769_2
                            replace hx769_3 := hc HB hx769_3
                            replace p769 := eq_true p769
                            replace q769 := eq_true q769
                            refine start_ (n := 9) (S := fun w' => w'.cell? (ad768.add ((x12_1).toNat * 4)) = some (.int .i64 ((rd_T50 l1 x12_1).f0)) ∧ w'.cell? ⟨(ad768.add ((x12_1).toNat * 4)).block, (ad768.add ((x12_1).toNat * 4)).off + 1, none⟩ = some (.int .i64 ((rd_T50 l1 x12_1).f1)) ∧ w'.cell? ⟨(ad768.add ((x12_1).toNat * 4)).block, (ad768.add ((x12_1).toNat * 4)).off + 2, none⟩ = some (.float .f64 ((rd_T50 l1 x12_1).f2)) ∧ w'.cell? ⟨(ad768.add ((x12_1).toNat * 4)).block, (ad768.add ((x12_1).toNat * 4)).off + 3, none⟩ = some (.string ((rd_T50 l1 x12_1).f3)) ∧ w'.cell? (ad769.add ((x12_1).toNat * 4)) = some (.int .i64 ((rd_T50 l2 x12_1).f0)) ∧ w'.cell? ⟨(ad769.add ((x12_1).toNat * 4)).block, (ad769.add ((x12_1).toNat * 4)).off + 1, none⟩ = some (.int .i64 ((rd_T50 l2 x12_1).f1)) ∧ w'.cell? ⟨(ad769.add ((x12_1).toNat * 4)).block, (ad769.add ((x12_1).toNat * 4)).off + 2, none⟩ = some (.float .f64 ((rd_T50 l2 x12_1).f2)) ∧ w'.cell? ⟨(ad769.add ((x12_1).toNat * 4)).block, (ad769.add ((x12_1).toNat * 4)).off + 3, none⟩ = some (.string ((rd_T50 l2 x12_1).f3))) (ds := []) (bb 0 9) (by kernel_rfl) rfl rfl ⟨(hc HB hw768_0), (hc HB hw768_1), (hc HB hw768_2), (hc HB hw768_3), (hc HB hw769_0), (hc HB hw769_1), (hc HB hw769_2), (hc HB hw769_3)⟩ (fun hHeld => ?_); refine with_tabW vellumref04_Change.tab12 vellumref04_Change.bits12 (fun HT_ HW_ => ?_)
                            generalize wr.drew = w28 at HO_10 BK765 HB hx768_0 hx768_1 hx768_2 hx768_3 hx769_0 hx769_1 hx769_2 hx769_3 hHeld ⊢
                            refine pu HT_ 0 (some 31) (bb 1 9) ?_
                            refine pu HT_ 1 (some 32) (bb 2 9) ?_
                            refine pu HT_ 2 (some 33) (bb 3 9) ?_
                            refine pu HT_ 4 (some 35) (bs 9 23) ?_
                            refine pu HT_ 5 (some 36) (bs 9 55) ?_
                            refine pu HT_ 6 (some 37) (bs 9 119) ?_
                            refine tk HT_ HW_ hHeld 3 (some 34) (bb 7 9) ?_
                            refine tk HT_ HW_ hHeld 7 (some 38) (bb 8 9) ?_
                            refine one_ (i := 8) (N := some 39) (bb 9 9) rfl rfl (one_of HT_.out (by kernel_rfl)) (by decide) (fun K hK => ?_)
                            refine goes_ Tryd.func46 (by kernel_rfl) rfl #[.agg #[.int .i64 ((rd_T50 l1 x12_1).f0), .int .i64 ((rd_T50 l1 x12_1).f1), .float .f64 ((rd_T50 l1 x12_1).f2), .string ((rd_T50 l1 x12_1).f3)], .agg #[.int .i64 ((rd_T50 l2 x12_1).f0), .int .i64 ((rd_T50 l2 x12_1).f1), .float .f64 ((rd_T50 l2 x12_1).f2), .string ((rd_T50 l2 x12_1).f3)]] (by rfl) rfl rfl ar ?_
                            with_reducible refine (vellumref01_Same.calls ((rd_T50 l1 x12_1).f0) ((rd_T50 l1 x12_1).f1) ((rd_T50 l1 x12_1).f2) ((rd_T50 l1 x12_1).f3) ((rd_T50 l2 x12_1).f0) ((rd_T50 l2 x12_1).f1) ((rd_T50 l2 x12_1).f2) ((rd_T50 l2 x12_1).f3) false _ A16.out).mono ?_
                            rintro e w29 ⟨rfl, hb⟩
                            refine ⟨_, rfl, ?_⟩
                            have n0_ := am (Kd.R_below (Kd.rr HO_10.out) hb)
                            have n1_ := kb BK765 hb
                            have n2_ := sb HB hb
                            clear HO_10
                            clear BK765
                            clear HB
                            have HO_10 := n0_
                            have BK765 := n1_
                            have HB := n2_
                            clear n0_ n1_ n2_
                            (try clear hb)
                            (try clear hb2)
                            (try clear hk)
                            (try clear hi)
                            refine hK.out _ _ ⟨(hc HB hw768_0), (hc HB hw768_1), (hc HB hw768_2), (hc HB hw768_3), (hc HB hw769_0), (hc HB hw769_1), (hc HB hw769_2), (hc HB hw769_3)⟩ (fun hHeld => ?_)
                            clear hK K
                            refine norm_ (a' := ?_) ?_ ?_
                            rotate_left
                            · show Act.put _ (some 39) _ = _
                              simp only [Act.put, List.setIfInBounds_toArray, List.set_cons_zero, List.set_cons_succ, i64_w, i32_w]
                              rfl
                            refine done_ (done_of HT_.out (by kernel_rfl)) ?_
                            try go_wp2_with (first | ((with_reducible refine gate_callee (f := 90) rfl ?_); refine goesL_ (some 46) rfl rfl Tryd.func90 (by kernel_rfl) rfl #[.int .u64 (IntKind.u64.wrap (wrap64 ((wrap64 (x12_1 - x11_1)) - 1)))] rfl ar ?_; (with_reducible refine (vellumref04_varint.calls k1 (IntKind.u64.wrap (wrap64 ((wrap64 (x12_1 - x11_1)) - 1))) t771 _ A20.out).mono ?_); rintro e w30 ⟨v772, rfl, ho0, hb⟩; refine ⟨_, rfl, ?_⟩; have n0_ := am (Kd.R_elder' (Kd.rr HO_10.out) (Kd.R_base ho0) hb); have n1_ := am (Kd.R_lower (Kd.R_new' ho0 (Kd.R_lt (Kd.rr HO_10.out))) (below_size (bl HB))); have n2_ := kb BK765 hb; have n3_ := sb HB hb; clear HO_10; clear BK765; clear HB; have HO_10 := n0_; have HO773 := n1_; have BK765 := n2_; have HB := n3_; clear n0_ n1_ n2_ n3_; (try clear hb); (try clear hb2 hk hi); (try clear ho0); obtain ⟨Ao32, co32, eo32⟩ := Kd.R_slice HO773.out; subst eo32) | ((with_reducible refine gate_builtin (b := .append) (xs := #[.tmp 40, .tmp 46]) rfl ?_); at_builtin; refine Kd.R_append_rows (Kd.int .u8) (w0 := w) w.heap.size rfl (.tmp 40) (.tmp 46) 80 5 (.int .u8 0) 1 rfl Tryd.underlying80 info5 rfl (by decide) (by omega) u10 x10_1 t771 _ _ _ (fun k_ => some k_ ≠ (.slice Ao32 t771.length co32 : Value).ownBlock) (fun _ => False) rfl rfl ?aO ?aR (fun _ _ h => h) (fun _ h => h.elim) ?aF ?aB ?aS ?aL ?_; (case aR => repeat (first | exact (Kd.R_reads' HO773.out).2.2 | (with_reducible refine Kd.C_alloc ?_ _) | (with_reducible refine Kd.C_drewN ?_ _) | (with_reducible refine Kd.C_drew ?_))); (case aB => exact (bl HB)); (case aF => exact (fun k_ hk => Kd.fresh' (Kd.R_lt (Kd.rr HO773.out)) k_ hk)); (case aO => exact (by (with_reducible repeat (first | apply Kd.R_alloc | apply Kd.R_drewN | apply Kd.R_drew)); exact Kd.R_mono HO_10.out (fun _ hk => hk.2))); (case aS => exact (below_size (bl HB))); (case aL => have := LMc21.out; omega); intro v775 w31 ho hb hg hat; rw [← Ny774.out] at ho; have n0_ := am (blk_grown (g := gb765) (o := .cells #[.string a0_0, .slice A0_1 l0_1.length c0_1, .slice A0_2 l0_2.length c0_2, .slice A0_3 l0_3.length c0_3, .slice A0_4 l0_4.length c0_4] 65 (0, 0)) (bk BK765) hg (Kd.R_ne HO_10.out BK765.out (by decide))); have n1_ := am (Kd.R_after (ok := (fun _ => True)) (Kd.rr HO773.out) hg hat); have n2_ := am (hb); have n3_ := am (ho); clear BK765; clear HO773; clear HB; clear HO_10; have BK765 := n0_; have HO773 := n1_; have HB := n2_; have HO776 := n3_; clear n0_ n1_ n2_ n3_; clear ho hb hg hat; have q33 : ((wrap64 (x12_1 + 1)) : Int) ≤ ((l2.length : Int) : Int) := oda; obtain ⟨i033, hi033, _, hsz33, _⟩ := info_parts info50; have hroom33 : l2.length ≤ c2 := HC2.out; have hC33 : Kd.C k50 _ (some ad769) l2.length l2 := HR2.out; have ql33 : (x12_1 : Int) ≤ ((wrap64 (x12_1 + 1)) : Int) := oda; have q033 : (0 : Int) ≤ (x12_1 : Int) := oda; have hcut33 := cut_mid (P := Tryd.prog) 22 50 .i64 .i64 Tryd.underlying22 hi033 4 hsz33 (some ad769) l2.length c2 x12_1 (wrap64 (x12_1 + 1)) q033 ql33 q33 hroom33; have hr33 := Kd.C_mid (lo := (x12_1 : Int).toNat) (hi := ((wrap64 (x12_1 + 1)) : Int).toNat) (c := c2) hC33 (by omega) (by omega) hroom33; obtain ⟨A33, hA33⟩ : ∃ A1, A1 = (if c2 = (x12_1 : Int).toNat then (some ad769) else ((some ad769) : Option Addr).map (·.add ((x12_1 : Int).toNat * 4))) := ⟨_, rfl⟩; obtain ⟨c33, hc33⟩ : ∃ c1, c1 = c2 - (x12_1 : Int).toNat := ⟨_, rfl⟩; have hy33 : y777.length = ((wrap64 (x12_1 + 1)) : Int).toNat - (x12_1 : Int).toNat := (by rw [Ny777.out, List.length_drop, List.length_take] <;> omega); rw [show ((l2).take ((wrap64 (x12_1 + 1)) : Int).toNat).drop (x12_1 : Int).toNat = y777 from Ny777.out.symm] at hr33; replace hr33 : Kd.C k50 _ A33 y777.length y777 := (by rw [hA33]; exact hr33); rw [← hy33, ← hA33, ← hc33] at hcut33; have HR780 := am hr33; have HC780 := am (show y777.length ≤ c33 from by rw [hy33, hc33]; exact Nat.sub_le_sub_right (Nat.le_trans (by omega) hroom33) _); clear hr33 hC33 hroom33 hi033 hsz33 hc33; have KY33 := am hy33; have KA33 := am hA33; clear hy33 hA33; replace q33 := eq_true q33) | ((with_reducible refine gate_callee (f := 86) rfl ?_); refine goesL_ (some 54) rfl rfl Tryd.func86 (by kernel_rfl) rfl #[.slice A33 y777.length c33] rfl ar ?_; (with_reducible refine (vellumref04_bytesOf.calls k1 _ _ y777 t781 _ ?side1 HC780.out A25.out).mono ?_); (case side1 => exact Kd.cb HR780 HB); rintro e w34 ⟨v782, rfl, ho0, hb⟩; refine ⟨_, rfl, ?_⟩; have n0_ := am (Kd.R_elder' (Kd.rr HO773.out) (Kd.R_base ho0) hb); have n1_ := am (Kd.R_elder' (Kd.rr HO776.out) (Kd.R_base ho0) hb); have n2_ := am (Kd.R_lower (Kd.R_new' (Kd.R_new' ho0 (Kd.R_lt (Kd.rr HO773.out))) (Kd.R_lt (Kd.rr HO776.out))) (below_size (bl HB))); have n3_ := kb BK765 hb; have n4_ := sb HB hb; clear HO773; clear HO776; clear BK765; clear HB; have HO773 := n0_; have HO776 := n1_; have HO783 := n2_; have BK765 := n3_; have HB := n4_; clear n0_ n1_ n2_ n3_ n4_; (try clear hb); (try clear hb2 hk hi); (try clear ho0); obtain ⟨Ao36, co36, eo36⟩ := Kd.R_slice HO783.out; subst eo36) | ((with_reducible refine gate_builtin (b := .append) (xs := #[.tmp 48, .tmp 54]) rfl ?_); at_builtin; refine Kd.R_append_rows (Kd.int .u8) (w0 := w) w.heap.size rfl (.tmp 48) (.tmp 54) 80 5 (.int .u8 0) 1 rfl Tryd.underlying80 info5 rfl (by decide) (by omega) v775 y774 t781 _ _ _ (fun k_ => some k_ ≠ (.slice Ao32 t771.length co32 : Value).ownBlock ∧ some k_ ≠ (.slice Ao36 t781.length co36 : Value).ownBlock) (fun _ => False) rfl rfl ?aO ?aR (fun _ _ h => h) (fun _ h => h.elim) ?aF ?aB ?aS ?aL ?_; (case aR => repeat (first | exact (Kd.R_reads' HO783.out).2.2 | (with_reducible refine Kd.C_alloc ?_ _) | (with_reducible refine Kd.C_drewN ?_ _) | (with_reducible refine Kd.C_drew ?_))); (case aB => exact (bl HB)); (case aF => exact (fun k_ hk => ⟨Kd.fresh' (Kd.R_lt (Kd.rr HO773.out)) k_ hk, Kd.fresh' (Kd.R_lt (Kd.rr HO783.out)) k_ hk⟩)); (case aO => exact (Kd.rr HO776.out)); (case aS => exact (below_size (bl HB))); (case aL => have := LMc26.out; omega); intro v785 w35 ho hb hg hat; rw [← Ny784.out] at ho; have n0_ := am (blk_grown (g := gb765) (o := .cells #[.string a0_0, .slice A0_1 l0_1.length c0_1, .slice A0_2 l0_2.length c0_2, .slice A0_3 l0_3.length c0_3, .slice A0_4 l0_4.length c0_4] 65 (0, 0)) (bk BK765) hg (Kd.R_ne HO776.out BK765.out (by decide))); have n1_ := am (Kd.R_after (ok := (fun k_ => some k_ ≠ (.slice Ao36 t781.length co36 : Value).ownBlock)) (by (with_reducible repeat (first | apply Kd.R_alloc | apply Kd.R_drewN | apply Kd.R_drew)); exact Kd.R_mono HO773.out (fun _ hk => ⟨hk.2, hk.1.2⟩)) hg hat); have n2_ := am (Kd.R_after (ok := (fun k_ => some k_ ≠ (.slice Ao32 t771.length co32 : Value).ownBlock)) (by (with_reducible repeat (first | apply Kd.R_alloc | apply Kd.R_drewN | apply Kd.R_drew)); exact Kd.R_mono HO783.out (fun _ hk => ⟨hk.1.2, hk.2⟩)) hg hat); have n3_ := am (hb); have n4_ := am (ho); clear BK765; clear HO773; clear HO783; clear HB; clear HO776; have BK765 := n0_; have HO773 := n1_; have HO783 := n2_; have HB := n3_; have HO786 := n4_; clear n0_ n1_ n2_ n3_ n4_; clear ho hb hg hat; obtain ⟨Ao37, co37, eo37⟩ := Kd.R_slice HO786.out; subst eo37))
                            go_ret2
                            exact ⟨er, bl HB⟩
                          · rw [if_neg c27] at H
                            have c27b0 : decide (65536 < (y784.length : Int)) = false := decide_eq_false c27
                            have c27b1 : decide (65536 < y784.length) = false := decide_eq_false (by omega)
                            clear c27
                            have H' := am H
                            clear H
                            try go_wp2
                            have n0_ := am (Kd.R_drew HO_10.out)
                            have n1_ := am (blk_drew BK765.out)
                            have n2_ := am (below_drew1 HB.out)
                            clear HO_10
                            clear BK765
                            clear HB
                            have HO_10 := n0_
                            have BK765 := n1_
                            have HB := n2_
                            clear n0_ n1_ n2_
                            have p768 : 0 ≤ (x12_1 : Int) := oda
                            have q768 : x12_1 < (l1.length : Int) := oda
                            obtain ⟨ad768, e768, hx768_0, hx768_1, hx768_2, hx768_3⟩ := at_T50 HR1.out x12_1 p768 q768
                            have hw768_3 := hx768_3
                            have hw768_2 := hx768_2
                            have hw768_1 := hx768_1
                            have hw768_0 := hx768_0
                            cases e768
                            replace hx768_0 := hc HB hx768_0
                            replace hx768_1 := hc HB hx768_1
                            replace hx768_2 := hc HB hx768_2
                            replace hx768_3 := hc HB hx768_3
                            replace p768 := eq_true p768
                            replace q768 := eq_true q768
                            have p769 : 0 ≤ (x12_1 : Int) := oda
                            have q769 : x12_1 < (l2.length : Int) := oda
                            obtain ⟨ad769, e769, hx769_0, hx769_1, hx769_2, hx769_3⟩ := at_T50 HR2.out x12_1 p769 q769
                            have hw769_3 := hx769_3
                            have hw769_2 := hx769_2
                            have hw769_1 := hx769_1
                            have hw769_0 := hx769_0
                            cases e769
                            replace hx769_0 := hc HB hx769_0
                            replace hx769_1 := hc HB hx769_1
                            replace hx769_2 := hc HB hx769_2
                            replace hx769_3 := hc HB hx769_3
                            replace p769 := eq_true p769
                            replace q769 := eq_true q769
                            refine start_ (n := 9) (S := fun w' => w'.cell? (ad768.add ((x12_1).toNat * 4)) = some (.int .i64 ((rd_T50 l1 x12_1).f0)) ∧ w'.cell? ⟨(ad768.add ((x12_1).toNat * 4)).block, (ad768.add ((x12_1).toNat * 4)).off + 1, none⟩ = some (.int .i64 ((rd_T50 l1 x12_1).f1)) ∧ w'.cell? ⟨(ad768.add ((x12_1).toNat * 4)).block, (ad768.add ((x12_1).toNat * 4)).off + 2, none⟩ = some (.float .f64 ((rd_T50 l1 x12_1).f2)) ∧ w'.cell? ⟨(ad768.add ((x12_1).toNat * 4)).block, (ad768.add ((x12_1).toNat * 4)).off + 3, none⟩ = some (.string ((rd_T50 l1 x12_1).f3)) ∧ w'.cell? (ad769.add ((x12_1).toNat * 4)) = some (.int .i64 ((rd_T50 l2 x12_1).f0)) ∧ w'.cell? ⟨(ad769.add ((x12_1).toNat * 4)).block, (ad769.add ((x12_1).toNat * 4)).off + 1, none⟩ = some (.int .i64 ((rd_T50 l2 x12_1).f1)) ∧ w'.cell? ⟨(ad769.add ((x12_1).toNat * 4)).block, (ad769.add ((x12_1).toNat * 4)).off + 2, none⟩ = some (.float .f64 ((rd_T50 l2 x12_1).f2)) ∧ w'.cell? ⟨(ad769.add ((x12_1).toNat * 4)).block, (ad769.add ((x12_1).toNat * 4)).off + 3, none⟩ = some (.string ((rd_T50 l2 x12_1).f3))) (ds := []) (bb 0 9) (by kernel_rfl) rfl rfl ⟨(hc HB hw768_0), (hc HB hw768_1), (hc HB hw768_2), (hc HB hw768_3), (hc HB hw769_0), (hc HB hw769_1), (hc HB hw769_2), (hc HB hw769_3)⟩ (fun hHeld => ?_); refine with_tabW vellumref04_Change.tab12 vellumref04_Change.bits12 (fun HT_ HW_ => ?_)
                            generalize wr.drew = w38 at HO_10 BK765 HB hx768_0 hx768_1 hx768_2 hx768_3 hx769_0 hx769_1 hx769_2 hx769_3 hHeld ⊢
                            refine pu HT_ 0 (some 31) (bb 1 9) ?_
                            refine pu HT_ 1 (some 32) (bb 2 9) ?_
                            refine pu HT_ 2 (some 33) (bb 3 9) ?_
                            refine pu HT_ 4 (some 35) (bs 9 23) ?_
                            refine pu HT_ 5 (some 36) (bs 9 55) ?_
                            refine pu HT_ 6 (some 37) (bs 9 119) ?_
                            refine tk HT_ HW_ hHeld 3 (some 34) (bb 7 9) ?_
                            refine tk HT_ HW_ hHeld 7 (some 38) (bb 8 9) ?_
                            refine one_ (i := 8) (N := some 39) (bb 9 9) rfl rfl (one_of HT_.out (by kernel_rfl)) (by decide) (fun K hK => ?_)
                            refine goes_ Tryd.func46 (by kernel_rfl) rfl #[.agg #[.int .i64 ((rd_T50 l1 x12_1).f0), .int .i64 ((rd_T50 l1 x12_1).f1), .float .f64 ((rd_T50 l1 x12_1).f2), .string ((rd_T50 l1 x12_1).f3)], .agg #[.int .i64 ((rd_T50 l2 x12_1).f0), .int .i64 ((rd_T50 l2 x12_1).f1), .float .f64 ((rd_T50 l2 x12_1).f2), .string ((rd_T50 l2 x12_1).f3)]] (by rfl) rfl rfl ar ?_
                            with_reducible refine (vellumref01_Same.calls ((rd_T50 l1 x12_1).f0) ((rd_T50 l1 x12_1).f1) ((rd_T50 l1 x12_1).f2) ((rd_T50 l1 x12_1).f3) ((rd_T50 l2 x12_1).f0) ((rd_T50 l2 x12_1).f1) ((rd_T50 l2 x12_1).f2) ((rd_T50 l2 x12_1).f3) false _ A16.out).mono ?_
                            rintro e w39 ⟨rfl, hb⟩
                            refine ⟨_, rfl, ?_⟩
                            have n0_ := am (Kd.R_below (Kd.rr HO_10.out) hb)
                            have n1_ := kb BK765 hb
                            have n2_ := sb HB hb
                            clear HO_10
                            clear BK765
                            clear HB
                            have HO_10 := n0_
                            have BK765 := n1_
                            have HB := n2_
                            clear n0_ n1_ n2_
                            (try clear hb)
                            (try clear hb2)
                            (try clear hk)
                            (try clear hi)
                            refine hK.out _ _ ⟨(hc HB hw768_0), (hc HB hw768_1), (hc HB hw768_2), (hc HB hw768_3), (hc HB hw769_0), (hc HB hw769_1), (hc HB hw769_2), (hc HB hw769_3)⟩ (fun hHeld => ?_)
                            clear hK K
                            refine norm_ (a' := ?_) ?_ ?_
                            rotate_left
                            · show Act.put _ (some 39) _ = _
                              simp only [Act.put, List.setIfInBounds_toArray, List.set_cons_zero, List.set_cons_succ, i64_w, i32_w]
                              rfl
                            refine done_ (done_of HT_.out (by kernel_rfl)) ?_
                            try go_wp2_with (first | ((with_reducible refine gate_callee (f := 90) rfl ?_); refine goesL_ (some 46) rfl rfl Tryd.func90 (by kernel_rfl) rfl #[.int .u64 (IntKind.u64.wrap (wrap64 ((wrap64 (x12_1 - x11_1)) - 1)))] rfl ar ?_; (with_reducible refine (vellumref04_varint.calls k1 (IntKind.u64.wrap (wrap64 ((wrap64 (x12_1 - x11_1)) - 1))) t771 _ A20.out).mono ?_); rintro e w40 ⟨v772, rfl, ho0, hb⟩; refine ⟨_, rfl, ?_⟩; have n0_ := am (Kd.R_elder' (Kd.rr HO_10.out) (Kd.R_base ho0) hb); have n1_ := am (Kd.R_lower (Kd.R_new' ho0 (Kd.R_lt (Kd.rr HO_10.out))) (below_size (bl HB))); have n2_ := kb BK765 hb; have n3_ := sb HB hb; clear HO_10; clear BK765; clear HB; have HO_10 := n0_; have HO773 := n1_; have BK765 := n2_; have HB := n3_; clear n0_ n1_ n2_ n3_; (try clear hb); (try clear hb2 hk hi); (try clear ho0); obtain ⟨Ao42, co42, eo42⟩ := Kd.R_slice HO773.out; subst eo42) | ((with_reducible refine gate_builtin (b := .append) (xs := #[.tmp 40, .tmp 46]) rfl ?_); at_builtin; refine Kd.R_append_rows (Kd.int .u8) (w0 := w) w.heap.size rfl (.tmp 40) (.tmp 46) 80 5 (.int .u8 0) 1 rfl Tryd.underlying80 info5 rfl (by decide) (by omega) u10 x10_1 t771 _ _ _ (fun k_ => some k_ ≠ (.slice Ao42 t771.length co42 : Value).ownBlock) (fun _ => False) rfl rfl ?aO ?aR (fun _ _ h => h) (fun _ h => h.elim) ?aF ?aB ?aS ?aL ?_; (case aR => repeat (first | exact (Kd.R_reads' HO773.out).2.2 | (with_reducible refine Kd.C_alloc ?_ _) | (with_reducible refine Kd.C_drewN ?_ _) | (with_reducible refine Kd.C_drew ?_))); (case aB => exact (bl HB)); (case aF => exact (fun k_ hk => Kd.fresh' (Kd.R_lt (Kd.rr HO773.out)) k_ hk)); (case aO => exact (by (with_reducible repeat (first | apply Kd.R_alloc | apply Kd.R_drewN | apply Kd.R_drew)); exact Kd.R_mono HO_10.out (fun _ hk => hk.2))); (case aS => exact (below_size (bl HB))); (case aL => have := LMc21.out; omega); intro v775 w41 ho hb hg hat; rw [← Ny774.out] at ho; have n0_ := am (blk_grown (g := gb765) (o := .cells #[.string a0_0, .slice A0_1 l0_1.length c0_1, .slice A0_2 l0_2.length c0_2, .slice A0_3 l0_3.length c0_3, .slice A0_4 l0_4.length c0_4] 65 (0, 0)) (bk BK765) hg (Kd.R_ne HO_10.out BK765.out (by decide))); have n1_ := am (Kd.R_after (ok := (fun _ => True)) (Kd.rr HO773.out) hg hat); have n2_ := am (hb); have n3_ := am (ho); clear BK765; clear HO773; clear HB; clear HO_10; have BK765 := n0_; have HO773 := n1_; have HB := n2_; have HO776 := n3_; clear n0_ n1_ n2_ n3_; clear ho hb hg hat; have q43 : ((wrap64 (x12_1 + 1)) : Int) ≤ ((l2.length : Int) : Int) := oda; obtain ⟨i043, hi043, _, hsz43, _⟩ := info_parts info50; have hroom43 : l2.length ≤ c2 := HC2.out; have hC43 : Kd.C k50 _ (some ad769) l2.length l2 := HR2.out; have ql43 : (x12_1 : Int) ≤ ((wrap64 (x12_1 + 1)) : Int) := oda; have q043 : (0 : Int) ≤ (x12_1 : Int) := oda; have hcut43 := cut_mid (P := Tryd.prog) 22 50 .i64 .i64 Tryd.underlying22 hi043 4 hsz43 (some ad769) l2.length c2 x12_1 (wrap64 (x12_1 + 1)) q043 ql43 q43 hroom43; have hr43 := Kd.C_mid (lo := (x12_1 : Int).toNat) (hi := ((wrap64 (x12_1 + 1)) : Int).toNat) (c := c2) hC43 (by omega) (by omega) hroom43; obtain ⟨A43, hA43⟩ : ∃ A1, A1 = (if c2 = (x12_1 : Int).toNat then (some ad769) else ((some ad769) : Option Addr).map (·.add ((x12_1 : Int).toNat * 4))) := ⟨_, rfl⟩; obtain ⟨c43, hc43⟩ : ∃ c1, c1 = c2 - (x12_1 : Int).toNat := ⟨_, rfl⟩; have hy43 : y777.length = ((wrap64 (x12_1 + 1)) : Int).toNat - (x12_1 : Int).toNat := (by rw [Ny777.out, List.length_drop, List.length_take] <;> omega); rw [show ((l2).take ((wrap64 (x12_1 + 1)) : Int).toNat).drop (x12_1 : Int).toNat = y777 from Ny777.out.symm] at hr43; replace hr43 : Kd.C k50 _ A43 y777.length y777 := (by rw [hA43]; exact hr43); rw [← hy43, ← hA43, ← hc43] at hcut43; have HR780 := am hr43; have HC780 := am (show y777.length ≤ c43 from by rw [hy43, hc43]; exact Nat.sub_le_sub_right (Nat.le_trans (by omega) hroom43) _); clear hr43 hC43 hroom43 hi043 hsz43 hc43; have KY43 := am hy43; have KA43 := am hA43; clear hy43 hA43; replace q43 := eq_true q43) | ((with_reducible refine gate_callee (f := 86) rfl ?_); refine goesL_ (some 54) rfl rfl Tryd.func86 (by kernel_rfl) rfl #[.slice A43 y777.length c43] rfl ar ?_; (with_reducible refine (vellumref04_bytesOf.calls k1 _ _ y777 t781 _ ?side1 HC780.out A25.out).mono ?_); (case side1 => exact Kd.cb HR780 HB); rintro e w44 ⟨v782, rfl, ho0, hb⟩; refine ⟨_, rfl, ?_⟩; have n0_ := am (Kd.R_elder' (Kd.rr HO773.out) (Kd.R_base ho0) hb); have n1_ := am (Kd.R_elder' (Kd.rr HO776.out) (Kd.R_base ho0) hb); have n2_ := am (Kd.R_lower (Kd.R_new' (Kd.R_new' ho0 (Kd.R_lt (Kd.rr HO773.out))) (Kd.R_lt (Kd.rr HO776.out))) (below_size (bl HB))); have n3_ := kb BK765 hb; have n4_ := sb HB hb; clear HO773; clear HO776; clear BK765; clear HB; have HO773 := n0_; have HO776 := n1_; have HO783 := n2_; have BK765 := n3_; have HB := n4_; clear n0_ n1_ n2_ n3_ n4_; (try clear hb); (try clear hb2 hk hi); (try clear ho0); obtain ⟨Ao46, co46, eo46⟩ := Kd.R_slice HO783.out; subst eo46) | ((with_reducible refine gate_builtin (b := .append) (xs := #[.tmp 48, .tmp 54]) rfl ?_); at_builtin; refine Kd.R_append_rows (Kd.int .u8) (w0 := w) w.heap.size rfl (.tmp 48) (.tmp 54) 80 5 (.int .u8 0) 1 rfl Tryd.underlying80 info5 rfl (by decide) (by omega) v775 y774 t781 _ _ _ (fun k_ => some k_ ≠ (.slice Ao42 t771.length co42 : Value).ownBlock ∧ some k_ ≠ (.slice Ao46 t781.length co46 : Value).ownBlock) (fun _ => False) rfl rfl ?aO ?aR (fun _ _ h => h) (fun _ h => h.elim) ?aF ?aB ?aS ?aL ?_; (case aR => repeat (first | exact (Kd.R_reads' HO783.out).2.2 | (with_reducible refine Kd.C_alloc ?_ _) | (with_reducible refine Kd.C_drewN ?_ _) | (with_reducible refine Kd.C_drew ?_))); (case aB => exact (bl HB)); (case aF => exact (fun k_ hk => ⟨Kd.fresh' (Kd.R_lt (Kd.rr HO773.out)) k_ hk, Kd.fresh' (Kd.R_lt (Kd.rr HO783.out)) k_ hk⟩)); (case aO => exact (Kd.rr HO776.out)); (case aS => exact (below_size (bl HB))); (case aL => have := LMc26.out; omega); intro v785 w45 ho hb hg hat; rw [← Ny784.out] at ho; have n0_ := am (blk_grown (g := gb765) (o := .cells #[.string a0_0, .slice A0_1 l0_1.length c0_1, .slice A0_2 l0_2.length c0_2, .slice A0_3 l0_3.length c0_3, .slice A0_4 l0_4.length c0_4] 65 (0, 0)) (bk BK765) hg (Kd.R_ne HO776.out BK765.out (by decide))); have n1_ := am (Kd.R_after (ok := (fun k_ => some k_ ≠ (.slice Ao46 t781.length co46 : Value).ownBlock)) (by (with_reducible repeat (first | apply Kd.R_alloc | apply Kd.R_drewN | apply Kd.R_drew)); exact Kd.R_mono HO773.out (fun _ hk => ⟨hk.2, hk.1.2⟩)) hg hat); have n2_ := am (Kd.R_after (ok := (fun k_ => some k_ ≠ (.slice Ao42 t771.length co42 : Value).ownBlock)) (by (with_reducible repeat (first | apply Kd.R_alloc | apply Kd.R_drewN | apply Kd.R_drew)); exact Kd.R_mono HO783.out (fun _ hk => ⟨hk.1.2, hk.2⟩)) hg hat); have n3_ := am (hb); have n4_ := am (ho); clear BK765; clear HO773; clear HO783; clear HB; clear HO776; have BK765 := n0_; have HO773 := n1_; have HO783 := n2_; have HB := n3_; have HO786 := n4_; clear n0_ n1_ n2_ n3_ n4_; clear ho hb hg hat; obtain ⟨Ao47, co47, eo47⟩ := Kd.R_slice HO786.out; subst eo47))
                            go_roundg k1
                            case measure => have := HK1.out; omega
                            case rel => exact ⟨(y784), (x12_1), (wrap64 (x12_1 + 1)), eb, eb, H', ⟨by have := HK1.out; omega⟩, ⟨by (with_reducible repeat (first | apply Kd.R_alloc | apply Kd.R_drewN | apply Kd.R_drew)); exact Kd.R_mono HO786.out (fun _ hk => trivial)⟩, ⟨bk BK765⟩, ⟨bl HB⟩⟩
                        · rw [if_neg c26] at H
                          exact absurd H (by simp)
                      · rw [if_neg c24] at H
                        exact absurd H (by simp)
                    · rw [if_neg c23] at H
                      exact absurd H (by simp)
                  · rw [if_neg c21] at H
                    exact absurd H (by simp)
              · rw [if_neg c15] at H
                exact absurd H (by simp)
            · rw [if_neg c14] at H
              exact absurd H (by simp)
          · rw [if_neg c13] at H
            have c13b0 : decide (x12_1 < (l1.length : Int)) = false := decide_eq_false c13
            clear c13
            simp only [Option.some.injEq, Prod.mk.injEq] at H
            obtain ⟨rfl, rfl⟩ := H
            have hcv48 := own_string (P := Tryd.prog) Tryd.underlying80 Tryd.underlying5 Tryd.underlying9 (Kd.own_of_R HO_10.out)
            go_wp2
            go_ret2
            exact ⟨er, bl HB⟩
    · rw [if_neg c7] at H
      have c7b0 : (t767 == 0) = false := beq_eq_false_iff_ne.mpr c7
      have c7b1 : (t767 != 0) = true := bne_iff_ne.mpr c7
      simp only [Option.some.injEq, Prod.mk.injEq] at H
      obtain ⟨rfl, rfl⟩ := H
      go_enter Tryd.func56, Tryd.ntmps56
      go_wp2_with (first | ((with_reducible refine gate_dst (N := 3) rfl ?_); refine box_event rfl (N := 3) rfl (cs := #[.string a0_0, .slice A0_1 l0_1.length c0_1, .slice A0_2 l0_2.length c0_2, .slice A0_3 l0_3.length c0_3, .slice A0_4 l0_4.length c0_4]) (t := 65) gs ?_; intro gb765 hg w49 hbox hb; have BK765 := am (hbox); have GW765 := gw hg HB; have GE765 := gw hg HB; replace HB := sb HB hb; clear hb hbox hg; obtain ⟨Z50_0, Z50_1, Z50_2, Z50_3, Z50_4, Y50_0, Y50_1, Y50_2, Y50_3, Y50_4⟩ := bq5 BK765) | ((with_reducible refine gate_callee (f := 85) rfl ?_); refine goesL_ (some 15) rfl rfl Tryd.func85 (by kernel_rfl) rfl #[.agg #[.string a0_0, .slice A0_1 l0_1.length c0_1, .slice A0_2 l0_2.length c0_2, .slice A0_3 l0_3.length c0_3, .slice A0_4 l0_4.length c0_4], .slice A1 l1.length c1] rfl ar ?_; (with_reducible refine (vellumref03_Admits.calls k a0_0 _ _ l0_1 _ _ l0_2 _ _ l0_3 _ _ l0_4 _ _ l1 t766 _ (Kd.cb HR0_1 HB) HC0_1.out (Kd.cb HR0_2 HB) HC0_2.out (Kd.cb HR0_3 HB) HC0_3.out (Kd.cb HR0_4 HB) HC0_4.out (Kd.cb HR1 HB) HC1.out (Glob.below HG.out (bl HB)) A4.out).mono ?_); rintro e w51 ⟨rfl, hb⟩; refine ⟨_, rfl, ?_⟩; replace BK765 := kb BK765 hb; replace HB := sb HB hb; (try clear hb); (try clear hb2 hk hi); obtain ⟨Z52_0, Z52_1, Z52_2, Z52_3, Z52_4, Y52_0, Y52_1, Y52_2, Y52_3, Y52_4⟩ := bq5 BK765) | ((with_reducible refine gate_callee (f := 85) rfl ?_); refine goesL_ (some 18) rfl rfl Tryd.func85 (by kernel_rfl) rfl #[.agg #[.string a0_0, .slice A0_1 l0_1.length c0_1, .slice A0_2 l0_2.length c0_2, .slice A0_3 l0_3.length c0_3, .slice A0_4 l0_4.length c0_4], .slice A2 l2.length c2] rfl ar ?_; (with_reducible refine (vellumref03_Admits.calls k a0_0 _ _ l0_1 _ _ l0_2 _ _ l0_3 _ _ l0_4 _ _ l2 t767 _ (Kd.cb HR0_1 HB) HC0_1.out (Kd.cb HR0_2 HB) HC0_2.out (Kd.cb HR0_3 HB) HC0_3.out (Kd.cb HR0_4 HB) HC0_4.out (Kd.cb HR2 HB) HC2.out (Glob.below HG.out (bl HB)) A5.out).mono ?_); rintro e w53 ⟨rfl, hb⟩; refine ⟨_, rfl, ?_⟩; replace BK765 := kb BK765 hb; replace HB := sb HB hb; (try clear hb); (try clear hb2 hk hi)))
      go_ret2
      exact ⟨er, bl HB⟩
  · rw [if_neg c6] at H
    have c6b0 : (t766 == 0) = false := beq_eq_false_iff_ne.mpr c6
    have c6b1 : (t766 != 0) = true := bne_iff_ne.mpr c6
    simp only [Option.some.injEq, Prod.mk.injEq] at H
    obtain ⟨rfl, rfl⟩ := H
    go_enter Tryd.func56, Tryd.ntmps56
    go_wp2_with (first | ((with_reducible refine gate_dst (N := 3) rfl ?_); refine box_event rfl (N := 3) rfl (cs := #[.string a0_0, .slice A0_1 l0_1.length c0_1, .slice A0_2 l0_2.length c0_2, .slice A0_3 l0_3.length c0_3, .slice A0_4 l0_4.length c0_4]) (t := 65) gs ?_; intro gb765 hg w54 hbox hb; have BK765 := am (hbox); have GW765 := gw hg HB; have GE765 := gw hg HB; replace HB := sb HB hb; clear hb hbox hg; obtain ⟨Z55_0, Z55_1, Z55_2, Z55_3, Z55_4, Y55_0, Y55_1, Y55_2, Y55_3, Y55_4⟩ := bq5 BK765) | ((with_reducible refine gate_callee (f := 85) rfl ?_); refine goesL_ (some 15) rfl rfl Tryd.func85 (by kernel_rfl) rfl #[.agg #[.string a0_0, .slice A0_1 l0_1.length c0_1, .slice A0_2 l0_2.length c0_2, .slice A0_3 l0_3.length c0_3, .slice A0_4 l0_4.length c0_4], .slice A1 l1.length c1] rfl ar ?_; (with_reducible refine (vellumref03_Admits.calls k a0_0 _ _ l0_1 _ _ l0_2 _ _ l0_3 _ _ l0_4 _ _ l1 t766 _ (Kd.cb HR0_1 HB) HC0_1.out (Kd.cb HR0_2 HB) HC0_2.out (Kd.cb HR0_3 HB) HC0_3.out (Kd.cb HR0_4 HB) HC0_4.out (Kd.cb HR1 HB) HC1.out (Glob.below HG.out (bl HB)) A4.out).mono ?_); rintro e w56 ⟨rfl, hb⟩; refine ⟨_, rfl, ?_⟩; replace BK765 := kb BK765 hb; replace HB := sb HB hb; (try clear hb); (try clear hb2 hk hi); obtain ⟨Z57_0, Z57_1, Z57_2, Z57_3, Z57_4, Y57_0, Y57_1, Y57_2, Y57_3, Y57_4⟩ := bq5 BK765) | ((with_reducible refine gate_callee (f := 85) rfl ?_); refine goesL_ (some 18) rfl rfl Tryd.func85 (by kernel_rfl) rfl #[.agg #[.string a0_0, .slice A0_1 l0_1.length c0_1, .slice A0_2 l0_2.length c0_2, .slice A0_3 l0_3.length c0_3, .slice A0_4 l0_4.length c0_4], .slice A2 l2.length c2] rfl ar ?_; (with_reducible refine (vellumref03_Admits.calls k a0_0 _ _ l0_1 _ _ l0_2 _ _ l0_3 _ _ l0_4 _ _ l2 t767 _ (Kd.cb HR0_1 HB) HC0_1.out (Kd.cb HR0_2 HB) HC0_2.out (Kd.cb HR0_3 HB) HC0_3.out (Kd.cb HR0_4 HB) HC0_4.out (Kd.cb HR2 HB) HC2.out (Glob.below HG.out (bl HB)) A5.out).mono ?_); rintro e w58 ⟨rfl, hb⟩; refine ⟨_, rfl, ?_⟩; replace BK765 := kb BK765 hb; replace HB := sb HB hb; (try clear hb); (try clear hb2 hk hi)))
    go_ret2
    exact ⟨er, bl HB⟩
def row_Same.l0 : Nat → List (S50) → List (S50) → Int → Int → Option (Bool)
  | 0, _, _, _, _ => none
  | k + 1, x0, x1, x12, x13 => if x13 < x12 then (if 0 ≤ x13 then (if x13 < (x0.length : Int) then (if x13 < (x1.length : Int) then ((row_same.f ((rd_T50 x0 x13).f0) ((rd_T50 x0 x13).f1) ((rd_T50 x0 x13).f2) ((rd_T50 x0 x13).f3) ((rd_T50 x1 x13).f0) ((rd_T50 x1 x13).f1) ((rd_T50 x1 x13).f2) ((rd_T50 x1 x13).f3)).bind fun t789 => (if t789 = true then (row_Same.l0 k x0 x1 x12 (wrap64 (x13 + 1))) else (some false))) else (none)) else (none)) else (none)) else (some true)
def row_Same.f (k : Nat) (l0 : List (S50)) (l1 : List (S50)) : Option (Bool) := if (l0.length : Int) = (l1.length : Int) then (row_Same.l0 k l0 l1 (l0.length : Int) 0) else (some false)
def row_Same.T6 : Bool × List (List Nat × List Nat) := (true, [([], []), ([], []), ([0, 1], [0, 1]), ([2], [2]), ([], []), ([], []), ([4, 5], [4, 5]), ([6], [6]), ([3, 7], [3, 7]), ([8], [8])])
def row_Same.B6 : List Nat := [0, 0, 3, 7, 0, 0, 48, 112, 255, 511]
theorem row_Same.tab6 : rtab .any (opsOf Tryd.f57 6) = row_Same.T6 := by kernel_rfl
theorem row_Same.bits6 : waitsOk row_Same.T6.2 row_Same.B6 = true := by kernel_rfl
set_option maxHeartbeats 8000000 in
set_option maxRecDepth 100000 in
theorem row_Same.calls (k : Nat) (A0 : Option Addr) (c0 : Nat) (l0 : List (S50)) (A1 : Option Addr) (c1 : Nat) (l1 : List (S50)) (r : Bool) (w : World) (hr0 : Kd.C k50 w A0 l0.length l0) (hc0 : l0.length ≤ c0) (hr1 : Kd.C k50 w A1 l1.length l1) (hc1 : l1.length ≤ c1) (h : row_Same.f k l0 l1 = some r) :
    Calls Tryd.prog 57 #[.slice A0 l0.length c0, .slice A1 l1.length c1] w fun e w' => e = .returned (.bool r) ∧ Below w.heap.size w w' := by
  have hu50 := Tryd.underlying50
  have HR0 := am hr0
  have HC0 := am hc0
  clear hr0 hc0
  have HR1 := am hr1
  have HC1 := am hc1
  clear hr1 hc1
  have HB := am (Below.refl w.heap.size w)
  have H : (if (l0.length : Int) = (l1.length : Int) then (row_Same.l0 k l0 l1 (l0.length : Int) 0) else (some false)) = some r := h
  clear h
  by_cases c3 : (l0.length : Int) = (l1.length : Int)
  · rw [if_pos c3] at H
    have c3b0 : ((l0.length : Int) == (l1.length : Int)) = true := beq_iff_eq.mpr c3
    have c3b1 : ((l0.length : Int) != (l1.length : Int)) = false := bne_eq_false_iff_eq.mpr c3
    have c3b2 : (l0.length == l1.length) = true := by first | simpa using c3 | (simp at c3 ⊢; omega)
    clear c3
    have H' := am H
    clear H
    go_enter Tryd.func57, Tryd.ntmps57
    go_wp2
    go_loopg [13] k (fun kq v13 w' => ∃ (x13_1 : Int), v13 = .int .i64 x13_1 ∧ Aside0 (row_Same.l0 kq l0 l1 (l0.length : Int) x13_1 = some r) ∧ Aside0 (kq ≤ k) ∧ Aside0 (Below w.heap.size w w'))
    case atStart => exact ⟨(0), eb, H', ⟨Nat.le_refl _⟩, ⟨bl HB⟩⟩
    case round =>
      clear H'
      try clear c1
      try clear p2
      try clear c3
      try clear c3b0
      try clear c3b1
      try clear c3b2
      obtain ⟨x13_1, rfl, HA, HK1, HB⟩ := hrel
      cases gk with
      | zero => exact absurd HA.out (by simp [row_Same.l0])
      | succ k1 =>
        have H := HA.out
        clear HA
        simp only [row_Same.l0] at H
        by_cases c4 : x13_1 < (l0.length : Int)
        · rw [if_pos c4] at H
          have c4b0 : decide (x13_1 < (l0.length : Int)) = true := decide_eq_true c4
          clear c4
          by_cases c5 : 0 ≤ x13_1
          · rw [if_pos c5] at H
            have c5b0 : decide (0 ≤ x13_1) = true := decide_eq_true c5
            clear c5
            by_cases c6 : x13_1 < (l0.length : Int)
            · rw [if_pos c6] at H
              have c6b0 : decide (x13_1 < (l0.length : Int)) = true := decide_eq_true c6
              clear c6
              by_cases c7 : x13_1 < (l1.length : Int)
              · rw [if_pos c7] at H
                have c7b0 : decide (x13_1 < (l1.length : Int)) = true := decide_eq_true c7
                clear c7
                replace H := Option.bind_eq_some_iff.mp H
                obtain ⟨t789, A80, H⟩ := H
                replace H : (if t789 = true then (row_Same.l0 k1 l0 l1 (l0.length : Int) (wrap64 (x13_1 + 1))) else (some false)) = some r := H
                have A8 := am A80
                clear A80
                by_cases c9 : t789 = true
                · subst c9
                  have H1 : (row_Same.l0 k1 l0 l1 (l0.length : Int) (wrap64 (x13_1 + 1))) = some r := by rw [if_pos rfl] at H; exact H
                  clear H
                  have H := H1
                  clear H1
                  have H' := am H
                  clear H
                  try go_wp2
                  have n0_ := am (below_drew1 HB.out)
                  clear HB
                  have HB := n0_
                  clear n0_
                  have p787 : 0 ≤ (x13_1 : Int) := oda
                  have q787 : x13_1 < (l0.length : Int) := oda
                  obtain ⟨ad787, e787, hx787_0, hx787_1, hx787_2, hx787_3⟩ := at_T50 HR0.out x13_1 p787 q787
                  have hw787_3 := hx787_3
                  have hw787_2 := hx787_2
                  have hw787_1 := hx787_1
                  have hw787_0 := hx787_0
                  cases e787
                  replace hx787_0 := hc HB hx787_0
                  replace hx787_1 := hc HB hx787_1
                  replace hx787_2 := hc HB hx787_2
                  replace hx787_3 := hc HB hx787_3
                  replace p787 := eq_true p787
                  replace q787 := eq_true q787
                  have p788 : 0 ≤ (x13_1 : Int) := oda
                  have q788 : x13_1 < (l1.length : Int) := oda
                  obtain ⟨ad788, e788, hx788_0, hx788_1, hx788_2, hx788_3⟩ := at_T50 HR1.out x13_1 p788 q788
                  have hw788_3 := hx788_3
                  have hw788_2 := hx788_2
                  have hw788_1 := hx788_1
                  have hw788_0 := hx788_0
                  cases e788
                  replace hx788_0 := hc HB hx788_0
                  replace hx788_1 := hc HB hx788_1
                  replace hx788_2 := hc HB hx788_2
                  replace hx788_3 := hc HB hx788_3
                  replace p788 := eq_true p788
                  replace q788 := eq_true q788
                  refine start_ (n := 10) (S := fun w' => w'.cell? (ad787.add ((x13_1).toNat * 4)) = some (.int .i64 ((rd_T50 l0 x13_1).f0)) ∧ w'.cell? ⟨(ad787.add ((x13_1).toNat * 4)).block, (ad787.add ((x13_1).toNat * 4)).off + 1, none⟩ = some (.int .i64 ((rd_T50 l0 x13_1).f1)) ∧ w'.cell? ⟨(ad787.add ((x13_1).toNat * 4)).block, (ad787.add ((x13_1).toNat * 4)).off + 2, none⟩ = some (.float .f64 ((rd_T50 l0 x13_1).f2)) ∧ w'.cell? ⟨(ad787.add ((x13_1).toNat * 4)).block, (ad787.add ((x13_1).toNat * 4)).off + 3, none⟩ = some (.string ((rd_T50 l0 x13_1).f3)) ∧ w'.cell? (ad788.add ((x13_1).toNat * 4)) = some (.int .i64 ((rd_T50 l1 x13_1).f0)) ∧ w'.cell? ⟨(ad788.add ((x13_1).toNat * 4)).block, (ad788.add ((x13_1).toNat * 4)).off + 1, none⟩ = some (.int .i64 ((rd_T50 l1 x13_1).f1)) ∧ w'.cell? ⟨(ad788.add ((x13_1).toNat * 4)).block, (ad788.add ((x13_1).toNat * 4)).off + 2, none⟩ = some (.float .f64 ((rd_T50 l1 x13_1).f2)) ∧ w'.cell? ⟨(ad788.add ((x13_1).toNat * 4)).block, (ad788.add ((x13_1).toNat * 4)).off + 3, none⟩ = some (.string ((rd_T50 l1 x13_1).f3))) (ds := []) (bb 0 10) (by kernel_rfl) rfl rfl ⟨(hc HB hw787_0), (hc HB hw787_1), (hc HB hw787_2), (hc HB hw787_3), (hc HB hw788_0), (hc HB hw788_1), (hc HB hw788_2), (hc HB hw788_3)⟩ (fun hHeld => ?_); refine with_tabW row_Same.tab6 row_Same.bits6 (fun HT_ HW_ => ?_)
                  generalize wr.drew = w10 at HB hx787_0 hx787_1 hx787_2 hx787_3 hx788_0 hx788_1 hx788_2 hx788_3 hHeld ⊢
                  refine pu HT_ 0 (some 16) (bb 1 10) ?_
                  refine pu HT_ 1 (some 17) (bb 2 10) ?_
                  refine pu HT_ 2 (some 18) (bb 3 10) ?_
                  refine pu HT_ 4 (some 20) (bs 10 23) ?_
                  refine pu HT_ 5 (some 21) (bs 10 55) ?_
                  refine pu HT_ 6 (some 22) (bs 10 119) ?_
                  refine tk HT_ HW_ hHeld 3 (some 19) (bb 7 10) ?_
                  refine tk HT_ HW_ hHeld 7 (some 23) (bb 8 10) ?_
                  refine one_ (i := 8) (N := some 24) (bb 9 10) rfl rfl (one_of HT_.out (by kernel_rfl)) (by decide) (fun K hK => ?_)
                  refine goes_ Tryd.func88 (by kernel_rfl) rfl #[.agg #[.int .i64 ((rd_T50 l0 x13_1).f0), .int .i64 ((rd_T50 l0 x13_1).f1), .float .f64 ((rd_T50 l0 x13_1).f2), .string ((rd_T50 l0 x13_1).f3)], .agg #[.int .i64 ((rd_T50 l1 x13_1).f0), .int .i64 ((rd_T50 l1 x13_1).f1), .float .f64 ((rd_T50 l1 x13_1).f2), .string ((rd_T50 l1 x13_1).f3)]] (by rfl) rfl rfl ar ?_
                  with_reducible refine (row_same.calls ((rd_T50 l0 x13_1).f0) ((rd_T50 l0 x13_1).f1) ((rd_T50 l0 x13_1).f2) ((rd_T50 l0 x13_1).f3) ((rd_T50 l1 x13_1).f0) ((rd_T50 l1 x13_1).f1) ((rd_T50 l1 x13_1).f2) ((rd_T50 l1 x13_1).f3) true _ A8.out).mono ?_
                  rintro e w11 ⟨rfl, hb⟩
                  refine ⟨_, rfl, ?_⟩
                  have n0_ := sb HB hb
                  clear HB
                  have HB := n0_
                  clear n0_
                  (try clear hb)
                  (try clear hb2)
                  (try clear hk)
                  (try clear hi)
                  refine hK.out _ _ ⟨(hc HB hw787_0), (hc HB hw787_1), (hc HB hw787_2), (hc HB hw787_3), (hc HB hw788_0), (hc HB hw788_1), (hc HB hw788_2), (hc HB hw788_3)⟩ (fun hHeld => ?_)
                  clear hK K
                  refine norm_ (a' := ?_) ?_ ?_
                  rotate_left
                  · show Act.put _ (some 24) _ = _
                    simp only [Act.put, List.setIfInBounds_toArray, List.set_cons_zero, List.set_cons_succ, i64_w, i32_w]
                    rfl
                  refine pu HT_ 9 (some 25) (bb 10 10) ?_
                  refine done_ (done_of HT_.out (by kernel_rfl)) ?_
                  try go_wp2
                  go_roundg k1
                  case measure => have := HK1.out; omega
                  case rel => exact ⟨(wrap64 (x13_1 + 1)), eb, H', ⟨by have := HK1.out; omega⟩, ⟨bl HB⟩⟩
                · replace c9 := Bool.eq_false_iff.mpr c9
                  subst c9
                  have H1 : (some false) = some r := by rw [if_neg (show ¬ (false = true) by decide)] at H; exact H
                  clear H
                  have H := H1
                  clear H1
                  obtain rfl := Option.some.inj H
                  try go_wp2
                  have n0_ := am (below_drew1 HB.out)
                  clear HB
                  have HB := n0_
                  clear n0_
                  have p787 : 0 ≤ (x13_1 : Int) := oda
                  have q787 : x13_1 < (l0.length : Int) := oda
                  obtain ⟨ad787, e787, hx787_0, hx787_1, hx787_2, hx787_3⟩ := at_T50 HR0.out x13_1 p787 q787
                  have hw787_3 := hx787_3
                  have hw787_2 := hx787_2
                  have hw787_1 := hx787_1
                  have hw787_0 := hx787_0
                  cases e787
                  replace hx787_0 := hc HB hx787_0
                  replace hx787_1 := hc HB hx787_1
                  replace hx787_2 := hc HB hx787_2
                  replace hx787_3 := hc HB hx787_3
                  replace p787 := eq_true p787
                  replace q787 := eq_true q787
                  have p788 : 0 ≤ (x13_1 : Int) := oda
                  have q788 : x13_1 < (l1.length : Int) := oda
                  obtain ⟨ad788, e788, hx788_0, hx788_1, hx788_2, hx788_3⟩ := at_T50 HR1.out x13_1 p788 q788
                  have hw788_3 := hx788_3
                  have hw788_2 := hx788_2
                  have hw788_1 := hx788_1
                  have hw788_0 := hx788_0
                  cases e788
                  replace hx788_0 := hc HB hx788_0
                  replace hx788_1 := hc HB hx788_1
                  replace hx788_2 := hc HB hx788_2
                  replace hx788_3 := hc HB hx788_3
                  replace p788 := eq_true p788
                  replace q788 := eq_true q788
                  refine start_ (n := 10) (S := fun w' => w'.cell? (ad787.add ((x13_1).toNat * 4)) = some (.int .i64 ((rd_T50 l0 x13_1).f0)) ∧ w'.cell? ⟨(ad787.add ((x13_1).toNat * 4)).block, (ad787.add ((x13_1).toNat * 4)).off + 1, none⟩ = some (.int .i64 ((rd_T50 l0 x13_1).f1)) ∧ w'.cell? ⟨(ad787.add ((x13_1).toNat * 4)).block, (ad787.add ((x13_1).toNat * 4)).off + 2, none⟩ = some (.float .f64 ((rd_T50 l0 x13_1).f2)) ∧ w'.cell? ⟨(ad787.add ((x13_1).toNat * 4)).block, (ad787.add ((x13_1).toNat * 4)).off + 3, none⟩ = some (.string ((rd_T50 l0 x13_1).f3)) ∧ w'.cell? (ad788.add ((x13_1).toNat * 4)) = some (.int .i64 ((rd_T50 l1 x13_1).f0)) ∧ w'.cell? ⟨(ad788.add ((x13_1).toNat * 4)).block, (ad788.add ((x13_1).toNat * 4)).off + 1, none⟩ = some (.int .i64 ((rd_T50 l1 x13_1).f1)) ∧ w'.cell? ⟨(ad788.add ((x13_1).toNat * 4)).block, (ad788.add ((x13_1).toNat * 4)).off + 2, none⟩ = some (.float .f64 ((rd_T50 l1 x13_1).f2)) ∧ w'.cell? ⟨(ad788.add ((x13_1).toNat * 4)).block, (ad788.add ((x13_1).toNat * 4)).off + 3, none⟩ = some (.string ((rd_T50 l1 x13_1).f3))) (ds := []) (bb 0 10) (by kernel_rfl) rfl rfl ⟨(hc HB hw787_0), (hc HB hw787_1), (hc HB hw787_2), (hc HB hw787_3), (hc HB hw788_0), (hc HB hw788_1), (hc HB hw788_2), (hc HB hw788_3)⟩ (fun hHeld => ?_); refine with_tabW row_Same.tab6 row_Same.bits6 (fun HT_ HW_ => ?_)
                  generalize wr.drew = w12 at HB hx787_0 hx787_1 hx787_2 hx787_3 hx788_0 hx788_1 hx788_2 hx788_3 hHeld ⊢
                  refine pu HT_ 0 (some 16) (bb 1 10) ?_
                  refine pu HT_ 1 (some 17) (bb 2 10) ?_
                  refine pu HT_ 2 (some 18) (bb 3 10) ?_
                  refine pu HT_ 4 (some 20) (bs 10 23) ?_
                  refine pu HT_ 5 (some 21) (bs 10 55) ?_
                  refine pu HT_ 6 (some 22) (bs 10 119) ?_
                  refine tk HT_ HW_ hHeld 3 (some 19) (bb 7 10) ?_
                  refine tk HT_ HW_ hHeld 7 (some 23) (bb 8 10) ?_
                  refine one_ (i := 8) (N := some 24) (bb 9 10) rfl rfl (one_of HT_.out (by kernel_rfl)) (by decide) (fun K hK => ?_)
                  refine goes_ Tryd.func88 (by kernel_rfl) rfl #[.agg #[.int .i64 ((rd_T50 l0 x13_1).f0), .int .i64 ((rd_T50 l0 x13_1).f1), .float .f64 ((rd_T50 l0 x13_1).f2), .string ((rd_T50 l0 x13_1).f3)], .agg #[.int .i64 ((rd_T50 l1 x13_1).f0), .int .i64 ((rd_T50 l1 x13_1).f1), .float .f64 ((rd_T50 l1 x13_1).f2), .string ((rd_T50 l1 x13_1).f3)]] (by rfl) rfl rfl ar ?_
                  with_reducible refine (row_same.calls ((rd_T50 l0 x13_1).f0) ((rd_T50 l0 x13_1).f1) ((rd_T50 l0 x13_1).f2) ((rd_T50 l0 x13_1).f3) ((rd_T50 l1 x13_1).f0) ((rd_T50 l1 x13_1).f1) ((rd_T50 l1 x13_1).f2) ((rd_T50 l1 x13_1).f3) false _ A8.out).mono ?_
                  rintro e w13 ⟨rfl, hb⟩
                  refine ⟨_, rfl, ?_⟩
                  have n0_ := sb HB hb
                  clear HB
                  have HB := n0_
                  clear n0_
                  (try clear hb)
                  (try clear hb2)
                  (try clear hk)
                  (try clear hi)
                  refine hK.out _ _ ⟨(hc HB hw787_0), (hc HB hw787_1), (hc HB hw787_2), (hc HB hw787_3), (hc HB hw788_0), (hc HB hw788_1), (hc HB hw788_2), (hc HB hw788_3)⟩ (fun hHeld => ?_)
                  clear hK K
                  refine norm_ (a' := ?_) ?_ ?_
                  rotate_left
                  · show Act.put _ (some 24) _ = _
                    simp only [Act.put, List.setIfInBounds_toArray, List.set_cons_zero, List.set_cons_succ, i64_w, i32_w]
                    rfl
                  refine pu HT_ 9 (some 25) (bb 10 10) ?_
                  refine done_ (done_of HT_.out (by kernel_rfl)) ?_
                  try go_wp2
                  go_ret
                  exact ⟨er, bl HB⟩
              · rw [if_neg c7] at H
                exact absurd H (by simp)
            · rw [if_neg c6] at H
              exact absurd H (by simp)
          · rw [if_neg c5] at H
            exact absurd H (by simp)
        · rw [if_neg c4] at H
          have c4b0 : decide (x13_1 < (l0.length : Int)) = false := decide_eq_false c4
          clear c4
          obtain rfl := Option.some.inj H
          go_wp2
          go_ret
          exact ⟨er, bl HB⟩
  · rw [if_neg c3] at H
    have c3b0 : ((l0.length : Int) == (l1.length : Int)) = false := beq_eq_false_iff_ne.mpr c3
    have c3b1 : ((l0.length : Int) != (l1.length : Int)) = true := bne_iff_ne.mpr c3
    have c3b2 : (l0.length == l1.length) = false := by first | simpa using c3 | (simp at c3 ⊢; omega)
    obtain rfl := Option.some.inj H
    go_enter Tryd.func57, Tryd.ntmps57
    go_wp2
    go_ret
    exact ⟨er, bl HB⟩
def vellumlaw04_RowChanges.f (k : Nat) (a0_0 : ByteArray) (l0_1 : List (S105)) (l0_2 : List Int) (l0_3 : List (S115)) (l0_4 : List (S139)) (l1 : List (S50)) (l2 : List (S50)) : Option (Bool) := (row_Change.f k a0_0 l0_1 l0_2 l0_3 l0_4 l1 l2).bind fun bt791 => ((vellumref04_Change.f k a0_0 l0_1 l0_2 l0_3 l0_4 l1 l2).bind fun bt793 => (if bt791.1.toList = bt793.1.toList then (if bt791.2 = bt793.2 then ((row_Same.f k l1 l2).bind fun t795 => ((vellumref01_SameRow.f k l1 l2).bind fun t796 => (if (t795 == t796) = true then ((vellumlaw04_awake.f k).bind fun t797 => (some t797)) else (some false)))) else (some false)) else (some false)))
set_option maxHeartbeats 8000000 in
set_option maxRecDepth 100000 in
theorem vellumlaw04_RowChanges.calls (k : Nat) (a0_0 : ByteArray) (A0_1 : Option Addr) (c0_1 : Nat) (l0_1 : List (S105)) (A0_2 : Option Addr) (c0_2 : Nat) (l0_2 : List Int) (A0_3 : Option Addr) (c0_3 : Nat) (l0_3 : List (S115)) (A0_4 : Option Addr) (c0_4 : Nat) (l0_4 : List (S139)) (A1 : Option Addr) (c1 : Nat) (l1 : List (S50)) (A2 : Option Addr) (c2 : Nat) (l2 : List (S50)) (r : Bool) (w : World) (hr0_1 : Kd.C k105 w A0_1 l0_1.length l0_1) (hc0_1 : l0_1.length ≤ c0_1) (hr0_2 : Kd.C (Kd.int .i64) w A0_2 l0_2.length l0_2) (hc0_2 : l0_2.length ≤ c0_2) (hr0_3 : Kd.C k115 w A0_3 l0_3.length l0_3) (hc0_3 : l0_3.length ≤ c0_3) (hr0_4 : Kd.C k139 w A0_4 l0_4.length l0_4) (hc0_4 : l0_4.length ≤ c0_4) (hr1 : Kd.C k50 w A1 l1.length l1) (hc1 : l1.length ≤ c1) (hr2 : Kd.C k50 w A2 l2.length l2) (hc2 : l2.length ≤ c2) (hG : Glob w) (h : vellumlaw04_RowChanges.f k a0_0 l0_1 l0_2 l0_3 l0_4 l1 l2 = some r) :
    Calls Tryd.prog 14 #[.agg #[.string a0_0, .slice A0_1 l0_1.length c0_1, .slice A0_2 l0_2.length c0_2, .slice A0_3 l0_3.length c0_3, .slice A0_4 l0_4.length c0_4], .slice A1 l1.length c1, .slice A2 l2.length c2] w fun e w' => e = .returned (.bool r) ∧ Below w.heap.size w w' := by
  have hu65 := Tryd.underlying65
  have HR0_1 := am hr0_1
  have HC0_1 := am hc0_1
  clear hr0_1 hc0_1
  have HR0_2 := am hr0_2
  have HC0_2 := am hc0_2
  clear hr0_2 hc0_2
  have HR0_3 := am hr0_3
  have HC0_3 := am hc0_3
  clear hr0_3 hc0_3
  have HR0_4 := am hr0_4
  have HC0_4 := am hc0_4
  clear hr0_4 hc0_4
  have HR1 := am hr1
  have HC1 := am hc1
  clear hr1 hc1
  have HR2 := am hr2
  have HC2 := am hc2
  clear hr2 hc2
  have HG := am hG
  clear hG
  have HB := am (Below.refl w.heap.size w)
  have H : ((row_Change.f k a0_0 l0_1 l0_2 l0_3 l0_4 l1 l2).bind fun bt791 => ((vellumref04_Change.f k a0_0 l0_1 l0_2 l0_3 l0_4 l1 l2).bind fun bt793 => (if bt791.1.toList = bt793.1.toList then (if bt791.2 = bt793.2 then ((row_Same.f k l1 l2).bind fun t795 => ((vellumref01_SameRow.f k l1 l2).bind fun t796 => (if (t795 == t796) = true then ((vellumlaw04_awake.f k).bind fun t797 => (some t797)) else (some false)))) else (some false)) else (some false)))) = some r := h
  clear h
  replace H := Option.bind_eq_some_iff.mp H
  obtain ⟨⟨t791, t792⟩, A40, H⟩ := H
  replace H : ((vellumref04_Change.f k a0_0 l0_1 l0_2 l0_3 l0_4 l1 l2).bind fun bt793 => (if t791.toList = bt793.1.toList then (if t792 = bt793.2 then ((row_Same.f k l1 l2).bind fun t795 => ((vellumref01_SameRow.f k l1 l2).bind fun t796 => (if (t795 == t796) = true then ((vellumlaw04_awake.f k).bind fun t797 => (some t797)) else (some false)))) else (some false)) else (some false))) = some r := H
  have A4 := am A40
  clear A40
  replace H := Option.bind_eq_some_iff.mp H
  obtain ⟨⟨t793, t794⟩, A50, H⟩ := H
  replace H : (if t791.toList = t793.toList then (if t792 = t794 then ((row_Same.f k l1 l2).bind fun t795 => ((vellumref01_SameRow.f k l1 l2).bind fun t796 => (if (t795 == t796) = true then ((vellumlaw04_awake.f k).bind fun t797 => (some t797)) else (some false)))) else (some false)) else (some false)) = some r := H
  have A5 := am A50
  clear A50
  by_cases c6 : t791.toList = t793.toList
  · rw [if_pos c6] at H
    have c6b0 : (t791.toList == t793.toList) = true := beq_iff_eq.mpr c6
    have c6b1 : (t791.toList != t793.toList) = false := bne_eq_false_iff_eq.mpr c6
    clear c6
    by_cases c7 : t792 = t794
    · rw [if_pos c7] at H
      have c7b0 : (t792 == t794) = true := beq_iff_eq.mpr c7
      have c7b1 : (t792 != t794) = false := bne_eq_false_iff_eq.mpr c7
      clear c7
      replace H := Option.bind_eq_some_iff.mp H
      obtain ⟨t795, A80, H⟩ := H
      replace H : ((vellumref01_SameRow.f k l1 l2).bind fun t796 => (if (t795 == t796) = true then ((vellumlaw04_awake.f k).bind fun t797 => (some t797)) else (some false))) = some r := H
      have A8 := am A80
      clear A80
      replace H := Option.bind_eq_some_iff.mp H
      obtain ⟨t796, A90, H⟩ := H
      replace H : (if (t795 == t796) = true then ((vellumlaw04_awake.f k).bind fun t797 => (some t797)) else (some false)) = some r := H
      have A9 := am A90
      clear A90
      by_cases c10 : (t795 == t796) = true
      · rw [if_pos c10] at H
        have c10b0 : (t795 == t796) = true := c10
        (try (have c10b1 : decide (t795 = t796) = true := by simpa using c10))
        (try (have c10b2 : (t795 == t796) = true := by simpa using c10))
        clear c10
        replace H := Option.bind_eq_some_iff.mp H
        obtain ⟨t797, A110, H⟩ := H
        replace H : (some t797) = some r := H
        have A11 := am A110
        clear A110
        obtain rfl := Option.some.inj H
        go_enter Tryd.func14, Tryd.ntmps14
        go_wp2_with (first | ((with_reducible refine gate_dst (N := 3) rfl ?_); refine box_event rfl (N := 3) rfl (cs := #[.string a0_0, .slice A0_1 l0_1.length c0_1, .slice A0_2 l0_2.length c0_2, .slice A0_3 l0_3.length c0_3, .slice A0_4 l0_4.length c0_4]) (t := 65) gs ?_; intro gb790 hg w12 hbox hb; have BK790 := am (hbox); have GW790 := gw hg HB; have GE790 := gw hg HB; replace HB := sb HB hb; clear hb hbox hg; obtain ⟨Z13_0, Z13_1, Z13_2, Z13_3, Z13_4, Y13_0, Y13_1, Y13_2, Y13_3, Y13_4⟩ := bq5 BK790) | ((with_reducible refine gate_callee (f := 55) rfl ?_); refine goesL_ (some 15) rfl rfl Tryd.func55 (by kernel_rfl) rfl #[.agg #[.string a0_0, .slice A0_1 l0_1.length c0_1, .slice A0_2 l0_2.length c0_2, .slice A0_3 l0_3.length c0_3, .slice A0_4 l0_4.length c0_4], .slice A1 l1.length c1, .slice A2 l2.length c2] rfl ar ?_; (with_reducible refine (row_Change.calls k a0_0 _ _ l0_1 _ _ l0_2 _ _ l0_3 _ _ l0_4 _ _ l1 _ _ l2 t791 t792 _ (Kd.cb HR0_1 HB) HC0_1.out (Kd.cb HR0_2 HB) HC0_2.out (Kd.cb HR0_3 HB) HC0_3.out (Kd.cb HR0_4 HB) HC0_4.out (Kd.cb HR1 HB) HC1.out (Kd.cb HR2 HB) HC2.out (Glob.below HG.out (bl HB)) A4.out).mono ?_); rintro e w14 ⟨rfl, hb⟩; refine ⟨_, rfl, ?_⟩; replace BK790 := kb BK790 hb; replace HB := sb HB hb; (try clear hb); (try clear hb2 hk hi); obtain ⟨Z15_0, Z15_1, Z15_2, Z15_3, Z15_4, Y15_0, Y15_1, Y15_2, Y15_3, Y15_4⟩ := bq5 BK790) | ((with_reducible refine gate_callee (f := 56) rfl ?_); refine goesL_ (some 22) rfl rfl Tryd.func56 (by kernel_rfl) rfl #[.agg #[.string a0_0, .slice A0_1 l0_1.length c0_1, .slice A0_2 l0_2.length c0_2, .slice A0_3 l0_3.length c0_3, .slice A0_4 l0_4.length c0_4], .slice A1 l1.length c1, .slice A2 l2.length c2] rfl ar ?_; (with_reducible refine (vellumref04_Change.calls k a0_0 _ _ l0_1 _ _ l0_2 _ _ l0_3 _ _ l0_4 _ _ l1 _ _ l2 t793 t794 _ (Kd.cb HR0_1 HB) HC0_1.out (Kd.cb HR0_2 HB) HC0_2.out (Kd.cb HR0_3 HB) HC0_3.out (Kd.cb HR0_4 HB) HC0_4.out (Kd.cb HR1 HB) HC1.out (Kd.cb HR2 HB) HC2.out (Glob.below HG.out (bl HB)) A5.out).mono ?_); rintro e w16 ⟨rfl, hb⟩; refine ⟨_, rfl, ?_⟩; replace BK790 := kb BK790 hb; replace HB := sb HB hb; (try clear hb); (try clear hb2 hk hi)) | (go_at_call 57; (with_reducible refine (row_Same.calls k _ _ l1 _ _ l2 t795 _ (Kd.cb HR1 HB) HC1.out (Kd.cb HR2 HB) HC2.out A8.out).mono ?_); rintro e w17 ⟨rfl, hb⟩; replace BK790 := kb BK790 hb; replace HB := sb HB hb; (try clear hb); (try clear hb2 hk hi)) | (go_at_call 45; (with_reducible refine (vellumref01_SameRow.calls k _ _ l1 _ _ l2 t796 _ (Kd.cb HR1 HB) HC1.out (Kd.cb HR2 HB) HC2.out A9.out).mono ?_); rintro e w18 ⟨rfl, hb⟩; replace BK790 := kb BK790 hb; replace HB := sb HB hb; (try clear hb); (try clear hb2 hk hi)) | (go_at_call 54; (with_reducible refine (vellumlaw04_awake.calls k  t797 _ (Glob.below HG.out (bl HB)) A11.out).mono ?_); rintro e w19 ⟨rfl, hb⟩; replace BK790 := kb BK790 hb; replace HB := sb HB hb; (try clear hb); (try clear hb2 hk hi)))
        go_ret
        exact ⟨er, bl HB⟩
      · rw [if_neg c10] at H
        have c10b0 : (t795 == t796) = false := by simpa using c10
        (try (have c10b1 : decide (t795 = t796) = false := by simpa using c10))
        (try (have c10b2 : (t795 == t796) = false := by simpa using c10))
        (try (have c10b3 : ¬ (t795 = t796) := by simpa using c10))
        clear c10
        obtain rfl := Option.some.inj H
        go_enter Tryd.func14, Tryd.ntmps14
        go_wp2_with (first | ((with_reducible refine gate_dst (N := 3) rfl ?_); refine box_event rfl (N := 3) rfl (cs := #[.string a0_0, .slice A0_1 l0_1.length c0_1, .slice A0_2 l0_2.length c0_2, .slice A0_3 l0_3.length c0_3, .slice A0_4 l0_4.length c0_4]) (t := 65) gs ?_; intro gb790 hg w20 hbox hb; have BK790 := am (hbox); have GW790 := gw hg HB; have GE790 := gw hg HB; replace HB := sb HB hb; clear hb hbox hg; obtain ⟨Z21_0, Z21_1, Z21_2, Z21_3, Z21_4, Y21_0, Y21_1, Y21_2, Y21_3, Y21_4⟩ := bq5 BK790) | ((with_reducible refine gate_callee (f := 55) rfl ?_); refine goesL_ (some 15) rfl rfl Tryd.func55 (by kernel_rfl) rfl #[.agg #[.string a0_0, .slice A0_1 l0_1.length c0_1, .slice A0_2 l0_2.length c0_2, .slice A0_3 l0_3.length c0_3, .slice A0_4 l0_4.length c0_4], .slice A1 l1.length c1, .slice A2 l2.length c2] rfl ar ?_; (with_reducible refine (row_Change.calls k a0_0 _ _ l0_1 _ _ l0_2 _ _ l0_3 _ _ l0_4 _ _ l1 _ _ l2 t791 t792 _ (Kd.cb HR0_1 HB) HC0_1.out (Kd.cb HR0_2 HB) HC0_2.out (Kd.cb HR0_3 HB) HC0_3.out (Kd.cb HR0_4 HB) HC0_4.out (Kd.cb HR1 HB) HC1.out (Kd.cb HR2 HB) HC2.out (Glob.below HG.out (bl HB)) A4.out).mono ?_); rintro e w22 ⟨rfl, hb⟩; refine ⟨_, rfl, ?_⟩; replace BK790 := kb BK790 hb; replace HB := sb HB hb; (try clear hb); (try clear hb2 hk hi); obtain ⟨Z23_0, Z23_1, Z23_2, Z23_3, Z23_4, Y23_0, Y23_1, Y23_2, Y23_3, Y23_4⟩ := bq5 BK790) | ((with_reducible refine gate_callee (f := 56) rfl ?_); refine goesL_ (some 22) rfl rfl Tryd.func56 (by kernel_rfl) rfl #[.agg #[.string a0_0, .slice A0_1 l0_1.length c0_1, .slice A0_2 l0_2.length c0_2, .slice A0_3 l0_3.length c0_3, .slice A0_4 l0_4.length c0_4], .slice A1 l1.length c1, .slice A2 l2.length c2] rfl ar ?_; (with_reducible refine (vellumref04_Change.calls k a0_0 _ _ l0_1 _ _ l0_2 _ _ l0_3 _ _ l0_4 _ _ l1 _ _ l2 t793 t794 _ (Kd.cb HR0_1 HB) HC0_1.out (Kd.cb HR0_2 HB) HC0_2.out (Kd.cb HR0_3 HB) HC0_3.out (Kd.cb HR0_4 HB) HC0_4.out (Kd.cb HR1 HB) HC1.out (Kd.cb HR2 HB) HC2.out (Glob.below HG.out (bl HB)) A5.out).mono ?_); rintro e w24 ⟨rfl, hb⟩; refine ⟨_, rfl, ?_⟩; replace BK790 := kb BK790 hb; replace HB := sb HB hb; (try clear hb); (try clear hb2 hk hi)) | (go_at_call 57; (with_reducible refine (row_Same.calls k _ _ l1 _ _ l2 t795 _ (Kd.cb HR1 HB) HC1.out (Kd.cb HR2 HB) HC2.out A8.out).mono ?_); rintro e w25 ⟨rfl, hb⟩; replace BK790 := kb BK790 hb; replace HB := sb HB hb; (try clear hb); (try clear hb2 hk hi)) | (go_at_call 45; (with_reducible refine (vellumref01_SameRow.calls k _ _ l1 _ _ l2 t796 _ (Kd.cb HR1 HB) HC1.out (Kd.cb HR2 HB) HC2.out A9.out).mono ?_); rintro e w26 ⟨rfl, hb⟩; replace BK790 := kb BK790 hb; replace HB := sb HB hb; (try clear hb); (try clear hb2 hk hi)))
        go_ret
        exact ⟨er, bl HB⟩
    · rw [if_neg c7] at H
      have c7b0 : (t792 == t794) = false := beq_eq_false_iff_ne.mpr c7
      have c7b1 : (t792 != t794) = true := bne_iff_ne.mpr c7
      obtain rfl := Option.some.inj H
      go_enter Tryd.func14, Tryd.ntmps14
      go_wp2_with (first | ((with_reducible refine gate_dst (N := 3) rfl ?_); refine box_event rfl (N := 3) rfl (cs := #[.string a0_0, .slice A0_1 l0_1.length c0_1, .slice A0_2 l0_2.length c0_2, .slice A0_3 l0_3.length c0_3, .slice A0_4 l0_4.length c0_4]) (t := 65) gs ?_; intro gb790 hg w27 hbox hb; have BK790 := am (hbox); have GW790 := gw hg HB; have GE790 := gw hg HB; replace HB := sb HB hb; clear hb hbox hg; obtain ⟨Z28_0, Z28_1, Z28_2, Z28_3, Z28_4, Y28_0, Y28_1, Y28_2, Y28_3, Y28_4⟩ := bq5 BK790) | ((with_reducible refine gate_callee (f := 55) rfl ?_); refine goesL_ (some 15) rfl rfl Tryd.func55 (by kernel_rfl) rfl #[.agg #[.string a0_0, .slice A0_1 l0_1.length c0_1, .slice A0_2 l0_2.length c0_2, .slice A0_3 l0_3.length c0_3, .slice A0_4 l0_4.length c0_4], .slice A1 l1.length c1, .slice A2 l2.length c2] rfl ar ?_; (with_reducible refine (row_Change.calls k a0_0 _ _ l0_1 _ _ l0_2 _ _ l0_3 _ _ l0_4 _ _ l1 _ _ l2 t791 t792 _ (Kd.cb HR0_1 HB) HC0_1.out (Kd.cb HR0_2 HB) HC0_2.out (Kd.cb HR0_3 HB) HC0_3.out (Kd.cb HR0_4 HB) HC0_4.out (Kd.cb HR1 HB) HC1.out (Kd.cb HR2 HB) HC2.out (Glob.below HG.out (bl HB)) A4.out).mono ?_); rintro e w29 ⟨rfl, hb⟩; refine ⟨_, rfl, ?_⟩; replace BK790 := kb BK790 hb; replace HB := sb HB hb; (try clear hb); (try clear hb2 hk hi); obtain ⟨Z30_0, Z30_1, Z30_2, Z30_3, Z30_4, Y30_0, Y30_1, Y30_2, Y30_3, Y30_4⟩ := bq5 BK790) | ((with_reducible refine gate_callee (f := 56) rfl ?_); refine goesL_ (some 22) rfl rfl Tryd.func56 (by kernel_rfl) rfl #[.agg #[.string a0_0, .slice A0_1 l0_1.length c0_1, .slice A0_2 l0_2.length c0_2, .slice A0_3 l0_3.length c0_3, .slice A0_4 l0_4.length c0_4], .slice A1 l1.length c1, .slice A2 l2.length c2] rfl ar ?_; (with_reducible refine (vellumref04_Change.calls k a0_0 _ _ l0_1 _ _ l0_2 _ _ l0_3 _ _ l0_4 _ _ l1 _ _ l2 t793 t794 _ (Kd.cb HR0_1 HB) HC0_1.out (Kd.cb HR0_2 HB) HC0_2.out (Kd.cb HR0_3 HB) HC0_3.out (Kd.cb HR0_4 HB) HC0_4.out (Kd.cb HR1 HB) HC1.out (Kd.cb HR2 HB) HC2.out (Glob.below HG.out (bl HB)) A5.out).mono ?_); rintro e w31 ⟨rfl, hb⟩; refine ⟨_, rfl, ?_⟩; replace BK790 := kb BK790 hb; replace HB := sb HB hb; (try clear hb); (try clear hb2 hk hi)))
      go_ret
      exact ⟨er, bl HB⟩
  · rw [if_neg c6] at H
    have c6b0 : (t791.toList == t793.toList) = false := beq_eq_false_iff_ne.mpr c6
    have c6b1 : (t791.toList != t793.toList) = true := bne_iff_ne.mpr c6
    obtain rfl := Option.some.inj H
    go_enter Tryd.func14, Tryd.ntmps14
    go_wp2_with (first | ((with_reducible refine gate_dst (N := 3) rfl ?_); refine box_event rfl (N := 3) rfl (cs := #[.string a0_0, .slice A0_1 l0_1.length c0_1, .slice A0_2 l0_2.length c0_2, .slice A0_3 l0_3.length c0_3, .slice A0_4 l0_4.length c0_4]) (t := 65) gs ?_; intro gb790 hg w32 hbox hb; have BK790 := am (hbox); have GW790 := gw hg HB; have GE790 := gw hg HB; replace HB := sb HB hb; clear hb hbox hg; obtain ⟨Z33_0, Z33_1, Z33_2, Z33_3, Z33_4, Y33_0, Y33_1, Y33_2, Y33_3, Y33_4⟩ := bq5 BK790) | ((with_reducible refine gate_callee (f := 55) rfl ?_); refine goesL_ (some 15) rfl rfl Tryd.func55 (by kernel_rfl) rfl #[.agg #[.string a0_0, .slice A0_1 l0_1.length c0_1, .slice A0_2 l0_2.length c0_2, .slice A0_3 l0_3.length c0_3, .slice A0_4 l0_4.length c0_4], .slice A1 l1.length c1, .slice A2 l2.length c2] rfl ar ?_; (with_reducible refine (row_Change.calls k a0_0 _ _ l0_1 _ _ l0_2 _ _ l0_3 _ _ l0_4 _ _ l1 _ _ l2 t791 t792 _ (Kd.cb HR0_1 HB) HC0_1.out (Kd.cb HR0_2 HB) HC0_2.out (Kd.cb HR0_3 HB) HC0_3.out (Kd.cb HR0_4 HB) HC0_4.out (Kd.cb HR1 HB) HC1.out (Kd.cb HR2 HB) HC2.out (Glob.below HG.out (bl HB)) A4.out).mono ?_); rintro e w34 ⟨rfl, hb⟩; refine ⟨_, rfl, ?_⟩; replace BK790 := kb BK790 hb; replace HB := sb HB hb; (try clear hb); (try clear hb2 hk hi); obtain ⟨Z35_0, Z35_1, Z35_2, Z35_3, Z35_4, Y35_0, Y35_1, Y35_2, Y35_3, Y35_4⟩ := bq5 BK790) | ((with_reducible refine gate_callee (f := 56) rfl ?_); refine goesL_ (some 22) rfl rfl Tryd.func56 (by kernel_rfl) rfl #[.agg #[.string a0_0, .slice A0_1 l0_1.length c0_1, .slice A0_2 l0_2.length c0_2, .slice A0_3 l0_3.length c0_3, .slice A0_4 l0_4.length c0_4], .slice A1 l1.length c1, .slice A2 l2.length c2] rfl ar ?_; (with_reducible refine (vellumref04_Change.calls k a0_0 _ _ l0_1 _ _ l0_2 _ _ l0_3 _ _ l0_4 _ _ l1 _ _ l2 t793 t794 _ (Kd.cb HR0_1 HB) HC0_1.out (Kd.cb HR0_2 HB) HC0_2.out (Kd.cb HR0_3 HB) HC0_3.out (Kd.cb HR0_4 HB) HC0_4.out (Kd.cb HR1 HB) HC1.out (Kd.cb HR2 HB) HC2.out (Glob.below HG.out (bl HB)) A5.out).mono ?_); rintro e w36 ⟨rfl, hb⟩; refine ⟨_, rfl, ?_⟩; replace BK790 := kb BK790 hb; replace HB := sb HB hb; (try clear hb); (try clear hb2 hk hi)))
    go_ret
    exact ⟨er, bl HB⟩
end Go.Proofs.YtpiifdbicibelaaDoor.PA
end
section
namespace Go.Proofs.YtpiifdbicibelaaDoor.Pure
open Go.RowKit Go.Proofs Go.Proofs.YtpiifdbicibelaaDoorW.PrintWords Go.Proofs.YtpiifdbicibelaaDoorW.PrintLast Go.Proofs.YtpiifdbicibelaaDoorW.PrintMore Go.Proofs.YtpiifdbicibelaaDoor.PA Go.Proofs.YtpiifdbicibelaaDoor.OpenK
set_option linter.unusedVariables false
set_option linter.unusedSimpArgs false
theorem wrap_one (i : Nat) (h : i < 1000000000) : wrap64 ((i : Int) + 1) = ((i + 1 : Nat) : Int) := by rw [wrap64_id (by omega) (by omega)]; omega
/-- Are these the same value to the bits? -/
def smB (x y : S50) : Bool := if x.f0 = y.f0 then (if x.f1 = y.f1 then (if ((x.f2 : Nat) : Int) = ((y.f2 : Nat) : Int) then x.f3.toList == y.f3.toList else false) else false) else false
theorem sm_ref (x y : S50) : vellumref01_Same.f x.f0 x.f1 x.f2 x.f3 y.f0 y.f1 y.f2 y.f3 = some (smB x y) := by
  unfold vellumref01_Same.f smB
  repeat' split
  all_goals rfl
theorem sm_code (x y : S50) : row_same.f x.f0 x.f1 x.f2 x.f3 y.f0 y.f1 y.f2 y.f3 = some (smB x y) := by
  have : value_Same.f x.f0 x.f1 x.f2 x.f3 y.f0 y.f1 y.f2 y.f3 = some (smB x y) := by
    unfold value_Same.f smB
    repeat' split
    all_goals rfl
  unfold row_same.f
  rw [this]; rfl
def sameL : List S50 → List S50 → Bool
  | x :: xs, y :: ys => smB x y && sameL xs ys
  | _, _ => true
def chgL : List S50 → List S50 → Nat → Nat → List Int → List Int
  | x :: xs, y :: ys, nx, i, acc => if smB x y = true then chgL xs ys nx (i + 1) acc else chgL xs ys (i + 1) (i + 1) (acc ++ vb (i - nx) ++ rowB [y])
  | _, _, _, _, acc => acc
theorem chgL_len : ∀ (xs ys : List S50) (nx i : Nat) (acc : List Int), acc.length ≤ (chgL xs ys nx i acc).length
  | [], _, _, _, _ => by simp [chgL]
  | _ :: _, [], _, _, _ => by simp [chgL]
  | x :: xs, y :: ys, nx, i, acc => by
    simp only [chgL]
    split
    · exact chgL_len xs ys _ _ _
    · have := chgL_len xs ys (i + 1) (i + 1) (acc ++ vb (i - nx) ++ rowB [y])
      simp only [List.length_append] at this
      omega
def fin (l : List Int) : ByteArray × Int := if 65536 < l.length then ((⟨#[]⟩ : ByteArray), 3) else (strOfNums l, 0)
theorem rowB_one {y : S50} (hw : wf50 y ∧ y.f3.size ≤ 65536) : (rowB [y]).length ≤ 65547 := by
  have := toldB_length hw.1 hw.2
  unfold rowB
  rw [List.length_append, setM_length]
  simp; omega
theorem one_slice {ys : List S50} {i : Nat} (h : i < ys.length) : (ys.take (((i + 1 : Nat) : Int)).toNat).drop ((i : Int)).toNat = [ys[i]] := by
  show (ys.take (i + 1)).drop i = [ys[i]]
  rw [List.take_succ_eq_append_getElem h, List.drop_append_of_le_length (by simp; omega), List.drop_of_length_le (by simp; omega)]
  rfl
theorem vb_one {n : Nat} (h : n < 128) : (vb n).length = 1 := by rw [vb_small n h]; rfl
theorem change_code (xs ys : List S50) (hlen : xs.length = ys.length) (hn : ys.length ≤ 64) (hw : ∀ v ∈ ys, wf50 v ∧ v.f3.size ≤ 65536) : ∀ (m i nx : Nat) (acc : List Int), i + m = ys.length → nx ≤ i → acc.length ≤ i * 70000 →
    Ev (fun k => row_Change.l0 k xs ys acc (nx : Int) (ys.length : Int) (i : Int)) (fin (chgL (xs.drop i) (ys.drop i) nx i acc))
  | 0, i, nx, acc, h, hx, hl => by
    rw [List.drop_of_length_le (l := ys) (by omega)]
    refine Ev.step (g := fun k => if (acc.length : Int) > 65536 then (some ((⟨#[]⟩ : ByteArray), (3 : Int))) else (some (strOfNums acc, 0))) (fun k => ?_) ?_
    · simp only [row_Change.l0]
      rw [if_neg (by omega)]
    · have e : chgL (xs.drop i) [] nx i acc = acc := by cases xs.drop i <;> rfl
      rw [e]
      unfold fin
      by_cases hb : 65536 < acc.length
      · rw [if_pos hb]; exact Ev.pos (by omega) Ev.pure
      · rw [if_neg hb]; exact Ev.neg (by omega) Ev.pure
  | m + 1, i, nx, acc, h, hx, hl => by
    have hlt : i < ys.length := by omega
    have hltx : i < xs.length := by omega
    have hyy : ys[i]? = some ys[i] := List.getElem?_eq_getElem hlt
    have hxx : xs[i]? = some xs[i] := List.getElem?_eq_getElem hltx
    have hwi := hw ys[i] (List.getElem_mem hlt)
    have hrl := rowB_one hwi
    have hv1 := vb_one (n := i - nx) (by omega)
    have c1 : (i : Int) ≤ ((i + 1 : Nat) : Int) := by omega
    have c2 : ((i + 1 : Nat) : Int) ≤ (ys.length : Int) := by omega
    rw [List.drop_eq_getElem_cons hlt, List.drop_eq_getElem_cons hltx]
    simp only [chgL]
    refine Ev.step (g := fun k => (row_same.f xs[i].f0 xs[i].f1 xs[i].f2 xs[i].f3 ys[i].f0 ys[i].f1 ys[i].f2 ys[i].f3).bind fun t751 => (if t751 = true then (row_Change.l0 k xs ys acc (nx : Int) (ys.length : Int) ((i + 1 : Nat) : Int)) else ((row_putVarint.f k acc ((i - nx : Nat) : Int)).bind fun t752 => ((row_encode.f k [ys[i]]).bind fun t759 => (if t752.length + t759.length < 140737488355328 then (row_Change.l0 k xs ys (t752 ++ t759) ((i + 1 : Nat) : Int) (ys.length : Int) ((i + 1 : Nat) : Int)) else (none)))))) (fun k => ?_) ?_
    · simp only [row_Change.l0]
      have e1 : True → wrap64 ((i : Int) + 1) = ((i + 1 : Nat) : Int) := fun _ => wrap_one i (by omega)
      have e2 : True → IntKind.u64.wrap (wrap64 ((i : Int) - (nx : Int))) = ((i - nx : Nat) : Int) := fun _ => by rw [wrap64_id (by omega) (by omega), u64_wrap_id (by omega) (by omega)]; omega
      rw [if_pos (by omega), if_pos (by omega), if_pos (by omega), if_pos (by omega), rd_get xs i _ hxx, rd_get ys i _ hyy, e1 trivial, e2 trivial, one_slice hlt]
      simp only [if_pos c1, if_pos c2]
    · refine Ev.bind (Ev.const (sm_code xs[i] ys[i])) ?_
      cases hs : smB xs[i] ys[i] with
      | true =>
        rw [if_pos rfl]
        have ih := change_code xs ys hlen hn hw m (i + 1) nx acc (by omega) (by omega) (by rw [Nat.add_mul]; exact Nat.le_trans hl (Nat.le_add_right _ _))
        exact Ev.pos rfl ih
      | false =>
        rw [if_neg (by decide)]
        refine Ev.neg (by decide) (Ev.bind (varint_code 0 (i - nx) acc (by omega) (by omega) (by omega)) (Ev.bind (rowB_code [ys[i]] (by simp) (fun v hv => by simp at hv; subst hv; exact hwi)) (Ev.pos (by rw [List.length_append]; omega) ?_)))
        exact change_code xs ys hlen hn hw m (i + 1) (i + 1) _ (by omega) (by omega) (by rw [List.length_append, List.length_append]; omega)
theorem change_ref (xs ys : List S50) (hlen : xs.length = ys.length) (hn : ys.length ≤ 64) (hw : ∀ v ∈ ys, wf50 v ∧ v.f3.size ≤ 65536) : ∀ (m i nx : Nat) (acc : List Int), i + m = ys.length → nx ≤ i → acc.length ≤ 65536 →
    Ev (fun k => vellumref04_Change.l0 k xs ys acc ((nx : Int) - 1) (i : Int)) (fin (chgL (xs.drop i) (ys.drop i) nx i acc))
  | 0, i, nx, acc, h, hx, hl => by
    rw [List.drop_of_length_le (l := ys) (by omega)]
    refine Ev.from_ 1 fun k => ?_
    simp only [vellumref04_Change.l0]
    have e : chgL (xs.drop i) [] nx i acc = acc := by cases xs.drop i <;> rfl
    rw [if_neg (by omega), e]
    unfold fin
    rw [if_neg (by omega)]
  | m + 1, i, nx, acc, h, hx, hl => by
    have hlt : i < ys.length := by omega
    have hltx : i < xs.length := by omega
    have hyy : ys[i]? = some ys[i] := List.getElem?_eq_getElem hlt
    have hxx : xs[i]? = some xs[i] := List.getElem?_eq_getElem hltx
    have hwi := hw ys[i] (List.getElem_mem hlt)
    have hrl := rowB_one hwi
    have hv1 := vb_one (n := i - nx) (by omega)
    have c1 : (i : Int) ≤ ((i + 1 : Nat) : Int) := by omega
    have c2 : ((i + 1 : Nat) : Int) ≤ (ys.length : Int) := by omega
    rw [List.drop_eq_getElem_cons hlt, List.drop_eq_getElem_cons hltx]
    simp only [chgL]
    refine Ev.step (g := fun k => (vellumref01_Same.f xs[i].f0 xs[i].f1 xs[i].f2 xs[i].f3 ys[i].f0 ys[i].f1 ys[i].f2 ys[i].f3).bind fun t770 => (if t770 = true then (vellumref04_Change.l0 k xs ys acc ((nx : Int) - 1) ((i + 1 : Nat) : Int)) else ((vellumref04_varint.f k ((i - nx : Nat) : Int)).bind fun t771 => (if acc.length + t771.length < 140737488355328 then ((some (acc ++ t771 : List Int)).bind fun y774 => ((vellumref04_bytesOf.f k [ys[i]]).bind fun t781 => (if y774.length + t781.length < 140737488355328 then ((some (y774 ++ t781 : List Int)).bind fun y784 => (if (y784.length : Int) > 65536 then (some ((⟨#[]⟩ : ByteArray), 3)) else (vellumref04_Change.l0 k xs ys y784 (i : Int) ((i + 1 : Nat) : Int)))) else (none)))) else (none))))) (fun k => ?_) ?_
    · simp only [vellumref04_Change.l0]
      have e1 : True → wrap64 ((i : Int) + 1) = ((i + 1 : Nat) : Int) := fun _ => wrap_one i (by omega)
      have e2 : True → IntKind.u64.wrap (wrap64 ((wrap64 ((i : Int) - ((nx : Int) - 1))) - 1)) = ((i - nx : Nat) : Int) := fun _ => by rw [wrap64_id (n := (i : Int) - ((nx : Int) - 1)) (by omega) (by omega), wrap64_id (by omega) (by omega), u64_wrap_id (by omega) (by omega)]; omega
      rw [if_pos (by omega), if_pos (by omega), if_pos (by omega), rd_get xs i _ hxx, rd_get ys i _ hyy, e1 trivial, e2 trivial, one_slice hlt]
      simp only [if_pos c1, if_pos c2]
    · refine Ev.bind (Ev.const (sm_ref xs[i] ys[i])) ?_
      cases hs : smB xs[i] ys[i] with
      | true =>
        rw [if_pos rfl]
        have ih := change_ref xs ys hlen hn hw m (i + 1) nx acc (by omega) (by omega) hl
        exact Ev.pos rfl ih
      | false =>
        rw [if_neg (by decide)]
        have hvr : Ev (fun k => vellumref04_varint.f k ((i - nx : Nat) : Int)) (vb (i - nx)) := varint_ref 0 (i - nx) [] (by omega) (by omega) (by simp)
        refine Ev.neg (by decide) (Ev.bind hvr (Ev.pos (by omega) ?_))
        simp only [Option.bind_some]
        refine Ev.bind (rowB_ref [ys[i]] (by simp) (fun v hv => by simp at hv; subst hv; exact hwi)) (Ev.pos (by rw [List.length_append]; omega) ?_)
        by_cases hb : 65536 < (acc ++ vb (i - nx) ++ rowB [ys[i]]).length
        · refine Ev.pos (by omega) ?_
          have hg := chgL_len (xs.drop (i + 1)) (ys.drop (i + 1)) (i + 1) (i + 1) (acc ++ vb (i - nx) ++ rowB [ys[i]])
          unfold fin
          rw [if_pos (by omega)]
          exact Ev.pure
        · refine Ev.neg (by omega) ?_
          have ih := change_ref xs ys hlen hn hw m (i + 1) (i + 1) (acc ++ vb (i - nx) ++ rowB [ys[i]]) (by omega) (by omega) (by omega)
          have e : (((i + 1 : Nat) : Int) - 1) = (i : Int) := by omega
          rw [e] at ih
          exact ih
theorem admT_len {a : ByteArray} {c : List S105} {d : List Int} {e : List S115} {f : List S139} {row : List S50} (h : admT a c d e f row = 0) : row.length = c.length := by
  unfold admT at h
  by_cases h0 : checkT a c d e f = 0
  · rw [if_neg (by simp [h0])] at h
    by_cases h1 : row.length = c.length
    · exact h1
    · rw [if_pos h1] at h; cases h
  · rw [if_pos h0] at h; exact absurd h h0
/-- What both sides tell of a change. -/
def chgR (a : ByteArray) (c : List S105) (d : List Int) (e : List S115) (f : List S139) (xs ys : List S50) : ByteArray × Int :=
  if admT a c d e f xs = 0 then (if admT a c d e f ys = 0 then fin (chgL xs ys 0 0 []) else ((⟨#[]⟩ : ByteArray), admT a c d e f ys)) else ((⟨#[]⟩ : ByteArray), admT a c d e f xs)
theorem chgR_code {a : ByteArray} {c : List S105} {d : List Int} {e : List S115} {f : List S139} {xs ys : List S50} (h : WfT a c d e f) (hx : ∀ v ∈ xs, wf50 v) (hy : ∀ v ∈ ys, wf50 v) : Ev (fun k => row_Change.f k a c d e f xs ys) (chgR a c d e f xs ys) := by
  simp only [row_Change.f, admits_f h hx, admits_f h hy, Option.bind_some]
  unfold chgR
  by_cases h0 : admT a c d e f xs = 0
  · rw [if_pos h0]
    refine Ev.pos h0 ?_
    by_cases h1 : admT a c d e f ys = 0
    · rw [if_pos h1]
      have l0 := admT_len h0
      have l1 := admT_len h1
      obtain ⟨g1, g2⟩ := admT_ok h1
      exact Ev.pos h1 (change_code xs ys (by omega) g1 (fun v hv => ⟨hy v hv, (chk_ok (g2 v hv)).2⟩) ys.length 0 0 [] (by omega) (by omega) (by simp))
    · rw [if_neg h1]; exact Ev.neg h1 Ev.pure
  · rw [if_neg h0]; exact Ev.neg h0 Ev.pure
theorem chgR_ref {a : ByteArray} {c : List S105} {d : List Int} {e : List S115} {f : List S139} {xs ys : List S50} (h : WfT a c d e f) (hx : ∀ v ∈ xs, wf50 v) (hy : ∀ v ∈ ys, wf50 v) (hc : c.length < 9223372036854775807) (he : e.length < 9223372036854775807) (hf : f.length < 9223372036854775807) (hxl : xs.length < 9223372036854775807) (hyl : ys.length < 9223372036854775807) : Ev (fun k => vellumref04_Change.f k a c d e f xs ys) (chgR a c d e f xs ys) := by
  simp only [vellumref04_Change.f]
  refine Ev.bind (admits_ev a c d e f xs h hc he hf hxl (fun v hv => (hx v hv).2.2.2)) (Ev.bind (admits_ev a c d e f ys h hc he hf hyl (fun v hv => (hy v hv).2.2.2)) ?_)
  unfold chgR
  by_cases h0 : admT a c d e f xs = 0
  · rw [if_pos h0]
    refine Ev.pos h0 ?_
    by_cases h1 : admT a c d e f ys = 0
    · rw [if_pos h1]
      have l0 := admT_len h0
      have l1 := admT_len h1
      obtain ⟨g1, g2⟩ := admT_ok h1
      exact Ev.pos h1 (change_ref xs ys (by omega) g1 (fun v hv => ⟨hy v hv, (chk_ok (g2 v hv)).2⟩) ys.length 0 0 [] (by omega) (by omega) (by simp))
    · rw [if_neg h1]; exact Ev.neg h1 Ev.pure
  · rw [if_neg h0]; exact Ev.neg h0 Ev.pure
theorem same_code (xs ys : List S50) (hl : xs.length < 9223372036854775807) : Ev (fun k => row_Same.f k xs ys) (decide (xs.length = ys.length) && sameL xs ys) := by
  simp only [row_Same.f]
  by_cases hlen : xs.length = ys.length
  · rw [decide_eq_true hlen, Bool.true_and]
    refine Ev.pos (by omega) ?_
    have go : ∀ (m i : Nat), i + m = xs.length → Ev (fun k => row_Same.l0 k xs ys (xs.length : Int) (i : Int)) (sameL (xs.drop i) (ys.drop i)) := by
      intro m
      induction m with
      | zero =>
        intro i hi
        refine Ev.from_ 1 fun k => ?_
        simp only [row_Same.l0]
        rw [if_neg (by omega), List.drop_of_length_le (l := xs) (by omega)]
        simp [sameL]
      | succ m ih =>
        intro i hi
        have hlt : i < ys.length := by omega
        have hltx : i < xs.length := by omega
        have hyy : ys[i]? = some ys[i] := List.getElem?_eq_getElem hlt
        have hxx : xs[i]? = some xs[i] := List.getElem?_eq_getElem hltx
        rw [List.drop_eq_getElem_cons hlt, List.drop_eq_getElem_cons hltx]
        simp only [sameL]
        refine Ev.step (g := fun k => (row_same.f xs[i].f0 xs[i].f1 xs[i].f2 xs[i].f3 ys[i].f0 ys[i].f1 ys[i].f2 ys[i].f3).bind fun t789 => (if t789 = true then (row_Same.l0 k xs ys (xs.length : Int) ((i + 1 : Nat) : Int)) else (some false))) (fun k => ?_) (Ev.bind (Ev.const (sm_code xs[i] ys[i])) ?_)
        · simp only [row_Same.l0]
          rw [if_pos (by omega), if_pos (by omega), if_pos (by omega), if_pos (by omega), rd_get xs i _ hxx, rd_get ys i _ hyy, wrap64_id (by omega) (by omega)]
          rfl
        · cases hs : smB xs[i] ys[i] with
          | true => exact Ev.pos rfl (by simpa using ih (i + 1) (by omega))
          | false => exact Ev.neg (by decide) (by simpa using Ev.pure)
    have := go xs.length 0 (by omega)
    simpa using this
  · rw [decide_eq_false hlen, Bool.false_and]
    exact Ev.neg (by omega) Ev.pure
theorem same_ref (xs ys : List S50) (hl : xs.length < 9223372036854775807) : Ev (fun k => vellumref01_SameRow.f k xs ys) (decide (xs.length = ys.length) && sameL xs ys) := by
  simp only [vellumref01_SameRow.f]
  by_cases hlen : xs.length = ys.length
  · rw [decide_eq_true hlen, Bool.true_and]
    refine Ev.pos (by omega) ?_
    have go : ∀ (m i : Nat), i + m = xs.length → Ev (fun k => vellumref01_SameRow.l0 k xs ys (i : Int)) (sameL (xs.drop i) (ys.drop i)) := by
      intro m
      induction m with
      | zero =>
        intro i hi
        refine Ev.from_ 1 fun k => ?_
        simp only [vellumref01_SameRow.l0]
        rw [if_neg (by omega), List.drop_of_length_le (l := xs) (by omega)]
        simp [sameL]
      | succ m ih =>
        intro i hi
        have hlt : i < ys.length := by omega
        have hltx : i < xs.length := by omega
        have hyy : ys[i]? = some ys[i] := List.getElem?_eq_getElem hlt
        have hxx : xs[i]? = some xs[i] := List.getElem?_eq_getElem hltx
        rw [List.drop_eq_getElem_cons hlt, List.drop_eq_getElem_cons hltx]
        simp only [sameL]
        refine Ev.step (g := fun k => (vellumref01_Same.f xs[i].f0 xs[i].f1 xs[i].f2 xs[i].f3 ys[i].f0 ys[i].f1 ys[i].f2 ys[i].f3).bind fun t534 => (if t534 = true then (vellumref01_SameRow.l0 k xs ys ((i + 1 : Nat) : Int)) else (some false))) (fun k => ?_) (Ev.bind (Ev.const (sm_ref xs[i] ys[i])) ?_)
        · simp only [vellumref01_SameRow.l0]
          rw [if_pos (by omega), if_pos (by omega), if_pos (by omega), rd_get xs i _ hxx, rd_get ys i _ hyy, wrap64_id (by omega) (by omega)]
          rfl
        · cases hs : smB xs[i] ys[i] with
          | true => exact Ev.pos rfl (by simpa using ih (i + 1) (by omega))
          | false => exact Ev.neg (by decide) (by simpa using Ev.pure)
    have := go xs.length 0 (by omega)
    simpa using this
  · rw [decide_eq_false hlen, Bool.false_and]
    exact Ev.neg (by omega) Ev.pure
theorem RowChanges (x0 : S65) (l1 l2 : List S50) (h0 : wf65 x0) (h1 : l1.length * 40 ≤ 140737488351232 ∧ ∀ y ∈ l1, wf50 y) (h2 : l2.length * 40 ≤ 140737488351232 ∧ ∀ y ∈ l2, wf50 y) : ∃ k, vellumlaw04_RowChanges.f k x0.f0 x0.f1 x0.f2 x0.f3 x0.f4 l1 l2 = some true := by
  refine Ev.ex ?_
  simp only [vellumlaw04_RowChanges.f]
  have hT := wf65_T h0
  obtain ⟨_, g1, _, g3, g4⟩ := h0
  exact Ev.bind (chgR_code hT h1.2 h2.2) (Ev.bind (chgR_ref hT h1.2 h2.2 (by omega) (by omega) (by omega) (by omega) (by omega)) (Ev.pos rfl (Ev.pos rfl (Ev.bind (same_code l1 l2 (by omega)) (Ev.bind (same_ref l1 l2 (by omega)) (Ev.pos (by simp) (Ev.bind awake4_ev Ev.pure)))))))
end Go.Proofs.YtpiifdbicibelaaDoor.Pure
end
section
namespace Go.Proofs.YtpiifdbicibelaaDoor
open Go.RowKit
theorem main_ : Tryd.pinned.checked.prog.mainIs = some (true, "409e20a6319c123f59629b35fea50f486835097bfbed967dc062cdc0fc9eff79".toList) := by kernel_rfl
theorem looks_ : false = Tryd.prog.looks [] := by kernel_rfl
end Go.Proofs.YtpiifdbicibelaaDoor
end
section
namespace Go.Proofs.YtpiifdbicibelaaDoor.rowChanges
open Go.ChangeShapes Go.WideShapes Go.ChangeAt Go.RowKit Go.Proofs.YtpiifdbicibelaaDoorW.PrintWords Go.Proofs.YtpiifdbicibelaaDoor.PA Go.Proofs.YtpiifdbicibelaaDoor.OpenK Go.Proofs.YtpiifdbicibelaaDoor.Pure
open Go.ChangeMaps (open_string shut_string)
set_option linter.unusedVariables false
theorem walk {H : Type} {enc : TypeId × Value → H} (W : World) (base : Nat) (args : Array Value) (ds : List (DataW H)) (ps : List MemPlace) (hA0 : DataW.TrodAll enc Tryd.prog W 0 (fun _ => true) true Tryd.f14.params.toList args.toList ds ps)
    (hw0 : (DataW.weightsEach Tryd.prog Tryd.f14.params.toList ds).all (· ≤ reachBytes) = true) (hval0 : ∀ (j : Nat) t v, Tryd.f14.params[j]? = some t → args[j]? = some v → Value.okWide Tryd.prog W .any base t v) (hG : Glob W) :
    Calls Tryd.prog 14 args W fun e W' => e = .returned (.bool true) ∧ Below W.heap.size W W' := by
  have hval : ∀ (j : Nat) t v, Tryd.f14.params[j]? = some t → args[j]? = some v → Value.okWide Tryd.prog W .any base t v := @hval0
  have hA : DataW.TrodAll enc Tryd.prog W 0 (fun _ => true) true Tryd.f14.params.toList args.toList ds ps := hA0
  have hw : (DataW.weightsEach Tryd.prog Tryd.f14.params.toList ds).all (· ≤ reachBytes) = true := hw0
  rw [Tryd.params14] at hA hval hw
  clear hA0 hw0 hval0
  obtain ⟨v0, vs0, d0, ds0, p0, q0, hargs, rfl, rfl, h0, r0⟩ := trodAll_cons hA
  obtain ⟨v1, vs1, d1, ds1, p1, q1, rfl, rfl, rfl, h1, r1⟩ := trodAll_cons r0
  obtain ⟨v2, vs2, d2, ds2, p2, q2, rfl, rfl, rfl, h2, r2⟩ := trodAll_cons r1
  obtain ⟨rfl, rfl, rfl⟩ := trodAll_nil r2
  obtain rfl : args = #[v0, v1, v2] := by cases args; simp_all
  simp only [DataW.weightsEach, all_append_iff] at hw
  obtain ⟨hw0, hw1, hw2, _⟩ := hw
  obtain ⟨fuel0, hf0⟩ := h0
  obtain ⟨x0, hK0, wf0_⟩ := opn65 hf0 hw0
  -- STRUCT 0
  obtain ⟨A0_1, c0_1, A0_2, c0_2, A0_3, c0_3, A0_4, c0_4, he0, hl0_1, hC0_1, hl0_2, hC0_2, hl0_3, hC0_3, hl0_4, hC0_4⟩ := k65_open hK0
  obtain rfl : v0 = .agg #[.string x0.f0, .slice A0_1 x0.f1.length c0_1, .slice A0_2 x0.f2.length c0_2, .slice A0_3 x0.f3.length c0_3, .slice A0_4 x0.f4.length c0_4] := agg_of_cells he0 (by simp)
  obtain ⟨a1, len1, cap1, rfl⟩ := arg_slice (j := 1) @hval rfl rfl Tryd.underlying22
  obtain ⟨fuel1, hf1⟩ := h1
  obtain ⟨l1, ⟨A1, c1, he1, hl1, hC1⟩, wf1_⟩ := (Opn.slice Tryd.underlying22 opn50 (by kernel_rfl) (by kernel_rfl)) hf1 hw1
  simp [Value.cells] at he1
  obtain ⟨rfl, rfl, rfl⟩ := he1
  obtain ⟨a2, len2, cap2, rfl⟩ := arg_slice (j := 2) @hval rfl rfl Tryd.underlying22
  obtain ⟨fuel2, hf2⟩ := h2
  obtain ⟨l2, ⟨A2, c2, he2, hl2, hC2⟩, wf2_⟩ := (Opn.slice Tryd.underlying22 opn50 (by kernel_rfl) (by kernel_rfl)) hf2 hw2
  simp [Value.cells] at he2
  obtain ⟨rfl, rfl, rfl⟩ := he2
  obtain ⟨k, h⟩ := RowChanges x0 l1 l2 wf0_ wf1_ wf2_
  refine (vellumlaw04_RowChanges.calls k x0.f0 _ _ x0.f1 _ _ x0.f2 _ _ x0.f3 _ _ x0.f4 _ _ l1 _ _ l2 true W hC0_1 hl0_1 hC0_2 hl0_2 hC0_3 hl0_3 hC0_4 hl0_4 hC1 hl1 hC2 hl2 hG h).mono ?_
  rintro e W' ⟨rfl, hd⟩
  exact ⟨rfl, hd⟩
theorem witness_row (os : Os) {H : Type} (enc : TypeId × Value → H) :
    (OpenSpec.ofChange Rows.rowChangesSpec).preRow enc Tryd.prog Tryd.f14 [] false laidList ((laidWorld os).forCall (fun _ _ => 0) ⟨#[], #[.agg #[.string ByteArray.empty, .slice none 0 0, .slice none 0 0, .slice none 0 0, .slice none 0 0], .slice none 0 0, .slice none 0 0], []⟩).memory #[.agg #[.string ByteArray.empty, .slice none 0 0, .slice none 0 0, .slice none 0 0, .slice none 0 0], .slice none 0 0, .slice none 0 0] := by
  have hw : (DataW.whole enc Tryd.prog ((laidWorld os).forCall (fun _ _ => 0) ⟨#[], #[.agg #[.string ByteArray.empty, .slice none 0 0, .slice none 0 0, .slice none 0 0, .slice none 0 0], .slice none 0 0, .slice none 0 0], []⟩).memory Tryd.f14.params.toList (OpenSpec.ofChange Rows.rowChangesSpec).vars false (#[.agg #[.string ByteArray.empty, .slice none 0 0, .slice none 0 0, .slice none 0 0, .slice none 0 0], .slice none 0 0, .slice none 0 0] : Array Value).toList 8).map (fun x => (x.1, x.2.1)) = some ([.agg [.lit (.string []), .nil, .nil, .nil, .nil], .nil, .nil], []) := by kernel_rfl
  obtain ⟨⟨x1, x2, x3⟩, hx, hx1⟩ := Option.map_eq_some_iff.1 hw
  simp only [Prod.mk.injEq] at hx1
  obtain ⟨rfl, rfl⟩ := hx1
  exact OpenSpec.preRow_of_cond 8 hx (by kernel_rfl) (fun k hk => by cases hk) (by kernel_rfl) (laid_met os _)
theorem ends {os : Os} (started : os.Started) {H : Type} {enc : TypeId × Value → H} {F : Stop.Interp} : ReturnsInHanded { modest := false } Tryd.checked os 14 .any ((OpenSpec.ofChange Rows.rowChangesSpec).preRow enc Tryd.prog Tryd.f14 [] false laidList) (((OpenSpec.ofChange Rows.rowChangesSpec).at F).post enc Tryd.prog Tryd.f14 false true false false) :=
  law_lifted (spec := Rows.rowChangesSpec) Tryd.func14 (by kernel_rfl) (tb := 4) rfl Tryd.underlying4 (by kernel_rfl) rfl
    (fun H ds hl => by
      match ds, hl with
      | [_, _, _], _ => rfl) started
    (witness_row_atRef (enc := enc) (C := Tryd.checked) false (laidWorld os) #[.agg #[.string ByteArray.empty, .slice none 0 0, .slice none 0 0, .slice none 0 0, .slice none 0 0], .slice none 0 0, .slice none 0 0] rfl (by kernel_rfl) (by kernel_rfl) (by kernel_rfl) (witness_row os enc))
    (fun W base args ds ps hA hw hval hG => walk W base args ds ps hA hw @hval hG)
theorem inPlace_ : Tryd.prog.inPlace 14 = Rows.rowChangesRow.inPlace := by kernel_rfl
theorem unfollowed_ : Tryd.prog.unfollowed 14 = Rows.rowChangesRow.unfollowed := by kernel_rfl
theorem recurses_ : Tryd.prog.recurses 14 = Rows.rowChangesRow.recurses := by kernel_rfl
theorem named_ : Tryd.prog.varsNamed 14 = Rows.rowChangesRow.named := by kernel_rfl
theorem closed : joinedFacts Tryd.prog 14 Tryd.f14 (OpenSpec.ofChange Rows.rowChangesSpec).bare Rows.rowChangesRow = true := by
  unfold joinedFacts
  rw [laidOut, mapsRowed_, stops_, stopKnobs_, plainKeys_, stopsHeard_, mayEnter_, lifts_, make_, inPlace_, unfollowed_, recurses_, named_]
  kernel_rfl
set_option maxRecDepth 100000 in
theorem over : Rows.rowChangesRow.holds Tryd.pinned (OpenSpec.ofChange Rows.rowChangesSpec) :=
  OpenClaim.holds_of_cond 14 Tryd.f14 rfl rfl rfl rfl rfl rfl rfl ⟨rfl, rfl, rfl, rfl, rfl⟩ rfl rfl rfl rfl rfl (by kernel_rfl) Tryd.func14 closed
    (of_decide_eq_true (by kernel_rfl)) (by unfold Func.isWrapper; rw [if_neg (of_decide_eq_false (by kernel_rfl))]; exact ⟨rfl, rfl⟩)
    (fun os started H enc _ F => by
      rw [OpenClaim.pre_eq_preRow]
      exact ends started)
theorem goes_ : false = Rows.rowChangesRow.goesBy Tryd.prog := by kernel_rfl
theorem fnamed_ : Tryd.prog.funcNamed "vellum/vellumlaw04.RowChanges" = some 14 := by kernel_rfl
theorem card : Rows.RowChangesCardSaid :=
  Claim7.holds_tied_plain_at .later [] [.data, .pinned] true (true, "409e20a6319c123f59629b35fea50f486835097bfbed967dc062cdc0fc9eff79") false
    over (fun _ h => by cases h) (by kernel_rfl) (fun _ h => by cases h) rowChanges_row_tie rfl ⟨rfl, rfl⟩ main_ rfl
    (fun f fn hf hfn => by
      obtain rfl : f = 14 := Option.some.inj (fnamed_.symm.trans hf) |>.symm
      obtain rfl : fn = Tryd.f14 := (Option.some.inj (Tryd.func14.symm.trans hfn)).symm
      exact ⟨looks_, fun j t ht => by
        rw [Tryd.params14] at ht
        have h3 : t ∈ [65, 22, 22] := by
          have := List.mem_of_getElem? (l := [65, 22, 22]) (i := j) (by simpa using ht)
          exact this
        have h4 : ∀ t ∈ [65, 22, 22], Tryd.prog.wantsStandIn t = false := by
          intro t ht
          simp only [List.mem_cons, List.mem_nil_iff, or_false] at ht
          rcases ht with rfl | rfl | rfl
          all_goals kernel_rfl
        exact h4 t h3⟩)
    goes_
end Go.Proofs.YtpiifdbicibelaaDoor.rowChanges
namespace Go.Proofs.YtpiifdbicibelaaDoor
theorem rowChanges_holds : Rows.RowChangesCardSaid := rowChanges.card
end Go.Proofs.YtpiifdbicibelaaDoor
end
