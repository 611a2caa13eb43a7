/- RowKeys: the law returns true at every input, and its arguments read as before. Conditions: as the row has them (the listed tables as the program's text lays them). -/
import Derived.Test.YtpiifdbicibelaaDoorKRowKeys3
section
namespace Go.Proofs.YtpiifdbicibelaaDoor.PA
open Go.RowKit Go.Proofs.YtpiifdbicibelaaDoorW.PrintWords Go.Proofs.YtpiifdbicibelaaDoorW.PrintLast Go.Proofs.YtpiifdbicibelaaDoorW.PrintMore
attribute [local go_sem] max2_int min2_int max_two min_two max_three min_three max_four min_four
set_option linter.unusedVariables false
set_option linter.unusedSimpArgs false
def vellumref03_Admits.l0 : Nat → List (S50) → Int → ByteArray → List (S105) → List Int → List (S115) → List (S139) → Option (Int)
  | 0, _, _, _, _, _, _, _ => none
  | k + 1, x1, x6, x657000, x657001, x657002, x657003, x657004 => if x6 < (x1.length : Int) then (if 0 ≤ x6 then ((vellumref01_Check.f k ((rd_T50 x1 x6).f0) ((rd_T50 x1 x6).f1) ((rd_T50 x1 x6).f2) ((rd_T50 x1 x6).f3)).bind fun t659 => (if t659 = 0 then (if ((rd_T50 x1 x6).f0) = 0 then (if x6 < (x657001.length : Int) then (if ((rd_T105 x657001 x6).f2 = true) then (vellumref03_Admits.l0 k x1 (wrap64 (x6 + 1)) x657000 x657001 x657002 x657003 x657004) else (some 35)) else (none)) else (if x6 < (x657001.length : Int) then (if ((rd_T50 x1 x6).f0) = ((rd_T105 x657001 x6).f1) then (vellumref03_Admits.l0 k x1 (wrap64 (x6 + 1)) x657000 x657001 x657002 x657003 x657004) else (some 32)) else (none))) else (some t659))) else (none)) else (some 0)
def vellumref03_Admits.f (k : Nat) (a0_0 : ByteArray) (l0_1 : List (S105)) (l0_2 : List Int) (l0_3 : List (S115)) (l0_4 : List (S139)) (l1 : List (S50)) : Option (Int) := (vellumref03_Check.f k a0_0 l0_1 l0_2 l0_3 l0_4).bind fun t657 => (if t657 = 0 then (if (l1.length : Int) = (l0_1.length : Int) then (vellumref03_Admits.l0 k l1 0 a0_0 l0_1 l0_2 l0_3 l0_4) else (some 1)) else (some t657))
set_option maxHeartbeats 8000000 in
set_option maxRecDepth 100000 in
theorem vellumref03_Admits.calls (k : Nat) (a0_0 : ByteArray) (A0_1 : Option Addr) (c0_1 : Nat) (l0_1 : List (S105)) (A0_2 : Option Addr) (c0_2 : Nat) (l0_2 : List Int) (A0_3 : Option Addr) (c0_3 : Nat) (l0_3 : List (S115)) (A0_4 : Option Addr) (c0_4 : Nat) (l0_4 : List (S139)) (A1 : Option Addr) (c1 : Nat) (l1 : List (S50)) (r : Int) (w : World) (hr0_1 : Kd.C k105 w A0_1 l0_1.length l0_1) (hc0_1 : l0_1.length ≤ c0_1) (hr0_2 : Kd.C (Kd.int .i64) w A0_2 l0_2.length l0_2) (hc0_2 : l0_2.length ≤ c0_2) (hr0_3 : Kd.C k115 w A0_3 l0_3.length l0_3) (hc0_3 : l0_3.length ≤ c0_3) (hr0_4 : Kd.C k139 w A0_4 l0_4.length l0_4) (hc0_4 : l0_4.length ≤ c0_4) (hr1 : Kd.C k50 w A1 l1.length l1) (hc1 : l1.length ≤ c1) (hG : Glob w) (h : vellumref03_Admits.f k a0_0 l0_1 l0_2 l0_3 l0_4 l1 = some r) :
    Calls Tryd.prog 85 #[.agg #[.string a0_0, .slice A0_1 l0_1.length c0_1, .slice A0_2 l0_2.length c0_2, .slice A0_3 l0_3.length c0_3, .slice A0_4 l0_4.length c0_4], .slice A1 l1.length c1] w fun e w' => e = .returned (.int .i64 r) ∧ Below w.heap.size w w' := by
  have hu65 := Tryd.underlying65
  have hu50 := Tryd.underlying50
  have HR0_1 := am hr0_1
  have HC0_1 := am hc0_1
  clear hr0_1 hc0_1
  have HR0_2 := am hr0_2
  have HC0_2 := am hc0_2
  clear hr0_2 hc0_2
  have HR0_3 := am hr0_3
  have HC0_3 := am hc0_3
  clear hr0_3 hc0_3
  have HR0_4 := am hr0_4
  have HC0_4 := am hc0_4
  clear hr0_4 hc0_4
  have HR1 := am hr1
  have HC1 := am hc1
  clear hr1 hc1
  have HG := am hG
  clear hG
  have HB := am (Below.refl w.heap.size w)
  have H : ((vellumref03_Check.f k a0_0 l0_1 l0_2 l0_3 l0_4).bind fun t657 => (if t657 = 0 then (if (l1.length : Int) = (l0_1.length : Int) then (vellumref03_Admits.l0 k l1 0 a0_0 l0_1 l0_2 l0_3 l0_4) else (some 1)) else (some t657))) = some r := h
  clear h
  replace H := Option.bind_eq_some_iff.mp H
  obtain ⟨t657, A30, H⟩ := H
  replace H : (if t657 = 0 then (if (l1.length : Int) = (l0_1.length : Int) then (vellumref03_Admits.l0 k l1 0 a0_0 l0_1 l0_2 l0_3 l0_4) else (some 1)) else (some t657)) = some r := H
  have A3 := am A30
  clear A30
  by_cases c4 : t657 = 0
  · rw [if_pos c4] at H
    have c4b0 : (t657 == 0) = true := beq_iff_eq.mpr c4
    have c4b1 : (t657 != 0) = false := bne_eq_false_iff_eq.mpr c4
    clear c4
    by_cases c5 : (l1.length : Int) = (l0_1.length : Int)
    · rw [if_pos c5] at H
      have c5b0 : ((l1.length : Int) == (l0_1.length : Int)) = true := beq_iff_eq.mpr c5
      have c5b1 : ((l1.length : Int) != (l0_1.length : Int)) = false := bne_eq_false_iff_eq.mpr c5
      have c5b2 : (l1.length == l0_1.length) = true := by first | simpa using c5 | (simp at c5 ⊢; omega)
      clear c5
      have H' := am H
      clear H
      go_enter Tryd.func85, Tryd.ntmps85
      go_wp2_with (first | ((with_reducible refine gate_dst (N := 2) rfl ?_); refine box_event rfl (N := 2) rfl (cs := #[.string a0_0, .slice A0_1 l0_1.length c0_1, .slice A0_2 l0_2.length c0_2, .slice A0_3 l0_3.length c0_3, .slice A0_4 l0_4.length c0_4]) (t := 65) gs ?_; intro gb656 hg w6 hbox hb; have BK656 := am (hbox); have GW656 := gw hg HB; have GE656 := gw hg HB; replace HB := sb HB hb; clear hb hbox hg; obtain ⟨Z7_0, Z7_1, Z7_2, Z7_3, Z7_4, Y7_0, Y7_1, Y7_2, Y7_3, Y7_4⟩ := bq5 BK656) | (go_at_call 93; (with_reducible refine (vellumref03_Check.calls k a0_0 _ _ l0_1 _ _ l0_2 _ _ l0_3 _ _ l0_4 t657 _ (Kd.cb HR0_1 HB) HC0_1.out (Kd.cb HR0_2 HB) HC0_2.out (Kd.cb HR0_3 HB) HC0_3.out (Kd.cb HR0_4 HB) HC0_4.out (Glob.below HG.out (bl HB)) A3.out).mono ?_); rintro e w8 ⟨rfl, hb⟩; replace BK656 := kb BK656 hb; replace HB := sb HB hb; (try clear hb); (try clear hb2 hk hi); obtain ⟨Z9_0, Z9_1, Z9_2, Z9_3, Z9_4, Y9_0, Y9_1, Y9_2, Y9_3, Y9_4⟩ := bq5 BK656))
      repeat (go_quiet (fail); try go_wp2_with (first | ((with_reducible refine gate_dst (N := 2) rfl ?_); refine box_event rfl (N := 2) rfl (cs := #[.string a0_0, .slice A0_1 l0_1.length c0_1, .slice A0_2 l0_2.length c0_2, .slice A0_3 l0_3.length c0_3, .slice A0_4 l0_4.length c0_4]) (t := 65) gs ?_; intro gb656 hg w6 hbox hb; have BK656 := am (hbox); have GW656 := gw hg HB; have GE656 := gw hg HB; replace HB := sb HB hb; clear hb hbox hg; obtain ⟨Z7_0, Z7_1, Z7_2, Z7_3, Z7_4, Y7_0, Y7_1, Y7_2, Y7_3, Y7_4⟩ := bq5 BK656) | (go_at_call 93; (with_reducible refine (vellumref03_Check.calls k a0_0 _ _ l0_1 _ _ l0_2 _ _ l0_3 _ _ l0_4 t657 _ (Kd.cb HR0_1 HB) HC0_1.out (Kd.cb HR0_2 HB) HC0_2.out (Kd.cb HR0_3 HB) HC0_3.out (Kd.cb HR0_4 HB) HC0_4.out (Glob.below HG.out (bl HB)) A3.out).mono ?_); rintro e w8 ⟨rfl, hb⟩; replace BK656 := kb BK656 hb; replace HB := sb HB hb; (try clear hb); (try clear hb2 hk hi); obtain ⟨Z9_0, Z9_1, Z9_2, Z9_3, Z9_4, Y9_0, Y9_1, Y9_2, Y9_3, Y9_4⟩ := bq5 BK656)))
      go_loopg [6] k (fun kq v6 w' => ∃ (x6_1 : Int), v6 = .int .i64 x6_1 ∧ Aside0 (vellumref03_Admits.l0 kq l1 x6_1 a0_0 l0_1 l0_2 l0_3 l0_4 = some r) ∧ Aside0 (kq ≤ k) ∧ Aside0 (w'.heap[gb656]? = some (.cells #[.string a0_0, (.slice A0_1 l0_1.length c0_1), (.slice A0_2 l0_2.length c0_2), (.slice A0_3 l0_3.length c0_3), (.slice A0_4 l0_4.length c0_4)] 65 (0, 0))) ∧ Aside0 (Below w.heap.size w w'))
      case atStart => exact ⟨(0), eb, H', ⟨Nat.le_refl _⟩, ⟨bk BK656⟩, ⟨bl HB⟩⟩
      case round =>
        clear H'
        try clear c1
        try clear p2
        try clear c4
        try clear c4b0
        try clear c4b1
        try clear c5
        try clear c5b0
        try clear c5b1
        try clear c5b2
        try clear c8
        try clear Z7_0
        try clear Z7_1
        try clear Z7_2
        try clear Z7_3
        try clear Z7_4
        try clear Z9_0
        try clear Z9_1
        try clear Z9_2
        try clear Z9_3
        try clear Z9_4
        try clear Y7_0
        try clear Y7_1
        try clear Y7_2
        try clear Y7_3
        try clear Y7_4
        try clear Y9_0
        try clear Y9_1
        try clear Y9_2
        try clear Y9_3
        try clear Y9_4
        obtain ⟨x6_1, rfl, HA, HK1, BK656, HB⟩ := hrel
        cases gk with
        | zero => exact absurd HA.out (by simp [vellumref03_Admits.l0])
        | succ k1 =>
          have H := HA.out
          clear HA
          simp only [vellumref03_Admits.l0] at H
          by_cases c10 : x6_1 < (l1.length : Int)
          · rw [if_pos c10] at H
            have c10b0 : decide (x6_1 < (l1.length : Int)) = true := decide_eq_true c10
            clear c10
            by_cases c11 : 0 ≤ x6_1
            · rw [if_pos c11] at H
              have c11b0 : decide (0 ≤ x6_1) = true := decide_eq_true c11
              clear c11
              replace H := Option.bind_eq_some_iff.mp H
              obtain ⟨t659, A120, H⟩ := H
              replace H : (if t659 = 0 then (if ((rd_T50 l1 x6_1).f0) = 0 then (if x6_1 < (l0_1.length : Int) then (if ((rd_T105 l0_1 x6_1).f2 = true) then (vellumref03_Admits.l0 k1 l1 (wrap64 (x6_1 + 1)) a0_0 l0_1 l0_2 l0_3 l0_4) else (some 35)) else (none)) else (if x6_1 < (l0_1.length : Int) then (if ((rd_T50 l1 x6_1).f0) = ((rd_T105 l0_1 x6_1).f1) then (vellumref03_Admits.l0 k1 l1 (wrap64 (x6_1 + 1)) a0_0 l0_1 l0_2 l0_3 l0_4) else (some 32)) else (none))) else (some t659)) = some r := H
              have A12 := am A120
              clear A120
              by_cases c13 : t659 = 0
              · rw [if_pos c13] at H
                have c13b0 : (t659 == 0) = true := beq_iff_eq.mpr c13
                have c13b1 : (t659 != 0) = false := bne_eq_false_iff_eq.mpr c13
                clear c13
                by_cases c14 : ((rd_T50 l1 x6_1).f0) = 0
                · rw [if_pos c14] at H
                  have c14b0 : (((rd_T50 l1 x6_1).f0) == 0) = true := beq_iff_eq.mpr c14
                  have c14b1 : (((rd_T50 l1 x6_1).f0) != 0) = false := bne_eq_false_iff_eq.mpr c14
                  clear c14
                  by_cases c15 : x6_1 < (l0_1.length : Int)
                  · rw [if_pos c15] at H
                    have c15b0 : decide (x6_1 < (l0_1.length : Int)) = true := decide_eq_true c15
                    clear c15
                    obtain ⟨bq16, hbq16⟩ : ∃ b_ : Bool, b_ = ((rd_T105 l0_1 x6_1).f2) := ⟨_, rfl⟩
                    replace H : (if (bq16 = true) then (vellumref03_Admits.l0 k1 l1 (wrap64 (x6_1 + 1)) a0_0 l0_1 l0_2 l0_3 l0_4) else (some 35)) = some r := by rw [← hbq16] at H; exact H
                    have Nbq16 := am hbq16
                    clear hbq16
                    by_cases c17 : (bq16 = true)
                    · subst c17
                      have H1 : (vellumref03_Admits.l0 k1 l1 (wrap64 (x6_1 + 1)) a0_0 l0_1 l0_2 l0_3 l0_4) = some r := by rw [if_pos rfl] at H; exact H
                      clear H
                      have H := H1
                      clear H1
                      have H' := am H
                      clear H
                      have p658 : 0 ≤ (x6_1 : Int) := oda
                      have q658 : x6_1 < (l1.length : Int) := oda
                      obtain ⟨ad658, e658, hx658_0, hx658_1, hx658_2, hx658_3⟩ := at_T50 HR1.out x6_1 p658 q658
                      cases e658
                      replace hx658_0 := hc HB hx658_0
                      replace hx658_1 := hc HB hx658_1
                      replace hx658_2 := hc HB hx658_2
                      replace hx658_3 := hc HB hx658_3
                      replace p658 := eq_true p658
                      replace q658 := eq_true q658
                      go_wp2_with (first | (go_at_call 69; (with_reducible refine (vellumref01_Check.calls k1 ((rd_T50 l1 x6_1).f0) ((rd_T50 l1 x6_1).f1) ((rd_T50 l1 x6_1).f2) ((rd_T50 l1 x6_1).f3) t659 _ (Glob.below HG.out (bl HB)) A12.out).mono ?_); rintro e w18 ⟨rfl, hb⟩; replace BK656 := kb BK656 hb; replace HB := sb HB hb; (try clear hb); (try clear hb2 hk hi); have p660 : 0 ≤ (x6_1 : Int) := oda; have q660 : x6_1 < (l1.length : Int) := oda; obtain ⟨ad660, e660, hx660_0, hx660_1, hx660_2, hx660_3⟩ := at_T50 HR1.out x6_1 p660 q660; obtain rfl : ad658 = ad660 := (by injection e660); replace hx660_0 := hc HB hx660_0; replace hx660_1 := hc HB hx660_1; replace hx660_2 := hc HB hx660_2; replace hx660_3 := hc HB hx660_3; replace p660 := eq_true p660; replace q660 := eq_true q660; obtain ⟨Z19_0, Z19_1, Z19_2, Z19_3, Z19_4, Y19_0, Y19_1, Y19_2, Y19_3, Y19_4⟩ := bq5 BK656; have p661 : 0 ≤ (x6_1 : Int) := oda; have q661 : x6_1 < (l0_1.length : Int) := oda; obtain ⟨ad661, e661, hx661_0, hx661_1, hx661_2, hx661_3, hx661_4, hx661_5, hx661_6⟩ := at_T105 HR0_1.out x6_1 p661 q661; (try rw [← Nbq16.out] at hx661_2); (try rw [← Nbq16.out] at hw661_2); cases e661; replace hx661_0 := hc HB hx661_0; replace hx661_1 := hc HB hx661_1; replace hx661_2 := hc HB hx661_2; replace hx661_3 := hc HB hx661_3; replace hx661_4 := hc HB hx661_4; replace hx661_5 := hc HB hx661_5; replace hx661_6 := hc HB hx661_6; replace p661 := eq_true p661; replace q661 := eq_true q661))
                      repeat (go_quiet (fail); try go_wp2_with (first | (go_at_call 69; (with_reducible refine (vellumref01_Check.calls k1 ((rd_T50 l1 x6_1).f0) ((rd_T50 l1 x6_1).f1) ((rd_T50 l1 x6_1).f2) ((rd_T50 l1 x6_1).f3) t659 _ (Glob.below HG.out (bl HB)) A12.out).mono ?_); rintro e w18 ⟨rfl, hb⟩; replace BK656 := kb BK656 hb; replace HB := sb HB hb; (try clear hb); (try clear hb2 hk hi); have p660 : 0 ≤ (x6_1 : Int) := oda; have q660 : x6_1 < (l1.length : Int) := oda; obtain ⟨ad660, e660, hx660_0, hx660_1, hx660_2, hx660_3⟩ := at_T50 HR1.out x6_1 p660 q660; obtain rfl : ad658 = ad660 := (by injection e660); replace hx660_0 := hc HB hx660_0; replace hx660_1 := hc HB hx660_1; replace hx660_2 := hc HB hx660_2; replace hx660_3 := hc HB hx660_3; replace p660 := eq_true p660; replace q660 := eq_true q660; obtain ⟨Z19_0, Z19_1, Z19_2, Z19_3, Z19_4, Y19_0, Y19_1, Y19_2, Y19_3, Y19_4⟩ := bq5 BK656; have p661 : 0 ≤ (x6_1 : Int) := oda; have q661 : x6_1 < (l0_1.length : Int) := oda; obtain ⟨ad661, e661, hx661_0, hx661_1, hx661_2, hx661_3, hx661_4, hx661_5, hx661_6⟩ := at_T105 HR0_1.out x6_1 p661 q661; (try rw [← Nbq16.out] at hx661_2); (try rw [← Nbq16.out] at hw661_2); cases e661; replace hx661_0 := hc HB hx661_0; replace hx661_1 := hc HB hx661_1; replace hx661_2 := hc HB hx661_2; replace hx661_3 := hc HB hx661_3; replace hx661_4 := hc HB hx661_4; replace hx661_5 := hc HB hx661_5; replace hx661_6 := hc HB hx661_6; replace p661 := eq_true p661; replace q661 := eq_true q661)))
                      go_roundg k1
                      case measure => have := HK1.out; omega
                      case rel => exact ⟨(wrap64 (x6_1 + 1)), eb, H', ⟨by have := HK1.out; omega⟩, ⟨bk BK656⟩, ⟨bl HB⟩⟩
                    · replace c17 := Bool.eq_false_iff.mpr c17
                      subst c17
                      have H1 : (some 35) = some r := by rw [if_neg (show ¬ (false = true) by decide)] at H; exact H
                      clear H
                      have H := H1
                      clear H1
                      obtain rfl := Option.some.inj H
                      have p658 : 0 ≤ (x6_1 : Int) := oda
                      have q658 : x6_1 < (l1.length : Int) := oda
                      obtain ⟨ad658, e658, hx658_0, hx658_1, hx658_2, hx658_3⟩ := at_T50 HR1.out x6_1 p658 q658
                      cases e658
                      replace hx658_0 := hc HB hx658_0
                      replace hx658_1 := hc HB hx658_1
                      replace hx658_2 := hc HB hx658_2
                      replace hx658_3 := hc HB hx658_3
                      replace p658 := eq_true p658
                      replace q658 := eq_true q658
                      go_wp2_with (first | (go_at_call 69; (with_reducible refine (vellumref01_Check.calls k1 ((rd_T50 l1 x6_1).f0) ((rd_T50 l1 x6_1).f1) ((rd_T50 l1 x6_1).f2) ((rd_T50 l1 x6_1).f3) t659 _ (Glob.below HG.out (bl HB)) A12.out).mono ?_); rintro e w20 ⟨rfl, hb⟩; replace BK656 := kb BK656 hb; replace HB := sb HB hb; (try clear hb); (try clear hb2 hk hi); have p660 : 0 ≤ (x6_1 : Int) := oda; have q660 : x6_1 < (l1.length : Int) := oda; obtain ⟨ad660, e660, hx660_0, hx660_1, hx660_2, hx660_3⟩ := at_T50 HR1.out x6_1 p660 q660; obtain rfl : ad658 = ad660 := (by injection e660); replace hx660_0 := hc HB hx660_0; replace hx660_1 := hc HB hx660_1; replace hx660_2 := hc HB hx660_2; replace hx660_3 := hc HB hx660_3; replace p660 := eq_true p660; replace q660 := eq_true q660; obtain ⟨Z21_0, Z21_1, Z21_2, Z21_3, Z21_4, Y21_0, Y21_1, Y21_2, Y21_3, Y21_4⟩ := bq5 BK656; have p661 : 0 ≤ (x6_1 : Int) := oda; have q661 : x6_1 < (l0_1.length : Int) := oda; obtain ⟨ad661, e661, hx661_0, hx661_1, hx661_2, hx661_3, hx661_4, hx661_5, hx661_6⟩ := at_T105 HR0_1.out x6_1 p661 q661; (try rw [← Nbq16.out] at hx661_2); (try rw [← Nbq16.out] at hw661_2); cases e661; replace hx661_0 := hc HB hx661_0; replace hx661_1 := hc HB hx661_1; replace hx661_2 := hc HB hx661_2; replace hx661_3 := hc HB hx661_3; replace hx661_4 := hc HB hx661_4; replace hx661_5 := hc HB hx661_5; replace hx661_6 := hc HB hx661_6; replace p661 := eq_true p661; replace q661 := eq_true q661))
                      repeat (go_quiet (fail); try go_wp2_with (first | (go_at_call 69; (with_reducible refine (vellumref01_Check.calls k1 ((rd_T50 l1 x6_1).f0) ((rd_T50 l1 x6_1).f1) ((rd_T50 l1 x6_1).f2) ((rd_T50 l1 x6_1).f3) t659 _ (Glob.below HG.out (bl HB)) A12.out).mono ?_); rintro e w20 ⟨rfl, hb⟩; replace BK656 := kb BK656 hb; replace HB := sb HB hb; (try clear hb); (try clear hb2 hk hi); have p660 : 0 ≤ (x6_1 : Int) := oda; have q660 : x6_1 < (l1.length : Int) := oda; obtain ⟨ad660, e660, hx660_0, hx660_1, hx660_2, hx660_3⟩ := at_T50 HR1.out x6_1 p660 q660; obtain rfl : ad658 = ad660 := (by injection e660); replace hx660_0 := hc HB hx660_0; replace hx660_1 := hc HB hx660_1; replace hx660_2 := hc HB hx660_2; replace hx660_3 := hc HB hx660_3; replace p660 := eq_true p660; replace q660 := eq_true q660; obtain ⟨Z21_0, Z21_1, Z21_2, Z21_3, Z21_4, Y21_0, Y21_1, Y21_2, Y21_3, Y21_4⟩ := bq5 BK656; have p661 : 0 ≤ (x6_1 : Int) := oda; have q661 : x6_1 < (l0_1.length : Int) := oda; obtain ⟨ad661, e661, hx661_0, hx661_1, hx661_2, hx661_3, hx661_4, hx661_5, hx661_6⟩ := at_T105 HR0_1.out x6_1 p661 q661; (try rw [← Nbq16.out] at hx661_2); (try rw [← Nbq16.out] at hw661_2); cases e661; replace hx661_0 := hc HB hx661_0; replace hx661_1 := hc HB hx661_1; replace hx661_2 := hc HB hx661_2; replace hx661_3 := hc HB hx661_3; replace hx661_4 := hc HB hx661_4; replace hx661_5 := hc HB hx661_5; replace hx661_6 := hc HB hx661_6; replace p661 := eq_true p661; replace q661 := eq_true q661)))
                      go_ret
                      exact ⟨er, bl HB⟩
                  · rw [if_neg c15] at H
                    exact absurd H (by simp)
                · rw [if_neg c14] at H
                  have c14b0 : (((rd_T50 l1 x6_1).f0) == 0) = false := beq_eq_false_iff_ne.mpr c14
                  have c14b1 : (((rd_T50 l1 x6_1).f0) != 0) = true := bne_iff_ne.mpr c14
                  by_cases c22 : x6_1 < (l0_1.length : Int)
                  · rw [if_pos c22] at H
                    have c22b0 : decide (x6_1 < (l0_1.length : Int)) = true := decide_eq_true c22
                    clear c22
                    by_cases c23 : ((rd_T50 l1 x6_1).f0) = ((rd_T105 l0_1 x6_1).f1)
                    · rw [if_pos c23] at H
                      have c23b0 : (((rd_T50 l1 x6_1).f0) == ((rd_T105 l0_1 x6_1).f1)) = true := beq_iff_eq.mpr c23
                      have c23b1 : (((rd_T50 l1 x6_1).f0) != ((rd_T105 l0_1 x6_1).f1)) = false := bne_eq_false_iff_eq.mpr c23
                      clear c23
                      have H' := am H
                      clear H
                      have p658 : 0 ≤ (x6_1 : Int) := oda
                      have q658 : x6_1 < (l1.length : Int) := oda
                      obtain ⟨ad658, e658, hx658_0, hx658_1, hx658_2, hx658_3⟩ := at_T50 HR1.out x6_1 p658 q658
                      cases e658
                      replace hx658_0 := hc HB hx658_0
                      replace hx658_1 := hc HB hx658_1
                      replace hx658_2 := hc HB hx658_2
                      replace hx658_3 := hc HB hx658_3
                      replace p658 := eq_true p658
                      replace q658 := eq_true q658
                      go_wp2_with (first | (go_at_call 69; (with_reducible refine (vellumref01_Check.calls k1 ((rd_T50 l1 x6_1).f0) ((rd_T50 l1 x6_1).f1) ((rd_T50 l1 x6_1).f2) ((rd_T50 l1 x6_1).f3) t659 _ (Glob.below HG.out (bl HB)) A12.out).mono ?_); rintro e w24 ⟨rfl, hb⟩; replace BK656 := kb BK656 hb; replace HB := sb HB hb; (try clear hb); (try clear hb2 hk hi); have p660 : 0 ≤ (x6_1 : Int) := oda; have q660 : x6_1 < (l1.length : Int) := oda; obtain ⟨ad660, e660, hx660_0, hx660_1, hx660_2, hx660_3⟩ := at_T50 HR1.out x6_1 p660 q660; obtain rfl : ad658 = ad660 := (by injection e660); replace hx660_0 := hc HB hx660_0; replace hx660_1 := hc HB hx660_1; replace hx660_2 := hc HB hx660_2; replace hx660_3 := hc HB hx660_3; replace p660 := eq_true p660; replace q660 := eq_true q660; have p662 : 0 ≤ (x6_1 : Int) := oda; have q662 : x6_1 < (l1.length : Int) := oda; obtain ⟨ad662, e662, hx662_0, hx662_1, hx662_2, hx662_3⟩ := at_T50 HR1.out x6_1 p662 q662; obtain rfl : ad658 = ad662 := (by injection e662); replace hx662_0 := hc HB hx662_0; replace hx662_1 := hc HB hx662_1; replace hx662_2 := hc HB hx662_2; replace hx662_3 := hc HB hx662_3; replace p662 := eq_true p662; replace q662 := eq_true q662; obtain ⟨Z25_0, Z25_1, Z25_2, Z25_3, Z25_4, Y25_0, Y25_1, Y25_2, Y25_3, Y25_4⟩ := bq5 BK656; have p663 : 0 ≤ (x6_1 : Int) := oda; have q663 : x6_1 < (l0_1.length : Int) := oda; obtain ⟨ad663, e663, hx663_0, hx663_1, hx663_2, hx663_3, hx663_4, hx663_5, hx663_6⟩ := at_T105 HR0_1.out x6_1 p663 q663; cases e663; replace hx663_0 := hc HB hx663_0; replace hx663_1 := hc HB hx663_1; replace hx663_2 := hc HB hx663_2; replace hx663_3 := hc HB hx663_3; replace hx663_4 := hc HB hx663_4; replace hx663_5 := hc HB hx663_5; replace hx663_6 := hc HB hx663_6; replace p663 := eq_true p663; replace q663 := eq_true q663))
                      repeat (go_quiet (fail); try go_wp2_with (first | (go_at_call 69; (with_reducible refine (vellumref01_Check.calls k1 ((rd_T50 l1 x6_1).f0) ((rd_T50 l1 x6_1).f1) ((rd_T50 l1 x6_1).f2) ((rd_T50 l1 x6_1).f3) t659 _ (Glob.below HG.out (bl HB)) A12.out).mono ?_); rintro e w24 ⟨rfl, hb⟩; replace BK656 := kb BK656 hb; replace HB := sb HB hb; (try clear hb); (try clear hb2 hk hi); have p660 : 0 ≤ (x6_1 : Int) := oda; have q660 : x6_1 < (l1.length : Int) := oda; obtain ⟨ad660, e660, hx660_0, hx660_1, hx660_2, hx660_3⟩ := at_T50 HR1.out x6_1 p660 q660; obtain rfl : ad658 = ad660 := (by injection e660); replace hx660_0 := hc HB hx660_0; replace hx660_1 := hc HB hx660_1; replace hx660_2 := hc HB hx660_2; replace hx660_3 := hc HB hx660_3; replace p660 := eq_true p660; replace q660 := eq_true q660; have p662 : 0 ≤ (x6_1 : Int) := oda; have q662 : x6_1 < (l1.length : Int) := oda; obtain ⟨ad662, e662, hx662_0, hx662_1, hx662_2, hx662_3⟩ := at_T50 HR1.out x6_1 p662 q662; obtain rfl : ad658 = ad662 := (by injection e662); replace hx662_0 := hc HB hx662_0; replace hx662_1 := hc HB hx662_1; replace hx662_2 := hc HB hx662_2; replace hx662_3 := hc HB hx662_3; replace p662 := eq_true p662; replace q662 := eq_true q662; obtain ⟨Z25_0, Z25_1, Z25_2, Z25_3, Z25_4, Y25_0, Y25_1, Y25_2, Y25_3, Y25_4⟩ := bq5 BK656; have p663 : 0 ≤ (x6_1 : Int) := oda; have q663 : x6_1 < (l0_1.length : Int) := oda; obtain ⟨ad663, e663, hx663_0, hx663_1, hx663_2, hx663_3, hx663_4, hx663_5, hx663_6⟩ := at_T105 HR0_1.out x6_1 p663 q663; cases e663; replace hx663_0 := hc HB hx663_0; replace hx663_1 := hc HB hx663_1; replace hx663_2 := hc HB hx663_2; replace hx663_3 := hc HB hx663_3; replace hx663_4 := hc HB hx663_4; replace hx663_5 := hc HB hx663_5; replace hx663_6 := hc HB hx663_6; replace p663 := eq_true p663; replace q663 := eq_true q663)))
                      go_roundg k1
                      case measure => have := HK1.out; omega
                      case rel => exact ⟨(wrap64 (x6_1 + 1)), eb, H', ⟨by have := HK1.out; omega⟩, ⟨bk BK656⟩, ⟨bl HB⟩⟩
                    · rw [if_neg c23] at H
                      have c23b0 : (((rd_T50 l1 x6_1).f0) == ((rd_T105 l0_1 x6_1).f1)) = false := beq_eq_false_iff_ne.mpr c23
                      have c23b1 : (((rd_T50 l1 x6_1).f0) != ((rd_T105 l0_1 x6_1).f1)) = true := bne_iff_ne.mpr c23
                      obtain rfl := Option.some.inj H
                      have p658 : 0 ≤ (x6_1 : Int) := oda
                      have q658 : x6_1 < (l1.length : Int) := oda
                      obtain ⟨ad658, e658, hx658_0, hx658_1, hx658_2, hx658_3⟩ := at_T50 HR1.out x6_1 p658 q658
                      cases e658
                      replace hx658_0 := hc HB hx658_0
                      replace hx658_1 := hc HB hx658_1
                      replace hx658_2 := hc HB hx658_2
                      replace hx658_3 := hc HB hx658_3
                      replace p658 := eq_true p658
                      replace q658 := eq_true q658
                      go_wp2_with (first | (go_at_call 69; (with_reducible refine (vellumref01_Check.calls k1 ((rd_T50 l1 x6_1).f0) ((rd_T50 l1 x6_1).f1) ((rd_T50 l1 x6_1).f2) ((rd_T50 l1 x6_1).f3) t659 _ (Glob.below HG.out (bl HB)) A12.out).mono ?_); rintro e w26 ⟨rfl, hb⟩; replace BK656 := kb BK656 hb; replace HB := sb HB hb; (try clear hb); (try clear hb2 hk hi); have p660 : 0 ≤ (x6_1 : Int) := oda; have q660 : x6_1 < (l1.length : Int) := oda; obtain ⟨ad660, e660, hx660_0, hx660_1, hx660_2, hx660_3⟩ := at_T50 HR1.out x6_1 p660 q660; obtain rfl : ad658 = ad660 := (by injection e660); replace hx660_0 := hc HB hx660_0; replace hx660_1 := hc HB hx660_1; replace hx660_2 := hc HB hx660_2; replace hx660_3 := hc HB hx660_3; replace p660 := eq_true p660; replace q660 := eq_true q660; have p662 : 0 ≤ (x6_1 : Int) := oda; have q662 : x6_1 < (l1.length : Int) := oda; obtain ⟨ad662, e662, hx662_0, hx662_1, hx662_2, hx662_3⟩ := at_T50 HR1.out x6_1 p662 q662; obtain rfl : ad658 = ad662 := (by injection e662); replace hx662_0 := hc HB hx662_0; replace hx662_1 := hc HB hx662_1; replace hx662_2 := hc HB hx662_2; replace hx662_3 := hc HB hx662_3; replace p662 := eq_true p662; replace q662 := eq_true q662; obtain ⟨Z27_0, Z27_1, Z27_2, Z27_3, Z27_4, Y27_0, Y27_1, Y27_2, Y27_3, Y27_4⟩ := bq5 BK656; have p663 : 0 ≤ (x6_1 : Int) := oda; have q663 : x6_1 < (l0_1.length : Int) := oda; obtain ⟨ad663, e663, hx663_0, hx663_1, hx663_2, hx663_3, hx663_4, hx663_5, hx663_6⟩ := at_T105 HR0_1.out x6_1 p663 q663; cases e663; replace hx663_0 := hc HB hx663_0; replace hx663_1 := hc HB hx663_1; replace hx663_2 := hc HB hx663_2; replace hx663_3 := hc HB hx663_3; replace hx663_4 := hc HB hx663_4; replace hx663_5 := hc HB hx663_5; replace hx663_6 := hc HB hx663_6; replace p663 := eq_true p663; replace q663 := eq_true q663))
                      repeat (go_quiet (fail); try go_wp2_with (first | (go_at_call 69; (with_reducible refine (vellumref01_Check.calls k1 ((rd_T50 l1 x6_1).f0) ((rd_T50 l1 x6_1).f1) ((rd_T50 l1 x6_1).f2) ((rd_T50 l1 x6_1).f3) t659 _ (Glob.below HG.out (bl HB)) A12.out).mono ?_); rintro e w26 ⟨rfl, hb⟩; replace BK656 := kb BK656 hb; replace HB := sb HB hb; (try clear hb); (try clear hb2 hk hi); have p660 : 0 ≤ (x6_1 : Int) := oda; have q660 : x6_1 < (l1.length : Int) := oda; obtain ⟨ad660, e660, hx660_0, hx660_1, hx660_2, hx660_3⟩ := at_T50 HR1.out x6_1 p660 q660; obtain rfl : ad658 = ad660 := (by injection e660); replace hx660_0 := hc HB hx660_0; replace hx660_1 := hc HB hx660_1; replace hx660_2 := hc HB hx660_2; replace hx660_3 := hc HB hx660_3; replace p660 := eq_true p660; replace q660 := eq_true q660; have p662 : 0 ≤ (x6_1 : Int) := oda; have q662 : x6_1 < (l1.length : Int) := oda; obtain ⟨ad662, e662, hx662_0, hx662_1, hx662_2, hx662_3⟩ := at_T50 HR1.out x6_1 p662 q662; obtain rfl : ad658 = ad662 := (by injection e662); replace hx662_0 := hc HB hx662_0; replace hx662_1 := hc HB hx662_1; replace hx662_2 := hc HB hx662_2; replace hx662_3 := hc HB hx662_3; replace p662 := eq_true p662; replace q662 := eq_true q662; obtain ⟨Z27_0, Z27_1, Z27_2, Z27_3, Z27_4, Y27_0, Y27_1, Y27_2, Y27_3, Y27_4⟩ := bq5 BK656; have p663 : 0 ≤ (x6_1 : Int) := oda; have q663 : x6_1 < (l0_1.length : Int) := oda; obtain ⟨ad663, e663, hx663_0, hx663_1, hx663_2, hx663_3, hx663_4, hx663_5, hx663_6⟩ := at_T105 HR0_1.out x6_1 p663 q663; cases e663; replace hx663_0 := hc HB hx663_0; replace hx663_1 := hc HB hx663_1; replace hx663_2 := hc HB hx663_2; replace hx663_3 := hc HB hx663_3; replace hx663_4 := hc HB hx663_4; replace hx663_5 := hc HB hx663_5; replace hx663_6 := hc HB hx663_6; replace p663 := eq_true p663; replace q663 := eq_true q663)))
                      go_ret
                      exact ⟨er, bl HB⟩
                  · rw [if_neg c22] at H
                    exact absurd H (by simp)
              · rw [if_neg c13] at H
                have c13b0 : (t659 == 0) = false := beq_eq_false_iff_ne.mpr c13
                have c13b1 : (t659 != 0) = true := bne_iff_ne.mpr c13
                obtain rfl := Option.some.inj H
                have p658 : 0 ≤ (x6_1 : Int) := oda
                have q658 : x6_1 < (l1.length : Int) := oda
                obtain ⟨ad658, e658, hx658_0, hx658_1, hx658_2, hx658_3⟩ := at_T50 HR1.out x6_1 p658 q658
                cases e658
                replace hx658_0 := hc HB hx658_0
                replace hx658_1 := hc HB hx658_1
                replace hx658_2 := hc HB hx658_2
                replace hx658_3 := hc HB hx658_3
                replace p658 := eq_true p658
                replace q658 := eq_true q658
                go_wp2_with (first | (go_at_call 69; (with_reducible refine (vellumref01_Check.calls k1 ((rd_T50 l1 x6_1).f0) ((rd_T50 l1 x6_1).f1) ((rd_T50 l1 x6_1).f2) ((rd_T50 l1 x6_1).f3) t659 _ (Glob.below HG.out (bl HB)) A12.out).mono ?_); rintro e w28 ⟨rfl, hb⟩; replace BK656 := kb BK656 hb; replace HB := sb HB hb; (try clear hb); (try clear hb2 hk hi)))
                repeat (go_quiet (fail); try go_wp2_with (first | (go_at_call 69; (with_reducible refine (vellumref01_Check.calls k1 ((rd_T50 l1 x6_1).f0) ((rd_T50 l1 x6_1).f1) ((rd_T50 l1 x6_1).f2) ((rd_T50 l1 x6_1).f3) t659 _ (Glob.below HG.out (bl HB)) A12.out).mono ?_); rintro e w28 ⟨rfl, hb⟩; replace BK656 := kb BK656 hb; replace HB := sb HB hb; (try clear hb); (try clear hb2 hk hi))))
                go_ret
                exact ⟨er, bl HB⟩
            · rw [if_neg c11] at H
              exact absurd H (by simp)
          · rw [if_neg c10] at H
            have c10b0 : decide (x6_1 < (l1.length : Int)) = false := decide_eq_false c10
            clear c10
            obtain rfl := Option.some.inj H
            go_wp2
            repeat (go_quiet (fail); try go_wp2)
            go_ret
            exact ⟨er, bl HB⟩
    · rw [if_neg c5] at H
      have c5b0 : ((l1.length : Int) == (l0_1.length : Int)) = false := beq_eq_false_iff_ne.mpr c5
      have c5b1 : ((l1.length : Int) != (l0_1.length : Int)) = true := bne_iff_ne.mpr c5
      have c5b2 : (l1.length == l0_1.length) = false := by first | simpa using c5 | (simp at c5 ⊢; omega)
      obtain rfl := Option.some.inj H
      go_enter Tryd.func85, Tryd.ntmps85
      go_wp2_with (first | ((with_reducible refine gate_dst (N := 2) rfl ?_); refine box_event rfl (N := 2) rfl (cs := #[.string a0_0, .slice A0_1 l0_1.length c0_1, .slice A0_2 l0_2.length c0_2, .slice A0_3 l0_3.length c0_3, .slice A0_4 l0_4.length c0_4]) (t := 65) gs ?_; intro gb656 hg w29 hbox hb; have BK656 := am (hbox); have GW656 := gw hg HB; have GE656 := gw hg HB; replace HB := sb HB hb; clear hb hbox hg; obtain ⟨Z30_0, Z30_1, Z30_2, Z30_3, Z30_4, Y30_0, Y30_1, Y30_2, Y30_3, Y30_4⟩ := bq5 BK656) | (go_at_call 93; (with_reducible refine (vellumref03_Check.calls k a0_0 _ _ l0_1 _ _ l0_2 _ _ l0_3 _ _ l0_4 t657 _ (Kd.cb HR0_1 HB) HC0_1.out (Kd.cb HR0_2 HB) HC0_2.out (Kd.cb HR0_3 HB) HC0_3.out (Kd.cb HR0_4 HB) HC0_4.out (Glob.below HG.out (bl HB)) A3.out).mono ?_); rintro e w31 ⟨rfl, hb⟩; replace BK656 := kb BK656 hb; replace HB := sb HB hb; (try clear hb); (try clear hb2 hk hi); obtain ⟨Z32_0, Z32_1, Z32_2, Z32_3, Z32_4, Y32_0, Y32_1, Y32_2, Y32_3, Y32_4⟩ := bq5 BK656))
      repeat (go_quiet (fail); try go_wp2_with (first | ((with_reducible refine gate_dst (N := 2) rfl ?_); refine box_event rfl (N := 2) rfl (cs := #[.string a0_0, .slice A0_1 l0_1.length c0_1, .slice A0_2 l0_2.length c0_2, .slice A0_3 l0_3.length c0_3, .slice A0_4 l0_4.length c0_4]) (t := 65) gs ?_; intro gb656 hg w29 hbox hb; have BK656 := am (hbox); have GW656 := gw hg HB; have GE656 := gw hg HB; replace HB := sb HB hb; clear hb hbox hg; obtain ⟨Z30_0, Z30_1, Z30_2, Z30_3, Z30_4, Y30_0, Y30_1, Y30_2, Y30_3, Y30_4⟩ := bq5 BK656) | (go_at_call 93; (with_reducible refine (vellumref03_Check.calls k a0_0 _ _ l0_1 _ _ l0_2 _ _ l0_3 _ _ l0_4 t657 _ (Kd.cb HR0_1 HB) HC0_1.out (Kd.cb HR0_2 HB) HC0_2.out (Kd.cb HR0_3 HB) HC0_3.out (Kd.cb HR0_4 HB) HC0_4.out (Glob.below HG.out (bl HB)) A3.out).mono ?_); rintro e w31 ⟨rfl, hb⟩; replace BK656 := kb BK656 hb; replace HB := sb HB hb; (try clear hb); (try clear hb2 hk hi); obtain ⟨Z32_0, Z32_1, Z32_2, Z32_3, Z32_4, Y32_0, Y32_1, Y32_2, Y32_3, Y32_4⟩ := bq5 BK656)))
      go_ret
      exact ⟨er, bl HB⟩
  · rw [if_neg c4] at H
    have c4b0 : (t657 == 0) = false := beq_eq_false_iff_ne.mpr c4
    have c4b1 : (t657 != 0) = true := bne_iff_ne.mpr c4
    obtain rfl := Option.some.inj H
    go_enter Tryd.func85, Tryd.ntmps85
    go_wp2_with (first | ((with_reducible refine gate_dst (N := 2) rfl ?_); refine box_event rfl (N := 2) rfl (cs := #[.string a0_0, .slice A0_1 l0_1.length c0_1, .slice A0_2 l0_2.length c0_2, .slice A0_3 l0_3.length c0_3, .slice A0_4 l0_4.length c0_4]) (t := 65) gs ?_; intro gb656 hg w33 hbox hb; have BK656 := am (hbox); have GW656 := gw hg HB; have GE656 := gw hg HB; replace HB := sb HB hb; clear hb hbox hg; obtain ⟨Z34_0, Z34_1, Z34_2, Z34_3, Z34_4, Y34_0, Y34_1, Y34_2, Y34_3, Y34_4⟩ := bq5 BK656) | (go_at_call 93; (with_reducible refine (vellumref03_Check.calls k a0_0 _ _ l0_1 _ _ l0_2 _ _ l0_3 _ _ l0_4 t657 _ (Kd.cb HR0_1 HB) HC0_1.out (Kd.cb HR0_2 HB) HC0_2.out (Kd.cb HR0_3 HB) HC0_3.out (Kd.cb HR0_4 HB) HC0_4.out (Glob.below HG.out (bl HB)) A3.out).mono ?_); rintro e w35 ⟨rfl, hb⟩; replace BK656 := kb BK656 hb; replace HB := sb HB hb; (try clear hb); (try clear hb2 hk hi)))
    repeat (go_quiet (fail); try go_wp2_with (first | ((with_reducible refine gate_dst (N := 2) rfl ?_); refine box_event rfl (N := 2) rfl (cs := #[.string a0_0, .slice A0_1 l0_1.length c0_1, .slice A0_2 l0_2.length c0_2, .slice A0_3 l0_3.length c0_3, .slice A0_4 l0_4.length c0_4]) (t := 65) gs ?_; intro gb656 hg w33 hbox hb; have BK656 := am (hbox); have GW656 := gw hg HB; have GE656 := gw hg HB; replace HB := sb HB hb; clear hb hbox hg; obtain ⟨Z34_0, Z34_1, Z34_2, Z34_3, Z34_4, Y34_0, Y34_1, Y34_2, Y34_3, Y34_4⟩ := bq5 BK656) | (go_at_call 93; (with_reducible refine (vellumref03_Check.calls k a0_0 _ _ l0_1 _ _ l0_2 _ _ l0_3 _ _ l0_4 t657 _ (Kd.cb HR0_1 HB) HC0_1.out (Kd.cb HR0_2 HB) HC0_2.out (Kd.cb HR0_3 HB) HC0_3.out (Kd.cb HR0_4 HB) HC0_4.out (Glob.below HG.out (bl HB)) A3.out).mono ?_); rintro e w35 ⟨rfl, hb⟩; replace BK656 := kb BK656 hb; replace HB := sb HB hb; (try clear hb); (try clear hb2 hk hi))))
    go_ret
    exact ⟨er, bl HB⟩
end Go.Proofs.YtpiifdbicibelaaDoor.PA
end
section
namespace Go.Proofs.YtpiifdbicibelaaDoor.Pure
open Go.RowKit Go.Proofs Go.Proofs.YtpiifdbicibelaaDoorW.PrintWords Go.Proofs.YtpiifdbicibelaaDoorW.PrintLast Go.Proofs.YtpiifdbicibelaaDoorW.PrintMore Go.Proofs.YtpiifdbicibelaaDoor.PA Go.Proofs.YtpiifdbicibelaaDoor.OpenK
set_option linter.unusedVariables false
set_option linter.unusedSimpArgs false
theorem rd105_eq {xs : List S105} {i : Nat} (h : i < xs.length) : rd_T105 xs (i : Int) = xs[i] := by
  have := rd105_get h
  rw [List.getElem?_eq_getElem h] at this
  exact (Option.some.inj this).symm
theorem rd115_eq {xs : List S115} {i : Nat} (h : i < xs.length) : rd_T115 xs (i : Int) = xs[i] := by
  have := rd115_get h
  rw [List.getElem?_eq_getElem h] at this
  exact (Option.some.inj this).symm
theorem rd139_eq {xs : List S139} {i : Nat} (h : i < xs.length) : rd_T139 xs (i : Int) = xs[i] := by
  have := rd139_get h
  rw [List.getElem?_eq_getElem h] at this
  exact (Option.some.inj this).symm
open Classical in
theorem cols_all (n : Nat) (l : List Int) : decide (∀ j, 0 ≤ j → ∀ h : j < l.length, (0 ≤ l[j] ∧ l[j] < n) ∧ l[j] ∉ l.take j) = (l.all (fun x => decide (0 ≤ x) && decide (x < n)) && decide l.Nodup) := by
  rw [Bool.eq_iff_iff, decide_eq_true_eq, Bool.and_eq_true, List.all_eq_true, decide_eq_true_eq]
  constructor
  · intro g
    refine ⟨fun x hx => ?_, ?_⟩
    · obtain ⟨j, hj, rfl⟩ := List.getElem_of_mem hx
      have := (g j (Nat.zero_le _) hj).1
      simp; omega
    · rw [List.nodup_iff_pairwise_ne, List.pairwise_iff_getElem]
      intro i j hi hj hij e
      exact (g j (Nat.zero_le _) hj).2 (by rw [← e]; exact List.mem_take_iff_getElem.2 ⟨i, by omega, rfl⟩)
  · rintro ⟨g1, g2⟩ j _ hj
    have h1 := g1 l[j] (List.getElem_mem hj)
    simp at h1
    refine ⟨h1, fun hm => ?_⟩
    obtain ⟨i, hi, e⟩ := List.mem_take_iff_getElem.1 hm
    rw [List.nodup_iff_pairwise_ne, List.pairwise_iff_getElem] at g2
    exact g2 i j (by omega) hj (by omega) e
theorem some_ev (a : ByteArray) (c : List S105) (d : List Int) (e : List S115) (f : List S139) (l : List Int) (hl : l.length < 9223372036854775807) : Ev (fun k => vellumref03_some.f k a c d e f l) (colsOk c.length l) := by
  classical
  have inner : ∀ (i : Nat) (hlt : i < l.length) (b : Bool), Ev (fun k => vellumref03_some.l0 k l ((i + 1 : Nat) : Int) a c d e f) b → ∀ (m j : Nat), j + m = i →
      Ev (fun k => vellumref03_some.l1 k l (i : Int) (j : Int) a c d e f) (if l[i] ∈ (l.take i).drop j then false else b) := by
    intro i hlt b hb m
    induction m with
    | zero =>
      intro j hj
      obtain rfl : j = i := by omega
      rw [List.drop_of_length_le (by simp; omega), if_neg (by simp)]
      refine Ev.step (g := fun k => vellumref03_some.l0 k l ((j + 1 : Nat) : Int) a c d e f) (fun k => ?_) hb
      simp only [vellumref03_some.l1]
      rw [if_neg (by omega), wrap64_id (by omega) (by omega)]
      rfl
    | succ m ih =>
      intro j hj
      have hjl : j < l.length := by omega
      have hd : (l.take i).drop j = l[j] :: (l.take i).drop (j + 1) := by
        rw [List.drop_eq_getElem_cons (by simp; omega)]
        simp
      refine Ev.step (g := fun k => if l[j] = l[i] then some false else vellumref03_some.l1 k l (i : Int) ((j + 1 : Nat) : Int) a c d e f) (fun k => ?_) ?_
      · simp only [vellumref03_some.l1]
        rw [if_pos (by omega), if_pos (by omega), if_pos (by omega), if_pos (by omega), if_pos (by omega), rd_getI l j hjl, rd_getI l i hlt, wrap64_id (by omega) (by omega)]
        rfl
      · rw [hd]
        by_cases h : l[j] = l[i]
        · refine Ev.pos h ?_
          rw [if_pos (by rw [h]; simp)]
          exact Ev.pure
        · refine Ev.neg h ?_
          have := ih (j + 1) (by omega)
          have e2 : (l[i] ∈ l[j] :: (l.take i).drop (j + 1)) ↔ l[i] ∈ (l.take i).drop (j + 1) := by
            rw [List.mem_cons]; exact ⟨fun g => g.resolve_left (fun e => h e.symm), .inr⟩
          simp only [e2]; exact this
  have hloop : ∀ (m i : Nat), i + m = l.length → Ev (fun k => vellumref03_some.l0 k l (i : Int) a c d e f)
      (decide (∀ j, i ≤ j → ∀ h : j < l.length, (0 ≤ l[j] ∧ l[j] < c.length) ∧ l[j] ∉ l.take j)) := by
    intro m
    induction m with
    | zero =>
      intro i hi
      refine Ev.from_ 1 fun k => ?_
      simp only [vellumref03_some.l0]
      rw [if_neg (by omega)]
      congr 1
      exact (decide_eq_true (fun j h1 h2 => by omega)).symm
    | succ m ih =>
      intro i hi
      have hlt : i < l.length := by omega
      have hj2 : ∀ b : Bool, Ev (fun k => vellumref03_some.j2 k l (i : Int) b a c d e f) (if b = true then false else if l[i] ∈ l.take i then false else decide (∀ j, i + 1 ≤ j → ∀ h : j < l.length, (0 ≤ l[j] ∧ l[j] < c.length) ∧ l[j] ∉ l.take j)) := by
        intro b
        cases b
        · refine Ev.step (g := fun k => vellumref03_some.l1 k l (i : Int) ((0 : Nat) : Int) a c d e f) (fun k => ?_) ?_
          · simp only [vellumref03_some.j2]; rw [if_neg (by decide)]; rfl
          · have := inner i hlt _ (ih (i + 1) (by omega)) i 0 (by omega)
            simpa using this
        · refine Ev.from_ 1 fun k => ?_
          simp [vellumref03_some.j2]
      refine Ev.step (g := fun k => if l[i] < 0 then vellumref03_some.j2 k l (i : Int) true a c d e f else vellumref03_some.j2 k l (i : Int) (decide (l[i] ≥ (c.length : Int))) a c d e f) (fun k => ?_) ?_
      · simp only [vellumref03_some.l0]
        rw [if_pos (by omega), if_pos (by omega), rd_getI l i hlt]
      · by_cases h1 : l[i] < 0
        · refine Ev.pos h1 ?_
          rw [decide_eq_false (fun g => by have := (g i (Nat.le_refl _) hlt).1.1; omega)]
          simpa using hj2 true
        refine Ev.neg h1 ?_
        have hh := hj2 (decide (l[i] ≥ (c.length : Int)))
        by_cases h2 : l[i] ≥ (c.length : Int)
        · rw [decide_eq_false (p := ∀ j, i ≤ j → ∀ h : j < l.length, (0 ≤ l[j] ∧ l[j] < c.length) ∧ l[j] ∉ l.take j) (fun g => by have := (g i (Nat.le_refl _) hlt).1.2; omega)]
          rw [decide_eq_true h2] at hh ⊢
          simpa using hh
        rw [decide_eq_false h2] at hh ⊢
        by_cases h3 : l[i] ∈ l.take i
        · rw [decide_eq_false (p := ∀ j, i ≤ j → ∀ h : j < l.length, (0 ≤ l[j] ∧ l[j] < c.length) ∧ l[j] ∉ l.take j) (fun g => (g i (Nat.le_refl _) hlt).2 h3)]
          rw [if_neg (by decide), if_pos h3] at hh
          exact hh
        · rw [if_neg (by decide), if_neg h3] at hh
          have e2 : decide (∀ j, i + 1 ≤ j → ∀ h : j < l.length, (0 ≤ l[j] ∧ l[j] < c.length) ∧ l[j] ∉ l.take j) = decide (∀ j, i ≤ j → ∀ h : j < l.length, (0 ≤ l[j] ∧ l[j] < c.length) ∧ l[j] ∉ l.take j) := by
            rw [decide_eq_decide]
            constructor
            · intro g j h4 h5
              rcases Nat.lt_or_ge i j with h6 | h6
              · exact g j h6 h5
              · obtain rfl : j = i := by omega
                exact ⟨⟨by omega, by omega⟩, h3⟩
            · exact fun g j h4 h5 => g j (by omega) h5
          rw [← e2]; exact hh
  have hj : ∀ b : Bool, Ev (fun k => vellumref03_some.j0 k l b a c d e f) (!b && (l.all (fun x => decide (0 ≤ x) && decide (x < c.length)) && decide l.Nodup)) := by
    intro b
    cases b
    · refine Ev.step (g := fun k => vellumref03_some.l0 k l ((0 : Nat) : Int) a c d e f) (fun k => ?_) ?_
      · simp only [vellumref03_some.j0]; rw [if_neg (by decide)]; rfl
      · have := hloop l.length 0 (by omega)
        rw [cols_all] at this
        simpa using this
    · refine Ev.from_ 1 fun k => ?_
      simp [vellumref03_some.j0]
  simp only [vellumref03_some.f]
  unfold colsOk
  by_cases h1 : (l.length : Int) < 1
  · refine Ev.pos h1 ?_
    have : decide (1 ≤ l.length) = false := decide_eq_false (by omega)
    simpa [this] using hj true
  · refine Ev.neg h1 ?_
    have e1 : decide (1 ≤ l.length) = true := decide_eq_true (by omega)
    by_cases h2 : (l.length : Int) > 64
    · have e2 : decide (l.length ≤ 64) = false := decide_eq_false (by omega)
      rw [decide_eq_true h2]
      simpa [e2] using hj true
    · have e2 : decide (l.length ≤ 64) = true := decide_eq_true (by omega)
      rw [decide_eq_false h2]
      simpa [e1, e2] using hj false
theorem columns_ev (a : ByteArray) (c : List S105) (d : List Int) (e : List S115) (f : List S139) (hl : c.length < 9223372036854775807) (hw : ∀ x ∈ c, wfC x) : Ev (fun k => vellumref03_columns.f k a c d e f) (colErrs [] c) := by
  have inner : ∀ (i : Nat) (hlt : i < c.length) (b : Int), Ev (fun k => vellumref03_columns.l0 k ((i + 1 : Nat) : Int) a c d e f) b → ∀ (m j : Nat), j + m = i →
      Ev (fun k => vellumref03_columns.l1 k (i : Int) (j : Int) a c d e f c[i].f0 c[i].f1 c[i].f2 c[i].f3.f0 c[i].f3.f1 c[i].f3.f2 c[i].f3.f3)
        (if ((c.take i).drop j).any (fun x => x.f0.toList == c[i].f0.toList) = true then 31 else if colBad c[i] = true then 32 else b) := by
    intro i hlt b hb m
    have hwi := hw c[i] (List.getElem_mem hlt)
    induction m with
    | zero =>
      intro j hj
      obtain rfl : j = i := by omega
      rw [List.drop_of_length_le (by simp; omega), if_neg (by simp)]
      refine Ev.step (g := fun k => if c[j].f1 < 1 then (some 32) else (if c[j].f1 > 5 then (some 32) else ((vellumref01_Check.f k c[j].f3.f0 c[j].f3.f1 c[j].f3.f2 c[j].f3.f3).bind fun t633 => (if t633 = 0 then (if c[j].f3.f0 = c[j].f1 then (vellumref03_columns.l0 k ((j + 1 : Nat) : Int) a c d e f) else (if c[j].f3.f0 = 0 then (vellumref03_columns.l0 k ((j + 1 : Nat) : Int) a c d e f) else (some 32))) else (some 32))))) (fun k => ?_) ?_
      · simp only [vellumref03_columns.l1]
        rw [if_neg (by omega), wrap64_id (by omega) (by omega)]
        rfl
      · unfold colBad
        by_cases h1 : c[j].f1 < 1
        · refine Ev.pos h1 ?_
          rw [if_pos (by simp [h1])]; exact Ev.pure
        refine Ev.neg h1 ?_
        by_cases h2 : c[j].f1 > 5
        · refine Ev.pos h2 ?_
          rw [if_pos (by simp; omega)]; exact Ev.pure
        refine Ev.neg h2 (Ev.bind (Ev.from_ 6 fun k => check_ref k _ _ _ _ hwi.2) ?_)
        generalize chk c[j].f3.f0 c[j].f3.f1 c[j].f3.f2 c[j].f3.f3 = r
        have d1 : decide (c[j].f1 < 1) = false := decide_eq_false h1
        have d2 : decide (5 < c[j].f1) = false := decide_eq_false h2
        rw [d1, d2]
        by_cases h3 : r = 0
        · refine Ev.pos h3 ?_
          subst h3
          by_cases h4 : c[j].f3.f0 = c[j].f1
          · refine Ev.pos h4 ?_
            rw [if_neg (by simp [h4])]; exact hb
          · refine Ev.neg h4 ?_
            by_cases h5 : c[j].f3.f0 = 0
            · refine Ev.pos h5 ?_
              rw [if_neg (by simp [h5])]; exact hb
            · refine Ev.neg h5 ?_
              rw [if_pos (by simp [h4, h5])]; exact Ev.pure
        · refine Ev.neg h3 ?_
          rw [if_pos (by simp [h3])]; exact Ev.pure
    | succ m ih =>
      intro j hj
      have hjl : j < c.length := by omega
      have hd : (c.take i).drop j = c[j] :: (c.take i).drop (j + 1) := by
        rw [List.drop_eq_getElem_cons (by simp; omega)]
        simp
      refine Ev.step (g := fun k => if c[j].f0.toList = c[i].f0.toList then some 31 else vellumref03_columns.l1 k (i : Int) ((j + 1 : Nat) : Int) a c d e f c[i].f0 c[i].f1 c[i].f2 c[i].f3.f0 c[i].f3.f1 c[i].f3.f2 c[i].f3.f3) (fun k => ?_) ?_
      · simp only [vellumref03_columns.l1]
        rw [if_pos (by omega), if_pos (by omega), if_pos (by omega), rd105_eq hjl, wrap64_id (by omega) (by omega)]
        rfl
      · rw [hd]
        by_cases h : c[j].f0.toList = c[i].f0.toList
        · refine Ev.pos h ?_
          rw [if_pos (by simp [h])]
          exact Ev.pure
        · refine Ev.neg h ?_
          have := ih (j + 1) (by omega)
          have e2 : (c[j] :: (c.take i).drop (j + 1)).any (fun x => x.f0.toList == c[i].f0.toList) = ((c.take i).drop (j + 1)).any (fun x => x.f0.toList == c[i].f0.toList) := by
            rw [List.any_cons]; simp [h]
          rw [e2]; exact this
  have hloop : ∀ (m i : Nat), i + m = c.length → Ev (fun k => vellumref03_columns.l0 k (i : Int) a c d e f) (colErrs (c.take i) (c.drop i)) := by
    intro m
    induction m with
    | zero =>
      intro i hi
      rw [List.drop_of_length_le (by omega)]
      refine Ev.from_ 1 fun k => ?_
      simp only [vellumref03_columns.l0]
      rw [if_neg (by omega)]; rfl
    | succ m ih =>
      intro i hi
      have hlt : i < c.length := by omega
      have hwi := hw c[i] (List.getElem_mem hlt)
      rw [List.drop_eq_getElem_cons hlt]
      simp only [colErrs]
      refine Ev.step (g := fun k => (vellumref03_Name.f k c[i].f0).bind fun t631 => (if t631 = true then (vellumref03_columns.l1 k (i : Int) ((0 : Nat) : Int) a c d e f c[i].f0 c[i].f1 c[i].f2 c[i].f3.f0 c[i].f3.f1 c[i].f3.f2 c[i].f3.f3) else (some 30))) (fun k => ?_) (Ev.bind (name_ref _ hwi.1) ?_)
      · simp only [vellumref03_columns.l0]
        rw [if_pos (by omega), if_pos (by omega), rd105_eq hlt]
        rfl
      cases hn : nameOk c[i].f0 with
      | false => exact Ev.neg (by decide) (by rw [if_pos rfl]; exact Ev.pure)
      | true =>
        rw [if_neg (by decide)]
        refine Ev.pos rfl ?_
        have hii := ih (i + 1) (by omega)
        have ht : c.take (i + 1) = c.take i ++ [c[i]] := by rw [List.take_succ_eq_append_getElem hlt]
        rw [ht] at hii
        have := inner i hlt _ hii i 0 (by omega)
        simpa using this
  have := hloop c.length 0 (by omega)
  simpa [vellumref03_columns.f] using this
theorem indexes_ev (a : ByteArray) (c : List S105) (d : List Int) (e : List S115) (f : List S139) (hl : e.length < 9223372036854775807) (hw : ∀ x ∈ e, wfX x) : Ev (fun k => vellumref03_indexes.f k a c d e f) (idxErrs c.length [] e) := by
  have inner : ∀ (i : Nat) (hlt : i < e.length) (b : Int), Ev (fun k => vellumref03_indexes.l0 k ((i + 1 : Nat) : Int) a c d e f) b → ∀ (m j : Nat), j + m = i →
      Ev (fun k => vellumref03_indexes.l1 k (i : Int) (j : Int) a c d e f e[i].f0 e[i].f1 e[i].f2)
        (if ((e.take i).drop j).any (fun x => x.f0.toList == e[i].f0.toList) = true then 31 else if colsOk c.length e[i].f1 = false then 33 else b) := by
    intro i hlt b hb m
    have hwi := hw e[i] (List.getElem_mem hlt)
    induction m with
    | zero =>
      intro j hj
      obtain rfl : j = i := by omega
      rw [List.drop_of_length_le (by simp; omega), if_neg (by simp)]
      refine Ev.step (g := fun k => (vellumref03_some.f k a c d e f e[j].f1).bind fun t644 => (if t644 = true then (vellumref03_indexes.l0 k ((j + 1 : Nat) : Int) a c d e f) else (some 33))) (fun k => ?_) (Ev.bind (some_ev a c d e f e[j].f1 hwi.2) ?_)
      · simp only [vellumref03_indexes.l1]
        rw [if_neg (by omega), wrap64_id (by omega) (by omega)]
        rfl
      · cases hc : colsOk c.length e[j].f1 with
        | false => exact Ev.neg (by decide) (by rw [if_pos rfl]; exact Ev.pure)
        | true => exact Ev.pos rfl (by rw [if_neg (by decide)]; exact hb)
    | succ m ih =>
      intro j hj
      have hjl : j < e.length := by omega
      have hd : (e.take i).drop j = e[j] :: (e.take i).drop (j + 1) := by
        rw [List.drop_eq_getElem_cons (by simp; omega)]
        simp
      refine Ev.step (g := fun k => if e[j].f0.toList = e[i].f0.toList then some 31 else vellumref03_indexes.l1 k (i : Int) ((j + 1 : Nat) : Int) a c d e f e[i].f0 e[i].f1 e[i].f2) (fun k => ?_) ?_
      · simp only [vellumref03_indexes.l1]
        rw [if_pos (by omega), if_pos (by omega), if_pos (by omega), rd115_eq hjl, wrap64_id (by omega) (by omega)]
        rfl
      · rw [hd]
        by_cases h : e[j].f0.toList = e[i].f0.toList
        · refine Ev.pos h ?_
          rw [if_pos (by simp [h])]
          exact Ev.pure
        · refine Ev.neg h ?_
          have := ih (j + 1) (by omega)
          have e2 : (e[j] :: (e.take i).drop (j + 1)).any (fun x => x.f0.toList == e[i].f0.toList) = ((e.take i).drop (j + 1)).any (fun x => x.f0.toList == e[i].f0.toList) := by
            rw [List.any_cons]; simp [h]
          rw [e2]; exact this
  have hloop : ∀ (m i : Nat), i + m = e.length → Ev (fun k => vellumref03_indexes.l0 k (i : Int) a c d e f) (idxErrs c.length (e.take i) (e.drop i)) := by
    intro m
    induction m with
    | zero =>
      intro i hi
      rw [List.drop_of_length_le (by omega)]
      refine Ev.from_ 1 fun k => ?_
      simp only [vellumref03_indexes.l0]
      rw [if_neg (by omega)]; rfl
    | succ m ih =>
      intro i hi
      have hlt : i < e.length := by omega
      have hwi := hw e[i] (List.getElem_mem hlt)
      rw [List.drop_eq_getElem_cons hlt]
      simp only [idxErrs]
      refine Ev.step (g := fun k => (vellumref03_Name.f k e[i].f0).bind fun t642 => (if t642 = true then (vellumref03_indexes.l1 k (i : Int) ((0 : Nat) : Int) a c d e f e[i].f0 e[i].f1 e[i].f2) else (some 30))) (fun k => ?_) (Ev.bind (name_ref _ hwi.1) ?_)
      · simp only [vellumref03_indexes.l0]
        rw [if_pos (by omega), if_pos (by omega), rd115_eq hlt]
        rfl
      cases hn : nameOk e[i].f0 with
      | false => exact Ev.neg (by decide) (by rw [if_pos rfl]; exact Ev.pure)
      | true =>
        rw [if_neg (by decide)]
        refine Ev.pos rfl ?_
        have hii := ih (i + 1) (by omega)
        have ht : e.take (i + 1) = e.take i ++ [e[i]] := by rw [List.take_succ_eq_append_getElem hlt]
        rw [ht] at hii
        have := inner i hlt _ hii i 0 (by omega)
        simpa using this
  have := hloop e.length 0 (by omega)
  simpa [vellumref03_indexes.f] using this
theorem keyloop_ev (a : ByteArray) (c : List S105) (d : List Int) (e : List S115) (f : List S139) (hd : d.length < 9223372036854775807) (hk : colsOk c.length d = true) (b : Int) (hb : Ev (fun k => (vellumref03_indexes.f k a c d e f).bind fun t651 => (if t651 = 0 then (vellumref03_Check.l1 k 0 a c d e f) else (some t651))) b) :
    Ev (fun k => vellumref03_Check.l0 k 0 a c d e f) (if d.any (fun k => (rd_T105 c k).f2) = true then 33 else b) := by
  have hloop : ∀ (m i : Nat), i + m = d.length → Ev (fun k => vellumref03_Check.l0 k (i : Int) a c d e f) (if (d.drop i).any (fun k => (rd_T105 c k).f2) = true then 33 else b) := by
    intro m
    induction m with
    | zero =>
      intro i hi
      rw [List.drop_of_length_le (by omega), if_neg (by simp)]
      refine Ev.step (g := fun k => (vellumref03_indexes.f k a c d e f).bind fun t651 => (if t651 = 0 then (vellumref03_Check.l1 k 0 a c d e f) else (some t651))) (fun k => ?_) hb
      simp only [vellumref03_Check.l0]
      rw [if_neg (by omega)]
    | succ m ih =>
      intro i hi
      have hlt : i < d.length := by omega
      have hr := colsOk_mem hk (List.getElem_mem hlt)
      rw [List.drop_eq_getElem_cons hlt]
      refine Ev.step (g := fun k => if (rd_T105 c d[i]).f2 = true then some 33 else vellumref03_Check.l0 k ((i + 1 : Nat) : Int) a c d e f) (fun k => ?_) ?_
      · simp only [vellumref03_Check.l0]
        rw [if_pos (by omega), if_pos (by omega), rd_getI d i hlt, if_pos hr.1, if_pos hr.2, wrap64_id (by omega) (by omega)]
        rfl
      · cases h : (rd_T105 c d[i]).f2 with
        | true =>
          refine Ev.pos rfl ?_
          rw [if_pos (by rw [List.any_cons, h]; rfl)]
          exact Ev.pure
        | false =>
          refine Ev.neg (by decide) ?_
          have e2 : (d[i] :: d.drop (i + 1)).any (fun k => (rd_T105 c k).f2) = (d.drop (i + 1)).any (fun k => (rd_T105 c k).f2) := by rw [List.any_cons, h]; rfl
          rw [e2]
          exact ih (i + 1) (by omega)
  have := hloop d.length 0 (by omega)
  simpa using this
theorem refs_ev (a : ByteArray) (c : List S105) (d : List Int) (e : List S115) (f : List S139) (hl : f.length < 9223372036854775807) (hw : ∀ x ∈ f, wfR x) : Ev (fun k => vellumref03_Check.l1 k 0 a c d e f) (refErrs c.length f) := by
  have hloop : ∀ (m i : Nat), i + m = f.length → Ev (fun k => vellumref03_Check.l1 k (i : Int) a c d e f) (refErrs c.length (f.drop i)) := by
    intro m
    induction m with
    | zero =>
      intro i hi
      rw [List.drop_of_length_le (by omega)]
      refine Ev.from_ 1 fun k => ?_
      simp only [vellumref03_Check.l1]
      rw [if_neg (by omega)]; rfl
    | succ m ih =>
      intro i hi
      have hlt : i < f.length := by omega
      have hwi := hw f[i] (List.getElem_mem hlt)
      rw [List.drop_eq_getElem_cons hlt]
      simp only [refErrs]
      refine Ev.step (g := fun k => (vellumref03_Name.f k f[i].f1).bind fun t653 => (if t653 = true then ((vellumref03_some.f k a c d e f f[i].f0).bind fun t655 => (if t655 = true then (vellumref03_Check.l1 k ((i + 1 : Nat) : Int) a c d e f) else (some 33))) else (some 30))) (fun k => ?_) (Ev.bind (name_ref _ hwi.1) ?_)
      · simp only [vellumref03_Check.l1]
        rw [if_pos (by omega), if_pos (by omega), rd139_eq hlt, wrap64_id (by omega) (by omega)]
        rfl
      cases hn : nameOk f[i].f1 with
      | false => exact Ev.neg (by decide) (by rw [if_pos rfl]; exact Ev.pure)
      | true =>
        rw [if_neg (by decide)]
        refine Ev.pos rfl (Ev.bind (some_ev a c d e f f[i].f0 hwi.2) ?_)
        cases hc : colsOk c.length f[i].f0 with
        | false => exact Ev.neg (by decide) (by rw [if_pos rfl]; exact Ev.pure)
        | true => exact Ev.pos rfl (by rw [if_neg (by decide)]; exact ih (i + 1) (by omega))
  have := hloop f.length 0 (by omega)
  simpa using this
theorem tcheck_ev (a : ByteArray) (c : List S105) (d : List Int) (e : List S115) (f : List S139) (hw : WfT a c d e f) (hc : c.length < 9223372036854775807) (he : e.length < 9223372036854775807) (hf : f.length < 9223372036854775807) : Ev (fun k => vellumref03_Check.f k a c d e f) (checkT a c d e f) := by
  have hj : ∀ b : Bool, Ev (fun k => vellumref03_Check.j0 k b a c d e f) (if b = true then 2 else if colErrs [] c ≠ 0 then colErrs [] c else if colsOk c.length d = false then 33 else if d.any (fun k => (rd_T105 c k).f2) = true then 33 else if idxErrs c.length [] e ≠ 0 then idxErrs c.length [] e else refErrs c.length f) := by
    intro b
    cases b with
    | true =>
      refine Ev.from_ 1 fun k => ?_
      simp [vellumref03_Check.j0]
    | false =>
      refine Ev.step (g := fun k => (vellumref03_columns.f k a c d e f).bind fun t647 => (if t647 = 0 then ((vellumref03_some.f k a c d e f d).bind fun t648 => (if t648 = true then (vellumref03_Check.l0 k 0 a c d e f) else (some 33))) else (some t647))) (fun k => ?_) (Ev.bind (columns_ev a c d e f hc hw.cols) ?_)
      · simp only [vellumref03_Check.j0]; rw [if_neg (by decide)]
      rw [if_neg (by decide)]
      by_cases h1 : colErrs [] c = 0
      · rw [if_neg (by simp [h1])]
        refine Ev.pos h1 (Ev.bind (some_ev a c d e f d hw.key) ?_)
        cases hk : colsOk c.length d with
        | false => exact Ev.neg (by decide) (by rw [if_pos rfl]; exact Ev.pure)
        | true =>
          rw [if_neg (by decide)]
          refine Ev.pos rfl (keyloop_ev a c d e f hw.key hk _ (Ev.bind (indexes_ev a c d e f he hw.idx) ?_))
          by_cases h2 : idxErrs c.length [] e = 0
          · rw [if_neg (by simp [h2])]
            exact Ev.pos h2 (refs_ev a c d e f hf hw.refs)
          · rw [if_pos h2]
            exact Ev.neg h2 Ev.pure
      · rw [if_pos h1]
        exact Ev.neg h1 Ev.pure
  simp only [vellumref03_Check.f]
  unfold checkT
  refine Ev.bind (name_ref a hw.name) ?_
  cases hn : nameOk a with
  | false => exact Ev.neg (by decide) (by rw [if_pos rfl]; exact Ev.pure)
  | true =>
    rw [if_neg (by decide)]
    refine Ev.pos rfl ?_
    by_cases h1 : (c.length : Int) < 1
    · refine Ev.pos h1 ?_
      rw [if_pos (.inl (by omega))]
      simpa using hj true
    refine Ev.neg h1 ?_
    by_cases h2 : (c.length : Int) > 64
    · refine Ev.pos h2 ?_
      rw [if_pos (.inr (.inl (by omega)))]
      simpa using hj true
    refine Ev.neg h2 ?_
    by_cases h3 : (e.length : Int) > 16
    · refine Ev.pos h3 ?_
      rw [if_pos (.inr (.inr (.inl (by omega))))]
      simpa using hj true
    refine Ev.neg h3 ?_
    by_cases h4 : (f.length : Int) > 16
    · rw [decide_eq_true h4, if_pos (.inr (.inr (.inr (by omega))))]
      simpa using hj true
    · rw [decide_eq_false h4, if_neg (by omega)]
      have := hj false
      rwa [if_neg (by decide)] at this
theorem admits_ev (a : ByteArray) (c : List S105) (d : List Int) (e : List S115) (f : List S139) (row : List S50) (hw : WfT a c d e f) (hc : c.length < 9223372036854775807) (he : e.length < 9223372036854775807) (hf : f.length < 9223372036854775807) (hrow : row.length < 9223372036854775807) (hv : ∀ v ∈ row, v.f3.size ≤ 140737488351232) :
    Ev (fun k => vellumref03_Admits.f k a c d e f row) (admT a c d e f row) := by
  have hloop : row.length = c.length → ∀ (m i : Nat), i + m = row.length → Ev (fun k => vellumref03_Admits.l0 k row (i : Int) a c d e f) (admRow (c.drop i) (row.drop i)) := by
    intro hlen m
    induction m with
    | zero =>
      intro i hi
      rw [List.drop_of_length_le (l := c) (by omega)]
      refine Ev.from_ 1 fun k => ?_
      simp only [vellumref03_Admits.l0]
      rw [if_neg (by omega)]; simp [admRow]
    | succ m ih =>
      intro i hi
      have hlt : i < row.length := by omega
      have hltc : i < c.length := by omega
      have hic : (i : Int) < (c.length : Int) := by omega
      have hx : row[i]? = some row[i] := List.getElem?_eq_getElem hlt
      have hvi := hv row[i] (List.getElem_mem hlt)
      rw [List.drop_eq_getElem_cons hlt, List.drop_eq_getElem_cons hltc]
      simp only [admRow]
      have ih' := ih (i + 1) (by omega)
      refine Ev.step (g := fun k => (vellumref01_Check.f k row[i].f0 row[i].f1 row[i].f2 row[i].f3).bind fun t659 => (if t659 = 0 then (if row[i].f0 = 0 then (if (c[i].f2 = true) then (vellumref03_Admits.l0 k row ((i + 1 : Nat) : Int) a c d e f) else (some 35)) else (if row[i].f0 = c[i].f1 then (vellumref03_Admits.l0 k row ((i + 1 : Nat) : Int) a c d e f) else (some 32))) else (some t659))) (fun k => ?_) (Ev.bind (Ev.from_ 6 fun k => check_ref k _ _ _ _ hvi) ?_)
      · simp only [vellumref03_Admits.l0]
        rw [if_pos (by omega), if_pos (by omega), rd_get row i _ hx, rd105_eq hltc, if_pos hic, if_pos hic, wrap64_id (by omega) (by omega)]
        rfl
      · generalize chk row[i].f0 row[i].f1 row[i].f2 row[i].f3 = r
        by_cases h0 : r = 0
        · subst h0
          rw [if_neg (by simp)]
          refine Ev.pos rfl ?_
          by_cases h1 : row[i].f0 = 0
          · rw [if_pos h1]
            refine Ev.pos h1 ?_
            by_cases h2 : c[i].f2 = true
            · rw [if_pos h2]; exact Ev.pos h2 ih'
            · rw [if_neg h2]; exact Ev.neg h2 Ev.pure
          · rw [if_neg h1]
            refine Ev.neg h1 ?_
            by_cases h2 : row[i].f0 = c[i].f1
            · rw [if_pos h2]; exact Ev.pos h2 ih'
            · rw [if_neg h2]; exact Ev.neg h2 Ev.pure
        · rw [if_pos h0]
          exact Ev.neg h0 Ev.pure
  simp only [vellumref03_Admits.f]
  unfold admT
  refine Ev.bind (tcheck_ev a c d e f hw hc he hf) ?_
  by_cases h0 : checkT a c d e f = 0
  · rw [if_neg (by simp [h0])]
    refine Ev.pos h0 ?_
    by_cases h1 : row.length = c.length
    · rw [if_neg (by simp [h1])]
      refine Ev.pos (by omega) ?_
      have := hloop h1 row.length 0 (by omega)
      simpa using this
    · rw [if_pos h1]
      exact Ev.neg (by omega) Ev.pure
  · rw [if_pos h0]
    exact Ev.neg h0 Ev.pure
end Go.Proofs.YtpiifdbicibelaaDoor.Pure
end
section
namespace Go.Proofs.YtpiifdbicibelaaDoor.PA
open Go.RowKit Go.Proofs.YtpiifdbicibelaaDoorW.PrintWords Go.Proofs.YtpiifdbicibelaaDoorW.PrintLast Go.Proofs.YtpiifdbicibelaaDoorW.PrintMore
attribute [local go_sem] max2_int min2_int max_two min_two max_three min_three max_four min_four
set_option linter.unusedVariables false
set_option linter.unusedSimpArgs false
end Go.Proofs.YtpiifdbicibelaaDoor.PA
end
section
namespace Go.Proofs.YtpiifdbicibelaaDoor.Pure
open Go.RowKit Go.Proofs Go.Proofs.YtpiifdbicibelaaDoorW.PrintWords Go.Proofs.YtpiifdbicibelaaDoorW.PrintLast Go.Proofs.YtpiifdbicibelaaDoorW.PrintMore Go.Proofs.YtpiifdbicibelaaDoor.PA Go.Proofs.YtpiifdbicibelaaDoor.OpenK
set_option linter.unusedVariables false
/-- What may follow a text's code: nothing, or a byte below 255. -/
def Tail (r : List Int) : Prop := ∀ x l, r = x :: l → x < 255
/-- u's code is before v's, whatever follows. -/
def Bf (u v : List Int) : Prop := ∀ r s, Tail r → u ++ r < v ++ s
theorem Bf.cons {a : Int} {u v : List Int} (h : Bf u v) : Bf (a :: u) (a :: v) := fun r s hr => List.cons_lt_cons_iff.2 (Or.inr ⟨rfl, h r s hr⟩)
theorem Bf.head {a b : Int} {u v : List Int} (h : a < b) : Bf (a :: u) (b :: v) := fun r s hr => List.cons_lt_cons_iff.2 (Or.inl h)
/-- Three answers of a comparing, and what each says of the codes. -/
def Says (t : Int) (u v : List Int) : Prop := (t = -1 ∧ Bf u v) ∨ (t = 1 ∧ Bf v u) ∨ (t = 0 ∧ u = v)
theorem Says.cons {t a : Int} {u v : List Int} (h : Says t u v) : Says t (a :: u) (a :: v) := by
  rcases h with ⟨h1, h2⟩ | ⟨h1, h2⟩ | ⟨h1, h2⟩
  · exact Or.inl ⟨h1, h2.cons⟩
  · exact Or.inr (Or.inl ⟨h1, h2.cons⟩)
  · exact Or.inr (Or.inr ⟨h1, by rw [h2]⟩)
def Bytes (l : List Int) : Prop := ∀ x ∈ l, 0 ≤ x ∧ x ≤ 255
theorem Bytes.cons {a : Int} {l : List Int} (h : 0 ≤ a ∧ a ≤ 255) (hl : Bytes l) : Bytes (a :: l) := by
  intro x hx
  rcases List.mem_cons.1 hx with rfl | hx
  · exact h
  · exact hl x hx
end Go.Proofs.YtpiifdbicibelaaDoor.Pure
end
section
namespace Go.Proofs.YtpiifdbicibelaaDoor.Pure
open Go.RowKit Go.Proofs Go.Proofs.YtpiifdbicibelaaDoorW.PrintWords Go.Proofs.YtpiifdbicibelaaDoorW.PrintLast Go.Proofs.YtpiifdbicibelaaDoorW.PrintMore Go.Proofs.YtpiifdbicibelaaDoor.PA Go.Proofs.YtpiifdbicibelaaDoor.OpenK
set_option linter.unusedVariables false
set_option linter.unusedSimpArgs false
theorem Bytes.drop {L : List Int} (h : Bytes L) (i : Nat) : Bytes (L.drop i) := fun x hx => h x (List.mem_of_mem_drop hx)
theorem Bytes.take {L : List Int} (h : Bytes L) (i : Nat) : Bytes (L.take i) := fun x hx => h x (List.mem_of_mem_take hx)
theorem Bytes.tail {a : Int} {L : List Int} (h : Bytes (a :: L)) : Bytes L := fun x hx => h x (by simp [hx])
theorem xor_ones (n j : Nat) (h : n < 2 ^ j) : n ^^^ (2 ^ j - 1) = 2 ^ j - 1 - n := by
  apply Nat.eq_of_testBit_eq
  intro i
  have e : 2 ^ j - 1 - n = 2 ^ j - (n + 1) := by omega
  rw [e, Nat.testBit_xor, Nat.testBit_two_pow_sub_one, Nat.testBit_two_pow_sub_succ h]
  by_cases hi : i < j
  · simp [hi]
  · have : n.testBit i = false := Nat.testBit_lt_two_pow (Nat.lt_of_lt_of_le h (Nat.pow_le_pow_right (by decide) (by omega)))
    simp [hi, this]
end Go.Proofs.YtpiifdbicibelaaDoor.Pure
end
section
namespace Go.Proofs.YtpiifdbicibelaaDoor.PA
open Go.RowKit Go.Proofs.YtpiifdbicibelaaDoorW.PrintWords Go.Proofs.YtpiifdbicibelaaDoorW.PrintLast Go.Proofs.YtpiifdbicibelaaDoorW.PrintMore
attribute [local go_sem] max2_int min2_int max_two min_two max_three min_three max_four min_four
set_option linter.unusedVariables false
set_option linter.unusedSimpArgs false
def vellumlaw04_small.f  : Option (ByteArray × (List (S105)) × List Int × (List (S115)) × (List (S139))) := some ((⟨#[116]⟩ : ByteArray), (([(⟨(⟨#[97]⟩ : ByteArray), 2, false, (⟨0, 0, 0, (⟨#[]⟩ : ByteArray)⟩ : S50)⟩ : S105), (⟨(⟨#[98]⟩ : ByteArray), 4, true, (⟨0, 0, 0, (⟨#[]⟩ : ByteArray)⟩ : S50)⟩ : S105)] : List (S105))), (([0] : List Int)), ([] : List (S115)), ([] : List (S139)))
set_option maxHeartbeats 8000000 in
set_option maxRecDepth 100000 in
theorem vellumlaw04_small.calls  (r1 : ByteArray) (r2 : List (S105)) (r3 : List Int) (r4 : List (S115)) (r5 : List (S139)) (w : World) (h : vellumlaw04_small.f  = some (r1, r2, r3, r4, r5)) :
    Calls Tryd.prog 87 #[] w fun e w' => ∃ v1_ v2_ v3_ v4_ : Value, e = .returned (.agg #[.string r1, v1_, v2_, v3_, v4_]) ∧ Kd.R k105 105 w' w.heap.size (fun _ => True) v1_ r2 ∧ Kd.R (Kd.int .i64) 3 w' w.heap.size (fun _ => True) v2_ r3 ∧ Kd.S k115 115 w' w.heap.size (fun k_ => some k_ ≠ (v2_ : Value).ownBlock) v3_ r4 ∧ Kd.S k139 139 w' w.heap.size (fun k_ => some k_ ≠ (v2_ : Value).ownBlock) v4_ r5 ∧ Below w.heap.size w w' := by
  have hu65 := Tryd.underlying65
  have hu105 := Tryd.underlying105
  have HB := am (Below.refl w.heap.size w)
  have H : (some ((⟨#[116]⟩ : ByteArray), (([(⟨(⟨#[97]⟩ : ByteArray), 2, false, (⟨0, 0, 0, (⟨#[]⟩ : ByteArray)⟩ : S50)⟩ : S105), (⟨(⟨#[98]⟩ : ByteArray), 4, true, (⟨0, 0, 0, (⟨#[]⟩ : ByteArray)⟩ : S50)⟩ : S105)] : List (S105))), (([0] : List Int)), ([] : List (S115)), ([] : List (S139)))) = some (r1, r2, r3, r4, r5) := h
  clear h
  obtain ⟨y711, hy711⟩ : ∃ y_ : List (S105), y_ = (([(⟨(⟨#[97]⟩ : ByteArray), 2, false, (⟨0, 0, 0, (⟨#[]⟩ : ByteArray)⟩ : S50)⟩ : S105), (⟨(⟨#[98]⟩ : ByteArray), 4, true, (⟨0, 0, 0, (⟨#[]⟩ : ByteArray)⟩ : S50)⟩ : S105)] : List (S105))) := ⟨_, rfl⟩
  replace H : (some ((⟨#[116]⟩ : ByteArray), y711, (([0] : List Int)), ([] : List (S115)), ([] : List (S139)))) = some (r1, r2, r3, r4, r5) := by first | (rw [hy711]; with_reducible exact H) | (have H2_ := (Option.bind_some _ _).symm.trans H; rw [hy711]; with_reducible exact H2_) | (have H2_ := (Option.bind_some _ _).symm.trans H; with_reducible exact H2_) | with_reducible exact H | (rw [hy711]; exact H) | exact H
  have Ny711 := am hy711
  clear hy711
  obtain ⟨y714, hy714⟩ : ∃ y_ : List Int, y_ = (([0] : List Int)) := ⟨_, rfl⟩
  replace H : (some ((⟨#[116]⟩ : ByteArray), y711, y714, ([] : List (S115)), ([] : List (S139)))) = some (r1, r2, r3, r4, r5) := by first | (rw [hy714]; with_reducible exact H) | (have H2_ := (Option.bind_some _ _).symm.trans H; rw [hy714]; with_reducible exact H2_) | (have H2_ := (Option.bind_some _ _).symm.trans H; with_reducible exact H2_) | with_reducible exact H | (rw [hy714]; exact H) | exact H
  have Ny714 := am hy714
  clear hy714
  simp only [Option.some.injEq, Prod.mk.injEq] at H
  obtain ⟨rfl, rfl, rfl, rfl, rfl⟩ := H
  go_enter Tryd.func87, Tryd.ntmps87
  go_wp2_with (first | ((with_reducible refine gate_dst (N := 0) rfl ?_); refine box_event rfl (N := 0) rfl (cs := #[.string (⟨#[]⟩ : ByteArray), .slice none 0 0, .slice none 0 0, .slice none 0 0, .slice none 0 0]) (t := 65) gs ?_; intro gb710 hg w1 hbox hb; have BK710 := am (hbox); have GW710 := gw hg HB; have GE710 := gw hg HB; replace HB := sb HB hb; clear hb hbox hg) | ((with_reducible refine gate_dst (N := 3) rfl ?_); refine Kd.R_lit k105 _ 105 ?hg (N := 3) ?hd (xs := ([(⟨(⟨#[97]⟩ : ByteArray), 2, false, (⟨0, 0, 0, (⟨#[]⟩ : ByteArray)⟩ : S50)⟩ : S105), (⟨(⟨#[98]⟩ : ByteArray), 4, true, (⟨0, 0, 0, (⟨#[]⟩ : ByteArray)⟩ : S50)⟩ : S105)] : List (S105))) (inner := [.string (⟨#[97]⟩ : ByteArray), .int .i64 2, .bool false, .int .i64 0, .int .i64 0, .float .f64 0, .string (⟨#[]⟩ : ByteArray), .string (⟨#[98]⟩ : ByteArray), .int .i64 4, .bool true, .int .i64 0, .int .i64 0, .float .f64 0, .string (⟨#[]⟩ : ByteArray)]) (ok := fun _ => True) (okp := fun _ => True) ?hr ?hp (fun _ hk => hk) trivial (Below.refl _ _) (Nat.le_refl _) (by simp) ?_; (case hd => rfl); (case hg => rfl); (case hr => first | (go_simp; done) | (go_simp; rfl)); (case hp => exact (Reps.c7 (show Kd.M k105 _ _ _ (⟨(⟨#[97]⟩ : ByteArray), 2, false, (⟨0, 0, 0, (⟨#[]⟩ : ByteArray)⟩ : S50)⟩ : S105) [.string (⟨#[97]⟩ : ByteArray), .int .i64 2, .bool false, .int .i64 0, .int .i64 0, .float .f64 0, .string (⟨#[]⟩ : ByteArray)] from (k105_mkM _ _ _ (⟨(⟨#[97]⟩ : ByteArray), 2, false, (⟨0, 0, 0, (⟨#[]⟩ : ByteArray)⟩ : S50)⟩ : S105) )) (Reps.c7 (show Kd.M k105 _ _ _ (⟨(⟨#[98]⟩ : ByteArray), 4, true, (⟨0, 0, 0, (⟨#[]⟩ : ByteArray)⟩ : S50)⟩ : S105) [.string (⟨#[98]⟩ : ByteArray), .int .i64 4, .bool true, .int .i64 0, .int .i64 0, .float .f64 0, .string (⟨#[]⟩ : ByteArray)] from (k105_mkM _ _ _ (⟨(⟨#[98]⟩ : ByteArray), 4, true, (⟨0, 0, 0, (⟨#[]⟩ : ByteArray)⟩ : S50)⟩ : S105) )) (Reps.none _ _)))); intro v712 w2 ho3 hb hg_ hnew_; clear hg_ hnew_; (first | rw [← Ny711.out] at ho3 | (simp only [Int.reduceToNat] at ho3; rw [← Ny711.out] at ho3)); have n0_ := am (Kd.R_lower ho3 (below_size (bl HB))); have n1_ := kb BK710 hb; have n2_ := sb HB hb; clear BK710; clear HB; have HO713 := n0_; have BK710 := n1_; have HB := n2_; clear n0_ n1_ n2_; clear hb ho3) | ((with_reducible refine gate_dst (N := 4) rfl ?_); refine Kd.R_lit (Kd.int .i64) _ 3 ?hg (N := 4) ?hd (xs := ([0] : List Int)) (inner := [.int .i64 0]) (ok := fun _ => True) (okp := fun _ => True) ?hr ?hp (fun _ hk => hk) trivial (Below.refl _ _) (Nat.le_refl _) (by simp) ?_; (case hd => rfl); (case hg => rfl); (case hr => first | (go_simp; done) | (go_simp; rfl)); (case hp => exact (Reps.one (show Kd.M (Kd.int .i64) _ _ _ 0 [.int .i64 0] from rfl) (Reps.none _ _))); intro v715 w4 ho5 hb hg_ hnew_; clear hg_ hnew_; (first | rw [← Ny714.out] at ho5 | (simp only [Int.reduceToNat] at ho5; rw [← Ny714.out] at ho5)); have n0_ := am (Kd.R_below (Kd.rr HO713.out) hb); have n1_ := am (Kd.R_lower ho5 (below_size (bl HB))); have n2_ := kb BK710 hb; have n3_ := sb HB hb; clear HO713; clear BK710; clear HB; have HO713 := n0_; have HO716 := n1_; have BK710 := n2_; have HB := n3_; clear n0_ n1_ n2_ n3_; clear hb ho5; obtain ⟨Ao6, co6, eo6⟩ := Kd.R_slice HO716.out; subst eo6; obtain ⟨Ao7, co7, eo7⟩ := Kd.R_slice HO713.out; subst eo7; obtain ⟨Z8_0, Z8_1, Z8_2, Z8_3, Z8_4, Y8_0, Y8_1, Y8_2, Y8_3, Y8_4⟩ := bq5 BK710))
  refine bodyPost_ret (results_cell_row rfl _ _ gb710 65 #[.string (⟨#[116]⟩ : ByteArray), .slice Ao7 y711.length co7, .slice Ao6 y714.length co6, .slice none 0 0, .slice none 0 0] (0, 0) _ rfl (by refine rp ?_; refine blk_put (cs := #[.string (⟨#[116]⟩ : ByteArray), .slice Ao7 y711.length co7, .slice Ao6 y714.length co6, .slice none 0 0, .slice none 0 0]) ?_ 4 _ rfl; refine rp ?_; refine blk_put (cs := #[.string (⟨#[116]⟩ : ByteArray), .slice Ao7 y711.length co7, .slice Ao6 y714.length co6, .slice none 0 0, .slice none 0 0]) ?_ 3 _ rfl; refine rp ?_; refine blk_put (cs := #[.string (⟨#[116]⟩ : ByteArray), .slice Ao7 y711.length co7, .slice none 0 0, .slice none 0 0, .slice none 0 0]) ?_ 2 _ rfl; refine rp ?_; refine blk_put (cs := #[.string (⟨#[116]⟩ : ByteArray), .slice none 0 0, .slice none 0 0, .slice none 0 0, .slice none 0 0]) ?_ 1 _ rfl; refine rp ?_; refine blk_put (cs := #[.string (⟨#[]⟩ : ByteArray), .slice none 0 0, .slice none 0 0, .slice none 0 0, .slice none 0 0]) ?_ 0 _ rfl; exact bk BK710) Tryd.underlying65 rfl (by kernel_rfl)) rfl ?_
  exact ⟨_, _, _, _, er, by (with_reducible repeat (first | apply Kd.R_alloc | apply Kd.R_drewN | apply Kd.R_drew)); exact Kd.R_mono (Kd.R_far (p := ⟨gb710, 4, none⟩) (Kd.R_far (p := ⟨gb710, 3, none⟩) (Kd.R_far (p := ⟨gb710, 2, none⟩) (Kd.R_far (p := ⟨gb710, 1, none⟩) (Kd.R_far (p := ⟨gb710, 0, none⟩) (Kd.R_types HO713.out BK710.out (by decide)) (fun _ hk => hk.2) (.string (⟨#[116]⟩ : ByteArray))) (fun _ hk => hk.2) (.slice Ao7 y711.length co7)) (fun _ hk => hk.2) (.slice Ao6 y714.length co6)) (fun _ hk => hk.2) (.slice none 0 0)) (fun _ hk => hk.2) (.slice none 0 0)) (fun _ hk => trivial), by (with_reducible repeat (first | apply Kd.R_alloc | apply Kd.R_drewN | apply Kd.R_drew)); exact Kd.R_mono (Kd.R_far (p := ⟨gb710, 4, none⟩) (Kd.R_far (p := ⟨gb710, 3, none⟩) (Kd.R_far (p := ⟨gb710, 2, none⟩) (Kd.R_far (p := ⟨gb710, 1, none⟩) (Kd.R_far (p := ⟨gb710, 0, none⟩) (Kd.R_types HO716.out BK710.out (by decide)) (fun _ hk => hk.2) (.string (⟨#[116]⟩ : ByteArray))) (fun _ hk => hk.2) (.slice Ao7 y711.length co7)) (fun _ hk => hk.2) (.slice Ao6 y714.length co6)) (fun _ hk => hk.2) (.slice none 0 0)) (fun _ hk => hk.2) (.slice none 0 0)) (fun _ hk => trivial), by first | exact Kd.S_nil _ _ _ _ _ | exact Kd.N_nil _ _ _ _ _ | exact Kd.V_nil _ _ _ _ _ | exact Kd.Q_nil _ _ _ _ _ | exact Kd.R_nil _ _ _ _ _, by first | exact Kd.S_nil _ _ _ _ _ | exact Kd.N_nil _ _ _ _ _ | exact Kd.V_nil _ _ _ _ _ | exact Kd.Q_nil _ _ _ _ _ | exact Kd.R_nil _ _ _ _ _, bl HB⟩
def vellumlaw04_awake.f (k : Nat)  : Option (Bool) := (vellumlaw04_small.f).bind fun bt717 => ((row_Encode.f k bt717.1 bt717.2.1 bt717.2.2.1 bt717.2.2.2.1 bt717.2.2.2.2 (([(⟨2, 5, 0, (⟨#[]⟩ : ByteArray)⟩ : S50), (⟨4, 0, 0, (⟨#[97]⟩ : ByteArray)⟩ : S50)] : List (S50)))).bind fun bt733 => (if bt733.2 = 0 then (some (bt733.1.toList == ([5, 10, 1, 97] : List UInt8))) else (some false)))
set_option maxHeartbeats 8000000 in
set_option maxRecDepth 100000 in
theorem vellumlaw04_awake.calls (k : Nat)  (r : Bool) (w : World) (hG : Glob w) (h : vellumlaw04_awake.f k  = some r) :
    Calls Tryd.prog 54 #[] w fun e w' => e = .returned (.bool r) ∧ Below w.heap.size w w' := by
  have hu50 := Tryd.underlying50
  have HG := am hG
  clear hG
  have HB := am (Below.refl w.heap.size w)
  have H : ((vellumlaw04_small.f).bind fun bt717 => ((row_Encode.f k bt717.1 bt717.2.1 bt717.2.2.1 bt717.2.2.2.1 bt717.2.2.2.2 (([(⟨2, 5, 0, (⟨#[]⟩ : ByteArray)⟩ : S50), (⟨4, 0, 0, (⟨#[97]⟩ : ByteArray)⟩ : S50)] : List (S50)))).bind fun bt733 => (if bt733.2 = 0 then (some (bt733.1.toList == ([5, 10, 1, 97] : List UInt8))) else (some false)))) = some r := h
  clear h
  replace H := Option.bind_eq_some_iff.mp H
  obtain ⟨⟨t717, t718, t721, t724, t727⟩, A10, H⟩ := H
  replace H : ((row_Encode.f k t717 t718 t721 t724 t727 (([(⟨2, 5, 0, (⟨#[]⟩ : ByteArray)⟩ : S50), (⟨4, 0, 0, (⟨#[97]⟩ : ByteArray)⟩ : S50)] : List (S50)))).bind fun bt733 => (if bt733.2 = 0 then (some (bt733.1.toList == ([5, 10, 1, 97] : List UInt8))) else (some false))) = some r := H
  have A1 := am A10
  clear A10
  obtain ⟨y730, hy730⟩ : ∃ y_ : List (S50), y_ = (([(⟨2, 5, 0, (⟨#[]⟩ : ByteArray)⟩ : S50), (⟨4, 0, 0, (⟨#[97]⟩ : ByteArray)⟩ : S50)] : List (S50))) := ⟨_, rfl⟩
  replace H : ((row_Encode.f k t717 t718 t721 t724 t727 y730).bind fun bt733 => (if bt733.2 = 0 then (some (bt733.1.toList == ([5, 10, 1, 97] : List UInt8))) else (some false))) = some r := by first | (rw [hy730]; with_reducible exact H) | (have H2_ := (Option.bind_some _ _).symm.trans H; rw [hy730]; with_reducible exact H2_) | (have H2_ := (Option.bind_some _ _).symm.trans H; with_reducible exact H2_) | with_reducible exact H | (rw [hy730]; exact H) | exact H
  have Ny730 := am hy730
  clear hy730
  replace H := Option.bind_eq_some_iff.mp H
  obtain ⟨⟨t733, t734⟩, A20, H⟩ := H
  replace H : (if t734 = 0 then (some (t733.toList == ([5, 10, 1, 97] : List UInt8))) else (some false)) = some r := H
  have A2 := am A20
  clear A20
  by_cases c3 : t734 = 0
  · rw [if_pos c3] at H
    have c3b0 : (t734 == 0) = true := beq_iff_eq.mpr c3
    have c3b1 : (t734 != 0) = false := bne_eq_false_iff_eq.mpr c3
    clear c3
    obtain rfl := Option.some.inj H
    go_enter Tryd.func54, Tryd.ntmps54
    go_wp2_with (first | ((with_reducible refine gate_callee (f := 87) rfl ?_); refine goesL_ (some 4) rfl rfl Tryd.func87 (by kernel_rfl) rfl #[] rfl ar ?_; (with_reducible refine (vellumlaw04_small.calls  t717 t718 t721 t724 t727 _ A1.out).mono ?_); rintro e w4 ⟨v719, v722, v725, v728, rfl, ho0, ho1, ho2, ho3, hb⟩; refine ⟨_, rfl, ?_⟩; have n0_ := am (Kd.R_lower ho0 (below_size (bl HB))); have n1_ := am (Kd.R_lower ho1 (below_size (bl HB))); have n2_ := am (Kd.S_lower ho2 (below_size (bl HB))); have n3_ := am (Kd.S_lower ho3 (below_size (bl HB))); have n4_ := sb HB hb; clear HB; have HO720 := n0_; have HO723 := n1_; have HO726 := n2_; have HO729 := n3_; have HB := n4_; clear n0_ n1_ n2_ n3_ n4_; (try clear hb); (try clear hb2 hk hi); (try clear ho0); (try clear ho1); (try clear ho2); (try clear ho3)) | ((with_reducible refine gate_dst (N := 7) rfl ?_); refine Kd.R_lit k50 _ 50 ?hg (N := 7) ?hd (xs := ([(⟨2, 5, 0, (⟨#[]⟩ : ByteArray)⟩ : S50), (⟨4, 0, 0, (⟨#[97]⟩ : ByteArray)⟩ : S50)] : List (S50))) (inner := [.int .i64 2, .int .i64 5, .float .f64 0, .string (⟨#[]⟩ : ByteArray), .int .i64 4, .int .i64 0, .float .f64 0, .string (⟨#[97]⟩ : ByteArray)]) (ok := fun _ => True) (okp := fun _ => True) ?hr ?hp (fun _ hk => hk) trivial (Below.refl _ _) (Nat.le_refl _) (by simp) ?_; (case hd => rfl); (case hg => rfl); (case hr => first | (go_simp; done) | (go_simp; rfl)); (case hp => exact (Reps.c4 (show Kd.M k50 _ _ _ (⟨2, 5, 0, (⟨#[]⟩ : ByteArray)⟩ : S50) [.int .i64 2, .int .i64 5, .float .f64 0, .string (⟨#[]⟩ : ByteArray)] from (k50_mkM _ _ _ (⟨2, 5, 0, (⟨#[]⟩ : ByteArray)⟩ : S50) )) (Reps.c4 (show Kd.M k50 _ _ _ (⟨4, 0, 0, (⟨#[97]⟩ : ByteArray)⟩ : S50) [.int .i64 4, .int .i64 0, .float .f64 0, .string (⟨#[97]⟩ : ByteArray)] from (k50_mkM _ _ _ (⟨4, 0, 0, (⟨#[97]⟩ : ByteArray)⟩ : S50) )) (Reps.none _ _)))); intro v731 w5 ho6 hb hg_ hnew_; clear hg_ hnew_; (first | rw [← Ny730.out] at ho6 | (simp only [Int.reduceToNat] at ho6; rw [← Ny730.out] at ho6)); have n0_ := am (Kd.R_below (Kd.rr HO720.out) hb); have n1_ := am (Kd.R_below (Kd.rr HO723.out) hb); have n2_ := am (Kd.S_below (by (with_reducible repeat (first | apply Kd.S_alloc | apply Kd.S_drewN | apply Kd.S_drew)); exact HO726.out) hb); have n3_ := am (Kd.S_below (by (with_reducible repeat (first | apply Kd.S_alloc | apply Kd.S_drewN | apply Kd.S_drew)); exact HO729.out) hb); have n4_ := am (Kd.R_lower ho6 (below_size (bl HB))); have n5_ := sb HB hb; clear HO720; clear HO723; clear HO726; clear HO729; clear HB; have HO720 := n0_; have HO723 := n1_; have HO726 := n2_; have HO729 := n3_; have HO732 := n4_; have HB := n5_; clear n0_ n1_ n2_ n3_ n4_ n5_; clear hb ho6; obtain ⟨Ao7, co7, eo7⟩ := Kd.R_slice HO720.out; subst eo7; obtain ⟨Ao8, co8, eo8⟩ := Kd.R_slice HO723.out; subst eo8; obtain ⟨Ao9, co9, eo9⟩ := Kd.S_slice HO726.out; subst eo9; obtain ⟨Ao10, co10, eo10⟩ := Kd.S_slice HO729.out; subst eo10; obtain ⟨Ao11, co11, eo11⟩ := Kd.R_slice HO732.out; subst eo11) | ((with_reducible refine gate_callee (f := 52) rfl ?_); refine goesL_ (some 8) rfl rfl Tryd.func52 (by kernel_rfl) rfl #[.agg #[.string t717, .slice Ao7 t718.length co7, .slice Ao8 t721.length co8, .slice Ao9 t724.length co9, .slice Ao10 t727.length co10], .slice Ao11 y730.length co11] rfl ar ?_; (with_reducible refine (row_Encode.calls k t717 _ _ t718 _ _ t721 _ _ t724 _ _ t727 _ _ y730 t733 t734 _ ?side1 ?side2 ?side3 ?side4 ?side5 ?side6 ?side7 ?side8 ?side9 ?side10 (Glob.below HG.out (bl HB)) A2.out).mono ?_); (case side1 => repeat (first | exact (Kd.R_reads' HO720.out).2.2 | (with_reducible refine Kd.C_alloc ?_ _) | (with_reducible refine Kd.C_drewN ?_ _) | (with_reducible refine Kd.C_drew ?_))); (case side2 => exact (Kd.R_reads' HO720.out).2.1); (case side3 => repeat (first | exact (Kd.R_reads' HO723.out).2.2 | (with_reducible refine Kd.C_alloc ?_ _) | (with_reducible refine Kd.C_drewN ?_ _) | (with_reducible refine Kd.C_drew ?_))); (case side4 => exact (Kd.R_reads' HO723.out).2.1); (case side5 => repeat (first | exact (Kd.S_reads' HO726.out).2.2 | (with_reducible refine Kd.C_alloc ?_ _) | (with_reducible refine Kd.C_drewN ?_ _) | (with_reducible refine Kd.C_drew ?_))); (case side6 => exact (Kd.S_reads' HO726.out).2.1); (case side7 => repeat (first | exact (Kd.S_reads' HO729.out).2.2 | (with_reducible refine Kd.C_alloc ?_ _) | (with_reducible refine Kd.C_drewN ?_ _) | (with_reducible refine Kd.C_drew ?_))); (case side8 => exact (Kd.S_reads' HO729.out).2.1); (case side9 => repeat (first | exact (Kd.R_reads' HO732.out).2.2 | (with_reducible refine Kd.C_alloc ?_ _) | (with_reducible refine Kd.C_drewN ?_ _) | (with_reducible refine Kd.C_drew ?_))); (case side10 => exact (Kd.R_reads' HO732.out).2.1); rintro e w12 ⟨rfl, hb⟩; refine ⟨_, rfl, ?_⟩; have n0_ := am (Kd.R_below (Kd.rr HO720.out) hb); have n1_ := am (Kd.R_below (Kd.rr HO723.out) hb); have n2_ := am (Kd.S_below (by (with_reducible repeat (first | apply Kd.S_alloc | apply Kd.S_drewN | apply Kd.S_drew)); exact HO726.out) hb); have n3_ := am (Kd.S_below (by (with_reducible repeat (first | apply Kd.S_alloc | apply Kd.S_drewN | apply Kd.S_drew)); exact HO729.out) hb); have n4_ := am (Kd.R_below (Kd.rr HO732.out) hb); have n5_ := sb HB hb; clear HO720; clear HO723; clear HO726; clear HO729; clear HO732; clear HB; have HO720 := n0_; have HO723 := n1_; have HO726 := n2_; have HO729 := n3_; have HO732 := n4_; have HB := n5_; clear n0_ n1_ n2_ n3_ n4_ n5_; (try clear hb); (try clear hb2 hk hi)))
    go_ret
    exact ⟨er, bl HB⟩
  · rw [if_neg c3] at H
    have c3b0 : (t734 == 0) = false := beq_eq_false_iff_ne.mpr c3
    have c3b1 : (t734 != 0) = true := bne_iff_ne.mpr c3
    obtain rfl := Option.some.inj H
    go_enter Tryd.func54, Tryd.ntmps54
    go_wp2_with (first | ((with_reducible refine gate_callee (f := 87) rfl ?_); refine goesL_ (some 4) rfl rfl Tryd.func87 (by kernel_rfl) rfl #[] rfl ar ?_; (with_reducible refine (vellumlaw04_small.calls  t717 t718 t721 t724 t727 _ A1.out).mono ?_); rintro e w13 ⟨v719, v722, v725, v728, rfl, ho0, ho1, ho2, ho3, hb⟩; refine ⟨_, rfl, ?_⟩; have n0_ := am (Kd.R_lower ho0 (below_size (bl HB))); have n1_ := am (Kd.R_lower ho1 (below_size (bl HB))); have n2_ := am (Kd.S_lower ho2 (below_size (bl HB))); have n3_ := am (Kd.S_lower ho3 (below_size (bl HB))); have n4_ := sb HB hb; clear HB; have HO720 := n0_; have HO723 := n1_; have HO726 := n2_; have HO729 := n3_; have HB := n4_; clear n0_ n1_ n2_ n3_ n4_; (try clear hb); (try clear hb2 hk hi); (try clear ho0); (try clear ho1); (try clear ho2); (try clear ho3)) | ((with_reducible refine gate_dst (N := 7) rfl ?_); refine Kd.R_lit k50 _ 50 ?hg (N := 7) ?hd (xs := ([(⟨2, 5, 0, (⟨#[]⟩ : ByteArray)⟩ : S50), (⟨4, 0, 0, (⟨#[97]⟩ : ByteArray)⟩ : S50)] : List (S50))) (inner := [.int .i64 2, .int .i64 5, .float .f64 0, .string (⟨#[]⟩ : ByteArray), .int .i64 4, .int .i64 0, .float .f64 0, .string (⟨#[97]⟩ : ByteArray)]) (ok := fun _ => True) (okp := fun _ => True) ?hr ?hp (fun _ hk => hk) trivial (Below.refl _ _) (Nat.le_refl _) (by simp) ?_; (case hd => rfl); (case hg => rfl); (case hr => first | (go_simp; done) | (go_simp; rfl)); (case hp => exact (Reps.c4 (show Kd.M k50 _ _ _ (⟨2, 5, 0, (⟨#[]⟩ : ByteArray)⟩ : S50) [.int .i64 2, .int .i64 5, .float .f64 0, .string (⟨#[]⟩ : ByteArray)] from (k50_mkM _ _ _ (⟨2, 5, 0, (⟨#[]⟩ : ByteArray)⟩ : S50) )) (Reps.c4 (show Kd.M k50 _ _ _ (⟨4, 0, 0, (⟨#[97]⟩ : ByteArray)⟩ : S50) [.int .i64 4, .int .i64 0, .float .f64 0, .string (⟨#[97]⟩ : ByteArray)] from (k50_mkM _ _ _ (⟨4, 0, 0, (⟨#[97]⟩ : ByteArray)⟩ : S50) )) (Reps.none _ _)))); intro v731 w14 ho15 hb hg_ hnew_; clear hg_ hnew_; (first | rw [← Ny730.out] at ho15 | (simp only [Int.reduceToNat] at ho15; rw [← Ny730.out] at ho15)); have n0_ := am (Kd.R_below (Kd.rr HO720.out) hb); have n1_ := am (Kd.R_below (Kd.rr HO723.out) hb); have n2_ := am (Kd.S_below (by (with_reducible repeat (first | apply Kd.S_alloc | apply Kd.S_drewN | apply Kd.S_drew)); exact HO726.out) hb); have n3_ := am (Kd.S_below (by (with_reducible repeat (first | apply Kd.S_alloc | apply Kd.S_drewN | apply Kd.S_drew)); exact HO729.out) hb); have n4_ := am (Kd.R_lower ho15 (below_size (bl HB))); have n5_ := sb HB hb; clear HO720; clear HO723; clear HO726; clear HO729; clear HB; have HO720 := n0_; have HO723 := n1_; have HO726 := n2_; have HO729 := n3_; have HO732 := n4_; have HB := n5_; clear n0_ n1_ n2_ n3_ n4_ n5_; clear hb ho15; obtain ⟨Ao16, co16, eo16⟩ := Kd.R_slice HO720.out; subst eo16; obtain ⟨Ao17, co17, eo17⟩ := Kd.R_slice HO723.out; subst eo17; obtain ⟨Ao18, co18, eo18⟩ := Kd.S_slice HO726.out; subst eo18; obtain ⟨Ao19, co19, eo19⟩ := Kd.S_slice HO729.out; subst eo19; obtain ⟨Ao20, co20, eo20⟩ := Kd.R_slice HO732.out; subst eo20) | ((with_reducible refine gate_callee (f := 52) rfl ?_); refine goesL_ (some 8) rfl rfl Tryd.func52 (by kernel_rfl) rfl #[.agg #[.string t717, .slice Ao16 t718.length co16, .slice Ao17 t721.length co17, .slice Ao18 t724.length co18, .slice Ao19 t727.length co19], .slice Ao20 y730.length co20] rfl ar ?_; (with_reducible refine (row_Encode.calls k t717 _ _ t718 _ _ t721 _ _ t724 _ _ t727 _ _ y730 t733 t734 _ ?side1 ?side2 ?side3 ?side4 ?side5 ?side6 ?side7 ?side8 ?side9 ?side10 (Glob.below HG.out (bl HB)) A2.out).mono ?_); (case side1 => repeat (first | exact (Kd.R_reads' HO720.out).2.2 | (with_reducible refine Kd.C_alloc ?_ _) | (with_reducible refine Kd.C_drewN ?_ _) | (with_reducible refine Kd.C_drew ?_))); (case side2 => exact (Kd.R_reads' HO720.out).2.1); (case side3 => repeat (first | exact (Kd.R_reads' HO723.out).2.2 | (with_reducible refine Kd.C_alloc ?_ _) | (with_reducible refine Kd.C_drewN ?_ _) | (with_reducible refine Kd.C_drew ?_))); (case side4 => exact (Kd.R_reads' HO723.out).2.1); (case side5 => repeat (first | exact (Kd.S_reads' HO726.out).2.2 | (with_reducible refine Kd.C_alloc ?_ _) | (with_reducible refine Kd.C_drewN ?_ _) | (with_reducible refine Kd.C_drew ?_))); (case side6 => exact (Kd.S_reads' HO726.out).2.1); (case side7 => repeat (first | exact (Kd.S_reads' HO729.out).2.2 | (with_reducible refine Kd.C_alloc ?_ _) | (with_reducible refine Kd.C_drewN ?_ _) | (with_reducible refine Kd.C_drew ?_))); (case side8 => exact (Kd.S_reads' HO729.out).2.1); (case side9 => repeat (first | exact (Kd.R_reads' HO732.out).2.2 | (with_reducible refine Kd.C_alloc ?_ _) | (with_reducible refine Kd.C_drewN ?_ _) | (with_reducible refine Kd.C_drew ?_))); (case side10 => exact (Kd.R_reads' HO732.out).2.1); rintro e w21 ⟨rfl, hb⟩; refine ⟨_, rfl, ?_⟩; have n0_ := am (Kd.R_below (Kd.rr HO720.out) hb); have n1_ := am (Kd.R_below (Kd.rr HO723.out) hb); have n2_ := am (Kd.S_below (by (with_reducible repeat (first | apply Kd.S_alloc | apply Kd.S_drewN | apply Kd.S_drew)); exact HO726.out) hb); have n3_ := am (Kd.S_below (by (with_reducible repeat (first | apply Kd.S_alloc | apply Kd.S_drewN | apply Kd.S_drew)); exact HO729.out) hb); have n4_ := am (Kd.R_below (Kd.rr HO732.out) hb); have n5_ := sb HB hb; clear HO720; clear HO723; clear HO726; clear HO729; clear HO732; clear HB; have HO720 := n0_; have HO723 := n1_; have HO726 := n2_; have HO729 := n3_; have HO732 := n4_; have HB := n5_; clear n0_ n1_ n2_ n3_ n4_ n5_; (try clear hb); (try clear hb2 hk hi)))
    go_ret
    exact ⟨er, bl HB⟩
end Go.Proofs.YtpiifdbicibelaaDoor.PA
end
section
namespace Go.Proofs.YtpiifdbicibelaaDoor.Pure
open Go.RowKit Go.Proofs Go.Proofs.YtpiifdbicibelaaDoorW.PrintWords Go.Proofs.YtpiifdbicibelaaDoorW.PrintLast Go.Proofs.YtpiifdbicibelaaDoorW.PrintMore Go.Proofs.YtpiifdbicibelaaDoor.PA Go.Proofs.YtpiifdbicibelaaDoor.OpenK
set_option linter.unusedVariables false
set_option linter.unusedSimpArgs false
theorem or128 (a : Int) (h : 0 ≤ a ∧ a ≤ 255) : Go.bits .or .u8 a 128 = a % 128 + 128 := by
  have hall : ∀ x : Fin 256, Go.bits .or .u8 (x.val : Int) 128 = (x.val : Int) % 128 + 128 := by decide +kernel
  have := hall ⟨a.toNat, by omega⟩
  have e : ((a.toNat : Nat) : Int) = a := by omega
  simpa [e] using this
def vb (n : Nat) : List Int := if h : 128 ≤ n then ((n % 128 + 128 : Nat) : Int) :: vb (n / 128) else [(n : Int)]
decreasing_by omega
theorem vb_length : ∀ (m n : Nat), n < 128 ^ (m + 1) → (vb n).length ≤ m + 1
  | 0, n, h => by
    unfold vb
    rw [dif_neg (by omega)]; simp
  | m + 1, n, h => by
    unfold vb
    split
    · have := vb_length m (n / 128) (by rw [Nat.pow_succ] at h; omega)
      simp; omega
    · simp
theorem varint_code : ∀ (m n : Nat) (acc : List Int), n < 128 ^ (m + 1) → n < 18446744073709551616 → acc.length + m + 1 < 140737488355328 → Ev (fun k => row_putVarint.l0 k acc (n : Int)) (acc ++ vb n)
  | 0, n, acc, h, _, hl => by
    refine Ev.from_ 1 fun k => ?_
    simp only [row_putVarint.l0]
    rw [if_neg (by omega), if_pos (by omega)]
    unfold vb
    rw [dif_neg (by omega)]
    have : (n : Int) % 256 = (n : Int) := by omega
    rw [this]
  | m + 1, n, acc, h, h64, hl => by
    by_cases hb : 128 ≤ n
    · have e1 : ((n : Int) % 256) % 128 + 128 = ((n % 128 + 128 : Nat) : Int) := by omega
      have e2 : (n : Int) / 128 = ((n / 128 : Nat) : Int) := by omega
      have ih := varint_code m (n / 128) (acc ++ [((n % 128 + 128 : Nat) : Int)]) (by rw [Nat.pow_succ] at h; omega) (by omega) (by simp; omega)
      refine Ev.step (g := fun k => row_putVarint.l0 k (acc ++ [((n % 128 + 128 : Nat) : Int)]) ((n / 128 : Nat) : Int)) (fun k => ?_) ?_
      · simp only [row_putVarint.l0]
        rw [if_pos (by omega), if_pos (by omega), or128 _ (by omega), e1, e2]
      · have e3 : vb n = ((n % 128 + 128 : Nat) : Int) :: vb (n / 128) := by
          rw [vb.eq_1 n, dif_pos hb]
        rw [e3]
        simpa using ih
    · refine Ev.from_ 1 fun k => ?_
      simp only [row_putVarint.l0]
      rw [if_neg (by omega), if_pos (by omega)]
      have e3 : vb n = [(n : Int)] := by rw [vb.eq_1 n, dif_neg hb]
      have : (n : Int) % 256 = (n : Int) := by omega
      rw [this, e3]
def zz (n : Int) : Nat := if 0 ≤ n then (2 * n).toNat else (-2 * n - 1).toNat
theorem zz_lt {n : Int} (h : (Lit.int .i64 n).wf = true) : zz n < 18446744073709551616 := by
  obtain ⟨h0, h1⟩ := isInt_range h
  unfold zz
  split <;> omega
theorem xor_u64 (x y : Nat) (hx : x < 2 ^ 64) (hy : y < 2 ^ 64) : Go.bits .xor .u64 (x : Int) (y : Int) = ((x ^^^ y : Nat) : Int) := by
  have e1 : Go.bits .xor .u64 (x : Int) (y : Int) = IntKind.u64.wrap (((BitVec.ofInt 64 (x : Int)) ^^^ (BitVec.ofInt 64 (y : Int))).toNat : Int) := rfl
  have hlt := Nat.xor_lt_two_pow hx hy
  rw [e1, BitVec.toNat_xor, BitVec.toNat_ofInt, BitVec.toNat_ofInt, u64_wrap]
  have h1 : ((x : Int) % ((2 ^ 64 : Nat) : Int)).toNat = x := by omega
  have h2 : ((y : Int) % ((2 ^ 64 : Nat) : Int)).toNat = y := by omega
  rw [h1, h2]
  omega
theorem zigzag_code {n : Int} (h : (Lit.int .i64 n).wf = true) : row_zigzag.f n = some (zz n : Int) := by
  obtain ⟨h0, h1⟩ := isInt_range h
  unfold row_zigzag.f zz
  congr 1
  by_cases hp : 0 ≤ n
  · have e1 : n / 9223372036854775808 = 0 := by omega
    rw [if_pos hp, e1, u64_wrap, u64_wrap, u64_wrap]
    have e2 : (n % 18446744073709551616 * 2) % 18446744073709551616 = (((2 * n).toNat : Nat) : Int) := by omega
    have e3 : (0 : Int) % 18446744073709551616 = ((0 : Nat) : Int) := rfl
    rw [e2, e3, xor_u64 _ _ (by omega) (by decide), Nat.xor_zero]
  · have e1 : n / 9223372036854775808 = -1 := by omega
    rw [if_neg hp, e1, u64_wrap, u64_wrap, u64_wrap]
    have e2 : (n % 18446744073709551616 * 2) % 18446744073709551616 = (((2 * n + 18446744073709551616).toNat : Nat) : Int) := by omega
    have e3 : (-1 : Int) % 18446744073709551616 = ((2 ^ 64 - 1 : Nat) : Int) := by decide
    rw [e2, e3, xor_u64 _ _ (by omega) (by decide), xor_ones _ _ (by omega)]
    omega
def lowB (n : Int) (i m : Nat) : List Int := (List.range' i m).map fun (j : Nat) => (shr .u64 n (8 * (j : Int))) % 256
theorem low_code (n : Int) : ∀ (m i : Nat) (acc : List Int), i + m = 8 → acc.length + m < 140737488355328 → Ev (fun k => row_putLow.l0 k acc n (i : Int)) (acc ++ lowB n i m)
  | 0, i, acc, h, hl => by
    refine Ev.from_ 1 fun k => ?_
    simp only [row_putLow.l0]
    rw [if_neg (by omega)]; simp [lowB]
  | m + 1, i, acc, h, hl => by
    have ih := low_code n m (i + 1) (acc ++ [(shr .u64 n (8 * (i : Int))) % 256]) (by omega) (by simp; omega)
    refine Ev.step (g := fun k => row_putLow.l0 k (acc ++ [(shr .u64 n (8 * (i : Int))) % 256]) n ((i + 1 : Nat) : Int)) (fun k => ?_) ?_
    · simp only [row_putLow.l0]
      rw [wrap64_id (n := 8 * (i : Int)) (by omega) (by omega), wrap64_id (n := (i : Int) + 1) (by omega) (by omega), if_pos (by omega), if_pos (by omega), if_pos (by omega)]
      rfl
    · have : lowB n i (m + 1) = (shr .u64 n (8 * (i : Int))) % 256 :: lowB n (i + 1) m := rfl
      rw [this]
      simpa using ih
def toldB (v : S50) : List Int := if v.f0 = 2 then vb (zz v.f1) else if v.f0 = 3 then lowB (v.f2 : Int) 0 8 else if v.f0 = 4 ∨ v.f0 = 5 then vb v.f3.size ++ bytesOf v.f3 else []
theorem p128 : (18446744073709551616 : Nat) ≤ 128 ^ (9 + 1) := by decide
theorem bytesOf_length (s : ByteArray) : (bytesOf s).length = s.size := by simp [bytesOf]
theorem toldB_length {v : S50} (hw : wf50 v) (hs : v.f3.size ≤ 65536) : (toldB v).length ≤ 65546 := by
  unfold toldB
  split
  · have := vb_length 9 (zz v.f1) (Nat.lt_of_lt_of_le (zz_lt hw.2.1) p128); omega
  · split
    · simp [lowB]
    · split
      · have := vb_length 9 v.f3.size (Nat.lt_of_lt_of_le (by omega) p128)
        rw [List.length_append, bytesOf_length]; omega
      · simp
theorem row_put_ev (acc : List Int) {v : S50} (hw : wf50 v) (hs : v.f3.size ≤ 65536) (hl : acc.length + 100000 < 140737488355328) : Ev (fun k => row_put.f k acc v.f0 v.f1 v.f2 v.f3) (acc ++ toldB v) := by
  simp only [row_put.f, toldB, row_putVarint.f, row_putLow.f]
  by_cases h2 : v.f0 = 2
  · rw [if_pos h2]
    exact Ev.pos h2 (Ev.bind (Ev.const (zigzag_code hw.2.1)) (Ev.bind (varint_code 9 _ acc (Nat.lt_of_lt_of_le (zz_lt hw.2.1) p128) (zz_lt hw.2.1) (by omega)) Ev.pure))
  rw [if_neg h2]
  refine Ev.neg h2 ?_
  by_cases h3 : v.f0 = 3
  · rw [if_pos h3]
    exact Ev.pos h3 (Ev.bind (low_code (v.f2 : Int) 8 0 acc rfl (by omega)) Ev.pure)
  rw [if_neg h3]
  refine Ev.neg h3 ?_
  have hvl := vb_length 9 v.f3.size (Nat.lt_of_lt_of_le (by omega) p128)
  have hv := varint_code 9 v.f3.size acc (Nat.lt_of_lt_of_le (by omega) p128) (by omega) (by omega)
  have hwr : IntKind.u64.wrap (v.f3.size : Int) = (v.f3.size : Int) := u64_wrap_id (by omega) (by omega)
  rw [hwr]
  by_cases h4 : v.f0 = 4
  · rw [if_pos (.inl h4)]
    refine Ev.pos h4 (Ev.bind hv (Ev.pos (by rw [List.length_append]; omega) ?_))
    rw [List.append_assoc]; exact Ev.pure
  refine Ev.neg h4 ?_
  by_cases h5 : v.f0 = 5
  · rw [if_pos (.inr h5)]
    refine Ev.pos h5 (Ev.bind hv (Ev.pos (by rw [List.length_append]; omega) ?_))
    rw [List.append_assoc]; exact Ev.pure
  · rw [if_neg (by omega), List.append_nil]
    exact Ev.neg h5 Ev.pure
def mark (v : S50) : Int := if v.f0 = 0 then 0 else if v.f0 = 1 then (if v.f1 = 1 then 2 else 1) else 1
theorem mark_code (v : S50) : row_mark.f v.f0 v.f1 v.f2 v.f3 = some (mark v) := by
  unfold row_mark.f mark
  repeat' split
  all_goals rfl
def setM : List S50 → Nat → List Int → List Int
  | [], _, acc => acc
  | v :: vs, i, acc => setM vs (i + 1) (acc.set (i / 4) (Go.bits .or .u8 (rd acc ((i / 4 : Nat) : Int)) (shl .u8 (mark v) ((2 * (i % 4) : Nat) : Int))))
/-- A row's bytes. -/
def rowB (xs : List S50) : List Int := setM xs 0 (List.replicate ((xs.length + 3) / 4) 0) ++ xs.flatMap toldB
theorem tdiv4 (i : Nat) : Int.tdiv (i : Int) 4 = ((i / 4 : Nat) : Int) := rfl
theorem tmod4 (i : Nat) : Int.tmod (i : Int) 4 = ((i % 4 : Nat) : Int) := rfl
theorem tails_code (xs : List S50) (hn : xs.length ≤ 1000) (hw : ∀ v ∈ xs, wf50 v ∧ v.f3.size ≤ 65536) : ∀ (m i : Nat) (acc : List Int), i + m = xs.length → acc.length ≤ 1000 + i * 65546 →
    Ev (fun k => row_encode.l1 k acc xs (xs.length : Int) (i : Int)) (acc ++ (xs.drop i).flatMap toldB)
  | 0, i, acc, h, _ => by
    refine Ev.from_ 1 fun k => ?_
    simp only [row_encode.l1]
    rw [if_neg (by omega), List.drop_of_length_le (by omega)]; simp
  | m + 1, i, acc, h, hl => by
    have hlt : i < xs.length := by omega
    have hx : xs[i]? = some xs[i] := List.getElem?_eq_getElem hlt
    obtain ⟨w1, w2⟩ := hw xs[i] (List.getElem_mem hlt)
    have hL := toldB_length w1 w2
    have ih := tails_code xs hn hw m (i + 1) (acc ++ toldB xs[i]) (by omega) (by rw [List.length_append]; omega)
    refine Ev.step (g := fun k => (row_put.f k acc xs[i].f0 xs[i].f1 xs[i].f2 xs[i].f3).bind fun t609 => (row_encode.l1 k t609 xs (xs.length : Int) ((i + 1 : Nat) : Int))) (fun k => ?_) (Ev.bind (row_put_ev acc w1 w2 (by omega)) ?_)
    · simp only [row_encode.l1]
      rw [if_pos (by omega), if_pos (by omega), if_pos (by omega), rd_get xs i _ hx, wrap64_id (by omega) (by omega)]
      rfl
    · rw [List.drop_eq_getElem_cons hlt, List.flatMap_cons, ← List.append_assoc]
      exact ih
theorem marks_code (xs : List S50) (hn : xs.length ≤ 1000) (b : List Int → List Int) (hb : ∀ acc : List Int, acc.length = (xs.length + 3) / 4 → Ev (fun k => row_encode.l1 k acc xs (xs.length : Int) 0) (b acc)) : ∀ (m i : Nat) (acc : List Int), i + m = xs.length → acc.length = (xs.length + 3) / 4 →
    Ev (fun k => row_encode.l0 k xs acc xs (xs.length : Int) (i : Int)) (b (setM (xs.drop i) i acc))
  | 0, i, acc, h, hl => by
    rw [List.drop_of_length_le (by omega)]
    refine Ev.step (g := fun k => row_encode.l1 k acc xs (xs.length : Int) 0) (fun k => ?_) (hb acc hl)
    simp only [row_encode.l0]
    rw [if_neg (by omega)]
  | m + 1, i, acc, h, hl => by
    have hlt : i < xs.length := by omega
    have hx : xs[i]? = some xs[i] := List.getElem?_eq_getElem hlt
    have ih := marks_code xs hn b hb m (i + 1) (acc.set (i / 4) (Go.bits .or .u8 (rd acc ((i / 4 : Nat) : Int)) (shl .u8 (mark xs[i]) ((2 * (i % 4) : Nat) : Int)))) (by omega) (by simpa using hl)
    rw [List.drop_eq_getElem_cons hlt]
    refine Ev.step (g := fun k => row_encode.l0 k xs (acc.set (i / 4) (Go.bits .or .u8 (rd acc ((i / 4 : Nat) : Int)) (shl .u8 (mark xs[i]) ((2 * (i % 4) : Nat) : Int)))) xs (xs.length : Int) ((i + 1 : Nat) : Int)) (fun k => ?_) ih
    simp only [row_encode.l0, tdiv4, tmod4]
    rw [wrap64_id (n := ((i / 4 : Nat) : Int)) (by omega) (by omega), wrap64_id (n := 2 * ((i % 4 : Nat) : Int)) (by omega) (by omega), wrap64_id (n := (i : Int) + 1) (by omega) (by omega), rd_get xs i _ hx, mark_code]
    rw [if_pos (by omega), if_pos (by omega), if_pos (by omega), if_pos (by omega), if_pos (by omega)]
    simp only [Option.bind_some]
    rw [if_pos (by omega)]
    have e : 2 * ((i % 4 : Nat) : Int) = ((2 * (i % 4) : Nat) : Int) := by omega
    rw [e]
    rfl
theorem rowB_code (xs : List S50) (hn : xs.length ≤ 1000) (hw : ∀ v ∈ xs, wf50 v ∧ v.f3.size ≤ 65536) : Ev (fun k => row_encode.f k xs) (rowB xs) := by
  have e1 : wrap64 (Int.tdiv (wrap64 ((wrap64 (2 * (xs.length : Int))) + 7)) 8) = (((xs.length + 3) / 4 : Nat) : Int) := by
    rw [wrap64_id (n := 2 * (xs.length : Int)) (by omega) (by omega), wrap64_id (n := 2 * (xs.length : Int) + 7) (by omega) (by omega)]
    have e : Int.tdiv (2 * (xs.length : Int) + 7) 8 = (((2 * xs.length + 7) / 8 : Nat) : Int) := rfl
    rw [e, wrap64_id (by omega) (by omega)]; omega
  simp only [row_encode.f, e1]
  refine Ev.pos (by omega) (Ev.pos (by omega) ?_)
  have := marks_code xs hn (fun acc => acc ++ xs.flatMap toldB) (fun acc hl => by
    have := tails_code xs hn hw xs.length 0 acc (by omega) (by omega)
    simpa using this) xs.length 0 (List.replicate ((xs.length + 3) / 4) 0) (by omega) (by simp)
  exact this
theorem admRow_ok : ∀ {cs : List S105} {vs : List S50}, vs.length ≤ cs.length → admRow cs vs = 0 → ∀ v ∈ vs, chkV v = 0
  | _, [], _, _ => by simp
  | [], v :: vs, h, _ => by simp at h
  | c :: cs, v :: vs, h, h0 => by
    simp only [admRow] at h0
    by_cases hc : chk v.f0 v.f1 v.f2 v.f3 = 0
    · rw [if_neg (by simp [hc])] at h0
      have hr : admRow cs vs = 0 := by
        by_cases h1 : v.f0 = 0
        · rw [if_pos h1] at h0
          by_cases h2 : c.f2 = true
          · rwa [if_pos h2] at h0
          · rw [if_neg h2] at h0; cases h0
        · rw [if_neg h1] at h0
          by_cases h2 : v.f0 = c.f1
          · rwa [if_pos h2] at h0
          · rw [if_neg h2] at h0; cases h0
      intro x hx
      rcases List.mem_cons.1 hx with rfl | hx
      · exact hc
      · exact admRow_ok (by simpa using h) hr x hx
    · rw [if_pos hc] at h0; exact absurd h0 hc
theorem checkT_len {a : ByteArray} {c : List S105} {d : List Int} {e : List S115} {f : List S139} (h : checkT a c d e f = 0) : c.length ≤ 64 := by
  unfold checkT at h
  split at h
  · cases h
  · split at h
    · cases h
    · rename_i h2; omega
theorem admT_ok {a : ByteArray} {c : List S105} {d : List Int} {e : List S115} {f : List S139} {row : List S50} (h : admT a c d e f row = 0) : row.length ≤ 64 ∧ ∀ v ∈ row, chkV v = 0 := by
  unfold admT at h
  by_cases h0 : checkT a c d e f = 0
  · rw [if_neg (by simp [h0])] at h
    by_cases h1 : row.length = c.length
    · rw [if_neg (by simp [h1])] at h
      exact ⟨by rw [h1]; exact checkT_len h0, admRow_ok (by omega) h⟩
    · rw [if_pos h1] at h; cases h
  · rw [if_pos h0] at h; exact absurd h h0
theorem wf65_T {x : S65} (h : wf65 x) : WfT x.f0 x.f1 x.f2 x.f3 x.f4 := by
  obtain ⟨h0, h1, h2, h3, h4⟩ := h
  exact ⟨h0, fun c hc => ⟨(h1.2 c hc).1, (h1.2 c hc).2.2.2.2.2.2⟩, by omega, fun y hy => ⟨(h3.2 y hy).1, by have := (h3.2 y hy).2.1.1; omega⟩, fun y hy => ⟨(h4.2 y hy).2, by have := (h4.2 y hy).1.1; omega⟩⟩
theorem wfT_wfTB {a : ByteArray} {c : List S105} {d : List Int} {e : List S115} {f : List S139} (h : WfT a c d e f) : wfTB a c d e f = true := by
  unfold wfTB
  simp only [Bool.and_eq_true, decide_eq_true_eq, List.all_eq_true]
  exact ⟨⟨⟨⟨h.name, fun x hx => h.cols x hx⟩, h.key⟩, fun x hx => h.idx x hx⟩, fun x hx => h.refs x hx⟩
theorem admits_f {a : ByteArray} {c : List S105} {d : List Int} {e : List S115} {f : List S139} {row : List S50} (h : WfT a c d e f) (hr : ∀ v ∈ row, wf50 v) : schema_Admits.f a c d e f row = some (admT a c d e f row) := by
  unfold schema_Admits.f
  have h2 : okV row = true := List.all_eq_true.2 fun v hv => decide_eq_true (hr v hv).2.2.2
  rw [if_pos (by rw [wfT_wfTB h, h2]; rfl)]
/-- What both sides tell of a row. -/
def encR (a : ByteArray) (c : List S105) (d : List Int) (e : List S115) (f : List S139) (row : List S50) : ByteArray × Int :=
  if admT a c d e f row = 0 then (if 65536 < (rowB row).length then ((⟨#[]⟩ : ByteArray), 3) else (strOfNums (rowB row), 0)) else ((⟨#[]⟩ : ByteArray), admT a c d e f row)
theorem encR_code {a : ByteArray} {c : List S105} {d : List Int} {e : List S115} {f : List S139} {row : List S50} (h : WfT a c d e f) (hr : ∀ v ∈ row, wf50 v) : Ev (fun k => row_Encode.f k a c d e f row) (encR a c d e f row) := by
  simp only [row_Encode.f, admits_f h hr, Option.bind_some]
  unfold encR
  by_cases h0 : admT a c d e f row = 0
  · obtain ⟨g1, g2⟩ := admT_ok h0
    rw [if_pos h0]
    refine Ev.pos h0 (Ev.bind (rowB_code row (by omega) (fun v hv => ⟨hr v hv, (chk_ok (g2 v hv)).2⟩)) ?_)
    by_cases hl : 65536 < (rowB row).length
    · rw [if_pos hl]; exact Ev.pos (by omega) Ev.pure
    · rw [if_neg hl]; exact Ev.neg (by omega) Ev.pure
  · rw [if_neg h0]; exact Ev.neg h0 Ev.pure
def cA : S105 := ⟨(⟨#[97]⟩ : ByteArray), 2, false, (⟨0, 0, 0, (⟨#[]⟩ : ByteArray)⟩ : S50)⟩
def cB : S105 := ⟨(⟨#[98]⟩ : ByteArray), 4, true, (⟨0, 0, 0, (⟨#[]⟩ : ByteArray)⟩ : S50)⟩
def rowS : List S50 := [(⟨2, 5, 0, (⟨#[]⟩ : ByteArray)⟩ : S50), (⟨4, 0, 0, (⟨#[97]⟩ : ByteArray)⟩ : S50)]
theorem small_wf : WfT (⟨#[116]⟩ : ByteArray) [cA, cB] [0] [] [] := by
  refine ⟨by decide, ?_, by decide, by simp, by simp⟩
  intro c hc
  simp at hc
  rcases hc with rfl | rfl
  · exact ⟨by decide, by decide⟩
  · exact ⟨by decide, by decide⟩
theorem small_row : ∀ v ∈ rowS, wf50 v := by
  intro v hv
  simp [rowS] at hv
  rcases hv with rfl | rfl
  · exact ⟨by decide, by decide, by decide, by decide⟩
  · exact ⟨by decide, by decide, by decide, by decide⟩
theorem small_adm : admT (⟨#[116]⟩ : ByteArray) [cA, cB] [0] [] [] rowS = 0 := by decide +kernel
theorem vb_small (n : Nat) (h : n < 128) : vb n = [(n : Int)] := by rw [vb.eq_1, dif_neg (by omega)]
theorem small_rowB : rowB rowS = [5, 10, 1, 97] := by
  have e1 : setM rowS 0 (List.replicate ((rowS.length + 3) / 4) 0) = [5] := by decide +kernel
  have e2 : rowS.flatMap toldB = [10, 1, 97] := by
    have h1 : toldB (⟨2, 5, 0, (⟨#[]⟩ : ByteArray)⟩ : S50) = [10] := by
      simp only [toldB]; rw [if_pos trivial]
      have : zz 5 = 10 := by decide
      rw [this, vb_small 10 (by decide)]; rfl
    have h2 : toldB (⟨4, 0, 0, (⟨#[97]⟩ : ByteArray)⟩ : S50) = [1, 97] := by
      simp only [toldB]
      rw [if_neg (by decide), if_neg (by decide), if_pos (by decide)]
      have : (⟨#[97]⟩ : ByteArray).size = 1 := rfl
      rw [this, vb_small 1 (by decide)]; rfl
    simp only [rowS, List.flatMap_cons, List.flatMap_nil, h1, h2]; rfl
  unfold rowB
  rw [e1, e2]; rfl
theorem awake4_ev : Ev (fun k => vellumlaw04_awake.f k) true := by
  simp only [vellumlaw04_awake.f, vellumlaw04_small.f, Option.bind_some]
  have h := encR_code small_wf small_row
  have he : encR (⟨#[116]⟩ : ByteArray) [cA, cB] [0] [] [] rowS = (strOfNums [5, 10, 1, 97], 0) := by
    unfold encR
    rw [if_pos small_adm, small_rowB, if_neg (by decide)]
  rw [he] at h
  refine Ev.bind h ?_
  exact Ev.pos rfl (Ev.const (by decide +kernel))
end Go.Proofs.YtpiifdbicibelaaDoor.Pure
end
section
namespace Go.Proofs.YtpiifdbicibelaaDoor.PA
open Go.RowKit Go.Proofs.YtpiifdbicibelaaDoorW.PrintWords Go.Proofs.YtpiifdbicibelaaDoorW.PrintLast Go.Proofs.YtpiifdbicibelaaDoorW.PrintMore
attribute [local go_sem] max2_int min2_int max_two min_two max_three min_three max_four min_four
set_option linter.unusedVariables false
set_option linter.unusedSimpArgs false
end Go.Proofs.YtpiifdbicibelaaDoor.PA
end
section
namespace Go.Proofs.YtpiifdbicibelaaDoor.Pure
open Go.RowKit Go.Proofs Go.Proofs.YtpiifdbicibelaaDoorW.PrintWords Go.Proofs.YtpiifdbicibelaaDoorW.PrintLast Go.Proofs.YtpiifdbicibelaaDoorW.PrintMore Go.Proofs.YtpiifdbicibelaaDoor.PA Go.Proofs.YtpiifdbicibelaaDoor.OpenK
set_option linter.unusedVariables false
set_option linter.unusedSimpArgs false
theorem admT_len {a : ByteArray} {c : List S105} {d : List Int} {e : List S115} {f : List S139} {row : List S50} (h : admT a c d e f row = 0) : row.length = c.length := by
  unfold admT at h
  by_cases h0 : checkT a c d e f = 0
  · rw [if_neg (by simp [h0])] at h
    by_cases h1 : row.length = c.length
    · exact h1
    · rw [if_pos h1] at h; cases h
  · rw [if_pos h0] at h; exact absurd h h0
end Go.Proofs.YtpiifdbicibelaaDoor.Pure
end
section
namespace Go.Proofs.YtpiifdbicibelaaDoor.PA
open Go.RowKit Go.Proofs.YtpiifdbicibelaaDoorW.PrintWords Go.Proofs.YtpiifdbicibelaaDoorW.PrintLast Go.Proofs.YtpiifdbicibelaaDoorW.PrintMore
attribute [local go_sem] max2_int min2_int max_two min_two max_three min_three max_four min_four
set_option linter.unusedVariables false
set_option linter.unusedSimpArgs false
def row_pick.l0 : Nat → List (S50) → List (S50) → List Int → Int → Int → Option ((List (S50)))
  | 0, _, _, _, _, _ => none
  | k + 1, x0, x5, x8, x9, x10 => if x10 < x9 then (if 0 ≤ x10 then (if x10 < (x8.length : Int) then (if 0 ≤ (rd x8 x10) then (if (rd x8 x10) < (x0.length : Int) then (if x5.length < 3518437208883 then (row_pick.l0 k x0 (x5 ++ [(⟨(rd_T50 x0 (rd x8 x10)).f0, (rd_T50 x0 (rd x8 x10)).f1, (rd_T50 x0 (rd x8 x10)).f2, (rd_T50 x0 (rd x8 x10)).f3⟩ : S50)]) x8 x9 (wrap64 (x10 + 1))) else (none)) else (none)) else (none)) else (none)) else (none)) else (some x5)
def row_pick.f (k : Nat) (l0 : List (S50)) (l1 : List Int) : Option ((List (S50))) := row_pick.l0 k l0 ([] : List (S50)) l1 (l1.length : Int) 0
set_option maxHeartbeats 8000000 in
set_option maxRecDepth 100000 in
theorem row_pick.calls (k : Nat) (A0 : Option Addr) (c0 : Nat) (l0 : List (S50)) (A1 : Option Addr) (c1 : Nat) (l1 : List Int) (r : List (S50)) (w : World) (hr0 : Kd.C k50 w A0 l0.length l0) (hc0 : l0.length ≤ c0) (hr1 : Kd.C (Kd.int .i64) w A1 l1.length l1) (hc1 : l1.length ≤ c1) (h : row_pick.f k l0 l1 = some r) :
    Calls Tryd.prog 97 #[.slice A0 l0.length c0, .slice A1 l1.length c1] w fun e w' => ∃ v0_ : Value, e = .returned (v0_) ∧ Kd.R k50 50 w' w.heap.size (fun _ => True) v0_ r ∧ Below w.heap.size w w' := by
  have hu50 := Tryd.underlying50
  have HR0 := am hr0
  have HC0 := am hc0
  clear hr0 hc0
  have HR1 := am hr1
  have HC1 := am hc1
  clear hr1 hc1
  have HB := am (Below.refl w.heap.size w)
  have H : (row_pick.l0 k l0 ([] : List (S50)) l1 (l1.length : Int) 0) = some r := h
  clear h
  have H' := am H
  clear H
  go_enter Tryd.func97, Tryd.ntmps97
  go_wp2
  go_loopg [5, 10] k (fun kq v5 v10 w' => ∃ (x5_1 : List (S50)) (x10_1 : Int), v10 = .int .i64 x10_1 ∧ Aside0 (row_pick.l0 kq l0 x5_1 l1 (l1.length : Int) x10_1 = some r) ∧ Aside0 (kq ≤ k) ∧ Aside0 (Kd.R k50 50 w' w.heap.size (fun _ => True) v5 x5_1) ∧ Aside0 (Below w.heap.size w w'))
  case atStart => exact ⟨(([] : List (S50))), (0), eb, H', ⟨Nat.le_refl _⟩, ⟨by first | exact Kd.R_nil _ _ _ _ _ | exact Kd.N_nil _ _ _ _ _ | exact Kd.V_nil _ _ _ _ _ | exact Kd.Q_nil _ _ _ _ _ | exact Kd.S_nil _ _ _ _ _⟩, ⟨bl HB⟩⟩
  case round =>
    clear H'
    try clear c1
    try clear p2
    obtain ⟨x5_1, x10_1, rfl, HA, HK1, HO_5, HB⟩ := hrel
    cases gk with
    | zero => exact absurd HA.out (by simp [row_pick.l0])
    | succ k1 =>
      have H := HA.out
      clear HA
      simp only [row_pick.l0] at H
      by_cases c3 : x10_1 < (l1.length : Int)
      · rw [if_pos c3] at H
        have c3b0 : decide (x10_1 < (l1.length : Int)) = true := decide_eq_true c3
        clear c3
        by_cases c4 : 0 ≤ x10_1
        · rw [if_pos c4] at H
          have c4b0 : decide (0 ≤ x10_1) = true := decide_eq_true c4
          clear c4
          by_cases c5 : x10_1 < (l1.length : Int)
          · rw [if_pos c5] at H
            have c5b0 : decide (x10_1 < (l1.length : Int)) = true := decide_eq_true c5
            clear c5
            by_cases c6 : 0 ≤ (rd l1 x10_1)
            · rw [if_pos c6] at H
              have c6b0 : decide (0 ≤ (rd l1 x10_1)) = true := decide_eq_true c6
              clear c6
              by_cases c7 : (rd l1 x10_1) < (l0.length : Int)
              · rw [if_pos c7] at H
                have c7b0 : decide ((rd l1 x10_1) < (l0.length : Int)) = true := decide_eq_true c7
                clear c7
                by_cases c8 : x5_1.length < 3518437208883
                · rw [if_pos c8] at H
                  have LMc8 := am c8
                  clear c8
                  obtain ⟨y968, hy968⟩ : ∃ y_ : List (S50), y_ = (x5_1 ++ [(⟨(rd_T50 l0 (rd l1 x10_1)).f0, (rd_T50 l0 (rd l1 x10_1)).f1, (rd_T50 l0 (rd l1 x10_1)).f2, (rd_T50 l0 (rd l1 x10_1)).f3⟩ : S50)]) := ⟨_, rfl⟩
                  replace H : (row_pick.l0 k1 l0 y968 l1 (l1.length : Int) (wrap64 (x10_1 + 1))) = some r := by first | (rw [hy968]; with_reducible exact H) | (have H2_ := (Option.bind_some _ _).symm.trans H; rw [hy968]; with_reducible exact H2_) | (have H2_ := (Option.bind_some _ _).symm.trans H; with_reducible exact H2_) | with_reducible exact H | (rw [hy968]; exact H) | exact H
                  have Ny968 := am hy968
                  clear hy968
                  have H' := am H
                  clear H
                  have p966 : 0 ≤ (x10_1 : Int) := oda
                  have q966 : x10_1 < (l1.length : Int) := oda
                  obtain ⟨ad966, e966, hx966_0⟩ := Kd.at_int HR1.out x10_1 p966 q966
                  cases e966
                  replace hx966_0 := hc HB hx966_0
                  replace p966 := eq_true p966
                  replace q966 := eq_true q966
                  have p967 : 0 ≤ ((rd l1 x10_1) : Int) := oda
                  have q967 : (rd l1 x10_1) < (l0.length : Int) := oda
                  obtain ⟨ad967, e967, hx967_0, hx967_1, hx967_2, hx967_3⟩ := at_T50 HR0.out (rd l1 x10_1) p967 q967
                  cases e967
                  replace hx967_0 := hc HB hx967_0
                  replace hx967_1 := hc HB hx967_1
                  replace hx967_2 := hc HB hx967_2
                  replace hx967_3 := hc HB hx967_3
                  replace p967 := eq_true p967
                  replace q967 := eq_true q967
                  go_wp2_with (first | ((with_reducible refine gate_builtin (b := .append) (xs := #[.tmp 14, .tmp 19]) rfl ?_); at_builtin; refine Kd.R_append k50 (w0 := w) w.heap.size rfl (.tmp 14) (.tmp 19) 22 50 (.agg #[(.int .i64 0), (.int .i64 0), (.float .f64 0), (.string ⟨#[]⟩)]) 40 rfl Tryd.underlying22 info50 rfl (by decide) (by omega) u5 x5_1 (⟨(rd_T50 l0 (rd l1 x10_1)).f0, (rd_T50 l0 (rd l1 x10_1)).f1, (rd_T50 l0 (rd l1 x10_1)).f2, (rd_T50 l0 (rd l1 x10_1)).f3⟩ : S50) [.int .i64 ((rd_T50 l0 (rd l1 x10_1)).f0), .int .i64 ((rd_T50 l0 (rd l1 x10_1)).f1), .float .f64 ((rd_T50 l0 (rd l1 x10_1)).f2), .string ((rd_T50 l0 (rd l1 x10_1)).f3)] (fun _ => True) (fun _ => False) rfl rfl ?aP (fun _ hk => hk.elim) ?aF ?aO ?aB ?aS ?aL ?_; (case aP => exact k50_mkM _ _ _ (⟨(rd_T50 l0 (rd l1 x10_1)).f0, (rd_T50 l0 (rd l1 x10_1)).f1, (rd_T50 l0 (rd l1 x10_1)).f2, (rd_T50 l0 (rd l1 x10_1)).f3⟩ : S50)); (case aB => exact (bl HB)); (case aF => exact (fun _ _ => trivial)); (case aO => exact (Kd.rr HO_5.out)); (case aS => exact (below_size (bl HB))); (case aL => have := LMc8.out; omega); intro v969 w9 ho hb hg hat; rw [← Ny968.out] at ho; have n0_ := am (hb); have n1_ := am (ho); clear HB; clear HO_5; have HB := n0_; have HO970 := n1_; clear n0_ n1_; clear ho hb hg hat))
                  go_roundg k1
                  case measure => have := HK1.out; omega
                  case rel => exact ⟨(y968), (wrap64 (x10_1 + 1)), eb, H', ⟨by have := HK1.out; omega⟩, ⟨Kd.rr HO970.out⟩, ⟨bl HB⟩⟩
                · rw [if_neg c8] at H
                  exact absurd H (by simp)
              · rw [if_neg c7] at H
                exact absurd H (by simp)
            · rw [if_neg c6] at H
              exact absurd H (by simp)
          · rw [if_neg c5] at H
            exact absurd H (by simp)
        · rw [if_neg c4] at H
          exact absurd H (by simp)
      · rw [if_neg c3] at H
        have c3b0 : decide (x10_1 < (l1.length : Int)) = false := decide_eq_false c3
        clear c3
        obtain rfl := Option.some.inj H
        go_wp2
        go_ret
        exact ⟨_, er, Kd.rr HO_5.out, bl HB⟩
def row_Key.f (k : Nat) (a0_0 : ByteArray) (l0_1 : List (S105)) (l0_2 : List Int) (l0_3 : List (S115)) (l0_4 : List (S139)) (l1 : List (S50)) : Option (ByteArray × Int) := (schema_Admits.f a0_0 l0_1 l0_2 l0_3 l0_4 l1).bind fun t972 => (if t972 = 0 then ((row_pick.f k l1 l0_2).bind fun t973 => ((code_Encode.f k t973).bind fun bt976 => (some (bt976.1, bt976.2)))) else (some ((⟨#[]⟩ : ByteArray), t972)))
set_option maxHeartbeats 8000000 in
set_option maxRecDepth 100000 in
theorem row_Key.calls (k : Nat) (a0_0 : ByteArray) (A0_1 : Option Addr) (c0_1 : Nat) (l0_1 : List (S105)) (A0_2 : Option Addr) (c0_2 : Nat) (l0_2 : List Int) (A0_3 : Option Addr) (c0_3 : Nat) (l0_3 : List (S115)) (A0_4 : Option Addr) (c0_4 : Nat) (l0_4 : List (S139)) (A1 : Option Addr) (c1 : Nat) (l1 : List (S50)) (r1 : ByteArray) (r2 : Int) (w : World) (hr0_1 : Kd.C k105 w A0_1 l0_1.length l0_1) (hc0_1 : l0_1.length ≤ c0_1) (hr0_2 : Kd.C (Kd.int .i64) w A0_2 l0_2.length l0_2) (hc0_2 : l0_2.length ≤ c0_2) (hr0_3 : Kd.C k115 w A0_3 l0_3.length l0_3) (hc0_3 : l0_3.length ≤ c0_3) (hr0_4 : Kd.C k139 w A0_4 l0_4.length l0_4) (hc0_4 : l0_4.length ≤ c0_4) (hr1 : Kd.C k50 w A1 l1.length l1) (hc1 : l1.length ≤ c1) (hG : Glob w) (h : row_Key.f k a0_0 l0_1 l0_2 l0_3 l0_4 l1 = some (r1, r2)) :
    Calls Tryd.prog 63 #[.agg #[.string a0_0, .slice A0_1 l0_1.length c0_1, .slice A0_2 l0_2.length c0_2, .slice A0_3 l0_3.length c0_3, .slice A0_4 l0_4.length c0_4], .slice A1 l1.length c1] w fun e w' => e = .returned (.tuple #[.string r1, .int .i64 r2]) ∧ Below w.heap.size w w' := by
  have hu65 := Tryd.underlying65
  have HR0_1 := am hr0_1
  have HC0_1 := am hc0_1
  clear hr0_1 hc0_1
  have HR0_2 := am hr0_2
  have HC0_2 := am hc0_2
  clear hr0_2 hc0_2
  have HR0_3 := am hr0_3
  have HC0_3 := am hc0_3
  clear hr0_3 hc0_3
  have HR0_4 := am hr0_4
  have HC0_4 := am hc0_4
  clear hr0_4 hc0_4
  have HR1 := am hr1
  have HC1 := am hc1
  clear hr1 hc1
  have HG := am hG
  clear hG
  have HB := am (Below.refl w.heap.size w)
  have H : ((schema_Admits.f a0_0 l0_1 l0_2 l0_3 l0_4 l1).bind fun t972 => (if t972 = 0 then ((row_pick.f k l1 l0_2).bind fun t973 => ((code_Encode.f k t973).bind fun bt976 => (some (bt976.1, bt976.2)))) else (some ((⟨#[]⟩ : ByteArray), t972)))) = some (r1, r2) := h
  clear h
  replace H := Option.bind_eq_some_iff.mp H
  obtain ⟨t972, A30, H⟩ := H
  replace H : (if t972 = 0 then ((row_pick.f k l1 l0_2).bind fun t973 => ((code_Encode.f k t973).bind fun bt976 => (some (bt976.1, bt976.2)))) else (some ((⟨#[]⟩ : ByteArray), t972))) = some (r1, r2) := H
  have A3 := am A30
  clear A30
  by_cases c4 : t972 = 0
  · rw [if_pos c4] at H
    have c4b0 : (t972 == 0) = true := beq_iff_eq.mpr c4
    have c4b1 : (t972 != 0) = false := bne_eq_false_iff_eq.mpr c4
    clear c4
    replace H := Option.bind_eq_some_iff.mp H
    obtain ⟨t973, A50, H⟩ := H
    replace H : ((code_Encode.f k t973).bind fun bt976 => (some (bt976.1, bt976.2))) = some (r1, r2) := H
    have A5 := am A50
    clear A50
    replace H := Option.bind_eq_some_iff.mp H
    obtain ⟨⟨t976, t977⟩, A60, H⟩ := H
    replace H : (some (t976, t977)) = some (r1, r2) := H
    have A6 := am A60
    clear A60
    simp only [Option.some.injEq, Prod.mk.injEq] at H
    obtain ⟨rfl, rfl⟩ := H
    go_enter Tryd.func63, Tryd.ntmps63
    go_wp2_with (first | ((with_reducible refine gate_dst (N := 2) rfl ?_); refine box_event rfl (N := 2) rfl (cs := #[.string a0_0, .slice A0_1 l0_1.length c0_1, .slice A0_2 l0_2.length c0_2, .slice A0_3 l0_3.length c0_3, .slice A0_4 l0_4.length c0_4]) (t := 65) gs ?_; intro gb971 hg w7 hbox hb; have BK971 := am (hbox); have GW971 := gw hg HB; have GE971 := gw hg HB; replace HB := sb HB hb; clear hb hbox hg; obtain ⟨Z8_0, Z8_1, Z8_2, Z8_3, Z8_4, Y8_0, Y8_1, Y8_2, Y8_3, Y8_4⟩ := bq5 BK971) | ((with_reducible refine gate_callee (f := 83) rfl ?_); refine goesL_ (some 9) rfl rfl Tryd.func83 (by kernel_rfl) rfl #[.agg #[.string a0_0, .slice A0_1 l0_1.length c0_1, .slice A0_2 l0_2.length c0_2, .slice A0_3 l0_3.length c0_3, .slice A0_4 l0_4.length c0_4], .slice A1 l1.length c1] rfl ar ?_; (with_reducible refine (schema_Admits.calls a0_0 _ _ l0_1 _ _ l0_2 _ _ l0_3 _ _ l0_4 _ _ l1 t972 _ (Kd.cb HR0_1 HB) HC0_1.out (Kd.cb HR0_2 HB) HC0_2.out (Kd.cb HR0_3 HB) HC0_3.out (Kd.cb HR0_4 HB) HC0_4.out (Kd.cb HR1 HB) HC1.out (Glob.below HG.out (bl HB)) A3.out).mono ?_); rintro e w9 ⟨rfl, hb⟩; refine ⟨_, rfl, ?_⟩; replace BK971 := kb BK971 hb; replace HB := sb HB hb; (try clear hb); (try clear hb2 hk hi); obtain ⟨Z10_0, Z10_1, Z10_2, Z10_3, Z10_4, Y10_0, Y10_1, Y10_2, Y10_3, Y10_4⟩ := bq5 BK971) | ((with_reducible refine gate_callee (f := 97) rfl ?_); refine goesL_ (some 16) rfl rfl Tryd.func97 (by kernel_rfl) rfl #[.slice A1 l1.length c1, .slice A0_2 l0_2.length c0_2] rfl ar ?_; (with_reducible refine (row_pick.calls k _ _ l1 _ _ l0_2 t973 _ (Kd.cb HR1 HB) HC1.out (Kd.cb HR0_2 HB) HC0_2.out A5.out).mono ?_); rintro e w11 ⟨v974, rfl, ho0, hb⟩; refine ⟨_, rfl, ?_⟩; have n0_ := am (Kd.R_lower ho0 (below_size (bl HB))); have n1_ := kb BK971 hb; have n2_ := sb HB hb; clear BK971; clear HB; have HO975 := n0_; have BK971 := n1_; have HB := n2_; clear n0_ n1_ n2_; (try clear hb); (try clear hb2 hk hi); (try clear ho0); obtain ⟨Ao12, co12, eo12⟩ := Kd.R_slice HO975.out; subst eo12) | ((with_reducible refine gate_callee (f := 21) rfl ?_); refine goesL_ (some 17) rfl rfl Tryd.func21 (by kernel_rfl) rfl #[.slice Ao12 t973.length co12] rfl ar ?_; (with_reducible refine (code_Encode.calls k _ _ t973 t976 t977 _ ?side1 ?side2 (Glob.below HG.out (bl HB)) A6.out).mono ?_); (case side1 => repeat (first | exact (Kd.R_reads' HO975.out).2.2 | (with_reducible refine Kd.C_alloc ?_ _) | (with_reducible refine Kd.C_drewN ?_ _) | (with_reducible refine Kd.C_drew ?_))); (case side2 => exact (Kd.R_reads' HO975.out).2.1); rintro e w13 ⟨rfl, hb⟩; refine ⟨_, rfl, ?_⟩; have n0_ := am (Kd.R_below (Kd.rr HO975.out) hb); have n1_ := kb BK971 hb; have n2_ := sb HB hb; clear HO975; clear BK971; clear HB; have HO975 := n0_; have BK971 := n1_; have HB := n2_; clear n0_ n1_ n2_; (try clear hb); (try clear hb2 hk hi)))
    go_ret2
    exact ⟨er, bl HB⟩
  · rw [if_neg c4] at H
    have c4b0 : (t972 == 0) = false := beq_eq_false_iff_ne.mpr c4
    have c4b1 : (t972 != 0) = true := bne_iff_ne.mpr c4
    simp only [Option.some.injEq, Prod.mk.injEq] at H
    obtain ⟨rfl, rfl⟩ := H
    go_enter Tryd.func63, Tryd.ntmps63
    go_wp2_with (first | ((with_reducible refine gate_dst (N := 2) rfl ?_); refine box_event rfl (N := 2) rfl (cs := #[.string a0_0, .slice A0_1 l0_1.length c0_1, .slice A0_2 l0_2.length c0_2, .slice A0_3 l0_3.length c0_3, .slice A0_4 l0_4.length c0_4]) (t := 65) gs ?_; intro gb971 hg w14 hbox hb; have BK971 := am (hbox); have GW971 := gw hg HB; have GE971 := gw hg HB; replace HB := sb HB hb; clear hb hbox hg; obtain ⟨Z15_0, Z15_1, Z15_2, Z15_3, Z15_4, Y15_0, Y15_1, Y15_2, Y15_3, Y15_4⟩ := bq5 BK971) | ((with_reducible refine gate_callee (f := 83) rfl ?_); refine goesL_ (some 9) rfl rfl Tryd.func83 (by kernel_rfl) rfl #[.agg #[.string a0_0, .slice A0_1 l0_1.length c0_1, .slice A0_2 l0_2.length c0_2, .slice A0_3 l0_3.length c0_3, .slice A0_4 l0_4.length c0_4], .slice A1 l1.length c1] rfl ar ?_; (with_reducible refine (schema_Admits.calls a0_0 _ _ l0_1 _ _ l0_2 _ _ l0_3 _ _ l0_4 _ _ l1 t972 _ (Kd.cb HR0_1 HB) HC0_1.out (Kd.cb HR0_2 HB) HC0_2.out (Kd.cb HR0_3 HB) HC0_3.out (Kd.cb HR0_4 HB) HC0_4.out (Kd.cb HR1 HB) HC1.out (Glob.below HG.out (bl HB)) A3.out).mono ?_); rintro e w16 ⟨rfl, hb⟩; refine ⟨_, rfl, ?_⟩; replace BK971 := kb BK971 hb; replace HB := sb HB hb; (try clear hb); (try clear hb2 hk hi)))
    go_ret2
    exact ⟨er, bl HB⟩
def vellumref04_some.l0 : Nat → List Int → List (S50) → List (S50) → Int → Option ((List (S50)))
  | 0, _, _, _, _ => none
  | k + 1, x0, x1, x5, x6 => if x6 < (x0.length : Int) then (if 0 ≤ x6 then (if 0 ≤ (rd x0 x6) then (if (rd x0 x6) < (x1.length : Int) then (if x5.length < 3518437208883 then (vellumref04_some.l0 k x0 x1 (x5 ++ [(⟨(rd_T50 x1 (rd x0 x6)).f0, (rd_T50 x1 (rd x0 x6)).f1, (rd_T50 x1 (rd x0 x6)).f2, (rd_T50 x1 (rd x0 x6)).f3⟩ : S50)]) (wrap64 (x6 + 1))) else (none)) else (none)) else (none)) else (none)) else (some x5)
def vellumref04_some.f (k : Nat) (l0 : List Int) (l1 : List (S50)) : Option ((List (S50))) := vellumref04_some.l0 k l0 l1 ([] : List (S50)) 0
set_option maxHeartbeats 8000000 in
set_option maxRecDepth 100000 in
theorem vellumref04_some.calls (k : Nat) (A0 : Option Addr) (c0 : Nat) (l0 : List Int) (A1 : Option Addr) (c1 : Nat) (l1 : List (S50)) (r : List (S50)) (w : World) (hr0 : Kd.C (Kd.int .i64) w A0 l0.length l0) (hc0 : l0.length ≤ c0) (hr1 : Kd.C k50 w A1 l1.length l1) (hc1 : l1.length ≤ c1) (h : vellumref04_some.f k l0 l1 = some r) :
    Calls Tryd.prog 98 #[.slice A0 l0.length c0, .slice A1 l1.length c1] w fun e w' => ∃ v0_ : Value, e = .returned (v0_) ∧ Kd.R k50 50 w' w.heap.size (fun _ => True) v0_ r ∧ Below w.heap.size w w' := by
  have hu50 := Tryd.underlying50
  have HR0 := am hr0
  have HC0 := am hc0
  clear hr0 hc0
  have HR1 := am hr1
  have HC1 := am hc1
  clear hr1 hc1
  have HB := am (Below.refl w.heap.size w)
  have H : (vellumref04_some.l0 k l0 l1 ([] : List (S50)) 0) = some r := h
  clear h
  have H' := am H
  clear H
  go_enter Tryd.func98, Tryd.ntmps98
  go_wp2
  go_loopg [5, 6] k (fun kq v5 v6 w' => ∃ (x5_1 : List (S50)) (x6_1 : Int), v6 = .int .i64 x6_1 ∧ Aside0 (vellumref04_some.l0 kq l0 l1 x5_1 x6_1 = some r) ∧ Aside0 (kq ≤ k) ∧ Aside0 (Kd.R k50 50 w' w.heap.size (fun _ => True) v5 x5_1) ∧ Aside0 (Below w.heap.size w w'))
  case atStart => exact ⟨(([] : List (S50))), (0), eb, H', ⟨Nat.le_refl _⟩, ⟨by first | exact Kd.R_nil _ _ _ _ _ | exact Kd.N_nil _ _ _ _ _ | exact Kd.V_nil _ _ _ _ _ | exact Kd.Q_nil _ _ _ _ _ | exact Kd.S_nil _ _ _ _ _⟩, ⟨bl HB⟩⟩
  case round =>
    clear H'
    try clear c1
    try clear p2
    obtain ⟨x5_1, x6_1, rfl, HA, HK1, HO_5, HB⟩ := hrel
    cases gk with
    | zero => exact absurd HA.out (by simp [vellumref04_some.l0])
    | succ k1 =>
      have H := HA.out
      clear HA
      simp only [vellumref04_some.l0] at H
      by_cases c3 : x6_1 < (l0.length : Int)
      · rw [if_pos c3] at H
        have c3b0 : decide (x6_1 < (l0.length : Int)) = true := decide_eq_true c3
        clear c3
        by_cases c4 : 0 ≤ x6_1
        · rw [if_pos c4] at H
          have c4b0 : decide (0 ≤ x6_1) = true := decide_eq_true c4
          clear c4
          by_cases c5 : 0 ≤ (rd l0 x6_1)
          · rw [if_pos c5] at H
            have c5b0 : decide (0 ≤ (rd l0 x6_1)) = true := decide_eq_true c5
            clear c5
            by_cases c6 : (rd l0 x6_1) < (l1.length : Int)
            · rw [if_pos c6] at H
              have c6b0 : decide ((rd l0 x6_1) < (l1.length : Int)) = true := decide_eq_true c6
              clear c6
              by_cases c7 : x5_1.length < 3518437208883
              · rw [if_pos c7] at H
                have LMc7 := am c7
                clear c7
                obtain ⟨y980, hy980⟩ : ∃ y_ : List (S50), y_ = (x5_1 ++ [(⟨(rd_T50 l1 (rd l0 x6_1)).f0, (rd_T50 l1 (rd l0 x6_1)).f1, (rd_T50 l1 (rd l0 x6_1)).f2, (rd_T50 l1 (rd l0 x6_1)).f3⟩ : S50)]) := ⟨_, rfl⟩
                replace H : (vellumref04_some.l0 k1 l0 l1 y980 (wrap64 (x6_1 + 1))) = some r := by first | (rw [hy980]; with_reducible exact H) | (have H2_ := (Option.bind_some _ _).symm.trans H; rw [hy980]; with_reducible exact H2_) | (have H2_ := (Option.bind_some _ _).symm.trans H; with_reducible exact H2_) | with_reducible exact H | (rw [hy980]; exact H) | exact H
                have Ny980 := am hy980
                clear hy980
                have H' := am H
                clear H
                have p978 : 0 ≤ (x6_1 : Int) := oda
                have q978 : x6_1 < (l0.length : Int) := oda
                obtain ⟨ad978, e978, hx978_0⟩ := Kd.at_int HR0.out x6_1 p978 q978
                cases e978
                replace hx978_0 := hc HB hx978_0
                replace p978 := eq_true p978
                replace q978 := eq_true q978
                have p979 : 0 ≤ ((rd l0 x6_1) : Int) := oda
                have q979 : (rd l0 x6_1) < (l1.length : Int) := oda
                obtain ⟨ad979, e979, hx979_0, hx979_1, hx979_2, hx979_3⟩ := at_T50 HR1.out (rd l0 x6_1) p979 q979
                cases e979
                replace hx979_0 := hc HB hx979_0
                replace hx979_1 := hc HB hx979_1
                replace hx979_2 := hc HB hx979_2
                replace hx979_3 := hc HB hx979_3
                replace p979 := eq_true p979
                replace q979 := eq_true q979
                go_wp2_with (first | ((with_reducible refine gate_builtin (b := .append) (xs := #[.tmp 13, .tmp 21]) rfl ?_); at_builtin; refine Kd.R_append k50 (w0 := w) w.heap.size rfl (.tmp 13) (.tmp 21) 22 50 (.agg #[(.int .i64 0), (.int .i64 0), (.float .f64 0), (.string ⟨#[]⟩)]) 40 rfl Tryd.underlying22 info50 rfl (by decide) (by omega) u5 x5_1 (⟨(rd_T50 l1 (rd l0 x6_1)).f0, (rd_T50 l1 (rd l0 x6_1)).f1, (rd_T50 l1 (rd l0 x6_1)).f2, (rd_T50 l1 (rd l0 x6_1)).f3⟩ : S50) [.int .i64 ((rd_T50 l1 (rd l0 x6_1)).f0), .int .i64 ((rd_T50 l1 (rd l0 x6_1)).f1), .float .f64 ((rd_T50 l1 (rd l0 x6_1)).f2), .string ((rd_T50 l1 (rd l0 x6_1)).f3)] (fun _ => True) (fun _ => False) rfl rfl ?aP (fun _ hk => hk.elim) ?aF ?aO ?aB ?aS ?aL ?_; (case aP => exact k50_mkM _ _ _ (⟨(rd_T50 l1 (rd l0 x6_1)).f0, (rd_T50 l1 (rd l0 x6_1)).f1, (rd_T50 l1 (rd l0 x6_1)).f2, (rd_T50 l1 (rd l0 x6_1)).f3⟩ : S50)); (case aB => exact (bl HB)); (case aF => exact (fun _ _ => trivial)); (case aO => exact (Kd.rr HO_5.out)); (case aS => exact (below_size (bl HB))); (case aL => have := LMc7.out; omega); intro v981 w8 ho hb hg hat; rw [← Ny980.out] at ho; have n0_ := am (hb); have n1_ := am (ho); clear HB; clear HO_5; have HB := n0_; have HO982 := n1_; clear n0_ n1_; clear ho hb hg hat))
                go_roundg k1
                case measure => have := HK1.out; omega
                case rel => exact ⟨(y980), (wrap64 (x6_1 + 1)), eb, H', ⟨by have := HK1.out; omega⟩, ⟨Kd.rr HO982.out⟩, ⟨bl HB⟩⟩
              · rw [if_neg c7] at H
                exact absurd H (by simp)
            · rw [if_neg c6] at H
              exact absurd H (by simp)
          · rw [if_neg c5] at H
            exact absurd H (by simp)
        · rw [if_neg c4] at H
          exact absurd H (by simp)
      · rw [if_neg c3] at H
        have c3b0 : decide (x6_1 < (l0.length : Int)) = false := decide_eq_false c3
        clear c3
        obtain rfl := Option.some.inj H
        go_wp2
        go_ret
        exact ⟨_, er, Kd.rr HO_5.out, bl HB⟩
def vellumref04_Key.f (k : Nat) (a0_0 : ByteArray) (l0_1 : List (S105)) (l0_2 : List Int) (l0_3 : List (S115)) (l0_4 : List (S139)) (l1 : List (S50)) : Option (ByteArray × Int) := (vellumref03_Admits.f k a0_0 l0_1 l0_2 l0_3 l0_4 l1).bind fun t984 => (if t984 = 0 then ((vellumref04_some.f k l0_2 l1).bind fun t985 => ((vellumref02_Encode.f k t985).bind fun bt988 => (some (bt988.1, bt988.2)))) else (some ((⟨#[]⟩ : ByteArray), t984)))
set_option maxHeartbeats 8000000 in
set_option maxRecDepth 100000 in
theorem vellumref04_Key.calls (k : Nat) (a0_0 : ByteArray) (A0_1 : Option Addr) (c0_1 : Nat) (l0_1 : List (S105)) (A0_2 : Option Addr) (c0_2 : Nat) (l0_2 : List Int) (A0_3 : Option Addr) (c0_3 : Nat) (l0_3 : List (S115)) (A0_4 : Option Addr) (c0_4 : Nat) (l0_4 : List (S139)) (A1 : Option Addr) (c1 : Nat) (l1 : List (S50)) (r1 : ByteArray) (r2 : Int) (w : World) (hr0_1 : Kd.C k105 w A0_1 l0_1.length l0_1) (hc0_1 : l0_1.length ≤ c0_1) (hr0_2 : Kd.C (Kd.int .i64) w A0_2 l0_2.length l0_2) (hc0_2 : l0_2.length ≤ c0_2) (hr0_3 : Kd.C k115 w A0_3 l0_3.length l0_3) (hc0_3 : l0_3.length ≤ c0_3) (hr0_4 : Kd.C k139 w A0_4 l0_4.length l0_4) (hc0_4 : l0_4.length ≤ c0_4) (hr1 : Kd.C k50 w A1 l1.length l1) (hc1 : l1.length ≤ c1) (hG : Glob w) (h : vellumref04_Key.f k a0_0 l0_1 l0_2 l0_3 l0_4 l1 = some (r1, r2)) :
    Calls Tryd.prog 64 #[.agg #[.string a0_0, .slice A0_1 l0_1.length c0_1, .slice A0_2 l0_2.length c0_2, .slice A0_3 l0_3.length c0_3, .slice A0_4 l0_4.length c0_4], .slice A1 l1.length c1] w fun e w' => e = .returned (.tuple #[.string r1, .int .i64 r2]) ∧ Below w.heap.size w w' := by
  have hu65 := Tryd.underlying65
  have HR0_1 := am hr0_1
  have HC0_1 := am hc0_1
  clear hr0_1 hc0_1
  have HR0_2 := am hr0_2
  have HC0_2 := am hc0_2
  clear hr0_2 hc0_2
  have HR0_3 := am hr0_3
  have HC0_3 := am hc0_3
  clear hr0_3 hc0_3
  have HR0_4 := am hr0_4
  have HC0_4 := am hc0_4
  clear hr0_4 hc0_4
  have HR1 := am hr1
  have HC1 := am hc1
  clear hr1 hc1
  have HG := am hG
  clear hG
  have HB := am (Below.refl w.heap.size w)
  have H : ((vellumref03_Admits.f k a0_0 l0_1 l0_2 l0_3 l0_4 l1).bind fun t984 => (if t984 = 0 then ((vellumref04_some.f k l0_2 l1).bind fun t985 => ((vellumref02_Encode.f k t985).bind fun bt988 => (some (bt988.1, bt988.2)))) else (some ((⟨#[]⟩ : ByteArray), t984)))) = some (r1, r2) := h
  clear h
  replace H := Option.bind_eq_some_iff.mp H
  obtain ⟨t984, A30, H⟩ := H
  replace H : (if t984 = 0 then ((vellumref04_some.f k l0_2 l1).bind fun t985 => ((vellumref02_Encode.f k t985).bind fun bt988 => (some (bt988.1, bt988.2)))) else (some ((⟨#[]⟩ : ByteArray), t984))) = some (r1, r2) := H
  have A3 := am A30
  clear A30
  by_cases c4 : t984 = 0
  · rw [if_pos c4] at H
    have c4b0 : (t984 == 0) = true := beq_iff_eq.mpr c4
    have c4b1 : (t984 != 0) = false := bne_eq_false_iff_eq.mpr c4
    clear c4
    replace H := Option.bind_eq_some_iff.mp H
    obtain ⟨t985, A50, H⟩ := H
    replace H : ((vellumref02_Encode.f k t985).bind fun bt988 => (some (bt988.1, bt988.2))) = some (r1, r2) := H
    have A5 := am A50
    clear A50
    replace H := Option.bind_eq_some_iff.mp H
    obtain ⟨⟨t988, t989⟩, A60, H⟩ := H
    replace H : (some (t988, t989)) = some (r1, r2) := H
    have A6 := am A60
    clear A60
    simp only [Option.some.injEq, Prod.mk.injEq] at H
    obtain ⟨rfl, rfl⟩ := H
    go_enter Tryd.func64, Tryd.ntmps64
    go_wp2_with (first | ((with_reducible refine gate_dst (N := 2) rfl ?_); refine box_event rfl (N := 2) rfl (cs := #[.string a0_0, .slice A0_1 l0_1.length c0_1, .slice A0_2 l0_2.length c0_2, .slice A0_3 l0_3.length c0_3, .slice A0_4 l0_4.length c0_4]) (t := 65) gs ?_; intro gb983 hg w7 hbox hb; have BK983 := am (hbox); have GW983 := gw hg HB; have GE983 := gw hg HB; replace HB := sb HB hb; clear hb hbox hg; obtain ⟨Z8_0, Z8_1, Z8_2, Z8_3, Z8_4, Y8_0, Y8_1, Y8_2, Y8_3, Y8_4⟩ := bq5 BK983) | ((with_reducible refine gate_callee (f := 85) rfl ?_); refine goesL_ (some 9) rfl rfl Tryd.func85 (by kernel_rfl) rfl #[.agg #[.string a0_0, .slice A0_1 l0_1.length c0_1, .slice A0_2 l0_2.length c0_2, .slice A0_3 l0_3.length c0_3, .slice A0_4 l0_4.length c0_4], .slice A1 l1.length c1] rfl ar ?_; (with_reducible refine (vellumref03_Admits.calls k a0_0 _ _ l0_1 _ _ l0_2 _ _ l0_3 _ _ l0_4 _ _ l1 t984 _ (Kd.cb HR0_1 HB) HC0_1.out (Kd.cb HR0_2 HB) HC0_2.out (Kd.cb HR0_3 HB) HC0_3.out (Kd.cb HR0_4 HB) HC0_4.out (Kd.cb HR1 HB) HC1.out (Glob.below HG.out (bl HB)) A3.out).mono ?_); rintro e w9 ⟨rfl, hb⟩; refine ⟨_, rfl, ?_⟩; replace BK983 := kb BK983 hb; replace HB := sb HB hb; (try clear hb); (try clear hb2 hk hi); obtain ⟨Z10_0, Z10_1, Z10_2, Z10_3, Z10_4, Y10_0, Y10_1, Y10_2, Y10_3, Y10_4⟩ := bq5 BK983) | ((with_reducible refine gate_callee (f := 98) rfl ?_); refine goesL_ (some 16) rfl rfl Tryd.func98 (by kernel_rfl) rfl #[.slice A0_2 l0_2.length c0_2, .slice A1 l1.length c1] rfl ar ?_; (with_reducible refine (vellumref04_some.calls k _ _ l0_2 _ _ l1 t985 _ (Kd.cb HR0_2 HB) HC0_2.out (Kd.cb HR1 HB) HC1.out A5.out).mono ?_); rintro e w11 ⟨v986, rfl, ho0, hb⟩; refine ⟨_, rfl, ?_⟩; have n0_ := am (Kd.R_lower ho0 (below_size (bl HB))); have n1_ := kb BK983 hb; have n2_ := sb HB hb; clear BK983; clear HB; have HO987 := n0_; have BK983 := n1_; have HB := n2_; clear n0_ n1_ n2_; (try clear hb); (try clear hb2 hk hi); (try clear ho0); obtain ⟨Ao12, co12, eo12⟩ := Kd.R_slice HO987.out; subst eo12) | ((with_reducible refine gate_callee (f := 22) rfl ?_); refine goesL_ (some 17) rfl rfl Tryd.func22 (by kernel_rfl) rfl #[.slice Ao12 t985.length co12] rfl ar ?_; (with_reducible refine (vellumref02_Encode.calls k _ _ t985 t988 t989 _ ?side1 ?side2 (Glob.below HG.out (bl HB)) A6.out).mono ?_); (case side1 => repeat (first | exact (Kd.R_reads' HO987.out).2.2 | (with_reducible refine Kd.C_alloc ?_ _) | (with_reducible refine Kd.C_drewN ?_ _) | (with_reducible refine Kd.C_drew ?_))); (case side2 => exact (Kd.R_reads' HO987.out).2.1); rintro e w13 ⟨rfl, hb⟩; refine ⟨_, rfl, ?_⟩; have n0_ := am (Kd.R_below (Kd.rr HO987.out) hb); have n1_ := kb BK983 hb; have n2_ := sb HB hb; clear HO987; clear BK983; clear HB; have HO987 := n0_; have BK983 := n1_; have HB := n2_; clear n0_ n1_ n2_; (try clear hb); (try clear hb2 hk hi)))
    go_ret2
    exact ⟨er, bl HB⟩
  · rw [if_neg c4] at H
    have c4b0 : (t984 == 0) = false := beq_eq_false_iff_ne.mpr c4
    have c4b1 : (t984 != 0) = true := bne_iff_ne.mpr c4
    simp only [Option.some.injEq, Prod.mk.injEq] at H
    obtain ⟨rfl, rfl⟩ := H
    go_enter Tryd.func64, Tryd.ntmps64
    go_wp2_with (first | ((with_reducible refine gate_dst (N := 2) rfl ?_); refine box_event rfl (N := 2) rfl (cs := #[.string a0_0, .slice A0_1 l0_1.length c0_1, .slice A0_2 l0_2.length c0_2, .slice A0_3 l0_3.length c0_3, .slice A0_4 l0_4.length c0_4]) (t := 65) gs ?_; intro gb983 hg w14 hbox hb; have BK983 := am (hbox); have GW983 := gw hg HB; have GE983 := gw hg HB; replace HB := sb HB hb; clear hb hbox hg; obtain ⟨Z15_0, Z15_1, Z15_2, Z15_3, Z15_4, Y15_0, Y15_1, Y15_2, Y15_3, Y15_4⟩ := bq5 BK983) | ((with_reducible refine gate_callee (f := 85) rfl ?_); refine goesL_ (some 9) rfl rfl Tryd.func85 (by kernel_rfl) rfl #[.agg #[.string a0_0, .slice A0_1 l0_1.length c0_1, .slice A0_2 l0_2.length c0_2, .slice A0_3 l0_3.length c0_3, .slice A0_4 l0_4.length c0_4], .slice A1 l1.length c1] rfl ar ?_; (with_reducible refine (vellumref03_Admits.calls k a0_0 _ _ l0_1 _ _ l0_2 _ _ l0_3 _ _ l0_4 _ _ l1 t984 _ (Kd.cb HR0_1 HB) HC0_1.out (Kd.cb HR0_2 HB) HC0_2.out (Kd.cb HR0_3 HB) HC0_3.out (Kd.cb HR0_4 HB) HC0_4.out (Kd.cb HR1 HB) HC1.out (Glob.below HG.out (bl HB)) A3.out).mono ?_); rintro e w16 ⟨rfl, hb⟩; refine ⟨_, rfl, ?_⟩; replace BK983 := kb BK983 hb; replace HB := sb HB hb; (try clear hb); (try clear hb2 hk hi)))
    go_ret2
    exact ⟨er, bl HB⟩
def row_Entry.j0 : Nat → Int → List (S50) → Bool → ByteArray → List (S105) → List Int → List (S115) → List (S139) → Option (ByteArray × Int)
  | 0, _, _, _, _, _, _, _, _ => none
  | k + 1, x1, x2, x27, x991000, x991001, x991002, x991003, x991004 => if x27 = true then (some ((⟨#[]⟩ : ByteArray), 5)) else (if 0 ≤ x1 then (if x1 < (x991003.length : Int) then ((row_pick.f k x2 ((rd_T115 x991003 x1).f1)).bind fun t994 => ((row_pick.f k x2 x991002).bind fun t997 => (if t994.length + t997.length < 3518437208883 then ((code_Encode.f k (t994 ++ t997)).bind fun bt1003 => (some (bt1003.1, bt1003.2))) else (none)))) else (none)) else (none))
def row_Entry.f (k : Nat) (a0_0 : ByteArray) (l0_1 : List (S105)) (l0_2 : List Int) (l0_3 : List (S115)) (l0_4 : List (S139)) (a1 : Int) (l2 : List (S50)) : Option (ByteArray × Int) := (row_Key.f k a0_0 l0_1 l0_2 l0_3 l0_4 l2).bind fun bt991 => (if bt991.2 = 0 then (if a1 < 0 then (row_Entry.j0 k a1 l2 true a0_0 l0_1 l0_2 l0_3 l0_4) else (row_Entry.j0 k a1 l2 (decide (a1 ≥ (l0_3.length : Int))) a0_0 l0_1 l0_2 l0_3 l0_4)) else (some ((⟨#[]⟩ : ByteArray), bt991.2)))
def row_Entry.T6 : Bool × List (List Nat × List Nat) := (true, [([], []), ([], []), ([1], [1]), ([], []), ([2, 3], [2, 3]), ([4], [4]), ([5], [5]), ([0, 6], [0, 6]), ([], []), ([], []), ([9], [9]), ([8, 10, 7], [8, 10]), ([7, 11, 11], [7, 11]), ([12, 12], [12]), ([13], [13]), ([13], [13]), ([14, 13, 0, 1, 2, 3, 4, 5, 6, 7, 8, 9, 10, 11, 12, 13, 14, 15], [14]), ([15, 16, 0, 1, 2, 3, 4, 5, 6, 7, 8, 9, 10, 11, 12, 13, 14, 15, 16], [15])])
def row_Entry.B6 : List Nat := [0, 0, 2, 0, 14, 30, 62, 127, 0, 0, 512, 2047, 4095, 8191, 16383, 16383, 65535, 131071]
theorem row_Entry.tab6 : rtab .any (opsOf Tryd.f65 6) = row_Entry.T6 := by kernel_rfl
theorem row_Entry.bits6 : waitsOk row_Entry.T6.2 row_Entry.B6 = true := by kernel_rfl
set_option maxHeartbeats 8000000 in
set_option maxRecDepth 100000 in
theorem row_Entry.calls (k : Nat) (a0_0 : ByteArray) (A0_1 : Option Addr) (c0_1 : Nat) (l0_1 : List (S105)) (A0_2 : Option Addr) (c0_2 : Nat) (l0_2 : List Int) (A0_3 : Option Addr) (c0_3 : Nat) (l0_3 : List (S115)) (A0_4 : Option Addr) (c0_4 : Nat) (l0_4 : List (S139)) (a1 : Int) (A2 : Option Addr) (c2 : Nat) (l2 : List (S50)) (r1 : ByteArray) (r2 : Int) (w : World) (hr0_1 : Kd.C k105 w A0_1 l0_1.length l0_1) (hc0_1 : l0_1.length ≤ c0_1) (hr0_2 : Kd.C (Kd.int .i64) w A0_2 l0_2.length l0_2) (hc0_2 : l0_2.length ≤ c0_2) (hr0_3 : Kd.C k115 w A0_3 l0_3.length l0_3) (hc0_3 : l0_3.length ≤ c0_3) (hr0_4 : Kd.C k139 w A0_4 l0_4.length l0_4) (hc0_4 : l0_4.length ≤ c0_4) (hr2 : Kd.C k50 w A2 l2.length l2) (hc2 : l2.length ≤ c2) (hG : Glob w) (h : row_Entry.f k a0_0 l0_1 l0_2 l0_3 l0_4 a1 l2 = some (r1, r2)) :
    Calls Tryd.prog 65 #[.agg #[.string a0_0, .slice A0_1 l0_1.length c0_1, .slice A0_2 l0_2.length c0_2, .slice A0_3 l0_3.length c0_3, .slice A0_4 l0_4.length c0_4], .int .i64 a1, .slice A2 l2.length c2] w fun e w' => e = .returned (.tuple #[.string r1, .int .i64 r2]) ∧ Below w.heap.size w w' := by
  have hu65 := Tryd.underlying65
  have HR0_1 := am hr0_1
  have HC0_1 := am hc0_1
  clear hr0_1 hc0_1
  have HR0_2 := am hr0_2
  have HC0_2 := am hc0_2
  clear hr0_2 hc0_2
  have HR0_3 := am hr0_3
  have HC0_3 := am hc0_3
  clear hr0_3 hc0_3
  have HR0_4 := am hr0_4
  have HC0_4 := am hc0_4
  clear hr0_4 hc0_4
  have HR2 := am hr2
  have HC2 := am hc2
  clear hr2 hc2
  have HG := am hG
  clear hG
  have HB := am (Below.refl w.heap.size w)
  have H : ((row_Key.f k a0_0 l0_1 l0_2 l0_3 l0_4 l2).bind fun bt991 => (if bt991.2 = 0 then (if a1 < 0 then (row_Entry.j0 k a1 l2 true a0_0 l0_1 l0_2 l0_3 l0_4) else (row_Entry.j0 k a1 l2 (decide (a1 ≥ (l0_3.length : Int))) a0_0 l0_1 l0_2 l0_3 l0_4)) else (some ((⟨#[]⟩ : ByteArray), bt991.2)))) = some (r1, r2) := h
  clear h
  replace H := Option.bind_eq_some_iff.mp H
  obtain ⟨⟨t991, t992⟩, A40, H⟩ := H
  replace H : (if t992 = 0 then (if a1 < 0 then (row_Entry.j0 k a1 l2 true a0_0 l0_1 l0_2 l0_3 l0_4) else (row_Entry.j0 k a1 l2 (decide (a1 ≥ (l0_3.length : Int))) a0_0 l0_1 l0_2 l0_3 l0_4)) else (some ((⟨#[]⟩ : ByteArray), t992))) = some (r1, r2) := H
  have A4 := am A40
  clear A40
  by_cases c5 : t992 = 0
  · rw [if_pos c5] at H
    have c5b0 : (t992 == 0) = true := beq_iff_eq.mpr c5
    have c5b1 : (t992 != 0) = false := bne_eq_false_iff_eq.mpr c5
    clear c5
    have HC6 := am H
    clear H
    go_enter Tryd.func65, Tryd.ntmps65
    go_upto_region 4 with (first | ((with_reducible refine gate_dst (N := 3) rfl ?_); (try (refine gate_guard (by rfl) ?_; dsimp only)); refine box_event rfl (N := 3) rfl (cs := #[.string a0_0, .slice A0_1 l0_1.length c0_1, .slice A0_2 l0_2.length c0_2, .slice A0_3 l0_3.length c0_3, .slice A0_4 l0_4.length c0_4]) (t := 65) gs ?_; intro gb990 hg w7 hbox hb; have BK990 := am (hbox); have GW990 := gw hg HB; have GE990 := gw hg HB; replace HB := sb HB hb; clear hb hbox hg; obtain ⟨Z8_0, Z8_1, Z8_2, Z8_3, Z8_4, Y8_0, Y8_1, Y8_2, Y8_3, Y8_4⟩ := bq5 BK990) | ((with_reducible refine gate_callee (f := 63) rfl ?_); refine goesL_ (some 13) rfl rfl Tryd.func63 (by kernel_rfl) rfl #[.agg #[.string a0_0, .slice A0_1 l0_1.length c0_1, .slice A0_2 l0_2.length c0_2, .slice A0_3 l0_3.length c0_3, .slice A0_4 l0_4.length c0_4], .slice A2 l2.length c2] rfl ar ?_; (with_reducible refine (row_Key.calls k a0_0 _ _ l0_1 _ _ l0_2 _ _ l0_3 _ _ l0_4 _ _ l2 t991 t992 _ (Kd.cb HR0_1 HB) HC0_1.out (Kd.cb HR0_2 HB) HC0_2.out (Kd.cb HR0_3 HB) HC0_3.out (Kd.cb HR0_4 HB) HC0_4.out (Kd.cb HR2 HB) HC2.out (Glob.below HG.out (bl HB)) A4.out).mono ?_); rintro e w9 ⟨rfl, hb⟩; refine ⟨_, rfl, ?_⟩; replace BK990 := kb BK990 hb; replace HB := sb HB hb; (try clear hb); (try clear hb2 hk hi)))
    (try simp only [Act.put, List.setIfInBounds_toArray, List.set_cons_zero, List.set_cons_succ])
    go_cut [27] (fun v27 wc => ∃ (kq : Nat) (x27_5 : Bool), v27 = .bool x27_5 ∧ Aside0 (row_Entry.j0 kq a1 l2 x27_5 a0_0 l0_1 l0_2 l0_3 l0_4 = some (r1, r2)) ∧ Aside0 (kq ≤ k) ∧ Aside0 (wc.heap[gb990]? = some (.cells #[.string a0_0, (.slice A0_1 l0_1.length c0_1), (.slice A0_2 l0_2.length c0_2), (.slice A0_3 l0_3.length c0_3), (.slice A0_4 l0_4.length c0_4)] 65 (0, 0))) ∧ Aside0 (Below w.heap.size w wc))
    case first =>
      have H := HC6.out
      clear HC6
      by_cases c10 : a1 < 0
      · rw [if_pos c10] at H
        have c10b0 : decide (a1 < 0) = true := decide_eq_true c10
        clear c10
        (first | rw [c10b0] | (simp only [i64_w, i32_w]; rw [c10b0]) | skip)
        have H' := am H
        clear H
        go_wp2
        go_meet
        case rel => exact ⟨_, (true), eb, H', ⟨by first | omega | exact Nat.le_refl _⟩, ⟨bk BK990⟩, ⟨bl HB⟩⟩
      · rw [if_neg c10] at H
        have c10b0 : decide (a1 < 0) = false := decide_eq_false c10
        clear c10
        (first | rw [c10b0] | (simp only [i64_w, i32_w]; rw [c10b0]) | skip)
        have H' := am H
        clear H
        obtain ⟨Z11_0, Z11_1, Z11_2, Z11_3, Z11_4, Y11_0, Y11_1, Y11_2, Y11_3, Y11_4⟩ := bq5 BK990
        go_wp2
        go_meet
        case rel => exact ⟨_, (decide (a1 ≥ (l0_3.length : Int))), eb, H', ⟨by first | omega | exact Nat.le_refl _⟩, ⟨bk BK990⟩, ⟨bl HB⟩⟩
    case rest =>
      clear HC6
      try clear c1
      try clear c2
      try clear p2
      try clear c5
      try clear c5b0
      try clear c5b1
      try clear c6
      try clear c10
      try clear c10b0
      try clear Z11_0
      try clear Z11_1
      try clear Z11_2
      try clear Z11_3
      try clear Z11_4
      try clear Z8_0
      try clear Z8_1
      try clear Z8_2
      try clear Z8_3
      try clear Z8_4
      try clear Y11_0
      try clear Y11_1
      try clear Y11_2
      try clear Y11_3
      try clear Y11_4
      try clear Y8_0
      try clear Y8_1
      try clear Y8_2
      try clear Y8_3
      try clear Y8_4
      obtain ⟨kq, x27_5, rfl, HA, HJ5, BK990, HB⟩ := hcut
      cases kq with
      | zero => exact absurd HA.out (by simp [row_Entry.j0])
      | succ kj5 =>
        have H := HA.out
        clear HA
        simp only [row_Entry.j0] at H
        by_cases c12 : x27_5 = true
        · subst c12
          have H1 : (some ((⟨#[]⟩ : ByteArray), 5)) = some (r1, r2) := by rw [if_pos rfl] at H; exact H
          clear H
          have H := H1
          clear H1
          simp only [Option.some.injEq, Prod.mk.injEq] at H
          obtain ⟨rfl, rfl⟩ := H
          go_wp2
          go_ret2
          exact ⟨er, bl HB⟩
        · replace c12 := Bool.eq_false_iff.mpr c12
          subst c12
          have H1 : (if 0 ≤ a1 then (if a1 < (l0_3.length : Int) then ((row_pick.f kj5 l2 ((rd_T115 l0_3 a1).f1)).bind fun t994 => ((row_pick.f kj5 l2 l0_2).bind fun t997 => (if t994.length + t997.length < 3518437208883 then ((code_Encode.f kj5 (t994 ++ t997)).bind fun bt1003 => (some (bt1003.1, bt1003.2))) else (none)))) else (none)) else (none)) = some (r1, r2) := by rw [if_neg (show ¬ (false = true) by decide)] at H; exact H
          clear H
          have H := H1
          clear H1
          by_cases c13 : 0 ≤ a1
          · rw [if_pos c13] at H
            have c13b0 : decide (0 ≤ a1) = true := decide_eq_true c13
            clear c13
            by_cases c14 : a1 < (l0_3.length : Int)
            · rw [if_pos c14] at H
              have c14b0 : decide (a1 < (l0_3.length : Int)) = true := decide_eq_true c14
              clear c14
              replace H := Option.bind_eq_some_iff.mp H
              obtain ⟨t994, A150, H⟩ := H
              replace H : ((row_pick.f kj5 l2 l0_2).bind fun t997 => (if t994.length + t997.length < 3518437208883 then ((code_Encode.f kj5 (t994 ++ t997)).bind fun bt1003 => (some (bt1003.1, bt1003.2))) else (none))) = some (r1, r2) := H
              have A15 := am A150
              clear A150
              replace H := Option.bind_eq_some_iff.mp H
              obtain ⟨t997, A160, H⟩ := H
              replace H : (if t994.length + t997.length < 3518437208883 then ((code_Encode.f kj5 (t994 ++ t997)).bind fun bt1003 => (some (bt1003.1, bt1003.2))) else (none)) = some (r1, r2) := H
              have A16 := am A160
              clear A160
              by_cases c17 : t994.length + t997.length < 3518437208883
              · rw [if_pos c17] at H
                have LMc17 := am c17
                clear c17
                obtain ⟨y1000, hy1000⟩ : ∃ y_ : List (S50), y_ = (t994 ++ t997) := ⟨_, rfl⟩
                replace H : ((code_Encode.f kj5 y1000).bind fun bt1003 => (some (bt1003.1, bt1003.2))) = some (r1, r2) := by first | (rw [hy1000]; with_reducible exact H) | (have H2_ := (Option.bind_some _ _).symm.trans H; rw [hy1000]; with_reducible exact H2_) | (have H2_ := (Option.bind_some _ _).symm.trans H; with_reducible exact H2_) | with_reducible exact H | (rw [hy1000]; exact H) | exact H
                have Ny1000 := am hy1000
                clear hy1000
                replace H := Option.bind_eq_some_iff.mp H
                obtain ⟨⟨t1003, t1004⟩, A180, H⟩ := H
                replace H : (some (t1003, t1004)) = some (r1, r2) := H
                have A18 := am A180
                clear A180
                simp only [Option.some.injEq, Prod.mk.injEq] at H
                obtain ⟨rfl, rfl⟩ := H
                try go_wp2
                have n0_ := am (blk_drew BK990.out)
                have n1_ := am (below_drew1 HB.out)
                clear BK990
                clear HB
                have BK990 := n0_
                have HB := n1_
                clear n0_ n1_
                have p993 : 0 ≤ (a1 : Int) := oda
                have q993 : a1 < (l0_3.length : Int) := oda
                obtain ⟨ad993, A993_1, c993_1, e993, hx993_0, hx993_1, hx993_2, hl993_1, hi993_1⟩ := at_T115 HR0_3.out a1 p993 q993
                have hw993_2 := hx993_2
                have hw993_1 := hx993_1
                have hw993_0 := hx993_0
                cases e993
                replace hx993_0 := hc HB hx993_0
                replace hx993_1 := hc HB hx993_1
                replace hx993_2 := hc HB hx993_2
                have HR993_1 := am hi993_1
                have HC993_1 := am hl993_1
                clear hi993_1 hl993_1
                replace p993 := eq_true p993
                replace q993 := eq_true q993
                refine start_ (n := 18) (S := fun w' => w'.cell? ⟨gb990, 0, none⟩ = some (.string a0_0) ∧ w'.cell? ⟨gb990, 1, none⟩ = some (.slice A0_1 l0_1.length c0_1) ∧ w'.cell? ⟨gb990, 2, none⟩ = some (.slice A0_2 l0_2.length c0_2) ∧ w'.cell? ⟨gb990, 3, none⟩ = some (.slice (some ad993) l0_3.length c0_3) ∧ w'.cell? ⟨gb990, 4, none⟩ = some (.slice A0_4 l0_4.length c0_4) ∧ w'.cell? (ad993.add ((a1).toNat * 3)) = some (.string ((rd_T115 l0_3 a1).f0)) ∧ w'.cell? ⟨(ad993.add ((a1).toNat * 3)).block, (ad993.add ((a1).toNat * 3)).off + 1, none⟩ = some (.slice A993_1 ((rd_T115 l0_3 a1).f1).length c993_1) ∧ w'.cell? ⟨(ad993.add ((a1).toNat * 3)).block, (ad993.add ((a1).toNat * 3)).off + 2, none⟩ = some (.bool ((rd_T115 l0_3 a1).f2))) (ds := []) (bb 0 18) (by kernel_rfl) rfl rfl ⟨(blk_cell BK990.out 0).trans rfl, (blk_cell BK990.out 1).trans rfl, (blk_cell BK990.out 2).trans rfl, (blk_cell BK990.out 3).trans rfl, (blk_cell BK990.out 4).trans rfl, (hc HB hw993_0), (hc HB hw993_1), (hc HB hw993_2)⟩ (fun hHeld => ?_); refine with_tabW row_Entry.tab6 row_Entry.bits6 (fun HT_ HW_ => ?_)
                generalize wc.drew = w19 at BK990 HB HR993_1 hx993_0 hx993_1 hx993_2 hHeld ⊢
                refine pu HT_ 0 (some 28) (bb 1 18) ?_
                refine pu HT_ 1 (some 29) (bb 2 18) ?_
                refine pu HT_ 3 (some 31) (bs 18 11) ?_
                refine pu HT_ 8 (some 36) (bs 18 267) ?_
                refine pu HT_ 9 (some 37) (bs 18 779) ?_
                refine tk HT_ HW_ hHeld 2 (some 30) (bs 18 783) ?_
                refine pu HT_ 4 (some 32) (bs 18 799) ?_
                refine pu HT_ 5 (some 33) (bs 18 831) ?_
                refine tk HT_ HW_ hHeld 6 (some 34) (bs 18 895) ?_
                refine tk HT_ HW_ hHeld 10 (some 38) (bs 18 1919) ?_
                refine one_ (i := 7) (N := some 35) (bb 11 18) rfl rfl (one_of HT_.out (by kernel_rfl)) (by decide) (fun K hK => ?_)
                refine goes_ Tryd.func97 (by kernel_rfl) rfl #[.slice A2 l2.length c2, .slice A993_1 ((rd_T115 l0_3 a1).f1).length c993_1] (by rfl) rfl rfl ar ?_
                with_reducible refine (row_pick.calls kj5 _ _ l2 _ _ ((rd_T115 l0_3 a1).f1) t994 _ ?side1 ?side2 ?side3 ?side4 A15.out).mono ?_
                (case side1 => exact Kd.cb HR2 HB)
                (case side2 => exact HC2.out)
                (case side3 => exact Kd.cb HR993_1 HB)
                (case side4 => exact HC993_1.out)
                rintro e w20 ⟨v995, rfl, ho0, hb⟩
                refine ⟨_, rfl, ?_⟩
                have n0_ := am (Kd.R_lower ho0 (below_size (bl HB)))
                have n1_ := kb BK990 hb
                have n2_ := sb HB hb
                clear BK990
                clear HB
                have HO996 := n0_
                have BK990 := n1_
                have HB := n2_
                clear n0_ n1_ n2_
                (try clear hb)
                (try clear hb2)
                (try clear hk)
                (try clear hi)
                (try clear ho0)
                refine hK.out _ _ ⟨(blk_cell BK990.out 0).trans rfl, (blk_cell BK990.out 1).trans rfl, (blk_cell BK990.out 2).trans rfl, (blk_cell BK990.out 3).trans rfl, (blk_cell BK990.out 4).trans rfl, (hc HB hw993_0), (hc HB hw993_1), (hc HB hw993_2)⟩ (fun hHeld => ?_)
                clear hK K
                refine norm_ (a' := ?_) ?_ ?_
                rotate_left
                · show Act.put _ (some 35) _ = _
                  simp only [Act.put, List.setIfInBounds_toArray, List.set_cons_zero, List.set_cons_succ, i64_w, i32_w]
                  rfl
                refine one_ (i := 11) (N := some 39) (bb 12 18) rfl rfl (one_of HT_.out (by kernel_rfl)) (by decide) (fun K hK => ?_)
                refine goes_ Tryd.func97 (by kernel_rfl) rfl #[.slice A2 l2.length c2, .slice A0_2 l0_2.length c0_2] (by rfl) rfl rfl ar ?_
                with_reducible refine (row_pick.calls kj5 _ _ l2 _ _ l0_2 t997 _ ?side1 ?side2 ?side3 ?side4 A16.out).mono ?_
                (case side1 => exact Kd.cb HR2 HB)
                (case side2 => exact HC2.out)
                (case side3 => exact Kd.cb HR0_2 HB)
                (case side4 => exact HC0_2.out)
                rintro e w21 ⟨v998, rfl, ho0, hb⟩
                refine ⟨_, rfl, ?_⟩
                have n0_ := am (Kd.R_elder' (Kd.rr HO996.out) (Kd.R_base ho0) hb)
                have n1_ := am (Kd.R_lower (Kd.R_new' ho0 (Kd.R_lt (Kd.rr HO996.out))) (below_size (bl HB)))
                have n2_ := kb BK990 hb
                have n3_ := sb HB hb
                clear HO996
                clear BK990
                clear HB
                have HO996 := n0_
                have HO999 := n1_
                have BK990 := n2_
                have HB := n3_
                clear n0_ n1_ n2_ n3_
                (try clear hb)
                (try clear hb2)
                (try clear hk)
                (try clear hi)
                (try clear ho0)
                obtain ⟨Ao23, co23, eo23⟩ := Kd.R_slice HO999.out
                (first | subst eo23 | (injection eo23 with f1_ f2_ f3_; have f4_ := f1_.symm; have f5_ := f3_.symm; clear f1_ f2_ f3_; subst f4_; subst f5_))
                refine hK.out _ _ ⟨(blk_cell BK990.out 0).trans rfl, (blk_cell BK990.out 1).trans rfl, (blk_cell BK990.out 2).trans rfl, (blk_cell BK990.out 3).trans rfl, (blk_cell BK990.out 4).trans rfl, (hc HB hw993_0), (hc HB hw993_1), (hc HB hw993_2)⟩ (fun hHeld => ?_)
                clear hK K
                refine norm_ (a' := ?_) ?_ ?_
                rotate_left
                · show Act.put _ (some 39) _ = _
                  simp only [Act.put, List.setIfInBounds_toArray, List.set_cons_zero, List.set_cons_succ, i64_w, i32_w]
                  rfl
                refine one_ (i := 12) (N := some 40) (bb 13 18) rfl rfl (one_of HT_.out (by kernel_rfl)) (by decide) (fun K hK => ?_)
                refine Kd.R_append_rows_step k50 (w0 := w) w.heap.size (by rfl) (.tmp 35) (.tmp 39) 22 50 (.agg #[(.int .i64 0), (.int .i64 0), (.float .f64 0), (.string ⟨#[]⟩)]) 40 rfl Tryd.underlying22 info50 rfl (by decide) (by omega) v995 t994 t997 _ _ _ (fun k_ => some k_ ≠ (.slice Ao23 t997.length co23 : Value).ownBlock) (fun _ => False) rfl rfl ?aO ?aR (fun _ _ h => h) (fun _ h => h.elim) ?aF ?aB ?aS ?aL ?_
                (case aR => repeat (first | exact (Kd.R_reads' HO999.out).2.2 | (with_reducible refine Kd.C_alloc ?_ _) | (with_reducible refine Kd.C_drewN ?_ _) | (with_reducible refine Kd.C_drew ?_)))
                (case aB => exact (bl HB))
                (case aF => exact (fun k_ hk => Kd.fresh' (Kd.R_lt (Kd.rr HO999.out)) k_ hk))
                (case aO => exact (by (with_reducible repeat (first | apply Kd.R_alloc | apply Kd.R_drewN | apply Kd.R_drew)); exact Kd.R_mono HO996.out (fun _ hk => hk.2)))
                (case aS => exact (below_size (bl HB)))
                (case aL => have := LMc17.out; omega)
                intro v1001 w22 ho hb hg hat
                rw [← Ny1000.out] at ho
                have n0_ := am (blk_grown (g := gb990) (o := .cells #[.string a0_0, .slice A0_1 l0_1.length c0_1, .slice A0_2 l0_2.length c0_2, .slice (some ad993) l0_3.length c0_3, .slice A0_4 l0_4.length c0_4] 65 (0, 0)) (bk BK990) hg (Kd.R_ne HO996.out BK990.out (by decide)))
                have n1_ := am (Kd.R_after (ok := (fun _ => True)) (Kd.rr HO999.out) hg hat)
                have n2_ := am (hb)
                have n3_ := am (ho)
                clear BK990
                clear HO999
                clear HB
                clear HO996
                have BK990 := n0_
                have HO999 := n1_
                have HB := n2_
                have HO1002 := n3_
                clear n0_ n1_ n2_ n3_
                clear ho hb hg hat
                obtain ⟨Ao24, co24, eo24⟩ := Kd.R_slice HO1002.out
                (first | subst eo24 | (injection eo24 with f1_ f2_ f3_; have f4_ := f1_.symm; have f5_ := f3_.symm; clear f1_ f2_ f3_; subst f4_; subst f5_))
                refine hK.out _ _ ⟨(blk_cell BK990.out 0).trans rfl, (blk_cell BK990.out 1).trans rfl, (blk_cell BK990.out 2).trans rfl, (blk_cell BK990.out 3).trans rfl, (blk_cell BK990.out 4).trans rfl, (hc HB hw993_0), (hc HB hw993_1), (hc HB hw993_2)⟩ (fun hHeld => ?_)
                clear hK K
                refine norm_ (a' := ?_) ?_ ?_
                rotate_left
                · show Act.put _ (some 40) _ = _
                  simp only [Act.put, List.setIfInBounds_toArray, List.set_cons_zero, List.set_cons_succ, i64_w, i32_w]
                  rfl
                refine one_ (i := 13) (N := some 41) (bb 14 18) rfl rfl (one_of HT_.out (by kernel_rfl)) (by decide) (fun K hK => ?_)
                refine goes_ Tryd.func21 (by kernel_rfl) rfl #[.slice Ao24 y1000.length co24] (by rfl) rfl rfl ar ?_
                with_reducible refine (code_Encode.calls kj5 _ _ y1000 t1003 t1004 _ ?side1 ?side2 ?side3 A18.out).mono ?_
                (case side1 => repeat (first | exact (Kd.R_reads' HO1002.out).2.2 | (with_reducible refine Kd.C_alloc ?_ _) | (with_reducible refine Kd.C_drewN ?_ _) | (with_reducible refine Kd.C_drew ?_)))
                (case side2 => exact (Kd.R_reads' HO1002.out).2.1)
                (case side3 => exact Glob.below HG.out (bl HB))
                rintro e w25 ⟨rfl, hb⟩
                refine ⟨_, rfl, ?_⟩
                have n0_ := am (Kd.R_below (Kd.rr HO999.out) hb)
                have n1_ := am (Kd.R_below (Kd.rr HO1002.out) hb)
                have n2_ := kb BK990 hb
                have n3_ := sb HB hb
                clear HO999
                clear HO1002
                clear BK990
                clear HB
                have HO999 := n0_
                have HO1002 := n1_
                have BK990 := n2_
                have HB := n3_
                clear n0_ n1_ n2_ n3_
                (try clear hb)
                (try clear hb2)
                (try clear hk)
                (try clear hi)
                refine hK.out _ _ ⟨(blk_cell BK990.out 0).trans rfl, (blk_cell BK990.out 1).trans rfl, (blk_cell BK990.out 2).trans rfl, (blk_cell BK990.out 3).trans rfl, (blk_cell BK990.out 4).trans rfl, (hc HB hw993_0), (hc HB hw993_1), (hc HB hw993_2)⟩ (fun hHeld => ?_)
                clear hK K
                refine norm_ (a' := ?_) ?_ ?_
                rotate_left
                · show Act.put _ (some 41) _ = _
                  simp only [Act.put, List.setIfInBounds_toArray, List.set_cons_zero, List.set_cons_succ, i64_w, i32_w]
                  rfl
                refine pu HT_ 14 (some 42) (bb 15 18) ?_
                refine pu HT_ 15 (some 43) (bb 16 18) ?_
                refine pu HT_ 16 (some 6) (bb 17 18) ?_
                refine pu HT_ 17 (some 7) (bb 18 18) ?_
                refine done_ (done_of HT_.out (by kernel_rfl)) ?_
                try go_wp2
                go_ret2
                exact ⟨er, bl HB⟩
              · rw [if_neg c17] at H
                exact absurd H (by simp)
            · rw [if_neg c14] at H
              exact absurd H (by simp)
          · rw [if_neg c13] at H
            exact absurd H (by simp)
  · rw [if_neg c5] at H
    have c5b0 : (t992 == 0) = false := beq_eq_false_iff_ne.mpr c5
    have c5b1 : (t992 != 0) = true := bne_iff_ne.mpr c5
    simp only [Option.some.injEq, Prod.mk.injEq] at H
    obtain ⟨rfl, rfl⟩ := H
    go_enter Tryd.func65, Tryd.ntmps65
    go_wp2_with (first | ((with_reducible refine gate_dst (N := 3) rfl ?_); (try (refine gate_guard (by rfl) ?_; dsimp only)); refine box_event rfl (N := 3) rfl (cs := #[.string a0_0, .slice A0_1 l0_1.length c0_1, .slice A0_2 l0_2.length c0_2, .slice A0_3 l0_3.length c0_3, .slice A0_4 l0_4.length c0_4]) (t := 65) gs ?_; intro gb990 hg w26 hbox hb; have BK990 := am (hbox); have GW990 := gw hg HB; have GE990 := gw hg HB; replace HB := sb HB hb; clear hb hbox hg; obtain ⟨Z27_0, Z27_1, Z27_2, Z27_3, Z27_4, Y27_0, Y27_1, Y27_2, Y27_3, Y27_4⟩ := bq5 BK990) | ((with_reducible refine gate_callee (f := 63) rfl ?_); refine goesL_ (some 13) rfl rfl Tryd.func63 (by kernel_rfl) rfl #[.agg #[.string a0_0, .slice A0_1 l0_1.length c0_1, .slice A0_2 l0_2.length c0_2, .slice A0_3 l0_3.length c0_3, .slice A0_4 l0_4.length c0_4], .slice A2 l2.length c2] rfl ar ?_; (with_reducible refine (row_Key.calls k a0_0 _ _ l0_1 _ _ l0_2 _ _ l0_3 _ _ l0_4 _ _ l2 t991 t992 _ (Kd.cb HR0_1 HB) HC0_1.out (Kd.cb HR0_2 HB) HC0_2.out (Kd.cb HR0_3 HB) HC0_3.out (Kd.cb HR0_4 HB) HC0_4.out (Kd.cb HR2 HB) HC2.out (Glob.below HG.out (bl HB)) A4.out).mono ?_); rintro e w28 ⟨rfl, hb⟩; refine ⟨_, rfl, ?_⟩; replace BK990 := kb BK990 hb; replace HB := sb HB hb; (try clear hb); (try clear hb2 hk hi)))
    go_ret2
    exact ⟨er, bl HB⟩
def vellumref04_Entry.j0 : Nat → Int → List (S50) → Bool → ByteArray → List (S105) → List Int → List (S115) → List (S139) → Option (ByteArray × Int)
  | 0, _, _, _, _, _, _, _, _ => none
  | k + 1, x1, x2, x27, x1006000, x1006001, x1006002, x1006003, x1006004 => if x27 = true then (some ((⟨#[]⟩ : ByteArray), 5)) else (if 0 ≤ x1 then (if x1 < (x1006003.length : Int) then ((vellumref04_some.f k ((rd_T115 x1006003 x1).f1) x2).bind fun t1009 => ((vellumref04_some.f k x1006002 x2).bind fun t1012 => (if t1009.length + t1012.length < 3518437208883 then ((vellumref02_Encode.f k (t1009 ++ t1012)).bind fun bt1018 => (some (bt1018.1, bt1018.2))) else (none)))) else (none)) else (none))
def vellumref04_Entry.f (k : Nat) (a0_0 : ByteArray) (l0_1 : List (S105)) (l0_2 : List Int) (l0_3 : List (S115)) (l0_4 : List (S139)) (a1 : Int) (l2 : List (S50)) : Option (ByteArray × Int) := (vellumref04_Key.f k a0_0 l0_1 l0_2 l0_3 l0_4 l2).bind fun bt1006 => (if bt1006.2 = 0 then (if a1 < 0 then (vellumref04_Entry.j0 k a1 l2 true a0_0 l0_1 l0_2 l0_3 l0_4) else (vellumref04_Entry.j0 k a1 l2 (decide (a1 ≥ (l0_3.length : Int))) a0_0 l0_1 l0_2 l0_3 l0_4)) else (some ((⟨#[]⟩ : ByteArray), bt1006.2)))
def vellumref04_Entry.T6 : Bool × List (List Nat × List Nat) := (true, [([], []), ([0], [0]), ([], []), ([1, 2], [1, 2]), ([3], [3]), ([4], [4]), ([], []), ([5, 6], [5, 6]), ([], []), ([8], [8]), ([], []), ([9, 10, 7], [9, 10]), ([7, 11, 11], [7, 11]), ([12, 12], [12]), ([13], [13]), ([13], [13]), ([14, 13, 0, 1, 2, 3, 4, 5, 6, 7, 8, 9, 10, 11, 12, 13, 14, 15], [14]), ([15, 16, 0, 1, 2, 3, 4, 5, 6, 7, 8, 9, 10, 11, 12, 13, 14, 15, 16], [15])])
def vellumref04_Entry.B6 : List Nat := [0, 1, 0, 7, 15, 31, 0, 127, 0, 256, 0, 2047, 4095, 8191, 16383, 16383, 65535, 131071]
theorem vellumref04_Entry.tab6 : rtab .any (opsOf Tryd.f66 6) = vellumref04_Entry.T6 := by kernel_rfl
theorem vellumref04_Entry.bits6 : waitsOk vellumref04_Entry.T6.2 vellumref04_Entry.B6 = true := by kernel_rfl
set_option maxHeartbeats 8000000 in
set_option maxRecDepth 100000 in
theorem vellumref04_Entry.calls (k : Nat) (a0_0 : ByteArray) (A0_1 : Option Addr) (c0_1 : Nat) (l0_1 : List (S105)) (A0_2 : Option Addr) (c0_2 : Nat) (l0_2 : List Int) (A0_3 : Option Addr) (c0_3 : Nat) (l0_3 : List (S115)) (A0_4 : Option Addr) (c0_4 : Nat) (l0_4 : List (S139)) (a1 : Int) (A2 : Option Addr) (c2 : Nat) (l2 : List (S50)) (r1 : ByteArray) (r2 : Int) (w : World) (hr0_1 : Kd.C k105 w A0_1 l0_1.length l0_1) (hc0_1 : l0_1.length ≤ c0_1) (hr0_2 : Kd.C (Kd.int .i64) w A0_2 l0_2.length l0_2) (hc0_2 : l0_2.length ≤ c0_2) (hr0_3 : Kd.C k115 w A0_3 l0_3.length l0_3) (hc0_3 : l0_3.length ≤ c0_3) (hr0_4 : Kd.C k139 w A0_4 l0_4.length l0_4) (hc0_4 : l0_4.length ≤ c0_4) (hr2 : Kd.C k50 w A2 l2.length l2) (hc2 : l2.length ≤ c2) (hG : Glob w) (h : vellumref04_Entry.f k a0_0 l0_1 l0_2 l0_3 l0_4 a1 l2 = some (r1, r2)) :
    Calls Tryd.prog 66 #[.agg #[.string a0_0, .slice A0_1 l0_1.length c0_1, .slice A0_2 l0_2.length c0_2, .slice A0_3 l0_3.length c0_3, .slice A0_4 l0_4.length c0_4], .int .i64 a1, .slice A2 l2.length c2] w fun e w' => e = .returned (.tuple #[.string r1, .int .i64 r2]) ∧ Below w.heap.size w w' := by
  have hu65 := Tryd.underlying65
  have HR0_1 := am hr0_1
  have HC0_1 := am hc0_1
  clear hr0_1 hc0_1
  have HR0_2 := am hr0_2
  have HC0_2 := am hc0_2
  clear hr0_2 hc0_2
  have HR0_3 := am hr0_3
  have HC0_3 := am hc0_3
  clear hr0_3 hc0_3
  have HR0_4 := am hr0_4
  have HC0_4 := am hc0_4
  clear hr0_4 hc0_4
  have HR2 := am hr2
  have HC2 := am hc2
  clear hr2 hc2
  have HG := am hG
  clear hG
  have HB := am (Below.refl w.heap.size w)
  have H : ((vellumref04_Key.f k a0_0 l0_1 l0_2 l0_3 l0_4 l2).bind fun bt1006 => (if bt1006.2 = 0 then (if a1 < 0 then (vellumref04_Entry.j0 k a1 l2 true a0_0 l0_1 l0_2 l0_3 l0_4) else (vellumref04_Entry.j0 k a1 l2 (decide (a1 ≥ (l0_3.length : Int))) a0_0 l0_1 l0_2 l0_3 l0_4)) else (some ((⟨#[]⟩ : ByteArray), bt1006.2)))) = some (r1, r2) := h
  clear h
  replace H := Option.bind_eq_some_iff.mp H
  obtain ⟨⟨t1006, t1007⟩, A40, H⟩ := H
  replace H : (if t1007 = 0 then (if a1 < 0 then (vellumref04_Entry.j0 k a1 l2 true a0_0 l0_1 l0_2 l0_3 l0_4) else (vellumref04_Entry.j0 k a1 l2 (decide (a1 ≥ (l0_3.length : Int))) a0_0 l0_1 l0_2 l0_3 l0_4)) else (some ((⟨#[]⟩ : ByteArray), t1007))) = some (r1, r2) := H
  have A4 := am A40
  clear A40
  by_cases c5 : t1007 = 0
  · rw [if_pos c5] at H
    have c5b0 : (t1007 == 0) = true := beq_iff_eq.mpr c5
    have c5b1 : (t1007 != 0) = false := bne_eq_false_iff_eq.mpr c5
    clear c5
    have HC6 := am H
    clear H
    go_enter Tryd.func66, Tryd.ntmps66
    go_upto_region 4 with (first | ((with_reducible refine gate_dst (N := 3) rfl ?_); (try (refine gate_guard (by rfl) ?_; dsimp only)); refine box_event rfl (N := 3) rfl (cs := #[.string a0_0, .slice A0_1 l0_1.length c0_1, .slice A0_2 l0_2.length c0_2, .slice A0_3 l0_3.length c0_3, .slice A0_4 l0_4.length c0_4]) (t := 65) gs ?_; intro gb1005 hg w7 hbox hb; have BK1005 := am (hbox); have GW1005 := gw hg HB; have GE1005 := gw hg HB; replace HB := sb HB hb; clear hb hbox hg; obtain ⟨Z8_0, Z8_1, Z8_2, Z8_3, Z8_4, Y8_0, Y8_1, Y8_2, Y8_3, Y8_4⟩ := bq5 BK1005) | ((with_reducible refine gate_callee (f := 64) rfl ?_); refine goesL_ (some 13) rfl rfl Tryd.func64 (by kernel_rfl) rfl #[.agg #[.string a0_0, .slice A0_1 l0_1.length c0_1, .slice A0_2 l0_2.length c0_2, .slice A0_3 l0_3.length c0_3, .slice A0_4 l0_4.length c0_4], .slice A2 l2.length c2] rfl ar ?_; (with_reducible refine (vellumref04_Key.calls k a0_0 _ _ l0_1 _ _ l0_2 _ _ l0_3 _ _ l0_4 _ _ l2 t1006 t1007 _ (Kd.cb HR0_1 HB) HC0_1.out (Kd.cb HR0_2 HB) HC0_2.out (Kd.cb HR0_3 HB) HC0_3.out (Kd.cb HR0_4 HB) HC0_4.out (Kd.cb HR2 HB) HC2.out (Glob.below HG.out (bl HB)) A4.out).mono ?_); rintro e w9 ⟨rfl, hb⟩; refine ⟨_, rfl, ?_⟩; replace BK1005 := kb BK1005 hb; replace HB := sb HB hb; (try clear hb); (try clear hb2 hk hi)))
    (try simp only [Act.put, List.setIfInBounds_toArray, List.set_cons_zero, List.set_cons_succ])
    go_cut [27] (fun v27 wc => ∃ (kq : Nat) (x27_5 : Bool), v27 = .bool x27_5 ∧ Aside0 (vellumref04_Entry.j0 kq a1 l2 x27_5 a0_0 l0_1 l0_2 l0_3 l0_4 = some (r1, r2)) ∧ Aside0 (kq ≤ k) ∧ Aside0 (wc.heap[gb1005]? = some (.cells #[.string a0_0, (.slice A0_1 l0_1.length c0_1), (.slice A0_2 l0_2.length c0_2), (.slice A0_3 l0_3.length c0_3), (.slice A0_4 l0_4.length c0_4)] 65 (0, 0))) ∧ Aside0 (Below w.heap.size w wc))
    case first =>
      have H := HC6.out
      clear HC6
      by_cases c10 : a1 < 0
      · rw [if_pos c10] at H
        have c10b0 : decide (a1 < 0) = true := decide_eq_true c10
        clear c10
        (first | rw [c10b0] | (simp only [i64_w, i32_w]; rw [c10b0]) | skip)
        have H' := am H
        clear H
        go_wp2
        go_meet
        case rel => exact ⟨_, (true), eb, H', ⟨by first | omega | exact Nat.le_refl _⟩, ⟨bk BK1005⟩, ⟨bl HB⟩⟩
      · rw [if_neg c10] at H
        have c10b0 : decide (a1 < 0) = false := decide_eq_false c10
        clear c10
        (first | rw [c10b0] | (simp only [i64_w, i32_w]; rw [c10b0]) | skip)
        have H' := am H
        clear H
        obtain ⟨Z11_0, Z11_1, Z11_2, Z11_3, Z11_4, Y11_0, Y11_1, Y11_2, Y11_3, Y11_4⟩ := bq5 BK1005
        go_wp2
        go_meet
        case rel => exact ⟨_, (decide (a1 ≥ (l0_3.length : Int))), eb, H', ⟨by first | omega | exact Nat.le_refl _⟩, ⟨bk BK1005⟩, ⟨bl HB⟩⟩
    case rest =>
      clear HC6
      try clear c1
      try clear c2
      try clear p2
      try clear c5
      try clear c5b0
      try clear c5b1
      try clear c6
      try clear c10
      try clear c10b0
      try clear Z11_0
      try clear Z11_1
      try clear Z11_2
      try clear Z11_3
      try clear Z11_4
      try clear Z8_0
      try clear Z8_1
      try clear Z8_2
      try clear Z8_3
      try clear Z8_4
      try clear Y11_0
      try clear Y11_1
      try clear Y11_2
      try clear Y11_3
      try clear Y11_4
      try clear Y8_0
      try clear Y8_1
      try clear Y8_2
      try clear Y8_3
      try clear Y8_4
      obtain ⟨kq, x27_5, rfl, HA, HJ5, BK1005, HB⟩ := hcut
      cases kq with
      | zero => exact absurd HA.out (by simp [vellumref04_Entry.j0])
      | succ kj5 =>
        have H := HA.out
        clear HA
        simp only [vellumref04_Entry.j0] at H
        by_cases c12 : x27_5 = true
        · subst c12
          have H1 : (some ((⟨#[]⟩ : ByteArray), 5)) = some (r1, r2) := by rw [if_pos rfl] at H; exact H
          clear H
          have H := H1
          clear H1
          simp only [Option.some.injEq, Prod.mk.injEq] at H
          obtain ⟨rfl, rfl⟩ := H
          go_wp2
          go_ret2
          exact ⟨er, bl HB⟩
        · replace c12 := Bool.eq_false_iff.mpr c12
          subst c12
          have H1 : (if 0 ≤ a1 then (if a1 < (l0_3.length : Int) then ((vellumref04_some.f kj5 ((rd_T115 l0_3 a1).f1) l2).bind fun t1009 => ((vellumref04_some.f kj5 l0_2 l2).bind fun t1012 => (if t1009.length + t1012.length < 3518437208883 then ((vellumref02_Encode.f kj5 (t1009 ++ t1012)).bind fun bt1018 => (some (bt1018.1, bt1018.2))) else (none)))) else (none)) else (none)) = some (r1, r2) := by rw [if_neg (show ¬ (false = true) by decide)] at H; exact H
          clear H
          have H := H1
          clear H1
          by_cases c13 : 0 ≤ a1
          · rw [if_pos c13] at H
            have c13b0 : decide (0 ≤ a1) = true := decide_eq_true c13
            clear c13
            by_cases c14 : a1 < (l0_3.length : Int)
            · rw [if_pos c14] at H
              have c14b0 : decide (a1 < (l0_3.length : Int)) = true := decide_eq_true c14
              clear c14
              replace H := Option.bind_eq_some_iff.mp H
              obtain ⟨t1009, A150, H⟩ := H
              replace H : ((vellumref04_some.f kj5 l0_2 l2).bind fun t1012 => (if t1009.length + t1012.length < 3518437208883 then ((vellumref02_Encode.f kj5 (t1009 ++ t1012)).bind fun bt1018 => (some (bt1018.1, bt1018.2))) else (none))) = some (r1, r2) := H
              have A15 := am A150
              clear A150
              replace H := Option.bind_eq_some_iff.mp H
              obtain ⟨t1012, A160, H⟩ := H
              replace H : (if t1009.length + t1012.length < 3518437208883 then ((vellumref02_Encode.f kj5 (t1009 ++ t1012)).bind fun bt1018 => (some (bt1018.1, bt1018.2))) else (none)) = some (r1, r2) := H
              have A16 := am A160
              clear A160
              by_cases c17 : t1009.length + t1012.length < 3518437208883
              · rw [if_pos c17] at H
                have LMc17 := am c17
                clear c17
                obtain ⟨y1015, hy1015⟩ : ∃ y_ : List (S50), y_ = (t1009 ++ t1012) := ⟨_, rfl⟩
                replace H : ((vellumref02_Encode.f kj5 y1015).bind fun bt1018 => (some (bt1018.1, bt1018.2))) = some (r1, r2) := by first | (rw [hy1015]; with_reducible exact H) | (have H2_ := (Option.bind_some _ _).symm.trans H; rw [hy1015]; with_reducible exact H2_) | (have H2_ := (Option.bind_some _ _).symm.trans H; with_reducible exact H2_) | with_reducible exact H | (rw [hy1015]; exact H) | exact H
                have Ny1015 := am hy1015
                clear hy1015
                replace H := Option.bind_eq_some_iff.mp H
                obtain ⟨⟨t1018, t1019⟩, A180, H⟩ := H
                replace H : (some (t1018, t1019)) = some (r1, r2) := H
                have A18 := am A180
                clear A180
                simp only [Option.some.injEq, Prod.mk.injEq] at H
                obtain ⟨rfl, rfl⟩ := H
                try go_wp2
                have n0_ := am (blk_drew BK1005.out)
                have n1_ := am (below_drew1 HB.out)
                clear BK1005
                clear HB
                have BK1005 := n0_
                have HB := n1_
                clear n0_ n1_
                have p1008 : 0 ≤ (a1 : Int) := oda
                have q1008 : a1 < (l0_3.length : Int) := oda
                obtain ⟨ad1008, A1008_1, c1008_1, e1008, hx1008_0, hx1008_1, hx1008_2, hl1008_1, hi1008_1⟩ := at_T115 HR0_3.out a1 p1008 q1008
                have hw1008_2 := hx1008_2
                have hw1008_1 := hx1008_1
                have hw1008_0 := hx1008_0
                cases e1008
                replace hx1008_0 := hc HB hx1008_0
                replace hx1008_1 := hc HB hx1008_1
                replace hx1008_2 := hc HB hx1008_2
                have HR1008_1 := am hi1008_1
                have HC1008_1 := am hl1008_1
                clear hi1008_1 hl1008_1
                replace p1008 := eq_true p1008
                replace q1008 := eq_true q1008
                refine start_ (n := 18) (S := fun w' => w'.cell? ⟨gb1005, 0, none⟩ = some (.string a0_0) ∧ w'.cell? ⟨gb1005, 1, none⟩ = some (.slice A0_1 l0_1.length c0_1) ∧ w'.cell? ⟨gb1005, 2, none⟩ = some (.slice A0_2 l0_2.length c0_2) ∧ w'.cell? ⟨gb1005, 3, none⟩ = some (.slice (some ad1008) l0_3.length c0_3) ∧ w'.cell? ⟨gb1005, 4, none⟩ = some (.slice A0_4 l0_4.length c0_4) ∧ w'.cell? (ad1008.add ((a1).toNat * 3)) = some (.string ((rd_T115 l0_3 a1).f0)) ∧ w'.cell? ⟨(ad1008.add ((a1).toNat * 3)).block, (ad1008.add ((a1).toNat * 3)).off + 1, none⟩ = some (.slice A1008_1 ((rd_T115 l0_3 a1).f1).length c1008_1) ∧ w'.cell? ⟨(ad1008.add ((a1).toNat * 3)).block, (ad1008.add ((a1).toNat * 3)).off + 2, none⟩ = some (.bool ((rd_T115 l0_3 a1).f2))) (ds := []) (bb 0 18) (by kernel_rfl) rfl rfl ⟨(blk_cell BK1005.out 0).trans rfl, (blk_cell BK1005.out 1).trans rfl, (blk_cell BK1005.out 2).trans rfl, (blk_cell BK1005.out 3).trans rfl, (blk_cell BK1005.out 4).trans rfl, (hc HB hw1008_0), (hc HB hw1008_1), (hc HB hw1008_2)⟩ (fun hHeld => ?_); refine with_tabW vellumref04_Entry.tab6 vellumref04_Entry.bits6 (fun HT_ HW_ => ?_)
                generalize wc.drew = w19 at BK1005 HB HR1008_1 hx1008_0 hx1008_1 hx1008_2 hHeld ⊢
                refine pu HT_ 0 (some 28) (bb 1 18) ?_
                refine pu HT_ 2 (some 30) (bs 18 5) ?_
                refine pu HT_ 6 (some 34) (bs 18 69) ?_
                refine pu HT_ 8 (some 36) (bs 18 325) ?_
                refine pu HT_ 10 (some 38) (bs 18 1349) ?_
                refine tk HT_ HW_ hHeld 1 (some 29) (bs 18 1351) ?_
                refine pu HT_ 3 (some 31) (bs 18 1359) ?_
                refine pu HT_ 4 (some 32) (bs 18 1375) ?_
                refine tk HT_ HW_ hHeld 5 (some 33) (bs 18 1407) ?_
                refine tk HT_ HW_ hHeld 9 (some 37) (bs 18 1919) ?_
                refine one_ (i := 7) (N := some 35) (bb 11 18) rfl rfl (one_of HT_.out (by kernel_rfl)) (by decide) (fun K hK => ?_)
                refine goes_ Tryd.func98 (by kernel_rfl) rfl #[.slice A1008_1 ((rd_T115 l0_3 a1).f1).length c1008_1, .slice A2 l2.length c2] (by rfl) rfl rfl ar ?_
                with_reducible refine (vellumref04_some.calls kj5 _ _ ((rd_T115 l0_3 a1).f1) _ _ l2 t1009 _ ?side1 ?side2 ?side3 ?side4 A15.out).mono ?_
                (case side1 => exact Kd.cb HR1008_1 HB)
                (case side2 => exact HC1008_1.out)
                (case side3 => exact Kd.cb HR2 HB)
                (case side4 => exact HC2.out)
                rintro e w20 ⟨v1010, rfl, ho0, hb⟩
                refine ⟨_, rfl, ?_⟩
                have n0_ := am (Kd.R_lower ho0 (below_size (bl HB)))
                have n1_ := kb BK1005 hb
                have n2_ := sb HB hb
                clear BK1005
                clear HB
                have HO1011 := n0_
                have BK1005 := n1_
                have HB := n2_
                clear n0_ n1_ n2_
                (try clear hb)
                (try clear hb2)
                (try clear hk)
                (try clear hi)
                (try clear ho0)
                refine hK.out _ _ ⟨(blk_cell BK1005.out 0).trans rfl, (blk_cell BK1005.out 1).trans rfl, (blk_cell BK1005.out 2).trans rfl, (blk_cell BK1005.out 3).trans rfl, (blk_cell BK1005.out 4).trans rfl, (hc HB hw1008_0), (hc HB hw1008_1), (hc HB hw1008_2)⟩ (fun hHeld => ?_)
                clear hK K
                refine norm_ (a' := ?_) ?_ ?_
                rotate_left
                · show Act.put _ (some 35) _ = _
                  simp only [Act.put, List.setIfInBounds_toArray, List.set_cons_zero, List.set_cons_succ, i64_w, i32_w]
                  rfl
                refine one_ (i := 11) (N := some 39) (bb 12 18) rfl rfl (one_of HT_.out (by kernel_rfl)) (by decide) (fun K hK => ?_)
                refine goes_ Tryd.func98 (by kernel_rfl) rfl #[.slice A0_2 l0_2.length c0_2, .slice A2 l2.length c2] (by rfl) rfl rfl ar ?_
                with_reducible refine (vellumref04_some.calls kj5 _ _ l0_2 _ _ l2 t1012 _ ?side1 ?side2 ?side3 ?side4 A16.out).mono ?_
                (case side1 => exact Kd.cb HR0_2 HB)
                (case side2 => exact HC0_2.out)
                (case side3 => exact Kd.cb HR2 HB)
                (case side4 => exact HC2.out)
                rintro e w21 ⟨v1013, rfl, ho0, hb⟩
                refine ⟨_, rfl, ?_⟩
                have n0_ := am (Kd.R_elder' (Kd.rr HO1011.out) (Kd.R_base ho0) hb)
                have n1_ := am (Kd.R_lower (Kd.R_new' ho0 (Kd.R_lt (Kd.rr HO1011.out))) (below_size (bl HB)))
                have n2_ := kb BK1005 hb
                have n3_ := sb HB hb
                clear HO1011
                clear BK1005
                clear HB
                have HO1011 := n0_
                have HO1014 := n1_
                have BK1005 := n2_
                have HB := n3_
                clear n0_ n1_ n2_ n3_
                (try clear hb)
                (try clear hb2)
                (try clear hk)
                (try clear hi)
                (try clear ho0)
                obtain ⟨Ao23, co23, eo23⟩ := Kd.R_slice HO1014.out
                (first | subst eo23 | (injection eo23 with f1_ f2_ f3_; have f4_ := f1_.symm; have f5_ := f3_.symm; clear f1_ f2_ f3_; subst f4_; subst f5_))
                refine hK.out _ _ ⟨(blk_cell BK1005.out 0).trans rfl, (blk_cell BK1005.out 1).trans rfl, (blk_cell BK1005.out 2).trans rfl, (blk_cell BK1005.out 3).trans rfl, (blk_cell BK1005.out 4).trans rfl, (hc HB hw1008_0), (hc HB hw1008_1), (hc HB hw1008_2)⟩ (fun hHeld => ?_)
                clear hK K
                refine norm_ (a' := ?_) ?_ ?_
                rotate_left
                · show Act.put _ (some 39) _ = _
                  simp only [Act.put, List.setIfInBounds_toArray, List.set_cons_zero, List.set_cons_succ, i64_w, i32_w]
                  rfl
                refine one_ (i := 12) (N := some 40) (bb 13 18) rfl rfl (one_of HT_.out (by kernel_rfl)) (by decide) (fun K hK => ?_)
                refine Kd.R_append_rows_step k50 (w0 := w) w.heap.size (by rfl) (.tmp 35) (.tmp 39) 22 50 (.agg #[(.int .i64 0), (.int .i64 0), (.float .f64 0), (.string ⟨#[]⟩)]) 40 rfl Tryd.underlying22 info50 rfl (by decide) (by omega) v1010 t1009 t1012 _ _ _ (fun k_ => some k_ ≠ (.slice Ao23 t1012.length co23 : Value).ownBlock) (fun _ => False) rfl rfl ?aO ?aR (fun _ _ h => h) (fun _ h => h.elim) ?aF ?aB ?aS ?aL ?_
                (case aR => repeat (first | exact (Kd.R_reads' HO1014.out).2.2 | (with_reducible refine Kd.C_alloc ?_ _) | (with_reducible refine Kd.C_drewN ?_ _) | (with_reducible refine Kd.C_drew ?_)))
                (case aB => exact (bl HB))
                (case aF => exact (fun k_ hk => Kd.fresh' (Kd.R_lt (Kd.rr HO1014.out)) k_ hk))
                (case aO => exact (by (with_reducible repeat (first | apply Kd.R_alloc | apply Kd.R_drewN | apply Kd.R_drew)); exact Kd.R_mono HO1011.out (fun _ hk => hk.2)))
                (case aS => exact (below_size (bl HB)))
                (case aL => have := LMc17.out; omega)
                intro v1016 w22 ho hb hg hat
                rw [← Ny1015.out] at ho
                have n0_ := am (blk_grown (g := gb1005) (o := .cells #[.string a0_0, .slice A0_1 l0_1.length c0_1, .slice A0_2 l0_2.length c0_2, .slice (some ad1008) l0_3.length c0_3, .slice A0_4 l0_4.length c0_4] 65 (0, 0)) (bk BK1005) hg (Kd.R_ne HO1011.out BK1005.out (by decide)))
                have n1_ := am (Kd.R_after (ok := (fun _ => True)) (Kd.rr HO1014.out) hg hat)
                have n2_ := am (hb)
                have n3_ := am (ho)
                clear BK1005
                clear HO1014
                clear HB
                clear HO1011
                have BK1005 := n0_
                have HO1014 := n1_
                have HB := n2_
                have HO1017 := n3_
                clear n0_ n1_ n2_ n3_
                clear ho hb hg hat
                obtain ⟨Ao24, co24, eo24⟩ := Kd.R_slice HO1017.out
                (first | subst eo24 | (injection eo24 with f1_ f2_ f3_; have f4_ := f1_.symm; have f5_ := f3_.symm; clear f1_ f2_ f3_; subst f4_; subst f5_))
                refine hK.out _ _ ⟨(blk_cell BK1005.out 0).trans rfl, (blk_cell BK1005.out 1).trans rfl, (blk_cell BK1005.out 2).trans rfl, (blk_cell BK1005.out 3).trans rfl, (blk_cell BK1005.out 4).trans rfl, (hc HB hw1008_0), (hc HB hw1008_1), (hc HB hw1008_2)⟩ (fun hHeld => ?_)
                clear hK K
                refine norm_ (a' := ?_) ?_ ?_
                rotate_left
                · show Act.put _ (some 40) _ = _
                  simp only [Act.put, List.setIfInBounds_toArray, List.set_cons_zero, List.set_cons_succ, i64_w, i32_w]
                  rfl
                refine one_ (i := 13) (N := some 41) (bb 14 18) rfl rfl (one_of HT_.out (by kernel_rfl)) (by decide) (fun K hK => ?_)
                refine goes_ Tryd.func22 (by kernel_rfl) rfl #[.slice Ao24 y1015.length co24] (by rfl) rfl rfl ar ?_
                with_reducible refine (vellumref02_Encode.calls kj5 _ _ y1015 t1018 t1019 _ ?side1 ?side2 ?side3 A18.out).mono ?_
                (case side1 => repeat (first | exact (Kd.R_reads' HO1017.out).2.2 | (with_reducible refine Kd.C_alloc ?_ _) | (with_reducible refine Kd.C_drewN ?_ _) | (with_reducible refine Kd.C_drew ?_)))
                (case side2 => exact (Kd.R_reads' HO1017.out).2.1)
                (case side3 => exact Glob.below HG.out (bl HB))
                rintro e w25 ⟨rfl, hb⟩
                refine ⟨_, rfl, ?_⟩
                have n0_ := am (Kd.R_below (Kd.rr HO1014.out) hb)
                have n1_ := am (Kd.R_below (Kd.rr HO1017.out) hb)
                have n2_ := kb BK1005 hb
                have n3_ := sb HB hb
                clear HO1014
                clear HO1017
                clear BK1005
                clear HB
                have HO1014 := n0_
                have HO1017 := n1_
                have BK1005 := n2_
                have HB := n3_
                clear n0_ n1_ n2_ n3_
                (try clear hb)
                (try clear hb2)
                (try clear hk)
                (try clear hi)
                refine hK.out _ _ ⟨(blk_cell BK1005.out 0).trans rfl, (blk_cell BK1005.out 1).trans rfl, (blk_cell BK1005.out 2).trans rfl, (blk_cell BK1005.out 3).trans rfl, (blk_cell BK1005.out 4).trans rfl, (hc HB hw1008_0), (hc HB hw1008_1), (hc HB hw1008_2)⟩ (fun hHeld => ?_)
                clear hK K
                refine norm_ (a' := ?_) ?_ ?_
                rotate_left
                · show Act.put _ (some 41) _ = _
                  simp only [Act.put, List.setIfInBounds_toArray, List.set_cons_zero, List.set_cons_succ, i64_w, i32_w]
                  rfl
                refine pu HT_ 14 (some 42) (bb 15 18) ?_
                refine pu HT_ 15 (some 43) (bb 16 18) ?_
                refine pu HT_ 16 (some 6) (bb 17 18) ?_
                refine pu HT_ 17 (some 7) (bb 18 18) ?_
                refine done_ (done_of HT_.out (by kernel_rfl)) ?_
                try go_wp2
                go_ret2
                exact ⟨er, bl HB⟩
              · rw [if_neg c17] at H
                exact absurd H (by simp)
            · rw [if_neg c14] at H
              exact absurd H (by simp)
          · rw [if_neg c13] at H
            exact absurd H (by simp)
  · rw [if_neg c5] at H
    have c5b0 : (t1007 == 0) = false := beq_eq_false_iff_ne.mpr c5
    have c5b1 : (t1007 != 0) = true := bne_iff_ne.mpr c5
    simp only [Option.some.injEq, Prod.mk.injEq] at H
    obtain ⟨rfl, rfl⟩ := H
    go_enter Tryd.func66, Tryd.ntmps66
    go_wp2_with (first | ((with_reducible refine gate_dst (N := 3) rfl ?_); (try (refine gate_guard (by rfl) ?_; dsimp only)); refine box_event rfl (N := 3) rfl (cs := #[.string a0_0, .slice A0_1 l0_1.length c0_1, .slice A0_2 l0_2.length c0_2, .slice A0_3 l0_3.length c0_3, .slice A0_4 l0_4.length c0_4]) (t := 65) gs ?_; intro gb1005 hg w26 hbox hb; have BK1005 := am (hbox); have GW1005 := gw hg HB; have GE1005 := gw hg HB; replace HB := sb HB hb; clear hb hbox hg; obtain ⟨Z27_0, Z27_1, Z27_2, Z27_3, Z27_4, Y27_0, Y27_1, Y27_2, Y27_3, Y27_4⟩ := bq5 BK1005) | ((with_reducible refine gate_callee (f := 64) rfl ?_); refine goesL_ (some 13) rfl rfl Tryd.func64 (by kernel_rfl) rfl #[.agg #[.string a0_0, .slice A0_1 l0_1.length c0_1, .slice A0_2 l0_2.length c0_2, .slice A0_3 l0_3.length c0_3, .slice A0_4 l0_4.length c0_4], .slice A2 l2.length c2] rfl ar ?_; (with_reducible refine (vellumref04_Key.calls k a0_0 _ _ l0_1 _ _ l0_2 _ _ l0_3 _ _ l0_4 _ _ l2 t1006 t1007 _ (Kd.cb HR0_1 HB) HC0_1.out (Kd.cb HR0_2 HB) HC0_2.out (Kd.cb HR0_3 HB) HC0_3.out (Kd.cb HR0_4 HB) HC0_4.out (Kd.cb HR2 HB) HC2.out (Glob.below HG.out (bl HB)) A4.out).mono ?_); rintro e w28 ⟨rfl, hb⟩; refine ⟨_, rfl, ?_⟩; replace BK1005 := kb BK1005 hb; replace HB := sb HB hb; (try clear hb); (try clear hb2 hk hi)))
    go_ret2
    exact ⟨er, bl HB⟩
def vellumlaw04_RowKeys.f (k : Nat) (a0_0 : ByteArray) (l0_1 : List (S105)) (l0_2 : List Int) (l0_3 : List (S115)) (l0_4 : List (S139)) (l1 : List (S50)) (a2 : Int) : Option (Bool) := (row_Key.f k a0_0 l0_1 l0_2 l0_3 l0_4 l1).bind fun bt1021 => ((vellumref04_Key.f k a0_0 l0_1 l0_2 l0_3 l0_4 l1).bind fun bt1023 => ((row_Entry.f k a0_0 l0_1 l0_2 l0_3 l0_4 a2 l1).bind fun bt1025 => ((vellumref04_Entry.f k a0_0 l0_1 l0_2 l0_3 l0_4 a2 l1).bind fun bt1027 => (if bt1021.1.toList = bt1023.1.toList then (if bt1021.2 = bt1023.2 then (if bt1025.1.toList = bt1027.1.toList then (if bt1025.2 = bt1027.2 then ((vellumlaw04_awake.f k).bind fun t1029 => (some t1029)) else (some false)) else (some false)) else (some false)) else (some false)))))
set_option maxHeartbeats 8000000 in
set_option maxRecDepth 100000 in
theorem vellumlaw04_RowKeys.calls (k : Nat) (a0_0 : ByteArray) (A0_1 : Option Addr) (c0_1 : Nat) (l0_1 : List (S105)) (A0_2 : Option Addr) (c0_2 : Nat) (l0_2 : List Int) (A0_3 : Option Addr) (c0_3 : Nat) (l0_3 : List (S115)) (A0_4 : Option Addr) (c0_4 : Nat) (l0_4 : List (S139)) (A1 : Option Addr) (c1 : Nat) (l1 : List (S50)) (a2 : Int) (r : Bool) (w : World) (hr0_1 : Kd.C k105 w A0_1 l0_1.length l0_1) (hc0_1 : l0_1.length ≤ c0_1) (hr0_2 : Kd.C (Kd.int .i64) w A0_2 l0_2.length l0_2) (hc0_2 : l0_2.length ≤ c0_2) (hr0_3 : Kd.C k115 w A0_3 l0_3.length l0_3) (hc0_3 : l0_3.length ≤ c0_3) (hr0_4 : Kd.C k139 w A0_4 l0_4.length l0_4) (hc0_4 : l0_4.length ≤ c0_4) (hr1 : Kd.C k50 w A1 l1.length l1) (hc1 : l1.length ≤ c1) (hG : Glob w) (h : vellumlaw04_RowKeys.f k a0_0 l0_1 l0_2 l0_3 l0_4 l1 a2 = some r) :
    Calls Tryd.prog 20 #[.agg #[.string a0_0, .slice A0_1 l0_1.length c0_1, .slice A0_2 l0_2.length c0_2, .slice A0_3 l0_3.length c0_3, .slice A0_4 l0_4.length c0_4], .slice A1 l1.length c1, .int .i64 a2] w fun e w' => e = .returned (.bool r) ∧ Below w.heap.size w w' := by
  have hu65 := Tryd.underlying65
  have HR0_1 := am hr0_1
  have HC0_1 := am hc0_1
  clear hr0_1 hc0_1
  have HR0_2 := am hr0_2
  have HC0_2 := am hc0_2
  clear hr0_2 hc0_2
  have HR0_3 := am hr0_3
  have HC0_3 := am hc0_3
  clear hr0_3 hc0_3
  have HR0_4 := am hr0_4
  have HC0_4 := am hc0_4
  clear hr0_4 hc0_4
  have HR1 := am hr1
  have HC1 := am hc1
  clear hr1 hc1
  have HG := am hG
  clear hG
  have HB := am (Below.refl w.heap.size w)
  have H : ((row_Key.f k a0_0 l0_1 l0_2 l0_3 l0_4 l1).bind fun bt1021 => ((vellumref04_Key.f k a0_0 l0_1 l0_2 l0_3 l0_4 l1).bind fun bt1023 => ((row_Entry.f k a0_0 l0_1 l0_2 l0_3 l0_4 a2 l1).bind fun bt1025 => ((vellumref04_Entry.f k a0_0 l0_1 l0_2 l0_3 l0_4 a2 l1).bind fun bt1027 => (if bt1021.1.toList = bt1023.1.toList then (if bt1021.2 = bt1023.2 then (if bt1025.1.toList = bt1027.1.toList then (if bt1025.2 = bt1027.2 then ((vellumlaw04_awake.f k).bind fun t1029 => (some t1029)) else (some false)) else (some false)) else (some false)) else (some false)))))) = some r := h
  clear h
  replace H := Option.bind_eq_some_iff.mp H
  obtain ⟨⟨t1021, t1022⟩, A40, H⟩ := H
  replace H : ((vellumref04_Key.f k a0_0 l0_1 l0_2 l0_3 l0_4 l1).bind fun bt1023 => ((row_Entry.f k a0_0 l0_1 l0_2 l0_3 l0_4 a2 l1).bind fun bt1025 => ((vellumref04_Entry.f k a0_0 l0_1 l0_2 l0_3 l0_4 a2 l1).bind fun bt1027 => (if t1021.toList = bt1023.1.toList then (if t1022 = bt1023.2 then (if bt1025.1.toList = bt1027.1.toList then (if bt1025.2 = bt1027.2 then ((vellumlaw04_awake.f k).bind fun t1029 => (some t1029)) else (some false)) else (some false)) else (some false)) else (some false))))) = some r := H
  have A4 := am A40
  clear A40
  replace H := Option.bind_eq_some_iff.mp H
  obtain ⟨⟨t1023, t1024⟩, A50, H⟩ := H
  replace H : ((row_Entry.f k a0_0 l0_1 l0_2 l0_3 l0_4 a2 l1).bind fun bt1025 => ((vellumref04_Entry.f k a0_0 l0_1 l0_2 l0_3 l0_4 a2 l1).bind fun bt1027 => (if t1021.toList = t1023.toList then (if t1022 = t1024 then (if bt1025.1.toList = bt1027.1.toList then (if bt1025.2 = bt1027.2 then ((vellumlaw04_awake.f k).bind fun t1029 => (some t1029)) else (some false)) else (some false)) else (some false)) else (some false)))) = some r := H
  have A5 := am A50
  clear A50
  replace H := Option.bind_eq_some_iff.mp H
  obtain ⟨⟨t1025, t1026⟩, A60, H⟩ := H
  replace H : ((vellumref04_Entry.f k a0_0 l0_1 l0_2 l0_3 l0_4 a2 l1).bind fun bt1027 => (if t1021.toList = t1023.toList then (if t1022 = t1024 then (if t1025.toList = bt1027.1.toList then (if t1026 = bt1027.2 then ((vellumlaw04_awake.f k).bind fun t1029 => (some t1029)) else (some false)) else (some false)) else (some false)) else (some false))) = some r := H
  have A6 := am A60
  clear A60
  replace H := Option.bind_eq_some_iff.mp H
  obtain ⟨⟨t1027, t1028⟩, A70, H⟩ := H
  replace H : (if t1021.toList = t1023.toList then (if t1022 = t1024 then (if t1025.toList = t1027.toList then (if t1026 = t1028 then ((vellumlaw04_awake.f k).bind fun t1029 => (some t1029)) else (some false)) else (some false)) else (some false)) else (some false)) = some r := H
  have A7 := am A70
  clear A70
  by_cases c8 : t1021.toList = t1023.toList
  · rw [if_pos c8] at H
    have c8b0 : (t1021.toList == t1023.toList) = true := beq_iff_eq.mpr c8
    have c8b1 : (t1021.toList != t1023.toList) = false := bne_eq_false_iff_eq.mpr c8
    clear c8
    by_cases c9 : t1022 = t1024
    · rw [if_pos c9] at H
      have c9b0 : (t1022 == t1024) = true := beq_iff_eq.mpr c9
      have c9b1 : (t1022 != t1024) = false := bne_eq_false_iff_eq.mpr c9
      clear c9
      by_cases c10 : t1025.toList = t1027.toList
      · rw [if_pos c10] at H
        have c10b0 : (t1025.toList == t1027.toList) = true := beq_iff_eq.mpr c10
        have c10b1 : (t1025.toList != t1027.toList) = false := bne_eq_false_iff_eq.mpr c10
        clear c10
        by_cases c11 : t1026 = t1028
        · rw [if_pos c11] at H
          have c11b0 : (t1026 == t1028) = true := beq_iff_eq.mpr c11
          have c11b1 : (t1026 != t1028) = false := bne_eq_false_iff_eq.mpr c11
          clear c11
          replace H := Option.bind_eq_some_iff.mp H
          obtain ⟨t1029, A120, H⟩ := H
          replace H : (some t1029) = some r := H
          have A12 := am A120
          clear A120
          obtain rfl := Option.some.inj H
          go_enter Tryd.func20, Tryd.ntmps20
          go_wp2_with (first | ((with_reducible refine gate_dst (N := 3) rfl ?_); refine box_event rfl (N := 3) rfl (cs := #[.string a0_0, .slice A0_1 l0_1.length c0_1, .slice A0_2 l0_2.length c0_2, .slice A0_3 l0_3.length c0_3, .slice A0_4 l0_4.length c0_4]) (t := 65) gs ?_; intro gb1020 hg w13 hbox hb; have BK1020 := am (hbox); have GW1020 := gw hg HB; have GE1020 := gw hg HB; replace HB := sb HB hb; clear hb hbox hg; obtain ⟨Z14_0, Z14_1, Z14_2, Z14_3, Z14_4, Y14_0, Y14_1, Y14_2, Y14_3, Y14_4⟩ := bq5 BK1020) | ((with_reducible refine gate_callee (f := 63) rfl ?_); refine goesL_ (some 18) rfl rfl Tryd.func63 (by kernel_rfl) rfl #[.agg #[.string a0_0, .slice A0_1 l0_1.length c0_1, .slice A0_2 l0_2.length c0_2, .slice A0_3 l0_3.length c0_3, .slice A0_4 l0_4.length c0_4], .slice A1 l1.length c1] rfl ar ?_; (with_reducible refine (row_Key.calls k a0_0 _ _ l0_1 _ _ l0_2 _ _ l0_3 _ _ l0_4 _ _ l1 t1021 t1022 _ (Kd.cb HR0_1 HB) HC0_1.out (Kd.cb HR0_2 HB) HC0_2.out (Kd.cb HR0_3 HB) HC0_3.out (Kd.cb HR0_4 HB) HC0_4.out (Kd.cb HR1 HB) HC1.out (Glob.below HG.out (bl HB)) A4.out).mono ?_); rintro e w15 ⟨rfl, hb⟩; refine ⟨_, rfl, ?_⟩; replace BK1020 := kb BK1020 hb; replace HB := sb HB hb; (try clear hb); (try clear hb2 hk hi); obtain ⟨Z16_0, Z16_1, Z16_2, Z16_3, Z16_4, Y16_0, Y16_1, Y16_2, Y16_3, Y16_4⟩ := bq5 BK1020) | ((with_reducible refine gate_callee (f := 64) rfl ?_); refine goesL_ (some 24) rfl rfl Tryd.func64 (by kernel_rfl) rfl #[.agg #[.string a0_0, .slice A0_1 l0_1.length c0_1, .slice A0_2 l0_2.length c0_2, .slice A0_3 l0_3.length c0_3, .slice A0_4 l0_4.length c0_4], .slice A1 l1.length c1] rfl ar ?_; (with_reducible refine (vellumref04_Key.calls k a0_0 _ _ l0_1 _ _ l0_2 _ _ l0_3 _ _ l0_4 _ _ l1 t1023 t1024 _ (Kd.cb HR0_1 HB) HC0_1.out (Kd.cb HR0_2 HB) HC0_2.out (Kd.cb HR0_3 HB) HC0_3.out (Kd.cb HR0_4 HB) HC0_4.out (Kd.cb HR1 HB) HC1.out (Glob.below HG.out (bl HB)) A5.out).mono ?_); rintro e w17 ⟨rfl, hb⟩; refine ⟨_, rfl, ?_⟩; replace BK1020 := kb BK1020 hb; replace HB := sb HB hb; (try clear hb); (try clear hb2 hk hi); obtain ⟨Z18_0, Z18_1, Z18_2, Z18_3, Z18_4, Y18_0, Y18_1, Y18_2, Y18_3, Y18_4⟩ := bq5 BK1020) | ((with_reducible refine gate_callee (f := 65) rfl ?_); refine goesL_ (some 31) rfl rfl Tryd.func65 (by kernel_rfl) rfl #[.agg #[.string a0_0, .slice A0_1 l0_1.length c0_1, .slice A0_2 l0_2.length c0_2, .slice A0_3 l0_3.length c0_3, .slice A0_4 l0_4.length c0_4], .int .i64 a2, .slice A1 l1.length c1] rfl ar ?_; (with_reducible refine (row_Entry.calls k a0_0 _ _ l0_1 _ _ l0_2 _ _ l0_3 _ _ l0_4 a2 _ _ l1 t1025 t1026 _ (Kd.cb HR0_1 HB) HC0_1.out (Kd.cb HR0_2 HB) HC0_2.out (Kd.cb HR0_3 HB) HC0_3.out (Kd.cb HR0_4 HB) HC0_4.out (Kd.cb HR1 HB) HC1.out (Glob.below HG.out (bl HB)) A6.out).mono ?_); rintro e w19 ⟨rfl, hb⟩; refine ⟨_, rfl, ?_⟩; replace BK1020 := kb BK1020 hb; replace HB := sb HB hb; (try clear hb); (try clear hb2 hk hi); obtain ⟨Z20_0, Z20_1, Z20_2, Z20_3, Z20_4, Y20_0, Y20_1, Y20_2, Y20_3, Y20_4⟩ := bq5 BK1020) | ((with_reducible refine gate_callee (f := 66) rfl ?_); refine goesL_ (some 38) rfl rfl Tryd.func66 (by kernel_rfl) rfl #[.agg #[.string a0_0, .slice A0_1 l0_1.length c0_1, .slice A0_2 l0_2.length c0_2, .slice A0_3 l0_3.length c0_3, .slice A0_4 l0_4.length c0_4], .int .i64 a2, .slice A1 l1.length c1] rfl ar ?_; (with_reducible refine (vellumref04_Entry.calls k a0_0 _ _ l0_1 _ _ l0_2 _ _ l0_3 _ _ l0_4 a2 _ _ l1 t1027 t1028 _ (Kd.cb HR0_1 HB) HC0_1.out (Kd.cb HR0_2 HB) HC0_2.out (Kd.cb HR0_3 HB) HC0_3.out (Kd.cb HR0_4 HB) HC0_4.out (Kd.cb HR1 HB) HC1.out (Glob.below HG.out (bl HB)) A7.out).mono ?_); rintro e w21 ⟨rfl, hb⟩; refine ⟨_, rfl, ?_⟩; replace BK1020 := kb BK1020 hb; replace HB := sb HB hb; (try clear hb); (try clear hb2 hk hi)) | (go_at_call 54; (with_reducible refine (vellumlaw04_awake.calls k  t1029 _ (Glob.below HG.out (bl HB)) A12.out).mono ?_); rintro e w22 ⟨rfl, hb⟩; replace BK1020 := kb BK1020 hb; replace HB := sb HB hb; (try clear hb); (try clear hb2 hk hi)))
          go_ret
          exact ⟨er, bl HB⟩
        · rw [if_neg c11] at H
          have c11b0 : (t1026 == t1028) = false := beq_eq_false_iff_ne.mpr c11
          have c11b1 : (t1026 != t1028) = true := bne_iff_ne.mpr c11
          obtain rfl := Option.some.inj H
          go_enter Tryd.func20, Tryd.ntmps20
          go_wp2_with (first | ((with_reducible refine gate_dst (N := 3) rfl ?_); refine box_event rfl (N := 3) rfl (cs := #[.string a0_0, .slice A0_1 l0_1.length c0_1, .slice A0_2 l0_2.length c0_2, .slice A0_3 l0_3.length c0_3, .slice A0_4 l0_4.length c0_4]) (t := 65) gs ?_; intro gb1020 hg w23 hbox hb; have BK1020 := am (hbox); have GW1020 := gw hg HB; have GE1020 := gw hg HB; replace HB := sb HB hb; clear hb hbox hg; obtain ⟨Z24_0, Z24_1, Z24_2, Z24_3, Z24_4, Y24_0, Y24_1, Y24_2, Y24_3, Y24_4⟩ := bq5 BK1020) | ((with_reducible refine gate_callee (f := 63) rfl ?_); refine goesL_ (some 18) rfl rfl Tryd.func63 (by kernel_rfl) rfl #[.agg #[.string a0_0, .slice A0_1 l0_1.length c0_1, .slice A0_2 l0_2.length c0_2, .slice A0_3 l0_3.length c0_3, .slice A0_4 l0_4.length c0_4], .slice A1 l1.length c1] rfl ar ?_; (with_reducible refine (row_Key.calls k a0_0 _ _ l0_1 _ _ l0_2 _ _ l0_3 _ _ l0_4 _ _ l1 t1021 t1022 _ (Kd.cb HR0_1 HB) HC0_1.out (Kd.cb HR0_2 HB) HC0_2.out (Kd.cb HR0_3 HB) HC0_3.out (Kd.cb HR0_4 HB) HC0_4.out (Kd.cb HR1 HB) HC1.out (Glob.below HG.out (bl HB)) A4.out).mono ?_); rintro e w25 ⟨rfl, hb⟩; refine ⟨_, rfl, ?_⟩; replace BK1020 := kb BK1020 hb; replace HB := sb HB hb; (try clear hb); (try clear hb2 hk hi); obtain ⟨Z26_0, Z26_1, Z26_2, Z26_3, Z26_4, Y26_0, Y26_1, Y26_2, Y26_3, Y26_4⟩ := bq5 BK1020) | ((with_reducible refine gate_callee (f := 64) rfl ?_); refine goesL_ (some 24) rfl rfl Tryd.func64 (by kernel_rfl) rfl #[.agg #[.string a0_0, .slice A0_1 l0_1.length c0_1, .slice A0_2 l0_2.length c0_2, .slice A0_3 l0_3.length c0_3, .slice A0_4 l0_4.length c0_4], .slice A1 l1.length c1] rfl ar ?_; (with_reducible refine (vellumref04_Key.calls k a0_0 _ _ l0_1 _ _ l0_2 _ _ l0_3 _ _ l0_4 _ _ l1 t1023 t1024 _ (Kd.cb HR0_1 HB) HC0_1.out (Kd.cb HR0_2 HB) HC0_2.out (Kd.cb HR0_3 HB) HC0_3.out (Kd.cb HR0_4 HB) HC0_4.out (Kd.cb HR1 HB) HC1.out (Glob.below HG.out (bl HB)) A5.out).mono ?_); rintro e w27 ⟨rfl, hb⟩; refine ⟨_, rfl, ?_⟩; replace BK1020 := kb BK1020 hb; replace HB := sb HB hb; (try clear hb); (try clear hb2 hk hi); obtain ⟨Z28_0, Z28_1, Z28_2, Z28_3, Z28_4, Y28_0, Y28_1, Y28_2, Y28_3, Y28_4⟩ := bq5 BK1020) | ((with_reducible refine gate_callee (f := 65) rfl ?_); refine goesL_ (some 31) rfl rfl Tryd.func65 (by kernel_rfl) rfl #[.agg #[.string a0_0, .slice A0_1 l0_1.length c0_1, .slice A0_2 l0_2.length c0_2, .slice A0_3 l0_3.length c0_3, .slice A0_4 l0_4.length c0_4], .int .i64 a2, .slice A1 l1.length c1] rfl ar ?_; (with_reducible refine (row_Entry.calls k a0_0 _ _ l0_1 _ _ l0_2 _ _ l0_3 _ _ l0_4 a2 _ _ l1 t1025 t1026 _ (Kd.cb HR0_1 HB) HC0_1.out (Kd.cb HR0_2 HB) HC0_2.out (Kd.cb HR0_3 HB) HC0_3.out (Kd.cb HR0_4 HB) HC0_4.out (Kd.cb HR1 HB) HC1.out (Glob.below HG.out (bl HB)) A6.out).mono ?_); rintro e w29 ⟨rfl, hb⟩; refine ⟨_, rfl, ?_⟩; replace BK1020 := kb BK1020 hb; replace HB := sb HB hb; (try clear hb); (try clear hb2 hk hi); obtain ⟨Z30_0, Z30_1, Z30_2, Z30_3, Z30_4, Y30_0, Y30_1, Y30_2, Y30_3, Y30_4⟩ := bq5 BK1020) | ((with_reducible refine gate_callee (f := 66) rfl ?_); refine goesL_ (some 38) rfl rfl Tryd.func66 (by kernel_rfl) rfl #[.agg #[.string a0_0, .slice A0_1 l0_1.length c0_1, .slice A0_2 l0_2.length c0_2, .slice A0_3 l0_3.length c0_3, .slice A0_4 l0_4.length c0_4], .int .i64 a2, .slice A1 l1.length c1] rfl ar ?_; (with_reducible refine (vellumref04_Entry.calls k a0_0 _ _ l0_1 _ _ l0_2 _ _ l0_3 _ _ l0_4 a2 _ _ l1 t1027 t1028 _ (Kd.cb HR0_1 HB) HC0_1.out (Kd.cb HR0_2 HB) HC0_2.out (Kd.cb HR0_3 HB) HC0_3.out (Kd.cb HR0_4 HB) HC0_4.out (Kd.cb HR1 HB) HC1.out (Glob.below HG.out (bl HB)) A7.out).mono ?_); rintro e w31 ⟨rfl, hb⟩; refine ⟨_, rfl, ?_⟩; replace BK1020 := kb BK1020 hb; replace HB := sb HB hb; (try clear hb); (try clear hb2 hk hi)))
          go_ret
          exact ⟨er, bl HB⟩
      · rw [if_neg c10] at H
        have c10b0 : (t1025.toList == t1027.toList) = false := beq_eq_false_iff_ne.mpr c10
        have c10b1 : (t1025.toList != t1027.toList) = true := bne_iff_ne.mpr c10
        obtain rfl := Option.some.inj H
        go_enter Tryd.func20, Tryd.ntmps20
        go_wp2_with (first | ((with_reducible refine gate_dst (N := 3) rfl ?_); refine box_event rfl (N := 3) rfl (cs := #[.string a0_0, .slice A0_1 l0_1.length c0_1, .slice A0_2 l0_2.length c0_2, .slice A0_3 l0_3.length c0_3, .slice A0_4 l0_4.length c0_4]) (t := 65) gs ?_; intro gb1020 hg w32 hbox hb; have BK1020 := am (hbox); have GW1020 := gw hg HB; have GE1020 := gw hg HB; replace HB := sb HB hb; clear hb hbox hg; obtain ⟨Z33_0, Z33_1, Z33_2, Z33_3, Z33_4, Y33_0, Y33_1, Y33_2, Y33_3, Y33_4⟩ := bq5 BK1020) | ((with_reducible refine gate_callee (f := 63) rfl ?_); refine goesL_ (some 18) rfl rfl Tryd.func63 (by kernel_rfl) rfl #[.agg #[.string a0_0, .slice A0_1 l0_1.length c0_1, .slice A0_2 l0_2.length c0_2, .slice A0_3 l0_3.length c0_3, .slice A0_4 l0_4.length c0_4], .slice A1 l1.length c1] rfl ar ?_; (with_reducible refine (row_Key.calls k a0_0 _ _ l0_1 _ _ l0_2 _ _ l0_3 _ _ l0_4 _ _ l1 t1021 t1022 _ (Kd.cb HR0_1 HB) HC0_1.out (Kd.cb HR0_2 HB) HC0_2.out (Kd.cb HR0_3 HB) HC0_3.out (Kd.cb HR0_4 HB) HC0_4.out (Kd.cb HR1 HB) HC1.out (Glob.below HG.out (bl HB)) A4.out).mono ?_); rintro e w34 ⟨rfl, hb⟩; refine ⟨_, rfl, ?_⟩; replace BK1020 := kb BK1020 hb; replace HB := sb HB hb; (try clear hb); (try clear hb2 hk hi); obtain ⟨Z35_0, Z35_1, Z35_2, Z35_3, Z35_4, Y35_0, Y35_1, Y35_2, Y35_3, Y35_4⟩ := bq5 BK1020) | ((with_reducible refine gate_callee (f := 64) rfl ?_); refine goesL_ (some 24) rfl rfl Tryd.func64 (by kernel_rfl) rfl #[.agg #[.string a0_0, .slice A0_1 l0_1.length c0_1, .slice A0_2 l0_2.length c0_2, .slice A0_3 l0_3.length c0_3, .slice A0_4 l0_4.length c0_4], .slice A1 l1.length c1] rfl ar ?_; (with_reducible refine (vellumref04_Key.calls k a0_0 _ _ l0_1 _ _ l0_2 _ _ l0_3 _ _ l0_4 _ _ l1 t1023 t1024 _ (Kd.cb HR0_1 HB) HC0_1.out (Kd.cb HR0_2 HB) HC0_2.out (Kd.cb HR0_3 HB) HC0_3.out (Kd.cb HR0_4 HB) HC0_4.out (Kd.cb HR1 HB) HC1.out (Glob.below HG.out (bl HB)) A5.out).mono ?_); rintro e w36 ⟨rfl, hb⟩; refine ⟨_, rfl, ?_⟩; replace BK1020 := kb BK1020 hb; replace HB := sb HB hb; (try clear hb); (try clear hb2 hk hi); obtain ⟨Z37_0, Z37_1, Z37_2, Z37_3, Z37_4, Y37_0, Y37_1, Y37_2, Y37_3, Y37_4⟩ := bq5 BK1020) | ((with_reducible refine gate_callee (f := 65) rfl ?_); refine goesL_ (some 31) rfl rfl Tryd.func65 (by kernel_rfl) rfl #[.agg #[.string a0_0, .slice A0_1 l0_1.length c0_1, .slice A0_2 l0_2.length c0_2, .slice A0_3 l0_3.length c0_3, .slice A0_4 l0_4.length c0_4], .int .i64 a2, .slice A1 l1.length c1] rfl ar ?_; (with_reducible refine (row_Entry.calls k a0_0 _ _ l0_1 _ _ l0_2 _ _ l0_3 _ _ l0_4 a2 _ _ l1 t1025 t1026 _ (Kd.cb HR0_1 HB) HC0_1.out (Kd.cb HR0_2 HB) HC0_2.out (Kd.cb HR0_3 HB) HC0_3.out (Kd.cb HR0_4 HB) HC0_4.out (Kd.cb HR1 HB) HC1.out (Glob.below HG.out (bl HB)) A6.out).mono ?_); rintro e w38 ⟨rfl, hb⟩; refine ⟨_, rfl, ?_⟩; replace BK1020 := kb BK1020 hb; replace HB := sb HB hb; (try clear hb); (try clear hb2 hk hi); obtain ⟨Z39_0, Z39_1, Z39_2, Z39_3, Z39_4, Y39_0, Y39_1, Y39_2, Y39_3, Y39_4⟩ := bq5 BK1020) | ((with_reducible refine gate_callee (f := 66) rfl ?_); refine goesL_ (some 38) rfl rfl Tryd.func66 (by kernel_rfl) rfl #[.agg #[.string a0_0, .slice A0_1 l0_1.length c0_1, .slice A0_2 l0_2.length c0_2, .slice A0_3 l0_3.length c0_3, .slice A0_4 l0_4.length c0_4], .int .i64 a2, .slice A1 l1.length c1] rfl ar ?_; (with_reducible refine (vellumref04_Entry.calls k a0_0 _ _ l0_1 _ _ l0_2 _ _ l0_3 _ _ l0_4 a2 _ _ l1 t1027 t1028 _ (Kd.cb HR0_1 HB) HC0_1.out (Kd.cb HR0_2 HB) HC0_2.out (Kd.cb HR0_3 HB) HC0_3.out (Kd.cb HR0_4 HB) HC0_4.out (Kd.cb HR1 HB) HC1.out (Glob.below HG.out (bl HB)) A7.out).mono ?_); rintro e w40 ⟨rfl, hb⟩; refine ⟨_, rfl, ?_⟩; replace BK1020 := kb BK1020 hb; replace HB := sb HB hb; (try clear hb); (try clear hb2 hk hi)))
        go_ret
        exact ⟨er, bl HB⟩
    · rw [if_neg c9] at H
      have c9b0 : (t1022 == t1024) = false := beq_eq_false_iff_ne.mpr c9
      have c9b1 : (t1022 != t1024) = true := bne_iff_ne.mpr c9
      obtain rfl := Option.some.inj H
      go_enter Tryd.func20, Tryd.ntmps20
      go_wp2_with (first | ((with_reducible refine gate_dst (N := 3) rfl ?_); refine box_event rfl (N := 3) rfl (cs := #[.string a0_0, .slice A0_1 l0_1.length c0_1, .slice A0_2 l0_2.length c0_2, .slice A0_3 l0_3.length c0_3, .slice A0_4 l0_4.length c0_4]) (t := 65) gs ?_; intro gb1020 hg w41 hbox hb; have BK1020 := am (hbox); have GW1020 := gw hg HB; have GE1020 := gw hg HB; replace HB := sb HB hb; clear hb hbox hg; obtain ⟨Z42_0, Z42_1, Z42_2, Z42_3, Z42_4, Y42_0, Y42_1, Y42_2, Y42_3, Y42_4⟩ := bq5 BK1020) | ((with_reducible refine gate_callee (f := 63) rfl ?_); refine goesL_ (some 18) rfl rfl Tryd.func63 (by kernel_rfl) rfl #[.agg #[.string a0_0, .slice A0_1 l0_1.length c0_1, .slice A0_2 l0_2.length c0_2, .slice A0_3 l0_3.length c0_3, .slice A0_4 l0_4.length c0_4], .slice A1 l1.length c1] rfl ar ?_; (with_reducible refine (row_Key.calls k a0_0 _ _ l0_1 _ _ l0_2 _ _ l0_3 _ _ l0_4 _ _ l1 t1021 t1022 _ (Kd.cb HR0_1 HB) HC0_1.out (Kd.cb HR0_2 HB) HC0_2.out (Kd.cb HR0_3 HB) HC0_3.out (Kd.cb HR0_4 HB) HC0_4.out (Kd.cb HR1 HB) HC1.out (Glob.below HG.out (bl HB)) A4.out).mono ?_); rintro e w43 ⟨rfl, hb⟩; refine ⟨_, rfl, ?_⟩; replace BK1020 := kb BK1020 hb; replace HB := sb HB hb; (try clear hb); (try clear hb2 hk hi); obtain ⟨Z44_0, Z44_1, Z44_2, Z44_3, Z44_4, Y44_0, Y44_1, Y44_2, Y44_3, Y44_4⟩ := bq5 BK1020) | ((with_reducible refine gate_callee (f := 64) rfl ?_); refine goesL_ (some 24) rfl rfl Tryd.func64 (by kernel_rfl) rfl #[.agg #[.string a0_0, .slice A0_1 l0_1.length c0_1, .slice A0_2 l0_2.length c0_2, .slice A0_3 l0_3.length c0_3, .slice A0_4 l0_4.length c0_4], .slice A1 l1.length c1] rfl ar ?_; (with_reducible refine (vellumref04_Key.calls k a0_0 _ _ l0_1 _ _ l0_2 _ _ l0_3 _ _ l0_4 _ _ l1 t1023 t1024 _ (Kd.cb HR0_1 HB) HC0_1.out (Kd.cb HR0_2 HB) HC0_2.out (Kd.cb HR0_3 HB) HC0_3.out (Kd.cb HR0_4 HB) HC0_4.out (Kd.cb HR1 HB) HC1.out (Glob.below HG.out (bl HB)) A5.out).mono ?_); rintro e w45 ⟨rfl, hb⟩; refine ⟨_, rfl, ?_⟩; replace BK1020 := kb BK1020 hb; replace HB := sb HB hb; (try clear hb); (try clear hb2 hk hi); obtain ⟨Z46_0, Z46_1, Z46_2, Z46_3, Z46_4, Y46_0, Y46_1, Y46_2, Y46_3, Y46_4⟩ := bq5 BK1020) | ((with_reducible refine gate_callee (f := 65) rfl ?_); refine goesL_ (some 31) rfl rfl Tryd.func65 (by kernel_rfl) rfl #[.agg #[.string a0_0, .slice A0_1 l0_1.length c0_1, .slice A0_2 l0_2.length c0_2, .slice A0_3 l0_3.length c0_3, .slice A0_4 l0_4.length c0_4], .int .i64 a2, .slice A1 l1.length c1] rfl ar ?_; (with_reducible refine (row_Entry.calls k a0_0 _ _ l0_1 _ _ l0_2 _ _ l0_3 _ _ l0_4 a2 _ _ l1 t1025 t1026 _ (Kd.cb HR0_1 HB) HC0_1.out (Kd.cb HR0_2 HB) HC0_2.out (Kd.cb HR0_3 HB) HC0_3.out (Kd.cb HR0_4 HB) HC0_4.out (Kd.cb HR1 HB) HC1.out (Glob.below HG.out (bl HB)) A6.out).mono ?_); rintro e w47 ⟨rfl, hb⟩; refine ⟨_, rfl, ?_⟩; replace BK1020 := kb BK1020 hb; replace HB := sb HB hb; (try clear hb); (try clear hb2 hk hi); obtain ⟨Z48_0, Z48_1, Z48_2, Z48_3, Z48_4, Y48_0, Y48_1, Y48_2, Y48_3, Y48_4⟩ := bq5 BK1020) | ((with_reducible refine gate_callee (f := 66) rfl ?_); refine goesL_ (some 38) rfl rfl Tryd.func66 (by kernel_rfl) rfl #[.agg #[.string a0_0, .slice A0_1 l0_1.length c0_1, .slice A0_2 l0_2.length c0_2, .slice A0_3 l0_3.length c0_3, .slice A0_4 l0_4.length c0_4], .int .i64 a2, .slice A1 l1.length c1] rfl ar ?_; (with_reducible refine (vellumref04_Entry.calls k a0_0 _ _ l0_1 _ _ l0_2 _ _ l0_3 _ _ l0_4 a2 _ _ l1 t1027 t1028 _ (Kd.cb HR0_1 HB) HC0_1.out (Kd.cb HR0_2 HB) HC0_2.out (Kd.cb HR0_3 HB) HC0_3.out (Kd.cb HR0_4 HB) HC0_4.out (Kd.cb HR1 HB) HC1.out (Glob.below HG.out (bl HB)) A7.out).mono ?_); rintro e w49 ⟨rfl, hb⟩; refine ⟨_, rfl, ?_⟩; replace BK1020 := kb BK1020 hb; replace HB := sb HB hb; (try clear hb); (try clear hb2 hk hi)))
      go_ret
      exact ⟨er, bl HB⟩
  · rw [if_neg c8] at H
    have c8b0 : (t1021.toList == t1023.toList) = false := beq_eq_false_iff_ne.mpr c8
    have c8b1 : (t1021.toList != t1023.toList) = true := bne_iff_ne.mpr c8
    obtain rfl := Option.some.inj H
    go_enter Tryd.func20, Tryd.ntmps20
    go_wp2_with (first | ((with_reducible refine gate_dst (N := 3) rfl ?_); refine box_event rfl (N := 3) rfl (cs := #[.string a0_0, .slice A0_1 l0_1.length c0_1, .slice A0_2 l0_2.length c0_2, .slice A0_3 l0_3.length c0_3, .slice A0_4 l0_4.length c0_4]) (t := 65) gs ?_; intro gb1020 hg w50 hbox hb; have BK1020 := am (hbox); have GW1020 := gw hg HB; have GE1020 := gw hg HB; replace HB := sb HB hb; clear hb hbox hg; obtain ⟨Z51_0, Z51_1, Z51_2, Z51_3, Z51_4, Y51_0, Y51_1, Y51_2, Y51_3, Y51_4⟩ := bq5 BK1020) | ((with_reducible refine gate_callee (f := 63) rfl ?_); refine goesL_ (some 18) rfl rfl Tryd.func63 (by kernel_rfl) rfl #[.agg #[.string a0_0, .slice A0_1 l0_1.length c0_1, .slice A0_2 l0_2.length c0_2, .slice A0_3 l0_3.length c0_3, .slice A0_4 l0_4.length c0_4], .slice A1 l1.length c1] rfl ar ?_; (with_reducible refine (row_Key.calls k a0_0 _ _ l0_1 _ _ l0_2 _ _ l0_3 _ _ l0_4 _ _ l1 t1021 t1022 _ (Kd.cb HR0_1 HB) HC0_1.out (Kd.cb HR0_2 HB) HC0_2.out (Kd.cb HR0_3 HB) HC0_3.out (Kd.cb HR0_4 HB) HC0_4.out (Kd.cb HR1 HB) HC1.out (Glob.below HG.out (bl HB)) A4.out).mono ?_); rintro e w52 ⟨rfl, hb⟩; refine ⟨_, rfl, ?_⟩; replace BK1020 := kb BK1020 hb; replace HB := sb HB hb; (try clear hb); (try clear hb2 hk hi); obtain ⟨Z53_0, Z53_1, Z53_2, Z53_3, Z53_4, Y53_0, Y53_1, Y53_2, Y53_3, Y53_4⟩ := bq5 BK1020) | ((with_reducible refine gate_callee (f := 64) rfl ?_); refine goesL_ (some 24) rfl rfl Tryd.func64 (by kernel_rfl) rfl #[.agg #[.string a0_0, .slice A0_1 l0_1.length c0_1, .slice A0_2 l0_2.length c0_2, .slice A0_3 l0_3.length c0_3, .slice A0_4 l0_4.length c0_4], .slice A1 l1.length c1] rfl ar ?_; (with_reducible refine (vellumref04_Key.calls k a0_0 _ _ l0_1 _ _ l0_2 _ _ l0_3 _ _ l0_4 _ _ l1 t1023 t1024 _ (Kd.cb HR0_1 HB) HC0_1.out (Kd.cb HR0_2 HB) HC0_2.out (Kd.cb HR0_3 HB) HC0_3.out (Kd.cb HR0_4 HB) HC0_4.out (Kd.cb HR1 HB) HC1.out (Glob.below HG.out (bl HB)) A5.out).mono ?_); rintro e w54 ⟨rfl, hb⟩; refine ⟨_, rfl, ?_⟩; replace BK1020 := kb BK1020 hb; replace HB := sb HB hb; (try clear hb); (try clear hb2 hk hi); obtain ⟨Z55_0, Z55_1, Z55_2, Z55_3, Z55_4, Y55_0, Y55_1, Y55_2, Y55_3, Y55_4⟩ := bq5 BK1020) | ((with_reducible refine gate_callee (f := 65) rfl ?_); refine goesL_ (some 31) rfl rfl Tryd.func65 (by kernel_rfl) rfl #[.agg #[.string a0_0, .slice A0_1 l0_1.length c0_1, .slice A0_2 l0_2.length c0_2, .slice A0_3 l0_3.length c0_3, .slice A0_4 l0_4.length c0_4], .int .i64 a2, .slice A1 l1.length c1] rfl ar ?_; (with_reducible refine (row_Entry.calls k a0_0 _ _ l0_1 _ _ l0_2 _ _ l0_3 _ _ l0_4 a2 _ _ l1 t1025 t1026 _ (Kd.cb HR0_1 HB) HC0_1.out (Kd.cb HR0_2 HB) HC0_2.out (Kd.cb HR0_3 HB) HC0_3.out (Kd.cb HR0_4 HB) HC0_4.out (Kd.cb HR1 HB) HC1.out (Glob.below HG.out (bl HB)) A6.out).mono ?_); rintro e w56 ⟨rfl, hb⟩; refine ⟨_, rfl, ?_⟩; replace BK1020 := kb BK1020 hb; replace HB := sb HB hb; (try clear hb); (try clear hb2 hk hi); obtain ⟨Z57_0, Z57_1, Z57_2, Z57_3, Z57_4, Y57_0, Y57_1, Y57_2, Y57_3, Y57_4⟩ := bq5 BK1020) | ((with_reducible refine gate_callee (f := 66) rfl ?_); refine goesL_ (some 38) rfl rfl Tryd.func66 (by kernel_rfl) rfl #[.agg #[.string a0_0, .slice A0_1 l0_1.length c0_1, .slice A0_2 l0_2.length c0_2, .slice A0_3 l0_3.length c0_3, .slice A0_4 l0_4.length c0_4], .int .i64 a2, .slice A1 l1.length c1] rfl ar ?_; (with_reducible refine (vellumref04_Entry.calls k a0_0 _ _ l0_1 _ _ l0_2 _ _ l0_3 _ _ l0_4 a2 _ _ l1 t1027 t1028 _ (Kd.cb HR0_1 HB) HC0_1.out (Kd.cb HR0_2 HB) HC0_2.out (Kd.cb HR0_3 HB) HC0_3.out (Kd.cb HR0_4 HB) HC0_4.out (Kd.cb HR1 HB) HC1.out (Glob.below HG.out (bl HB)) A7.out).mono ?_); rintro e w58 ⟨rfl, hb⟩; refine ⟨_, rfl, ?_⟩; replace BK1020 := kb BK1020 hb; replace HB := sb HB hb; (try clear hb); (try clear hb2 hk hi)))
    go_ret
    exact ⟨er, bl HB⟩
end Go.Proofs.YtpiifdbicibelaaDoor.PA
end
section
namespace Go.Proofs.YtpiifdbicibelaaDoor.Pure
open Go.RowKit Go.Proofs Go.Proofs.YtpiifdbicibelaaDoorW.PrintWords Go.Proofs.YtpiifdbicibelaaDoorW.PrintLast Go.Proofs.YtpiifdbicibelaaDoorW.PrintMore Go.Proofs.YtpiifdbicibelaaDoor.PA Go.Proofs.YtpiifdbicibelaaDoor.OpenK
set_option linter.unusedVariables false
set_option linter.unusedSimpArgs false
def picked (l : List S50) (ks : List Int) : List S50 := ks.map fun k => rd_T50 l k
theorem pick_code (l : List S50) (ks : List Int) (hk : ∀ k ∈ ks, 0 ≤ k ∧ k < (l.length : Int)) (hl : ks.length ≤ 64) : Ev (fun k => row_pick.f k l ks) (picked l ks) := by
  have go : ∀ (m i : Nat), i + m = ks.length → Ev (fun k => row_pick.l0 k l (picked l (ks.take i)) ks (ks.length : Int) (i : Int)) (picked l ks) := by
    intro m
    induction m with
    | zero =>
      intro i hi
      refine Ev.from_ 1 fun k => ?_
      simp only [row_pick.l0]
      rw [if_neg (by omega), List.take_of_length_le (by omega)]
    | succ m ih =>
      intro i hi
      have hlt : i < ks.length := by omega
      have hb := hk _ (List.getElem_mem hlt)
      refine Ev.step (fun k => ?_) (ih (i + 1) (by omega))
      have hpl : (picked l (ks.take i)).length = i := by simp [picked]; omega
      simp only [row_pick.l0, rd_getI ks i hlt]
      rw [if_pos (by omega), if_pos (by omega), if_pos (by omega), if_pos hb.1, if_pos hb.2, if_pos (by omega), wrap64_id (by omega) (by omega)]
      have e : picked l (ks.take (i + 1)) = picked l (ks.take i) ++ [rd_T50 l ks[i]] := by
        unfold picked
        rw [List.take_succ_eq_append_getElem hlt, List.map_append]; rfl
      rw [e]; rfl
  exact go ks.length 0 (by omega)
theorem some_ref (l : List S50) (ks : List Int) (hk : ∀ k ∈ ks, 0 ≤ k ∧ k < (l.length : Int)) (hl : ks.length ≤ 64) : Ev (fun k => vellumref04_some.f k ks l) (picked l ks) := by
  have go : ∀ (m i : Nat), i + m = ks.length → Ev (fun k => vellumref04_some.l0 k ks l (picked l (ks.take i)) (i : Int)) (picked l ks) := by
    intro m
    induction m with
    | zero =>
      intro i hi
      refine Ev.from_ 1 fun k => ?_
      simp only [vellumref04_some.l0]
      rw [if_neg (by omega), List.take_of_length_le (by omega)]
    | succ m ih =>
      intro i hi
      have hlt : i < ks.length := by omega
      have hb := hk _ (List.getElem_mem hlt)
      refine Ev.step (fun k => ?_) (ih (i + 1) (by omega))
      have hpl : (picked l (ks.take i)).length = i := by simp [picked]; omega
      simp only [vellumref04_some.l0, rd_getI ks i hlt]
      rw [if_pos (by omega), if_pos (by omega), if_pos hb.1, if_pos hb.2, if_pos (by omega), wrap64_id (by omega) (by omega)]
      have e : picked l (ks.take (i + 1)) = picked l (ks.take i) ++ [rd_T50 l ks[i]] := by
        unfold picked
        rw [List.take_succ_eq_append_getElem hlt, List.map_append]; rfl
      rw [e]; rfl
  exact go ks.length 0 (by omega)
theorem picked_mem {l : List S50} {ks : List Int} (hk : ∀ k ∈ ks, 0 ≤ k ∧ k < (l.length : Int)) (hw : ∀ v ∈ l, wf50 v) : ∀ v ∈ picked l ks, wf50 v := by
  intro v hv
  obtain ⟨k, hk', rfl⟩ := List.mem_map.1 hv
  have hb := hk k hk'
  have : rd_T50 l k = l[k.toNat]'(by omega) := by
    have := rd_get l k.toNat (l[k.toNat]'(by omega)) (List.getElem?_eq_getElem (by omega))
    rwa [Int.toNat_of_nonneg hb.1] at this
  rw [this]
  exact hw _ (List.getElem_mem _)
theorem colsOk_len {n : Nat} {l : List Int} (h : colsOk n l = true) : l.length ≤ 64 := by
  unfold colsOk at h
  simp only [Bool.and_eq_true, decide_eq_true_eq] at h
  exact h.1.1.2
theorem idx_ok : ∀ {n : Nat} {pre l : List S115}, idxErrs n pre l = 0 → ∀ x ∈ l, colsOk n x.f1 = true
  | n, pre, [], _ => by simp
  | n, pre, x :: l, h => by
    simp only [idxErrs] at h
    split at h
    · cases h
    split at h
    · cases h
    split at h
    · cases h
    rename_i hc
    intro y hy
    rcases List.mem_cons.1 hy with rfl | hy
    · simpa using hc
    · exact idx_ok h y hy
theorem checkT_key {a : ByteArray} {c : List S105} {d : List Int} {e : List S115} {f : List S139} (h : checkT a c d e f = 0) : colsOk c.length d = true ∧ ∀ x ∈ e, colsOk c.length x.f1 = true := by
  unfold checkT at h
  split at h
  · cases h
  split at h
  · cases h
  split at h
  · rename_i g; exact absurd h g
  split at h
  · cases h
  rename_i g1
  split at h
  · cases h
  split at h
  · rename_i g; exact absurd h g
  rename_i g2
  exact ⟨by simpa using g1, idx_ok (Decidable.not_not.1 g2)⟩
theorem admT_chk {a : ByteArray} {c : List S105} {d : List Int} {e : List S115} {f : List S139} {row : List S50} (h : admT a c d e f row = 0) : checkT a c d e f = 0 := by
  unfold admT at h
  by_cases h0 : checkT a c d e f = 0
  · exact h0
  · rw [if_pos h0] at h; exact h
/-- What both sides tell of a row's key. -/
def keyR (a : ByteArray) (c : List S105) (d : List Int) (e : List S115) (f : List S139) (row : List S50) : ByteArray × Int :=
  if admT a c d e f row = 0 then encode (picked row d) else ((⟨#[]⟩ : ByteArray), admT a c d e f row)
def entR (a : ByteArray) (c : List S105) (d : List Int) (e : List S115) (f : List S139) (i : Int) (row : List S50) : ByteArray × Int :=
  if (keyR a c d e f row).2 = 0 then (if i < 0 ∨ (e.length : Int) ≤ i then ((⟨#[]⟩ : ByteArray), 5) else encode (picked row (rd_T115 e i).f1 ++ picked row d)) else ((⟨#[]⟩ : ByteArray), (keyR a c d e f row).2)
theorem key_range {a : ByteArray} {c : List S105} {d : List Int} {e : List S115} {f : List S139} {row : List S50} (h : admT a c d e f row = 0) {ks : List Int} (hk : colsOk c.length ks = true) : (∀ k ∈ ks, 0 ≤ k ∧ k < (row.length : Int)) ∧ ks.length ≤ 64 := by
  have hl := admT_len h
  exact ⟨fun k hk' => by have := colsOk_mem hk hk'; omega, colsOk_len hk⟩
theorem key_code {a : ByteArray} {c : List S105} {d : List Int} {e : List S115} {f : List S139} {row : List S50} (h : WfT a c d e f) (hr : ∀ v ∈ row, wf50 v) : Ev (fun k => row_Key.f k a c d e f row) (keyR a c d e f row) := by
  simp only [row_Key.f, admits_f h hr, Option.bind_some]
  unfold keyR
  by_cases h0 : admT a c d e f row = 0
  · rw [if_pos h0]
    obtain ⟨k1, k2⟩ := key_range h0 (checkT_key (admT_chk h0)).1
    exact Ev.pos h0 (Ev.bind (pick_code row d k1 k2) (Ev.bind (encode_code _ (picked_mem k1 hr) (by simp [picked]; omega)) Ev.pure))
  · rw [if_neg h0]; exact Ev.neg h0 Ev.pure
theorem key_ref {a : ByteArray} {c : List S105} {d : List Int} {e : List S115} {f : List S139} {row : List S50} (h : WfT a c d e f) (hr : ∀ v ∈ row, wf50 v) (hc : c.length < 9223372036854775807) (he : e.length < 9223372036854775807) (hf : f.length < 9223372036854775807) (hrow : row.length < 9223372036854775807) : Ev (fun k => vellumref04_Key.f k a c d e f row) (keyR a c d e f row) := by
  simp only [vellumref04_Key.f]
  refine Ev.bind (admits_ev a c d e f row h hc he hf hrow (fun v hv => (hr v hv).2.2.2)) ?_
  unfold keyR
  by_cases h0 : admT a c d e f row = 0
  · rw [if_pos h0]
    obtain ⟨k1, k2⟩ := key_range h0 (checkT_key (admT_chk h0)).1
    exact Ev.pos h0 (Ev.bind (some_ref row d k1 k2) (Ev.bind (encode_ref _ (picked_mem k1 hr) (by simp [picked]; omega)) Ev.pure))
  · rw [if_neg h0]; exact Ev.neg h0 Ev.pure
theorem keyR_adm {a : ByteArray} {c : List S105} {d : List Int} {e : List S115} {f : List S139} {row : List S50} (h : (keyR a c d e f row).2 = 0) : admT a c d e f row = 0 := by
  unfold keyR at h
  by_cases h0 : admT a c d e f row = 0
  · exact h0
  · rw [if_neg h0] at h; exact h
theorem rd115_mem {e : List S115} {i : Int} (h0 : 0 ≤ i) (h1 : i < (e.length : Int)) : rd_T115 e i ∈ e := by
  have : rd_T115 e i = e[i.toNat]'(by omega) := by
    unfold rd_T115
    rw [List.getD, List.getElem?_eq_getElem (by omega)]; rfl
  rw [this]; exact List.getElem_mem _
theorem ent_code {a : ByteArray} {c : List S105} {d : List Int} {e : List S115} {f : List S139} {row : List S50} (i : Int) (h : WfT a c d e f) (hr : ∀ v ∈ row, wf50 v) : Ev (fun k => row_Entry.f k a c d e f i row) (entR a c d e f i row) := by
  simp only [row_Entry.f]
  refine Ev.bind (key_code h hr) ?_
  unfold entR
  by_cases hk : (keyR a c d e f row).2 = 0
  · rw [if_pos hk]
    refine Ev.pos hk ?_
    have h0 := keyR_adm hk
    have hj : ∀ b : Bool, (b = true ↔ i < 0 ∨ (e.length : Int) ≤ i) → Ev (fun k => row_Entry.j0 k i row b a c d e f) (if i < 0 ∨ (e.length : Int) ≤ i then ((⟨#[]⟩ : ByteArray), (5 : Int)) else encode (picked row (rd_T115 e i).f1 ++ picked row d)) := by
      intro b hb
      by_cases hbt : b = true
      · rw [if_pos (hb.1 hbt)]
        refine Ev.from_ 1 fun k => ?_
        simp only [row_Entry.j0]; rw [if_pos hbt]
      · have hi : ¬ (i < 0 ∨ (e.length : Int) ≤ i) := fun g => hbt (hb.2 g)
        rw [if_neg hi]
        obtain ⟨k1, k2⟩ := key_range h0 (checkT_key (admT_chk h0)).1
        obtain ⟨k3, k4⟩ := key_range h0 ((checkT_key (admT_chk h0)).2 _ (rd115_mem (e := e) (i := i) (by omega) (by omega)))
        refine Ev.step (g := fun k => ((row_pick.f k row ((rd_T115 e i).f1)).bind fun t994 => ((row_pick.f k row d).bind fun t997 => (if t994.length + t997.length < 3518437208883 then ((code_Encode.f k (t994 ++ t997)).bind fun bt1003 => (some (bt1003.1, bt1003.2))) else (none))))) (fun k => ?_) (Ev.bind (pick_code row _ k3 k4) (Ev.bind (pick_code row d k1 k2) (Ev.pos (by simp [picked]; omega) (Ev.bind (encode_code _ (fun v hv => ?_) (by simp [picked]; omega)) Ev.pure))))
        · simp only [row_Entry.j0]
          rw [if_neg hbt, if_pos (by omega), if_pos (by omega)]
        · rcases List.mem_append.1 hv with g | g
          · exact picked_mem k3 hr v g
          · exact picked_mem k1 hr v g
    by_cases hi : i < 0
    · exact Ev.pos hi (hj true (by simp [hi]))
    · exact Ev.neg hi (hj _ (by simp; omega))
  · rw [if_neg hk]; exact Ev.neg hk Ev.pure
theorem ent_ref {a : ByteArray} {c : List S105} {d : List Int} {e : List S115} {f : List S139} {row : List S50} (i : Int) (h : WfT a c d e f) (hr : ∀ v ∈ row, wf50 v) (hc : c.length < 9223372036854775807) (he : e.length < 9223372036854775807) (hf : f.length < 9223372036854775807) (hrow : row.length < 9223372036854775807) : Ev (fun k => vellumref04_Entry.f k a c d e f i row) (entR a c d e f i row) := by
  simp only [vellumref04_Entry.f]
  refine Ev.bind (key_ref h hr hc he hf hrow) ?_
  unfold entR
  by_cases hk : (keyR a c d e f row).2 = 0
  · rw [if_pos hk]
    refine Ev.pos hk ?_
    have h0 := keyR_adm hk
    have hj : ∀ b : Bool, (b = true ↔ i < 0 ∨ (e.length : Int) ≤ i) → Ev (fun k => vellumref04_Entry.j0 k i row b a c d e f) (if i < 0 ∨ (e.length : Int) ≤ i then ((⟨#[]⟩ : ByteArray), (5 : Int)) else encode (picked row (rd_T115 e i).f1 ++ picked row d)) := by
      intro b hb
      by_cases hbt : b = true
      · rw [if_pos (hb.1 hbt)]
        refine Ev.from_ 1 fun k => ?_
        simp only [vellumref04_Entry.j0]; rw [if_pos hbt]
      · have hi : ¬ (i < 0 ∨ (e.length : Int) ≤ i) := fun g => hbt (hb.2 g)
        rw [if_neg hi]
        obtain ⟨k1, k2⟩ := key_range h0 (checkT_key (admT_chk h0)).1
        obtain ⟨k3, k4⟩ := key_range h0 ((checkT_key (admT_chk h0)).2 _ (rd115_mem (e := e) (i := i) (by omega) (by omega)))
        refine Ev.step (g := fun k => ((vellumref04_some.f k ((rd_T115 e i).f1) row).bind fun t994 => ((vellumref04_some.f k d row).bind fun t997 => (if t994.length + t997.length < 3518437208883 then ((vellumref02_Encode.f k (t994 ++ t997)).bind fun bt1003 => (some (bt1003.1, bt1003.2))) else (none))))) (fun k => ?_) (Ev.bind (some_ref row _ k3 k4) (Ev.bind (some_ref row d k1 k2) (Ev.pos (by simp [picked]; omega) (Ev.bind (encode_ref _ (fun v hv => ?_) (by simp [picked]; omega)) Ev.pure))))
        · simp only [vellumref04_Entry.j0]
          rw [if_neg hbt, if_pos (by omega), if_pos (by omega)]
        · rcases List.mem_append.1 hv with g | g
          · exact picked_mem k3 hr v g
          · exact picked_mem k1 hr v g
    by_cases hi : i < 0
    · exact Ev.pos hi (hj true (by simp [hi]))
    · exact Ev.neg hi (hj _ (by simp; omega))
  · rw [if_neg hk]; exact Ev.neg hk Ev.pure
theorem RowKeys (x0 : S65) (l1 : List S50) (a2 : Int) (h0 : wf65 x0) (h1 : l1.length * 40 ≤ 140737488351232 ∧ ∀ y ∈ l1, wf50 y) (h2 : (Lit.int .i64 a2).wf = true) : ∃ k, vellumlaw04_RowKeys.f k x0.f0 x0.f1 x0.f2 x0.f3 x0.f4 l1 a2 = some true := by
  refine Ev.ex ?_
  simp only [vellumlaw04_RowKeys.f]
  have hT := wf65_T h0
  obtain ⟨_, g1, _, g3, g4⟩ := h0
  exact Ev.bind (key_code hT h1.2) (Ev.bind (key_ref hT h1.2 (by omega) (by omega) (by omega) (by omega)) (Ev.bind (ent_code a2 hT h1.2) (Ev.bind (ent_ref a2 hT h1.2 (by omega) (by omega) (by omega) (by omega)) (Ev.pos rfl (Ev.pos rfl (Ev.pos rfl (Ev.pos rfl (Ev.bind awake4_ev Ev.pure))))))))
end Go.Proofs.YtpiifdbicibelaaDoor.Pure
end
section
namespace Go.Proofs.YtpiifdbicibelaaDoor
open Go.RowKit
theorem main_ : Tryd.pinned.checked.prog.mainIs = some (true, "409e20a6319c123f59629b35fea50f486835097bfbed967dc062cdc0fc9eff79".toList) := by kernel_rfl
theorem looks_ : false = Tryd.prog.looks [] := by kernel_rfl
end Go.Proofs.YtpiifdbicibelaaDoor
end
section
namespace Go.Proofs.YtpiifdbicibelaaDoor.rowKeys
open Go.ChangeShapes Go.WideShapes Go.ChangeAt Go.RowKit Go.Proofs.YtpiifdbicibelaaDoorW.PrintWords Go.Proofs.YtpiifdbicibelaaDoor.PA Go.Proofs.YtpiifdbicibelaaDoor.OpenK Go.Proofs.YtpiifdbicibelaaDoor.Pure
open Go.ChangeMaps (open_string shut_string)
set_option linter.unusedVariables false
theorem walk {H : Type} {enc : TypeId × Value → H} (W : World) (base : Nat) (args : Array Value) (ds : List (DataW H)) (ps : List MemPlace) (hA0 : DataW.TrodAll enc Tryd.prog W 0 (fun _ => true) true Tryd.f20.params.toList args.toList ds ps)
    (hw0 : (DataW.weightsEach Tryd.prog Tryd.f20.params.toList ds).all (· ≤ reachBytes) = true) (hval0 : ∀ (j : Nat) t v, Tryd.f20.params[j]? = some t → args[j]? = some v → Value.okWide Tryd.prog W .any base t v) (hG : Glob W) :
    Calls Tryd.prog 20 args W fun e W' => e = .returned (.bool true) ∧ Below W.heap.size W W' := by
  have hval : ∀ (j : Nat) t v, Tryd.f20.params[j]? = some t → args[j]? = some v → Value.okWide Tryd.prog W .any base t v := @hval0
  have hA : DataW.TrodAll enc Tryd.prog W 0 (fun _ => true) true Tryd.f20.params.toList args.toList ds ps := hA0
  have hw : (DataW.weightsEach Tryd.prog Tryd.f20.params.toList ds).all (· ≤ reachBytes) = true := hw0
  rw [Tryd.params20] at hA hval hw
  clear hA0 hw0 hval0
  obtain ⟨v0, vs0, d0, ds0, p0, q0, hargs, rfl, rfl, h0, r0⟩ := trodAll_cons hA
  obtain ⟨v1, vs1, d1, ds1, p1, q1, rfl, rfl, rfl, h1, r1⟩ := trodAll_cons r0
  obtain ⟨v2, vs2, d2, ds2, p2, q2, rfl, rfl, rfl, h2, r2⟩ := trodAll_cons r1
  obtain ⟨rfl, rfl, rfl⟩ := trodAll_nil r2
  obtain rfl : args = #[v0, v1, v2] := by cases args; simp_all
  simp only [DataW.weightsEach, all_append_iff] at hw
  obtain ⟨hw0, hw1, hw2, _⟩ := hw
  obtain ⟨fuel0, hf0⟩ := h0
  obtain ⟨x0, hK0, wf0_⟩ := opn65 hf0 hw0
  -- STRUCT 0
  obtain ⟨A0_1, c0_1, A0_2, c0_2, A0_3, c0_3, A0_4, c0_4, he0, hl0_1, hC0_1, hl0_2, hC0_2, hl0_3, hC0_3, hl0_4, hC0_4⟩ := k65_open hK0
  obtain rfl : v0 = .agg #[.string x0.f0, .slice A0_1 x0.f1.length c0_1, .slice A0_2 x0.f2.length c0_2, .slice A0_3 x0.f3.length c0_3, .slice A0_4 x0.f4.length c0_4] := agg_of_cells he0 (by simp)
  obtain ⟨a1, len1, cap1, rfl⟩ := arg_slice (j := 1) @hval rfl rfl Tryd.underlying22
  obtain ⟨fuel1, hf1⟩ := h1
  obtain ⟨l1, ⟨A1, c1, he1, hl1, hC1⟩, wf1_⟩ := (Opn.slice Tryd.underlying22 opn50 (by kernel_rfl) (by kernel_rfl)) hf1 hw1
  simp [Value.cells] at he1
  obtain ⟨rfl, rfl, rfl⟩ := he1
  obtain ⟨a2, rfl, rfl, rfl, wf2_⟩ := arg_int (j := 2) @hval rfl rfl Tryd.underlying3 h2
  obtain ⟨k, h⟩ := RowKeys x0 l1 a2 wf0_ wf1_ wf2_
  refine (vellumlaw04_RowKeys.calls k x0.f0 _ _ x0.f1 _ _ x0.f2 _ _ x0.f3 _ _ x0.f4 _ _ l1 a2 true W hC0_1 hl0_1 hC0_2 hl0_2 hC0_3 hl0_3 hC0_4 hl0_4 hC1 hl1 hG h).mono ?_
  rintro e W' ⟨rfl, hd⟩
  exact ⟨rfl, hd⟩
theorem witness_row (os : Os) {H : Type} (enc : TypeId × Value → H) :
    (OpenSpec.ofChange Rows.rowKeysSpec).preRow enc Tryd.prog Tryd.f20 [] false laidList ((laidWorld os).forCall (fun _ _ => 0) ⟨#[], #[.agg #[.string ByteArray.empty, .slice none 0 0, .slice none 0 0, .slice none 0 0, .slice none 0 0], .slice none 0 0, .int .i64 0], []⟩).memory #[.agg #[.string ByteArray.empty, .slice none 0 0, .slice none 0 0, .slice none 0 0, .slice none 0 0], .slice none 0 0, .int .i64 0] := by
  have hw : (DataW.whole enc Tryd.prog ((laidWorld os).forCall (fun _ _ => 0) ⟨#[], #[.agg #[.string ByteArray.empty, .slice none 0 0, .slice none 0 0, .slice none 0 0, .slice none 0 0], .slice none 0 0, .int .i64 0], []⟩).memory Tryd.f20.params.toList (OpenSpec.ofChange Rows.rowKeysSpec).vars false (#[.agg #[.string ByteArray.empty, .slice none 0 0, .slice none 0 0, .slice none 0 0, .slice none 0 0], .slice none 0 0, .int .i64 0] : Array Value).toList 8).map (fun x => (x.1, x.2.1)) = some ([.agg [.lit (.string []), .nil, .nil, .nil, .nil], .nil, .lit (.int .i64 0)], []) := by kernel_rfl
  obtain ⟨⟨x1, x2, x3⟩, hx, hx1⟩ := Option.map_eq_some_iff.1 hw
  simp only [Prod.mk.injEq] at hx1
  obtain ⟨rfl, rfl⟩ := hx1
  exact OpenSpec.preRow_of_cond 8 hx (by kernel_rfl) (fun k hk => by cases hk) (by kernel_rfl) (laid_met os _)
theorem ends {os : Os} (started : os.Started) {H : Type} {enc : TypeId × Value → H} {F : Stop.Interp} : ReturnsInHanded { modest := false } Tryd.checked os 20 .any ((OpenSpec.ofChange Rows.rowKeysSpec).preRow enc Tryd.prog Tryd.f20 [] false laidList) (((OpenSpec.ofChange Rows.rowKeysSpec).at F).post enc Tryd.prog Tryd.f20 false true false false) :=
  law_lifted (spec := Rows.rowKeysSpec) Tryd.func20 (by kernel_rfl) (tb := 4) rfl Tryd.underlying4 (by kernel_rfl) rfl
    (fun H ds hl => by
      match ds, hl with
      | [_, _, _], _ => rfl) started
    (witness_row_atRef (enc := enc) (C := Tryd.checked) false (laidWorld os) #[.agg #[.string ByteArray.empty, .slice none 0 0, .slice none 0 0, .slice none 0 0, .slice none 0 0], .slice none 0 0, .int .i64 0] rfl (by kernel_rfl) (by kernel_rfl) (by kernel_rfl) (witness_row os enc))
    (fun W base args ds ps hA hw hval hG => walk W base args ds ps hA hw @hval hG)
theorem inPlace_ : Tryd.prog.inPlace 20 = Rows.rowKeysRow.inPlace := by kernel_rfl
theorem unfollowed_ : Tryd.prog.unfollowed 20 = Rows.rowKeysRow.unfollowed := by kernel_rfl
theorem recurses_ : Tryd.prog.recurses 20 = Rows.rowKeysRow.recurses := by kernel_rfl
theorem named_ : Tryd.prog.varsNamed 20 = Rows.rowKeysRow.named := by kernel_rfl
theorem closed : joinedFacts Tryd.prog 20 Tryd.f20 (OpenSpec.ofChange Rows.rowKeysSpec).bare Rows.rowKeysRow = true := by
  unfold joinedFacts
  rw [laidOut, mapsRowed_, stops_, stopKnobs_, plainKeys_, stopsHeard_, mayEnter_, lifts_, make_, inPlace_, unfollowed_, recurses_, named_]
  kernel_rfl
set_option maxRecDepth 100000 in
theorem over : Rows.rowKeysRow.holds Tryd.pinned (OpenSpec.ofChange Rows.rowKeysSpec) :=
  OpenClaim.holds_of_cond 20 Tryd.f20 rfl rfl rfl rfl rfl rfl rfl ⟨rfl, rfl, rfl, rfl, rfl⟩ rfl rfl rfl rfl rfl (by kernel_rfl) Tryd.func20 closed
    (of_decide_eq_true (by kernel_rfl)) (by unfold Func.isWrapper; rw [if_neg (of_decide_eq_false (by kernel_rfl))]; exact ⟨rfl, rfl⟩)
    (fun os started H enc _ F => by
      rw [OpenClaim.pre_eq_preRow]
      exact ends started)
theorem goes_ : false = Rows.rowKeysRow.goesBy Tryd.prog := by kernel_rfl
theorem fnamed_ : Tryd.prog.funcNamed "vellum/vellumlaw04.RowKeys" = some 20 := by kernel_rfl
theorem card : Rows.RowKeysCardSaid :=
  Claim7.holds_tied_plain_at .later [] [.data, .pinned] true (true, "409e20a6319c123f59629b35fea50f486835097bfbed967dc062cdc0fc9eff79") false
    over (fun _ h => by cases h) (by kernel_rfl) (fun _ h => by cases h) rowKeys_row_tie rfl ⟨rfl, rfl⟩ main_ rfl
    (fun f fn hf hfn => by
      obtain rfl : f = 20 := Option.some.inj (fnamed_.symm.trans hf) |>.symm
      obtain rfl : fn = Tryd.f20 := (Option.some.inj (Tryd.func20.symm.trans hfn)).symm
      exact ⟨looks_, fun j t ht => by
        rw [Tryd.params20] at ht
        have h3 : t ∈ [65, 22, 3] := by
          have := List.mem_of_getElem? (l := [65, 22, 3]) (i := j) (by simpa using ht)
          exact this
        have h4 : ∀ t ∈ [65, 22, 3], Tryd.prog.wantsStandIn t = false := by
          intro t ht
          simp only [List.mem_cons, List.mem_nil_iff, or_false] at ht
          rcases ht with rfl | rfl | rfl
          all_goals kernel_rfl
        exact h4 t h3⟩)
    goes_
end Go.Proofs.YtpiifdbicibelaaDoor.rowKeys
namespace Go.Proofs.YtpiifdbicibelaaDoor
theorem rowKeys_holds : Rows.RowKeysCardSaid := rowKeys.card
end Go.Proofs.YtpiifdbicibelaaDoor
end
