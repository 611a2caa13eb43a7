/- Part 3 of what the proof of RowApplies stands on: words for walks, printed functions with their contracts, plain laws. -/
import Derived.Test.YtpiifdbicibelaaDoorKRowApplies1
section
namespace Go.Proofs.YtpiifdbicibelaaDoor.PA
open Go.RowKit Go.Proofs.YtpiifdbicibelaaDoorW.PrintWords Go.Proofs.YtpiifdbicibelaaDoorW.PrintLast Go.Proofs.YtpiifdbicibelaaDoorW.PrintMore
attribute [local go_sem] max2_int min2_int max_two min_two max_three min_three max_four min_four
set_option linter.unusedVariables false
set_option linter.unusedSimpArgs false
set_option maxHeartbeats 8000000 in
set_option maxRecDepth 100000 in
theorem row_Encode.calls (k : Nat) (a0_0 : ByteArray) (A0_1 : Option Addr) (c0_1 : Nat) (l0_1 : List (S105)) (A0_2 : Option Addr) (c0_2 : Nat) (l0_2 : List Int) (A0_3 : Option Addr) (c0_3 : Nat) (l0_3 : List (S115)) (A0_4 : Option Addr) (c0_4 : Nat) (l0_4 : List (S139)) (A1 : Option Addr) (c1 : Nat) (l1 : List (S50)) (r1 : ByteArray) (r2 : Int) (w : World) (hr0_1 : Kd.C k105 w A0_1 l0_1.length l0_1) (hc0_1 : l0_1.length ≤ c0_1) (hr0_2 : Kd.C (Kd.int .i64) w A0_2 l0_2.length l0_2) (hc0_2 : l0_2.length ≤ c0_2) (hr0_3 : Kd.C k115 w A0_3 l0_3.length l0_3) (hc0_3 : l0_3.length ≤ c0_3) (hr0_4 : Kd.C k139 w A0_4 l0_4.length l0_4) (hc0_4 : l0_4.length ≤ c0_4) (hr1 : Kd.C k50 w A1 l1.length l1) (hc1 : l1.length ≤ c1) (hG : Glob w) (h : row_Encode.f k a0_0 l0_1 l0_2 l0_3 l0_4 l1 = some (r1, r2)) :
  Calls Tryd.prog 52 #[.agg #[.string a0_0, .slice A0_1 l0_1.length c0_1, .slice A0_2 l0_2.length c0_2, .slice A0_3 l0_3.length c0_3, .slice A0_4 l0_4.length c0_4], .slice A1 l1.length c1] w fun e w' => e = .returned (.tuple #[.string r1, .int .i64 r2]) ∧ Below w.heap.size w w' := by
 have hu65 := Tryd.underlying65
 have HR0_1 := am hr0_1
 have HC0_1 := am hc0_1
 clear hr0_1 hc0_1
 have HR0_2 := am hr0_2
 have HC0_2 := am hc0_2
 clear hr0_2 hc0_2
 have HR0_3 := am hr0_3
 have HC0_3 := am hc0_3
 clear hr0_3 hc0_3
 have HR0_4 := am hr0_4
 have HC0_4 := am hc0_4
 clear hr0_4 hc0_4
 have HR1 := am hr1
 have HC1 := am hc1
 clear hr1 hc1
 have HG := am hG
 clear hG
 have HB := am (Below.refl w.heap.size w)
 have H : ((schema_Admits.f a0_0 l0_1 l0_2 l0_3 l0_4 l1).bind fun t613 => (if t613 = 0 then ((row_encode.f k l1).bind fun t614 => (if (t614.length : Int) > 65536 then (some ((⟨#[]⟩ : ByteArray), 3)) else (some (strOfNums t614, 0)))) else (some ((⟨#[]⟩ : ByteArray), t613)))) = some (r1, r2) := h
 clear h
 replace H := Option.bind_eq_some_iff.mp H
 obtain ⟨t613, A30, H⟩ := H
 replace H : (if t613 = 0 then ((row_encode.f k l1).bind fun t614 => (if (t614.length : Int) > 65536 then (some ((⟨#[]⟩ : ByteArray), 3)) else (some (strOfNums t614, 0)))) else (some ((⟨#[]⟩ : ByteArray), t613))) = some (r1, r2) := H
 have A3 := am A30
 clear A30
 by_cases c4 : t613 = 0
 ·rw [if_pos c4] at H
  have c4b0 : (t613 == 0) = true := beq_iff_eq.mpr c4
  have c4b1 : (t613 != 0) = false := bne_eq_false_iff_eq.mpr c4
  clear c4
  replace H := Option.bind_eq_some_iff.mp H
  obtain ⟨t614, A50, H⟩ := H
  replace H : (if (t614.length : Int) > 65536 then (some ((⟨#[]⟩ : ByteArray), 3)) else (some (strOfNums t614, 0))) = some (r1, r2) := H
  have A5 := am A50
  clear A50
  by_cases c6 : (t614.length : Int) > 65536
  ·rw [if_pos c6] at H
   have c6b0 : decide (65536 < (t614.length : Int)) = true := decide_eq_true c6
   have c6b1 : decide (65536 < t614.length) = true := decide_eq_true (by omega)
   clear c6
   simp only [Option.some.injEq, Prod.mk.injEq] at H
   obtain ⟨rfl, rfl⟩ := H
   go_enter Tryd.func52, Tryd.ntmps52
   go_wp2_with (first | ((with_reducible refine gate_dst (N := 2) rfl ?_); refine box_event rfl (N := 2) rfl (cs := #[.string a0_0, .slice A0_1 l0_1.length c0_1, .slice A0_2 l0_2.length c0_2, .slice A0_3 l0_3.length c0_3, .slice A0_4 l0_4.length c0_4]) (t := 65) gs ?_; intro gb612 hg w7 hbox hb; have BK612 := am (hbox); have GW612 := gw hg HB; have GE612 := gw hg HB; replace HB := sb HB hb; clear hb hbox hg; obtain ⟨Z8_0, Z8_1, Z8_2, Z8_3, Z8_4, Y8_0, Y8_1, Y8_2, Y8_3, Y8_4⟩ := bq5 BK612) | ((with_reducible refine gate_callee (f := 83) rfl ?_); refine goesL_ (some 10) rfl rfl Tryd.func83 (by kernel_rfl) rfl #[.agg #[.string a0_0, .slice A0_1 l0_1.length c0_1, .slice A0_2 l0_2.length c0_2, .slice A0_3 l0_3.length c0_3, .slice A0_4 l0_4.length c0_4], .slice A1 l1.length c1] rfl ar ?_; (with_reducible refine (schema_Admits.calls a0_0 _ _ l0_1 _ _ l0_2 _ _ l0_3 _ _ l0_4 _ _ l1 t613 _ (Kd.cb HR0_1 HB) HC0_1.out (Kd.cb HR0_2 HB) HC0_2.out (Kd.cb HR0_3 HB) HC0_3.out (Kd.cb HR0_4 HB) HC0_4.out (Kd.cb HR1 HB) HC1.out (Glob.below HG.out (bl HB)) A3.out).mono ?_); rintro e w9 ⟨rfl, hb⟩; refine ⟨_, rfl, ?_⟩; replace BK612 := kb BK612 hb; replace HB := sb HB hb; (try clear hb); (try clear hb2 hk hi)) | ((with_reducible refine gate_callee (f := 84) rfl ?_); refine goesL_ (some 15) rfl rfl Tryd.func84 (by kernel_rfl) rfl #[.slice A1 l1.length c1] rfl ar ?_; (with_reducible refine (row_encode.calls k _ _ l1 t614 _ (Kd.cb HR1 HB) HC1.out A5.out).mono ?_); rintro e w10 ⟨v615, rfl, ho0, hb⟩; refine ⟨_, rfl, ?_⟩; have n0_ := am (Kd.R_lower ho0 (below_size (bl HB))); have n1_ := kb BK612 hb; have n2_ := sb HB hb; clear BK612; clear HB; have HO616 := n0_; have BK612 := n1_; have HB := n2_; clear n0_ n1_ n2_; (try clear hb); (try clear hb2 hk hi); (try clear ho0); obtain ⟨Ao11, co11, eo11⟩ := Kd.R_slice HO616.out; subst eo11))
   go_ret2
   exact ⟨er, bl HB⟩
  ·rw [if_neg c6] at H
   have c6b0 : decide (65536 < (t614.length : Int)) = false := decide_eq_false c6
   have c6b1 : decide (65536 < t614.length) = false := decide_eq_false (by omega)
   clear c6
   simp only [Option.some.injEq, Prod.mk.injEq] at H
   obtain ⟨rfl, rfl⟩ := H
   go_enter Tryd.func52, Tryd.ntmps52
   go_wp2_with (first | ((with_reducible refine gate_dst (N := 2) rfl ?_); refine box_event rfl (N := 2) rfl (cs := #[.string a0_0, .slice A0_1 l0_1.length c0_1, .slice A0_2 l0_2.length c0_2, .slice A0_3 l0_3.length c0_3, .slice A0_4 l0_4.length c0_4]) (t := 65) gs ?_; intro gb612 hg w12 hbox hb; have BK612 := am (hbox); have GW612 := gw hg HB; have GE612 := gw hg HB; replace HB := sb HB hb; clear hb hbox hg; obtain ⟨Z13_0, Z13_1, Z13_2, Z13_3, Z13_4, Y13_0, Y13_1, Y13_2, Y13_3, Y13_4⟩ := bq5 BK612) | ((with_reducible refine gate_callee (f := 83) rfl ?_); refine goesL_ (some 10) rfl rfl Tryd.func83 (by kernel_rfl) rfl #[.agg #[.string a0_0, .slice A0_1 l0_1.length c0_1, .slice A0_2 l0_2.length c0_2, .slice A0_3 l0_3.length c0_3, .slice A0_4 l0_4.length c0_4], .slice A1 l1.length c1] rfl ar ?_; (with_reducible refine (schema_Admits.calls a0_0 _ _ l0_1 _ _ l0_2 _ _ l0_3 _ _ l0_4 _ _ l1 t613 _ (Kd.cb HR0_1 HB) HC0_1.out (Kd.cb HR0_2 HB) HC0_2.out (Kd.cb HR0_3 HB) HC0_3.out (Kd.cb HR0_4 HB) HC0_4.out (Kd.cb HR1 HB) HC1.out (Glob.below HG.out (bl HB)) A3.out).mono ?_); rintro e w14 ⟨rfl, hb⟩; refine ⟨_, rfl, ?_⟩; replace BK612 := kb BK612 hb; replace HB := sb HB hb; (try clear hb); (try clear hb2 hk hi)) | ((with_reducible refine gate_callee (f := 84) rfl ?_); refine goesL_ (some 15) rfl rfl Tryd.func84 (by kernel_rfl) rfl #[.slice A1 l1.length c1] rfl ar ?_; (with_reducible refine (row_encode.calls k _ _ l1 t614 _ (Kd.cb HR1 HB) HC1.out A5.out).mono ?_); rintro e w15 ⟨v615, rfl, ho0, hb⟩; refine ⟨_, rfl, ?_⟩; have n0_ := am (Kd.R_lower ho0 (below_size (bl HB))); have n1_ := kb BK612 hb; have n2_ := sb HB hb; clear BK612; clear HB; have HO616 := n0_; have BK612 := n1_; have HB := n2_; clear n0_ n1_ n2_; (try clear hb); (try clear hb2 hk hi); (try clear ho0); obtain ⟨Ao16, co16, eo16⟩ := Kd.R_slice HO616.out; subst eo16; have hcv17 := own_string (P := Tryd.prog) Tryd.underlying80 Tryd.underlying5 Tryd.underlying9 (Kd.own_of_R HO616.out)))
   go_ret2
   exact ⟨er, bl HB⟩
 ·rw [if_neg c4] at H
  have c4b0 : (t613 == 0) = false := beq_eq_false_iff_ne.mpr c4
  have c4b1 : (t613 != 0) = true := bne_iff_ne.mpr c4
  simp only [Option.some.injEq, Prod.mk.injEq] at H
  obtain ⟨rfl, rfl⟩ := H
  go_enter Tryd.func52, Tryd.ntmps52
  go_wp2_with (first | ((with_reducible refine gate_dst (N := 2) rfl ?_); refine box_event rfl (N := 2) rfl (cs := #[.string a0_0, .slice A0_1 l0_1.length c0_1, .slice A0_2 l0_2.length c0_2, .slice A0_3 l0_3.length c0_3, .slice A0_4 l0_4.length c0_4]) (t := 65) gs ?_; intro gb612 hg w18 hbox hb; have BK612 := am (hbox); have GW612 := gw hg HB; have GE612 := gw hg HB; replace HB := sb HB hb; clear hb hbox hg; obtain ⟨Z19_0, Z19_1, Z19_2, Z19_3, Z19_4, Y19_0, Y19_1, Y19_2, Y19_3, Y19_4⟩ := bq5 BK612) | ((with_reducible refine gate_callee (f := 83) rfl ?_); refine goesL_ (some 10) rfl rfl Tryd.func83 (by kernel_rfl) rfl #[.agg #[.string a0_0, .slice A0_1 l0_1.length c0_1, .slice A0_2 l0_2.length c0_2, .slice A0_3 l0_3.length c0_3, .slice A0_4 l0_4.length c0_4], .slice A1 l1.length c1] rfl ar ?_; (with_reducible refine (schema_Admits.calls a0_0 _ _ l0_1 _ _ l0_2 _ _ l0_3 _ _ l0_4 _ _ l1 t613 _ (Kd.cb HR0_1 HB) HC0_1.out (Kd.cb HR0_2 HB) HC0_2.out (Kd.cb HR0_3 HB) HC0_3.out (Kd.cb HR0_4 HB) HC0_4.out (Kd.cb HR1 HB) HC1.out (Glob.below HG.out (bl HB)) A3.out).mono ?_); rintro e w20 ⟨rfl, hb⟩; refine ⟨_, rfl, ?_⟩; replace BK612 := kb BK612 hb; replace HB := sb HB hb; (try clear hb); (try clear hb2 hk hi)))
  go_ret2
  exact ⟨er, bl HB⟩
def vellumref03_small.f (a0 : Int) : Option (Bool) := if a0 ≥ 97 then (if a0 ≤ 122 then (some true) else (some (a0 == 95))) else (some (a0 == 95))
set_option maxHeartbeats 8000000 in
set_option maxRecDepth 100000 in
theorem vellumref03_small.calls (a0 : Int) (r : Bool) (w : World) (h : vellumref03_small.f a0 = some r) :
  Calls Tryd.prog 171 #[.int .u8 a0] w fun e w' => e = .returned (.bool r) ∧ Drawn0 w w' := by
 have H : (if a0 ≥ 97 then (if a0 ≤ 122 then (some true) else (some (a0 == 95))) else (some (a0 == 95))) = some r := h
 clear h
 by_cases c2 : a0 ≥ 97
 ·rw [if_pos c2] at H
  have c2b0 : decide (97 ≤ a0) = true := decide_eq_true c2
  clear c2
  by_cases c3 : a0 ≤ 122
  ·rw [if_pos c3] at H
   have c3b0 : decide (a0 ≤ 122) = true := decide_eq_true c3
   clear c3
   obtain rfl := Option.some.inj H
   go_enter Tryd.func171, Tryd.ntmps171
   go_wp2
   go_ret
   exact ⟨eb, by repeat (first | exact Drawn0.refl _ | apply Drawn0.step)⟩
  ·rw [if_neg c3] at H
   have c3b0 : decide (a0 ≤ 122) = false := decide_eq_false c3
   clear c3
   obtain rfl := Option.some.inj H
   go_enter Tryd.func171, Tryd.ntmps171
   go_wp2
   go_ret
   exact ⟨eb, by repeat (first | exact Drawn0.refl _ | apply Drawn0.step)⟩
 ·rw [if_neg c2] at H
  have c2b0 : decide (97 ≤ a0) = false := decide_eq_false c2
  clear c2
  obtain rfl := Option.some.inj H
  go_enter Tryd.func171, Tryd.ntmps171
  go_wp2
  go_ret
  exact ⟨eb, by repeat (first | exact Drawn0.refl _ | apply Drawn0.step)⟩
def vellumref03_in.l0 : Nat → List ByteArray → ByteArray → Int → Option (Bool)
 | 0, _, _, _ => none
 | k + 1, x0, x1, x5 => if x5 < (x0.length : Int) then (if 0 ≤ x5 then (if (rdOf ByteArray.empty x0 x5).toList = x1.toList then (some true) else (vellumref03_in.l0 k x0 x1 (wrap64 (x5 + 1)))) else (none)) else (some false)
def vellumref03_in.f (k : Nat) (l0 : List ByteArray) (a1 : ByteArray) : Option (Bool) := vellumref03_in.l0 k l0 a1 0
set_option maxHeartbeats 8000000 in
set_option maxRecDepth 100000 in
theorem vellumref03_in.calls (k : Nat) (A0 : Option Addr) (c0 : Nat) (l0 : List ByteArray) (a1 : ByteArray) (r : Bool) (w : World) (hr0 : Kd.C Kd.string w A0 l0.length l0) (hc0 : l0.length ≤ c0) (h : vellumref03_in.f k l0 a1 = some r) :
  Calls Tryd.prog 172 #[.slice A0 l0.length c0, .string a1] w fun e w' => e = .returned (.bool r) ∧ Drawn0 w w' := by
 have HR0 := am hr0
 have HC0 := am hc0
 clear hr0 hc0
 have H : (vellumref03_in.l0 k l0 a1 0) = some r := h
 clear h
 have H' := am H
 clear H
 go_enter Tryd.func172, Tryd.ntmps172
 go_wp2
 go_loopg [5] k (fun kq v5 w' => ∃ (x5_1 : Int), v5 = .int .i64 x5_1 ∧ Aside0 (vellumref03_in.l0 kq l0 a1 x5_1 = some r) ∧ Aside0 (kq ≤ k) ∧ Drawn0 w w')
 case atStart => exact ⟨(0), eb, H', ⟨Nat.le_refl _⟩, by repeat (first | exact Drawn0.refl _ | apply Drawn0.step)⟩
 case round =>
  clear H'
  (try clear c1); (try clear p2)
  obtain ⟨x5_1, rfl, HA, HK1, ⟨m1, rfl⟩⟩ := hrel
  cases gk with
  | zero => exact absurd HA.out (by simp [vellumref03_in.l0])
  | succ k1 =>
   have H := HA.out
   clear HA
   simp only [vellumref03_in.l0] at H
   by_cases c3 : x5_1 < (l0.length : Int)
   ·rw [if_pos c3] at H
    have c3b0 : decide (x5_1 < (l0.length : Int)) = true := decide_eq_true c3
    clear c3
    by_cases c4 : 0 ≤ x5_1
    ·rw [if_pos c4] at H
     have c4b0 : decide (0 ≤ x5_1) = true := decide_eq_true c4
     clear c4
     by_cases c5 : (rdOf ByteArray.empty l0 x5_1).toList = a1.toList
     ·rw [if_pos c5] at H
      have c5b0 : ((rdOf ByteArray.empty l0 x5_1).toList == a1.toList) = true := beq_iff_eq.mpr c5
      have c5b1 : ((rdOf ByteArray.empty l0 x5_1).toList != a1.toList) = false := bne_eq_false_iff_eq.mpr c5
      clear c5
      obtain rfl := Option.some.inj H
      have p617 : 0 ≤ (x5_1 : Int) := oda
      have q617 : x5_1 < (l0.length : Int) := oda
      obtain ⟨ad617, e617, hx617_0⟩ := Kd.at_string HR0.out x5_1 p617 q617
      cases e617
      replace p617 := eq_true p617
      replace q617 := eq_true q617
      go_wp2
      go_ret
      exact ⟨eb, by repeat (first | exact Drawn0.refl _ | apply Drawn0.step)⟩
     ·rw [if_neg c5] at H
      have c5b0 : ((rdOf ByteArray.empty l0 x5_1).toList == a1.toList) = false := beq_eq_false_iff_ne.mpr c5
      have c5b1 : ((rdOf ByteArray.empty l0 x5_1).toList != a1.toList) = true := bne_iff_ne.mpr c5
      have H' := am H
      clear H
      have p617 : 0 ≤ (x5_1 : Int) := oda
      have q617 : x5_1 < (l0.length : Int) := oda
      obtain ⟨ad617, e617, hx617_0⟩ := Kd.at_string HR0.out x5_1 p617 q617
      cases e617
      replace p617 := eq_true p617
      replace q617 := eq_true q617
      go_wp2
      go_roundg k1
      case measure => have := HK1.out; omega
      case rel => exact ⟨(wrap64 (x5_1 + 1)), eb, H', ⟨by have := HK1.out; omega⟩, by repeat (first | exact Drawn0.refl _ | apply Drawn0.step)⟩
    ·rw [if_neg c4] at H
     exact absurd H (by simp)
   ·rw [if_neg c3] at H
    have c3b0 : decide (x5_1 < (l0.length : Int)) = false := decide_eq_false c3
    clear c3
    obtain rfl := Option.some.inj H
    go_wp2
    go_ret
    exact ⟨eb, by repeat (first | exact Drawn0.refl _ | apply Drawn0.step)⟩
def vellumref03_words.f  : Option (List ByteArray) := some (([(⟨#[97, 110, 100]⟩ : ByteArray), (⟨#[98, 111, 111, 108]⟩ : ByteArray), (⟨#[98, 121, 116, 101, 115]⟩ : ByteArray), (⟨#[99, 114, 101, 97, 116, 101]⟩ : ByteArray), (⟨#[100, 101, 102, 97, 117, 108, 116]⟩ : ByteArray), (⟨#[102, 97, 108, 115, 101]⟩ : ByteArray), (⟨#[102, 108, 111, 97, 116]⟩ : ByteArray), (⟨#[102, 111, 114, 101, 105, 103, 110]⟩ : ByteArray), (⟨#[105, 110]⟩ : ByteArray), (⟨#[105, 110, 100, 101, 120]⟩ : ByteArray), (⟨#[105, 110, 116]⟩ : ByteArray), (⟨#[105, 115]⟩ : ByteArray), (⟨#[107, 101, 121]⟩ : ByteArray), (⟨#[110, 111, 116]⟩ : ByteArray), (⟨#[110, 117, 108, 108]⟩ : ByteArray), (⟨#[111, 114]⟩ : ByteArray), (⟨#[112, 114, 105, 109, 97, 114, 121]⟩ : ByteArray), (⟨#[114, 101, 102, 101, 114, 101, 110, 99, 101, 115]⟩ : ByteArray), (⟨#[116, 97, 98, 108, 101]⟩ : ByteArray), (⟨#[116, 101, 120, 116]⟩ : ByteArray), (⟨#[116, 114, 117, 101]⟩ : ByteArray), (⟨#[117, 110, 105, 113, 117, 101]⟩ : ByteArray), (⟨#[97, 98, 111, 114, 116]⟩ : ByteArray), (⟨#[97, 115]⟩ : ByteArray), (⟨#[97, 115, 99]⟩ : ByteArray), (⟨#[97, 116]⟩ : ByteArray), (⟨#[97, 118, 103]⟩ : ByteArray), (⟨#[98, 101, 103, 105, 110]⟩ : ByteArray), (⟨#[98, 101, 116, 119, 101, 101, 110]⟩ : ByteArray), (⟨#[98, 121]⟩ : ByteArray), (⟨#[99, 111, 109, 109, 105, 116]⟩ : ByteArray), (⟨#[99, 111, 117, 110, 116]⟩ : ByteArray), (⟨#[100, 101, 108, 101, 116, 101]⟩ : ByteArray), (⟨#[100, 101, 115, 99]⟩ : ByteArray), (⟨#[100, 114, 111, 112]⟩ : ByteArray), (⟨#[102, 114, 111, 109]⟩ : ByteArray), (⟨#[103, 114, 111, 117, 112]⟩ : ByteArray), (⟨#[105, 110, 115, 101, 114, 116]⟩ : ByteArray), (⟨#[105, 110, 116, 111]⟩ : ByteArray), (⟨#[108, 105, 109, 105, 116]⟩ : ByteArray), (⟨#[109, 97, 120]⟩ : ByteArray), (⟨#[109, 105, 110]⟩ : ByteArray), (⟨#[111, 102]⟩ : ByteArray), (⟨#[111, 114, 100, 101, 114]⟩ : ByteArray), (⟨#[114, 101, 108, 101, 97, 115, 101]⟩ : ByteArray), (⟨#[114, 111, 108, 108, 98, 97, 99, 107]⟩ : ByteArray), (⟨#[115, 97, 118, 101, 112, 111, 105, 110, 116]⟩ : ByteArray), (⟨#[115, 101, 108, 101, 99, 116]⟩ : ByteArray), (⟨#[115, 101, 116]⟩ : ByteArray), (⟨#[115, 117, 109]⟩ : ByteArray), (⟨#[116, 111]⟩ : ByteArray), (⟨#[117, 112, 100, 97, 116, 101]⟩ : ByteArray), (⟨#[118, 97, 108, 117, 101, 115]⟩ : ByteArray), (⟨#[119, 104, 101, 114, 101]⟩ : ByteArray), (⟨#[119, 105, 116, 104]⟩ : ByteArray)] : List ByteArray))
set_option maxHeartbeats 8000000 in
set_option maxRecDepth 100000 in
theorem vellumref03_words.calls  (r : List ByteArray) (w : World) (h : vellumref03_words.f  = some r) :
  Calls Tryd.prog 173 #[] w fun e w' => ∃ v0_ : Value, e = .returned (v0_) ∧ Kd.R Kd.string 9 w' w.heap.size (fun _ => True) v0_ r ∧ Below w.heap.size w w' := by
 have HB := am (Below.refl w.heap.size w)
 have H : (some (([(⟨#[97, 110, 100]⟩ : ByteArray), (⟨#[98, 111, 111, 108]⟩ : ByteArray), (⟨#[98, 121, 116, 101, 115]⟩ : ByteArray), (⟨#[99, 114, 101, 97, 116, 101]⟩ : ByteArray), (⟨#[100, 101, 102, 97, 117, 108, 116]⟩ : ByteArray), (⟨#[102, 97, 108, 115, 101]⟩ : ByteArray), (⟨#[102, 108, 111, 97, 116]⟩ : ByteArray), (⟨#[102, 111, 114, 101, 105, 103, 110]⟩ : ByteArray), (⟨#[105, 110]⟩ : ByteArray), (⟨#[105, 110, 100, 101, 120]⟩ : ByteArray), (⟨#[105, 110, 116]⟩ : ByteArray), (⟨#[105, 115]⟩ : ByteArray), (⟨#[107, 101, 121]⟩ : ByteArray), (⟨#[110, 111, 116]⟩ : ByteArray), (⟨#[110, 117, 108, 108]⟩ : ByteArray), (⟨#[111, 114]⟩ : ByteArray), (⟨#[112, 114, 105, 109, 97, 114, 121]⟩ : ByteArray), (⟨#[114, 101, 102, 101, 114, 101, 110, 99, 101, 115]⟩ : ByteArray), (⟨#[116, 97, 98, 108, 101]⟩ : ByteArray), (⟨#[116, 101, 120, 116]⟩ : ByteArray), (⟨#[116, 114, 117, 101]⟩ : ByteArray), (⟨#[117, 110, 105, 113, 117, 101]⟩ : ByteArray), (⟨#[97, 98, 111, 114, 116]⟩ : ByteArray), (⟨#[97, 115]⟩ : ByteArray), (⟨#[97, 115, 99]⟩ : ByteArray), (⟨#[97, 116]⟩ : ByteArray), (⟨#[97, 118, 103]⟩ : ByteArray), (⟨#[98, 101, 103, 105, 110]⟩ : ByteArray), (⟨#[98, 101, 116, 119, 101, 101, 110]⟩ : ByteArray), (⟨#[98, 121]⟩ : ByteArray), (⟨#[99, 111, 109, 109, 105, 116]⟩ : ByteArray), (⟨#[99, 111, 117, 110, 116]⟩ : ByteArray), (⟨#[100, 101, 108, 101, 116, 101]⟩ : ByteArray), (⟨#[100, 101, 115, 99]⟩ : ByteArray), (⟨#[100, 114, 111, 112]⟩ : ByteArray), (⟨#[102, 114, 111, 109]⟩ : ByteArray), (⟨#[103, 114, 111, 117, 112]⟩ : ByteArray), (⟨#[105, 110, 115, 101, 114, 116]⟩ : ByteArray), (⟨#[105, 110, 116, 111]⟩ : ByteArray), (⟨#[108, 105, 109, 105, 116]⟩ : ByteArray), (⟨#[109, 97, 120]⟩ : ByteArray), (⟨#[109, 105, 110]⟩ : ByteArray), (⟨#[111, 102]⟩ : ByteArray), (⟨#[111, 114, 100, 101, 114]⟩ : ByteArray), (⟨#[114, 101, 108, 101, 97, 115, 101]⟩ : ByteArray), (⟨#[114, 111, 108, 108, 98, 97, 99, 107]⟩ : ByteArray), (⟨#[115, 97, 118, 101, 112, 111, 105, 110, 116]⟩ : ByteArray), (⟨#[115, 101, 108, 101, 99, 116]⟩ : ByteArray), (⟨#[115, 101, 116]⟩ : ByteArray), (⟨#[115, 117, 109]⟩ : ByteArray), (⟨#[116, 111]⟩ : ByteArray), (⟨#[117, 112, 100, 97, 116, 101]⟩ : ByteArray), (⟨#[118, 97, 108, 117, 101, 115]⟩ : ByteArray), (⟨#[119, 104, 101, 114, 101]⟩ : ByteArray), (⟨#[119, 105, 116, 104]⟩ : ByteArray)] : List ByteArray))) = some r := h
 clear h
 obtain ⟨y618, hy618⟩ : ∃ y_ : List ByteArray, y_ = (([(⟨#[97, 110, 100]⟩ : ByteArray), (⟨#[98, 111, 111, 108]⟩ : ByteArray), (⟨#[98, 121, 116, 101, 115]⟩ : ByteArray), (⟨#[99, 114, 101, 97, 116, 101]⟩ : ByteArray), (⟨#[100, 101, 102, 97, 117, 108, 116]⟩ : ByteArray), (⟨#[102, 97, 108, 115, 101]⟩ : ByteArray), (⟨#[102, 108, 111, 97, 116]⟩ : ByteArray), (⟨#[102, 111, 114, 101, 105, 103, 110]⟩ : ByteArray), (⟨#[105, 110]⟩ : ByteArray), (⟨#[105, 110, 100, 101, 120]⟩ : ByteArray), (⟨#[105, 110, 116]⟩ : ByteArray), (⟨#[105, 115]⟩ : ByteArray), (⟨#[107, 101, 121]⟩ : ByteArray), (⟨#[110, 111, 116]⟩ : ByteArray), (⟨#[110, 117, 108, 108]⟩ : ByteArray), (⟨#[111, 114]⟩ : ByteArray), (⟨#[112, 114, 105, 109, 97, 114, 121]⟩ : ByteArray), (⟨#[114, 101, 102, 101, 114, 101, 110, 99, 101, 115]⟩ : ByteArray), (⟨#[116, 97, 98, 108, 101]⟩ : ByteArray), (⟨#[116, 101, 120, 116]⟩ : ByteArray), (⟨#[116, 114, 117, 101]⟩ : ByteArray), (⟨#[117, 110, 105, 113, 117, 101]⟩ : ByteArray), (⟨#[97, 98, 111, 114, 116]⟩ : ByteArray), (⟨#[97, 115]⟩ : ByteArray), (⟨#[97, 115, 99]⟩ : ByteArray), (⟨#[97, 116]⟩ : ByteArray), (⟨#[97, 118, 103]⟩ : ByteArray), (⟨#[98, 101, 103, 105, 110]⟩ : ByteArray), (⟨#[98, 101, 116, 119, 101, 101, 110]⟩ : ByteArray), (⟨#[98, 121]⟩ : ByteArray), (⟨#[99, 111, 109, 109, 105, 116]⟩ : ByteArray), (⟨#[99, 111, 117, 110, 116]⟩ : ByteArray), (⟨#[100, 101, 108, 101, 116, 101]⟩ : ByteArray), (⟨#[100, 101, 115, 99]⟩ : ByteArray), (⟨#[100, 114, 111, 112]⟩ : ByteArray), (⟨#[102, 114, 111, 109]⟩ : ByteArray), (⟨#[103, 114, 111, 117, 112]⟩ : ByteArray), (⟨#[105, 110, 115, 101, 114, 116]⟩ : ByteArray), (⟨#[105, 110, 116, 111]⟩ : ByteArray), (⟨#[108, 105, 109, 105, 116]⟩ : ByteArray), (⟨#[109, 97, 120]⟩ : ByteArray), (⟨#[109, 105, 110]⟩ : ByteArray), (⟨#[111, 102]⟩ : ByteArray), (⟨#[111, 114, 100, 101, 114]⟩ : ByteArray), (⟨#[114, 101, 108, 101, 97, 115, 101]⟩ : ByteArray), (⟨#[114, 111, 108, 108, 98, 97, 99, 107]⟩ : ByteArray), (⟨#[115, 97, 118, 101, 112, 111, 105, 110, 116]⟩ : ByteArray), (⟨#[115, 101, 108, 101, 99, 116]⟩ : ByteArray), (⟨#[115, 101, 116]⟩ : ByteArray), (⟨#[115, 117, 109]⟩ : ByteArray), (⟨#[116, 111]⟩ : ByteArray), (⟨#[117, 112, 100, 97, 116, 101]⟩ : ByteArray), (⟨#[118, 97, 108, 117, 101, 115]⟩ : ByteArray), (⟨#[119, 104, 101, 114, 101]⟩ : ByteArray), (⟨#[119, 105, 116, 104]⟩ : ByteArray)] : List ByteArray)) := ⟨_, rfl⟩
 replace H : (some y618) = some r := by first | (rw [hy618]; with_reducible exact H) | (have H2_ := (Option.bind_some _ _).symm.trans H; rw [hy618]; with_reducible exact H2_) | (have H2_ := (Option.bind_some _ _).symm.trans H; with_reducible exact H2_) | with_reducible exact H | (rw [hy618]; exact H) | exact H
 have Ny618 := am hy618
 clear hy618
 obtain rfl := Option.some.inj H
 go_enter Tryd.func173, Tryd.ntmps173
 go_wp2_with (first | ((with_reducible refine gate_dst (N := 1) rfl ?_); refine Kd.R_lit Kd.string _ 9 ?hg (N := 1) ?hd (xs := ([(⟨#[97, 110, 100]⟩ : ByteArray), (⟨#[98, 111, 111, 108]⟩ : ByteArray), (⟨#[98, 121, 116, 101, 115]⟩ : ByteArray), (⟨#[99, 114, 101, 97, 116, 101]⟩ : ByteArray), (⟨#[100, 101, 102, 97, 117, 108, 116]⟩ : ByteArray), (⟨#[102, 97, 108, 115, 101]⟩ : ByteArray), (⟨#[102, 108, 111, 97, 116]⟩ : ByteArray), (⟨#[102, 111, 114, 101, 105, 103, 110]⟩ : ByteArray), (⟨#[105, 110]⟩ : ByteArray), (⟨#[105, 110, 100, 101, 120]⟩ : ByteArray), (⟨#[105, 110, 116]⟩ : ByteArray), (⟨#[105, 115]⟩ : ByteArray), (⟨#[107, 101, 121]⟩ : ByteArray), (⟨#[110, 111, 116]⟩ : ByteArray), (⟨#[110, 117, 108, 108]⟩ : ByteArray), (⟨#[111, 114]⟩ : ByteArray), (⟨#[112, 114, 105, 109, 97, 114, 121]⟩ : ByteArray), (⟨#[114, 101, 102, 101, 114, 101, 110, 99, 101, 115]⟩ : ByteArray), (⟨#[116, 97, 98, 108, 101]⟩ : ByteArray), (⟨#[116, 101, 120, 116]⟩ : ByteArray), (⟨#[116, 114, 117, 101]⟩ : ByteArray), (⟨#[117, 110, 105, 113, 117, 101]⟩ : ByteArray), (⟨#[97, 98, 111, 114, 116]⟩ : ByteArray), (⟨#[97, 115]⟩ : ByteArray), (⟨#[97, 115, 99]⟩ : ByteArray), (⟨#[97, 116]⟩ : ByteArray), (⟨#[97, 118, 103]⟩ : ByteArray), (⟨#[98, 101, 103, 105, 110]⟩ : ByteArray), (⟨#[98, 101, 116, 119, 101, 101, 110]⟩ : ByteArray), (⟨#[98, 121]⟩ : ByteArray), (⟨#[99, 111, 109, 109, 105, 116]⟩ : ByteArray), (⟨#[99, 111, 117, 110, 116]⟩ : ByteArray), (⟨#[100, 101, 108, 101, 116, 101]⟩ : ByteArray), (⟨#[100, 101, 115, 99]⟩ : ByteArray), (⟨#[100, 114, 111, 112]⟩ : ByteArray), (⟨#[102, 114, 111, 109]⟩ : ByteArray), (⟨#[103, 114, 111, 117, 112]⟩ : ByteArray), (⟨#[105, 110, 115, 101, 114, 116]⟩ : ByteArray), (⟨#[105, 110, 116, 111]⟩ : ByteArray), (⟨#[108, 105, 109, 105, 116]⟩ : ByteArray), (⟨#[109, 97, 120]⟩ : ByteArray), (⟨#[109, 105, 110]⟩ : ByteArray), (⟨#[111, 102]⟩ : ByteArray), (⟨#[111, 114, 100, 101, 114]⟩ : ByteArray), (⟨#[114, 101, 108, 101, 97, 115, 101]⟩ : ByteArray), (⟨#[114, 111, 108, 108, 98, 97, 99, 107]⟩ : ByteArray), (⟨#[115, 97, 118, 101, 112, 111, 105, 110, 116]⟩ : ByteArray), (⟨#[115, 101, 108, 101, 99, 116]⟩ : ByteArray), (⟨#[115, 101, 116]⟩ : ByteArray), (⟨#[115, 117, 109]⟩ : ByteArray), (⟨#[116, 111]⟩ : ByteArray), (⟨#[117, 112, 100, 97, 116, 101]⟩ : ByteArray), (⟨#[118, 97, 108, 117, 101, 115]⟩ : ByteArray), (⟨#[119, 104, 101, 114, 101]⟩ : ByteArray), (⟨#[119, 105, 116, 104]⟩ : ByteArray)] : List ByteArray)) (inner := [.string (⟨#[97, 110, 100]⟩ : ByteArray), .string (⟨#[98, 111, 111, 108]⟩ : ByteArray), .string (⟨#[98, 121, 116, 101, 115]⟩ : ByteArray), .string (⟨#[99, 114, 101, 97, 116, 101]⟩ : ByteArray), .string (⟨#[100, 101, 102, 97, 117, 108, 116]⟩ : ByteArray), .string (⟨#[102, 97, 108, 115, 101]⟩ : ByteArray), .string (⟨#[102, 108, 111, 97, 116]⟩ : ByteArray), .string (⟨#[102, 111, 114, 101, 105, 103, 110]⟩ : ByteArray), .string (⟨#[105, 110]⟩ : ByteArray), .string (⟨#[105, 110, 100, 101, 120]⟩ : ByteArray), .string (⟨#[105, 110, 116]⟩ : ByteArray), .string (⟨#[105, 115]⟩ : ByteArray), .string (⟨#[107, 101, 121]⟩ : ByteArray), .string (⟨#[110, 111, 116]⟩ : ByteArray), .string (⟨#[110, 117, 108, 108]⟩ : ByteArray), .string (⟨#[111, 114]⟩ : ByteArray), .string (⟨#[112, 114, 105, 109, 97, 114, 121]⟩ : ByteArray), .string (⟨#[114, 101, 102, 101, 114, 101, 110, 99, 101, 115]⟩ : ByteArray), .string (⟨#[116, 97, 98, 108, 101]⟩ : ByteArray), .string (⟨#[116, 101, 120, 116]⟩ : ByteArray), .string (⟨#[116, 114, 117, 101]⟩ : ByteArray), .string (⟨#[117, 110, 105, 113, 117, 101]⟩ : ByteArray), .string (⟨#[97, 98, 111, 114, 116]⟩ : ByteArray), .string (⟨#[97, 115]⟩ : ByteArray), .string (⟨#[97, 115, 99]⟩ : ByteArray), .string (⟨#[97, 116]⟩ : ByteArray), .string (⟨#[97, 118, 103]⟩ : ByteArray), .string (⟨#[98, 101, 103, 105, 110]⟩ : ByteArray), .string (⟨#[98, 101, 116, 119, 101, 101, 110]⟩ : ByteArray), .string (⟨#[98, 121]⟩ : ByteArray), .string (⟨#[99, 111, 109, 109, 105, 116]⟩ : ByteArray), .string (⟨#[99, 111, 117, 110, 116]⟩ : ByteArray), .string (⟨#[100, 101, 108, 101, 116, 101]⟩ : ByteArray), .string (⟨#[100, 101, 115, 99]⟩ : ByteArray), .string (⟨#[100, 114, 111, 112]⟩ : ByteArray), .string (⟨#[102, 114, 111, 109]⟩ : ByteArray), .string (⟨#[103, 114, 111, 117, 112]⟩ : ByteArray), .string (⟨#[105, 110, 115, 101, 114, 116]⟩ : ByteArray), .string (⟨#[105, 110, 116, 111]⟩ : ByteArray), .string (⟨#[108, 105, 109, 105, 116]⟩ : ByteArray), .string (⟨#[109, 97, 120]⟩ : ByteArray), .string (⟨#[109, 105, 110]⟩ : ByteArray), .string (⟨#[111, 102]⟩ : ByteArray), .string (⟨#[111, 114, 100, 101, 114]⟩ : ByteArray), .string (⟨#[114, 101, 108, 101, 97, 115, 101]⟩ : ByteArray), .string (⟨#[114, 111, 108, 108, 98, 97, 99, 107]⟩ : ByteArray), .string (⟨#[115, 97, 118, 101, 112, 111, 105, 110, 116]⟩ : ByteArray), .string (⟨#[115, 101, 108, 101, 99, 116]⟩ : ByteArray), .string (⟨#[115, 101, 116]⟩ : ByteArray), .string (⟨#[115, 117, 109]⟩ : ByteArray), .string (⟨#[116, 111]⟩ : ByteArray), .string (⟨#[117, 112, 100, 97, 116, 101]⟩ : ByteArray), .string (⟨#[118, 97, 108, 117, 101, 115]⟩ : ByteArray), .string (⟨#[119, 104, 101, 114, 101]⟩ : ByteArray), .string (⟨#[119, 105, 116, 104]⟩ : ByteArray)]) (ok := fun _ => True) (okp := fun _ => True) ?hr ?hp (fun _ hk => hk) trivial (Below.refl _ _) (Nat.le_refl _) (by simp) ?_; (case hd => rfl); (case hg => rfl); (case hr => first | (go_simp; done) | (go_simp; rfl)); (case hp => exact (Reps.one (show Kd.M Kd.string _ _ _ (⟨#[97, 110, 100]⟩ : ByteArray) [.string (⟨#[97, 110, 100]⟩ : ByteArray)] from rfl) (Reps.one (show Kd.M Kd.string _ _ _ (⟨#[98, 111, 111, 108]⟩ : ByteArray) [.string (⟨#[98, 111, 111, 108]⟩ : ByteArray)] from rfl) (Reps.one (show Kd.M Kd.string _ _ _ (⟨#[98, 121, 116, 101, 115]⟩ : ByteArray) [.string (⟨#[98, 121, 116, 101, 115]⟩ : ByteArray)] from rfl) (Reps.one (show Kd.M Kd.string _ _ _ (⟨#[99, 114, 101, 97, 116, 101]⟩ : ByteArray) [.string (⟨#[99, 114, 101, 97, 116, 101]⟩ : ByteArray)] from rfl) (Reps.one (show Kd.M Kd.string _ _ _ (⟨#[100, 101, 102, 97, 117, 108, 116]⟩ : ByteArray) [.string (⟨#[100, 101, 102, 97, 117, 108, 116]⟩ : ByteArray)] from rfl) (Reps.one (show Kd.M Kd.string _ _ _ (⟨#[102, 97, 108, 115, 101]⟩ : ByteArray) [.string (⟨#[102, 97, 108, 115, 101]⟩ : ByteArray)] from rfl) (Reps.one (show Kd.M Kd.string _ _ _ (⟨#[102, 108, 111, 97, 116]⟩ : ByteArray) [.string (⟨#[102, 108, 111, 97, 116]⟩ : ByteArray)] from rfl) (Reps.one (show Kd.M Kd.string _ _ _ (⟨#[102, 111, 114, 101, 105, 103, 110]⟩ : ByteArray) [.string (⟨#[102, 111, 114, 101, 105, 103, 110]⟩ : ByteArray)] from rfl) (Reps.one (show Kd.M Kd.string _ _ _ (⟨#[105, 110]⟩ : ByteArray) [.string (⟨#[105, 110]⟩ : ByteArray)] from rfl) (Reps.one (show Kd.M Kd.string _ _ _ (⟨#[105, 110, 100, 101, 120]⟩ : ByteArray) [.string (⟨#[105, 110, 100, 101, 120]⟩ : ByteArray)] from rfl) (Reps.one (show Kd.M Kd.string _ _ _ (⟨#[105, 110, 116]⟩ : ByteArray) [.string (⟨#[105, 110, 116]⟩ : ByteArray)] from rfl) (Reps.one (show Kd.M Kd.string _ _ _ (⟨#[105, 115]⟩ : ByteArray) [.string (⟨#[105, 115]⟩ : ByteArray)] from rfl) (Reps.one (show Kd.M Kd.string _ _ _ (⟨#[107, 101, 121]⟩ : ByteArray) [.string (⟨#[107, 101, 121]⟩ : ByteArray)] from rfl) (Reps.one (show Kd.M Kd.string _ _ _ (⟨#[110, 111, 116]⟩ : ByteArray) [.string (⟨#[110, 111, 116]⟩ : ByteArray)] from rfl) (Reps.one (show Kd.M Kd.string _ _ _ (⟨#[110, 117, 108, 108]⟩ : ByteArray) [.string (⟨#[110, 117, 108, 108]⟩ : ByteArray)] from rfl) (Reps.one (show Kd.M Kd.string _ _ _ (⟨#[111, 114]⟩ : ByteArray) [.string (⟨#[111, 114]⟩ : ByteArray)] from rfl) (Reps.one (show Kd.M Kd.string _ _ _ (⟨#[112, 114, 105, 109, 97, 114, 121]⟩ : ByteArray) [.string (⟨#[112, 114, 105, 109, 97, 114, 121]⟩ : ByteArray)] from rfl) (Reps.one (show Kd.M Kd.string _ _ _ (⟨#[114, 101, 102, 101, 114, 101, 110, 99, 101, 115]⟩ : ByteArray) [.string (⟨#[114, 101, 102, 101, 114, 101, 110, 99, 101, 115]⟩ : ByteArray)] from rfl) (Reps.one (show Kd.M Kd.string _ _ _ (⟨#[116, 97, 98, 108, 101]⟩ : ByteArray) [.string (⟨#[116, 97, 98, 108, 101]⟩ : ByteArray)] from rfl) (Reps.one (show Kd.M Kd.string _ _ _ (⟨#[116, 101, 120, 116]⟩ : ByteArray) [.string (⟨#[116, 101, 120, 116]⟩ : ByteArray)] from rfl) (Reps.one (show Kd.M Kd.string _ _ _ (⟨#[116, 114, 117, 101]⟩ : ByteArray) [.string (⟨#[116, 114, 117, 101]⟩ : ByteArray)] from rfl) (Reps.one (show Kd.M Kd.string _ _ _ (⟨#[117, 110, 105, 113, 117, 101]⟩ : ByteArray) [.string (⟨#[117, 110, 105, 113, 117, 101]⟩ : ByteArray)] from rfl) (Reps.one (show Kd.M Kd.string _ _ _ (⟨#[97, 98, 111, 114, 116]⟩ : ByteArray) [.string (⟨#[97, 98, 111, 114, 116]⟩ : ByteArray)] from rfl) (Reps.one (show Kd.M Kd.string _ _ _ (⟨#[97, 115]⟩ : ByteArray) [.string (⟨#[97, 115]⟩ : ByteArray)] from rfl) (Reps.one (show Kd.M Kd.string _ _ _ (⟨#[97, 115, 99]⟩ : ByteArray) [.string (⟨#[97, 115, 99]⟩ : ByteArray)] from rfl) (Reps.one (show Kd.M Kd.string _ _ _ (⟨#[97, 116]⟩ : ByteArray) [.string (⟨#[97, 116]⟩ : ByteArray)] from rfl) (Reps.one (show Kd.M Kd.string _ _ _ (⟨#[97, 118, 103]⟩ : ByteArray) [.string (⟨#[97, 118, 103]⟩ : ByteArray)] from rfl) (Reps.one (show Kd.M Kd.string _ _ _ (⟨#[98, 101, 103, 105, 110]⟩ : ByteArray) [.string (⟨#[98, 101, 103, 105, 110]⟩ : ByteArray)] from rfl) (Reps.one (show Kd.M Kd.string _ _ _ (⟨#[98, 101, 116, 119, 101, 101, 110]⟩ : ByteArray) [.string (⟨#[98, 101, 116, 119, 101, 101, 110]⟩ : ByteArray)] from rfl) (Reps.one (show Kd.M Kd.string _ _ _ (⟨#[98, 121]⟩ : ByteArray) [.string (⟨#[98, 121]⟩ : ByteArray)] from rfl) (Reps.one (show Kd.M Kd.string _ _ _ (⟨#[99, 111, 109, 109, 105, 116]⟩ : ByteArray) [.string (⟨#[99, 111, 109, 109, 105, 116]⟩ : ByteArray)] from rfl) (Reps.one (show Kd.M Kd.string _ _ _ (⟨#[99, 111, 117, 110, 116]⟩ : ByteArray) [.string (⟨#[99, 111, 117, 110, 116]⟩ : ByteArray)] from rfl) (Reps.one (show Kd.M Kd.string _ _ _ (⟨#[100, 101, 108, 101, 116, 101]⟩ : ByteArray) [.string (⟨#[100, 101, 108, 101, 116, 101]⟩ : ByteArray)] from rfl) (Reps.one (show Kd.M Kd.string _ _ _ (⟨#[100, 101, 115, 99]⟩ : ByteArray) [.string (⟨#[100, 101, 115, 99]⟩ : ByteArray)] from rfl) (Reps.one (show Kd.M Kd.string _ _ _ (⟨#[100, 114, 111, 112]⟩ : ByteArray) [.string (⟨#[100, 114, 111, 112]⟩ : ByteArray)] from rfl) (Reps.one (show Kd.M Kd.string _ _ _ (⟨#[102, 114, 111, 109]⟩ : ByteArray) [.string (⟨#[102, 114, 111, 109]⟩ : ByteArray)] from rfl) (Reps.one (show Kd.M Kd.string _ _ _ (⟨#[103, 114, 111, 117, 112]⟩ : ByteArray) [.string (⟨#[103, 114, 111, 117, 112]⟩ : ByteArray)] from rfl) (Reps.one (show Kd.M Kd.string _ _ _ (⟨#[105, 110, 115, 101, 114, 116]⟩ : ByteArray) [.string (⟨#[105, 110, 115, 101, 114, 116]⟩ : ByteArray)] from rfl) (Reps.one (show Kd.M Kd.string _ _ _ (⟨#[105, 110, 116, 111]⟩ : ByteArray) [.string (⟨#[105, 110, 116, 111]⟩ : ByteArray)] from rfl) (Reps.one (show Kd.M Kd.string _ _ _ (⟨#[108, 105, 109, 105, 116]⟩ : ByteArray) [.string (⟨#[108, 105, 109, 105, 116]⟩ : ByteArray)] from rfl) (Reps.one (show Kd.M Kd.string _ _ _ (⟨#[109, 97, 120]⟩ : ByteArray) [.string (⟨#[109, 97, 120]⟩ : ByteArray)] from rfl) (Reps.one (show Kd.M Kd.string _ _ _ (⟨#[109, 105, 110]⟩ : ByteArray) [.string (⟨#[109, 105, 110]⟩ : ByteArray)] from rfl) (Reps.one (show Kd.M Kd.string _ _ _ (⟨#[111, 102]⟩ : ByteArray) [.string (⟨#[111, 102]⟩ : ByteArray)] from rfl) (Reps.one (show Kd.M Kd.string _ _ _ (⟨#[111, 114, 100, 101, 114]⟩ : ByteArray) [.string (⟨#[111, 114, 100, 101, 114]⟩ : ByteArray)] from rfl) (Reps.one (show Kd.M Kd.string _ _ _ (⟨#[114, 101, 108, 101, 97, 115, 101]⟩ : ByteArray) [.string (⟨#[114, 101, 108, 101, 97, 115, 101]⟩ : ByteArray)] from rfl) (Reps.one (show Kd.M Kd.string _ _ _ (⟨#[114, 111, 108, 108, 98, 97, 99, 107]⟩ : ByteArray) [.string (⟨#[114, 111, 108, 108, 98, 97, 99, 107]⟩ : ByteArray)] from rfl) (Reps.one (show Kd.M Kd.string _ _ _ (⟨#[115, 97, 118, 101, 112, 111, 105, 110, 116]⟩ : ByteArray) [.string (⟨#[115, 97, 118, 101, 112, 111, 105, 110, 116]⟩ : ByteArray)] from rfl) (Reps.one (show Kd.M Kd.string _ _ _ (⟨#[115, 101, 108, 101, 99, 116]⟩ : ByteArray) [.string (⟨#[115, 101, 108, 101, 99, 116]⟩ : ByteArray)] from rfl) (Reps.one (show Kd.M Kd.string _ _ _ (⟨#[115, 101, 116]⟩ : ByteArray) [.string (⟨#[115, 101, 116]⟩ : ByteArray)] from rfl) (Reps.one (show Kd.M Kd.string _ _ _ (⟨#[115, 117, 109]⟩ : ByteArray) [.string (⟨#[115, 117, 109]⟩ : ByteArray)] from rfl) (Reps.one (show Kd.M Kd.string _ _ _ (⟨#[116, 111]⟩ : ByteArray) [.string (⟨#[116, 111]⟩ : ByteArray)] from rfl) (Reps.one (show Kd.M Kd.string _ _ _ (⟨#[117, 112, 100, 97, 116, 101]⟩ : ByteArray) [.string (⟨#[117, 112, 100, 97, 116, 101]⟩ : ByteArray)] from rfl) (Reps.one (show Kd.M Kd.string _ _ _ (⟨#[118, 97, 108, 117, 101, 115]⟩ : ByteArray) [.string (⟨#[118, 97, 108, 117, 101, 115]⟩ : ByteArray)] from rfl) (Reps.one (show Kd.M Kd.string _ _ _ (⟨#[119, 104, 101, 114, 101]⟩ : ByteArray) [.string (⟨#[119, 104, 101, 114, 101]⟩ : ByteArray)] from rfl) (Reps.one (show Kd.M Kd.string _ _ _ (⟨#[119, 105, 116, 104]⟩ : ByteArray) [.string (⟨#[119, 105, 116, 104]⟩ : ByteArray)] from rfl) (Reps.none _ _))))))))))))))))))))))))))))))))))))))))))))))))))))))))); intro v619 w1 ho2 hb hg_ hnew_; clear hg_ hnew_; (first | rw [← Ny618.out] at ho2 | (simp only [Int.reduceToNat] at ho2; rw [← Ny618.out] at ho2)); have n0_ := am (Kd.R_lower ho2 (below_size (bl HB))); have n1_ := sb HB hb; clear HB; have HO620 := n0_; have HB := n1_; clear n0_ n1_; clear hb ho2))
 go_ret
 exact ⟨_, er, Kd.rr HO620.out, bl HB⟩
def vellumref03_digit.f (a0 : Int) : Option (Bool) := if a0 ≥ 48 then (some (decide (a0 ≤ 57))) else (some false)
set_option maxHeartbeats 8000000 in
set_option maxRecDepth 100000 in
theorem vellumref03_digit.calls (a0 : Int) (r : Bool) (w : World) (h : vellumref03_digit.f a0 = some r) :
  Calls Tryd.prog 174 #[.int .u8 a0] w fun e w' => e = .returned (.bool r) ∧ Drawn0 w w' := by
 have H : (if a0 ≥ 48 then (some (decide (a0 ≤ 57))) else (some false)) = some r := h
 clear h
 by_cases c2 : a0 ≥ 48
 ·rw [if_pos c2] at H
  have c2b0 : decide (48 ≤ a0) = true := decide_eq_true c2
  clear c2
  obtain rfl := Option.some.inj H
  go_enter Tryd.func174, Tryd.ntmps174
  go_wp2
  go_ret
  exact ⟨eb, by repeat (first | exact Drawn0.refl _ | apply Drawn0.step)⟩
 ·rw [if_neg c2] at H
  have c2b0 : decide (48 ≤ a0) = false := decide_eq_false c2
  clear c2
  obtain rfl := Option.some.inj H
  go_enter Tryd.func174, Tryd.ntmps174
  go_wp2
  go_ret
  exact ⟨eb, by repeat (first | exact Drawn0.refl _ | apply Drawn0.step)⟩
mutual
def vellumref03_Name.j0 : Nat → ByteArray → Bool → Option (Bool)
 | 0, _, _ => none
 | k + 1, x0, x22 => if x22 = true then (some false) else (vellumref03_Name.l0 k x0 0)
def vellumref03_Name.l0 : Nat → ByteArray → Int → Option (Bool)
 | 0, _, _ => none
 | k + 1, x0, x3 => if x3 < (x0.size : Int) then (if 0 ≤ x3 then ((vellumref03_small.f (bt x0 x3)).bind fun t626 => (if t626 = true then (vellumref03_Name.l0 k x0 (wrap64 (x3 + 1))) else ((vellumref03_digit.f (bt x0 x3)).bind fun t627 => (if t627 = true then (vellumref03_Name.l0 k x0 (wrap64 (x3 + 1))) else (some false))))) else (none)) else (some true)
end
def vellumref03_Name.f (k : Nat) (a0 : ByteArray) : Option (Bool) := if (a0.size : Int) < 1 then (vellumref03_Name.j0 k a0 true) else (if (a0.size : Int) > 63 then (vellumref03_Name.j0 k a0 true) else (if 0 < (a0.size : Int) then ((vellumref03_small.f (bt a0 0)).bind fun t621 => (if t621 = true then ((vellumref03_words.f).bind fun t622 => ((vellumref03_in.f k t622 a0).bind fun t625 => (vellumref03_Name.j0 k a0 t625))) else (vellumref03_Name.j0 k a0 true))) else (none)))
set_option maxHeartbeats 8000000 in
set_option maxRecDepth 100000 in
theorem vellumref03_Name.calls (k : Nat) (a0 : ByteArray) (r : Bool) (w : World) (h : vellumref03_Name.f k a0 = some r) :
  Calls Tryd.prog 132 #[.string a0] w fun e w' => e = .returned (.bool r) ∧ Below w.heap.size w w' := by
 have HB := am (Below.refl w.heap.size w)
 have H : (if (a0.size : Int) < 1 then (vellumref03_Name.j0 k a0 true) else (if (a0.size : Int) > 63 then (vellumref03_Name.j0 k a0 true) else (if 0 < (a0.size : Int) then ((vellumref03_small.f (bt a0 0)).bind fun t621 => (if t621 = true then ((vellumref03_words.f).bind fun t622 => ((vellumref03_in.f k t622 a0).bind fun t625 => (vellumref03_Name.j0 k a0 t625))) else (vellumref03_Name.j0 k a0 true))) else (none)))) = some r := h
 clear h
 have HC2 := am H
 clear H
 go_enter Tryd.func132, Tryd.ntmps132
 go_upto_region 1 with (fail)
 go_cut [22] (fun v22 wc => ∃ (kq : Nat) (x22_1 : Bool), v22 = .bool x22_1 ∧ Aside0 (vellumref03_Name.j0 kq a0 x22_1 = some r) ∧ Aside0 (kq ≤ k) ∧ Aside0 (Below w.heap.size w wc))
 case first =>
  have H := HC2.out
  clear HC2
  by_cases c3 : (a0.size : Int) < 1
  ·rw [if_pos c3] at H
   have c3b0 : decide ((a0.size : Int) < 1) = true := decide_eq_true c3
   have c3b1 : decide (a0.size < 1) = true := decide_eq_true (by omega)
   clear c3
   (first | rw [c3b0] | (simp only [i64_w, i32_w]; rw [c3b0]) | skip)
   have H' := am H
   clear H
   go_wp2
   go_meet
   case rel => exact ⟨_, (true), eb, H', ⟨by first | omega | exact Nat.le_refl _⟩, ⟨bl HB⟩⟩
  ·rw [if_neg c3] at H
   have c3b0 : decide ((a0.size : Int) < 1) = false := decide_eq_false c3
   have c3b1 : decide (a0.size < 1) = false := decide_eq_false (by omega)
   clear c3
   (first | rw [c3b0] | (simp only [i64_w, i32_w]; rw [c3b0]) | skip)
   by_cases c4 : (a0.size : Int) > 63
   ·rw [if_pos c4] at H
    have c4b0 : decide (63 < (a0.size : Int)) = true := decide_eq_true c4
    have c4b1 : decide (63 < a0.size) = true := decide_eq_true (by omega)
    clear c4
    have H' := am H
    clear H
    go_wp2
    go_meet
    case rel => exact ⟨_, (true), eb, H', ⟨by first | omega | exact Nat.le_refl _⟩, ⟨bl HB⟩⟩
   ·rw [if_neg c4] at H
    have c4b0 : decide (63 < (a0.size : Int)) = false := decide_eq_false c4
    have c4b1 : decide (63 < a0.size) = false := decide_eq_false (by omega)
    clear c4
    by_cases c5 : 0 < (a0.size : Int)
    ·rw [if_pos c5] at H
     have c5b0 : decide (0 < (a0.size : Int)) = true := decide_eq_true c5
     have c5b1 : decide (0 < a0.size) = true := decide_eq_true (by omega)
     clear c5
     replace H := Option.bind_eq_some_iff.mp H
     obtain ⟨t621, A70, H⟩ := H
     replace H : (if t621 = true then ((vellumref03_words.f).bind fun t622 => ((vellumref03_in.f k t622 a0).bind fun t625 => (vellumref03_Name.j0 k a0 t625))) else (vellumref03_Name.j0 k a0 true)) = some r := H
     have A7 := am A70
     clear A70
     by_cases c8 : t621 = true
     ·subst c8
      have H1 : ((vellumref03_words.f).bind fun t622 => ((vellumref03_in.f k t622 a0).bind fun t625 => (vellumref03_Name.j0 k a0 t625))) = some r := by rw [if_pos rfl] at H; exact H
      clear H
      have H := H1
      clear H1
      replace H := Option.bind_eq_some_iff.mp H
      obtain ⟨t622, A90, H⟩ := H
      replace H : ((vellumref03_in.f k t622 a0).bind fun t625 => (vellumref03_Name.j0 k a0 t625)) = some r := H
      have A9 := am A90
      clear A90
      replace H := Option.bind_eq_some_iff.mp H
      obtain ⟨t625, A100, H⟩ := H
      replace H : (vellumref03_Name.j0 k a0 t625) = some r := H
      have A10 := am A100
      clear A100
      have H' := am H
      clear H
      have p6 : 0 ≤ (0 : Int) := (by omega)
      have q6 : 0 < a0.size := (by have : (0 : Int) < (a0.size : Int) := oda; omega)
      have hx6 : ∀ h : 0 < a0.size, ((a0[0]'h).toNat : Int) = bt a0 0 := bt_at a0 0
      clear p6
      have qi6 : (0 < (a0.size : Int)) = True := eq_true (oda)
      replace q6 := eq_true q6
      go_wp2_with (first | (go_at_call 171; (with_reducible refine (vellumref03_small.calls (bt a0 0) true _ A7.out).mono ?_); rintro e w' ⟨rfl, ⟨nd, rfl⟩⟩) | (go_at_call 173; (with_reducible refine (vellumref03_words.calls  t622 _ A9.out).mono ?_); rintro e w11 ⟨v623, rfl, ho0, hb⟩; have n0_ := am (Kd.R_lower ho0 (below_size (bl HB))); have n1_ := sb HB hb; clear HB; have HO624 := n0_; have HB := n1_; clear n0_ n1_; (try clear hb); (try clear hb2 hk hi); (try clear ho0); obtain ⟨Ao12, co12, eo12⟩ := Kd.R_slice HO624.out; subst eo12) | (go_at_call 172; (with_reducible refine (vellumref03_in.calls k _ _ t622 a0 t625 _ ?side1 ?side2 A10.out).mono ?_); (case side1 => repeat (first | exact (Kd.R_reads' HO624.out).2.2 | (with_reducible refine Kd.C_alloc ?_ _) | (with_reducible refine Kd.C_drewN ?_ _) | (with_reducible refine Kd.C_drew ?_))); (case side2 => exact (Kd.R_reads' HO624.out).2.1); rintro e w' ⟨rfl, ⟨nd, rfl⟩⟩))
      go_meet
      case rel => exact ⟨_, (t625), eb, H', ⟨by first | omega | exact Nat.le_refl _⟩, ⟨bl HB⟩⟩
     ·replace c8 := Bool.eq_false_iff.mpr c8
      subst c8
      have H1 : (vellumref03_Name.j0 k a0 true) = some r := by rw [if_neg (show ¬ (false = true) by decide)] at H; exact H
      clear H
      have H := H1
      clear H1
      have H' := am H
      clear H
      have p6 : 0 ≤ (0 : Int) := (by omega)
      have q6 : 0 < a0.size := (by have : (0 : Int) < (a0.size : Int) := oda; omega)
      have hx6 : ∀ h : 0 < a0.size, ((a0[0]'h).toNat : Int) = bt a0 0 := bt_at a0 0
      clear p6
      have qi6 : (0 < (a0.size : Int)) = True := eq_true (oda)
      replace q6 := eq_true q6
      go_wp2_with (first | (go_at_call 171; (with_reducible refine (vellumref03_small.calls (bt a0 0) false _ A7.out).mono ?_); rintro e w' ⟨rfl, ⟨nd, rfl⟩⟩))
      go_meet
      case rel => exact ⟨_, (true), eb, H', ⟨by first | omega | exact Nat.le_refl _⟩, ⟨bl HB⟩⟩
    ·rw [if_neg c5] at H
     exact absurd H (by simp)
 case rest =>
  clear HC2
  (try clear c1); (try clear p2); (try clear c3); (try clear c3b0 c3b1); (try clear c4); (try clear c4b0 c4b1); (try clear c5); (try clear c5b0 c5b1); (try clear p6); (try clear q6); (try clear hx6); (try clear qi6); (try clear c8); (try clear p6); (try clear q6)
  obtain ⟨kq, x22_1, rfl, HA, HJ1, HB⟩ := hcut
  cases kq with
  | zero => exact absurd HA.out (by simp [vellumref03_Name.j0])
  | succ kj1 =>
   have H := HA.out
   clear HA
   simp only [vellumref03_Name.j0] at H
   by_cases c13 : x22_1 = true
   ·subst c13
    have H1 : (some false) = some r := by rw [if_pos rfl] at H; exact H
    clear H
    have H := H1
    clear H1
    obtain rfl := Option.some.inj H
    go_wp2
    go_ret
    exact ⟨er, bl HB⟩
   ·replace c13 := Bool.eq_false_iff.mpr c13
    subst c13
    have H1 : (vellumref03_Name.l0 kj1 a0 0) = some r := by rw [if_neg (show ¬ (false = true) by decide)] at H; exact H
    clear H
    have H := H1
    clear H1
    have H' := am H
    clear H
    go_wp2
    go_loopg [3] kj1 (fun kq v3 w' => ∃ (x3_2 : Int), v3 = .int .i64 x3_2 ∧ Aside0 (vellumref03_Name.l0 kq a0 x3_2 = some r) ∧ Aside0 (kq ≤ kj1) ∧ Aside0 (Below w.heap.size w w'))
    case atStart => exact ⟨(0), eb, H', ⟨Nat.le_refl _⟩, ⟨bl HB⟩⟩
    case round =>
     clear H'
     (try clear c1); (try clear p2); (try clear c3); (try clear c3b0 c3b1); (try clear c4); (try clear c4b0 c4b1); (try clear c5); (try clear c5b0 c5b1); (try clear p6); (try clear q6); (try clear hx6); (try clear qi6); (try clear c8); (try clear c13); (try clear p2); (try clear p6); (try clear q6)
     obtain ⟨x3_2, rfl, HA, HK2, HB⟩ := hrel
     cases gk with
     | zero => exact absurd HA.out (by simp [vellumref03_Name.l0])
     | succ k2 =>
      have H := HA.out
      clear HA
      simp only [vellumref03_Name.l0] at H
      by_cases c14 : x3_2 < (a0.size : Int)
      ·rw [if_pos c14] at H
       have c14b0 : decide (x3_2 < (a0.size : Int)) = true := decide_eq_true c14
       clear c14
       by_cases c15 : 0 ≤ x3_2
       ·rw [if_pos c15] at H
        have c15b0 : decide (0 ≤ x3_2) = true := decide_eq_true c15
        clear c15
        replace H := Option.bind_eq_some_iff.mp H
        obtain ⟨t626, A170, H⟩ := H
        replace H : (if t626 = true then (vellumref03_Name.l0 k2 a0 (wrap64 (x3_2 + 1))) else ((vellumref03_digit.f (bt a0 x3_2)).bind fun t627 => (if t627 = true then (vellumref03_Name.l0 k2 a0 (wrap64 (x3_2 + 1))) else (some false)))) = some r := H
        have A17 := am A170
        clear A170
        by_cases c18 : t626 = true
        ·subst c18
         have H1 : (vellumref03_Name.l0 k2 a0 (wrap64 (x3_2 + 1))) = some r := by rw [if_pos rfl] at H; exact H
         clear H
         have H := H1
         clear H1
         have H' := am H
         clear H
         have p16 : 0 ≤ (x3_2 : Int) := oda
         have q16 : x3_2 < (a0.size : Int) := oda
         have hx16 := bt_at a0 x3_2
         replace p16 := eq_true p16
         replace q16 := eq_true q16
         go_wp2_with (first | ((with_reducible refine gate_callee (f := 171) rfl ?_); refine goesL_ (some 32) rfl rfl Tryd.func171 (by kernel_rfl) rfl #[.int .u8 (bt a0 x3_2)] rfl ar ?_; (with_reducible refine (vellumref03_small.calls (bt a0 x3_2) true _ A17.out).mono ?_); rintro e w' ⟨rfl, ⟨nd, rfl⟩⟩; refine ⟨_, rfl, ?_⟩))
         go_roundg k2
         case measure => have := HJ1.out; have := HK2.out; omega
         case rel => exact ⟨(wrap64 (x3_2 + 1)), eb, H', ⟨by have := HJ1.out; have := HK2.out; omega⟩, ⟨bl HB⟩⟩
        ·replace c18 := Bool.eq_false_iff.mpr c18
         subst c18
         have H1 : ((vellumref03_digit.f (bt a0 x3_2)).bind fun t627 => (if t627 = true then (vellumref03_Name.l0 k2 a0 (wrap64 (x3_2 + 1))) else (some false))) = some r := by rw [if_neg (show ¬ (false = true) by decide)] at H; exact H
         clear H
         have H := H1
         clear H1
         replace H := Option.bind_eq_some_iff.mp H
         obtain ⟨t627, A200, H⟩ := H
         replace H : (if t627 = true then (vellumref03_Name.l0 k2 a0 (wrap64 (x3_2 + 1))) else (some false)) = some r := H
         have A20 := am A200
         clear A200
         by_cases c21 : t627 = true
         ·subst c21
          have H1 : (vellumref03_Name.l0 k2 a0 (wrap64 (x3_2 + 1))) = some r := by rw [if_pos rfl] at H; exact H
          clear H
          have H := H1
          clear H1
          have H' := am H
          clear H
          have p16 : 0 ≤ (x3_2 : Int) := oda
          have q16 : x3_2 < (a0.size : Int) := oda
          have hx16 := bt_at a0 x3_2
          replace p16 := eq_true p16
          replace q16 := eq_true q16
          go_wp2_with (first | ((with_reducible refine gate_callee (f := 171) rfl ?_); refine goesL_ (some 32) rfl rfl Tryd.func171 (by kernel_rfl) rfl #[.int .u8 (bt a0 x3_2)] rfl ar ?_; (with_reducible refine (vellumref03_small.calls (bt a0 x3_2) false _ A17.out).mono ?_); rintro e w' ⟨rfl, ⟨nd, rfl⟩⟩; refine ⟨_, rfl, ?_⟩; have p19 : 0 ≤ (x3_2 : Int) := oda; have q19 : x3_2 < (a0.size : Int) := oda; have hx19 := bt_at a0 x3_2; replace p19 := eq_true p19; replace q19 := eq_true q19) | (go_at_call 174; (with_reducible refine (vellumref03_digit.calls (bt a0 x3_2) true _ A20.out).mono ?_); rintro e w' ⟨rfl, ⟨nd, rfl⟩⟩))
          go_roundg k2
          case measure => have := HJ1.out; have := HK2.out; omega
          case rel => exact ⟨(wrap64 (x3_2 + 1)), eb, H', ⟨by have := HJ1.out; have := HK2.out; omega⟩, ⟨bl HB⟩⟩
         ·replace c21 := Bool.eq_false_iff.mpr c21
          subst c21
          have H1 : (some false) = some r := by rw [if_neg (show ¬ (false = true) by decide)] at H; exact H
          clear H
          have H := H1
          clear H1
          obtain rfl := Option.some.inj H
          have p16 : 0 ≤ (x3_2 : Int) := oda
          have q16 : x3_2 < (a0.size : Int) := oda
          have hx16 := bt_at a0 x3_2
          replace p16 := eq_true p16
          replace q16 := eq_true q16
          go_wp2_with (first | ((with_reducible refine gate_callee (f := 171) rfl ?_); refine goesL_ (some 32) rfl rfl Tryd.func171 (by kernel_rfl) rfl #[.int .u8 (bt a0 x3_2)] rfl ar ?_; (with_reducible refine (vellumref03_small.calls (bt a0 x3_2) false _ A17.out).mono ?_); rintro e w' ⟨rfl, ⟨nd, rfl⟩⟩; refine ⟨_, rfl, ?_⟩; have p19 : 0 ≤ (x3_2 : Int) := oda; have q19 : x3_2 < (a0.size : Int) := oda; have hx19 := bt_at a0 x3_2; replace p19 := eq_true p19; replace q19 := eq_true q19) | (go_at_call 174; (with_reducible refine (vellumref03_digit.calls (bt a0 x3_2) false _ A20.out).mono ?_); rintro e w' ⟨rfl, ⟨nd, rfl⟩⟩))
          go_ret
          exact ⟨er, bl HB⟩
       ·rw [if_neg c15] at H
        exact absurd H (by simp)
      ·rw [if_neg c14] at H
       have c14b0 : decide (x3_2 < (a0.size : Int)) = false := decide_eq_false c14
       clear c14
       obtain rfl := Option.some.inj H
       go_wp2
       go_ret
       exact ⟨er, bl HB⟩
mutual
def vellumref03_columns.l0 : Nat → Int → ByteArray → List (S105) → List Int → List (S115) → List (S139) → Option (Int)
 | 0, _, _, _, _, _, _ => none
 | k + 1, x3, x629000, x629001, x629002, x629003, x629004 => if x3 < (x629001.length : Int) then (if 0 ≤ x3 then ((vellumref03_Name.f k ((rd_T105 x629001 x3).f0)).bind fun t631 => (if t631 = true then (vellumref03_columns.l1 k x3 0 x629000 x629001 x629002 x629003 x629004 ((rd_T105 x629001 x3).f0) ((rd_T105 x629001 x3).f1) ((rd_T105 x629001 x3).f2) ((rd_T105 x629001 x3).f3.f0) ((rd_T105 x629001 x3).f3.f1) ((rd_T105 x629001 x3).f3.f2) ((rd_T105 x629001 x3).f3.f3)) else (some 30))) else (none)) else (some 0)
def vellumref03_columns.l1 : Nat → Int → Int → ByteArray → List (S105) → List Int → List (S115) → List (S139) → ByteArray → Int → Bool → Int → Int → Nat → ByteArray → Option (Int)
 | 0, _, _, _, _, _, _, _, _, _, _, _, _, _, _ => none
 | k + 1, x3, x5, x629000, x629001, x629002, x629003, x629004, x631000, x631001, x631002, x631003, x631004, x631005, x631006 => if x5 < x3 then (if 0 ≤ x5 then (if x5 < (x629001.length : Int) then (if ((rd_T105 x629001 x5).f0).toList = x631000.toList then (some 31) else (vellumref03_columns.l1 k x3 (wrap64 (x5 + 1)) x629000 x629001 x629002 x629003 x629004 x631000 x631001 x631002 x631003 x631004 x631005 x631006)) else (none)) else (none)) else (if x631001 < 1 then (some 32) else (if x631001 > 5 then (some 32) else ((vellumref01_Check.f k x631003 x631004 x631005 x631006).bind fun t633 => (if t633 = 0 then (if x631003 = x631001 then (vellumref03_columns.l0 k (wrap64 (x3 + 1)) x629000 x629001 x629002 x629003 x629004) else (if x631003 = 0 then (vellumref03_columns.l0 k (wrap64 (x3 + 1)) x629000 x629001 x629002 x629003 x629004) else (some 32))) else (some 32)))))
end
def vellumref03_columns.f (k : Nat) (a0_0 : ByteArray) (l0_1 : List (S105)) (l0_2 : List Int) (l0_3 : List (S115)) (l0_4 : List (S139)) : Option (Int) := vellumref03_columns.l0 k 0 a0_0 l0_1 l0_2 l0_3 l0_4
set_option maxHeartbeats 8000000 in
set_option maxRecDepth 100000 in
theorem vellumref03_columns.calls (k : Nat) (a0_0 : ByteArray) (A0_1 : Option Addr) (c0_1 : Nat) (l0_1 : List (S105)) (A0_2 : Option Addr) (c0_2 : Nat) (l0_2 : List Int) (A0_3 : Option Addr) (c0_3 : Nat) (l0_3 : List (S115)) (A0_4 : Option Addr) (c0_4 : Nat) (l0_4 : List (S139)) (r : Int) (w : World) (hr0_1 : Kd.C k105 w A0_1 l0_1.length l0_1) (hc0_1 : l0_1.length ≤ c0_1) (hr0_2 : Kd.C (Kd.int .i64) w A0_2 l0_2.length l0_2) (hc0_2 : l0_2.length ≤ c0_2) (hr0_3 : Kd.C k115 w A0_3 l0_3.length l0_3) (hc0_3 : l0_3.length ≤ c0_3) (hr0_4 : Kd.C k139 w A0_4 l0_4.length l0_4) (hc0_4 : l0_4.length ≤ c0_4) (hG : Glob w) (h : vellumref03_columns.f k a0_0 l0_1 l0_2 l0_3 l0_4 = some r) :
  Calls Tryd.prog 133 #[.agg #[.string a0_0, .slice A0_1 l0_1.length c0_1, .slice A0_2 l0_2.length c0_2, .slice A0_3 l0_3.length c0_3, .slice A0_4 l0_4.length c0_4]] w fun e w' => e = .returned (.int .i64 r) ∧ Below w.heap.size w w' := by
 have hu65 := Tryd.underlying65
 have hu105 := Tryd.underlying105
 have hu50 := Tryd.underlying50
 have HR0_1 := am hr0_1
 have HC0_1 := am hc0_1
 clear hr0_1 hc0_1
 have HR0_2 := am hr0_2
 have HC0_2 := am hc0_2
 clear hr0_2 hc0_2
 have HR0_3 := am hr0_3
 have HC0_3 := am hc0_3
 clear hr0_3 hc0_3
 have HR0_4 := am hr0_4
 have HC0_4 := am hc0_4
 clear hr0_4 hc0_4
 have HG := am hG
 clear hG
 have HB := am (Below.refl w.heap.size w)
 have H : (vellumref03_columns.l0 k 0 a0_0 l0_1 l0_2 l0_3 l0_4) = some r := h
 clear h
 have H' := am H
 clear H
 go_enter Tryd.func133, Tryd.ntmps133
 go_wp2_with (first | ((with_reducible refine gate_dst (N := 1) rfl ?_); refine box_event rfl (N := 1) rfl (cs := #[.string a0_0, .slice A0_1 l0_1.length c0_1, .slice A0_2 l0_2.length c0_2, .slice A0_3 l0_3.length c0_3, .slice A0_4 l0_4.length c0_4]) (t := 65) gs ?_; intro gb628 hg w2 hbox hb; have BK628 := am (hbox); have GW628 := gw hg HB; have GE628 := gw hg HB; replace HB := sb HB hb; clear hb hbox hg))
 repeat (go_quiet (fail); try go_wp2_with (first | ((with_reducible refine gate_dst (N := 1) rfl ?_); refine box_event rfl (N := 1) rfl (cs := #[.string a0_0, .slice A0_1 l0_1.length c0_1, .slice A0_2 l0_2.length c0_2, .slice A0_3 l0_3.length c0_3, .slice A0_4 l0_4.length c0_4]) (t := 65) gs ?_; intro gb628 hg w2 hbox hb; have BK628 := am (hbox); have GW628 := gw hg HB; have GE628 := gw hg HB; replace HB := sb HB hb; clear hb hbox hg)))
 go_loopg [3] k (fun kq v3 w' => ∃ (x3_1 : Int), v3 = .int .i64 x3_1 ∧ Aside0 (vellumref03_columns.l0 kq x3_1 a0_0 l0_1 l0_2 l0_3 l0_4 = some r) ∧ Aside0 (kq ≤ k) ∧ Aside0 (w'.heap[gb628]? = some (.cells #[.string a0_0, (.slice A0_1 l0_1.length c0_1), (.slice A0_2 l0_2.length c0_2), (.slice A0_3 l0_3.length c0_3), (.slice A0_4 l0_4.length c0_4)] 65 (0, 0))) ∧ Aside0 (Below w.heap.size w w'))
 case atStart => exact ⟨(0), eb, H', ⟨Nat.le_refl _⟩, ⟨bk BK628⟩, ⟨bl HB⟩⟩
 case round =>
  clear H'
  (try clear c1); (try clear p2)
  obtain ⟨x3_1, rfl, HA, HK1, BK628, HB⟩ := hrel
  cases gk with
  | zero => exact absurd HA.out (by simp [vellumref03_columns.l0])
  | succ k1 =>
   have H := HA.out
   clear HA
   simp only [vellumref03_columns.l0] at H
   by_cases c3 : x3_1 < (l0_1.length : Int)
   ·rw [if_pos c3] at H
    have c3b0 : decide (x3_1 < (l0_1.length : Int)) = true := decide_eq_true c3
    clear c3
    by_cases c4 : 0 ≤ x3_1
    ·rw [if_pos c4] at H
     have c4b0 : decide (0 ≤ x3_1) = true := decide_eq_true c4
     clear c4
     replace H := Option.bind_eq_some_iff.mp H
     obtain ⟨t631, A50, H⟩ := H
     replace H : (if t631 = true then (vellumref03_columns.l1 k1 x3_1 0 a0_0 l0_1 l0_2 l0_3 l0_4 ((rd_T105 l0_1 x3_1).f0) ((rd_T105 l0_1 x3_1).f1) ((rd_T105 l0_1 x3_1).f2) ((rd_T105 l0_1 x3_1).f3.f0) ((rd_T105 l0_1 x3_1).f3.f1) ((rd_T105 l0_1 x3_1).f3.f2) ((rd_T105 l0_1 x3_1).f3.f3)) else (some 30)) = some r := H
     have A5 := am A50
     clear A50
     by_cases c6 : t631 = true
     ·subst c6
      have H1 : (vellumref03_columns.l1 k1 x3_1 0 a0_0 l0_1 l0_2 l0_3 l0_4 ((rd_T105 l0_1 x3_1).f0) ((rd_T105 l0_1 x3_1).f1) ((rd_T105 l0_1 x3_1).f2) ((rd_T105 l0_1 x3_1).f3.f0) ((rd_T105 l0_1 x3_1).f3.f1) ((rd_T105 l0_1 x3_1).f3.f2) ((rd_T105 l0_1 x3_1).f3.f3)) = some r := by rw [if_pos rfl] at H; exact H
      clear H
      have H := H1
      clear H1
      have H' := am H
      clear H
      obtain ⟨Z7_0, Z7_1, Z7_2, Z7_3, Z7_4, Y7_0, Y7_1, Y7_2, Y7_3, Y7_4⟩ := bq5 BK628
      have p629 : 0 ≤ (x3_1 : Int) := oda
      have q629 : x3_1 < (l0_1.length : Int) := oda
      obtain ⟨ad629, e629, hx629_0, hx629_1, hx629_2, hx629_3, hx629_4, hx629_5, hx629_6⟩ := at_T105 HR0_1.out x3_1 p629 q629
      cases e629
      replace hx629_0 := hc HB hx629_0
      replace hx629_1 := hc HB hx629_1
      replace hx629_2 := hc HB hx629_2
      replace hx629_3 := hc HB hx629_3
      replace hx629_4 := hc HB hx629_4
      replace hx629_5 := hc HB hx629_5
      replace hx629_6 := hc HB hx629_6
      replace p629 := eq_true p629
      replace q629 := eq_true q629
      go_wp2_with (first | ((with_reducible refine gate_dst (N := 4) rfl ?_); refine box_event rfl (N := 4) rfl (cs := #[.string (⟨#[]⟩ : ByteArray), .int .i64 0, .bool false, .int .i64 0, .int .i64 0, .float .f64 0, .string (⟨#[]⟩ : ByteArray)]) (t := 105) gs ?_; intro gb630 hg w8 hbox hb; have BK630 := am (hbox); have GW630 := gw hg HB; have GE630 := gw hg HB; have NB628_630 := am ((by rw [hg]; exact Nat.ne_of_lt (blk_lt (bk BK628)) : gb628 ≠ gb630)); have NB630_628 := am ((by rw [hg]; exact Nat.ne_of_gt (blk_lt (bk BK628)) : gb630 ≠ gb628)); replace BK628 := kb BK628 hb; replace HB := sb HB hb; clear hb hbox hg; have hnb9 := NB630_628.out; have hnc9 := NB628_630.out; obtain ⟨Z10_0, Z10_1, Z10_2, Z10_3, Z10_4, Z10_5, Z10_6, Y10_0, Y10_1, Y10_2, Y10_3, Y10_4, Y10_5, Y10_6⟩ := bq7 BK630) | (go_at_call 132; (with_reducible refine (vellumref03_Name.calls k1 ((rd_T105 l0_1 x3_1).f0) true _ A5.out).mono ?_); rintro e w11 ⟨rfl, hb⟩; replace BK628 := am (blk_below (g := gb628) (o := .cells #[.string a0_0, .slice (some ad629) l0_1.length c0_1, .slice A0_2 l0_2.length c0_2, .slice A0_3 l0_3.length c0_3, .slice A0_4 l0_4.length c0_4] 65 (0, 0)) (by refine rp ?_; refine blk_far ?_ NB628_630.out _; refine rp ?_; refine blk_far ?_ NB628_630.out _; refine rp ?_; refine blk_far ?_ NB628_630.out _; refine rp ?_; refine blk_far ?_ NB628_630.out _; refine rp ?_; refine blk_far ?_ NB628_630.out _; refine rp ?_; refine blk_far ?_ NB628_630.out _; refine rp ?_; refine blk_far ?_ NB628_630.out _; exact bk BK628) hb); replace BK630 := am (blk_below (g := gb630) (o := .cells #[.string ((rd_T105 l0_1 x3_1).f0), .int .i64 ((rd_T105 l0_1 x3_1).f1), .bool ((rd_T105 l0_1 x3_1).f2), .int .i64 ((rd_T105 l0_1 x3_1).f3.f0), .int .i64 ((rd_T105 l0_1 x3_1).f3.f1), .float .f64 ((rd_T105 l0_1 x3_1).f3.f2), .string ((rd_T105 l0_1 x3_1).f3.f3)] 105 (0, 0)) (by refine rp ?_; refine blk_put (cs := #[.string ((rd_T105 l0_1 x3_1).f0), .int .i64 ((rd_T105 l0_1 x3_1).f1), .bool ((rd_T105 l0_1 x3_1).f2), .int .i64 ((rd_T105 l0_1 x3_1).f3.f0), .int .i64 ((rd_T105 l0_1 x3_1).f3.f1), .float .f64 ((rd_T105 l0_1 x3_1).f3.f2), .string (⟨#[]⟩ : ByteArray)]) ?_ 6 _ rfl; refine rp ?_; refine blk_put (cs := #[.string ((rd_T105 l0_1 x3_1).f0), .int .i64 ((rd_T105 l0_1 x3_1).f1), .bool ((rd_T105 l0_1 x3_1).f2), .int .i64 ((rd_T105 l0_1 x3_1).f3.f0), .int .i64 ((rd_T105 l0_1 x3_1).f3.f1), .float .f64 0, .string (⟨#[]⟩ : ByteArray)]) ?_ 5 _ rfl; refine rp ?_; refine blk_put (cs := #[.string ((rd_T105 l0_1 x3_1).f0), .int .i64 ((rd_T105 l0_1 x3_1).f1), .bool ((rd_T105 l0_1 x3_1).f2), .int .i64 ((rd_T105 l0_1 x3_1).f3.f0), .int .i64 0, .float .f64 0, .string (⟨#[]⟩ : ByteArray)]) ?_ 4 _ rfl; refine rp ?_; refine blk_put (cs := #[.string ((rd_T105 l0_1 x3_1).f0), .int .i64 ((rd_T105 l0_1 x3_1).f1), .bool ((rd_T105 l0_1 x3_1).f2), .int .i64 0, .int .i64 0, .float .f64 0, .string (⟨#[]⟩ : ByteArray)]) ?_ 3 _ rfl; refine rp ?_; refine blk_put (cs := #[.string ((rd_T105 l0_1 x3_1).f0), .int .i64 ((rd_T105 l0_1 x3_1).f1), .bool false, .int .i64 0, .int .i64 0, .float .f64 0, .string (⟨#[]⟩ : ByteArray)]) ?_ 2 _ rfl; refine rp ?_; refine blk_put (cs := #[.string ((rd_T105 l0_1 x3_1).f0), .int .i64 0, .bool false, .int .i64 0, .int .i64 0, .float .f64 0, .string (⟨#[]⟩ : ByteArray)]) ?_ 1 _ rfl; refine rp ?_; refine blk_put (cs := #[.string (⟨#[]⟩ : ByteArray), .int .i64 0, .bool false, .int .i64 0, .int .i64 0, .float .f64 0, .string (⟨#[]⟩ : ByteArray)]) ?_ 0 _ rfl; exact bk BK630) hb); replace HB := sb HB hb; (try clear hb); (try clear hb2 hk hi)))
      repeat (go_quiet (fail); try go_wp2_with (first | ((with_reducible refine gate_dst (N := 4) rfl ?_); refine box_event rfl (N := 4) rfl (cs := #[.string (⟨#[]⟩ : ByteArray), .int .i64 0, .bool false, .int .i64 0, .int .i64 0, .float .f64 0, .string (⟨#[]⟩ : ByteArray)]) (t := 105) gs ?_; intro gb630 hg w8 hbox hb; have BK630 := am (hbox); have GW630 := gw hg HB; have GE630 := gw hg HB; have NB628_630 := am ((by rw [hg]; exact Nat.ne_of_lt (blk_lt (bk BK628)) : gb628 ≠ gb630)); have NB630_628 := am ((by rw [hg]; exact Nat.ne_of_gt (blk_lt (bk BK628)) : gb630 ≠ gb628)); replace BK628 := kb BK628 hb; replace HB := sb HB hb; clear hb hbox hg; have hnb9 := NB630_628.out; have hnc9 := NB628_630.out; obtain ⟨Z10_0, Z10_1, Z10_2, Z10_3, Z10_4, Z10_5, Z10_6, Y10_0, Y10_1, Y10_2, Y10_3, Y10_4, Y10_5, Y10_6⟩ := bq7 BK630) | (go_at_call 132; (with_reducible refine (vellumref03_Name.calls k1 ((rd_T105 l0_1 x3_1).f0) true _ A5.out).mono ?_); rintro e w11 ⟨rfl, hb⟩; replace BK628 := am (blk_below (g := gb628) (o := .cells #[.string a0_0, .slice (some ad629) l0_1.length c0_1, .slice A0_2 l0_2.length c0_2, .slice A0_3 l0_3.length c0_3, .slice A0_4 l0_4.length c0_4] 65 (0, 0)) (by refine rp ?_; refine blk_far ?_ NB628_630.out _; refine rp ?_; refine blk_far ?_ NB628_630.out _; refine rp ?_; refine blk_far ?_ NB628_630.out _; refine rp ?_; refine blk_far ?_ NB628_630.out _; refine rp ?_; refine blk_far ?_ NB628_630.out _; refine rp ?_; refine blk_far ?_ NB628_630.out _; refine rp ?_; refine blk_far ?_ NB628_630.out _; exact bk BK628) hb); replace BK630 := am (blk_below (g := gb630) (o := .cells #[.string ((rd_T105 l0_1 x3_1).f0), .int .i64 ((rd_T105 l0_1 x3_1).f1), .bool ((rd_T105 l0_1 x3_1).f2), .int .i64 ((rd_T105 l0_1 x3_1).f3.f0), .int .i64 ((rd_T105 l0_1 x3_1).f3.f1), .float .f64 ((rd_T105 l0_1 x3_1).f3.f2), .string ((rd_T105 l0_1 x3_1).f3.f3)] 105 (0, 0)) (by refine rp ?_; refine blk_put (cs := #[.string ((rd_T105 l0_1 x3_1).f0), .int .i64 ((rd_T105 l0_1 x3_1).f1), .bool ((rd_T105 l0_1 x3_1).f2), .int .i64 ((rd_T105 l0_1 x3_1).f3.f0), .int .i64 ((rd_T105 l0_1 x3_1).f3.f1), .float .f64 ((rd_T105 l0_1 x3_1).f3.f2), .string (⟨#[]⟩ : ByteArray)]) ?_ 6 _ rfl; refine rp ?_; refine blk_put (cs := #[.string ((rd_T105 l0_1 x3_1).f0), .int .i64 ((rd_T105 l0_1 x3_1).f1), .bool ((rd_T105 l0_1 x3_1).f2), .int .i64 ((rd_T105 l0_1 x3_1).f3.f0), .int .i64 ((rd_T105 l0_1 x3_1).f3.f1), .float .f64 0, .string (⟨#[]⟩ : ByteArray)]) ?_ 5 _ rfl; refine rp ?_; refine blk_put (cs := #[.string ((rd_T105 l0_1 x3_1).f0), .int .i64 ((rd_T105 l0_1 x3_1).f1), .bool ((rd_T105 l0_1 x3_1).f2), .int .i64 ((rd_T105 l0_1 x3_1).f3.f0), .int .i64 0, .float .f64 0, .string (⟨#[]⟩ : ByteArray)]) ?_ 4 _ rfl; refine rp ?_; refine blk_put (cs := #[.string ((rd_T105 l0_1 x3_1).f0), .int .i64 ((rd_T105 l0_1 x3_1).f1), .bool ((rd_T105 l0_1 x3_1).f2), .int .i64 0, .int .i64 0, .float .f64 0, .string (⟨#[]⟩ : ByteArray)]) ?_ 3 _ rfl; refine rp ?_; refine blk_put (cs := #[.string ((rd_T105 l0_1 x3_1).f0), .int .i64 ((rd_T105 l0_1 x3_1).f1), .bool false, .int .i64 0, .int .i64 0, .float .f64 0, .string (⟨#[]⟩ : ByteArray)]) ?_ 2 _ rfl; refine rp ?_; refine blk_put (cs := #[.string ((rd_T105 l0_1 x3_1).f0), .int .i64 0, .bool false, .int .i64 0, .int .i64 0, .float .f64 0, .string (⟨#[]⟩ : ByteArray)]) ?_ 1 _ rfl; refine rp ?_; refine blk_put (cs := #[.string (⟨#[]⟩ : ByteArray), .int .i64 0, .bool false, .int .i64 0, .int .i64 0, .float .f64 0, .string (⟨#[]⟩ : ByteArray)]) ?_ 0 _ rfl; exact bk BK630) hb); replace HB := sb HB hb; (try clear hb); (try clear hb2 hk hi))))
      go_loopg [5] k1 (fun kq v5 w' => ∃ (x5_2 : Int), v5 = .int .i64 x5_2 ∧ Aside0 (vellumref03_columns.l1 kq x3_1 x5_2 a0_0 l0_1 l0_2 l0_3 l0_4 ((rd_T105 l0_1 x3_1).f0) ((rd_T105 l0_1 x3_1).f1) ((rd_T105 l0_1 x3_1).f2) ((rd_T105 l0_1 x3_1).f3.f0) ((rd_T105 l0_1 x3_1).f3.f1) ((rd_T105 l0_1 x3_1).f3.f2) ((rd_T105 l0_1 x3_1).f3.f3) = some r) ∧ Aside0 (kq ≤ k1) ∧ Aside0 (w'.heap[gb628]? = some (.cells #[.string a0_0, (.slice (some ad629) l0_1.length c0_1), (.slice A0_2 l0_2.length c0_2), (.slice A0_3 l0_3.length c0_3), (.slice A0_4 l0_4.length c0_4)] 65 (0, 0))) ∧ Aside0 (w'.heap[gb630]? = some (.cells #[.string ((rd_T105 l0_1 x3_1).f0), .int .i64 ((rd_T105 l0_1 x3_1).f1), .bool ((rd_T105 l0_1 x3_1).f2), .int .i64 ((rd_T105 l0_1 x3_1).f3.f0), .int .i64 ((rd_T105 l0_1 x3_1).f3.f1), .float .f64 ((rd_T105 l0_1 x3_1).f3.f2), .string ((rd_T105 l0_1 x3_1).f3.f3)] 105 (0, 0))) ∧ Aside0 (Below w.heap.size w w'))
      case atStart => exact ⟨(0), eb, H', ⟨Nat.le_refl _⟩, ⟨bk BK628⟩, ⟨bk BK630⟩, ⟨bl HB⟩⟩
      case round =>
       clear H'
       (try clear c1); (try clear p2); (try clear c3); (try clear c3b0); (try clear c4); (try clear c4b0); (try clear c6); (try clear p6); (try clear q6); (try clear hx6); (try clear c9); (try clear Z10_0 Z10_1 Z10_2 Z10_3 Z10_4 Z10_5 Z10_6); (try clear Z7_0 Z7_1 Z7_2 Z7_3 Z7_4); (try clear Y10_0 Y10_1 Y10_2 Y10_3 Y10_4 Y10_5 Y10_6); (try clear Y7_0 Y7_1 Y7_2 Y7_3 Y7_4); (try clear hx629_0); (try clear hx629_1); (try clear hx629_2); (try clear hx629_3); (try clear hx629_4); (try clear hx629_5); (try clear hx629_6); (try clear p2); (try clear p629); (try clear q629)
       obtain ⟨x5_2, rfl, HA, HK2, BK628, BK630, HB⟩ := hrel
       cases gk with
       | zero => exact absurd HA.out (by simp [vellumref03_columns.l1])
       | succ k2 =>
        have H := HA.out
        clear HA
        simp only [vellumref03_columns.l1] at H
        by_cases c12 : x5_2 < x3_1
        ·rw [if_pos c12] at H
         have c12b0 : decide (x5_2 < x3_1) = true := decide_eq_true c12
         clear c12
         by_cases c13 : 0 ≤ x5_2
         ·rw [if_pos c13] at H
          have c13b0 : decide (0 ≤ x5_2) = true := decide_eq_true c13
          clear c13
          by_cases c14 : x5_2 < (l0_1.length : Int)
          ·rw [if_pos c14] at H
           have c14b0 : decide (x5_2 < (l0_1.length : Int)) = true := decide_eq_true c14
           clear c14
           by_cases c15 : ((rd_T105 l0_1 x5_2).f0).toList = ((rd_T105 l0_1 x3_1).f0).toList
           ·rw [if_pos c15] at H
            have c15b0 : (((rd_T105 l0_1 x5_2).f0).toList == ((rd_T105 l0_1 x3_1).f0).toList) = true := beq_iff_eq.mpr c15
            have c15b1 : (((rd_T105 l0_1 x5_2).f0).toList != ((rd_T105 l0_1 x3_1).f0).toList) = false := bne_eq_false_iff_eq.mpr c15
            clear c15
            obtain rfl := Option.some.inj H
            have hnb16 := NB628_630.out
            have hnc16 := NB630_628.out
            obtain ⟨Z17_0, Z17_1, Z17_2, Z17_3, Z17_4, Y17_0, Y17_1, Y17_2, Y17_3, Y17_4⟩ := bq5 BK628
            have p632 : 0 ≤ (x5_2 : Int) := oda
            have q632 : x5_2 < (l0_1.length : Int) := oda
            obtain ⟨ad632, e632, hx632_0, hx632_1, hx632_2, hx632_3, hx632_4, hx632_5, hx632_6⟩ := at_T105 HR0_1.out x5_2 p632 q632
            obtain rfl : ad629 = ad632 := (by injection e632)
            replace hx632_0 := hc HB hx632_0
            replace hx632_1 := hc HB hx632_1
            replace hx632_2 := hc HB hx632_2
            replace hx632_3 := hc HB hx632_3
            replace hx632_4 := hc HB hx632_4
            replace hx632_5 := hc HB hx632_5
            replace hx632_6 := hc HB hx632_6
            replace p632 := eq_true p632
            replace q632 := eq_true q632
            obtain ⟨Z18_0, Z18_1, Z18_2, Z18_3, Z18_4, Z18_5, Z18_6, Y18_0, Y18_1, Y18_2, Y18_3, Y18_4, Y18_5, Y18_6⟩ := bq7 BK630
            go_wp2
            repeat (go_quiet (fail); try go_wp2)
            go_ret
            exact ⟨er, bl HB⟩
           ·rw [if_neg c15] at H
            have c15b0 : (((rd_T105 l0_1 x5_2).f0).toList == ((rd_T105 l0_1 x3_1).f0).toList) = false := beq_eq_false_iff_ne.mpr c15
            have c15b1 : (((rd_T105 l0_1 x5_2).f0).toList != ((rd_T105 l0_1 x3_1).f0).toList) = true := bne_iff_ne.mpr c15
            have H' := am H
            clear H
            have hnb19 := NB628_630.out
            have hnc19 := NB630_628.out
            obtain ⟨Z20_0, Z20_1, Z20_2, Z20_3, Z20_4, Y20_0, Y20_1, Y20_2, Y20_3, Y20_4⟩ := bq5 BK628
            have p632 : 0 ≤ (x5_2 : Int) := oda
            have q632 : x5_2 < (l0_1.length : Int) := oda
            obtain ⟨ad632, e632, hx632_0, hx632_1, hx632_2, hx632_3, hx632_4, hx632_5, hx632_6⟩ := at_T105 HR0_1.out x5_2 p632 q632
            obtain rfl : ad629 = ad632 := (by injection e632)
            replace hx632_0 := hc HB hx632_0
            replace hx632_1 := hc HB hx632_1
            replace hx632_2 := hc HB hx632_2
            replace hx632_3 := hc HB hx632_3
            replace hx632_4 := hc HB hx632_4
            replace hx632_5 := hc HB hx632_5
            replace hx632_6 := hc HB hx632_6
            replace p632 := eq_true p632
            replace q632 := eq_true q632
            obtain ⟨Z21_0, Z21_1, Z21_2, Z21_3, Z21_4, Z21_5, Z21_6, Y21_0, Y21_1, Y21_2, Y21_3, Y21_4, Y21_5, Y21_6⟩ := bq7 BK630
            go_wp2
            repeat (go_quiet (fail); try go_wp2)
            go_roundg k2
            case measure => have := HK1.out; have := HK2.out; omega
            case rel => exact ⟨(wrap64 (x5_2 + 1)), eb, H', ⟨by have := HK1.out; have := HK2.out; omega⟩, ⟨bk BK628⟩, ⟨bk BK630⟩, ⟨bl HB⟩⟩
          ·rw [if_neg c14] at H
           exact absurd H (by simp)
         ·rw [if_neg c13] at H
          exact absurd H (by simp)
        ·rw [if_neg c12] at H
         have c12b0 : decide (x5_2 < x3_1) = false := decide_eq_false c12
         clear c12
         by_cases c22 : ((rd_T105 l0_1 x3_1).f1) < 1
         ·rw [if_pos c22] at H
          have c22b0 : decide (((rd_T105 l0_1 x3_1).f1) < 1) = true := decide_eq_true c22
          clear c22
          obtain rfl := Option.some.inj H
          have hnb23 := NB630_628.out
          have hnc23 := NB628_630.out
          obtain ⟨Z24_0, Z24_1, Z24_2, Z24_3, Z24_4, Z24_5, Z24_6, Y24_0, Y24_1, Y24_2, Y24_3, Y24_4, Y24_5, Y24_6⟩ := bq7 BK630
          go_wp2
          repeat (go_quiet (fail); try go_wp2)
          go_ret
          exact ⟨er, bl HB⟩
         ·rw [if_neg c22] at H
          have c22b0 : decide (((rd_T105 l0_1 x3_1).f1) < 1) = false := decide_eq_false c22
          clear c22
          by_cases c25 : ((rd_T105 l0_1 x3_1).f1) > 5
          ·rw [if_pos c25] at H
           have c25b0 : decide (5 < ((rd_T105 l0_1 x3_1).f1)) = true := decide_eq_true c25
           clear c25
           obtain rfl := Option.some.inj H
           have hnb26 := NB630_628.out
           have hnc26 := NB628_630.out
           obtain ⟨Z27_0, Z27_1, Z27_2, Z27_3, Z27_4, Z27_5, Z27_6, Y27_0, Y27_1, Y27_2, Y27_3, Y27_4, Y27_5, Y27_6⟩ := bq7 BK630
           go_wp2
           repeat (go_quiet (fail); try go_wp2)
           go_ret
           exact ⟨er, bl HB⟩
          ·rw [if_neg c25] at H
           have c25b0 : decide (5 < ((rd_T105 l0_1 x3_1).f1)) = false := decide_eq_false c25
           clear c25
           replace H := Option.bind_eq_some_iff.mp H
           obtain ⟨t633, A280, H⟩ := H
           replace H : (if t633 = 0 then (if ((rd_T105 l0_1 x3_1).f3.f0) = ((rd_T105 l0_1 x3_1).f1) then (vellumref03_columns.l0 k2 (wrap64 (x3_1 + 1)) a0_0 l0_1 l0_2 l0_3 l0_4) else (if ((rd_T105 l0_1 x3_1).f3.f0) = 0 then (vellumref03_columns.l0 k2 (wrap64 (x3_1 + 1)) a0_0 l0_1 l0_2 l0_3 l0_4) else (some 32))) else (some 32)) = some r := H
           have A28 := am A280
           clear A280
           by_cases c29 : t633 = 0
           ·rw [if_pos c29] at H
            have c29b0 : (t633 == 0) = true := beq_iff_eq.mpr c29
            have c29b1 : (t633 != 0) = false := bne_eq_false_iff_eq.mpr c29
            clear c29
            by_cases c30 : ((rd_T105 l0_1 x3_1).f3.f0) = ((rd_T105 l0_1 x3_1).f1)
            ·rw [if_pos c30] at H
             have c30b0 : (((rd_T105 l0_1 x3_1).f3.f0) == ((rd_T105 l0_1 x3_1).f1)) = true := beq_iff_eq.mpr c30
             have c30b1 : (((rd_T105 l0_1 x3_1).f3.f0) != ((rd_T105 l0_1 x3_1).f1)) = false := bne_eq_false_iff_eq.mpr c30
             clear c30
             have H' := am H
             clear H
             have hnb31 := NB630_628.out
             have hnc31 := NB628_630.out
             obtain ⟨Z32_0, Z32_1, Z32_2, Z32_3, Z32_4, Z32_5, Z32_6, Y32_0, Y32_1, Y32_2, Y32_3, Y32_4, Y32_5, Y32_6⟩ := bq7 BK630
             go_wp2_with (first | (go_at_call 69; (with_reducible refine (vellumref01_Check.calls k2 ((rd_T105 l0_1 x3_1).f3.f0) ((rd_T105 l0_1 x3_1).f3.f1) ((rd_T105 l0_1 x3_1).f3.f2) ((rd_T105 l0_1 x3_1).f3.f3) t633 _ (Glob.below HG.out (bl HB)) A28.out).mono ?_); rintro e w33 ⟨rfl, hb⟩; replace BK628 := kb BK628 hb; replace BK630 := kb BK630 hb; replace HB := sb HB hb; (try clear hb); (try clear hb2 hk hi); obtain ⟨Z34_0, Z34_1, Z34_2, Z34_3, Z34_4, Z34_5, Z34_6, Y34_0, Y34_1, Y34_2, Y34_3, Y34_4, Y34_5, Y34_6⟩ := bq7 BK630))
             repeat (go_quiet (fail); try go_wp2_with (first | (go_at_call 69; (with_reducible refine (vellumref01_Check.calls k2 ((rd_T105 l0_1 x3_1).f3.f0) ((rd_T105 l0_1 x3_1).f3.f1) ((rd_T105 l0_1 x3_1).f3.f2) ((rd_T105 l0_1 x3_1).f3.f3) t633 _ (Glob.below HG.out (bl HB)) A28.out).mono ?_); rintro e w33 ⟨rfl, hb⟩; replace BK628 := kb BK628 hb; replace BK630 := kb BK630 hb; replace HB := sb HB hb; (try clear hb); (try clear hb2 hk hi); obtain ⟨Z34_0, Z34_1, Z34_2, Z34_3, Z34_4, Z34_5, Z34_6, Y34_0, Y34_1, Y34_2, Y34_3, Y34_4, Y34_5, Y34_6⟩ := bq7 BK630)))
             go_roundg k2
             case measure => have := HK1.out; have := HK2.out; omega
             case rel => exact ⟨(wrap64 (x3_1 + 1)), eb, H', ⟨by have := HK1.out; have := HK2.out; omega⟩, ⟨bk BK628⟩, ⟨bl HB⟩⟩
            ·rw [if_neg c30] at H
             have c30b0 : (((rd_T105 l0_1 x3_1).f3.f0) == ((rd_T105 l0_1 x3_1).f1)) = false := beq_eq_false_iff_ne.mpr c30
             have c30b1 : (((rd_T105 l0_1 x3_1).f3.f0) != ((rd_T105 l0_1 x3_1).f1)) = true := bne_iff_ne.mpr c30
             by_cases c35 : ((rd_T105 l0_1 x3_1).f3.f0) = 0
             ·rw [if_pos c35] at H
              have c35b0 : (((rd_T105 l0_1 x3_1).f3.f0) == 0) = true := beq_iff_eq.mpr c35
              have c35b1 : (((rd_T105 l0_1 x3_1).f3.f0) != 0) = false := bne_eq_false_iff_eq.mpr c35
              clear c35
              have H' := am H
              clear H
              have hnb36 := NB630_628.out
              have hnc36 := NB628_630.out
              obtain ⟨Z37_0, Z37_1, Z37_2, Z37_3, Z37_4, Z37_5, Z37_6, Y37_0, Y37_1, Y37_2, Y37_3, Y37_4, Y37_5, Y37_6⟩ := bq7 BK630
              go_wp2_with (first | (go_at_call 69; (with_reducible refine (vellumref01_Check.calls k2 ((rd_T105 l0_1 x3_1).f3.f0) ((rd_T105 l0_1 x3_1).f3.f1) ((rd_T105 l0_1 x3_1).f3.f2) ((rd_T105 l0_1 x3_1).f3.f3) t633 _ (Glob.below HG.out (bl HB)) A28.out).mono ?_); rintro e w38 ⟨rfl, hb⟩; replace BK628 := kb BK628 hb; replace BK630 := kb BK630 hb; replace HB := sb HB hb; (try clear hb); (try clear hb2 hk hi); obtain ⟨Z39_0, Z39_1, Z39_2, Z39_3, Z39_4, Z39_5, Z39_6, Y39_0, Y39_1, Y39_2, Y39_3, Y39_4, Y39_5, Y39_6⟩ := bq7 BK630))
              repeat (go_quiet (fail); try go_wp2_with (first | (go_at_call 69; (with_reducible refine (vellumref01_Check.calls k2 ((rd_T105 l0_1 x3_1).f3.f0) ((rd_T105 l0_1 x3_1).f3.f1) ((rd_T105 l0_1 x3_1).f3.f2) ((rd_T105 l0_1 x3_1).f3.f3) t633 _ (Glob.below HG.out (bl HB)) A28.out).mono ?_); rintro e w38 ⟨rfl, hb⟩; replace BK628 := kb BK628 hb; replace BK630 := kb BK630 hb; replace HB := sb HB hb; (try clear hb); (try clear hb2 hk hi); obtain ⟨Z39_0, Z39_1, Z39_2, Z39_3, Z39_4, Z39_5, Z39_6, Y39_0, Y39_1, Y39_2, Y39_3, Y39_4, Y39_5, Y39_6⟩ := bq7 BK630)))
              go_roundg k2
              case measure => have := HK1.out; have := HK2.out; omega
              case rel => exact ⟨(wrap64 (x3_1 + 1)), eb, H', ⟨by have := HK1.out; have := HK2.out; omega⟩, ⟨bk BK628⟩, ⟨bl HB⟩⟩
             ·rw [if_neg c35] at H
              have c35b0 : (((rd_T105 l0_1 x3_1).f3.f0) == 0) = false := beq_eq_false_iff_ne.mpr c35
              have c35b1 : (((rd_T105 l0_1 x3_1).f3.f0) != 0) = true := bne_iff_ne.mpr c35
              obtain rfl := Option.some.inj H
              have hnb40 := NB630_628.out
              have hnc40 := NB628_630.out
              obtain ⟨Z41_0, Z41_1, Z41_2, Z41_3, Z41_4, Z41_5, Z41_6, Y41_0, Y41_1, Y41_2, Y41_3, Y41_4, Y41_5, Y41_6⟩ := bq7 BK630
              go_wp2_with (first | (go_at_call 69; (with_reducible refine (vellumref01_Check.calls k2 ((rd_T105 l0_1 x3_1).f3.f0) ((rd_T105 l0_1 x3_1).f3.f1) ((rd_T105 l0_1 x3_1).f3.f2) ((rd_T105 l0_1 x3_1).f3.f3) t633 _ (Glob.below HG.out (bl HB)) A28.out).mono ?_); rintro e w42 ⟨rfl, hb⟩; replace BK628 := kb BK628 hb; replace BK630 := kb BK630 hb; replace HB := sb HB hb; (try clear hb); (try clear hb2 hk hi); obtain ⟨Z43_0, Z43_1, Z43_2, Z43_3, Z43_4, Z43_5, Z43_6, Y43_0, Y43_1, Y43_2, Y43_3, Y43_4, Y43_5, Y43_6⟩ := bq7 BK630))
              repeat (go_quiet (fail); try go_wp2_with (first | (go_at_call 69; (with_reducible refine (vellumref01_Check.calls k2 ((rd_T105 l0_1 x3_1).f3.f0) ((rd_T105 l0_1 x3_1).f3.f1) ((rd_T105 l0_1 x3_1).f3.f2) ((rd_T105 l0_1 x3_1).f3.f3) t633 _ (Glob.below HG.out (bl HB)) A28.out).mono ?_); rintro e w42 ⟨rfl, hb⟩; replace BK628 := kb BK628 hb; replace BK630 := kb BK630 hb; replace HB := sb HB hb; (try clear hb); (try clear hb2 hk hi); obtain ⟨Z43_0, Z43_1, Z43_2, Z43_3, Z43_4, Z43_5, Z43_6, Y43_0, Y43_1, Y43_2, Y43_3, Y43_4, Y43_5, Y43_6⟩ := bq7 BK630)))
              go_ret
              exact ⟨er, bl HB⟩
           ·rw [if_neg c29] at H
            have c29b0 : (t633 == 0) = false := beq_eq_false_iff_ne.mpr c29
            have c29b1 : (t633 != 0) = true := bne_iff_ne.mpr c29
            obtain rfl := Option.some.inj H
            have hnb44 := NB630_628.out
            have hnc44 := NB628_630.out
            obtain ⟨Z45_0, Z45_1, Z45_2, Z45_3, Z45_4, Z45_5, Z45_6, Y45_0, Y45_1, Y45_2, Y45_3, Y45_4, Y45_5, Y45_6⟩ := bq7 BK630
            go_wp2_with (first | (go_at_call 69; (with_reducible refine (vellumref01_Check.calls k2 ((rd_T105 l0_1 x3_1).f3.f0) ((rd_T105 l0_1 x3_1).f3.f1) ((rd_T105 l0_1 x3_1).f3.f2) ((rd_T105 l0_1 x3_1).f3.f3) t633 _ (Glob.below HG.out (bl HB)) A28.out).mono ?_); rintro e w46 ⟨rfl, hb⟩; replace BK628 := kb BK628 hb; replace BK630 := kb BK630 hb; replace HB := sb HB hb; (try clear hb); (try clear hb2 hk hi)))
            repeat (go_quiet (fail); try go_wp2_with (first | (go_at_call 69; (with_reducible refine (vellumref01_Check.calls k2 ((rd_T105 l0_1 x3_1).f3.f0) ((rd_T105 l0_1 x3_1).f3.f1) ((rd_T105 l0_1 x3_1).f3.f2) ((rd_T105 l0_1 x3_1).f3.f3) t633 _ (Glob.below HG.out (bl HB)) A28.out).mono ?_); rintro e w46 ⟨rfl, hb⟩; replace BK628 := kb BK628 hb; replace BK630 := kb BK630 hb; replace HB := sb HB hb; (try clear hb); (try clear hb2 hk hi))))
            go_ret
            exact ⟨er, bl HB⟩
     ·replace c6 := Bool.eq_false_iff.mpr c6
      subst c6
      have H1 : (some 30) = some r := by rw [if_neg (show ¬ (false = true) by decide)] at H; exact H
      clear H
      have H := H1
      clear H1
      obtain rfl := Option.some.inj H
      obtain ⟨Z47_0, Z47_1, Z47_2, Z47_3, Z47_4, Y47_0, Y47_1, Y47_2, Y47_3, Y47_4⟩ := bq5 BK628
      have p629 : 0 ≤ (x3_1 : Int) := oda
      have q629 : x3_1 < (l0_1.length : Int) := oda
      obtain ⟨ad629, e629, hx629_0, hx629_1, hx629_2, hx629_3, hx629_4, hx629_5, hx629_6⟩ := at_T105 HR0_1.out x3_1 p629 q629
      cases e629
      replace hx629_0 := hc HB hx629_0
      replace hx629_1 := hc HB hx629_1
      replace hx629_2 := hc HB hx629_2
      replace hx629_3 := hc HB hx629_3
      replace hx629_4 := hc HB hx629_4
      replace hx629_5 := hc HB hx629_5
      replace hx629_6 := hc HB hx629_6
      replace p629 := eq_true p629
      replace q629 := eq_true q629
      go_wp2_with (first | ((with_reducible refine gate_dst (N := 4) rfl ?_); refine box_event rfl (N := 4) rfl (cs := #[.string (⟨#[]⟩ : ByteArray), .int .i64 0, .bool false, .int .i64 0, .int .i64 0, .float .f64 0, .string (⟨#[]⟩ : ByteArray)]) (t := 105) gs ?_; intro gb630 hg w48 hbox hb; have BK630 := am (hbox); have GW630 := gw hg HB; have GE630 := gw hg HB; have NB628_630 := am ((by rw [hg]; exact Nat.ne_of_lt (blk_lt (bk BK628)) : gb628 ≠ gb630)); have NB630_628 := am ((by rw [hg]; exact Nat.ne_of_gt (blk_lt (bk BK628)) : gb630 ≠ gb628)); replace BK628 := kb BK628 hb; replace HB := sb HB hb; clear hb hbox hg; have hnb49 := NB630_628.out; have hnc49 := NB628_630.out; obtain ⟨Z50_0, Z50_1, Z50_2, Z50_3, Z50_4, Z50_5, Z50_6, Y50_0, Y50_1, Y50_2, Y50_3, Y50_4, Y50_5, Y50_6⟩ := bq7 BK630) | (go_at_call 132; (with_reducible refine (vellumref03_Name.calls k1 ((rd_T105 l0_1 x3_1).f0) false _ A5.out).mono ?_); rintro e w51 ⟨rfl, hb⟩; replace BK628 := am (blk_below (g := gb628) (o := .cells #[.string a0_0, .slice (some ad629) l0_1.length c0_1, .slice A0_2 l0_2.length c0_2, .slice A0_3 l0_3.length c0_3, .slice A0_4 l0_4.length c0_4] 65 (0, 0)) (by refine rp ?_; refine blk_far ?_ NB628_630.out _; refine rp ?_; refine blk_far ?_ NB628_630.out _; refine rp ?_; refine blk_far ?_ NB628_630.out _; refine rp ?_; refine blk_far ?_ NB628_630.out _; refine rp ?_; refine blk_far ?_ NB628_630.out _; refine rp ?_; refine blk_far ?_ NB628_630.out _; refine rp ?_; refine blk_far ?_ NB628_630.out _; exact bk BK628) hb); replace BK630 := am (blk_below (g := gb630) (o := .cells #[.string ((rd_T105 l0_1 x3_1).f0), .int .i64 ((rd_T105 l0_1 x3_1).f1), .bool ((rd_T105 l0_1 x3_1).f2), .int .i64 ((rd_T105 l0_1 x3_1).f3.f0), .int .i64 ((rd_T105 l0_1 x3_1).f3.f1), .float .f64 ((rd_T105 l0_1 x3_1).f3.f2), .string ((rd_T105 l0_1 x3_1).f3.f3)] 105 (0, 0)) (by refine rp ?_; refine blk_put (cs := #[.string ((rd_T105 l0_1 x3_1).f0), .int .i64 ((rd_T105 l0_1 x3_1).f1), .bool ((rd_T105 l0_1 x3_1).f2), .int .i64 ((rd_T105 l0_1 x3_1).f3.f0), .int .i64 ((rd_T105 l0_1 x3_1).f3.f1), .float .f64 ((rd_T105 l0_1 x3_1).f3.f2), .string (⟨#[]⟩ : ByteArray)]) ?_ 6 _ rfl; refine rp ?_; refine blk_put (cs := #[.string ((rd_T105 l0_1 x3_1).f0), .int .i64 ((rd_T105 l0_1 x3_1).f1), .bool ((rd_T105 l0_1 x3_1).f2), .int .i64 ((rd_T105 l0_1 x3_1).f3.f0), .int .i64 ((rd_T105 l0_1 x3_1).f3.f1), .float .f64 0, .string (⟨#[]⟩ : ByteArray)]) ?_ 5 _ rfl; refine rp ?_; refine blk_put (cs := #[.string ((rd_T105 l0_1 x3_1).f0), .int .i64 ((rd_T105 l0_1 x3_1).f1), .bool ((rd_T105 l0_1 x3_1).f2), .int .i64 ((rd_T105 l0_1 x3_1).f3.f0), .int .i64 0, .float .f64 0, .string (⟨#[]⟩ : ByteArray)]) ?_ 4 _ rfl; refine rp ?_; refine blk_put (cs := #[.string ((rd_T105 l0_1 x3_1).f0), .int .i64 ((rd_T105 l0_1 x3_1).f1), .bool ((rd_T105 l0_1 x3_1).f2), .int .i64 0, .int .i64 0, .float .f64 0, .string (⟨#[]⟩ : ByteArray)]) ?_ 3 _ rfl; refine rp ?_; refine blk_put (cs := #[.string ((rd_T105 l0_1 x3_1).f0), .int .i64 ((rd_T105 l0_1 x3_1).f1), .bool false, .int .i64 0, .int .i64 0, .float .f64 0, .string (⟨#[]⟩ : ByteArray)]) ?_ 2 _ rfl; refine rp ?_; refine blk_put (cs := #[.string ((rd_T105 l0_1 x3_1).f0), .int .i64 0, .bool false, .int .i64 0, .int .i64 0, .float .f64 0, .string (⟨#[]⟩ : ByteArray)]) ?_ 1 _ rfl; refine rp ?_; refine blk_put (cs := #[.string (⟨#[]⟩ : ByteArray), .int .i64 0, .bool false, .int .i64 0, .int .i64 0, .float .f64 0, .string (⟨#[]⟩ : ByteArray)]) ?_ 0 _ rfl; exact bk BK630) hb); replace HB := sb HB hb; (try clear hb); (try clear hb2 hk hi)))
      repeat (go_quiet (fail); try go_wp2_with (first | ((with_reducible refine gate_dst (N := 4) rfl ?_); refine box_event rfl (N := 4) rfl (cs := #[.string (⟨#[]⟩ : ByteArray), .int .i64 0, .bool false, .int .i64 0, .int .i64 0, .float .f64 0, .string (⟨#[]⟩ : ByteArray)]) (t := 105) gs ?_; intro gb630 hg w48 hbox hb; have BK630 := am (hbox); have GW630 := gw hg HB; have GE630 := gw hg HB; have NB628_630 := am ((by rw [hg]; exact Nat.ne_of_lt (blk_lt (bk BK628)) : gb628 ≠ gb630)); have NB630_628 := am ((by rw [hg]; exact Nat.ne_of_gt (blk_lt (bk BK628)) : gb630 ≠ gb628)); replace BK628 := kb BK628 hb; replace HB := sb HB hb; clear hb hbox hg; have hnb49 := NB630_628.out; have hnc49 := NB628_630.out; obtain ⟨Z50_0, Z50_1, Z50_2, Z50_3, Z50_4, Z50_5, Z50_6, Y50_0, Y50_1, Y50_2, Y50_3, Y50_4, Y50_5, Y50_6⟩ := bq7 BK630) | (go_at_call 132; (with_reducible refine (vellumref03_Name.calls k1 ((rd_T105 l0_1 x3_1).f0) false _ A5.out).mono ?_); rintro e w51 ⟨rfl, hb⟩; replace BK628 := am (blk_below (g := gb628) (o := .cells #[.string a0_0, .slice (some ad629) l0_1.length c0_1, .slice A0_2 l0_2.length c0_2, .slice A0_3 l0_3.length c0_3, .slice A0_4 l0_4.length c0_4] 65 (0, 0)) (by refine rp ?_; refine blk_far ?_ NB628_630.out _; refine rp ?_; refine blk_far ?_ NB628_630.out _; refine rp ?_; refine blk_far ?_ NB628_630.out _; refine rp ?_; refine blk_far ?_ NB628_630.out _; refine rp ?_; refine blk_far ?_ NB628_630.out _; refine rp ?_; refine blk_far ?_ NB628_630.out _; refine rp ?_; refine blk_far ?_ NB628_630.out _; exact bk BK628) hb); replace BK630 := am (blk_below (g := gb630) (o := .cells #[.string ((rd_T105 l0_1 x3_1).f0), .int .i64 ((rd_T105 l0_1 x3_1).f1), .bool ((rd_T105 l0_1 x3_1).f2), .int .i64 ((rd_T105 l0_1 x3_1).f3.f0), .int .i64 ((rd_T105 l0_1 x3_1).f3.f1), .float .f64 ((rd_T105 l0_1 x3_1).f3.f2), .string ((rd_T105 l0_1 x3_1).f3.f3)] 105 (0, 0)) (by refine rp ?_; refine blk_put (cs := #[.string ((rd_T105 l0_1 x3_1).f0), .int .i64 ((rd_T105 l0_1 x3_1).f1), .bool ((rd_T105 l0_1 x3_1).f2), .int .i64 ((rd_T105 l0_1 x3_1).f3.f0), .int .i64 ((rd_T105 l0_1 x3_1).f3.f1), .float .f64 ((rd_T105 l0_1 x3_1).f3.f2), .string (⟨#[]⟩ : ByteArray)]) ?_ 6 _ rfl; refine rp ?_; refine blk_put (cs := #[.string ((rd_T105 l0_1 x3_1).f0), .int .i64 ((rd_T105 l0_1 x3_1).f1), .bool ((rd_T105 l0_1 x3_1).f2), .int .i64 ((rd_T105 l0_1 x3_1).f3.f0), .int .i64 ((rd_T105 l0_1 x3_1).f3.f1), .float .f64 0, .string (⟨#[]⟩ : ByteArray)]) ?_ 5 _ rfl; refine rp ?_; refine blk_put (cs := #[.string ((rd_T105 l0_1 x3_1).f0), .int .i64 ((rd_T105 l0_1 x3_1).f1), .bool ((rd_T105 l0_1 x3_1).f2), .int .i64 ((rd_T105 l0_1 x3_1).f3.f0), .int .i64 0, .float .f64 0, .string (⟨#[]⟩ : ByteArray)]) ?_ 4 _ rfl; refine rp ?_; refine blk_put (cs := #[.string ((rd_T105 l0_1 x3_1).f0), .int .i64 ((rd_T105 l0_1 x3_1).f1), .bool ((rd_T105 l0_1 x3_1).f2), .int .i64 0, .int .i64 0, .float .f64 0, .string (⟨#[]⟩ : ByteArray)]) ?_ 3 _ rfl; refine rp ?_; refine blk_put (cs := #[.string ((rd_T105 l0_1 x3_1).f0), .int .i64 ((rd_T105 l0_1 x3_1).f1), .bool false, .int .i64 0, .int .i64 0, .float .f64 0, .string (⟨#[]⟩ : ByteArray)]) ?_ 2 _ rfl; refine rp ?_; refine blk_put (cs := #[.string ((rd_T105 l0_1 x3_1).f0), .int .i64 0, .bool false, .int .i64 0, .int .i64 0, .float .f64 0, .string (⟨#[]⟩ : ByteArray)]) ?_ 1 _ rfl; refine rp ?_; refine blk_put (cs := #[.string (⟨#[]⟩ : ByteArray), .int .i64 0, .bool false, .int .i64 0, .int .i64 0, .float .f64 0, .string (⟨#[]⟩ : ByteArray)]) ?_ 0 _ rfl; exact bk BK630) hb); replace HB := sb HB hb; (try clear hb); (try clear hb2 hk hi))))
      go_ret
      exact ⟨er, bl HB⟩
    ·rw [if_neg c4] at H
     exact absurd H (by simp)
   ·rw [if_neg c3] at H
    have c3b0 : decide (x3_1 < (l0_1.length : Int)) = false := decide_eq_false c3
    clear c3
    obtain rfl := Option.some.inj H
    obtain ⟨Z52_0, Z52_1, Z52_2, Z52_3, Z52_4, Y52_0, Y52_1, Y52_2, Y52_3, Y52_4⟩ := bq5 BK628
    go_wp2
    repeat (go_quiet (fail); try go_wp2)
    go_ret
    exact ⟨er, bl HB⟩
mutual
def vellumref03_some.j0 : Nat → List Int → Bool → ByteArray → List (S105) → List Int → List (S115) → List (S139) → Option (Bool)
 | 0, _, _, _, _, _, _, _ => none
 | k + 1, x1, x14, x635000, x635001, x635002, x635003, x635004 => if x14 = true then (some false) else (vellumref03_some.l0 k x1 0 x635000 x635001 x635002 x635003 x635004)
def vellumref03_some.l0 : Nat → List Int → Int → ByteArray → List (S105) → List Int → List (S115) → List (S139) → Option (Bool)
 | 0, _, _, _, _, _, _, _ => none
 | k + 1, x1, x5, x635000, x635001, x635002, x635003, x635004 => if x5 < (x1.length : Int) then (if 0 ≤ x5 then (if (rd x1 x5) < 0 then (vellumref03_some.j2 k x1 x5 true x635000 x635001 x635002 x635003 x635004) else (vellumref03_some.j2 k x1 x5 (decide ((rd x1 x5) ≥ (x635001.length : Int))) x635000 x635001 x635002 x635003 x635004)) else (none)) else (some true)
def vellumref03_some.j2 : Nat → List Int → Int → Bool → ByteArray → List (S105) → List Int → List (S115) → List (S139) → Option (Bool)
 | 0, _, _, _, _, _, _, _, _ => none
 | k + 1, x1, x5, x35, x635000, x635001, x635002, x635003, x635004 => if x35 = true then (some false) else (vellumref03_some.l1 k x1 x5 0 x635000 x635001 x635002 x635003 x635004)
def vellumref03_some.l1 : Nat → List Int → Int → Int → ByteArray → List (S105) → List Int → List (S115) → List (S139) → Option (Bool)
 | 0, _, _, _, _, _, _, _, _ => none
 | k + 1, x1, x5, x6, x635000, x635001, x635002, x635003, x635004 => if x6 < x5 then (if 0 ≤ x6 then (if x6 < (x1.length : Int) then (if 0 ≤ x5 then (if x5 < (x1.length : Int) then (if (rd x1 x6) = (rd x1 x5) then (some false) else (vellumref03_some.l1 k x1 x5 (wrap64 (x6 + 1)) x635000 x635001 x635002 x635003 x635004)) else (none)) else (none)) else (none)) else (none)) else (vellumref03_some.l0 k x1 (wrap64 (x5 + 1)) x635000 x635001 x635002 x635003 x635004)
end
def vellumref03_some.f (k : Nat) (a0_0 : ByteArray) (l0_1 : List (S105)) (l0_2 : List Int) (l0_3 : List (S115)) (l0_4 : List (S139)) (l1 : List Int) : Option (Bool) := if (l1.length : Int) < 1 then (vellumref03_some.j0 k l1 true a0_0 l0_1 l0_2 l0_3 l0_4) else (vellumref03_some.j0 k l1 (decide ((l1.length : Int) > 64)) a0_0 l0_1 l0_2 l0_3 l0_4)
set_option maxHeartbeats 8000000 in
set_option maxRecDepth 100000 in
theorem vellumref03_some.calls (k : Nat) (a0_0 : ByteArray) (A0_1 : Option Addr) (c0_1 : Nat) (l0_1 : List (S105)) (A0_2 : Option Addr) (c0_2 : Nat) (l0_2 : List Int) (A0_3 : Option Addr) (c0_3 : Nat) (l0_3 : List (S115)) (A0_4 : Option Addr) (c0_4 : Nat) (l0_4 : List (S139)) (A1 : Option Addr) (c1 : Nat) (l1 : List Int) (r : Bool) (w : World) (hr0_1 : Kd.C k105 w A0_1 l0_1.length l0_1) (hc0_1 : l0_1.length ≤ c0_1) (hr0_2 : Kd.C (Kd.int .i64) w A0_2 l0_2.length l0_2) (hc0_2 : l0_2.length ≤ c0_2) (hr0_3 : Kd.C k115 w A0_3 l0_3.length l0_3) (hc0_3 : l0_3.length ≤ c0_3) (hr0_4 : Kd.C k139 w A0_4 l0_4.length l0_4) (hc0_4 : l0_4.length ≤ c0_4) (hr1 : Kd.C (Kd.int .i64) w A1 l1.length l1) (hc1 : l1.length ≤ c1) (h : vellumref03_some.f k a0_0 l0_1 l0_2 l0_3 l0_4 l1 = some r) :
  Calls Tryd.prog 134 #[.agg #[.string a0_0, .slice A0_1 l0_1.length c0_1, .slice A0_2 l0_2.length c0_2, .slice A0_3 l0_3.length c0_3, .slice A0_4 l0_4.length c0_4], .slice A1 l1.length c1] w fun e w' => e = .returned (.bool r) ∧ Below w.heap.size w w' := by
 have hu65 := Tryd.underlying65
 have HR0_1 := am hr0_1
 have HC0_1 := am hc0_1
 clear hr0_1 hc0_1
 have HR0_2 := am hr0_2
 have HC0_2 := am hc0_2
 clear hr0_2 hc0_2
 have HR0_3 := am hr0_3
 have HC0_3 := am hc0_3
 clear hr0_3 hc0_3
 have HR0_4 := am hr0_4
 have HC0_4 := am hc0_4
 clear hr0_4 hc0_4
 have HR1 := am hr1
 have HC1 := am hc1
 clear hr1 hc1
 have HB := am (Below.refl w.heap.size w)
 have H : (if (l1.length : Int) < 1 then (vellumref03_some.j0 k l1 true a0_0 l0_1 l0_2 l0_3 l0_4) else (vellumref03_some.j0 k l1 (decide ((l1.length : Int) > 64)) a0_0 l0_1 l0_2 l0_3 l0_4)) = some r := h
 clear h
 have HC3 := am H
 clear H
 go_enter Tryd.func134, Tryd.ntmps134
 go_upto_region 1 with (first | ((with_reducible refine gate_dst (N := 2) rfl ?_); (try (refine gate_guard (by rfl) ?_; dsimp only)); refine box_event rfl (N := 2) rfl (cs := #[.string a0_0, .slice A0_1 l0_1.length c0_1, .slice A0_2 l0_2.length c0_2, .slice A0_3 l0_3.length c0_3, .slice A0_4 l0_4.length c0_4]) (t := 65) gs ?_; intro gb634 hg w4 hbox hb; have BK634 := am (hbox); have GW634 := gw hg HB; have GE634 := gw hg HB; replace HB := sb HB hb; clear hb hbox hg))
 repeat (go_quiet (first | ((with_reducible refine gate_dst (N := 2) rfl ?_); (try (refine gate_guard (by rfl) ?_; dsimp only)); refine box_event rfl (N := 2) rfl (cs := #[.string a0_0, .slice A0_1 l0_1.length c0_1, .slice A0_2 l0_2.length c0_2, .slice A0_3 l0_3.length c0_3, .slice A0_4 l0_4.length c0_4]) (t := 65) gs ?_; intro gb634 hg w4 hbox hb; have BK634 := am (hbox); have GW634 := gw hg HB; have GE634 := gw hg HB; replace HB := sb HB hb; clear hb hbox hg)); go_upto_region 1 with (first | ((with_reducible refine gate_dst (N := 2) rfl ?_); (try (refine gate_guard (by rfl) ?_; dsimp only)); refine box_event rfl (N := 2) rfl (cs := #[.string a0_0, .slice A0_1 l0_1.length c0_1, .slice A0_2 l0_2.length c0_2, .slice A0_3 l0_3.length c0_3, .slice A0_4 l0_4.length c0_4]) (t := 65) gs ?_; intro gb634 hg w4 hbox hb; have BK634 := am (hbox); have GW634 := gw hg HB; have GE634 := gw hg HB; replace HB := sb HB hb; clear hb hbox hg)))
 (try simp only [Act.put, List.setIfInBounds_toArray, List.set_cons_zero, List.set_cons_succ])
 go_cut [14] (fun v14 wc => ∃ (kq : Nat) (x14_2 : Bool), v14 = .bool x14_2 ∧ Aside0 (vellumref03_some.j0 kq l1 x14_2 a0_0 l0_1 l0_2 l0_3 l0_4 = some r) ∧ Aside0 (kq ≤ k) ∧ Aside0 (wc.heap[gb634]? = some (.cells #[.string a0_0, (.slice A0_1 l0_1.length c0_1), (.slice A0_2 l0_2.length c0_2), (.slice A0_3 l0_3.length c0_3), (.slice A0_4 l0_4.length c0_4)] 65 (0, 0))) ∧ Aside0 (Below w.heap.size w wc))
 case first =>
  have H := HC3.out
  clear HC3
  by_cases c5 : (l1.length : Int) < 1
  ·rw [if_pos c5] at H
   have c5b0 : decide ((l1.length : Int) < 1) = true := decide_eq_true c5
   have c5b1 : decide (l1.length < 1) = true := decide_eq_true (by omega)
   clear c5
   (first | rw [c5b0] | (simp only [i64_w, i32_w]; rw [c5b0]) | skip)
   have H' := am H
   clear H
   go_wp2
   repeat (go_quiet (fail); try go_wp2)
   go_meet
   case rel => exact ⟨_, (true), eb, H', ⟨by first | omega | exact Nat.le_refl _⟩, ⟨bk BK634⟩, ⟨bl HB⟩⟩
  ·rw [if_neg c5] at H
   have c5b0 : decide ((l1.length : Int) < 1) = false := decide_eq_false c5
   have c5b1 : decide (l1.length < 1) = false := decide_eq_false (by omega)
   clear c5
   (first | rw [c5b0] | (simp only [i64_w, i32_w]; rw [c5b0]) | skip)
   have H' := am H
   clear H
   go_wp2
   repeat (go_quiet (fail); try go_wp2)
   go_meet
   case rel => exact ⟨_, (decide ((l1.length : Int) > 64)), eb, H', ⟨by first | omega | exact Nat.le_refl _⟩, ⟨bk BK634⟩, ⟨bl HB⟩⟩
 case rest =>
  clear HC3
  (try clear c1); (try clear p2); (try clear c5); (try clear c5b0 c5b1)
  obtain ⟨kq, x14_2, rfl, HA, HJ2, BK634, HB⟩ := hcut
  cases kq with
  | zero => exact absurd HA.out (by simp [vellumref03_some.j0])
  | succ kj2 =>
   have H := HA.out
   clear HA
   simp only [vellumref03_some.j0] at H
   by_cases c6 : x14_2 = true
   ·subst c6
    have H1 : (some false) = some r := by rw [if_pos rfl] at H; exact H
    clear H
    have H := H1
    clear H1
    obtain rfl := Option.some.inj H
    go_wp2
    repeat (go_quiet (fail); try go_wp2)
    go_ret
    exact ⟨er, bl HB⟩
   ·replace c6 := Bool.eq_false_iff.mpr c6
    subst c6
    have H1 : (vellumref03_some.l0 kj2 l1 0 a0_0 l0_1 l0_2 l0_3 l0_4) = some r := by rw [if_neg (show ¬ (false = true) by decide)] at H; exact H
    clear H
    have H := H1
    clear H1
    have H' := am H
    clear H
    go_wp2
    repeat (go_quiet (fail); try go_wp2)
    go_loopg [5] kj2 (fun kq v5 w' => ∃ (x5_2 : Int), v5 = .int .i64 x5_2 ∧ Aside0 (vellumref03_some.l0 kq l1 x5_2 a0_0 l0_1 l0_2 l0_3 l0_4 = some r) ∧ Aside0 (kq ≤ kj2) ∧ Aside0 (w'.heap[gb634]? = some (.cells #[.string a0_0, (.slice A0_1 l0_1.length c0_1), (.slice A0_2 l0_2.length c0_2), (.slice A0_3 l0_3.length c0_3), (.slice A0_4 l0_4.length c0_4)] 65 (0, 0))) ∧ Aside0 (Below w.heap.size w w'))
    case atStart => exact ⟨(0), eb, H', ⟨Nat.le_refl _⟩, ⟨bk BK634⟩, ⟨bl HB⟩⟩
    case round =>
     clear H'
     (try clear c1); (try clear p2); (try clear c5); (try clear c5b0 c5b1); (try clear c6); (try clear p2)
     obtain ⟨x5_2, rfl, HA, HK2, BK634, HB⟩ := hrel
     cases gk with
     | zero => exact absurd HA.out (by simp [vellumref03_some.l0])
     | succ k2 =>
      have H := HA.out
      clear HA
      simp only [vellumref03_some.l0] at H
      by_cases c7 : x5_2 < (l1.length : Int)
      ·rw [if_pos c7] at H
       have c7b0 : decide (x5_2 < (l1.length : Int)) = true := decide_eq_true c7
       clear c7
       have HC8 := am H
       clear H
       go_upto_region 6 with (fail)
       repeat (go_quiet (fail); go_upto_region 6 with (fail))
       go_cut [35] (fun v35 wc => ∃ (kq : Nat) (x35_7 : Bool), v35 = .bool x35_7 ∧ Aside0 (vellumref03_some.j2 kq l1 x5_2 x35_7 a0_0 l0_1 l0_2 l0_3 l0_4 = some r) ∧ Aside0 (kq ≤ k2) ∧ Aside0 (wc.heap[gb634]? = some (.cells #[.string a0_0, (.slice A0_1 l0_1.length c0_1), (.slice A0_2 l0_2.length c0_2), (.slice A0_3 l0_3.length c0_3), (.slice A0_4 l0_4.length c0_4)] 65 (0, 0))) ∧ Aside0 (Below w.heap.size w wc))
       case first =>
        have H := HC8.out
        clear HC8
        by_cases c9 : 0 ≤ x5_2
        ·rw [if_pos c9] at H
         have c9b0 : decide (0 ≤ x5_2) = true := decide_eq_true c9
         clear c9
         (first | rw [c9b0] | (simp only [i64_w, i32_w]; rw [c9b0]) | skip)
         by_cases c10 : (rd l1 x5_2) < 0
         ·rw [if_pos c10] at H
          have c10b0 : decide ((rd l1 x5_2) < 0) = true := decide_eq_true c10
          clear c10
          have H' := am H
          clear H
          have p635 : 0 ≤ (x5_2 : Int) := oda
          have q635 : x5_2 < (l1.length : Int) := oda
          obtain ⟨ad635, e635, hx635_0⟩ := Kd.at_int HR1.out x5_2 p635 q635
          cases e635
          replace hx635_0 := hc HB hx635_0
          replace p635 := eq_true p635
          replace q635 := eq_true q635
          go_wp2
          repeat (go_quiet (fail); try go_wp2)
          go_meet
          case rel => exact ⟨_, (true), eb, H', ⟨by have := HJ2.out; have := HK2.out; first | omega | exact Nat.le_refl _⟩, ⟨bk BK634⟩, ⟨bl HB⟩⟩
         ·rw [if_neg c10] at H
          have c10b0 : decide ((rd l1 x5_2) < 0) = false := decide_eq_false c10
          clear c10
          have H' := am H
          clear H
          have p635 : 0 ≤ (x5_2 : Int) := oda
          have q635 : x5_2 < (l1.length : Int) := oda
          obtain ⟨ad635, e635, hx635_0⟩ := Kd.at_int HR1.out x5_2 p635 q635
          cases e635
          replace hx635_0 := hc HB hx635_0
          replace p635 := eq_true p635
          replace q635 := eq_true q635
          have p636 : 0 ≤ (x5_2 : Int) := oda
          have q636 : x5_2 < (l1.length : Int) := oda
          obtain ⟨ad636, e636, hx636_0⟩ := Kd.at_int HR1.out x5_2 p636 q636
          obtain rfl : ad635 = ad636 := (by injection e636)
          replace hx636_0 := hc HB hx636_0
          replace p636 := eq_true p636
          replace q636 := eq_true q636
          obtain ⟨Z11_0, Z11_1, Z11_2, Z11_3, Z11_4, Y11_0, Y11_1, Y11_2, Y11_3, Y11_4⟩ := bq5 BK634
          go_wp2
          repeat (go_quiet (fail); try go_wp2)
          go_meet
          case rel => exact ⟨_, (decide ((rd l1 x5_2) ≥ (l0_1.length : Int))), eb, H', ⟨by have := HJ2.out; have := HK2.out; first | omega | exact Nat.le_refl _⟩, ⟨bk BK634⟩, ⟨bl HB⟩⟩
        ·rw [if_neg c9] at H
         exact absurd H (by simp)
       case rest =>
        clear HC8
        (try clear c1); (try clear p2); (try clear c5); (try clear c5b0 c5b1); (try clear c6); (try clear p6); (try clear q6); (try clear hx6); (try clear c7); (try clear c7b0); (try clear c9); (try clear c9b0); (try clear c10); (try clear c10b0); (try clear Z11_0 Z11_1 Z11_2 Z11_3 Z11_4); (try clear Y11_0 Y11_1 Y11_2 Y11_3 Y11_4); (try clear hx635_0); (try clear hx636_0); (try clear p2); (try clear p635); (try clear p636); (try clear q635); (try clear q636)
        obtain ⟨kq, x35_7, rfl, HA, HJ7, BK634, HB⟩ := hcut
        cases kq with
        | zero => exact absurd HA.out (by simp [vellumref03_some.j2])
        | succ kj7 =>
         have H := HA.out
         clear HA
         simp only [vellumref03_some.j2] at H
         by_cases c12 : x35_7 = true
         ·subst c12
          have H1 : (some false) = some r := by rw [if_pos rfl] at H; exact H
          clear H
          have H := H1
          clear H1
          obtain rfl := Option.some.inj H
          go_wp2
          repeat (go_quiet (fail); try go_wp2)
          go_ret
          exact ⟨er, bl HB⟩
         ·replace c12 := Bool.eq_false_iff.mpr c12
          subst c12
          have H1 : (vellumref03_some.l1 kj7 l1 x5_2 0 a0_0 l0_1 l0_2 l0_3 l0_4) = some r := by rw [if_neg (show ¬ (false = true) by decide)] at H; exact H
          clear H
          have H := H1
          clear H1
          have H' := am H
          clear H
          go_wp2
          repeat (go_quiet (fail); try go_wp2)
          go_loopg [6] kj7 (fun kq v6 w' => ∃ (x6_4 : Int), v6 = .int .i64 x6_4 ∧ Aside0 (vellumref03_some.l1 kq l1 x5_2 x6_4 a0_0 l0_1 l0_2 l0_3 l0_4 = some r) ∧ Aside0 (kq ≤ kj7) ∧ Aside0 (w'.heap[gb634]? = some (.cells #[.string a0_0, (.slice A0_1 l0_1.length c0_1), (.slice A0_2 l0_2.length c0_2), (.slice A0_3 l0_3.length c0_3), (.slice A0_4 l0_4.length c0_4)] 65 (0, 0))) ∧ Aside0 (Below w.heap.size w w'))
          case atStart => exact ⟨(0), eb, H', ⟨Nat.le_refl _⟩, ⟨bk BK634⟩, ⟨bl HB⟩⟩
          case round =>
           clear H'
           (try clear c1); (try clear p2); (try clear c5); (try clear c5b0 c5b1); (try clear c6); (try clear p6); (try clear q6); (try clear hx6); (try clear c7); (try clear c7b0); (try clear c9); (try clear c9b0); (try clear c10); (try clear c10b0); (try clear c12); (try clear Z11_0 Z11_1 Z11_2 Z11_3 Z11_4); (try clear Y11_0 Y11_1 Y11_2 Y11_3 Y11_4); (try clear hx635_0); (try clear hx636_0); (try clear p2); (try clear p6); (try clear p635); (try clear p636); (try clear q6); (try clear q635); (try clear q636)
           obtain ⟨x6_4, rfl, HA, HK4, BK634, HB⟩ := hrel
           cases gk with
           | zero => exact absurd HA.out (by simp [vellumref03_some.l1])
           | succ k4 =>
            have H := HA.out
            clear HA
            simp only [vellumref03_some.l1] at H
            by_cases c13 : x6_4 < x5_2
            ·rw [if_pos c13] at H
             have c13b0 : decide (x6_4 < x5_2) = true := decide_eq_true c13
             clear c13
             by_cases c14 : 0 ≤ x6_4
             ·rw [if_pos c14] at H
              have c14b0 : decide (0 ≤ x6_4) = true := decide_eq_true c14
              clear c14
              by_cases c15 : x6_4 < (l1.length : Int)
              ·rw [if_pos c15] at H
               have c15b0 : decide (x6_4 < (l1.length : Int)) = true := decide_eq_true c15
               clear c15
               by_cases c16 : 0 ≤ x5_2
               ·rw [if_pos c16] at H
                have c16b0 : decide (0 ≤ x5_2) = true := decide_eq_true c16
                clear c16
                by_cases c17 : x5_2 < (l1.length : Int)
                ·rw [if_pos c17] at H
                 have c17b0 : decide (x5_2 < (l1.length : Int)) = true := decide_eq_true c17
                 clear c17
                 by_cases c18 : (rd l1 x6_4) = (rd l1 x5_2)
                 ·rw [if_pos c18] at H
                  have c18b0 : ((rd l1 x6_4) == (rd l1 x5_2)) = true := beq_iff_eq.mpr c18
                  have c18b1 : ((rd l1 x6_4) != (rd l1 x5_2)) = false := bne_eq_false_iff_eq.mpr c18
                  clear c18
                  obtain rfl := Option.some.inj H
                  have p637 : 0 ≤ (x6_4 : Int) := oda
                  have q637 : x6_4 < (l1.length : Int) := oda
                  obtain ⟨ad637, e637, hx637_0⟩ := Kd.at_int HR1.out x6_4 p637 q637
                  cases e637
                  replace hx637_0 := hc HB hx637_0
                  replace p637 := eq_true p637
                  replace q637 := eq_true q637
                  have p638 : 0 ≤ (x5_2 : Int) := oda
                  have q638 : x5_2 < (l1.length : Int) := oda
                  obtain ⟨ad638, e638, hx638_0⟩ := Kd.at_int HR1.out x5_2 p638 q638
                  obtain rfl : ad637 = ad638 := (by injection e638)
                  replace hx638_0 := hc HB hx638_0
                  replace p638 := eq_true p638
                  replace q638 := eq_true q638
                  go_wp2
                  repeat (go_quiet (fail); try go_wp2)
                  go_ret
                  exact ⟨er, bl HB⟩
                 ·rw [if_neg c18] at H
                  have c18b0 : ((rd l1 x6_4) == (rd l1 x5_2)) = false := beq_eq_false_iff_ne.mpr c18
                  have c18b1 : ((rd l1 x6_4) != (rd l1 x5_2)) = true := bne_iff_ne.mpr c18
                  have H' := am H
                  clear H
                  have p637 : 0 ≤ (x6_4 : Int) := oda
                  have q637 : x6_4 < (l1.length : Int) := oda
                  obtain ⟨ad637, e637, hx637_0⟩ := Kd.at_int HR1.out x6_4 p637 q637
                  cases e637
                  replace hx637_0 := hc HB hx637_0
                  replace p637 := eq_true p637
                  replace q637 := eq_true q637
                  have p638 : 0 ≤ (x5_2 : Int) := oda
                  have q638 : x5_2 < (l1.length : Int) := oda
                  obtain ⟨ad638, e638, hx638_0⟩ := Kd.at_int HR1.out x5_2 p638 q638
                  obtain rfl : ad637 = ad638 := (by injection e638)
                  replace hx638_0 := hc HB hx638_0
                  replace p638 := eq_true p638
                  replace q638 := eq_true q638
                  go_wp2
                  repeat (go_quiet (fail); try go_wp2)
                  go_roundg k4
                  case measure => have := HJ2.out; have := HK2.out; have := HJ7.out; have := HK4.out; omega
                  case rel => exact ⟨(wrap64 (x6_4 + 1)), eb, H', ⟨by have := HJ2.out; have := HK2.out; have := HJ7.out; have := HK4.out; omega⟩, ⟨bk BK634⟩, ⟨bl HB⟩⟩
                ·rw [if_neg c17] at H
                 exact absurd H (by simp)
               ·rw [if_neg c16] at H
                exact absurd H (by simp)
              ·rw [if_neg c15] at H
               exact absurd H (by simp)
             ·rw [if_neg c14] at H
              exact absurd H (by simp)
            ·rw [if_neg c13] at H
             have c13b0 : decide (x6_4 < x5_2) = false := decide_eq_false c13
             clear c13
             have H' := am H
             clear H
             go_wp2
             repeat (go_quiet (fail); try go_wp2)
             go_roundg k4
             case measure => have := HJ2.out; have := HK2.out; have := HJ7.out; have := HK4.out; omega
             case rel => exact ⟨(wrap64 (x5_2 + 1)), eb, H', ⟨by have := HJ2.out; have := HK2.out; have := HJ7.out; have := HK4.out; omega⟩, ⟨bk BK634⟩, ⟨bl HB⟩⟩
      ·rw [if_neg c7] at H
       have c7b0 : decide (x5_2 < (l1.length : Int)) = false := decide_eq_false c7
       clear c7
       obtain rfl := Option.some.inj H
       go_wp2
       repeat (go_quiet (fail); try go_wp2)
       go_ret
       exact ⟨er, bl HB⟩
mutual
def vellumref03_indexes.l0 : Nat → Int → ByteArray → List (S105) → List Int → List (S115) → List (S139) → Option (Int)
 | 0, _, _, _, _, _, _ => none
 | k + 1, x3, x640000, x640001, x640002, x640003, x640004 => if x3 < (x640003.length : Int) then (if 0 ≤ x3 then ((vellumref03_Name.f k ((rd_T115 x640003 x3).f0)).bind fun t642 => (if t642 = true then (vellumref03_indexes.l1 k x3 0 x640000 x640001 x640002 x640003 x640004 ((rd_T115 x640003 x3).f0) ((rd_T115 x640003 x3).f1) ((rd_T115 x640003 x3).f2)) else (some 30))) else (none)) else (some 0)
def vellumref03_indexes.l1 : Nat → Int → Int → ByteArray → List (S105) → List Int → List (S115) → List (S139) → ByteArray → List Int → Bool → Option (Int)
 | 0, _, _, _, _, _, _, _, _, _, _ => none
 | k + 1, x3, x5, x640000, x640001, x640002, x640003, x640004, x642000, x642001, x642002 => if x5 < x3 then (if 0 ≤ x5 then (if x5 < (x640003.length : Int) then (if ((rd_T115 x640003 x5).f0).toList = x642000.toList then (some 31) else (vellumref03_indexes.l1 k x3 (wrap64 (x5 + 1)) x640000 x640001 x640002 x640003 x640004 x642000 x642001 x642002)) else (none)) else (none)) else ((vellumref03_some.f k x640000 x640001 x640002 x640003 x640004 x642001).bind fun t644 => (if t644 = true then (vellumref03_indexes.l0 k (wrap64 (x3 + 1)) x640000 x640001 x640002 x640003 x640004) else (some 33)))
end
def vellumref03_indexes.f (k : Nat) (a0_0 : ByteArray) (l0_1 : List (S105)) (l0_2 : List Int) (l0_3 : List (S115)) (l0_4 : List (S139)) : Option (Int) := vellumref03_indexes.l0 k 0 a0_0 l0_1 l0_2 l0_3 l0_4
set_option maxHeartbeats 8000000 in
set_option maxRecDepth 100000 in
theorem vellumref03_indexes.calls (k : Nat) (a0_0 : ByteArray) (A0_1 : Option Addr) (c0_1 : Nat) (l0_1 : List (S105)) (A0_2 : Option Addr) (c0_2 : Nat) (l0_2 : List Int) (A0_3 : Option Addr) (c0_3 : Nat) (l0_3 : List (S115)) (A0_4 : Option Addr) (c0_4 : Nat) (l0_4 : List (S139)) (r : Int) (w : World) (hr0_1 : Kd.C k105 w A0_1 l0_1.length l0_1) (hc0_1 : l0_1.length ≤ c0_1) (hr0_2 : Kd.C (Kd.int .i64) w A0_2 l0_2.length l0_2) (hc0_2 : l0_2.length ≤ c0_2) (hr0_3 : Kd.C k115 w A0_3 l0_3.length l0_3) (hc0_3 : l0_3.length ≤ c0_3) (hr0_4 : Kd.C k139 w A0_4 l0_4.length l0_4) (hc0_4 : l0_4.length ≤ c0_4) (h : vellumref03_indexes.f k a0_0 l0_1 l0_2 l0_3 l0_4 = some r) :
  Calls Tryd.prog 135 #[.agg #[.string a0_0, .slice A0_1 l0_1.length c0_1, .slice A0_2 l0_2.length c0_2, .slice A0_3 l0_3.length c0_3, .slice A0_4 l0_4.length c0_4]] w fun e w' => e = .returned (.int .i64 r) ∧ Below w.heap.size w w' := by
 have hu65 := Tryd.underlying65
 have hu115 := Tryd.underlying115
 have HR0_1 := am hr0_1
 have HC0_1 := am hc0_1
 clear hr0_1 hc0_1
 have HR0_2 := am hr0_2
 have HC0_2 := am hc0_2
 clear hr0_2 hc0_2
 have HR0_3 := am hr0_3
 have HC0_3 := am hc0_3
 clear hr0_3 hc0_3
 have HR0_4 := am hr0_4
 have HC0_4 := am hc0_4
 clear hr0_4 hc0_4
 have HB := am (Below.refl w.heap.size w)
 have H : (vellumref03_indexes.l0 k 0 a0_0 l0_1 l0_2 l0_3 l0_4) = some r := h
 clear h
 have H' := am H
 clear H
 go_enter Tryd.func135, Tryd.ntmps135
 go_wp2_with (first | ((with_reducible refine gate_dst (N := 1) rfl ?_); refine box_event rfl (N := 1) rfl (cs := #[.string a0_0, .slice A0_1 l0_1.length c0_1, .slice A0_2 l0_2.length c0_2, .slice A0_3 l0_3.length c0_3, .slice A0_4 l0_4.length c0_4]) (t := 65) gs ?_; intro gb639 hg w2 hbox hb; have BK639 := am (hbox); have GW639 := gw hg HB; have GE639 := gw hg HB; replace HB := sb HB hb; clear hb hbox hg))
 repeat (go_quiet (fail); try go_wp2_with (first | ((with_reducible refine gate_dst (N := 1) rfl ?_); refine box_event rfl (N := 1) rfl (cs := #[.string a0_0, .slice A0_1 l0_1.length c0_1, .slice A0_2 l0_2.length c0_2, .slice A0_3 l0_3.length c0_3, .slice A0_4 l0_4.length c0_4]) (t := 65) gs ?_; intro gb639 hg w2 hbox hb; have BK639 := am (hbox); have GW639 := gw hg HB; have GE639 := gw hg HB; replace HB := sb HB hb; clear hb hbox hg)))
 go_loopg [3] k (fun kq v3 w' => ∃ (x3_1 : Int), v3 = .int .i64 x3_1 ∧ Aside0 (vellumref03_indexes.l0 kq x3_1 a0_0 l0_1 l0_2 l0_3 l0_4 = some r) ∧ Aside0 (kq ≤ k) ∧ Aside0 (w'.heap[gb639]? = some (.cells #[.string a0_0, (.slice A0_1 l0_1.length c0_1), (.slice A0_2 l0_2.length c0_2), (.slice A0_3 l0_3.length c0_3), (.slice A0_4 l0_4.length c0_4)] 65 (0, 0))) ∧ Aside0 (Below w.heap.size w w'))
 case atStart => exact ⟨(0), eb, H', ⟨Nat.le_refl _⟩, ⟨bk BK639⟩, ⟨bl HB⟩⟩
 case round =>
  clear H'
  (try clear c1); (try clear p2)
  obtain ⟨x3_1, rfl, HA, HK1, BK639, HB⟩ := hrel
  cases gk with
  | zero => exact absurd HA.out (by simp [vellumref03_indexes.l0])
  | succ k1 =>
   have H := HA.out
   clear HA
   simp only [vellumref03_indexes.l0] at H
   by_cases c3 : x3_1 < (l0_3.length : Int)
   ·rw [if_pos c3] at H
    have c3b0 : decide (x3_1 < (l0_3.length : Int)) = true := decide_eq_true c3
    clear c3
    by_cases c4 : 0 ≤ x3_1
    ·rw [if_pos c4] at H
     have c4b0 : decide (0 ≤ x3_1) = true := decide_eq_true c4
     clear c4
     replace H := Option.bind_eq_some_iff.mp H
     obtain ⟨t642, A50, H⟩ := H
     replace H : (if t642 = true then (vellumref03_indexes.l1 k1 x3_1 0 a0_0 l0_1 l0_2 l0_3 l0_4 ((rd_T115 l0_3 x3_1).f0) ((rd_T115 l0_3 x3_1).f1) ((rd_T115 l0_3 x3_1).f2)) else (some 30)) = some r := H
     have A5 := am A50
     clear A50
     by_cases c6 : t642 = true
     ·subst c6
      have H1 : (vellumref03_indexes.l1 k1 x3_1 0 a0_0 l0_1 l0_2 l0_3 l0_4 ((rd_T115 l0_3 x3_1).f0) ((rd_T115 l0_3 x3_1).f1) ((rd_T115 l0_3 x3_1).f2)) = some r := by rw [if_pos rfl] at H; exact H
      clear H
      have H := H1
      clear H1
      have H' := am H
      clear H
      obtain ⟨Z7_0, Z7_1, Z7_2, Z7_3, Z7_4, Y7_0, Y7_1, Y7_2, Y7_3, Y7_4⟩ := bq5 BK639
      have p640 : 0 ≤ (x3_1 : Int) := oda
      have q640 : x3_1 < (l0_3.length : Int) := oda
      obtain ⟨ad640, A640_1, c640_1, e640, hx640_0, hx640_1, hx640_2, hl640_1, hi640_1⟩ := at_T115 HR0_3.out x3_1 p640 q640
      cases e640
      replace hx640_0 := hc HB hx640_0
      replace hx640_1 := hc HB hx640_1
      replace hx640_2 := hc HB hx640_2
      have HR640_1 := am hi640_1
      have HC640_1 := am hl640_1
      clear hi640_1 hl640_1
      replace p640 := eq_true p640
      replace q640 := eq_true q640
      go_wp2_with (first | ((with_reducible refine gate_dst (N := 4) rfl ?_); refine box_event rfl (N := 4) rfl (cs := #[.string (⟨#[]⟩ : ByteArray), .slice none 0 0, .bool false]) (t := 115) gs ?_; intro gb641 hg w8 hbox hb; have BK641 := am (hbox); have GW641 := gw hg HB; have GE641 := gw hg HB; have NB639_641 := am ((by rw [hg]; exact Nat.ne_of_lt (blk_lt (bk BK639)) : gb639 ≠ gb641)); have NB641_639 := am ((by rw [hg]; exact Nat.ne_of_gt (blk_lt (bk BK639)) : gb641 ≠ gb639)); replace BK639 := kb BK639 hb; replace HB := sb HB hb; clear hb hbox hg; have hnb9 := NB641_639.out; have hnc9 := NB639_641.out; obtain ⟨Z10_0, Z10_1, Z10_2, Y10_0, Y10_1, Y10_2⟩ := bq3 BK641) | (go_at_call 132; (with_reducible refine (vellumref03_Name.calls k1 ((rd_T115 l0_3 x3_1).f0) true _ A5.out).mono ?_); rintro e w11 ⟨rfl, hb⟩; replace BK639 := am (blk_below (g := gb639) (o := .cells #[.string a0_0, .slice A0_1 l0_1.length c0_1, .slice A0_2 l0_2.length c0_2, .slice (some ad640) l0_3.length c0_3, .slice A0_4 l0_4.length c0_4] 65 (0, 0)) (by refine rp ?_; refine blk_far ?_ NB639_641.out _; refine rp ?_; refine blk_far ?_ NB639_641.out _; refine rp ?_; refine blk_far ?_ NB639_641.out _; exact bk BK639) hb); replace BK641 := am (blk_below (g := gb641) (o := .cells #[.string ((rd_T115 l0_3 x3_1).f0), .slice A640_1 ((rd_T115 l0_3 x3_1).f1).length c640_1, .bool ((rd_T115 l0_3 x3_1).f2)] 115 (0, 0)) (by refine rp ?_; refine blk_put (cs := #[.string ((rd_T115 l0_3 x3_1).f0), .slice A640_1 ((rd_T115 l0_3 x3_1).f1).length c640_1, .bool false]) ?_ 2 _ rfl; refine rp ?_; refine blk_put (cs := #[.string ((rd_T115 l0_3 x3_1).f0), .slice none 0 0, .bool false]) ?_ 1 _ rfl; refine rp ?_; refine blk_put (cs := #[.string (⟨#[]⟩ : ByteArray), .slice none 0 0, .bool false]) ?_ 0 _ rfl; exact bk BK641) hb); replace HB := sb HB hb; (try clear hb); (try clear hb2 hk hi)))
      repeat (go_quiet (fail); try go_wp2_with (first | ((with_reducible refine gate_dst (N := 4) rfl ?_); refine box_event rfl (N := 4) rfl (cs := #[.string (⟨#[]⟩ : ByteArray), .slice none 0 0, .bool false]) (t := 115) gs ?_; intro gb641 hg w8 hbox hb; have BK641 := am (hbox); have GW641 := gw hg HB; have GE641 := gw hg HB; have NB639_641 := am ((by rw [hg]; exact Nat.ne_of_lt (blk_lt (bk BK639)) : gb639 ≠ gb641)); have NB641_639 := am ((by rw [hg]; exact Nat.ne_of_gt (blk_lt (bk BK639)) : gb641 ≠ gb639)); replace BK639 := kb BK639 hb; replace HB := sb HB hb; clear hb hbox hg; have hnb9 := NB641_639.out; have hnc9 := NB639_641.out; obtain ⟨Z10_0, Z10_1, Z10_2, Y10_0, Y10_1, Y10_2⟩ := bq3 BK641) | (go_at_call 132; (with_reducible refine (vellumref03_Name.calls k1 ((rd_T115 l0_3 x3_1).f0) true _ A5.out).mono ?_); rintro e w11 ⟨rfl, hb⟩; replace BK639 := am (blk_below (g := gb639) (o := .cells #[.string a0_0, .slice A0_1 l0_1.length c0_1, .slice A0_2 l0_2.length c0_2, .slice (some ad640) l0_3.length c0_3, .slice A0_4 l0_4.length c0_4] 65 (0, 0)) (by refine rp ?_; refine blk_far ?_ NB639_641.out _; refine rp ?_; refine blk_far ?_ NB639_641.out _; refine rp ?_; refine blk_far ?_ NB639_641.out _; exact bk BK639) hb); replace BK641 := am (blk_below (g := gb641) (o := .cells #[.string ((rd_T115 l0_3 x3_1).f0), .slice A640_1 ((rd_T115 l0_3 x3_1).f1).length c640_1, .bool ((rd_T115 l0_3 x3_1).f2)] 115 (0, 0)) (by refine rp ?_; refine blk_put (cs := #[.string ((rd_T115 l0_3 x3_1).f0), .slice A640_1 ((rd_T115 l0_3 x3_1).f1).length c640_1, .bool false]) ?_ 2 _ rfl; refine rp ?_; refine blk_put (cs := #[.string ((rd_T115 l0_3 x3_1).f0), .slice none 0 0, .bool false]) ?_ 1 _ rfl; refine rp ?_; refine blk_put (cs := #[.string (⟨#[]⟩ : ByteArray), .slice none 0 0, .bool false]) ?_ 0 _ rfl; exact bk BK641) hb); replace HB := sb HB hb; (try clear hb); (try clear hb2 hk hi))))
      go_loopg [5] k1 (fun kq v5 w' => ∃ (x5_2 : Int), v5 = .int .i64 x5_2 ∧ Aside0 (vellumref03_indexes.l1 kq x3_1 x5_2 a0_0 l0_1 l0_2 l0_3 l0_4 ((rd_T115 l0_3 x3_1).f0) ((rd_T115 l0_3 x3_1).f1) ((rd_T115 l0_3 x3_1).f2) = some r) ∧ Aside0 (kq ≤ k1) ∧ Aside0 (w'.heap[gb639]? = some (.cells #[.string a0_0, (.slice A0_1 l0_1.length c0_1), (.slice A0_2 l0_2.length c0_2), (.slice (some ad640) l0_3.length c0_3), (.slice A0_4 l0_4.length c0_4)] 65 (0, 0))) ∧ Aside0 (w'.heap[gb641]? = some (.cells #[.string ((rd_T115 l0_3 x3_1).f0), (.slice A640_1 ((rd_T115 l0_3 x3_1).f1).length c640_1), .bool ((rd_T115 l0_3 x3_1).f2)] 115 (0, 0))) ∧ Aside0 (Below w.heap.size w w'))
      case atStart => exact ⟨(0), eb, H', ⟨Nat.le_refl _⟩, ⟨bk BK639⟩, ⟨bk BK641⟩, ⟨bl HB⟩⟩
      case round =>
       clear H'
       (try clear c1); (try clear p2); (try clear c3); (try clear c3b0); (try clear c4); (try clear c4b0); (try clear c6); (try clear p6); (try clear q6); (try clear hx6); (try clear c9); (try clear Z10_0 Z10_1 Z10_2); (try clear Z7_0 Z7_1 Z7_2 Z7_3 Z7_4); (try clear Y10_0 Y10_1 Y10_2); (try clear Y7_0 Y7_1 Y7_2 Y7_3 Y7_4); (try clear hx640_0); (try clear hx640_1); (try clear hx640_2); (try clear p2); (try clear p640); (try clear q640)
       obtain ⟨x5_2, rfl, HA, HK2, BK639, BK641, HB⟩ := hrel
       cases gk with
       | zero => exact absurd HA.out (by simp [vellumref03_indexes.l1])
       | succ k2 =>
        have H := HA.out
        clear HA
        simp only [vellumref03_indexes.l1] at H
        by_cases c12 : x5_2 < x3_1
        ·rw [if_pos c12] at H
         have c12b0 : decide (x5_2 < x3_1) = true := decide_eq_true c12
         clear c12
         by_cases c13 : 0 ≤ x5_2
         ·rw [if_pos c13] at H
          have c13b0 : decide (0 ≤ x5_2) = true := decide_eq_true c13
          clear c13
          by_cases c14 : x5_2 < (l0_3.length : Int)
          ·rw [if_pos c14] at H
           have c14b0 : decide (x5_2 < (l0_3.length : Int)) = true := decide_eq_true c14
           clear c14
           by_cases c15 : ((rd_T115 l0_3 x5_2).f0).toList = ((rd_T115 l0_3 x3_1).f0).toList
           ·rw [if_pos c15] at H
            have c15b0 : (((rd_T115 l0_3 x5_2).f0).toList == ((rd_T115 l0_3 x3_1).f0).toList) = true := beq_iff_eq.mpr c15
            have c15b1 : (((rd_T115 l0_3 x5_2).f0).toList != ((rd_T115 l0_3 x3_1).f0).toList) = false := bne_eq_false_iff_eq.mpr c15
            clear c15
            obtain rfl := Option.some.inj H
            have hnb16 := NB639_641.out
            have hnc16 := NB641_639.out
            obtain ⟨Z17_0, Z17_1, Z17_2, Z17_3, Z17_4, Y17_0, Y17_1, Y17_2, Y17_3, Y17_4⟩ := bq5 BK639
            have p643 : 0 ≤ (x5_2 : Int) := oda
            have q643 : x5_2 < (l0_3.length : Int) := oda
            obtain ⟨ad643, A643_1, c643_1, e643, hx643_0, hx643_1, hx643_2, hl643_1, hi643_1⟩ := at_T115 HR0_3.out x5_2 p643 q643
            obtain rfl : ad640 = ad643 := (by injection e643)
            replace hx643_0 := hc HB hx643_0
            replace hx643_1 := hc HB hx643_1
            replace hx643_2 := hc HB hx643_2
            have HR643_1 := am hi643_1
            have HC643_1 := am hl643_1
            clear hi643_1 hl643_1
            replace p643 := eq_true p643
            replace q643 := eq_true q643
            obtain ⟨Z18_0, Z18_1, Z18_2, Y18_0, Y18_1, Y18_2⟩ := bq3 BK641
            go_wp2
            repeat (go_quiet (fail); try go_wp2)
            go_ret
            exact ⟨er, bl HB⟩
           ·rw [if_neg c15] at H
            have c15b0 : (((rd_T115 l0_3 x5_2).f0).toList == ((rd_T115 l0_3 x3_1).f0).toList) = false := beq_eq_false_iff_ne.mpr c15
            have c15b1 : (((rd_T115 l0_3 x5_2).f0).toList != ((rd_T115 l0_3 x3_1).f0).toList) = true := bne_iff_ne.mpr c15
            have H' := am H
            clear H
            have hnb19 := NB639_641.out
            have hnc19 := NB641_639.out
            obtain ⟨Z20_0, Z20_1, Z20_2, Z20_3, Z20_4, Y20_0, Y20_1, Y20_2, Y20_3, Y20_4⟩ := bq5 BK639
            have p643 : 0 ≤ (x5_2 : Int) := oda
            have q643 : x5_2 < (l0_3.length : Int) := oda
            obtain ⟨ad643, A643_1, c643_1, e643, hx643_0, hx643_1, hx643_2, hl643_1, hi643_1⟩ := at_T115 HR0_3.out x5_2 p643 q643
            obtain rfl : ad640 = ad643 := (by injection e643)
            replace hx643_0 := hc HB hx643_0
            replace hx643_1 := hc HB hx643_1
            replace hx643_2 := hc HB hx643_2
            have HR643_1 := am hi643_1
            have HC643_1 := am hl643_1
            clear hi643_1 hl643_1
            replace p643 := eq_true p643
            replace q643 := eq_true q643
            obtain ⟨Z21_0, Z21_1, Z21_2, Y21_0, Y21_1, Y21_2⟩ := bq3 BK641
            go_wp2
            repeat (go_quiet (fail); try go_wp2)
            go_roundg k2
            case measure => have := HK1.out; have := HK2.out; omega
            case rel => exact ⟨(wrap64 (x5_2 + 1)), eb, H', ⟨by have := HK1.out; have := HK2.out; omega⟩, ⟨bk BK639⟩, ⟨bk BK641⟩, ⟨bl HB⟩⟩
          ·rw [if_neg c14] at H
           exact absurd H (by simp)
         ·rw [if_neg c13] at H
          exact absurd H (by simp)
        ·rw [if_neg c12] at H
         have c12b0 : decide (x5_2 < x3_1) = false := decide_eq_false c12
         clear c12
         replace H := Option.bind_eq_some_iff.mp H
         obtain ⟨t644, A220, H⟩ := H
         replace H : (if t644 = true then (vellumref03_indexes.l0 k2 (wrap64 (x3_1 + 1)) a0_0 l0_1 l0_2 l0_3 l0_4) else (some 33)) = some r := H
         have A22 := am A220
         clear A220
         by_cases c23 : t644 = true
         ·subst c23
          have H1 : (vellumref03_indexes.l0 k2 (wrap64 (x3_1 + 1)) a0_0 l0_1 l0_2 l0_3 l0_4) = some r := by rw [if_pos rfl] at H; exact H
          clear H
          have H := H1
          clear H1
          have H' := am H
          clear H
          have hnb24 := NB639_641.out
          have hnc24 := NB641_639.out
          obtain ⟨Z25_0, Z25_1, Z25_2, Z25_3, Z25_4, Y25_0, Y25_1, Y25_2, Y25_3, Y25_4⟩ := bq5 BK639
          obtain ⟨Z26_0, Z26_1, Z26_2, Y26_0, Y26_1, Y26_2⟩ := bq3 BK641
          go_wp2_with (first | (go_at_call 134; (with_reducible refine (vellumref03_some.calls k2 a0_0 _ _ l0_1 _ _ l0_2 _ _ l0_3 _ _ l0_4 _ _ ((rd_T115 l0_3 x3_1).f1) true _ (Kd.cb HR0_1 HB) HC0_1.out (Kd.cb HR0_2 HB) HC0_2.out (Kd.cb HR0_3 HB) HC0_3.out (Kd.cb HR0_4 HB) HC0_4.out (Kd.cb HR640_1 HB) HC640_1.out A22.out).mono ?_); rintro e w27 ⟨rfl, hb⟩; replace BK639 := kb BK639 hb; replace BK641 := kb BK641 hb; replace HB := sb HB hb; (try clear hb); (try clear hb2 hk hi)))
          repeat (go_quiet (fail); try go_wp2_with (first | (go_at_call 134; (with_reducible refine (vellumref03_some.calls k2 a0_0 _ _ l0_1 _ _ l0_2 _ _ l0_3 _ _ l0_4 _ _ ((rd_T115 l0_3 x3_1).f1) true _ (Kd.cb HR0_1 HB) HC0_1.out (Kd.cb HR0_2 HB) HC0_2.out (Kd.cb HR0_3 HB) HC0_3.out (Kd.cb HR0_4 HB) HC0_4.out (Kd.cb HR640_1 HB) HC640_1.out A22.out).mono ?_); rintro e w27 ⟨rfl, hb⟩; replace BK639 := kb BK639 hb; replace BK641 := kb BK641 hb; replace HB := sb HB hb; (try clear hb); (try clear hb2 hk hi))))
          go_roundg k2
          case measure => have := HK1.out; have := HK2.out; omega
          case rel => exact ⟨(wrap64 (x3_1 + 1)), eb, H', ⟨by have := HK1.out; have := HK2.out; omega⟩, ⟨bk BK639⟩, ⟨bl HB⟩⟩
         ·replace c23 := Bool.eq_false_iff.mpr c23
          subst c23
          have H1 : (some 33) = some r := by rw [if_neg (show ¬ (false = true) by decide)] at H; exact H
          clear H
          have H := H1
          clear H1
          obtain rfl := Option.some.inj H
          have hnb28 := NB639_641.out
          have hnc28 := NB641_639.out
          obtain ⟨Z29_0, Z29_1, Z29_2, Z29_3, Z29_4, Y29_0, Y29_1, Y29_2, Y29_3, Y29_4⟩ := bq5 BK639
          obtain ⟨Z30_0, Z30_1, Z30_2, Y30_0, Y30_1, Y30_2⟩ := bq3 BK641
          go_wp2_with (first | (go_at_call 134; (with_reducible refine (vellumref03_some.calls k2 a0_0 _ _ l0_1 _ _ l0_2 _ _ l0_3 _ _ l0_4 _ _ ((rd_T115 l0_3 x3_1).f1) false _ (Kd.cb HR0_1 HB) HC0_1.out (Kd.cb HR0_2 HB) HC0_2.out (Kd.cb HR0_3 HB) HC0_3.out (Kd.cb HR0_4 HB) HC0_4.out (Kd.cb HR640_1 HB) HC640_1.out A22.out).mono ?_); rintro e w31 ⟨rfl, hb⟩; replace BK639 := kb BK639 hb; replace BK641 := kb BK641 hb; replace HB := sb HB hb; (try clear hb); (try clear hb2 hk hi)))
          repeat (go_quiet (fail); try go_wp2_with (first | (go_at_call 134; (with_reducible refine (vellumref03_some.calls k2 a0_0 _ _ l0_1 _ _ l0_2 _ _ l0_3 _ _ l0_4 _ _ ((rd_T115 l0_3 x3_1).f1) false _ (Kd.cb HR0_1 HB) HC0_1.out (Kd.cb HR0_2 HB) HC0_2.out (Kd.cb HR0_3 HB) HC0_3.out (Kd.cb HR0_4 HB) HC0_4.out (Kd.cb HR640_1 HB) HC640_1.out A22.out).mono ?_); rintro e w31 ⟨rfl, hb⟩; replace BK639 := kb BK639 hb; replace BK641 := kb BK641 hb; replace HB := sb HB hb; (try clear hb); (try clear hb2 hk hi))))
          go_ret
          exact ⟨er, bl HB⟩
     ·replace c6 := Bool.eq_false_iff.mpr c6
      subst c6
      have H1 : (some 30) = some r := by rw [if_neg (show ¬ (false = true) by decide)] at H; exact H
      clear H
      have H := H1
      clear H1
      obtain rfl := Option.some.inj H
      obtain ⟨Z32_0, Z32_1, Z32_2, Z32_3, Z32_4, Y32_0, Y32_1, Y32_2, Y32_3, Y32_4⟩ := bq5 BK639
      have p640 : 0 ≤ (x3_1 : Int) := oda
      have q640 : x3_1 < (l0_3.length : Int) := oda
      obtain ⟨ad640, A640_1, c640_1, e640, hx640_0, hx640_1, hx640_2, hl640_1, hi640_1⟩ := at_T115 HR0_3.out x3_1 p640 q640
      cases e640
      replace hx640_0 := hc HB hx640_0
      replace hx640_1 := hc HB hx640_1
      replace hx640_2 := hc HB hx640_2
      have HR640_1 := am hi640_1
      have HC640_1 := am hl640_1
      clear hi640_1 hl640_1
      replace p640 := eq_true p640
      replace q640 := eq_true q640
      go_wp2_with (first | ((with_reducible refine gate_dst (N := 4) rfl ?_); refine box_event rfl (N := 4) rfl (cs := #[.string (⟨#[]⟩ : ByteArray), .slice none 0 0, .bool false]) (t := 115) gs ?_; intro gb641 hg w33 hbox hb; have BK641 := am (hbox); have GW641 := gw hg HB; have GE641 := gw hg HB; have NB639_641 := am ((by rw [hg]; exact Nat.ne_of_lt (blk_lt (bk BK639)) : gb639 ≠ gb641)); have NB641_639 := am ((by rw [hg]; exact Nat.ne_of_gt (blk_lt (bk BK639)) : gb641 ≠ gb639)); replace BK639 := kb BK639 hb; replace HB := sb HB hb; clear hb hbox hg; have hnb34 := NB641_639.out; have hnc34 := NB639_641.out; obtain ⟨Z35_0, Z35_1, Z35_2, Y35_0, Y35_1, Y35_2⟩ := bq3 BK641) | (go_at_call 132; (with_reducible refine (vellumref03_Name.calls k1 ((rd_T115 l0_3 x3_1).f0) false _ A5.out).mono ?_); rintro e w36 ⟨rfl, hb⟩; replace BK639 := am (blk_below (g := gb639) (o := .cells #[.string a0_0, .slice A0_1 l0_1.length c0_1, .slice A0_2 l0_2.length c0_2, .slice (some ad640) l0_3.length c0_3, .slice A0_4 l0_4.length c0_4] 65 (0, 0)) (by refine rp ?_; refine blk_far ?_ NB639_641.out _; refine rp ?_; refine blk_far ?_ NB639_641.out _; refine rp ?_; refine blk_far ?_ NB639_641.out _; exact bk BK639) hb); replace BK641 := am (blk_below (g := gb641) (o := .cells #[.string ((rd_T115 l0_3 x3_1).f0), .slice A640_1 ((rd_T115 l0_3 x3_1).f1).length c640_1, .bool ((rd_T115 l0_3 x3_1).f2)] 115 (0, 0)) (by refine rp ?_; refine blk_put (cs := #[.string ((rd_T115 l0_3 x3_1).f0), .slice A640_1 ((rd_T115 l0_3 x3_1).f1).length c640_1, .bool false]) ?_ 2 _ rfl; refine rp ?_; refine blk_put (cs := #[.string ((rd_T115 l0_3 x3_1).f0), .slice none 0 0, .bool false]) ?_ 1 _ rfl; refine rp ?_; refine blk_put (cs := #[.string (⟨#[]⟩ : ByteArray), .slice none 0 0, .bool false]) ?_ 0 _ rfl; exact bk BK641) hb); replace HB := sb HB hb; (try clear hb); (try clear hb2 hk hi)))
      repeat (go_quiet (fail); try go_wp2_with (first | ((with_reducible refine gate_dst (N := 4) rfl ?_); refine box_event rfl (N := 4) rfl (cs := #[.string (⟨#[]⟩ : ByteArray), .slice none 0 0, .bool false]) (t := 115) gs ?_; intro gb641 hg w33 hbox hb; have BK641 := am (hbox); have GW641 := gw hg HB; have GE641 := gw hg HB; have NB639_641 := am ((by rw [hg]; exact Nat.ne_of_lt (blk_lt (bk BK639)) : gb639 ≠ gb641)); have NB641_639 := am ((by rw [hg]; exact Nat.ne_of_gt (blk_lt (bk BK639)) : gb641 ≠ gb639)); replace BK639 := kb BK639 hb; replace HB := sb HB hb; clear hb hbox hg; have hnb34 := NB641_639.out; have hnc34 := NB639_641.out; obtain ⟨Z35_0, Z35_1, Z35_2, Y35_0, Y35_1, Y35_2⟩ := bq3 BK641) | (go_at_call 132; (with_reducible refine (vellumref03_Name.calls k1 ((rd_T115 l0_3 x3_1).f0) false _ A5.out).mono ?_); rintro e w36 ⟨rfl, hb⟩; replace BK639 := am (blk_below (g := gb639) (o := .cells #[.string a0_0, .slice A0_1 l0_1.length c0_1, .slice A0_2 l0_2.length c0_2, .slice (some ad640) l0_3.length c0_3, .slice A0_4 l0_4.length c0_4] 65 (0, 0)) (by refine rp ?_; refine blk_far ?_ NB639_641.out _; refine rp ?_; refine blk_far ?_ NB639_641.out _; refine rp ?_; refine blk_far ?_ NB639_641.out _; exact bk BK639) hb); replace BK641 := am (blk_below (g := gb641) (o := .cells #[.string ((rd_T115 l0_3 x3_1).f0), .slice A640_1 ((rd_T115 l0_3 x3_1).f1).length c640_1, .bool ((rd_T115 l0_3 x3_1).f2)] 115 (0, 0)) (by refine rp ?_; refine blk_put (cs := #[.string ((rd_T115 l0_3 x3_1).f0), .slice A640_1 ((rd_T115 l0_3 x3_1).f1).length c640_1, .bool false]) ?_ 2 _ rfl; refine rp ?_; refine blk_put (cs := #[.string ((rd_T115 l0_3 x3_1).f0), .slice none 0 0, .bool false]) ?_ 1 _ rfl; refine rp ?_; refine blk_put (cs := #[.string (⟨#[]⟩ : ByteArray), .slice none 0 0, .bool false]) ?_ 0 _ rfl; exact bk BK641) hb); replace HB := sb HB hb; (try clear hb); (try clear hb2 hk hi))))
      go_ret
      exact ⟨er, bl HB⟩
    ·rw [if_neg c4] at H
     exact absurd H (by simp)
   ·rw [if_neg c3] at H
    have c3b0 : decide (x3_1 < (l0_3.length : Int)) = false := decide_eq_false c3
    clear c3
    obtain rfl := Option.some.inj H
    obtain ⟨Z37_0, Z37_1, Z37_2, Z37_3, Z37_4, Y37_0, Y37_1, Y37_2, Y37_3, Y37_4⟩ := bq5 BK639
    go_wp2
    repeat (go_quiet (fail); try go_wp2)
    go_ret
    exact ⟨er, bl HB⟩
mutual
def vellumref03_Check.j0 : Nat → Bool → ByteArray → List (S105) → List Int → List (S115) → List (S139) → Option (Int)
 | 0, _, _, _, _, _, _ => none
 | k + 1, x32, x646000, x646001, x646002, x646003, x646004 => if x32 = true then (some 2) else ((vellumref03_columns.f k x646000 x646001 x646002 x646003 x646004).bind fun t647 => (if t647 = 0 then ((vellumref03_some.f k x646000 x646001 x646002 x646003 x646004 x646002).bind fun t648 => (if t648 = true then (vellumref03_Check.l0 k 0 x646000 x646001 x646002 x646003 x646004) else (some 33))) else (some t647)))
def vellumref03_Check.l0 : Nat → Int → ByteArray → List (S105) → List Int → List (S115) → List (S139) → Option (Int)
 | 0, _, _, _, _, _, _ => none
 | k + 1, x4, x646000, x646001, x646002, x646003, x646004 => if x4 < (x646002.length : Int) then (if 0 ≤ x4 then (if 0 ≤ (rd x646002 x4) then (if (rd x646002 x4) < (x646001.length : Int) then (if (rd_T105 x646001 (rd x646002 x4)).f2 = true then (some 33) else (vellumref03_Check.l0 k (wrap64 (x4 + 1)) x646000 x646001 x646002 x646003 x646004)) else (none)) else (none)) else (none)) else ((vellumref03_indexes.f k x646000 x646001 x646002 x646003 x646004).bind fun t651 => (if t651 = 0 then (vellumref03_Check.l1 k 0 x646000 x646001 x646002 x646003 x646004) else (some t651)))
def vellumref03_Check.l1 : Nat → Int → ByteArray → List (S105) → List Int → List (S115) → List (S139) → Option (Int)
 | 0, _, _, _, _, _, _ => none
 | k + 1, x6, x646000, x646001, x646002, x646003, x646004 => if x6 < (x646004.length : Int) then (if 0 ≤ x6 then ((vellumref03_Name.f k ((rd_T139 x646004 x6).f1)).bind fun t653 => (if t653 = true then ((vellumref03_some.f k x646000 x646001 x646002 x646003 x646004 ((rd_T139 x646004 x6).f0)).bind fun t655 => (if t655 = true then (vellumref03_Check.l1 k (wrap64 (x6 + 1)) x646000 x646001 x646002 x646003 x646004) else (some 33))) else (some 30))) else (none)) else (some 0)
end
def vellumref03_Check.f (k : Nat) (a0_0 : ByteArray) (l0_1 : List (S105)) (l0_2 : List Int) (l0_3 : List (S115)) (l0_4 : List (S139)) : Option (Int) := (vellumref03_Name.f k a0_0).bind fun t646 => (if t646 = true then (if (l0_1.length : Int) < 1 then (vellumref03_Check.j0 k true a0_0 l0_1 l0_2 l0_3 l0_4) else (if (l0_1.length : Int) > 64 then (vellumref03_Check.j0 k true a0_0 l0_1 l0_2 l0_3 l0_4) else (if (l0_3.length : Int) > 16 then (vellumref03_Check.j0 k true a0_0 l0_1 l0_2 l0_3 l0_4) else (vellumref03_Check.j0 k (decide ((l0_4.length : Int) > 16)) a0_0 l0_1 l0_2 l0_3 l0_4)))) else (some 30))
def vellumref03_Check.T13 : Bool × List (List Nat × List Nat) := (true, [([], []), ([0], [0]), ([], []), ([2], [2]), ([], []), ([3, 4], [3, 4]), ([5], [5]), ([1, 6], [1, 6]), ([7], [7]), ([8], [8])])
def vellumref03_Check.B13 : List Nat := [0, 1, 0, 4, 0, 28, 60, 127, 255, 511]
theorem vellumref03_Check.tab13 : rtab .any (opsOf Tryd.f93 13) = vellumref03_Check.T13 := by kernel_rfl
theorem vellumref03_Check.bits13 : waitsOk vellumref03_Check.T13.2 vellumref03_Check.B13 = true := by kernel_rfl
def vellumref03_Check.T23 : Bool × List (List Nat × List Nat) := (true, [([], []), ([], []), ([1], [1]), ([], []), ([2, 3], [2, 3]), ([4], [4]), ([5], [5]), ([0, 6], [0, 6]), ([7], [7])])
def vellumref03_Check.B23 : List Nat := [0, 0, 2, 0, 14, 30, 62, 127, 255]
theorem vellumref03_Check.tab23 : rtab .any (opsOf Tryd.f93 23) = vellumref03_Check.T23 := by kernel_rfl
theorem vellumref03_Check.bits23 : waitsOk vellumref03_Check.T23.2 vellumref03_Check.B23 = true := by kernel_rfl
set_option maxHeartbeats 8000000 in
set_option maxRecDepth 100000 in
theorem vellumref03_Check.calls (k : Nat) (a0_0 : ByteArray) (A0_1 : Option Addr) (c0_1 : Nat) (l0_1 : List (S105)) (A0_2 : Option Addr) (c0_2 : Nat) (l0_2 : List Int) (A0_3 : Option Addr) (c0_3 : Nat) (l0_3 : List (S115)) (A0_4 : Option Addr) (c0_4 : Nat) (l0_4 : List (S139)) (r : Int) (w : World) (hr0_1 : Kd.C k105 w A0_1 l0_1.length l0_1) (hc0_1 : l0_1.length ≤ c0_1) (hr0_2 : Kd.C (Kd.int .i64) w A0_2 l0_2.length l0_2) (hc0_2 : l0_2.length ≤ c0_2) (hr0_3 : Kd.C k115 w A0_3 l0_3.length l0_3) (hc0_3 : l0_3.length ≤ c0_3) (hr0_4 : Kd.C k139 w A0_4 l0_4.length l0_4) (hc0_4 : l0_4.length ≤ c0_4) (hG : Glob w) (h : vellumref03_Check.f k a0_0 l0_1 l0_2 l0_3 l0_4 = some r) :
  Calls Tryd.prog 93 #[.agg #[.string a0_0, .slice A0_1 l0_1.length c0_1, .slice A0_2 l0_2.length c0_2, .slice A0_3 l0_3.length c0_3, .slice A0_4 l0_4.length c0_4]] w fun e w' => e = .returned (.int .i64 r) ∧ Below w.heap.size w w' := by
 have hu65 := Tryd.underlying65
 have HR0_1 := am hr0_1
 have HC0_1 := am hc0_1
 clear hr0_1 hc0_1
 have HR0_2 := am hr0_2
 have HC0_2 := am hc0_2
 clear hr0_2 hc0_2
 have HR0_3 := am hr0_3
 have HC0_3 := am hc0_3
 clear hr0_3 hc0_3
 have HR0_4 := am hr0_4
 have HC0_4 := am hc0_4
 clear hr0_4 hc0_4
 have HG := am hG
 clear hG
 have HB := am (Below.refl w.heap.size w)
 have H : ((vellumref03_Name.f k a0_0).bind fun t646 => (if t646 = true then (if (l0_1.length : Int) < 1 then (vellumref03_Check.j0 k true a0_0 l0_1 l0_2 l0_3 l0_4) else (if (l0_1.length : Int) > 64 then (vellumref03_Check.j0 k true a0_0 l0_1 l0_2 l0_3 l0_4) else (if (l0_3.length : Int) > 16 then (vellumref03_Check.j0 k true a0_0 l0_1 l0_2 l0_3 l0_4) else (vellumref03_Check.j0 k (decide ((l0_4.length : Int) > 16)) a0_0 l0_1 l0_2 l0_3 l0_4)))) else (some 30))) = some r := h
 clear h
 replace H := Option.bind_eq_some_iff.mp H
 obtain ⟨t646, A20, H⟩ := H
 replace H : (if t646 = true then (if (l0_1.length : Int) < 1 then (vellumref03_Check.j0 k true a0_0 l0_1 l0_2 l0_3 l0_4) else (if (l0_1.length : Int) > 64 then (vellumref03_Check.j0 k true a0_0 l0_1 l0_2 l0_3 l0_4) else (if (l0_3.length : Int) > 16 then (vellumref03_Check.j0 k true a0_0 l0_1 l0_2 l0_3 l0_4) else (vellumref03_Check.j0 k (decide ((l0_4.length : Int) > 16)) a0_0 l0_1 l0_2 l0_3 l0_4)))) else (some 30)) = some r := H
 have A2 := am A20
 clear A20
 by_cases c3 : t646 = true
 ·subst c3
  have H1 : (if (l0_1.length : Int) < 1 then (vellumref03_Check.j0 k true a0_0 l0_1 l0_2 l0_3 l0_4) else (if (l0_1.length : Int) > 64 then (vellumref03_Check.j0 k true a0_0 l0_1 l0_2 l0_3 l0_4) else (if (l0_3.length : Int) > 16 then (vellumref03_Check.j0 k true a0_0 l0_1 l0_2 l0_3 l0_4) else (vellumref03_Check.j0 k (decide ((l0_4.length : Int) > 16)) a0_0 l0_1 l0_2 l0_3 l0_4)))) = some r := by rw [if_pos rfl] at H; exact H
  clear H
  have H := H1
  clear H1
  have HC4 := am H
  clear H
  go_enter Tryd.func93, Tryd.ntmps93
  go_upto_region 3 with (first | ((with_reducible refine gate_dst (N := 1) rfl ?_); (try (refine gate_guard (by rfl) ?_; dsimp only)); refine box_event rfl (N := 1) rfl (cs := #[.string a0_0, .slice A0_1 l0_1.length c0_1, .slice A0_2 l0_2.length c0_2, .slice A0_3 l0_3.length c0_3, .slice A0_4 l0_4.length c0_4]) (t := 65) gs ?_; intro gb645 hg w5 hbox hb; have BK645 := am (hbox); have GW645 := gw hg HB; have GE645 := gw hg HB; replace HB := sb HB hb; clear hb hbox hg; obtain ⟨Z6_0, Z6_1, Z6_2, Z6_3, Z6_4, Y6_0, Y6_1, Y6_2, Y6_3, Y6_4⟩ := bq5 BK645) | ((with_reducible refine gate_callee (f := 132) rfl ?_); refine goesL_ (some 9) rfl rfl Tryd.func132 (by kernel_rfl) rfl #[.string a0_0] rfl ar ?_; (with_reducible refine (vellumref03_Name.calls k a0_0 true _ A2.out).mono ?_); rintro e w7 ⟨rfl, hb⟩; refine ⟨_, rfl, ?_⟩; replace BK645 := kb BK645 hb; replace HB := sb HB hb; (try clear hb); (try clear hb2 hk hi)))
  (try simp only [Act.put, List.setIfInBounds_toArray, List.set_cons_zero, List.set_cons_succ])
  go_cut [32] (fun v32 wc => ∃ (kq : Nat) (x32_3 : Bool), v32 = .bool x32_3 ∧ Aside0 (vellumref03_Check.j0 kq x32_3 a0_0 l0_1 l0_2 l0_3 l0_4 = some r) ∧ Aside0 (kq ≤ k) ∧ Aside0 (wc.heap[gb645]? = some (.cells #[.string a0_0, (.slice A0_1 l0_1.length c0_1), (.slice A0_2 l0_2.length c0_2), (.slice A0_3 l0_3.length c0_3), (.slice A0_4 l0_4.length c0_4)] 65 (0, 0))) ∧ Aside0 (Below w.heap.size w wc))
  case first =>
   have H := HC4.out
   clear HC4
   by_cases c8 : (l0_1.length : Int) < 1
   ·rw [if_pos c8] at H
    have c8b0 : decide ((l0_1.length : Int) < 1) = true := decide_eq_true c8
    have c8b1 : decide (l0_1.length < 1) = true := decide_eq_true (by omega)
    clear c8
    (first | rw [c8b0] | (simp only [i64_w, i32_w]; rw [c8b0]) | skip)
    have H' := am H
    clear H
    obtain ⟨Z9_0, Z9_1, Z9_2, Z9_3, Z9_4, Y9_0, Y9_1, Y9_2, Y9_3, Y9_4⟩ := bq5 BK645
    go_wp2
    go_meet
    case rel => exact ⟨_, (true), eb, H', ⟨by first | omega | exact Nat.le_refl _⟩, ⟨bk BK645⟩, ⟨bl HB⟩⟩
   ·rw [if_neg c8] at H
    have c8b0 : decide ((l0_1.length : Int) < 1) = false := decide_eq_false c8
    have c8b1 : decide (l0_1.length < 1) = false := decide_eq_false (by omega)
    clear c8
    (first | rw [c8b0] | (simp only [i64_w, i32_w]; rw [c8b0]) | skip)
    by_cases c10 : (l0_1.length : Int) > 64
    ·rw [if_pos c10] at H
     have c10b0 : decide (64 < (l0_1.length : Int)) = true := decide_eq_true c10
     have c10b1 : decide (64 < l0_1.length) = true := decide_eq_true (by omega)
     clear c10
     have H' := am H
     clear H
     obtain ⟨Z11_0, Z11_1, Z11_2, Z11_3, Z11_4, Y11_0, Y11_1, Y11_2, Y11_3, Y11_4⟩ := bq5 BK645
     go_wp2
     go_meet
     case rel => exact ⟨_, (true), eb, H', ⟨by first | omega | exact Nat.le_refl _⟩, ⟨bk BK645⟩, ⟨bl HB⟩⟩
    ·rw [if_neg c10] at H
     have c10b0 : decide (64 < (l0_1.length : Int)) = false := decide_eq_false c10
     have c10b1 : decide (64 < l0_1.length) = false := decide_eq_false (by omega)
     clear c10
     by_cases c12 : (l0_3.length : Int) > 16
     ·rw [if_pos c12] at H
      have c12b0 : decide (16 < (l0_3.length : Int)) = true := decide_eq_true c12
      have c12b1 : decide (16 < l0_3.length) = true := decide_eq_true (by omega)
      clear c12
      have H' := am H
      clear H
      obtain ⟨Z13_0, Z13_1, Z13_2, Z13_3, Z13_4, Y13_0, Y13_1, Y13_2, Y13_3, Y13_4⟩ := bq5 BK645
      go_wp2
      go_meet
      case rel => exact ⟨_, (true), eb, H', ⟨by first | omega | exact Nat.le_refl _⟩, ⟨bk BK645⟩, ⟨bl HB⟩⟩
     ·rw [if_neg c12] at H
      have c12b0 : decide (16 < (l0_3.length : Int)) = false := decide_eq_false c12
      have c12b1 : decide (16 < l0_3.length) = false := decide_eq_false (by omega)
      clear c12
      have H' := am H
      clear H
      obtain ⟨Z14_0, Z14_1, Z14_2, Z14_3, Z14_4, Y14_0, Y14_1, Y14_2, Y14_3, Y14_4⟩ := bq5 BK645
      go_wp2
      go_meet
      case rel => exact ⟨_, (decide ((l0_4.length : Int) > 16)), eb, H', ⟨by first | omega | exact Nat.le_refl _⟩, ⟨bk BK645⟩, ⟨bl HB⟩⟩
  case rest =>
   clear HC4
   (try clear c1); (try clear p2); (try clear c3); (try clear c8); (try clear c8b0 c8b1); (try clear c9); (try clear c10); (try clear c10b0 c10b1); (try clear c12); (try clear c12b0 c12b1); (try clear c13); (try clear Z11_0 Z11_1 Z11_2 Z11_3 Z11_4); (try clear Z13_0 Z13_1 Z13_2 Z13_3 Z13_4); (try clear Z14_0 Z14_1 Z14_2 Z14_3 Z14_4); (try clear Z6_0 Z6_1 Z6_2 Z6_3 Z6_4); (try clear Z9_0 Z9_1 Z9_2 Z9_3 Z9_4); (try clear Y11_0 Y11_1 Y11_2 Y11_3 Y11_4); (try clear Y13_0 Y13_1 Y13_2 Y13_3 Y13_4); (try clear Y14_0 Y14_1 Y14_2 Y14_3 Y14_4); (try clear Y6_0 Y6_1 Y6_2 Y6_3 Y6_4); (try clear Y9_0 Y9_1 Y9_2 Y9_3 Y9_4)
   obtain ⟨kq, x32_3, rfl, HA, HJ3, BK645, HB⟩ := hcut
   cases kq with
   | zero => exact absurd HA.out (by simp [vellumref03_Check.j0])
   | succ kj3 =>
    have H := HA.out
    clear HA
    simp only [vellumref03_Check.j0] at H
    by_cases c15 : x32_3 = true
    ·subst c15
     have H1 : (some 2) = some r := by rw [if_pos rfl] at H; exact H
     clear H
     have H := H1
     clear H1
     obtain rfl := Option.some.inj H
     go_wp2
     go_ret
     exact ⟨er, bl HB⟩
    ·replace c15 := Bool.eq_false_iff.mpr c15
     subst c15
     have H1 : ((vellumref03_columns.f kj3 a0_0 l0_1 l0_2 l0_3 l0_4).bind fun t647 => (if t647 = 0 then ((vellumref03_some.f kj3 a0_0 l0_1 l0_2 l0_3 l0_4 l0_2).bind fun t648 => (if t648 = true then (vellumref03_Check.l0 kj3 0 a0_0 l0_1 l0_2 l0_3 l0_4) else (some 33))) else (some t647))) = some r := by rw [if_neg (show ¬ (false = true) by decide)] at H; exact H
     clear H
     have H := H1
     clear H1
     replace H := Option.bind_eq_some_iff.mp H
     obtain ⟨t647, A160, H⟩ := H
     replace H : (if t647 = 0 then ((vellumref03_some.f kj3 a0_0 l0_1 l0_2 l0_3 l0_4 l0_2).bind fun t648 => (if t648 = true then (vellumref03_Check.l0 kj3 0 a0_0 l0_1 l0_2 l0_3 l0_4) else (some 33))) else (some t647)) = some r := H
     have A16 := am A160
     clear A160
     by_cases c17 : t647 = 0
     ·rw [if_pos c17] at H
      have c17b0 : (t647 == 0) = true := beq_iff_eq.mpr c17
      have c17b1 : (t647 != 0) = false := bne_eq_false_iff_eq.mpr c17
      clear c17
      replace H := Option.bind_eq_some_iff.mp H
      obtain ⟨t648, A180, H⟩ := H
      replace H : (if t648 = true then (vellumref03_Check.l0 kj3 0 a0_0 l0_1 l0_2 l0_3 l0_4) else (some 33)) = some r := H
      have A18 := am A180
      clear A180
      by_cases c19 : t648 = true
      ·subst c19
       have H1 : (vellumref03_Check.l0 kj3 0 a0_0 l0_1 l0_2 l0_3 l0_4) = some r := by rw [if_pos rfl] at H; exact H
       clear H
       have H := H1
       clear H1
       have H' := am H
       clear H
       obtain ⟨Z20_0, Z20_1, Z20_2, Z20_3, Z20_4, Y20_0, Y20_1, Y20_2, Y20_3, Y20_4⟩ := bq5 BK645
       go_wp2_with (first | ((with_reducible refine gate_callee (f := 133) rfl ?_); refine goesL_ (some 34) rfl rfl Tryd.func133 (by kernel_rfl) rfl #[.agg #[.string a0_0, .slice A0_1 l0_1.length c0_1, .slice A0_2 l0_2.length c0_2, .slice A0_3 l0_3.length c0_3, .slice A0_4 l0_4.length c0_4]] rfl ar ?_; (with_reducible refine (vellumref03_columns.calls kj3 a0_0 _ _ l0_1 _ _ l0_2 _ _ l0_3 _ _ l0_4 t647 _ (Kd.cb HR0_1 HB) HC0_1.out (Kd.cb HR0_2 HB) HC0_2.out (Kd.cb HR0_3 HB) HC0_3.out (Kd.cb HR0_4 HB) HC0_4.out (Glob.below HG.out (bl HB)) A16.out).mono ?_); rintro e w21 ⟨rfl, hb⟩; refine ⟨_, rfl, ?_⟩; replace BK645 := kb BK645 hb; replace HB := sb HB hb; (try clear hb); (try clear hb2 hk hi); obtain ⟨Z22_0, Z22_1, Z22_2, Z22_3, Z22_4, Y22_0, Y22_1, Y22_2, Y22_3, Y22_4⟩ := bq5 BK645) | ((with_reducible refine gate_callee (f := 134) rfl ?_); refine goesL_ (some 41) rfl rfl Tryd.func134 (by kernel_rfl) rfl #[.agg #[.string a0_0, .slice A0_1 l0_1.length c0_1, .slice A0_2 l0_2.length c0_2, .slice A0_3 l0_3.length c0_3, .slice A0_4 l0_4.length c0_4], .slice A0_2 l0_2.length c0_2] rfl ar ?_; (with_reducible refine (vellumref03_some.calls kj3 a0_0 _ _ l0_1 _ _ l0_2 _ _ l0_3 _ _ l0_4 _ _ l0_2 true _ (Kd.cb HR0_1 HB) HC0_1.out (Kd.cb HR0_2 HB) HC0_2.out (Kd.cb HR0_3 HB) HC0_3.out (Kd.cb HR0_4 HB) HC0_4.out (Kd.cb HR0_2 HB) HC0_2.out A18.out).mono ?_); rintro e w23 ⟨rfl, hb⟩; refine ⟨_, rfl, ?_⟩; replace BK645 := kb BK645 hb; replace HB := sb HB hb; (try clear hb); (try clear hb2 hk hi)))
       go_loopg [4] kj3 (fun kq v4 w' => ∃ (x4_2 : Int), v4 = .int .i64 x4_2 ∧ Aside0 (vellumref03_Check.l0 kq x4_2 a0_0 l0_1 l0_2 l0_3 l0_4 = some r) ∧ Aside0 (kq ≤ kj3) ∧ Aside0 (w'.heap[gb645]? = some (.cells #[.string a0_0, (.slice A0_1 l0_1.length c0_1), (.slice A0_2 l0_2.length c0_2), (.slice A0_3 l0_3.length c0_3), (.slice A0_4 l0_4.length c0_4)] 65 (0, 0))) ∧ Aside0 (Below w.heap.size w w'))
       case atStart => exact ⟨(0), eb, H', ⟨Nat.le_refl _⟩, ⟨bk BK645⟩, ⟨bl HB⟩⟩
       case round =>
        clear H'
        (try clear c1); (try clear p2); (try clear c3); (try clear c8); (try clear c8b0 c8b1); (try clear c9); (try clear c10); (try clear c10b0 c10b1); (try clear c12); (try clear c12b0 c12b1); (try clear c13); (try clear c15); (try clear c17); (try clear c17b0 c17b1); (try clear c19); (try clear Z11_0 Z11_1 Z11_2 Z11_3 Z11_4); (try clear Z13_0 Z13_1 Z13_2 Z13_3 Z13_4); (try clear Z14_0 Z14_1 Z14_2 Z14_3 Z14_4); (try clear Z20_0 Z20_1 Z20_2 Z20_3 Z20_4); (try clear Z22_0 Z22_1 Z22_2 Z22_3 Z22_4); (try clear Z6_0 Z6_1 Z6_2 Z6_3 Z6_4); (try clear Z9_0 Z9_1 Z9_2 Z9_3 Z9_4); (try clear Y11_0 Y11_1 Y11_2 Y11_3 Y11_4); (try clear Y13_0 Y13_1 Y13_2 Y13_3 Y13_4); (try clear Y14_0 Y14_1 Y14_2 Y14_3 Y14_4); (try clear Y20_0 Y20_1 Y20_2 Y20_3 Y20_4); (try clear Y22_0 Y22_1 Y22_2 Y22_3 Y22_4); (try clear Y6_0 Y6_1 Y6_2 Y6_3 Y6_4); (try clear Y9_0 Y9_1 Y9_2 Y9_3 Y9_4); (try clear p2)
        obtain ⟨x4_2, rfl, HA, HK2, BK645, HB⟩ := hrel
        cases gk with
        | zero => exact absurd HA.out (by simp [vellumref03_Check.l0])
        | succ k2 =>
         have H := HA.out
         clear HA
         simp only [vellumref03_Check.l0] at H
         by_cases c24 : x4_2 < (l0_2.length : Int)
         ·rw [if_pos c24] at H
          have c24b0 : decide (x4_2 < (l0_2.length : Int)) = true := decide_eq_true c24
          clear c24
          by_cases c25 : 0 ≤ x4_2
          ·rw [if_pos c25] at H
           have c25b0 : decide (0 ≤ x4_2) = true := decide_eq_true c25
           clear c25
           by_cases c26 : 0 ≤ (rd l0_2 x4_2)
           ·rw [if_pos c26] at H
            have c26b0 : decide (0 ≤ (rd l0_2 x4_2)) = true := decide_eq_true c26
            clear c26
            by_cases c27 : (rd l0_2 x4_2) < (l0_1.length : Int)
            ·rw [if_pos c27] at H
             have c27b0 : decide ((rd l0_2 x4_2) < (l0_1.length : Int)) = true := decide_eq_true c27
             clear c27
             obtain ⟨bq28, hbq28⟩ : ∃ b_ : Bool, b_ = ((rd_T105 l0_1 (rd l0_2 x4_2)).f2) := ⟨_, rfl⟩
             replace H : (if bq28 = true then (some 33) else (vellumref03_Check.l0 k2 (wrap64 (x4_2 + 1)) a0_0 l0_1 l0_2 l0_3 l0_4)) = some r := by rw [← hbq28] at H; exact H
             have Nbq28 := am hbq28
             clear hbq28
             by_cases c29 : bq28 = true
             ·subst c29
              have H1 : (some 33) = some r := by rw [if_pos rfl] at H; exact H
              clear H
              have H := H1
              clear H1
              obtain rfl := Option.some.inj H
              obtain ⟨Z30_0, Z30_1, Z30_2, Z30_3, Z30_4, Y30_0, Y30_1, Y30_2, Y30_3, Y30_4⟩ := bq5 BK645
              try go_wp2
              have n0_ := am (blk_drew BK645.out)
              have n1_ := am (below_drew1 HB.out)
              clear BK645
              clear HB
              have BK645 := n0_
              have HB := n1_
              clear n0_ n1_
              have p649 : 0 ≤ (x4_2 : Int) := oda
              have q649 : x4_2 < (l0_2.length : Int) := oda
              obtain ⟨ad649, e649, hx649_0⟩ := Kd.at_int HR0_2.out x4_2 p649 q649
              have hw649_0 := hx649_0
              cases e649
              replace hx649_0 := hc HB hx649_0
              replace p649 := eq_true p649
              replace q649 := eq_true q649
              have p650 : 0 ≤ ((rd l0_2 x4_2) : Int) := oda
              have q650 : (rd l0_2 x4_2) < (l0_1.length : Int) := oda
              obtain ⟨ad650, e650, hx650_0, hx650_1, hx650_2, hx650_3, hx650_4, hx650_5, hx650_6⟩ := at_T105 HR0_1.out (rd l0_2 x4_2) p650 q650
              have hw650_6 := hx650_6
              have hw650_5 := hx650_5
              have hw650_4 := hx650_4
              have hw650_3 := hx650_3
              have hw650_2 := hx650_2
              have hw650_1 := hx650_1
              have hw650_0 := hx650_0
              (try rw [← Nbq28.out] at hx650_2)
              (try rw [← Nbq28.out] at hw650_2)
              cases e650
              replace hx650_0 := hc HB hx650_0
              replace hx650_1 := hc HB hx650_1
              replace hx650_2 := hc HB hx650_2
              replace hx650_3 := hc HB hx650_3
              replace hx650_4 := hc HB hx650_4
              replace hx650_5 := hc HB hx650_5
              replace hx650_6 := hc HB hx650_6
              replace p650 := eq_true p650
              replace q650 := eq_true q650
              refine start_ (n := 10) (S := fun w' => w'.cell? ⟨gb645, 0, none⟩ = some (.string a0_0) ∧ w'.cell? ⟨gb645, 1, none⟩ = some (.slice (some ad650) l0_1.length c0_1) ∧ w'.cell? ⟨gb645, 2, none⟩ = some (.slice (some ad649) l0_2.length c0_2) ∧ w'.cell? ⟨gb645, 3, none⟩ = some (.slice A0_3 l0_3.length c0_3) ∧ w'.cell? ⟨gb645, 4, none⟩ = some (.slice A0_4 l0_4.length c0_4) ∧ w'.cell? (ad649.add (x4_2).toNat) = some (.int .i64 (rd l0_2 x4_2)) ∧ w'.cell? (ad650.add (((rd l0_2 x4_2)).toNat * 7)) = some (.string ((rd_T105 l0_1 (rd l0_2 x4_2)).f0)) ∧ w'.cell? ⟨(ad650.add (((rd l0_2 x4_2)).toNat * 7)).block, (ad650.add (((rd l0_2 x4_2)).toNat * 7)).off + 1, none⟩ = some (.int .i64 ((rd_T105 l0_1 (rd l0_2 x4_2)).f1)) ∧ w'.cell? ⟨(ad650.add (((rd l0_2 x4_2)).toNat * 7)).block, (ad650.add (((rd l0_2 x4_2)).toNat * 7)).off + 2, none⟩ = some (.bool true) ∧ w'.cell? ⟨(ad650.add (((rd l0_2 x4_2)).toNat * 7)).block, (ad650.add (((rd l0_2 x4_2)).toNat * 7)).off + 3, none⟩ = some (.int .i64 ((rd_T105 l0_1 (rd l0_2 x4_2)).f3.f0)) ∧ w'.cell? ⟨(ad650.add (((rd l0_2 x4_2)).toNat * 7)).block, (ad650.add (((rd l0_2 x4_2)).toNat * 7)).off + 4, none⟩ = some (.int .i64 ((rd_T105 l0_1 (rd l0_2 x4_2)).f3.f1)) ∧ w'.cell? ⟨(ad650.add (((rd l0_2 x4_2)).toNat * 7)).block, (ad650.add (((rd l0_2 x4_2)).toNat * 7)).off + 5, none⟩ = some (.float .f64 ((rd_T105 l0_1 (rd l0_2 x4_2)).f3.f2)) ∧ w'.cell? ⟨(ad650.add (((rd l0_2 x4_2)).toNat * 7)).block, (ad650.add (((rd l0_2 x4_2)).toNat * 7)).off + 6, none⟩ = some (.string ((rd_T105 l0_1 (rd l0_2 x4_2)).f3.f3))) (ds := []) (bb 0 10) (by kernel_rfl) rfl rfl ⟨(blk_cell BK645.out 0).trans rfl, (blk_cell BK645.out 1).trans rfl, (blk_cell BK645.out 2).trans rfl, (blk_cell BK645.out 3).trans rfl, (blk_cell BK645.out 4).trans rfl, (hc HB hw649_0), (hc HB hw650_0), (hc HB hw650_1), (hc HB hw650_2), (hc HB hw650_3), (hc HB hw650_4), (hc HB hw650_5), (hc HB hw650_6)⟩ (fun hHeld => ?_); refine with_tabW vellumref03_Check.tab13 vellumref03_Check.bits13 (fun HT_ HW_ => ?_)
              generalize wr.drew = w31 at BK645 HB hx649_0 hx650_0 hx650_1 hx650_2 hx650_3 hx650_4 hx650_5 hx650_6 hHeld ⊢
              refine pu HT_ 0 (some 50) (bb 1 10) ?_
              refine pu HT_ 2 (some 52) (bs 10 5) ?_
              refine pu HT_ 4 (some 54) (bs 10 21) ?_
              refine tk HT_ HW_ hHeld 1 (some 51) (bs 10 23) ?_
              refine tk HT_ HW_ hHeld 3 (some 53) (bb 5 10) ?_
              refine pu HT_ 5 (some 55) (bb 6 10) ?_
              refine tk HT_ HW_ hHeld 6 (some 56) (bb 7 10) ?_
              refine pu HT_ 7 (some 57) (bb 8 10) ?_
              refine pu HT_ 8 (some 58) (bb 9 10) ?_
              refine tk HT_ HW_ hHeld 9 (some 59) (bb 10 10) ?_
              refine done_ (done_of HT_.out (by kernel_rfl)) ?_
              try go_wp2
              go_ret
              exact ⟨er, bl HB⟩
             ·replace c29 := Bool.eq_false_iff.mpr c29
              subst c29
              have H1 : (vellumref03_Check.l0 k2 (wrap64 (x4_2 + 1)) a0_0 l0_1 l0_2 l0_3 l0_4) = some r := by rw [if_neg (show ¬ (false = true) by decide)] at H; exact H
              clear H
              have H := H1
              clear H1
              have H' := am H
              clear H
              obtain ⟨Z32_0, Z32_1, Z32_2, Z32_3, Z32_4, Y32_0, Y32_1, Y32_2, Y32_3, Y32_4⟩ := bq5 BK645
              try go_wp2
              have n0_ := am (blk_drew BK645.out)
              have n1_ := am (below_drew1 HB.out)
              clear BK645
              clear HB
              have BK645 := n0_
              have HB := n1_
              clear n0_ n1_
              have p649 : 0 ≤ (x4_2 : Int) := oda
              have q649 : x4_2 < (l0_2.length : Int) := oda
              obtain ⟨ad649, e649, hx649_0⟩ := Kd.at_int HR0_2.out x4_2 p649 q649
              have hw649_0 := hx649_0
              cases e649
              replace hx649_0 := hc HB hx649_0
              replace p649 := eq_true p649
              replace q649 := eq_true q649
              have p650 : 0 ≤ ((rd l0_2 x4_2) : Int) := oda
              have q650 : (rd l0_2 x4_2) < (l0_1.length : Int) := oda
              obtain ⟨ad650, e650, hx650_0, hx650_1, hx650_2, hx650_3, hx650_4, hx650_5, hx650_6⟩ := at_T105 HR0_1.out (rd l0_2 x4_2) p650 q650
              have hw650_6 := hx650_6
              have hw650_5 := hx650_5
              have hw650_4 := hx650_4
              have hw650_3 := hx650_3
              have hw650_2 := hx650_2
              have hw650_1 := hx650_1
              have hw650_0 := hx650_0
              (try rw [← Nbq28.out] at hx650_2)
              (try rw [← Nbq28.out] at hw650_2)
              cases e650
              replace hx650_0 := hc HB hx650_0
              replace hx650_1 := hc HB hx650_1
              replace hx650_2 := hc HB hx650_2
              replace hx650_3 := hc HB hx650_3
              replace hx650_4 := hc HB hx650_4
              replace hx650_5 := hc HB hx650_5
              replace hx650_6 := hc HB hx650_6
              replace p650 := eq_true p650
              replace q650 := eq_true q650
              refine start_ (n := 10) (S := fun w' => w'.cell? ⟨gb645, 0, none⟩ = some (.string a0_0) ∧ w'.cell? ⟨gb645, 1, none⟩ = some (.slice (some ad650) l0_1.length c0_1) ∧ w'.cell? ⟨gb645, 2, none⟩ = some (.slice (some ad649) l0_2.length c0_2) ∧ w'.cell? ⟨gb645, 3, none⟩ = some (.slice A0_3 l0_3.length c0_3) ∧ w'.cell? ⟨gb645, 4, none⟩ = some (.slice A0_4 l0_4.length c0_4) ∧ w'.cell? (ad649.add (x4_2).toNat) = some (.int .i64 (rd l0_2 x4_2)) ∧ w'.cell? (ad650.add (((rd l0_2 x4_2)).toNat * 7)) = some (.string ((rd_T105 l0_1 (rd l0_2 x4_2)).f0)) ∧ w'.cell? ⟨(ad650.add (((rd l0_2 x4_2)).toNat * 7)).block, (ad650.add (((rd l0_2 x4_2)).toNat * 7)).off + 1, none⟩ = some (.int .i64 ((rd_T105 l0_1 (rd l0_2 x4_2)).f1)) ∧ w'.cell? ⟨(ad650.add (((rd l0_2 x4_2)).toNat * 7)).block, (ad650.add (((rd l0_2 x4_2)).toNat * 7)).off + 2, none⟩ = some (.bool false) ∧ w'.cell? ⟨(ad650.add (((rd l0_2 x4_2)).toNat * 7)).block, (ad650.add (((rd l0_2 x4_2)).toNat * 7)).off + 3, none⟩ = some (.int .i64 ((rd_T105 l0_1 (rd l0_2 x4_2)).f3.f0)) ∧ w'.cell? ⟨(ad650.add (((rd l0_2 x4_2)).toNat * 7)).block, (ad650.add (((rd l0_2 x4_2)).toNat * 7)).off + 4, none⟩ = some (.int .i64 ((rd_T105 l0_1 (rd l0_2 x4_2)).f3.f1)) ∧ w'.cell? ⟨(ad650.add (((rd l0_2 x4_2)).toNat * 7)).block, (ad650.add (((rd l0_2 x4_2)).toNat * 7)).off + 5, none⟩ = some (.float .f64 ((rd_T105 l0_1 (rd l0_2 x4_2)).f3.f2)) ∧ w'.cell? ⟨(ad650.add (((rd l0_2 x4_2)).toNat * 7)).block, (ad650.add (((rd l0_2 x4_2)).toNat * 7)).off + 6, none⟩ = some (.string ((rd_T105 l0_1 (rd l0_2 x4_2)).f3.f3))) (ds := []) (bb 0 10) (by kernel_rfl) rfl rfl ⟨(blk_cell BK645.out 0).trans rfl, (blk_cell BK645.out 1).trans rfl, (blk_cell BK645.out 2).trans rfl, (blk_cell BK645.out 3).trans rfl, (blk_cell BK645.out 4).trans rfl, (hc HB hw649_0), (hc HB hw650_0), (hc HB hw650_1), (hc HB hw650_2), (hc HB hw650_3), (hc HB hw650_4), (hc HB hw650_5), (hc HB hw650_6)⟩ (fun hHeld => ?_); refine with_tabW vellumref03_Check.tab13 vellumref03_Check.bits13 (fun HT_ HW_ => ?_)
              generalize wr.drew = w33 at BK645 HB hx649_0 hx650_0 hx650_1 hx650_2 hx650_3 hx650_4 hx650_5 hx650_6 hHeld ⊢
              refine pu HT_ 0 (some 50) (bb 1 10) ?_
              refine pu HT_ 2 (some 52) (bs 10 5) ?_
              refine pu HT_ 4 (some 54) (bs 10 21) ?_
              refine tk HT_ HW_ hHeld 1 (some 51) (bs 10 23) ?_
              refine tk HT_ HW_ hHeld 3 (some 53) (bb 5 10) ?_
              refine pu HT_ 5 (some 55) (bb 6 10) ?_
              refine tk HT_ HW_ hHeld 6 (some 56) (bb 7 10) ?_
              refine pu HT_ 7 (some 57) (bb 8 10) ?_
              refine pu HT_ 8 (some 58) (bb 9 10) ?_
              refine tk HT_ HW_ hHeld 9 (some 59) (bb 10 10) ?_
              refine done_ (done_of HT_.out (by kernel_rfl)) ?_
              try go_wp2
              go_roundg k2
              case measure => have := HJ3.out; have := HK2.out; omega
              case rel => exact ⟨(wrap64 (x4_2 + 1)), eb, H', ⟨by have := HJ3.out; have := HK2.out; omega⟩, ⟨bk BK645⟩, ⟨bl HB⟩⟩
            ·rw [if_neg c27] at H
             exact absurd H (by simp)
           ·rw [if_neg c26] at H
            exact absurd H (by simp)
          ·rw [if_neg c25] at H
           exact absurd H (by simp)
         ·rw [if_neg c24] at H
          have c24b0 : decide (x4_2 < (l0_2.length : Int)) = false := decide_eq_false c24
          clear c24
          replace H := Option.bind_eq_some_iff.mp H
          obtain ⟨t651, A340, H⟩ := H
          replace H : (if t651 = 0 then (vellumref03_Check.l1 k2 0 a0_0 l0_1 l0_2 l0_3 l0_4) else (some t651)) = some r := H
          have A34 := am A340
          clear A340
          by_cases c35 : t651 = 0
          ·rw [if_pos c35] at H
           have c35b0 : (t651 == 0) = true := beq_iff_eq.mpr c35
           have c35b1 : (t651 != 0) = false := bne_eq_false_iff_eq.mpr c35
           clear c35
           have H' := am H
           clear H
           obtain ⟨Z36_0, Z36_1, Z36_2, Z36_3, Z36_4, Y36_0, Y36_1, Y36_2, Y36_3, Y36_4⟩ := bq5 BK645
           go_wp2_with (first | ((with_reducible refine gate_callee (f := 135) rfl ?_); refine goesL_ (some 61) rfl rfl Tryd.func135 (by kernel_rfl) rfl #[.agg #[.string a0_0, .slice A0_1 l0_1.length c0_1, .slice A0_2 l0_2.length c0_2, .slice A0_3 l0_3.length c0_3, .slice A0_4 l0_4.length c0_4]] rfl ar ?_; (with_reducible refine (vellumref03_indexes.calls k2 a0_0 _ _ l0_1 _ _ l0_2 _ _ l0_3 _ _ l0_4 t651 _ (Kd.cb HR0_1 HB) HC0_1.out (Kd.cb HR0_2 HB) HC0_2.out (Kd.cb HR0_3 HB) HC0_3.out (Kd.cb HR0_4 HB) HC0_4.out A34.out).mono ?_); rintro e w37 ⟨rfl, hb⟩; refine ⟨_, rfl, ?_⟩; replace BK645 := kb BK645 hb; replace HB := sb HB hb; (try clear hb); (try clear hb2 hk hi)))
           go_loopg [6] k2 (fun kq v6 w' => ∃ (x6_3 : Int), v6 = .int .i64 x6_3 ∧ Aside0 (vellumref03_Check.l1 kq x6_3 a0_0 l0_1 l0_2 l0_3 l0_4 = some r) ∧ Aside0 (kq ≤ k2) ∧ Aside0 (w'.heap[gb645]? = some (.cells #[.string a0_0, (.slice A0_1 l0_1.length c0_1), (.slice A0_2 l0_2.length c0_2), (.slice A0_3 l0_3.length c0_3), (.slice A0_4 l0_4.length c0_4)] 65 (0, 0))) ∧ Aside0 (Below w.heap.size w w'))
           case atStart => exact ⟨(0), eb, H', ⟨Nat.le_refl _⟩, ⟨bk BK645⟩, ⟨bl HB⟩⟩
           case round =>
            clear H'
            (try clear c1); (try clear c2); (try clear p2); (try clear q2); (try clear c3); (try clear p6); (try clear q6); (try clear hx6); (try clear c8); (try clear c8b0 c8b1); (try clear c9); (try clear c10); (try clear c10b0 c10b1); (try clear c12); (try clear c12b0 c12b1); (try clear c13); (try clear c15); (try clear c17); (try clear c17b0 c17b1); (try clear c19); (try clear c24); (try clear c24b0); (try clear c25); (try clear c25b0); (try clear c26); (try clear c26b0); (try clear c27); (try clear c27b0); (try clear q28); (try clear c29); (try clear c35); (try clear c35b0 c35b1); (try clear Z11_0 Z11_1 Z11_2 Z11_3 Z11_4); (try clear Z13_0 Z13_1 Z13_2 Z13_3 Z13_4); (try clear Z14_0 Z14_1 Z14_2 Z14_3 Z14_4); (try clear Z20_0 Z20_1 Z20_2 Z20_3 Z20_4); (try clear Z22_0 Z22_1 Z22_2 Z22_3 Z22_4); (try clear Z30_0 Z30_1 Z30_2 Z30_3 Z30_4); (try clear Z32_0 Z32_1 Z32_2 Z32_3 Z32_4); (try clear Z36_0 Z36_1 Z36_2 Z36_3 Z36_4); (try clear Z6_0 Z6_1 Z6_2 Z6_3 Z6_4); (try clear Z9_0 Z9_1 Z9_2 Z9_3 Z9_4); (try clear Y11_0 Y11_1 Y11_2 Y11_3 Y11_4); (try clear Y13_0 Y13_1 Y13_2 Y13_3 Y13_4); (try clear Y14_0 Y14_1 Y14_2 Y14_3 Y14_4); (try clear Y20_0 Y20_1 Y20_2 Y20_3 Y20_4); (try clear Y22_0 Y22_1 Y22_2 Y22_3 Y22_4); (try clear Y30_0 Y30_1 Y30_2 Y30_3 Y30_4); (try clear Y32_0 Y32_1 Y32_2 Y32_3 Y32_4); (try clear Y36_0 Y36_1 Y36_2 Y36_3 Y36_4); (try clear Y6_0 Y6_1 Y6_2 Y6_3 Y6_4); (try clear Y9_0 Y9_1 Y9_2 Y9_3 Y9_4); (try clear hx649_0); (try clear hx650_0); (try clear hx650_1); (try clear hx650_2); (try clear hx650_3); (try clear hx650_4); (try clear hx650_5); (try clear hx650_6); (try clear p2); (try clear p649); (try clear p650); (try clear q649); (try clear q650)
            obtain ⟨x6_3, rfl, HA, HK3, BK645, HB⟩ := hrel
            cases gk with
            | zero => exact absurd HA.out (by simp [vellumref03_Check.l1])
            | succ k3 =>
             have H := HA.out
             clear HA
             simp only [vellumref03_Check.l1] at H
             by_cases c38 : x6_3 < (l0_4.length : Int)
             ·rw [if_pos c38] at H
              have c38b0 : decide (x6_3 < (l0_4.length : Int)) = true := decide_eq_true c38
              clear c38
              by_cases c39 : 0 ≤ x6_3
              ·rw [if_pos c39] at H
               have c39b0 : decide (0 ≤ x6_3) = true := decide_eq_true c39
               clear c39
               replace H := Option.bind_eq_some_iff.mp H
               obtain ⟨t653, A400, H⟩ := H
               replace H : (if t653 = true then ((vellumref03_some.f k3 a0_0 l0_1 l0_2 l0_3 l0_4 ((rd_T139 l0_4 x6_3).f0)).bind fun t655 => (if t655 = true then (vellumref03_Check.l1 k3 (wrap64 (x6_3 + 1)) a0_0 l0_1 l0_2 l0_3 l0_4) else (some 33))) else (some 30)) = some r := H
               have A40 := am A400
               clear A400
               by_cases c41 : t653 = true
               ·subst c41
                have H1 : ((vellumref03_some.f k3 a0_0 l0_1 l0_2 l0_3 l0_4 ((rd_T139 l0_4 x6_3).f0)).bind fun t655 => (if t655 = true then (vellumref03_Check.l1 k3 (wrap64 (x6_3 + 1)) a0_0 l0_1 l0_2 l0_3 l0_4) else (some 33))) = some r := by rw [if_pos rfl] at H; exact H
                clear H
                have H := H1
                clear H1
                replace H := Option.bind_eq_some_iff.mp H
                obtain ⟨t655, A420, H⟩ := H
                replace H : (if t655 = true then (vellumref03_Check.l1 k3 (wrap64 (x6_3 + 1)) a0_0 l0_1 l0_2 l0_3 l0_4) else (some 33)) = some r := H
                have A42 := am A420
                clear A420
                by_cases c43 : t655 = true
                ·subst c43
                 have H1 : (vellumref03_Check.l1 k3 (wrap64 (x6_3 + 1)) a0_0 l0_1 l0_2 l0_3 l0_4) = some r := by rw [if_pos rfl] at H; exact H
                 clear H
                 have H := H1
                 clear H1
                 have H' := am H
                 clear H
                 obtain ⟨Z44_0, Z44_1, Z44_2, Z44_3, Z44_4, Y44_0, Y44_1, Y44_2, Y44_3, Y44_4⟩ := bq5 BK645
                 have p652 : 0 ≤ (x6_3 : Int) := oda
                 have q652 : x6_3 < (l0_4.length : Int) := oda
                 obtain ⟨ad652, A652_0, c652_0, e652, hx652_0, hx652_1, hl652_0, hi652_0⟩ := at_T139 HR0_4.out x6_3 p652 q652
                 cases e652
                 replace hx652_0 := hc HB hx652_0
                 replace hx652_1 := hc HB hx652_1
                 have HR652_0 := am hi652_0
                 have HC652_0 := am hl652_0
                 clear hi652_0 hl652_0
                 replace p652 := eq_true p652
                 replace q652 := eq_true q652
                 try go_wp2_with (first | ((with_reducible refine gate_callee (f := 132) rfl ?_); refine goesL_ (some 78) rfl rfl Tryd.func132 (by kernel_rfl) rfl #[.string ((rd_T139 l0_4 x6_3).f1)] rfl ar ?_; (with_reducible refine (vellumref03_Name.calls k3 ((rd_T139 l0_4 x6_3).f1) true _ A40.out).mono ?_); rintro e w45 ⟨rfl, hb⟩; refine ⟨_, rfl, ?_⟩; replace BK645 := kb BK645 hb; replace HB := sb HB hb; (try clear hb); (try clear hb2 hk hi)))
                 have n0_ := am (blk_drew BK645.out)
                 have n1_ := am (below_drew1 HB.out)
                 clear BK645
                 clear HB
                 have BK645 := n0_
                 have HB := n1_
                 clear n0_ n1_
                 have p654 : 0 ≤ (x6_3 : Int) := oda
                 have q654 : x6_3 < (l0_4.length : Int) := oda
                 obtain ⟨ad654, A654_0, c654_0, e654, hx654_0, hx654_1, hl654_0, hi654_0⟩ := at_T139 HR0_4.out x6_3 p654 q654
                 have hw654_1 := hx654_1
                 have hw654_0 := hx654_0
                 obtain rfl : ad652 = ad654 := (by injection e654)
                 replace hx654_0 := hc HB hx654_0
                 replace hx654_1 := hc HB hx654_1
                 have HR654_0 := am hi654_0
                 have HC654_0 := am hl654_0
                 clear hi654_0 hl654_0
                 replace p654 := eq_true p654
                 replace q654 := eq_true q654
                 refine start_ (n := 9) (S := fun w' => w'.cell? ⟨gb645, 0, none⟩ = some (.string a0_0) ∧ w'.cell? ⟨gb645, 1, none⟩ = some (.slice A0_1 l0_1.length c0_1) ∧ w'.cell? ⟨gb645, 2, none⟩ = some (.slice A0_2 l0_2.length c0_2) ∧ w'.cell? ⟨gb645, 3, none⟩ = some (.slice A0_3 l0_3.length c0_3) ∧ w'.cell? ⟨gb645, 4, none⟩ = some (.slice (some ad652) l0_4.length c0_4) ∧ w'.cell? (ad652.add ((x6_3).toNat * 2)) = some (.slice A654_0 ((rd_T139 l0_4 x6_3).f0).length c654_0) ∧ w'.cell? ⟨(ad652.add ((x6_3).toNat * 2)).block, (ad652.add ((x6_3).toNat * 2)).off + 1, none⟩ = some (.string ((rd_T139 l0_4 x6_3).f1))) (ds := []) (bb 0 9) (by kernel_rfl) rfl rfl ⟨(blk_cell BK645.out 0).trans rfl, (blk_cell BK645.out 1).trans rfl, (blk_cell BK645.out 2).trans rfl, (blk_cell BK645.out 3).trans rfl, (blk_cell BK645.out 4).trans rfl, (hc HB hw654_0), (hc HB hw654_1)⟩ (fun hHeld => ?_); refine with_tabW vellumref03_Check.tab23 vellumref03_Check.bits23 (fun HT_ HW_ => ?_)
                 generalize w45.drew = w46 at BK645 HB HR654_0 hx654_0 hx654_1 hHeld ⊢
                 refine pu HT_ 1 (some 81) (bs 9 2) ?_
                 refine pu HT_ 3 (some 83) (bs 9 10) ?_
                 refine tk HT_ HW_ hHeld 0 (some 80) (bs 9 11) ?_
                 refine tk HT_ HW_ hHeld 2 (some 82) (bb 4 9) ?_
                 refine pu HT_ 4 (some 84) (bb 5 9) ?_
                 refine pu HT_ 5 (some 85) (bb 6 9) ?_
                 refine tk HT_ HW_ hHeld 6 (some 86) (bb 7 9) ?_
                 refine one_ (i := 7) (N := some 87) (bb 8 9) rfl rfl (one_of HT_.out (by kernel_rfl)) (by decide) (fun K hK => ?_)
                 refine goes_ Tryd.func134 (by kernel_rfl) rfl #[.agg #[.string a0_0, .slice A0_1 l0_1.length c0_1, .slice A0_2 l0_2.length c0_2, .slice A0_3 l0_3.length c0_3, .slice (some ad652) l0_4.length c0_4], .slice A654_0 ((rd_T139 l0_4 x6_3).f0).length c654_0] (by rfl) rfl rfl ar ?_
                 with_reducible refine (vellumref03_some.calls k3 a0_0 _ _ l0_1 _ _ l0_2 _ _ l0_3 _ _ l0_4 _ _ ((rd_T139 l0_4 x6_3).f0) true _ ?side1 ?side2 ?side3 ?side4 ?side5 ?side6 ?side7 ?side8 ?side9 ?side10 A42.out).mono ?_
                 (case side1 => exact Kd.cb HR0_1 HB)
                 (case side2 => exact HC0_1.out)
                 (case side3 => exact Kd.cb HR0_2 HB)
                 (case side4 => exact HC0_2.out)
                 (case side5 => exact Kd.cb HR0_3 HB)
                 (case side6 => exact HC0_3.out)
                 (case side7 => exact Kd.cb HR0_4 HB)
                 (case side8 => exact HC0_4.out)
                 (case side9 => exact Kd.cb HR654_0 HB)
                 (case side10 => exact HC654_0.out)
                 rintro e w47 ⟨rfl, hb⟩
                 refine ⟨_, rfl, ?_⟩
                 have n0_ := kb BK645 hb
                 have n1_ := sb HB hb
                 clear BK645
                 clear HB
                 have BK645 := n0_
                 have HB := n1_
                 clear n0_ n1_
                 (try clear hb)
                 (try clear hb2)
                 (try clear hk)
                 (try clear hi)
                 refine hK.out _ _ ⟨(blk_cell BK645.out 0).trans rfl, (blk_cell BK645.out 1).trans rfl, (blk_cell BK645.out 2).trans rfl, (blk_cell BK645.out 3).trans rfl, (blk_cell BK645.out 4).trans rfl, (hc HB hw654_0), (hc HB hw654_1)⟩ (fun hHeld => ?_)
                 clear hK K
                 refine norm_ (a' := ?_) ?_ ?_
                 rotate_left
                 ·show Act.put _ (some 87) _ = _
                  simp only [Act.put, List.setIfInBounds_toArray, List.set_cons_zero, List.set_cons_succ, i64_w, i32_w]
                  rfl
                 refine pu HT_ 8 (some 88) (bb 9 9) ?_
                 refine done_ (done_of HT_.out (by kernel_rfl)) ?_
                 try go_wp2
                 go_roundg k3
                 case measure => have := HJ3.out; have := HK2.out; have := HK3.out; omega
                 case rel => exact ⟨(wrap64 (x6_3 + 1)), eb, H', ⟨by have := HJ3.out; have := HK2.out; have := HK3.out; omega⟩, ⟨bk BK645⟩, ⟨bl HB⟩⟩
                ·replace c43 := Bool.eq_false_iff.mpr c43
                 subst c43
                 have H1 : (some 33) = some r := by rw [if_neg (show ¬ (false = true) by decide)] at H; exact H
                 clear H
                 have H := H1
                 clear H1
                 obtain rfl := Option.some.inj H
                 obtain ⟨Z48_0, Z48_1, Z48_2, Z48_3, Z48_4, Y48_0, Y48_1, Y48_2, Y48_3, Y48_4⟩ := bq5 BK645
                 have p652 : 0 ≤ (x6_3 : Int) := oda
                 have q652 : x6_3 < (l0_4.length : Int) := oda
                 obtain ⟨ad652, A652_0, c652_0, e652, hx652_0, hx652_1, hl652_0, hi652_0⟩ := at_T139 HR0_4.out x6_3 p652 q652
                 cases e652
                 replace hx652_0 := hc HB hx652_0
                 replace hx652_1 := hc HB hx652_1
                 have HR652_0 := am hi652_0
                 have HC652_0 := am hl652_0
                 clear hi652_0 hl652_0
                 replace p652 := eq_true p652
                 replace q652 := eq_true q652
                 try go_wp2_with (first | ((with_reducible refine gate_callee (f := 132) rfl ?_); refine goesL_ (some 78) rfl rfl Tryd.func132 (by kernel_rfl) rfl #[.string ((rd_T139 l0_4 x6_3).f1)] rfl ar ?_; (with_reducible refine (vellumref03_Name.calls k3 ((rd_T139 l0_4 x6_3).f1) true _ A40.out).mono ?_); rintro e w49 ⟨rfl, hb⟩; refine ⟨_, rfl, ?_⟩; replace BK645 := kb BK645 hb; replace HB := sb HB hb; (try clear hb); (try clear hb2 hk hi)))
                 have n0_ := am (blk_drew BK645.out)
                 have n1_ := am (below_drew1 HB.out)
                 clear BK645
                 clear HB
                 have BK645 := n0_
                 have HB := n1_
                 clear n0_ n1_
                 have p654 : 0 ≤ (x6_3 : Int) := oda
                 have q654 : x6_3 < (l0_4.length : Int) := oda
                 obtain ⟨ad654, A654_0, c654_0, e654, hx654_0, hx654_1, hl654_0, hi654_0⟩ := at_T139 HR0_4.out x6_3 p654 q654
                 have hw654_1 := hx654_1
                 have hw654_0 := hx654_0
                 obtain rfl : ad652 = ad654 := (by injection e654)
                 replace hx654_0 := hc HB hx654_0
                 replace hx654_1 := hc HB hx654_1
                 have HR654_0 := am hi654_0
                 have HC654_0 := am hl654_0
                 clear hi654_0 hl654_0
                 replace p654 := eq_true p654
                 replace q654 := eq_true q654
                 refine start_ (n := 9) (S := fun w' => w'.cell? ⟨gb645, 0, none⟩ = some (.string a0_0) ∧ w'.cell? ⟨gb645, 1, none⟩ = some (.slice A0_1 l0_1.length c0_1) ∧ w'.cell? ⟨gb645, 2, none⟩ = some (.slice A0_2 l0_2.length c0_2) ∧ w'.cell? ⟨gb645, 3, none⟩ = some (.slice A0_3 l0_3.length c0_3) ∧ w'.cell? ⟨gb645, 4, none⟩ = some (.slice (some ad652) l0_4.length c0_4) ∧ w'.cell? (ad652.add ((x6_3).toNat * 2)) = some (.slice A654_0 ((rd_T139 l0_4 x6_3).f0).length c654_0) ∧ w'.cell? ⟨(ad652.add ((x6_3).toNat * 2)).block, (ad652.add ((x6_3).toNat * 2)).off + 1, none⟩ = some (.string ((rd_T139 l0_4 x6_3).f1))) (ds := []) (bb 0 9) (by kernel_rfl) rfl rfl ⟨(blk_cell BK645.out 0).trans rfl, (blk_cell BK645.out 1).trans rfl, (blk_cell BK645.out 2).trans rfl, (blk_cell BK645.out 3).trans rfl, (blk_cell BK645.out 4).trans rfl, (hc HB hw654_0), (hc HB hw654_1)⟩ (fun hHeld => ?_); refine with_tabW vellumref03_Check.tab23 vellumref03_Check.bits23 (fun HT_ HW_ => ?_)
                 generalize w49.drew = w50 at BK645 HB HR654_0 hx654_0 hx654_1 hHeld ⊢
                 refine pu HT_ 1 (some 81) (bs 9 2) ?_
                 refine pu HT_ 3 (some 83) (bs 9 10) ?_
                 refine tk HT_ HW_ hHeld 0 (some 80) (bs 9 11) ?_
                 refine tk HT_ HW_ hHeld 2 (some 82) (bb 4 9) ?_
                 refine pu HT_ 4 (some 84) (bb 5 9) ?_
                 refine pu HT_ 5 (some 85) (bb 6 9) ?_
                 refine tk HT_ HW_ hHeld 6 (some 86) (bb 7 9) ?_
                 refine one_ (i := 7) (N := some 87) (bb 8 9) rfl rfl (one_of HT_.out (by kernel_rfl)) (by decide) (fun K hK => ?_)
                 refine goes_ Tryd.func134 (by kernel_rfl) rfl #[.agg #[.string a0_0, .slice A0_1 l0_1.length c0_1, .slice A0_2 l0_2.length c0_2, .slice A0_3 l0_3.length c0_3, .slice (some ad652) l0_4.length c0_4], .slice A654_0 ((rd_T139 l0_4 x6_3).f0).length c654_0] (by rfl) rfl rfl ar ?_
                 with_reducible refine (vellumref03_some.calls k3 a0_0 _ _ l0_1 _ _ l0_2 _ _ l0_3 _ _ l0_4 _ _ ((rd_T139 l0_4 x6_3).f0) false _ ?side1 ?side2 ?side3 ?side4 ?side5 ?side6 ?side7 ?side8 ?side9 ?side10 A42.out).mono ?_
                 (case side1 => exact Kd.cb HR0_1 HB)
                 (case side2 => exact HC0_1.out)
                 (case side3 => exact Kd.cb HR0_2 HB)
                 (case side4 => exact HC0_2.out)
                 (case side5 => exact Kd.cb HR0_3 HB)
                 (case side6 => exact HC0_3.out)
                 (case side7 => exact Kd.cb HR0_4 HB)
                 (case side8 => exact HC0_4.out)
                 (case side9 => exact Kd.cb HR654_0 HB)
                 (case side10 => exact HC654_0.out)
                 rintro e w51 ⟨rfl, hb⟩
                 refine ⟨_, rfl, ?_⟩
                 have n0_ := kb BK645 hb
                 have n1_ := sb HB hb
                 clear BK645
                 clear HB
                 have BK645 := n0_
                 have HB := n1_
                 clear n0_ n1_
                 (try clear hb)
                 (try clear hb2)
                 (try clear hk)
                 (try clear hi)
                 refine hK.out _ _ ⟨(blk_cell BK645.out 0).trans rfl, (blk_cell BK645.out 1).trans rfl, (blk_cell BK645.out 2).trans rfl, (blk_cell BK645.out 3).trans rfl, (blk_cell BK645.out 4).trans rfl, (hc HB hw654_0), (hc HB hw654_1)⟩ (fun hHeld => ?_)
                 clear hK K
                 refine norm_ (a' := ?_) ?_ ?_
                 rotate_left
                 ·show Act.put _ (some 87) _ = _
                  simp only [Act.put, List.setIfInBounds_toArray, List.set_cons_zero, List.set_cons_succ, i64_w, i32_w]
                  rfl
                 refine pu HT_ 8 (some 88) (bb 9 9) ?_
                 refine done_ (done_of HT_.out (by kernel_rfl)) ?_
                 try go_wp2
                 go_ret
                 exact ⟨er, bl HB⟩
               ·replace c41 := Bool.eq_false_iff.mpr c41
                subst c41
                have H1 : (some 30) = some r := by rw [if_neg (show ¬ (false = true) by decide)] at H; exact H
                clear H
                have H := H1
                clear H1
                obtain rfl := Option.some.inj H
                obtain ⟨Z52_0, Z52_1, Z52_2, Z52_3, Z52_4, Y52_0, Y52_1, Y52_2, Y52_3, Y52_4⟩ := bq5 BK645
                have p652 : 0 ≤ (x6_3 : Int) := oda
                have q652 : x6_3 < (l0_4.length : Int) := oda
                obtain ⟨ad652, A652_0, c652_0, e652, hx652_0, hx652_1, hl652_0, hi652_0⟩ := at_T139 HR0_4.out x6_3 p652 q652
                cases e652
                replace hx652_0 := hc HB hx652_0
                replace hx652_1 := hc HB hx652_1
                have HR652_0 := am hi652_0
                have HC652_0 := am hl652_0
                clear hi652_0 hl652_0
                replace p652 := eq_true p652
                replace q652 := eq_true q652
                go_wp2_with (first | ((with_reducible refine gate_callee (f := 132) rfl ?_); refine goesL_ (some 78) rfl rfl Tryd.func132 (by kernel_rfl) rfl #[.string ((rd_T139 l0_4 x6_3).f1)] rfl ar ?_; (with_reducible refine (vellumref03_Name.calls k3 ((rd_T139 l0_4 x6_3).f1) false _ A40.out).mono ?_); rintro e w53 ⟨rfl, hb⟩; refine ⟨_, rfl, ?_⟩; replace BK645 := kb BK645 hb; replace HB := sb HB hb; (try clear hb); (try clear hb2 hk hi)))
                go_ret
                exact ⟨er, bl HB⟩
              ·rw [if_neg c39] at H
               exact absurd H (by simp)
             ·rw [if_neg c38] at H
              have c38b0 : decide (x6_3 < (l0_4.length : Int)) = false := decide_eq_false c38
              clear c38
              obtain rfl := Option.some.inj H
              obtain ⟨Z54_0, Z54_1, Z54_2, Z54_3, Z54_4, Y54_0, Y54_1, Y54_2, Y54_3, Y54_4⟩ := bq5 BK645
              go_wp2
              go_ret
              exact ⟨er, bl HB⟩
          ·rw [if_neg c35] at H
           have c35b0 : (t651 == 0) = false := beq_eq_false_iff_ne.mpr c35
           have c35b1 : (t651 != 0) = true := bne_iff_ne.mpr c35
           obtain rfl := Option.some.inj H
           obtain ⟨Z55_0, Z55_1, Z55_2, Z55_3, Z55_4, Y55_0, Y55_1, Y55_2, Y55_3, Y55_4⟩ := bq5 BK645
           go_wp2_with (first | ((with_reducible refine gate_callee (f := 135) rfl ?_); refine goesL_ (some 61) rfl rfl Tryd.func135 (by kernel_rfl) rfl #[.agg #[.string a0_0, .slice A0_1 l0_1.length c0_1, .slice A0_2 l0_2.length c0_2, .slice A0_3 l0_3.length c0_3, .slice A0_4 l0_4.length c0_4]] rfl ar ?_; (with_reducible refine (vellumref03_indexes.calls k2 a0_0 _ _ l0_1 _ _ l0_2 _ _ l0_3 _ _ l0_4 t651 _ (Kd.cb HR0_1 HB) HC0_1.out (Kd.cb HR0_2 HB) HC0_2.out (Kd.cb HR0_3 HB) HC0_3.out (Kd.cb HR0_4 HB) HC0_4.out A34.out).mono ?_); rintro e w56 ⟨rfl, hb⟩; refine ⟨_, rfl, ?_⟩; replace BK645 := kb BK645 hb; replace HB := sb HB hb; (try clear hb); (try clear hb2 hk hi)))
           go_ret
           exact ⟨er, bl HB⟩
      ·replace c19 := Bool.eq_false_iff.mpr c19
       subst c19
       have H1 : (some 33) = some r := by rw [if_neg (show ¬ (false = true) by decide)] at H; exact H
       clear H
       have H := H1
       clear H1
       obtain rfl := Option.some.inj H
       obtain ⟨Z57_0, Z57_1, Z57_2, Z57_3, Z57_4, Y57_0, Y57_1, Y57_2, Y57_3, Y57_4⟩ := bq5 BK645
       go_wp2_with (first | ((with_reducible refine gate_callee (f := 133) rfl ?_); refine goesL_ (some 34) rfl rfl Tryd.func133 (by kernel_rfl) rfl #[.agg #[.string a0_0, .slice A0_1 l0_1.length c0_1, .slice A0_2 l0_2.length c0_2, .slice A0_3 l0_3.length c0_3, .slice A0_4 l0_4.length c0_4]] rfl ar ?_; (with_reducible refine (vellumref03_columns.calls kj3 a0_0 _ _ l0_1 _ _ l0_2 _ _ l0_3 _ _ l0_4 t647 _ (Kd.cb HR0_1 HB) HC0_1.out (Kd.cb HR0_2 HB) HC0_2.out (Kd.cb HR0_3 HB) HC0_3.out (Kd.cb HR0_4 HB) HC0_4.out (Glob.below HG.out (bl HB)) A16.out).mono ?_); rintro e w58 ⟨rfl, hb⟩; refine ⟨_, rfl, ?_⟩; replace BK645 := kb BK645 hb; replace HB := sb HB hb; (try clear hb); (try clear hb2 hk hi); obtain ⟨Z59_0, Z59_1, Z59_2, Z59_3, Z59_4, Y59_0, Y59_1, Y59_2, Y59_3, Y59_4⟩ := bq5 BK645) | ((with_reducible refine gate_callee (f := 134) rfl ?_); refine goesL_ (some 41) rfl rfl Tryd.func134 (by kernel_rfl) rfl #[.agg #[.string a0_0, .slice A0_1 l0_1.length c0_1, .slice A0_2 l0_2.length c0_2, .slice A0_3 l0_3.length c0_3, .slice A0_4 l0_4.length c0_4], .slice A0_2 l0_2.length c0_2] rfl ar ?_; (with_reducible refine (vellumref03_some.calls kj3 a0_0 _ _ l0_1 _ _ l0_2 _ _ l0_3 _ _ l0_4 _ _ l0_2 false _ (Kd.cb HR0_1 HB) HC0_1.out (Kd.cb HR0_2 HB) HC0_2.out (Kd.cb HR0_3 HB) HC0_3.out (Kd.cb HR0_4 HB) HC0_4.out (Kd.cb HR0_2 HB) HC0_2.out A18.out).mono ?_); rintro e w60 ⟨rfl, hb⟩; refine ⟨_, rfl, ?_⟩; replace BK645 := kb BK645 hb; replace HB := sb HB hb; (try clear hb); (try clear hb2 hk hi)))
       go_ret
       exact ⟨er, bl HB⟩
     ·rw [if_neg c17] at H
      have c17b0 : (t647 == 0) = false := beq_eq_false_iff_ne.mpr c17
      have c17b1 : (t647 != 0) = true := bne_iff_ne.mpr c17
      obtain rfl := Option.some.inj H
      obtain ⟨Z61_0, Z61_1, Z61_2, Z61_3, Z61_4, Y61_0, Y61_1, Y61_2, Y61_3, Y61_4⟩ := bq5 BK645
      go_wp2_with (first | ((with_reducible refine gate_callee (f := 133) rfl ?_); refine goesL_ (some 34) rfl rfl Tryd.func133 (by kernel_rfl) rfl #[.agg #[.string a0_0, .slice A0_1 l0_1.length c0_1, .slice A0_2 l0_2.length c0_2, .slice A0_3 l0_3.length c0_3, .slice A0_4 l0_4.length c0_4]] rfl ar ?_; (with_reducible refine (vellumref03_columns.calls kj3 a0_0 _ _ l0_1 _ _ l0_2 _ _ l0_3 _ _ l0_4 t647 _ (Kd.cb HR0_1 HB) HC0_1.out (Kd.cb HR0_2 HB) HC0_2.out (Kd.cb HR0_3 HB) HC0_3.out (Kd.cb HR0_4 HB) HC0_4.out (Glob.below HG.out (bl HB)) A16.out).mono ?_); rintro e w62 ⟨rfl, hb⟩; refine ⟨_, rfl, ?_⟩; replace BK645 := kb BK645 hb; replace HB := sb HB hb; (try clear hb); (try clear hb2 hk hi)))
      go_ret
      exact ⟨er, bl HB⟩
 ·replace c3 := Bool.eq_false_iff.mpr c3
  subst c3
  have H1 : (some 30) = some r := by rw [if_neg (show ¬ (false = true) by decide)] at H; exact H
  clear H
  have H := H1
  clear H1
  obtain rfl := Option.some.inj H
  go_enter Tryd.func93, Tryd.ntmps93
  go_wp2_with (first | ((with_reducible refine gate_dst (N := 1) rfl ?_); (try (refine gate_guard (by rfl) ?_; dsimp only)); refine box_event rfl (N := 1) rfl (cs := #[.string a0_0, .slice A0_1 l0_1.length c0_1, .slice A0_2 l0_2.length c0_2, .slice A0_3 l0_3.length c0_3, .slice A0_4 l0_4.length c0_4]) (t := 65) gs ?_; intro gb645 hg w63 hbox hb; have BK645 := am (hbox); have GW645 := gw hg HB; have GE645 := gw hg HB; replace HB := sb HB hb; clear hb hbox hg; obtain ⟨Z64_0, Z64_1, Z64_2, Z64_3, Z64_4, Y64_0, Y64_1, Y64_2, Y64_3, Y64_4⟩ := bq5 BK645) | ((with_reducible refine gate_callee (f := 132) rfl ?_); refine goesL_ (some 9) rfl rfl Tryd.func132 (by kernel_rfl) rfl #[.string a0_0] rfl ar ?_; (with_reducible refine (vellumref03_Name.calls k a0_0 false _ A2.out).mono ?_); rintro e w65 ⟨rfl, hb⟩; refine ⟨_, rfl, ?_⟩; replace BK645 := kb BK645 hb; replace HB := sb HB hb; (try clear hb); (try clear hb2 hk hi)))
  go_ret
  exact ⟨er, bl HB⟩
end Go.Proofs.YtpiifdbicibelaaDoor.PA
end
section
namespace Go.Proofs.YtpiifdbicibelaaDoor.Pure
open Go.RowKit Go.Proofs Go.Proofs.YtpiifdbicibelaaDoorW.PrintWords Go.Proofs.YtpiifdbicibelaaDoorW.PrintLast Go.Proofs.YtpiifdbicibelaaDoorW.PrintMore Go.Proofs.YtpiifdbicibelaaDoor.PA Go.Proofs.YtpiifdbicibelaaDoor.OpenK
set_option linter.unusedVariables false
set_option linter.unusedSimpArgs false
theorem contains_cons (b : UInt8) (l p : List UInt8) : Lib.contains (b :: l) p = (p.isPrefixOf (b :: l) || Lib.contains l p) := by
 unfold Lib.contains
 rw [Lib.index]
 cases h : p.isPrefixOf (b :: l)
 ·have hg := Lib.index_ge l p
  by_cases h1 : Lib.index l p = -1
  ·simp [h1]
  ·have h2 : (Lib.index l p == -1) = false := by simpa using h1
   simp [h2]
   omega
 ·simp
theorem contains_nil (a : UInt8) (p : List UInt8) : Lib.contains [] (a :: p) = false := by
 unfold Lib.contains; simp [Lib.index]
theorem contains_skip (p : List UInt8) : ∀ (w t : List UInt8), 32 ∉ w → Lib.contains (w ++ t) (32 :: p) = Lib.contains t (32 :: p)
 | [], t, _ => rfl
 | b :: w, t, h => by
  have hb : (32 == b) = false := by
   rw [beq_eq_false_iff_ne]; intro e; exact h (by rw [e]; simp)
  rw [List.cons_append, contains_cons, contains_skip p w t (fun g => h (by simp [g]))]
  simp [List.isPrefixOf, hb]
theorem prefix_word : ∀ (x w t : List UInt8), 32 ∉ x → 32 ∉ w → (x ++ [32]).isPrefixOf (w ++ 32 :: t) = decide (x = w)
 | [], [], t, _, _ => by simp [List.isPrefixOf]
 | [], b :: w, t, _, h => by
  have hb : (32 == b) = false := by
   rw [beq_eq_false_iff_ne]; intro e; exact h (by rw [e]; simp)
  simp [List.isPrefixOf, hb]
 | a :: x, [], t, h, _ => by
  have hb : (a == 32) = false := by
   rw [beq_eq_false_iff_ne]; intro e; exact h (by rw [e]; simp)
  simp [List.isPrefixOf, hb]
 | a :: x, b :: w, t, h, g => by
  have ih := prefix_word x w t (fun e => h (by simp [e])) (fun e => g (by simp [e]))
  show (a == b && (x ++ [32]).isPrefixOf (w ++ 32 :: t)) = _
  rw [ih]
  by_cases e : a = b <;> simp [e]
def joined (ws : List (List UInt8)) : List UInt8 := ws.flatMap (fun w => 32 :: w) ++ [32]
theorem joined_head (ws : List (List UInt8)) : ∃ t, joined ws = 32 :: t := by
 cases ws with
 | nil => exact ⟨[], rfl⟩
 | cons w ws => exact ⟨w ++ (ws.flatMap (fun w => 32 :: w) ++ [32]), by simp [joined]⟩
theorem joined_contains (x : List UInt8) (hx : 32 ∉ x) : ∀ ws : List (List UInt8), (∀ w ∈ ws, 32 ∉ w) → Lib.contains (joined ws) (32 :: x ++ [32]) = decide (x ∈ ws)
 | [], _ => by
  show Lib.contains [32] (32 :: (x ++ [32])) = _
  rw [contains_cons, contains_nil]
  cases x <;> simp [List.isPrefixOf]
 | w :: ws, h => by
  have ih := joined_contains x hx ws (fun v hv => h v (by simp [hv]))
  have e : joined (w :: ws) = 32 :: (w ++ joined ws) := by simp [joined]
  obtain ⟨t, ht⟩ := joined_head ws
  rw [e, List.cons_append, contains_cons, contains_skip _ w _ (h w (by simp))]
  have ih' : Lib.contains (joined ws) (32 :: (x ++ [32])) = decide (x ∈ ws) := ih
  rw [ih', ht]
  have hp := prefix_word x w t hx (h w (by simp))
  show ((32 == (32 : UInt8)) && (x ++ [32]).isPrefixOf (w ++ 32 :: t) || decide (x ∈ ws)) = _
  rw [hp]
  by_cases e1 : x = w <;> by_cases e2 : x ∈ ws <;> simp [e1, e2]
def refWords : List ByteArray := (vellumref03_words.f).getD []
theorem refWords_f : vellumref03_words.f = some refWords := rfl
theorem words_eq : schemaWords.data.toList = joined (refWords.map (fun w => w.data.toList)) := by decide +kernel
theorem words_32 : ∀ w ∈ refWords.map (fun w : ByteArray => w.data.toList), (32 : UInt8) ∉ w := by decide +kernel
theorem wordB_eq {l : List UInt8} (h : l.all (fun b => smallB b || digitB b) = true) : wordB l = decide (l ∈ refWords.map (fun w => w.data.toList)) := by
 unfold wordB
 rw [words_eq]
 refine joined_contains l (fun hm => ?_) _ words_32
 have := List.all_eq_true.1 h 32 hm
 revert this; decide
theorem ref_small_f (b : UInt8) : vellumref03_small.f (b.toNat : Int) = some (smallB b) := by
 have h95 : ((b.toNat : Int) == 95) = (b == 95) := by
  rw [Bool.eq_iff_iff, beq_iff_eq, beq_iff_eq, ← UInt8.toNat_inj]
  show _ ↔ b.toNat = 95
  omega
 unfold vellumref03_small.f smallB
 rw [h95]
 by_cases h1 : 97 ≤ b.toNat <;> by_cases h2 : b.toNat ≤ 122
 ·rw [if_pos (by omega), if_pos (by omega)]; simp [h1, h2]
 ·rw [if_pos (by omega), if_neg (by omega)]; simp [h1, h2]
 ·rw [if_neg (by omega)]; simp [h1, h2]
 ·omega
theorem ref_digit_f (b : UInt8) : vellumref03_digit.f (b.toNat : Int) = some (digitB b) := digit_f b
theorem rdOf_get (l : List ByteArray) (i : Nat) (h : i < l.length) : rdOf ByteArray.empty l (i : Int) = l[i] := by
 unfold rdOf; simp [List.getD, List.getElem?_eq_getElem h]
theorem in_ev (ws : List ByteArray) (x : ByteArray) (hl : ws.length < 9223372036854775807) : Ev (fun k => vellumref03_in.f k ws x) (decide (x.data.toList ∈ ws.map (fun w => w.data.toList))) := by
 have go : ∀ (m i : Nat), i + m = ws.length → Ev (fun k => vellumref03_in.l0 k ws x (i : Int)) (decide (x.data.toList ∈ (ws.drop i).map (fun w => w.data.toList))) := by
  intro m
  induction m with
  | zero =>
   intro i hi
   rw [List.drop_of_length_le (by omega)]
   refine Ev.from_ 1 fun k => ?_
   simp only [vellumref03_in.l0]
   rw [if_neg (by omega)]; rfl
  | succ m ih =>
   intro i hi
   have hlt : i < ws.length := by omega
   rw [List.drop_eq_getElem_cons hlt]
   refine Ev.step (g := fun k => if (ws[i]).toList = x.toList then some true else vellumref03_in.l0 k ws x ((i + 1 : Nat) : Int)) (fun k => ?_) ?_
   ·simp only [vellumref03_in.l0]
    rw [if_pos (by omega), if_pos (by omega), rdOf_get ws i hlt, wrap64_id (by omega) (by omega)]
    rfl
   ·rw [Lib.toList_data, Lib.toList_data]
    by_cases h : ws[i].data.toList = x.data.toList
    ·refine Ev.pos h ?_
     rw [decide_eq_true (by rw [List.map_cons]; exact List.mem_cons.2 (.inl h.symm))]
     exact Ev.pure
    ·refine Ev.neg h ?_
     have := ih (i + 1) (by omega)
     have e : decide (x.data.toList ∈ (ws[i] :: ws.drop (i + 1)).map (fun w => w.data.toList)) = decide (x.data.toList ∈ (ws.drop (i + 1)).map (fun w => w.data.toList)) := by
      rw [decide_eq_decide, List.map_cons, List.mem_cons]
      exact ⟨fun g => g.resolve_left (fun e => h e.symm), .inr⟩
     rw [e]; exact this
 have := go ws.length 0 (by omega)
 simpa [vellumref03_in.f] using this
theorem ref_name_l0 (s : ByteArray) (hs : s.size ≤ 140737488351232) : ∀ (m i : Nat), i + m = s.size → Ev (fun k => vellumref03_Name.l0 k s (i : Int)) ((s.data.toList.drop i).all (fun b => smallB b || digitB b)) := by
 intro m
 induction m with
 | zero =>
  intro i hi
  rw [List.drop_of_length_le (by rw [data_len]; omega)]
  refine Ev.from_ 1 fun k => ?_
  simp only [vellumref03_Name.l0]
  rw [if_neg (by omega)]; rfl
 | succ m ih =>
  intro i hi
  have hlt : i < s.data.toList.length := by rw [data_len]; omega
  have hb := bt_get s i hlt
  rw [List.drop_eq_getElem_cons hlt]
  generalize s.data.toList[i]'hlt = b at hb
  refine Ev.step (g := fun k => (vellumref03_small.f (bt s (i : Int))).bind fun t103 => if t103 = true then vellumref03_Name.l0 k s ((i + 1 : Nat) : Int) else (vellumref03_digit.f (bt s (i : Int))).bind fun t104 => if t104 = true then vellumref03_Name.l0 k s ((i + 1 : Nat) : Int) else some false) (fun k => ?_) ?_
  ·simp only [vellumref03_Name.l0]
   rw [if_pos (by omega), if_pos (by omega), wrap64_id (by omega) (by omega)]
   rfl
  ·rw [hb]
   refine Ev.bind (Ev.const (ref_small_f b)) ?_
   have ih' := ih (i + 1) (by omega)
   cases h1 : smallB b
   ·refine Ev.neg (by decide) (Ev.bind (Ev.const (ref_digit_f b)) ?_)
    cases h2 : digitB b
    ·refine Ev.neg (by decide) ?_
     simp [h1, h2]; exact Ev.pure
    ·refine Ev.pos rfl ?_
     simpa [h1, h2] using ih'
   ·refine Ev.pos rfl ?_
    simpa [h1] using ih'
theorem name_ref (s : ByteArray) (hs : s.size ≤ 140737488351232) : Ev (fun k => vellumref03_Name.f k s) (nameOk s) := by
 have hj : ∀ b : Bool, Ev (fun k => vellumref03_Name.j0 k s b) (!b && s.data.toList.all (fun b => smallB b || digitB b)) := by
  intro b
  cases b
  ·refine Ev.step (g := fun k => vellumref03_Name.l0 k s ((0 : Nat) : Int)) (fun k => ?_) ?_
   ·simp only [vellumref03_Name.j0]; rw [if_neg (by decide)]; rfl
   ·simpa using ref_name_l0 s hs s.size 0 (by omega)
  ·refine Ev.from_ 1 fun k => ?_
   simp [vellumref03_Name.j0]
 simp only [vellumref03_Name.f]
 have hl := data_len s
 unfold nameOk
 generalize hL : s.data.toList = L at *
 cases L with
 | nil =>
  refine Ev.pos (by simp at hl; omega) ?_
  have := hj true
  simpa using this
 | cons b l =>
  have hb : bt s 0 = (b.toNat : Int) := by
   have := bt_get s 0 (by rw [hL]; simp)
   simpa [hL] using this
  simp at hl
  refine Ev.neg (by omega) ?_
  by_cases h1 : (s.size : Int) > 63
  ·refine Ev.pos h1 ?_
   have e : decide ((b :: l).length ≤ 63) = false := decide_eq_false (by simp; omega)
   rw [e]
   simpa using hj true
  ·refine Ev.neg h1 (Ev.pos (by omega) ?_)
   have e : decide ((b :: l).length ≤ 63) = true := decide_eq_true (by simp; omega)
   rw [e, hb]
   refine Ev.bind (Ev.const (ref_small_f b)) ?_
   cases h2 : smallB b
   ·refine Ev.neg (by decide) ?_
    simpa [h2] using hj true
   ·refine Ev.pos rfl (Ev.bind (Ev.const refWords_f) (Ev.bind (in_ev refWords s (by decide +kernel)) ?_))
    have := hj (decide (s.data.toList ∈ refWords.map (fun w => w.data.toList)))
    have e3 : (!decide ((b :: l) ∈ refWords.map (fun w => w.data.toList)) && (b :: l).all (fun b => smallB b || digitB b)) = (!wordB (b :: l) && (b :: l).all (fun b => smallB b || digitB b)) := by
     cases ha : (b :: l).all (fun b => smallB b || digitB b)
     ·simp
     ·rw [wordB_eq ha]
    rw [hL, e3] at this
    simpa [h2, hL] using this
end Go.Proofs.YtpiifdbicibelaaDoor.Pure
end
section
namespace Go.Proofs.YtpiifdbicibelaaDoor.Pure
open Go.RowKit Go.Proofs Go.Proofs.YtpiifdbicibelaaDoorW.PrintWords Go.Proofs.YtpiifdbicibelaaDoorW.PrintLast Go.Proofs.YtpiifdbicibelaaDoorW.PrintMore Go.Proofs.YtpiifdbicibelaaDoor.PA Go.Proofs.YtpiifdbicibelaaDoor.OpenK
set_option linter.unusedVariables false
def chkV (x : S50) : Int := chk x.f0 x.f1 x.f2 x.f3
theorem rd_get (l : List S50) (i : Nat) (x : S50) (h : l[i]? = some x) : rd_T50 l (i : Int) = x := by
 unfold rd_T50
 simp [List.getD, h]
theorem chk_ok {a b : Int} {c : Nat} {d : ByteArray} (h : chk a b c d = 0) : (0 ≤ a ∧ a ≤ 5) ∧ d.size ≤ 65536 := by
 unfold chk at h
 split at h
 ·cases h
 ·rename_i h1
  split at h
  ·cases h
  ·rename_i h2
   have : ¬ a < 0 := fun x => h1 (Or.inl x)
   have : ¬ 5 < a := fun x => h1 (Or.inr (Or.inl x))
   constructor
   ·omega
   ·omega
end Go.Proofs.YtpiifdbicibelaaDoor.Pure
end
section
namespace Go.Proofs.YtpiifdbicibelaaDoor.PA
open Go.RowKit Go.Proofs.YtpiifdbicibelaaDoorW.PrintWords Go.Proofs.YtpiifdbicibelaaDoorW.PrintLast Go.Proofs.YtpiifdbicibelaaDoorW.PrintMore
attribute [local go_sem] max2_int min2_int max_two min_two max_three min_three max_four min_four
set_option linter.unusedVariables false
set_option linter.unusedSimpArgs false
def vellumref03_Admits.l0 : Nat → List (S50) → Int → ByteArray → List (S105) → List Int → List (S115) → List (S139) → Option (Int)
 | 0, _, _, _, _, _, _, _ => none
 | k + 1, x1, x6, x657000, x657001, x657002, x657003, x657004 => if x6 < (x1.length : Int) then (if 0 ≤ x6 then ((vellumref01_Check.f k ((rd_T50 x1 x6).f0) ((rd_T50 x1 x6).f1) ((rd_T50 x1 x6).f2) ((rd_T50 x1 x6).f3)).bind fun t659 => (if t659 = 0 then (if ((rd_T50 x1 x6).f0) = 0 then (if x6 < (x657001.length : Int) then (if ((rd_T105 x657001 x6).f2 = true) then (vellumref03_Admits.l0 k x1 (wrap64 (x6 + 1)) x657000 x657001 x657002 x657003 x657004) else (some 35)) else (none)) else (if x6 < (x657001.length : Int) then (if ((rd_T50 x1 x6).f0) = ((rd_T105 x657001 x6).f1) then (vellumref03_Admits.l0 k x1 (wrap64 (x6 + 1)) x657000 x657001 x657002 x657003 x657004) else (some 32)) else (none))) else (some t659))) else (none)) else (some 0)
def vellumref03_Admits.f (k : Nat) (a0_0 : ByteArray) (l0_1 : List (S105)) (l0_2 : List Int) (l0_3 : List (S115)) (l0_4 : List (S139)) (l1 : List (S50)) : Option (Int) := (vellumref03_Check.f k a0_0 l0_1 l0_2 l0_3 l0_4).bind fun t657 => (if t657 = 0 then (if (l1.length : Int) = (l0_1.length : Int) then (vellumref03_Admits.l0 k l1 0 a0_0 l0_1 l0_2 l0_3 l0_4) else (some 1)) else (some t657))
set_option maxHeartbeats 8000000 in
set_option maxRecDepth 100000 in
theorem vellumref03_Admits.calls (k : Nat) (a0_0 : ByteArray) (A0_1 : Option Addr) (c0_1 : Nat) (l0_1 : List (S105)) (A0_2 : Option Addr) (c0_2 : Nat) (l0_2 : List Int) (A0_3 : Option Addr) (c0_3 : Nat) (l0_3 : List (S115)) (A0_4 : Option Addr) (c0_4 : Nat) (l0_4 : List (S139)) (A1 : Option Addr) (c1 : Nat) (l1 : List (S50)) (r : Int) (w : World) (hr0_1 : Kd.C k105 w A0_1 l0_1.length l0_1) (hc0_1 : l0_1.length ≤ c0_1) (hr0_2 : Kd.C (Kd.int .i64) w A0_2 l0_2.length l0_2) (hc0_2 : l0_2.length ≤ c0_2) (hr0_3 : Kd.C k115 w A0_3 l0_3.length l0_3) (hc0_3 : l0_3.length ≤ c0_3) (hr0_4 : Kd.C k139 w A0_4 l0_4.length l0_4) (hc0_4 : l0_4.length ≤ c0_4) (hr1 : Kd.C k50 w A1 l1.length l1) (hc1 : l1.length ≤ c1) (hG : Glob w) (h : vellumref03_Admits.f k a0_0 l0_1 l0_2 l0_3 l0_4 l1 = some r) :
  Calls Tryd.prog 85 #[.agg #[.string a0_0, .slice A0_1 l0_1.length c0_1, .slice A0_2 l0_2.length c0_2, .slice A0_3 l0_3.length c0_3, .slice A0_4 l0_4.length c0_4], .slice A1 l1.length c1] w fun e w' => e = .returned (.int .i64 r) ∧ Below w.heap.size w w' := by
 have hu65 := Tryd.underlying65
 have hu50 := Tryd.underlying50
 have HR0_1 := am hr0_1
 have HC0_1 := am hc0_1
 clear hr0_1 hc0_1
 have HR0_2 := am hr0_2
 have HC0_2 := am hc0_2
 clear hr0_2 hc0_2
 have HR0_3 := am hr0_3
 have HC0_3 := am hc0_3
 clear hr0_3 hc0_3
 have HR0_4 := am hr0_4
 have HC0_4 := am hc0_4
 clear hr0_4 hc0_4
 have HR1 := am hr1
 have HC1 := am hc1
 clear hr1 hc1
 have HG := am hG
 clear hG
 have HB := am (Below.refl w.heap.size w)
 have H : ((vellumref03_Check.f k a0_0 l0_1 l0_2 l0_3 l0_4).bind fun t657 => (if t657 = 0 then (if (l1.length : Int) = (l0_1.length : Int) then (vellumref03_Admits.l0 k l1 0 a0_0 l0_1 l0_2 l0_3 l0_4) else (some 1)) else (some t657))) = some r := h
 clear h
 replace H := Option.bind_eq_some_iff.mp H
 obtain ⟨t657, A30, H⟩ := H
 replace H : (if t657 = 0 then (if (l1.length : Int) = (l0_1.length : Int) then (vellumref03_Admits.l0 k l1 0 a0_0 l0_1 l0_2 l0_3 l0_4) else (some 1)) else (some t657)) = some r := H
 have A3 := am A30
 clear A30
 by_cases c4 : t657 = 0
 ·rw [if_pos c4] at H
  have c4b0 : (t657 == 0) = true := beq_iff_eq.mpr c4
  have c4b1 : (t657 != 0) = false := bne_eq_false_iff_eq.mpr c4
  clear c4
  by_cases c5 : (l1.length : Int) = (l0_1.length : Int)
  ·rw [if_pos c5] at H
   have c5b0 : ((l1.length : Int) == (l0_1.length : Int)) = true := beq_iff_eq.mpr c5
   have c5b1 : ((l1.length : Int) != (l0_1.length : Int)) = false := bne_eq_false_iff_eq.mpr c5
   have c5b2 : (l1.length == l0_1.length) = true := by first | simpa using c5 | (simp at c5 ⊢; omega)
   clear c5
   have H' := am H
   clear H
   go_enter Tryd.func85, Tryd.ntmps85
   go_wp2_with (first | ((with_reducible refine gate_dst (N := 2) rfl ?_); refine box_event rfl (N := 2) rfl (cs := #[.string a0_0, .slice A0_1 l0_1.length c0_1, .slice A0_2 l0_2.length c0_2, .slice A0_3 l0_3.length c0_3, .slice A0_4 l0_4.length c0_4]) (t := 65) gs ?_; intro gb656 hg w6 hbox hb; have BK656 := am (hbox); have GW656 := gw hg HB; have GE656 := gw hg HB; replace HB := sb HB hb; clear hb hbox hg; obtain ⟨Z7_0, Z7_1, Z7_2, Z7_3, Z7_4, Y7_0, Y7_1, Y7_2, Y7_3, Y7_4⟩ := bq5 BK656) | (go_at_call 93; (with_reducible refine (vellumref03_Check.calls k a0_0 _ _ l0_1 _ _ l0_2 _ _ l0_3 _ _ l0_4 t657 _ (Kd.cb HR0_1 HB) HC0_1.out (Kd.cb HR0_2 HB) HC0_2.out (Kd.cb HR0_3 HB) HC0_3.out (Kd.cb HR0_4 HB) HC0_4.out (Glob.below HG.out (bl HB)) A3.out).mono ?_); rintro e w8 ⟨rfl, hb⟩; replace BK656 := kb BK656 hb; replace HB := sb HB hb; (try clear hb); (try clear hb2 hk hi); obtain ⟨Z9_0, Z9_1, Z9_2, Z9_3, Z9_4, Y9_0, Y9_1, Y9_2, Y9_3, Y9_4⟩ := bq5 BK656))
   repeat (go_quiet (fail); try go_wp2_with (first | ((with_reducible refine gate_dst (N := 2) rfl ?_); refine box_event rfl (N := 2) rfl (cs := #[.string a0_0, .slice A0_1 l0_1.length c0_1, .slice A0_2 l0_2.length c0_2, .slice A0_3 l0_3.length c0_3, .slice A0_4 l0_4.length c0_4]) (t := 65) gs ?_; intro gb656 hg w6 hbox hb; have BK656 := am (hbox); have GW656 := gw hg HB; have GE656 := gw hg HB; replace HB := sb HB hb; clear hb hbox hg; obtain ⟨Z7_0, Z7_1, Z7_2, Z7_3, Z7_4, Y7_0, Y7_1, Y7_2, Y7_3, Y7_4⟩ := bq5 BK656) | (go_at_call 93; (with_reducible refine (vellumref03_Check.calls k a0_0 _ _ l0_1 _ _ l0_2 _ _ l0_3 _ _ l0_4 t657 _ (Kd.cb HR0_1 HB) HC0_1.out (Kd.cb HR0_2 HB) HC0_2.out (Kd.cb HR0_3 HB) HC0_3.out (Kd.cb HR0_4 HB) HC0_4.out (Glob.below HG.out (bl HB)) A3.out).mono ?_); rintro e w8 ⟨rfl, hb⟩; replace BK656 := kb BK656 hb; replace HB := sb HB hb; (try clear hb); (try clear hb2 hk hi); obtain ⟨Z9_0, Z9_1, Z9_2, Z9_3, Z9_4, Y9_0, Y9_1, Y9_2, Y9_3, Y9_4⟩ := bq5 BK656)))
   go_loopg [6] k (fun kq v6 w' => ∃ (x6_1 : Int), v6 = .int .i64 x6_1 ∧ Aside0 (vellumref03_Admits.l0 kq l1 x6_1 a0_0 l0_1 l0_2 l0_3 l0_4 = some r) ∧ Aside0 (kq ≤ k) ∧ Aside0 (w'.heap[gb656]? = some (.cells #[.string a0_0, (.slice A0_1 l0_1.length c0_1), (.slice A0_2 l0_2.length c0_2), (.slice A0_3 l0_3.length c0_3), (.slice A0_4 l0_4.length c0_4)] 65 (0, 0))) ∧ Aside0 (Below w.heap.size w w'))
   case atStart => exact ⟨(0), eb, H', ⟨Nat.le_refl _⟩, ⟨bk BK656⟩, ⟨bl HB⟩⟩
   case round =>
    clear H'
    (try clear c1); (try clear p2); (try clear c4); (try clear c4b0 c4b1); (try clear c5); (try clear c5b0 c5b1); (try clear c5b2); (try clear c8); (try clear Z7_0 Z7_1 Z7_2 Z7_3 Z7_4); (try clear Z9_0 Z9_1 Z9_2 Z9_3 Z9_4); (try clear Y7_0 Y7_1 Y7_2 Y7_3 Y7_4); (try clear Y9_0 Y9_1 Y9_2 Y9_3 Y9_4)
    obtain ⟨x6_1, rfl, HA, HK1, BK656, HB⟩ := hrel
    cases gk with
    | zero => exact absurd HA.out (by simp [vellumref03_Admits.l0])
    | succ k1 =>
     have H := HA.out
     clear HA
     simp only [vellumref03_Admits.l0] at H
     by_cases c10 : x6_1 < (l1.length : Int)
     ·rw [if_pos c10] at H
      have c10b0 : decide (x6_1 < (l1.length : Int)) = true := decide_eq_true c10
      clear c10
      by_cases c11 : 0 ≤ x6_1
      ·rw [if_pos c11] at H
       have c11b0 : decide (0 ≤ x6_1) = true := decide_eq_true c11
       clear c11
       replace H := Option.bind_eq_some_iff.mp H
       obtain ⟨t659, A120, H⟩ := H
       replace H : (if t659 = 0 then (if ((rd_T50 l1 x6_1).f0) = 0 then (if x6_1 < (l0_1.length : Int) then (if ((rd_T105 l0_1 x6_1).f2 = true) then (vellumref03_Admits.l0 k1 l1 (wrap64 (x6_1 + 1)) a0_0 l0_1 l0_2 l0_3 l0_4) else (some 35)) else (none)) else (if x6_1 < (l0_1.length : Int) then (if ((rd_T50 l1 x6_1).f0) = ((rd_T105 l0_1 x6_1).f1) then (vellumref03_Admits.l0 k1 l1 (wrap64 (x6_1 + 1)) a0_0 l0_1 l0_2 l0_3 l0_4) else (some 32)) else (none))) else (some t659)) = some r := H
       have A12 := am A120
       clear A120
       by_cases c13 : t659 = 0
       ·rw [if_pos c13] at H
        have c13b0 : (t659 == 0) = true := beq_iff_eq.mpr c13
        have c13b1 : (t659 != 0) = false := bne_eq_false_iff_eq.mpr c13
        clear c13
        by_cases c14 : ((rd_T50 l1 x6_1).f0) = 0
        ·rw [if_pos c14] at H
         have c14b0 : (((rd_T50 l1 x6_1).f0) == 0) = true := beq_iff_eq.mpr c14
         have c14b1 : (((rd_T50 l1 x6_1).f0) != 0) = false := bne_eq_false_iff_eq.mpr c14
         clear c14
         by_cases c15 : x6_1 < (l0_1.length : Int)
         ·rw [if_pos c15] at H
          have c15b0 : decide (x6_1 < (l0_1.length : Int)) = true := decide_eq_true c15
          clear c15
          obtain ⟨bq16, hbq16⟩ : ∃ b_ : Bool, b_ = ((rd_T105 l0_1 x6_1).f2) := ⟨_, rfl⟩
          replace H : (if (bq16 = true) then (vellumref03_Admits.l0 k1 l1 (wrap64 (x6_1 + 1)) a0_0 l0_1 l0_2 l0_3 l0_4) else (some 35)) = some r := by rw [← hbq16] at H; exact H
          have Nbq16 := am hbq16
          clear hbq16
          by_cases c17 : (bq16 = true)
          ·subst c17
           have H1 : (vellumref03_Admits.l0 k1 l1 (wrap64 (x6_1 + 1)) a0_0 l0_1 l0_2 l0_3 l0_4) = some r := by rw [if_pos rfl] at H; exact H
           clear H
           have H := H1
           clear H1
           have H' := am H
           clear H
           have p658 : 0 ≤ (x6_1 : Int) := oda
           have q658 : x6_1 < (l1.length : Int) := oda
           obtain ⟨ad658, e658, hx658_0, hx658_1, hx658_2, hx658_3⟩ := at_T50 HR1.out x6_1 p658 q658
           cases e658
           replace hx658_0 := hc HB hx658_0
           replace hx658_1 := hc HB hx658_1
           replace hx658_2 := hc HB hx658_2
           replace hx658_3 := hc HB hx658_3
           replace p658 := eq_true p658
           replace q658 := eq_true q658
           go_wp2_with (first | (go_at_call 69; (with_reducible refine (vellumref01_Check.calls k1 ((rd_T50 l1 x6_1).f0) ((rd_T50 l1 x6_1).f1) ((rd_T50 l1 x6_1).f2) ((rd_T50 l1 x6_1).f3) t659 _ (Glob.below HG.out (bl HB)) A12.out).mono ?_); rintro e w18 ⟨rfl, hb⟩; replace BK656 := kb BK656 hb; replace HB := sb HB hb; (try clear hb); (try clear hb2 hk hi); have p660 : 0 ≤ (x6_1 : Int) := oda; have q660 : x6_1 < (l1.length : Int) := oda; obtain ⟨ad660, e660, hx660_0, hx660_1, hx660_2, hx660_3⟩ := at_T50 HR1.out x6_1 p660 q660; obtain rfl : ad658 = ad660 := (by injection e660); replace hx660_0 := hc HB hx660_0; replace hx660_1 := hc HB hx660_1; replace hx660_2 := hc HB hx660_2; replace hx660_3 := hc HB hx660_3; replace p660 := eq_true p660; replace q660 := eq_true q660; obtain ⟨Z19_0, Z19_1, Z19_2, Z19_3, Z19_4, Y19_0, Y19_1, Y19_2, Y19_3, Y19_4⟩ := bq5 BK656; have p661 : 0 ≤ (x6_1 : Int) := oda; have q661 : x6_1 < (l0_1.length : Int) := oda; obtain ⟨ad661, e661, hx661_0, hx661_1, hx661_2, hx661_3, hx661_4, hx661_5, hx661_6⟩ := at_T105 HR0_1.out x6_1 p661 q661; (try rw [← Nbq16.out] at hx661_2); (try rw [← Nbq16.out] at hw661_2); cases e661; replace hx661_0 := hc HB hx661_0; replace hx661_1 := hc HB hx661_1; replace hx661_2 := hc HB hx661_2; replace hx661_3 := hc HB hx661_3; replace hx661_4 := hc HB hx661_4; replace hx661_5 := hc HB hx661_5; replace hx661_6 := hc HB hx661_6; replace p661 := eq_true p661; replace q661 := eq_true q661))
           repeat (go_quiet (fail); try go_wp2_with (first | (go_at_call 69; (with_reducible refine (vellumref01_Check.calls k1 ((rd_T50 l1 x6_1).f0) ((rd_T50 l1 x6_1).f1) ((rd_T50 l1 x6_1).f2) ((rd_T50 l1 x6_1).f3) t659 _ (Glob.below HG.out (bl HB)) A12.out).mono ?_); rintro e w18 ⟨rfl, hb⟩; replace BK656 := kb BK656 hb; replace HB := sb HB hb; (try clear hb); (try clear hb2 hk hi); have p660 : 0 ≤ (x6_1 : Int) := oda; have q660 : x6_1 < (l1.length : Int) := oda; obtain ⟨ad660, e660, hx660_0, hx660_1, hx660_2, hx660_3⟩ := at_T50 HR1.out x6_1 p660 q660; obtain rfl : ad658 = ad660 := (by injection e660); replace hx660_0 := hc HB hx660_0; replace hx660_1 := hc HB hx660_1; replace hx660_2 := hc HB hx660_2; replace hx660_3 := hc HB hx660_3; replace p660 := eq_true p660; replace q660 := eq_true q660; obtain ⟨Z19_0, Z19_1, Z19_2, Z19_3, Z19_4, Y19_0, Y19_1, Y19_2, Y19_3, Y19_4⟩ := bq5 BK656; have p661 : 0 ≤ (x6_1 : Int) := oda; have q661 : x6_1 < (l0_1.length : Int) := oda; obtain ⟨ad661, e661, hx661_0, hx661_1, hx661_2, hx661_3, hx661_4, hx661_5, hx661_6⟩ := at_T105 HR0_1.out x6_1 p661 q661; (try rw [← Nbq16.out] at hx661_2); (try rw [← Nbq16.out] at hw661_2); cases e661; replace hx661_0 := hc HB hx661_0; replace hx661_1 := hc HB hx661_1; replace hx661_2 := hc HB hx661_2; replace hx661_3 := hc HB hx661_3; replace hx661_4 := hc HB hx661_4; replace hx661_5 := hc HB hx661_5; replace hx661_6 := hc HB hx661_6; replace p661 := eq_true p661; replace q661 := eq_true q661)))
           go_roundg k1
           case measure => have := HK1.out; omega
           case rel => exact ⟨(wrap64 (x6_1 + 1)), eb, H', ⟨by have := HK1.out; omega⟩, ⟨bk BK656⟩, ⟨bl HB⟩⟩
          ·replace c17 := Bool.eq_false_iff.mpr c17
           subst c17
           have H1 : (some 35) = some r := by rw [if_neg (show ¬ (false = true) by decide)] at H; exact H
           clear H
           have H := H1
           clear H1
           obtain rfl := Option.some.inj H
           have p658 : 0 ≤ (x6_1 : Int) := oda
           have q658 : x6_1 < (l1.length : Int) := oda
           obtain ⟨ad658, e658, hx658_0, hx658_1, hx658_2, hx658_3⟩ := at_T50 HR1.out x6_1 p658 q658
           cases e658
           replace hx658_0 := hc HB hx658_0
           replace hx658_1 := hc HB hx658_1
           replace hx658_2 := hc HB hx658_2
           replace hx658_3 := hc HB hx658_3
           replace p658 := eq_true p658
           replace q658 := eq_true q658
           go_wp2_with (first | (go_at_call 69; (with_reducible refine (vellumref01_Check.calls k1 ((rd_T50 l1 x6_1).f0) ((rd_T50 l1 x6_1).f1) ((rd_T50 l1 x6_1).f2) ((rd_T50 l1 x6_1).f3) t659 _ (Glob.below HG.out (bl HB)) A12.out).mono ?_); rintro e w20 ⟨rfl, hb⟩; replace BK656 := kb BK656 hb; replace HB := sb HB hb; (try clear hb); (try clear hb2 hk hi); have p660 : 0 ≤ (x6_1 : Int) := oda; have q660 : x6_1 < (l1.length : Int) := oda; obtain ⟨ad660, e660, hx660_0, hx660_1, hx660_2, hx660_3⟩ := at_T50 HR1.out x6_1 p660 q660; obtain rfl : ad658 = ad660 := (by injection e660); replace hx660_0 := hc HB hx660_0; replace hx660_1 := hc HB hx660_1; replace hx660_2 := hc HB hx660_2; replace hx660_3 := hc HB hx660_3; replace p660 := eq_true p660; replace q660 := eq_true q660; obtain ⟨Z21_0, Z21_1, Z21_2, Z21_3, Z21_4, Y21_0, Y21_1, Y21_2, Y21_3, Y21_4⟩ := bq5 BK656; have p661 : 0 ≤ (x6_1 : Int) := oda; have q661 : x6_1 < (l0_1.length : Int) := oda; obtain ⟨ad661, e661, hx661_0, hx661_1, hx661_2, hx661_3, hx661_4, hx661_5, hx661_6⟩ := at_T105 HR0_1.out x6_1 p661 q661; (try rw [← Nbq16.out] at hx661_2); (try rw [← Nbq16.out] at hw661_2); cases e661; replace hx661_0 := hc HB hx661_0; replace hx661_1 := hc HB hx661_1; replace hx661_2 := hc HB hx661_2; replace hx661_3 := hc HB hx661_3; replace hx661_4 := hc HB hx661_4; replace hx661_5 := hc HB hx661_5; replace hx661_6 := hc HB hx661_6; replace p661 := eq_true p661; replace q661 := eq_true q661))
           repeat (go_quiet (fail); try go_wp2_with (first | (go_at_call 69; (with_reducible refine (vellumref01_Check.calls k1 ((rd_T50 l1 x6_1).f0) ((rd_T50 l1 x6_1).f1) ((rd_T50 l1 x6_1).f2) ((rd_T50 l1 x6_1).f3) t659 _ (Glob.below HG.out (bl HB)) A12.out).mono ?_); rintro e w20 ⟨rfl, hb⟩; replace BK656 := kb BK656 hb; replace HB := sb HB hb; (try clear hb); (try clear hb2 hk hi); have p660 : 0 ≤ (x6_1 : Int) := oda; have q660 : x6_1 < (l1.length : Int) := oda; obtain ⟨ad660, e660, hx660_0, hx660_1, hx660_2, hx660_3⟩ := at_T50 HR1.out x6_1 p660 q660; obtain rfl : ad658 = ad660 := (by injection e660); replace hx660_0 := hc HB hx660_0; replace hx660_1 := hc HB hx660_1; replace hx660_2 := hc HB hx660_2; replace hx660_3 := hc HB hx660_3; replace p660 := eq_true p660; replace q660 := eq_true q660; obtain ⟨Z21_0, Z21_1, Z21_2, Z21_3, Z21_4, Y21_0, Y21_1, Y21_2, Y21_3, Y21_4⟩ := bq5 BK656; have p661 : 0 ≤ (x6_1 : Int) := oda; have q661 : x6_1 < (l0_1.length : Int) := oda; obtain ⟨ad661, e661, hx661_0, hx661_1, hx661_2, hx661_3, hx661_4, hx661_5, hx661_6⟩ := at_T105 HR0_1.out x6_1 p661 q661; (try rw [← Nbq16.out] at hx661_2); (try rw [← Nbq16.out] at hw661_2); cases e661; replace hx661_0 := hc HB hx661_0; replace hx661_1 := hc HB hx661_1; replace hx661_2 := hc HB hx661_2; replace hx661_3 := hc HB hx661_3; replace hx661_4 := hc HB hx661_4; replace hx661_5 := hc HB hx661_5; replace hx661_6 := hc HB hx661_6; replace p661 := eq_true p661; replace q661 := eq_true q661)))
           go_ret
           exact ⟨er, bl HB⟩
         ·rw [if_neg c15] at H
          exact absurd H (by simp)
        ·rw [if_neg c14] at H
         have c14b0 : (((rd_T50 l1 x6_1).f0) == 0) = false := beq_eq_false_iff_ne.mpr c14
         have c14b1 : (((rd_T50 l1 x6_1).f0) != 0) = true := bne_iff_ne.mpr c14
         by_cases c22 : x6_1 < (l0_1.length : Int)
         ·rw [if_pos c22] at H
          have c22b0 : decide (x6_1 < (l0_1.length : Int)) = true := decide_eq_true c22
          clear c22
          by_cases c23 : ((rd_T50 l1 x6_1).f0) = ((rd_T105 l0_1 x6_1).f1)
          ·rw [if_pos c23] at H
           have c23b0 : (((rd_T50 l1 x6_1).f0) == ((rd_T105 l0_1 x6_1).f1)) = true := beq_iff_eq.mpr c23
           have c23b1 : (((rd_T50 l1 x6_1).f0) != ((rd_T105 l0_1 x6_1).f1)) = false := bne_eq_false_iff_eq.mpr c23
           clear c23
           have H' := am H
           clear H
           have p658 : 0 ≤ (x6_1 : Int) := oda
           have q658 : x6_1 < (l1.length : Int) := oda
           obtain ⟨ad658, e658, hx658_0, hx658_1, hx658_2, hx658_3⟩ := at_T50 HR1.out x6_1 p658 q658
           cases e658
           replace hx658_0 := hc HB hx658_0
           replace hx658_1 := hc HB hx658_1
           replace hx658_2 := hc HB hx658_2
           replace hx658_3 := hc HB hx658_3
           replace p658 := eq_true p658
           replace q658 := eq_true q658
           go_wp2_with (first | (go_at_call 69; (with_reducible refine (vellumref01_Check.calls k1 ((rd_T50 l1 x6_1).f0) ((rd_T50 l1 x6_1).f1) ((rd_T50 l1 x6_1).f2) ((rd_T50 l1 x6_1).f3) t659 _ (Glob.below HG.out (bl HB)) A12.out).mono ?_); rintro e w24 ⟨rfl, hb⟩; replace BK656 := kb BK656 hb; replace HB := sb HB hb; (try clear hb); (try clear hb2 hk hi); have p660 : 0 ≤ (x6_1 : Int) := oda; have q660 : x6_1 < (l1.length : Int) := oda; obtain ⟨ad660, e660, hx660_0, hx660_1, hx660_2, hx660_3⟩ := at_T50 HR1.out x6_1 p660 q660; obtain rfl : ad658 = ad660 := (by injection e660); replace hx660_0 := hc HB hx660_0; replace hx660_1 := hc HB hx660_1; replace hx660_2 := hc HB hx660_2; replace hx660_3 := hc HB hx660_3; replace p660 := eq_true p660; replace q660 := eq_true q660; have p662 : 0 ≤ (x6_1 : Int) := oda; have q662 : x6_1 < (l1.length : Int) := oda; obtain ⟨ad662, e662, hx662_0, hx662_1, hx662_2, hx662_3⟩ := at_T50 HR1.out x6_1 p662 q662; obtain rfl : ad658 = ad662 := (by injection e662); replace hx662_0 := hc HB hx662_0; replace hx662_1 := hc HB hx662_1; replace hx662_2 := hc HB hx662_2; replace hx662_3 := hc HB hx662_3; replace p662 := eq_true p662; replace q662 := eq_true q662; obtain ⟨Z25_0, Z25_1, Z25_2, Z25_3, Z25_4, Y25_0, Y25_1, Y25_2, Y25_3, Y25_4⟩ := bq5 BK656; have p663 : 0 ≤ (x6_1 : Int) := oda; have q663 : x6_1 < (l0_1.length : Int) := oda; obtain ⟨ad663, e663, hx663_0, hx663_1, hx663_2, hx663_3, hx663_4, hx663_5, hx663_6⟩ := at_T105 HR0_1.out x6_1 p663 q663; cases e663; replace hx663_0 := hc HB hx663_0; replace hx663_1 := hc HB hx663_1; replace hx663_2 := hc HB hx663_2; replace hx663_3 := hc HB hx663_3; replace hx663_4 := hc HB hx663_4; replace hx663_5 := hc HB hx663_5; replace hx663_6 := hc HB hx663_6; replace p663 := eq_true p663; replace q663 := eq_true q663))
           repeat (go_quiet (fail); try go_wp2_with (first | (go_at_call 69; (with_reducible refine (vellumref01_Check.calls k1 ((rd_T50 l1 x6_1).f0) ((rd_T50 l1 x6_1).f1) ((rd_T50 l1 x6_1).f2) ((rd_T50 l1 x6_1).f3) t659 _ (Glob.below HG.out (bl HB)) A12.out).mono ?_); rintro e w24 ⟨rfl, hb⟩; replace BK656 := kb BK656 hb; replace HB := sb HB hb; (try clear hb); (try clear hb2 hk hi); have p660 : 0 ≤ (x6_1 : Int) := oda; have q660 : x6_1 < (l1.length : Int) := oda; obtain ⟨ad660, e660, hx660_0, hx660_1, hx660_2, hx660_3⟩ := at_T50 HR1.out x6_1 p660 q660; obtain rfl : ad658 = ad660 := (by injection e660); replace hx660_0 := hc HB hx660_0; replace hx660_1 := hc HB hx660_1; replace hx660_2 := hc HB hx660_2; replace hx660_3 := hc HB hx660_3; replace p660 := eq_true p660; replace q660 := eq_true q660; have p662 : 0 ≤ (x6_1 : Int) := oda; have q662 : x6_1 < (l1.length : Int) := oda; obtain ⟨ad662, e662, hx662_0, hx662_1, hx662_2, hx662_3⟩ := at_T50 HR1.out x6_1 p662 q662; obtain rfl : ad658 = ad662 := (by injection e662); replace hx662_0 := hc HB hx662_0; replace hx662_1 := hc HB hx662_1; replace hx662_2 := hc HB hx662_2; replace hx662_3 := hc HB hx662_3; replace p662 := eq_true p662; replace q662 := eq_true q662; obtain ⟨Z25_0, Z25_1, Z25_2, Z25_3, Z25_4, Y25_0, Y25_1, Y25_2, Y25_3, Y25_4⟩ := bq5 BK656; have p663 : 0 ≤ (x6_1 : Int) := oda; have q663 : x6_1 < (l0_1.length : Int) := oda; obtain ⟨ad663, e663, hx663_0, hx663_1, hx663_2, hx663_3, hx663_4, hx663_5, hx663_6⟩ := at_T105 HR0_1.out x6_1 p663 q663; cases e663; replace hx663_0 := hc HB hx663_0; replace hx663_1 := hc HB hx663_1; replace hx663_2 := hc HB hx663_2; replace hx663_3 := hc HB hx663_3; replace hx663_4 := hc HB hx663_4; replace hx663_5 := hc HB hx663_5; replace hx663_6 := hc HB hx663_6; replace p663 := eq_true p663; replace q663 := eq_true q663)))
           go_roundg k1
           case measure => have := HK1.out; omega
           case rel => exact ⟨(wrap64 (x6_1 + 1)), eb, H', ⟨by have := HK1.out; omega⟩, ⟨bk BK656⟩, ⟨bl HB⟩⟩
          ·rw [if_neg c23] at H
           have c23b0 : (((rd_T50 l1 x6_1).f0) == ((rd_T105 l0_1 x6_1).f1)) = false := beq_eq_false_iff_ne.mpr c23
           have c23b1 : (((rd_T50 l1 x6_1).f0) != ((rd_T105 l0_1 x6_1).f1)) = true := bne_iff_ne.mpr c23
           obtain rfl := Option.some.inj H
           have p658 : 0 ≤ (x6_1 : Int) := oda
           have q658 : x6_1 < (l1.length : Int) := oda
           obtain ⟨ad658, e658, hx658_0, hx658_1, hx658_2, hx658_3⟩ := at_T50 HR1.out x6_1 p658 q658
           cases e658
           replace hx658_0 := hc HB hx658_0
           replace hx658_1 := hc HB hx658_1
           replace hx658_2 := hc HB hx658_2
           replace hx658_3 := hc HB hx658_3
           replace p658 := eq_true p658
           replace q658 := eq_true q658
           go_wp2_with (first | (go_at_call 69; (with_reducible refine (vellumref01_Check.calls k1 ((rd_T50 l1 x6_1).f0) ((rd_T50 l1 x6_1).f1) ((rd_T50 l1 x6_1).f2) ((rd_T50 l1 x6_1).f3) t659 _ (Glob.below HG.out (bl HB)) A12.out).mono ?_); rintro e w26 ⟨rfl, hb⟩; replace BK656 := kb BK656 hb; replace HB := sb HB hb; (try clear hb); (try clear hb2 hk hi); have p660 : 0 ≤ (x6_1 : Int) := oda; have q660 : x6_1 < (l1.length : Int) := oda; obtain ⟨ad660, e660, hx660_0, hx660_1, hx660_2, hx660_3⟩ := at_T50 HR1.out x6_1 p660 q660; obtain rfl : ad658 = ad660 := (by injection e660); replace hx660_0 := hc HB hx660_0; replace hx660_1 := hc HB hx660_1; replace hx660_2 := hc HB hx660_2; replace hx660_3 := hc HB hx660_3; replace p660 := eq_true p660; replace q660 := eq_true q660; have p662 : 0 ≤ (x6_1 : Int) := oda; have q662 : x6_1 < (l1.length : Int) := oda; obtain ⟨ad662, e662, hx662_0, hx662_1, hx662_2, hx662_3⟩ := at_T50 HR1.out x6_1 p662 q662; obtain rfl : ad658 = ad662 := (by injection e662); replace hx662_0 := hc HB hx662_0; replace hx662_1 := hc HB hx662_1; replace hx662_2 := hc HB hx662_2; replace hx662_3 := hc HB hx662_3; replace p662 := eq_true p662; replace q662 := eq_true q662; obtain ⟨Z27_0, Z27_1, Z27_2, Z27_3, Z27_4, Y27_0, Y27_1, Y27_2, Y27_3, Y27_4⟩ := bq5 BK656; have p663 : 0 ≤ (x6_1 : Int) := oda; have q663 : x6_1 < (l0_1.length : Int) := oda; obtain ⟨ad663, e663, hx663_0, hx663_1, hx663_2, hx663_3, hx663_4, hx663_5, hx663_6⟩ := at_T105 HR0_1.out x6_1 p663 q663; cases e663; replace hx663_0 := hc HB hx663_0; replace hx663_1 := hc HB hx663_1; replace hx663_2 := hc HB hx663_2; replace hx663_3 := hc HB hx663_3; replace hx663_4 := hc HB hx663_4; replace hx663_5 := hc HB hx663_5; replace hx663_6 := hc HB hx663_6; replace p663 := eq_true p663; replace q663 := eq_true q663))
           repeat (go_quiet (fail); try go_wp2_with (first | (go_at_call 69; (with_reducible refine (vellumref01_Check.calls k1 ((rd_T50 l1 x6_1).f0) ((rd_T50 l1 x6_1).f1) ((rd_T50 l1 x6_1).f2) ((rd_T50 l1 x6_1).f3) t659 _ (Glob.below HG.out (bl HB)) A12.out).mono ?_); rintro e w26 ⟨rfl, hb⟩; replace BK656 := kb BK656 hb; replace HB := sb HB hb; (try clear hb); (try clear hb2 hk hi); have p660 : 0 ≤ (x6_1 : Int) := oda; have q660 : x6_1 < (l1.length : Int) := oda; obtain ⟨ad660, e660, hx660_0, hx660_1, hx660_2, hx660_3⟩ := at_T50 HR1.out x6_1 p660 q660; obtain rfl : ad658 = ad660 := (by injection e660); replace hx660_0 := hc HB hx660_0; replace hx660_1 := hc HB hx660_1; replace hx660_2 := hc HB hx660_2; replace hx660_3 := hc HB hx660_3; replace p660 := eq_true p660; replace q660 := eq_true q660; have p662 : 0 ≤ (x6_1 : Int) := oda; have q662 : x6_1 < (l1.length : Int) := oda; obtain ⟨ad662, e662, hx662_0, hx662_1, hx662_2, hx662_3⟩ := at_T50 HR1.out x6_1 p662 q662; obtain rfl : ad658 = ad662 := (by injection e662); replace hx662_0 := hc HB hx662_0; replace hx662_1 := hc HB hx662_1; replace hx662_2 := hc HB hx662_2; replace hx662_3 := hc HB hx662_3; replace p662 := eq_true p662; replace q662 := eq_true q662; obtain ⟨Z27_0, Z27_1, Z27_2, Z27_3, Z27_4, Y27_0, Y27_1, Y27_2, Y27_3, Y27_4⟩ := bq5 BK656; have p663 : 0 ≤ (x6_1 : Int) := oda; have q663 : x6_1 < (l0_1.length : Int) := oda; obtain ⟨ad663, e663, hx663_0, hx663_1, hx663_2, hx663_3, hx663_4, hx663_5, hx663_6⟩ := at_T105 HR0_1.out x6_1 p663 q663; cases e663; replace hx663_0 := hc HB hx663_0; replace hx663_1 := hc HB hx663_1; replace hx663_2 := hc HB hx663_2; replace hx663_3 := hc HB hx663_3; replace hx663_4 := hc HB hx663_4; replace hx663_5 := hc HB hx663_5; replace hx663_6 := hc HB hx663_6; replace p663 := eq_true p663; replace q663 := eq_true q663)))
           go_ret
           exact ⟨er, bl HB⟩
         ·rw [if_neg c22] at H
          exact absurd H (by simp)
       ·rw [if_neg c13] at H
        have c13b0 : (t659 == 0) = false := beq_eq_false_iff_ne.mpr c13
        have c13b1 : (t659 != 0) = true := bne_iff_ne.mpr c13
        obtain rfl := Option.some.inj H
        have p658 : 0 ≤ (x6_1 : Int) := oda
        have q658 : x6_1 < (l1.length : Int) := oda
        obtain ⟨ad658, e658, hx658_0, hx658_1, hx658_2, hx658_3⟩ := at_T50 HR1.out x6_1 p658 q658
        cases e658
        replace hx658_0 := hc HB hx658_0
        replace hx658_1 := hc HB hx658_1
        replace hx658_2 := hc HB hx658_2
        replace hx658_3 := hc HB hx658_3
        replace p658 := eq_true p658
        replace q658 := eq_true q658
        go_wp2_with (first | (go_at_call 69; (with_reducible refine (vellumref01_Check.calls k1 ((rd_T50 l1 x6_1).f0) ((rd_T50 l1 x6_1).f1) ((rd_T50 l1 x6_1).f2) ((rd_T50 l1 x6_1).f3) t659 _ (Glob.below HG.out (bl HB)) A12.out).mono ?_); rintro e w28 ⟨rfl, hb⟩; replace BK656 := kb BK656 hb; replace HB := sb HB hb; (try clear hb); (try clear hb2 hk hi)))
        repeat (go_quiet (fail); try go_wp2_with (first | (go_at_call 69; (with_reducible refine (vellumref01_Check.calls k1 ((rd_T50 l1 x6_1).f0) ((rd_T50 l1 x6_1).f1) ((rd_T50 l1 x6_1).f2) ((rd_T50 l1 x6_1).f3) t659 _ (Glob.below HG.out (bl HB)) A12.out).mono ?_); rintro e w28 ⟨rfl, hb⟩; replace BK656 := kb BK656 hb; replace HB := sb HB hb; (try clear hb); (try clear hb2 hk hi))))
        go_ret
        exact ⟨er, bl HB⟩
      ·rw [if_neg c11] at H
       exact absurd H (by simp)
     ·rw [if_neg c10] at H
      have c10b0 : decide (x6_1 < (l1.length : Int)) = false := decide_eq_false c10
      clear c10
      obtain rfl := Option.some.inj H
      go_wp2
      repeat (go_quiet (fail); try go_wp2)
      go_ret
      exact ⟨er, bl HB⟩
  ·rw [if_neg c5] at H
   have c5b0 : ((l1.length : Int) == (l0_1.length : Int)) = false := beq_eq_false_iff_ne.mpr c5
   have c5b1 : ((l1.length : Int) != (l0_1.length : Int)) = true := bne_iff_ne.mpr c5
   have c5b2 : (l1.length == l0_1.length) = false := by first | simpa using c5 | (simp at c5 ⊢; omega)
   obtain rfl := Option.some.inj H
   go_enter Tryd.func85, Tryd.ntmps85
   go_wp2_with (first | ((with_reducible refine gate_dst (N := 2) rfl ?_); refine box_event rfl (N := 2) rfl (cs := #[.string a0_0, .slice A0_1 l0_1.length c0_1, .slice A0_2 l0_2.length c0_2, .slice A0_3 l0_3.length c0_3, .slice A0_4 l0_4.length c0_4]) (t := 65) gs ?_; intro gb656 hg w29 hbox hb; have BK656 := am (hbox); have GW656 := gw hg HB; have GE656 := gw hg HB; replace HB := sb HB hb; clear hb hbox hg; obtain ⟨Z30_0, Z30_1, Z30_2, Z30_3, Z30_4, Y30_0, Y30_1, Y30_2, Y30_3, Y30_4⟩ := bq5 BK656) | (go_at_call 93; (with_reducible refine (vellumref03_Check.calls k a0_0 _ _ l0_1 _ _ l0_2 _ _ l0_3 _ _ l0_4 t657 _ (Kd.cb HR0_1 HB) HC0_1.out (Kd.cb HR0_2 HB) HC0_2.out (Kd.cb HR0_3 HB) HC0_3.out (Kd.cb HR0_4 HB) HC0_4.out (Glob.below HG.out (bl HB)) A3.out).mono ?_); rintro e w31 ⟨rfl, hb⟩; replace BK656 := kb BK656 hb; replace HB := sb HB hb; (try clear hb); (try clear hb2 hk hi); obtain ⟨Z32_0, Z32_1, Z32_2, Z32_3, Z32_4, Y32_0, Y32_1, Y32_2, Y32_3, Y32_4⟩ := bq5 BK656))
   repeat (go_quiet (fail); try go_wp2_with (first | ((with_reducible refine gate_dst (N := 2) rfl ?_); refine box_event rfl (N := 2) rfl (cs := #[.string a0_0, .slice A0_1 l0_1.length c0_1, .slice A0_2 l0_2.length c0_2, .slice A0_3 l0_3.length c0_3, .slice A0_4 l0_4.length c0_4]) (t := 65) gs ?_; intro gb656 hg w29 hbox hb; have BK656 := am (hbox); have GW656 := gw hg HB; have GE656 := gw hg HB; replace HB := sb HB hb; clear hb hbox hg; obtain ⟨Z30_0, Z30_1, Z30_2, Z30_3, Z30_4, Y30_0, Y30_1, Y30_2, Y30_3, Y30_4⟩ := bq5 BK656) | (go_at_call 93; (with_reducible refine (vellumref03_Check.calls k a0_0 _ _ l0_1 _ _ l0_2 _ _ l0_3 _ _ l0_4 t657 _ (Kd.cb HR0_1 HB) HC0_1.out (Kd.cb HR0_2 HB) HC0_2.out (Kd.cb HR0_3 HB) HC0_3.out (Kd.cb HR0_4 HB) HC0_4.out (Glob.below HG.out (bl HB)) A3.out).mono ?_); rintro e w31 ⟨rfl, hb⟩; replace BK656 := kb BK656 hb; replace HB := sb HB hb; (try clear hb); (try clear hb2 hk hi); obtain ⟨Z32_0, Z32_1, Z32_2, Z32_3, Z32_4, Y32_0, Y32_1, Y32_2, Y32_3, Y32_4⟩ := bq5 BK656)))
   go_ret
   exact ⟨er, bl HB⟩
 ·rw [if_neg c4] at H
  have c4b0 : (t657 == 0) = false := beq_eq_false_iff_ne.mpr c4
  have c4b1 : (t657 != 0) = true := bne_iff_ne.mpr c4
  obtain rfl := Option.some.inj H
  go_enter Tryd.func85, Tryd.ntmps85
  go_wp2_with (first | ((with_reducible refine gate_dst (N := 2) rfl ?_); refine box_event rfl (N := 2) rfl (cs := #[.string a0_0, .slice A0_1 l0_1.length c0_1, .slice A0_2 l0_2.length c0_2, .slice A0_3 l0_3.length c0_3, .slice A0_4 l0_4.length c0_4]) (t := 65) gs ?_; intro gb656 hg w33 hbox hb; have BK656 := am (hbox); have GW656 := gw hg HB; have GE656 := gw hg HB; replace HB := sb HB hb; clear hb hbox hg; obtain ⟨Z34_0, Z34_1, Z34_2, Z34_3, Z34_4, Y34_0, Y34_1, Y34_2, Y34_3, Y34_4⟩ := bq5 BK656) | (go_at_call 93; (with_reducible refine (vellumref03_Check.calls k a0_0 _ _ l0_1 _ _ l0_2 _ _ l0_3 _ _ l0_4 t657 _ (Kd.cb HR0_1 HB) HC0_1.out (Kd.cb HR0_2 HB) HC0_2.out (Kd.cb HR0_3 HB) HC0_3.out (Kd.cb HR0_4 HB) HC0_4.out (Glob.below HG.out (bl HB)) A3.out).mono ?_); rintro e w35 ⟨rfl, hb⟩; replace BK656 := kb BK656 hb; replace HB := sb HB hb; (try clear hb); (try clear hb2 hk hi)))
  repeat (go_quiet (fail); try go_wp2_with (first | ((with_reducible refine gate_dst (N := 2) rfl ?_); refine box_event rfl (N := 2) rfl (cs := #[.string a0_0, .slice A0_1 l0_1.length c0_1, .slice A0_2 l0_2.length c0_2, .slice A0_3 l0_3.length c0_3, .slice A0_4 l0_4.length c0_4]) (t := 65) gs ?_; intro gb656 hg w33 hbox hb; have BK656 := am (hbox); have GW656 := gw hg HB; have GE656 := gw hg HB; replace HB := sb HB hb; clear hb hbox hg; obtain ⟨Z34_0, Z34_1, Z34_2, Z34_3, Z34_4, Y34_0, Y34_1, Y34_2, Y34_3, Y34_4⟩ := bq5 BK656) | (go_at_call 93; (with_reducible refine (vellumref03_Check.calls k a0_0 _ _ l0_1 _ _ l0_2 _ _ l0_3 _ _ l0_4 t657 _ (Kd.cb HR0_1 HB) HC0_1.out (Kd.cb HR0_2 HB) HC0_2.out (Kd.cb HR0_3 HB) HC0_3.out (Kd.cb HR0_4 HB) HC0_4.out (Glob.below HG.out (bl HB)) A3.out).mono ?_); rintro e w35 ⟨rfl, hb⟩; replace BK656 := kb BK656 hb; replace HB := sb HB hb; (try clear hb); (try clear hb2 hk hi))))
  go_ret
  exact ⟨er, bl HB⟩
end Go.Proofs.YtpiifdbicibelaaDoor.PA
end
section
namespace Go.Proofs.YtpiifdbicibelaaDoor.Pure
open Go.RowKit Go.Proofs Go.Proofs.YtpiifdbicibelaaDoorW.PrintWords Go.Proofs.YtpiifdbicibelaaDoorW.PrintLast Go.Proofs.YtpiifdbicibelaaDoorW.PrintMore Go.Proofs.YtpiifdbicibelaaDoor.PA Go.Proofs.YtpiifdbicibelaaDoor.OpenK
set_option linter.unusedVariables false
set_option linter.unusedSimpArgs false
theorem rd105_eq {xs : List S105} {i : Nat} (h : i < xs.length) : rd_T105 xs (i : Int) = xs[i] := by
 have := rd105_get h
 rw [List.getElem?_eq_getElem h] at this
 exact (Option.some.inj this).symm
theorem rd115_eq {xs : List S115} {i : Nat} (h : i < xs.length) : rd_T115 xs (i : Int) = xs[i] := by
 have := rd115_get h
 rw [List.getElem?_eq_getElem h] at this
 exact (Option.some.inj this).symm
theorem rd139_eq {xs : List S139} {i : Nat} (h : i < xs.length) : rd_T139 xs (i : Int) = xs[i] := by
 have := rd139_get h
 rw [List.getElem?_eq_getElem h] at this
 exact (Option.some.inj this).symm
open Classical in
theorem cols_all (n : Nat) (l : List Int) : decide (∀ j, 0 ≤ j → ∀ h : j < l.length, (0 ≤ l[j] ∧ l[j] < n) ∧ l[j] ∉ l.take j) = (l.all (fun x => decide (0 ≤ x) && decide (x < n)) && decide l.Nodup) := by
 rw [Bool.eq_iff_iff, decide_eq_true_eq, Bool.and_eq_true, List.all_eq_true, decide_eq_true_eq]
 constructor
 ·intro g
  refine ⟨fun x hx => ?_, ?_⟩
  ·obtain ⟨j, hj, rfl⟩ := List.getElem_of_mem hx
   have := (g j (Nat.zero_le _) hj).1
   simp; omega
  ·rw [List.nodup_iff_pairwise_ne, List.pairwise_iff_getElem]
   intro i j hi hj hij e
   exact (g j (Nat.zero_le _) hj).2 (by rw [← e]; exact List.mem_take_iff_getElem.2 ⟨i, by omega, rfl⟩)
 ·rintro ⟨g1, g2⟩ j _ hj
  have h1 := g1 l[j] (List.getElem_mem hj)
  simp at h1
  refine ⟨h1, fun hm => ?_⟩
  obtain ⟨i, hi, e⟩ := List.mem_take_iff_getElem.1 hm
  rw [List.nodup_iff_pairwise_ne, List.pairwise_iff_getElem] at g2
  exact g2 i j (by omega) hj (by omega) e
theorem some_ev (a : ByteArray) (c : List S105) (d : List Int) (e : List S115) (f : List S139) (l : List Int) (hl : l.length < 9223372036854775807) : Ev (fun k => vellumref03_some.f k a c d e f l) (colsOk c.length l) := by
 classical
 have inner : ∀ (i : Nat) (hlt : i < l.length) (b : Bool), Ev (fun k => vellumref03_some.l0 k l ((i + 1 : Nat) : Int) a c d e f) b → ∀ (m j : Nat), j + m = i →
   Ev (fun k => vellumref03_some.l1 k l (i : Int) (j : Int) a c d e f) (if l[i] ∈ (l.take i).drop j then false else b) := by
  intro i hlt b hb m
  induction m with
  | zero =>
   intro j hj
   obtain rfl : j = i := by omega
   rw [List.drop_of_length_le (by simp; omega), if_neg (by simp)]
   refine Ev.step (g := fun k => vellumref03_some.l0 k l ((j + 1 : Nat) : Int) a c d e f) (fun k => ?_) hb
   simp only [vellumref03_some.l1]
   rw [if_neg (by omega), wrap64_id (by omega) (by omega)]
   rfl
  | succ m ih =>
   intro j hj
   have hjl : j < l.length := by omega
   have hd : (l.take i).drop j = l[j] :: (l.take i).drop (j + 1) := by
    rw [List.drop_eq_getElem_cons (by simp; omega)]
    simp
   refine Ev.step (g := fun k => if l[j] = l[i] then some false else vellumref03_some.l1 k l (i : Int) ((j + 1 : Nat) : Int) a c d e f) (fun k => ?_) ?_
   ·simp only [vellumref03_some.l1]
    rw [if_pos (by omega), if_pos (by omega), if_pos (by omega), if_pos (by omega), if_pos (by omega), rd_getI l j hjl, rd_getI l i hlt, wrap64_id (by omega) (by omega)]
    rfl
   ·rw [hd]
    by_cases h : l[j] = l[i]
    ·refine Ev.pos h ?_
     rw [if_pos (by rw [h]; simp)]
     exact Ev.pure
    ·refine Ev.neg h ?_
     have := ih (j + 1) (by omega)
     have e2 : (l[i] ∈ l[j] :: (l.take i).drop (j + 1)) ↔ l[i] ∈ (l.take i).drop (j + 1) := by
      rw [List.mem_cons]; exact ⟨fun g => g.resolve_left (fun e => h e.symm), .inr⟩
     simp only [e2]; exact this
 have hloop : ∀ (m i : Nat), i + m = l.length → Ev (fun k => vellumref03_some.l0 k l (i : Int) a c d e f)
   (decide (∀ j, i ≤ j → ∀ h : j < l.length, (0 ≤ l[j] ∧ l[j] < c.length) ∧ l[j] ∉ l.take j)) := by
  intro m
  induction m with
  | zero =>
   intro i hi
   refine Ev.from_ 1 fun k => ?_
   simp only [vellumref03_some.l0]
   rw [if_neg (by omega)]
   congr 1
   exact (decide_eq_true (fun j h1 h2 => by omega)).symm
  | succ m ih =>
   intro i hi
   have hlt : i < l.length := by omega
   have hj2 : ∀ b : Bool, Ev (fun k => vellumref03_some.j2 k l (i : Int) b a c d e f) (if b = true then false else if l[i] ∈ l.take i then false else decide (∀ j, i + 1 ≤ j → ∀ h : j < l.length, (0 ≤ l[j] ∧ l[j] < c.length) ∧ l[j] ∉ l.take j)) := by
    intro b
    cases b
    ·refine Ev.step (g := fun k => vellumref03_some.l1 k l (i : Int) ((0 : Nat) : Int) a c d e f) (fun k => ?_) ?_
     ·simp only [vellumref03_some.j2]; rw [if_neg (by decide)]; rfl
     ·have := inner i hlt _ (ih (i + 1) (by omega)) i 0 (by omega)
      simpa using this
    ·refine Ev.from_ 1 fun k => ?_
     simp [vellumref03_some.j2]
   refine Ev.step (g := fun k => if l[i] < 0 then vellumref03_some.j2 k l (i : Int) true a c d e f else vellumref03_some.j2 k l (i : Int) (decide (l[i] ≥ (c.length : Int))) a c d e f) (fun k => ?_) ?_
   ·simp only [vellumref03_some.l0]
    rw [if_pos (by omega), if_pos (by omega), rd_getI l i hlt]
   ·by_cases h1 : l[i] < 0
    ·refine Ev.pos h1 ?_
     rw [decide_eq_false (fun g => by have := (g i (Nat.le_refl _) hlt).1.1; omega)]
     simpa using hj2 true
    refine Ev.neg h1 ?_
    have hh := hj2 (decide (l[i] ≥ (c.length : Int)))
    by_cases h2 : l[i] ≥ (c.length : Int)
    ·rw [decide_eq_false (p := ∀ j, i ≤ j → ∀ h : j < l.length, (0 ≤ l[j] ∧ l[j] < c.length) ∧ l[j] ∉ l.take j) (fun g => by have := (g i (Nat.le_refl _) hlt).1.2; omega)]
     rw [decide_eq_true h2] at hh ⊢
     simpa using hh
    rw [decide_eq_false h2] at hh ⊢
    by_cases h3 : l[i] ∈ l.take i
    ·rw [decide_eq_false (p := ∀ j, i ≤ j → ∀ h : j < l.length, (0 ≤ l[j] ∧ l[j] < c.length) ∧ l[j] ∉ l.take j) (fun g => (g i (Nat.le_refl _) hlt).2 h3)]
     rw [if_neg (by decide), if_pos h3] at hh
     exact hh
    ·rw [if_neg (by decide), if_neg h3] at hh
     have e2 : decide (∀ j, i + 1 ≤ j → ∀ h : j < l.length, (0 ≤ l[j] ∧ l[j] < c.length) ∧ l[j] ∉ l.take j) = decide (∀ j, i ≤ j → ∀ h : j < l.length, (0 ≤ l[j] ∧ l[j] < c.length) ∧ l[j] ∉ l.take j) := by
      rw [decide_eq_decide]
      constructor
      ·intro g j h4 h5
       rcases Nat.lt_or_ge i j with h6 | h6
       ·exact g j h6 h5
       ·obtain rfl : j = i := by omega
        exact ⟨⟨by omega, by omega⟩, h3⟩
      ·exact fun g j h4 h5 => g j (by omega) h5
     rw [← e2]; exact hh
 have hj : ∀ b : Bool, Ev (fun k => vellumref03_some.j0 k l b a c d e f) (!b && (l.all (fun x => decide (0 ≤ x) && decide (x < c.length)) && decide l.Nodup)) := by
  intro b
  cases b
  ·refine Ev.step (g := fun k => vellumref03_some.l0 k l ((0 : Nat) : Int) a c d e f) (fun k => ?_) ?_
   ·simp only [vellumref03_some.j0]; rw [if_neg (by decide)]; rfl
   ·have := hloop l.length 0 (by omega)
    rw [cols_all] at this
    simpa using this
  ·refine Ev.from_ 1 fun k => ?_
   simp [vellumref03_some.j0]
 simp only [vellumref03_some.f]
 unfold colsOk
 by_cases h1 : (l.length : Int) < 1
 ·refine Ev.pos h1 ?_
  have : decide (1 ≤ l.length) = false := decide_eq_false (by omega)
  simpa [this] using hj true
 ·refine Ev.neg h1 ?_
  have e1 : decide (1 ≤ l.length) = true := decide_eq_true (by omega)
  by_cases h2 : (l.length : Int) > 64
  ·have e2 : decide (l.length ≤ 64) = false := decide_eq_false (by omega)
   rw [decide_eq_true h2]
   simpa [e2] using hj true
  ·have e2 : decide (l.length ≤ 64) = true := decide_eq_true (by omega)
   rw [decide_eq_false h2]
   simpa [e1, e2] using hj false
theorem columns_ev (a : ByteArray) (c : List S105) (d : List Int) (e : List S115) (f : List S139) (hl : c.length < 9223372036854775807) (hw : ∀ x ∈ c, wfC x) : Ev (fun k => vellumref03_columns.f k a c d e f) (colErrs [] c) := by
 have inner : ∀ (i : Nat) (hlt : i < c.length) (b : Int), Ev (fun k => vellumref03_columns.l0 k ((i + 1 : Nat) : Int) a c d e f) b → ∀ (m j : Nat), j + m = i →
   Ev (fun k => vellumref03_columns.l1 k (i : Int) (j : Int) a c d e f c[i].f0 c[i].f1 c[i].f2 c[i].f3.f0 c[i].f3.f1 c[i].f3.f2 c[i].f3.f3)
    (if ((c.take i).drop j).any (fun x => x.f0.toList == c[i].f0.toList) = true then 31 else if colBad c[i] = true then 32 else b) := by
  intro i hlt b hb m
  have hwi := hw c[i] (List.getElem_mem hlt)
  induction m with
  | zero =>
   intro j hj
   obtain rfl : j = i := by omega
   rw [List.drop_of_length_le (by simp; omega), if_neg (by simp)]
   refine Ev.step (g := fun k => if c[j].f1 < 1 then (some 32) else (if c[j].f1 > 5 then (some 32) else ((vellumref01_Check.f k c[j].f3.f0 c[j].f3.f1 c[j].f3.f2 c[j].f3.f3).bind fun t633 => (if t633 = 0 then (if c[j].f3.f0 = c[j].f1 then (vellumref03_columns.l0 k ((j + 1 : Nat) : Int) a c d e f) else (if c[j].f3.f0 = 0 then (vellumref03_columns.l0 k ((j + 1 : Nat) : Int) a c d e f) else (some 32))) else (some 32))))) (fun k => ?_) ?_
   ·simp only [vellumref03_columns.l1]
    rw [if_neg (by omega), wrap64_id (by omega) (by omega)]
    rfl
   ·unfold colBad
    by_cases h1 : c[j].f1 < 1
    ·refine Ev.pos h1 ?_
     rw [if_pos (by simp [h1])]; exact Ev.pure
    refine Ev.neg h1 ?_
    by_cases h2 : c[j].f1 > 5
    ·refine Ev.pos h2 ?_
     rw [if_pos (by simp; omega)]; exact Ev.pure
    refine Ev.neg h2 (Ev.bind (Ev.from_ 6 fun k => check_ref k _ _ _ _ hwi.2) ?_)
    generalize chk c[j].f3.f0 c[j].f3.f1 c[j].f3.f2 c[j].f3.f3 = r
    have d1 : decide (c[j].f1 < 1) = false := decide_eq_false h1
    have d2 : decide (5 < c[j].f1) = false := decide_eq_false h2
    rw [d1, d2]
    by_cases h3 : r = 0
    ·refine Ev.pos h3 ?_
     subst h3
     by_cases h4 : c[j].f3.f0 = c[j].f1
     ·refine Ev.pos h4 ?_
      rw [if_neg (by simp [h4])]; exact hb
     ·refine Ev.neg h4 ?_
      by_cases h5 : c[j].f3.f0 = 0
      ·refine Ev.pos h5 ?_
       rw [if_neg (by simp [h5])]; exact hb
      ·refine Ev.neg h5 ?_
       rw [if_pos (by simp [h4, h5])]; exact Ev.pure
    ·refine Ev.neg h3 ?_
     rw [if_pos (by simp [h3])]; exact Ev.pure
  | succ m ih =>
   intro j hj
   have hjl : j < c.length := by omega
   have hd : (c.take i).drop j = c[j] :: (c.take i).drop (j + 1) := by
    rw [List.drop_eq_getElem_cons (by simp; omega)]
    simp
   refine Ev.step (g := fun k => if c[j].f0.toList = c[i].f0.toList then some 31 else vellumref03_columns.l1 k (i : Int) ((j + 1 : Nat) : Int) a c d e f c[i].f0 c[i].f1 c[i].f2 c[i].f3.f0 c[i].f3.f1 c[i].f3.f2 c[i].f3.f3) (fun k => ?_) ?_
   ·simp only [vellumref03_columns.l1]
    rw [if_pos (by omega), if_pos (by omega), if_pos (by omega), rd105_eq hjl, wrap64_id (by omega) (by omega)]
    rfl
   ·rw [hd]
    by_cases h : c[j].f0.toList = c[i].f0.toList
    ·refine Ev.pos h ?_
     rw [if_pos (by simp [h])]
     exact Ev.pure
    ·refine Ev.neg h ?_
     have := ih (j + 1) (by omega)
     have e2 : (c[j] :: (c.take i).drop (j + 1)).any (fun x => x.f0.toList == c[i].f0.toList) = ((c.take i).drop (j + 1)).any (fun x => x.f0.toList == c[i].f0.toList) := by
      rw [List.any_cons]; simp [h]
     rw [e2]; exact this
 have hloop : ∀ (m i : Nat), i + m = c.length → Ev (fun k => vellumref03_columns.l0 k (i : Int) a c d e f) (colErrs (c.take i) (c.drop i)) := by
  intro m
  induction m with
  | zero =>
   intro i hi
   rw [List.drop_of_length_le (by omega)]
   refine Ev.from_ 1 fun k => ?_
   simp only [vellumref03_columns.l0]
   rw [if_neg (by omega)]; rfl
  | succ m ih =>
   intro i hi
   have hlt : i < c.length := by omega
   have hwi := hw c[i] (List.getElem_mem hlt)
   rw [List.drop_eq_getElem_cons hlt]
   simp only [colErrs]
   refine Ev.step (g := fun k => (vellumref03_Name.f k c[i].f0).bind fun t631 => (if t631 = true then (vellumref03_columns.l1 k (i : Int) ((0 : Nat) : Int) a c d e f c[i].f0 c[i].f1 c[i].f2 c[i].f3.f0 c[i].f3.f1 c[i].f3.f2 c[i].f3.f3) else (some 30))) (fun k => ?_) (Ev.bind (name_ref _ hwi.1) ?_)
   ·simp only [vellumref03_columns.l0]
    rw [if_pos (by omega), if_pos (by omega), rd105_eq hlt]
    rfl
   cases hn : nameOk c[i].f0 with
   | false => exact Ev.neg (by decide) (by rw [if_pos rfl]; exact Ev.pure)
   | true =>
    rw [if_neg (by decide)]
    refine Ev.pos rfl ?_
    have hii := ih (i + 1) (by omega)
    have ht : c.take (i + 1) = c.take i ++ [c[i]] := by rw [List.take_succ_eq_append_getElem hlt]
    rw [ht] at hii
    have := inner i hlt _ hii i 0 (by omega)
    simpa using this
 have := hloop c.length 0 (by omega)
 simpa [vellumref03_columns.f] using this
theorem indexes_ev (a : ByteArray) (c : List S105) (d : List Int) (e : List S115) (f : List S139) (hl : e.length < 9223372036854775807) (hw : ∀ x ∈ e, wfX x) : Ev (fun k => vellumref03_indexes.f k a c d e f) (idxErrs c.length [] e) := by
 have inner : ∀ (i : Nat) (hlt : i < e.length) (b : Int), Ev (fun k => vellumref03_indexes.l0 k ((i + 1 : Nat) : Int) a c d e f) b → ∀ (m j : Nat), j + m = i →
   Ev (fun k => vellumref03_indexes.l1 k (i : Int) (j : Int) a c d e f e[i].f0 e[i].f1 e[i].f2)
    (if ((e.take i).drop j).any (fun x => x.f0.toList == e[i].f0.toList) = true then 31 else if colsOk c.length e[i].f1 = false then 33 else b) := by
  intro i hlt b hb m
  have hwi := hw e[i] (List.getElem_mem hlt)
  induction m with
  | zero =>
   intro j hj
   obtain rfl : j = i := by omega
   rw [List.drop_of_length_le (by simp; omega), if_neg (by simp)]
   refine Ev.step (g := fun k => (vellumref03_some.f k a c d e f e[j].f1).bind fun t644 => (if t644 = true then (vellumref03_indexes.l0 k ((j + 1 : Nat) : Int) a c d e f) else (some 33))) (fun k => ?_) (Ev.bind (some_ev a c d e f e[j].f1 hwi.2) ?_)
   ·simp only [vellumref03_indexes.l1]
    rw [if_neg (by omega), wrap64_id (by omega) (by omega)]
    rfl
   ·cases hc : colsOk c.length e[j].f1 with
    | false => exact Ev.neg (by decide) (by rw [if_pos rfl]; exact Ev.pure)
    | true => exact Ev.pos rfl (by rw [if_neg (by decide)]; exact hb)
  | succ m ih =>
   intro j hj
   have hjl : j < e.length := by omega
   have hd : (e.take i).drop j = e[j] :: (e.take i).drop (j + 1) := by
    rw [List.drop_eq_getElem_cons (by simp; omega)]
    simp
   refine Ev.step (g := fun k => if e[j].f0.toList = e[i].f0.toList then some 31 else vellumref03_indexes.l1 k (i : Int) ((j + 1 : Nat) : Int) a c d e f e[i].f0 e[i].f1 e[i].f2) (fun k => ?_) ?_
   ·simp only [vellumref03_indexes.l1]
    rw [if_pos (by omega), if_pos (by omega), if_pos (by omega), rd115_eq hjl, wrap64_id (by omega) (by omega)]
    rfl
   ·rw [hd]
    by_cases h : e[j].f0.toList = e[i].f0.toList
    ·refine Ev.pos h ?_
     rw [if_pos (by simp [h])]
     exact Ev.pure
    ·refine Ev.neg h ?_
     have := ih (j + 1) (by omega)
     have e2 : (e[j] :: (e.take i).drop (j + 1)).any (fun x => x.f0.toList == e[i].f0.toList) = ((e.take i).drop (j + 1)).any (fun x => x.f0.toList == e[i].f0.toList) := by
      rw [List.any_cons]; simp [h]
     rw [e2]; exact this
 have hloop : ∀ (m i : Nat), i + m = e.length → Ev (fun k => vellumref03_indexes.l0 k (i : Int) a c d e f) (idxErrs c.length (e.take i) (e.drop i)) := by
  intro m
  induction m with
  | zero =>
   intro i hi
   rw [List.drop_of_length_le (by omega)]
   refine Ev.from_ 1 fun k => ?_
   simp only [vellumref03_indexes.l0]
   rw [if_neg (by omega)]; rfl
  | succ m ih =>
   intro i hi
   have hlt : i < e.length := by omega
   have hwi := hw e[i] (List.getElem_mem hlt)
   rw [List.drop_eq_getElem_cons hlt]
   simp only [idxErrs]
   refine Ev.step (g := fun k => (vellumref03_Name.f k e[i].f0).bind fun t642 => (if t642 = true then (vellumref03_indexes.l1 k (i : Int) ((0 : Nat) : Int) a c d e f e[i].f0 e[i].f1 e[i].f2) else (some 30))) (fun k => ?_) (Ev.bind (name_ref _ hwi.1) ?_)
   ·simp only [vellumref03_indexes.l0]
    rw [if_pos (by omega), if_pos (by omega), rd115_eq hlt]
    rfl
   cases hn : nameOk e[i].f0 with
   | false => exact Ev.neg (by decide) (by rw [if_pos rfl]; exact Ev.pure)
   | true =>
    rw [if_neg (by decide)]
    refine Ev.pos rfl ?_
    have hii := ih (i + 1) (by omega)
    have ht : e.take (i + 1) = e.take i ++ [e[i]] := by rw [List.take_succ_eq_append_getElem hlt]
    rw [ht] at hii
    have := inner i hlt _ hii i 0 (by omega)
    simpa using this
 have := hloop e.length 0 (by omega)
 simpa [vellumref03_indexes.f] using this
theorem keyloop_ev (a : ByteArray) (c : List S105) (d : List Int) (e : List S115) (f : List S139) (hd : d.length < 9223372036854775807) (hk : colsOk c.length d = true) (b : Int) (hb : Ev (fun k => (vellumref03_indexes.f k a c d e f).bind fun t651 => (if t651 = 0 then (vellumref03_Check.l1 k 0 a c d e f) else (some t651))) b) :
  Ev (fun k => vellumref03_Check.l0 k 0 a c d e f) (if d.any (fun k => (rd_T105 c k).f2) = true then 33 else b) := by
 have hloop : ∀ (m i : Nat), i + m = d.length → Ev (fun k => vellumref03_Check.l0 k (i : Int) a c d e f) (if (d.drop i).any (fun k => (rd_T105 c k).f2) = true then 33 else b) := by
  intro m
  induction m with
  | zero =>
   intro i hi
   rw [List.drop_of_length_le (by omega), if_neg (by simp)]
   refine Ev.step (g := fun k => (vellumref03_indexes.f k a c d e f).bind fun t651 => (if t651 = 0 then (vellumref03_Check.l1 k 0 a c d e f) else (some t651))) (fun k => ?_) hb
   simp only [vellumref03_Check.l0]
   rw [if_neg (by omega)]
  | succ m ih =>
   intro i hi
   have hlt : i < d.length := by omega
   have hr := colsOk_mem hk (List.getElem_mem hlt)
   rw [List.drop_eq_getElem_cons hlt]
   refine Ev.step (g := fun k => if (rd_T105 c d[i]).f2 = true then some 33 else vellumref03_Check.l0 k ((i + 1 : Nat) : Int) a c d e f) (fun k => ?_) ?_
   ·simp only [vellumref03_Check.l0]
    rw [if_pos (by omega), if_pos (by omega), rd_getI d i hlt, if_pos hr.1, if_pos hr.2, wrap64_id (by omega) (by omega)]
    rfl
   ·cases h : (rd_T105 c d[i]).f2 with
    | true =>
     refine Ev.pos rfl ?_
     rw [if_pos (by rw [List.any_cons, h]; rfl)]
     exact Ev.pure
    | false =>
     refine Ev.neg (by decide) ?_
     have e2 : (d[i] :: d.drop (i + 1)).any (fun k => (rd_T105 c k).f2) = (d.drop (i + 1)).any (fun k => (rd_T105 c k).f2) := by rw [List.any_cons, h]; rfl
     rw [e2]
     exact ih (i + 1) (by omega)
 have := hloop d.length 0 (by omega)
 simpa using this
theorem refs_ev (a : ByteArray) (c : List S105) (d : List Int) (e : List S115) (f : List S139) (hl : f.length < 9223372036854775807) (hw : ∀ x ∈ f, wfR x) : Ev (fun k => vellumref03_Check.l1 k 0 a c d e f) (refErrs c.length f) := by
 have hloop : ∀ (m i : Nat), i + m = f.length → Ev (fun k => vellumref03_Check.l1 k (i : Int) a c d e f) (refErrs c.length (f.drop i)) := by
  intro m
  induction m with
  | zero =>
   intro i hi
   rw [List.drop_of_length_le (by omega)]
   refine Ev.from_ 1 fun k => ?_
   simp only [vellumref03_Check.l1]
   rw [if_neg (by omega)]; rfl
  | succ m ih =>
   intro i hi
   have hlt : i < f.length := by omega
   have hwi := hw f[i] (List.getElem_mem hlt)
   rw [List.drop_eq_getElem_cons hlt]
   simp only [refErrs]
   refine Ev.step (g := fun k => (vellumref03_Name.f k f[i].f1).bind fun t653 => (if t653 = true then ((vellumref03_some.f k a c d e f f[i].f0).bind fun t655 => (if t655 = true then (vellumref03_Check.l1 k ((i + 1 : Nat) : Int) a c d e f) else (some 33))) else (some 30))) (fun k => ?_) (Ev.bind (name_ref _ hwi.1) ?_)
   ·simp only [vellumref03_Check.l1]
    rw [if_pos (by omega), if_pos (by omega), rd139_eq hlt, wrap64_id (by omega) (by omega)]
    rfl
   cases hn : nameOk f[i].f1 with
   | false => exact Ev.neg (by decide) (by rw [if_pos rfl]; exact Ev.pure)
   | true =>
    rw [if_neg (by decide)]
    refine Ev.pos rfl (Ev.bind (some_ev a c d e f f[i].f0 hwi.2) ?_)
    cases hc : colsOk c.length f[i].f0 with
    | false => exact Ev.neg (by decide) (by rw [if_pos rfl]; exact Ev.pure)
    | true => exact Ev.pos rfl (by rw [if_neg (by decide)]; exact ih (i + 1) (by omega))
 have := hloop f.length 0 (by omega)
 simpa using this
theorem tcheck_ev (a : ByteArray) (c : List S105) (d : List Int) (e : List S115) (f : List S139) (hw : WfT a c d e f) (hc : c.length < 9223372036854775807) (he : e.length < 9223372036854775807) (hf : f.length < 9223372036854775807) : Ev (fun k => vellumref03_Check.f k a c d e f) (checkT a c d e f) := by
 have hj : ∀ b : Bool, Ev (fun k => vellumref03_Check.j0 k b a c d e f) (if b = true then 2 else if colErrs [] c ≠ 0 then colErrs [] c else if colsOk c.length d = false then 33 else if d.any (fun k => (rd_T105 c k).f2) = true then 33 else if idxErrs c.length [] e ≠ 0 then idxErrs c.length [] e else refErrs c.length f) := by
  intro b
  cases b with
  | true =>
   refine Ev.from_ 1 fun k => ?_
   simp [vellumref03_Check.j0]
  | false =>
   refine Ev.step (g := fun k => (vellumref03_columns.f k a c d e f).bind fun t647 => (if t647 = 0 then ((vellumref03_some.f k a c d e f d).bind fun t648 => (if t648 = true then (vellumref03_Check.l0 k 0 a c d e f) else (some 33))) else (some t647))) (fun k => ?_) (Ev.bind (columns_ev a c d e f hc hw.cols) ?_)
   ·simp only [vellumref03_Check.j0]; rw [if_neg (by decide)]
   rw [if_neg (by decide)]
   by_cases h1 : colErrs [] c = 0
   ·rw [if_neg (by simp [h1])]
    refine Ev.pos h1 (Ev.bind (some_ev a c d e f d hw.key) ?_)
    cases hk : colsOk c.length d with
    | false => exact Ev.neg (by decide) (by rw [if_pos rfl]; exact Ev.pure)
    | true =>
     rw [if_neg (by decide)]
     refine Ev.pos rfl (keyloop_ev a c d e f hw.key hk _ (Ev.bind (indexes_ev a c d e f he hw.idx) ?_))
     by_cases h2 : idxErrs c.length [] e = 0
     ·rw [if_neg (by simp [h2])]
      exact Ev.pos h2 (refs_ev a c d e f hf hw.refs)
     ·rw [if_pos h2]
      exact Ev.neg h2 Ev.pure
   ·rw [if_pos h1]
    exact Ev.neg h1 Ev.pure
 simp only [vellumref03_Check.f]
 unfold checkT
 refine Ev.bind (name_ref a hw.name) ?_
 cases hn : nameOk a with
 | false => exact Ev.neg (by decide) (by rw [if_pos rfl]; exact Ev.pure)
 | true =>
  rw [if_neg (by decide)]
  refine Ev.pos rfl ?_
  by_cases h1 : (c.length : Int) < 1
  ·refine Ev.pos h1 ?_
   rw [if_pos (.inl (by omega))]
   simpa using hj true
  refine Ev.neg h1 ?_
  by_cases h2 : (c.length : Int) > 64
  ·refine Ev.pos h2 ?_
   rw [if_pos (.inr (.inl (by omega)))]
   simpa using hj true
  refine Ev.neg h2 ?_
  by_cases h3 : (e.length : Int) > 16
  ·refine Ev.pos h3 ?_
   rw [if_pos (.inr (.inr (.inl (by omega))))]
   simpa using hj true
  refine Ev.neg h3 ?_
  by_cases h4 : (f.length : Int) > 16
  ·rw [decide_eq_true h4, if_pos (.inr (.inr (.inr (by omega))))]
   simpa using hj true
  ·rw [decide_eq_false h4, if_neg (by omega)]
   have := hj false
   rwa [if_neg (by decide)] at this
theorem admits_ev (a : ByteArray) (c : List S105) (d : List Int) (e : List S115) (f : List S139) (row : List S50) (hw : WfT a c d e f) (hc : c.length < 9223372036854775807) (he : e.length < 9223372036854775807) (hf : f.length < 9223372036854775807) (hrow : row.length < 9223372036854775807) (hv : ∀ v ∈ row, v.f3.size ≤ 140737488351232) :
  Ev (fun k => vellumref03_Admits.f k a c d e f row) (admT a c d e f row) := by
 have hloop : row.length = c.length → ∀ (m i : Nat), i + m = row.length → Ev (fun k => vellumref03_Admits.l0 k row (i : Int) a c d e f) (admRow (c.drop i) (row.drop i)) := by
  intro hlen m
  induction m with
  | zero =>
   intro i hi
   rw [List.drop_of_length_le (l := c) (by omega)]
   refine Ev.from_ 1 fun k => ?_
   simp only [vellumref03_Admits.l0]
   rw [if_neg (by omega)]; simp [admRow]
  | succ m ih =>
   intro i hi
   have hlt : i < row.length := by omega
   have hltc : i < c.length := by omega
   have hic : (i : Int) < (c.length : Int) := by omega
   have hx : row[i]? = some row[i] := List.getElem?_eq_getElem hlt
   have hvi := hv row[i] (List.getElem_mem hlt)
   rw [List.drop_eq_getElem_cons hlt, List.drop_eq_getElem_cons hltc]
   simp only [admRow]
   have ih' := ih (i + 1) (by omega)
   refine Ev.step (g := fun k => (vellumref01_Check.f k row[i].f0 row[i].f1 row[i].f2 row[i].f3).bind fun t659 => (if t659 = 0 then (if row[i].f0 = 0 then (if (c[i].f2 = true) then (vellumref03_Admits.l0 k row ((i + 1 : Nat) : Int) a c d e f) else (some 35)) else (if row[i].f0 = c[i].f1 then (vellumref03_Admits.l0 k row ((i + 1 : Nat) : Int) a c d e f) else (some 32))) else (some t659))) (fun k => ?_) (Ev.bind (Ev.from_ 6 fun k => check_ref k _ _ _ _ hvi) ?_)
   ·simp only [vellumref03_Admits.l0]
    rw [if_pos (by omega), if_pos (by omega), rd_get row i _ hx, rd105_eq hltc, if_pos hic, if_pos hic, wrap64_id (by omega) (by omega)]
    rfl
   ·generalize chk row[i].f0 row[i].f1 row[i].f2 row[i].f3 = r
    by_cases h0 : r = 0
    ·subst h0
     rw [if_neg (by simp)]
     refine Ev.pos rfl ?_
     by_cases h1 : row[i].f0 = 0
     ·rw [if_pos h1]
      refine Ev.pos h1 ?_
      by_cases h2 : c[i].f2 = true
      ·rw [if_pos h2]; exact Ev.pos h2 ih'
      ·rw [if_neg h2]; exact Ev.neg h2 Ev.pure
     ·rw [if_neg h1]
      refine Ev.neg h1 ?_
      by_cases h2 : row[i].f0 = c[i].f1
      ·rw [if_pos h2]; exact Ev.pos h2 ih'
      ·rw [if_neg h2]; exact Ev.neg h2 Ev.pure
    ·rw [if_pos h0]
     exact Ev.neg h0 Ev.pure
 simp only [vellumref03_Admits.f]
 unfold admT
 refine Ev.bind (tcheck_ev a c d e f hw hc he hf) ?_
 by_cases h0 : checkT a c d e f = 0
 ·rw [if_neg (by simp [h0])]
  refine Ev.pos h0 ?_
  by_cases h1 : row.length = c.length
  ·rw [if_neg (by simp [h1])]
   refine Ev.pos (by omega) ?_
   have := hloop h1 row.length 0 (by omega)
   simpa using this
  ·rw [if_pos h1]
   exact Ev.neg (by omega) Ev.pure
 ·rw [if_pos h0]
  exact Ev.neg h0 Ev.pure
end Go.Proofs.YtpiifdbicibelaaDoor.Pure
end
